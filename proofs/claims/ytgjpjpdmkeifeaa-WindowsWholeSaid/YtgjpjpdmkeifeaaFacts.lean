/- Closed facts on the types of this seat: printed by a program of ours. -/
import Derived.Test.YtgjpjpdmkeifeaaReg
import Derived.Test.YtgjpjpdmkeifeaaProg
namespace Go.Proofs.Ytgjpjpdmkeifeaa
open Go Go.Dd

theorem mixed : Try.prog.follows .mixedOrders = true := by kernel_rfl
theorem us_1 : (Try.prog.underlying 1).isSome = true := by rw [Try.underlying1]; rfl
theorem ag_1 (w : World) : (isAgg 1).run Try.prog w = .ok false w := Try.isAgg1 w
theorem sz_1 (w : World) : (sizeOf 1).run Try.prog w = .ok 1 w := Try.sizeOf1 w
theorem it_1 : ITy Try.prog 1 [.nilFunc] 8 := ⟨⟨_, (show Try.prog.info? 1 = some Try.t1 by kernel_rfl), rfl, rfl, _, rfl, rfl⟩⟩
theorem un_2 : Try.prog.underlying 2 = some (.int .i64) := Try.underlying2
theorem us_2 : (Try.prog.underlying 2).isSome = true := by rw [un_2]; rfl
theorem ag_2 (w : World) : (isAgg 2).run Try.prog w = .ok false w := Try.isAgg2 w
theorem sz_2 (w : World) : (sizeOf 2).run Try.prog w = .ok 1 w := Try.sizeOf2 w
theorem it_2 : ITy Try.prog 2 [.int .i64 0] 8 := ⟨⟨_, (show Try.prog.info? 2 = some Try.t2 by kernel_rfl), rfl, rfl, _, rfl, rfl⟩⟩
theorem un_3 : Try.prog.underlying 3 = some (.int .i64) := Try.underlying3
theorem us_3 : (Try.prog.underlying 3).isSome = true := by rw [un_3]; rfl
theorem ag_3 (w : World) : (isAgg 3).run Try.prog w = .ok false w := Try.isAgg3 w
theorem sz_3 (w : World) : (sizeOf 3).run Try.prog w = .ok 1 w := Try.sizeOf3 w
theorem it_3 : ITy Try.prog 3 [.int .i64 0] 8 := ⟨⟨_, (show Try.prog.info? 3 = some Try.t3 by kernel_rfl), rfl, rfl, _, rfl, rfl⟩⟩
theorem un_4 : Try.prog.underlying 4 = some (.bool) := Try.underlying4
theorem us_4 : (Try.prog.underlying 4).isSome = true := by rw [un_4]; rfl
theorem ag_4 (w : World) : (isAgg 4).run Try.prog w = .ok false w := Try.isAgg4 w
theorem sz_4 (w : World) : (sizeOf 4).run Try.prog w = .ok 1 w := Try.sizeOf4 w
theorem it_4 : ITy Try.prog 4 [.bool false] 1 := ⟨⟨_, (show Try.prog.info? 4 = some Try.t4 by kernel_rfl), rfl, rfl, _, rfl, rfl⟩⟩
theorem un_5 : Try.prog.underlying 5 = some (.int .u8) := Try.underlying5
theorem us_5 : (Try.prog.underlying 5).isSome = true := by rw [un_5]; rfl
theorem ag_5 (w : World) : (isAgg 5).run Try.prog w = .ok false w := Try.isAgg5 w
theorem sz_5 (w : World) : (sizeOf 5).run Try.prog w = .ok 1 w := Try.sizeOf5 w
theorem it_5 : ITy Try.prog 5 [.int .u8 0] 1 := ⟨⟨_, (show Try.prog.info? 5 = some Try.t5 by kernel_rfl), rfl, rfl, _, rfl, rfl⟩⟩
theorem un_6 : Try.prog.underlying 6 = some (.int .u8) := Try.underlying6
theorem us_6 : (Try.prog.underlying 6).isSome = true := by rw [un_6]; rfl
theorem ag_6 (w : World) : (isAgg 6).run Try.prog w = .ok false w := Try.isAgg6 w
theorem sz_6 (w : World) : (sizeOf 6).run Try.prog w = .ok 1 w := Try.sizeOf6 w
theorem it_6 : ITy Try.prog 6 [.int .u8 0] 1 := ⟨⟨_, (show Try.prog.info? 6 = some Try.t6 by kernel_rfl), rfl, rfl, _, rfl, rfl⟩⟩
theorem us_7 : (Try.prog.underlying 7).isSome = true := by rw [Try.underlying7]; rfl
theorem ag_7 (w : World) : (isAgg 7).run Try.prog w = .ok true w := Try.isAgg7 w
theorem sz_7 (w : World) : (sizeOf 7).run Try.prog w = .ok 4 w := Try.sizeOf7 w
theorem it_7 : ITy Try.prog 7 [.int .i64 0, .int .i64 0, .bool false, .int .u8 0] 24 := ⟨⟨_, (show Try.prog.info? 7 = some Try.t7 by kernel_rfl), rfl, rfl, _, rfl, rfl⟩⟩
theorem us_8 : (Try.prog.underlying 8).isSome = true := by rw [Try.underlying8]; rfl
theorem ag_8 (w : World) : (isAgg 8).run Try.prog w = .ok true w := Try.isAgg8 w
theorem sz_8 (w : World) : (sizeOf 8).run Try.prog w = .ok 4 w := Try.sizeOf8 w
theorem it_8 : ITy Try.prog 8 [.int .i64 0, .int .i64 0, .bool false, .int .u8 0] 24 := ⟨⟨_, (show Try.prog.info? 8 = some Try.t8 by kernel_rfl), rfl, rfl, _, rfl, rfl⟩⟩
theorem un_9 : Try.prog.underlying 9 = some (.string) := Try.underlying9
theorem us_9 : (Try.prog.underlying 9).isSome = true := by rw [un_9]; rfl
theorem ag_9 (w : World) : (isAgg 9).run Try.prog w = .ok false w := Try.isAgg9 w
theorem sz_9 (w : World) : (sizeOf 9).run Try.prog w = .ok 1 w := Try.sizeOf9 w
theorem it_9 : ITy Try.prog 9 [.string ⟨#[]⟩] 16 := ⟨⟨_, (show Try.prog.info? 9 = some Try.t9 by kernel_rfl), rfl, rfl, _, rfl, rfl⟩⟩
theorem un_10 : Try.prog.underlying 10 = some (.string) := Try.underlying10
theorem us_10 : (Try.prog.underlying 10).isSome = true := by rw [un_10]; rfl
theorem ag_10 (w : World) : (isAgg 10).run Try.prog w = .ok false w := Try.isAgg10 w
theorem sz_10 (w : World) : (sizeOf 10).run Try.prog w = .ok 1 w := Try.sizeOf10 w
theorem it_10 : ITy Try.prog 10 [.string ⟨#[]⟩] 16 := ⟨⟨_, (show Try.prog.info? 10 = some Try.t10 by kernel_rfl), rfl, rfl, _, rfl, rfl⟩⟩
theorem un_11 : Try.prog.underlying 11 = some (.string) := Try.underlying11
theorem us_11 : (Try.prog.underlying 11).isSome = true := by rw [un_11]; rfl
theorem ag_11 (w : World) : (isAgg 11).run Try.prog w = .ok false w := Try.isAgg11 w
theorem sz_11 (w : World) : (sizeOf 11).run Try.prog w = .ok 1 w := Try.sizeOf11 w
theorem it_11 : ITy Try.prog 11 [.string ⟨#[]⟩] 16 := ⟨⟨_, (show Try.prog.info? 11 = some Try.t11 by kernel_rfl), rfl, rfl, _, rfl, rfl⟩⟩
theorem un_12 : Try.prog.underlying 12 = some (.int .u64) := Try.underlying12
theorem us_12 : (Try.prog.underlying 12).isSome = true := by rw [un_12]; rfl
theorem ag_12 (w : World) : (isAgg 12).run Try.prog w = .ok false w := Try.isAgg12 w
theorem sz_12 (w : World) : (sizeOf 12).run Try.prog w = .ok 1 w := Try.sizeOf12 w
theorem it_12 : ITy Try.prog 12 [.int .u64 0] 8 := ⟨⟨_, (show Try.prog.info? 12 = some Try.t12 by kernel_rfl), rfl, rfl, _, rfl, rfl⟩⟩
theorem us_13 : (Try.prog.underlying 13).isSome = true := by rw [Try.underlying13]; rfl
theorem ag_13 (w : World) : (isAgg 13).run Try.prog w = .ok true w := Try.isAgg13 w
theorem sz_13 (w : World) : (sizeOf 13).run Try.prog w = .ok 2 w := Try.sizeOf13 w
theorem it_13 : ITy Try.prog 13 [.string ⟨#[]⟩, .int .u64 0] 24 := ⟨⟨_, (show Try.prog.info? 13 = some Try.t13 by kernel_rfl), rfl, rfl, _, rfl, rfl⟩⟩
theorem us_14 : (Try.prog.underlying 14).isSome = true := by rw [Try.underlying14]; rfl
theorem ag_14 (w : World) : (isAgg 14).run Try.prog w = .ok true w := Try.isAgg14 w
theorem sz_14 (w : World) : (sizeOf 14).run Try.prog w = .ok 2 w := Try.sizeOf14 w
theorem it_14 : ITy Try.prog 14 [.string ⟨#[]⟩, .int .u64 0] 24 := ⟨⟨_, (show Try.prog.info? 14 = some Try.t14 by kernel_rfl), rfl, rfl, _, rfl, rfl⟩⟩
theorem un_15 : Try.prog.underlying 15 = some (.pointer 75) := Try.underlying15
theorem us_15 : (Try.prog.underlying 15).isSome = true := by rw [un_15]; rfl
theorem ag_15 (w : World) : (isAgg 15).run Try.prog w = .ok false w := Try.isAgg15 w
theorem sz_15 (w : World) : (sizeOf 15).run Try.prog w = .ok 1 w := Try.sizeOf15 w
theorem it_15 : ITy Try.prog 15 [.pointer none] 8 := ⟨⟨_, (show Try.prog.info? 15 = some Try.t15 by kernel_rfl), rfl, rfl, _, rfl, rfl⟩⟩
theorem un_16 : Try.prog.underlying 16 = some (.pointer 78) := Try.underlying16
theorem us_16 : (Try.prog.underlying 16).isSome = true := by rw [un_16]; rfl
theorem ag_16 (w : World) : (isAgg 16).run Try.prog w = .ok false w := Try.isAgg16 w
theorem sz_16 (w : World) : (sizeOf 16).run Try.prog w = .ok 1 w := Try.sizeOf16 w
theorem it_16 : ITy Try.prog 16 [.pointer none] 8 := ⟨⟨_, (show Try.prog.info? 16 = some Try.t16 by kernel_rfl), rfl, rfl, _, rfl, rfl⟩⟩
theorem un_17 : Try.prog.underlying 17 = some (.pointer 88) := Try.underlying17
theorem us_17 : (Try.prog.underlying 17).isSome = true := by rw [un_17]; rfl
theorem ag_17 (w : World) : (isAgg 17).run Try.prog w = .ok false w := Try.isAgg17 w
theorem sz_17 (w : World) : (sizeOf 17).run Try.prog w = .ok 1 w := Try.sizeOf17 w
theorem it_17 : ITy Try.prog 17 [.pointer none] 8 := ⟨⟨_, (show Try.prog.info? 17 = some Try.t17 by kernel_rfl), rfl, rfl, _, rfl, rfl⟩⟩
theorem us_18 : (Try.prog.underlying 18).isSome = true := by rw [Try.underlying18]; rfl
theorem ag_18 (w : World) : (isAgg 18).run Try.prog w = .ok true w := Try.isAgg18 w
theorem sz_18 (w : World) : (sizeOf 18).run Try.prog w = .ok 1 w := Try.sizeOf18 w
theorem it_18 : ITy Try.prog 18 [.pointer none] 8 := ⟨⟨_, (show Try.prog.info? 18 = some Try.t18 by kernel_rfl), rfl, rfl, _, rfl, rfl⟩⟩
theorem us_19 : (Try.prog.underlying 19).isSome = true := by rw [Try.underlying19]; rfl
theorem ag_19 (w : World) : (isAgg 19).run Try.prog w = .ok true w := Try.isAgg19 w
theorem sz_19 (w : World) : (sizeOf 19).run Try.prog w = .ok 1 w := Try.sizeOf19 w
theorem it_19 : ITy Try.prog 19 [.pointer none] 8 := ⟨⟨_, (show Try.prog.info? 19 = some Try.t19 by kernel_rfl), rfl, rfl, _, rfl, rfl⟩⟩
theorem un_21 : Try.prog.underlying 21 = some (.int .i32) := Try.underlying21
theorem us_21 : (Try.prog.underlying 21).isSome = true := by rw [un_21]; rfl
theorem ag_21 (w : World) : (isAgg 21).run Try.prog w = .ok false w := Try.isAgg21 w
theorem sz_21 (w : World) : (sizeOf 21).run Try.prog w = .ok 1 w := Try.sizeOf21 w
theorem it_21 : ITy Try.prog 21 [.int .i32 0] 4 := ⟨⟨_, (show Try.prog.info? 21 = some Try.t21 by kernel_rfl), rfl, rfl, _, rfl, rfl⟩⟩
theorem st_22 : STy Try.prog 22 3 1 := ⟨Try.underlying22, Try.sizeOf3⟩
theorem un_22 : Try.prog.underlying 22 = some (.slice 3) := Try.underlying22
theorem us_22 : (Try.prog.underlying 22).isSome = true := by rw [un_22]; rfl
theorem ag_22 (w : World) : (isAgg 22).run Try.prog w = .ok false w := Try.isAgg22 w
theorem sz_22 (w : World) : (sizeOf 22).run Try.prog w = .ok 1 w := Try.sizeOf22 w
theorem it_22 : ITy Try.prog 22 [.slice none 0 0] 24 := ⟨⟨_, (show Try.prog.info? 22 = some Try.t22 by kernel_rfl), rfl, rfl, _, rfl, rfl⟩⟩
theorem st_23 : STy Try.prog 23 21 1 := ⟨Try.underlying23, Try.sizeOf21⟩
theorem un_23 : Try.prog.underlying 23 = some (.slice 21) := Try.underlying23
theorem us_23 : (Try.prog.underlying 23).isSome = true := by rw [un_23]; rfl
theorem ag_23 (w : World) : (isAgg 23).run Try.prog w = .ok false w := Try.isAgg23 w
theorem sz_23 (w : World) : (sizeOf 23).run Try.prog w = .ok 1 w := Try.sizeOf23 w
theorem it_23 : ITy Try.prog 23 [.slice none 0 0] 24 := ⟨⟨_, (show Try.prog.info? 23 = some Try.t23 by kernel_rfl), rfl, rfl, _, rfl, rfl⟩⟩
theorem us_24 : (Try.prog.underlying 24).isSome = true := by rw [Try.underlying24]; rfl
theorem ag_24 (w : World) : (isAgg 24).run Try.prog w = .ok true w := Try.isAgg24 w
theorem sz_24 (w : World) : (sizeOf 24).run Try.prog w = .ok 2 w := Try.sizeOf24 w
theorem it_24 : ITy Try.prog 24 [.slice none 0 0, .slice none 0 0] 48 := ⟨⟨_, (show Try.prog.info? 24 = some Try.t24 by kernel_rfl), rfl, rfl, _, rfl, rfl⟩⟩
theorem us_25 : (Try.prog.underlying 25).isSome = true := by rw [Try.underlying25]; rfl
theorem ag_25 (w : World) : (isAgg 25).run Try.prog w = .ok true w := Try.isAgg25 w
theorem sz_25 (w : World) : (sizeOf 25).run Try.prog w = .ok 2 w := Try.sizeOf25 w
theorem it_25 : ITy Try.prog 25 [.slice none 0 0, .slice none 0 0] 48 := ⟨⟨_, (show Try.prog.info? 25 = some Try.t25 by kernel_rfl), rfl, rfl, _, rfl, rfl⟩⟩
theorem un_26 : Try.prog.underlying 26 = some (.array 2 5) := Try.underlying26
theorem us_26 : (Try.prog.underlying 26).isSome = true := by rw [un_26]; rfl
theorem ag_26 (w : World) : (isAgg 26).run Try.prog w = .ok true w := Try.isAgg26 w
theorem sz_26 (w : World) : (sizeOf 26).run Try.prog w = .ok 2 w := Try.sizeOf26 w
theorem it_26 : ITy Try.prog 26 [.int .u8 0, .int .u8 0] 2 := ⟨⟨_, (show Try.prog.info? 26 = some Try.t26 by kernel_rfl), rfl, rfl, _, rfl, rfl⟩⟩
theorem un_33 : Try.prog.underlying 33 = some (.int .i64) := Try.underlying33
theorem us_33 : (Try.prog.underlying 33).isSome = true := by rw [un_33]; rfl
theorem ag_33 (w : World) : (isAgg 33).run Try.prog w = .ok false w := Try.isAgg33 w
theorem sz_33 (w : World) : (sizeOf 33).run Try.prog w = .ok 1 w := Try.sizeOf33 w
theorem it_33 : ITy Try.prog 33 [.int .i64 0] 8 := ⟨⟨_, (show Try.prog.info? 33 = some Try.t33 by kernel_rfl), rfl, rfl, _, rfl, rfl⟩⟩
theorem us_41 : (Try.prog.underlying 41).isSome = true := by rw [Try.underlying41]; rfl
theorem ag_41 (w : World) : (isAgg 41).run Try.prog w = .ok true w := Try.isAgg41 w
theorem sz_41 (w : World) : (sizeOf 41).run Try.prog w = .ok 7 w := Try.sizeOf41 w
theorem it_41 : ITy Try.prog 41 [.slice none 0 0, .slice none 0 0, .slice none 0 0, .slice none 0 0, .int .i64 0, .int .i64 0, .int .i64 0] 120 := ⟨⟨_, (show Try.prog.info? 41 = some Try.t41 by kernel_rfl), rfl, rfl, _, rfl, rfl⟩⟩
theorem us_42 : (Try.prog.underlying 42).isSome = true := by rw [Try.underlying42]; rfl
theorem ag_42 (w : World) : (isAgg 42).run Try.prog w = .ok true w := Try.isAgg42 w
theorem sz_42 (w : World) : (sizeOf 42).run Try.prog w = .ok 7 w := Try.sizeOf42 w
theorem it_42 : ITy Try.prog 42 [.slice none 0 0, .slice none 0 0, .slice none 0 0, .slice none 0 0, .int .i64 0, .int .i64 0, .int .i64 0] 120 := ⟨⟨_, (show Try.prog.info? 42 = some Try.t42 by kernel_rfl), rfl, rfl, _, rfl, rfl⟩⟩
theorem us_56 : (Try.prog.underlying 56).isSome = true := by rw [Try.underlying56]; rfl
theorem ag_56 (w : World) : (isAgg 56).run Try.prog w = .ok false w := Try.isAgg56 w
theorem sz_56 (w : World) : (sizeOf 56).run Try.prog w = .ok 1 w := Try.sizeOf56 w
theorem it_56 : ITy Try.prog 56 [.nilFunc] 8 := ⟨⟨_, (show Try.prog.info? 56 = some Try.t56 by kernel_rfl), rfl, rfl, _, rfl, rfl⟩⟩
theorem us_57 : (Try.prog.underlying 57).isSome = true := by rw [Try.underlying57]; rfl
theorem ag_57 (w : World) : (isAgg 57).run Try.prog w = .ok true w := Try.isAgg57 w
theorem sz_57 (w : World) : (sizeOf 57).run Try.prog w = .ok 3 w := Try.sizeOf57 w
theorem it_57 : ITy Try.prog 57 [.slice none 0 0, .int .i64 0, .int .i64 0] 40 := ⟨⟨_, (show Try.prog.info? 57 = some Try.t57 by kernel_rfl), rfl, rfl, _, rfl, rfl⟩⟩
theorem us_58 : (Try.prog.underlying 58).isSome = true := by rw [Try.underlying58]; rfl
theorem ag_58 (w : World) : (isAgg 58).run Try.prog w = .ok true w := Try.isAgg58 w
theorem sz_58 (w : World) : (sizeOf 58).run Try.prog w = .ok 3 w := Try.sizeOf58 w
theorem it_58 : ITy Try.prog 58 [.slice none 0 0, .int .i64 0, .int .i64 0] 40 := ⟨⟨_, (show Try.prog.info? 58 = some Try.t58 by kernel_rfl), rfl, rfl, _, rfl, rfl⟩⟩
theorem us_60 : (Try.prog.underlying 60).isSome = true := by rw [Try.underlying60]; rfl
theorem ag_60 (w : World) : (isAgg 60).run Try.prog w = .ok false w := Try.isAgg60 w
theorem sz_60 (w : World) : (sizeOf 60).run Try.prog w = .ok 1 w := Try.sizeOf60 w
theorem it_60 : ITy Try.prog 60 [.nilFunc] 8 := ⟨⟨_, (show Try.prog.info? 60 = some Try.t60 by kernel_rfl), rfl, rfl, _, rfl, rfl⟩⟩
theorem us_62 : (Try.prog.underlying 62).isSome = true := by rw [Try.underlying62]; rfl
theorem ag_62 (w : World) : (isAgg 62).run Try.prog w = .ok true w := Try.isAgg62 w
theorem sz_62 (w : World) : (sizeOf 62).run Try.prog w = .ok 3 w := Try.sizeOf62 w
theorem it_62 : ITy Try.prog 62 [.int .i64 0, .int .i64 0, .int .i64 0] 24 := ⟨⟨_, (show Try.prog.info? 62 = some Try.t62 by kernel_rfl), rfl, rfl, _, rfl, rfl⟩⟩
theorem us_63 : (Try.prog.underlying 63).isSome = true := by rw [Try.underlying63]; rfl
theorem ag_63 (w : World) : (isAgg 63).run Try.prog w = .ok true w := Try.isAgg63 w
theorem sz_63 (w : World) : (sizeOf 63).run Try.prog w = .ok 3 w := Try.sizeOf63 w
theorem it_63 : ITy Try.prog 63 [.int .i64 0, .int .i64 0, .int .i64 0] 24 := ⟨⟨_, (show Try.prog.info? 63 = some Try.t63 by kernel_rfl), rfl, rfl, _, rfl, rfl⟩⟩
theorem us_66 : (Try.prog.underlying 66).isSome = true := by rw [Try.underlying66]; rfl
theorem ag_66 (w : World) : (isAgg 66).run Try.prog w = .ok false w := Try.isAgg66 w
theorem sz_66 (w : World) : (sizeOf 66).run Try.prog w = .ok 1 w := Try.sizeOf66 w
theorem it_66 : ITy Try.prog 66 [.nilFunc] 8 := ⟨⟨_, (show Try.prog.info? 66 = some Try.t66 by kernel_rfl), rfl, rfl, _, rfl, rfl⟩⟩
theorem us_67 : (Try.prog.underlying 67).isSome = true := by rw [Try.underlying67]; rfl
theorem ag_67 (w : World) : (isAgg 67).run Try.prog w = .ok true w := Try.isAgg67 w
theorem sz_67 (w : World) : (sizeOf 67).run Try.prog w = .ok 1 w := Try.sizeOf67 w
theorem it_67 : ITy Try.prog 67 [.nilFunc] 8 := ⟨⟨_, (show Try.prog.info? 67 = some Try.t67 by kernel_rfl), rfl, rfl, _, rfl, rfl⟩⟩
theorem us_68 : (Try.prog.underlying 68).isSome = true := by rw [Try.underlying68]; rfl
theorem ag_68 (w : World) : (isAgg 68).run Try.prog w = .ok true w := Try.isAgg68 w
theorem sz_68 (w : World) : (sizeOf 68).run Try.prog w = .ok 1 w := Try.sizeOf68 w
theorem it_68 : ITy Try.prog 68 [.nilFunc] 8 := ⟨⟨_, (show Try.prog.info? 68 = some Try.t68 by kernel_rfl), rfl, rfl, _, rfl, rfl⟩⟩
theorem us_71 : (Try.prog.underlying 71).isSome = true := by rw [Try.underlying71]; rfl
theorem ag_71 (w : World) : (isAgg 71).run Try.prog w = .ok false w := Try.isAgg71 w
theorem sz_71 (w : World) : (sizeOf 71).run Try.prog w = .ok 1 w := Try.sizeOf71 w
theorem it_71 : ITy Try.prog 71 [.nilFunc] 8 := ⟨⟨_, (show Try.prog.info? 71 = some Try.t71 by kernel_rfl), rfl, rfl, _, rfl, rfl⟩⟩
theorem st_72 : STy Try.prog 72 25 2 := ⟨Try.underlying72, Try.sizeOf25⟩
theorem un_72 : Try.prog.underlying 72 = some (.slice 25) := Try.underlying72
theorem us_72 : (Try.prog.underlying 72).isSome = true := by rw [un_72]; rfl
theorem ag_72 (w : World) : (isAgg 72).run Try.prog w = .ok false w := Try.isAgg72 w
theorem sz_72 (w : World) : (sizeOf 72).run Try.prog w = .ok 1 w := Try.sizeOf72 w
theorem it_72 : ITy Try.prog 72 [.slice none 0 0] 24 := ⟨⟨_, (show Try.prog.info? 72 = some Try.t72 by kernel_rfl), rfl, rfl, _, rfl, rfl⟩⟩
theorem us_74 : (Try.prog.underlying 74).isSome = true := by rw [Try.underlying74]; rfl
theorem ag_74 (w : World) : (isAgg 74).run Try.prog w = .ok true w := Try.isAgg74 w
theorem sz_74 (w : World) : (sizeOf 74).run Try.prog w = .ok 4 w := Try.sizeOf74 w
theorem it_74 : ITy Try.prog 74 [.pointer none, .pointer none, .pointer none, .string ⟨#[]⟩] 40 := ⟨⟨_, (show Try.prog.info? 74 = some Try.t74 by kernel_rfl), rfl, rfl, _, rfl, rfl⟩⟩
theorem us_75 : (Try.prog.underlying 75).isSome = true := by rw [Try.underlying75]; rfl
theorem ag_75 (w : World) : (isAgg 75).run Try.prog w = .ok true w := Try.isAgg75 w
theorem sz_75 (w : World) : (sizeOf 75).run Try.prog w = .ok 4 w := Try.sizeOf75 w
theorem it_75 : ITy Try.prog 75 [.pointer none, .pointer none, .pointer none, .string ⟨#[]⟩] 40 := ⟨⟨_, (show Try.prog.info? 75 = some Try.t75 by kernel_rfl), rfl, rfl, _, rfl, rfl⟩⟩
theorem un_76 : Try.prog.underlying 76 = some (.array 0 16) := Try.underlying76
theorem us_76 : (Try.prog.underlying 76).isSome = true := by rw [un_76]; rfl
theorem ag_76 (w : World) : (isAgg 76).run Try.prog w = .ok true w := Try.isAgg76 w
theorem sz_76 (w : World) : (sizeOf 76).run Try.prog w = .ok 0 w := Try.sizeOf76 w
theorem it_76 : ITy Try.prog 76 [] 0 := ⟨⟨_, (show Try.prog.info? 76 = some Try.t76 by kernel_rfl), rfl, rfl, _, rfl, rfl⟩⟩
theorem us_77 : (Try.prog.underlying 77).isSome = true := by rw [Try.underlying77]; rfl
theorem ag_77 (w : World) : (isAgg 77).run Try.prog w = .ok true w := Try.isAgg77 w
theorem sz_77 (w : World) : (sizeOf 77).run Try.prog w = .ok 0 w := Try.sizeOf77 w
theorem it_77 : ITy Try.prog 77 [] 0 := ⟨⟨_, (show Try.prog.info? 77 = some Try.t77 by kernel_rfl), rfl, rfl, _, rfl, rfl⟩⟩
theorem us_78 : (Try.prog.underlying 78).isSome = true := by rw [Try.underlying78]; rfl
theorem ag_78 (w : World) : (isAgg 78).run Try.prog w = .ok true w := Try.isAgg78 w
theorem sz_78 (w : World) : (sizeOf 78).run Try.prog w = .ok 0 w := Try.sizeOf78 w
theorem it_78 : ITy Try.prog 78 [] 0 := ⟨⟨_, (show Try.prog.info? 78 = some Try.t78 by kernel_rfl), rfl, rfl, _, rfl, rfl⟩⟩
theorem un_80 : Try.prog.underlying 80 = some (.int .u32) := Try.underlying80
theorem us_80 : (Try.prog.underlying 80).isSome = true := by rw [un_80]; rfl
theorem ag_80 (w : World) : (isAgg 80).run Try.prog w = .ok false w := Try.isAgg80 w
theorem sz_80 (w : World) : (sizeOf 80).run Try.prog w = .ok 1 w := Try.sizeOf80 w
theorem it_80 : ITy Try.prog 80 [.int .u32 0] 4 := ⟨⟨_, (show Try.prog.info? 80 = some Try.t80 by kernel_rfl), rfl, rfl, _, rfl, rfl⟩⟩
theorem un_81 : Try.prog.underlying 81 = some (.int .u8) := Try.underlying81
theorem us_81 : (Try.prog.underlying 81).isSome = true := by rw [un_81]; rfl
theorem ag_81 (w : World) : (isAgg 81).run Try.prog w = .ok false w := Try.isAgg81 w
theorem sz_81 (w : World) : (sizeOf 81).run Try.prog w = .ok 1 w := Try.sizeOf81 w
theorem it_81 : ITy Try.prog 81 [.int .u8 0] 1 := ⟨⟨_, (show Try.prog.info? 81 = some Try.t81 by kernel_rfl), rfl, rfl, _, rfl, rfl⟩⟩
theorem un_82 : Try.prog.underlying 82 = some (.int .u8) := Try.underlying82
theorem us_82 : (Try.prog.underlying 82).isSome = true := by rw [un_82]; rfl
theorem ag_82 (w : World) : (isAgg 82).run Try.prog w = .ok false w := Try.isAgg82 w
theorem sz_82 (w : World) : (sizeOf 82).run Try.prog w = .ok 1 w := Try.sizeOf82 w
theorem it_82 : ITy Try.prog 82 [.int .u8 0] 1 := ⟨⟨_, (show Try.prog.info? 82 = some Try.t82 by kernel_rfl), rfl, rfl, _, rfl, rfl⟩⟩
theorem us_83 : (Try.prog.underlying 83).isSome = true := by rw [Try.underlying83]; rfl
theorem ag_83 (w : World) : (isAgg 83).run Try.prog w = .ok false w := Try.isAgg83 w
theorem sz_83 (w : World) : (sizeOf 83).run Try.prog w = .ok 1 w := Try.sizeOf83 w
theorem it_83 : ITy Try.prog 83 [.nilFunc] 8 := ⟨⟨_, (show Try.prog.info? 83 = some Try.t83 by kernel_rfl), rfl, rfl, _, rfl, rfl⟩⟩
theorem un_84 : Try.prog.underlying 84 = some (.pointer 5) := Try.underlying84
theorem us_84 : (Try.prog.underlying 84).isSome = true := by rw [un_84]; rfl
theorem ag_84 (w : World) : (isAgg 84).run Try.prog w = .ok false w := Try.isAgg84 w
theorem sz_84 (w : World) : (sizeOf 84).run Try.prog w = .ok 1 w := Try.sizeOf84 w
theorem it_84 : ITy Try.prog 84 [.pointer none] 8 := ⟨⟨_, (show Try.prog.info? 84 = some Try.t84 by kernel_rfl), rfl, rfl, _, rfl, rfl⟩⟩
theorem un_85 : Try.prog.underlying 85 = some (.int .i32) := Try.underlying85
theorem us_85 : (Try.prog.underlying 85).isSome = true := by rw [un_85]; rfl
theorem ag_85 (w : World) : (isAgg 85).run Try.prog w = .ok false w := Try.isAgg85 w
theorem sz_85 (w : World) : (sizeOf 85).run Try.prog w = .ok 1 w := Try.sizeOf85 w
theorem it_85 : ITy Try.prog 85 [.int .i32 0] 4 := ⟨⟨_, (show Try.prog.info? 85 = some Try.t85 by kernel_rfl), rfl, rfl, _, rfl, rfl⟩⟩
theorem un_86 : Try.prog.underlying 86 = some (.int .i32) := Try.underlying86
theorem us_86 : (Try.prog.underlying 86).isSome = true := by rw [un_86]; rfl
theorem ag_86 (w : World) : (isAgg 86).run Try.prog w = .ok false w := Try.isAgg86 w
theorem sz_86 (w : World) : (sizeOf 86).run Try.prog w = .ok 1 w := Try.sizeOf86 w
theorem it_86 : ITy Try.prog 86 [.int .i32 0] 4 := ⟨⟨_, (show Try.prog.info? 86 = some Try.t86 by kernel_rfl), rfl, rfl, _, rfl, rfl⟩⟩
theorem us_87 : (Try.prog.underlying 87).isSome = true := by rw [Try.underlying87]; rfl
theorem ag_87 (w : World) : (isAgg 87).run Try.prog w = .ok true w := Try.isAgg87 w
theorem sz_87 (w : World) : (sizeOf 87).run Try.prog w = .ok 11 w := Try.sizeOf87 w
theorem it_87 : ITy Try.prog 87 [.int .u64 0, .int .u64 0, .int .u32 0, .int .u8 0, .int .u8 0, .int .u8 0, .int .u8 0, .nilFunc, .pointer none, .int .i32 0, .int .i32 0] 48 := ⟨⟨_, (show Try.prog.info? 87 = some Try.t87 by kernel_rfl), rfl, rfl, _, rfl, rfl⟩⟩
theorem us_88 : (Try.prog.underlying 88).isSome = true := by rw [Try.underlying88]; rfl
theorem ag_88 (w : World) : (isAgg 88).run Try.prog w = .ok true w := Try.isAgg88 w
theorem sz_88 (w : World) : (sizeOf 88).run Try.prog w = .ok 11 w := Try.sizeOf88 w
theorem it_88 : ITy Try.prog 88 [.int .u64 0, .int .u64 0, .int .u32 0, .int .u8 0, .int .u8 0, .int .u8 0, .int .u8 0, .nilFunc, .pointer none, .int .i32 0, .int .i32 0] 48 := ⟨⟨_, (show Try.prog.info? 88 = some Try.t88 by kernel_rfl), rfl, rfl, _, rfl, rfl⟩⟩
end Go.Proofs.Ytgjpjpdmkeifeaa
