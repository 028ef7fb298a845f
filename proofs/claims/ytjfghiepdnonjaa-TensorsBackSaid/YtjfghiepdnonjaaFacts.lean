/- Closed facts on the types of this seat: printed by a program of ours. -/
import Derived.Test.YtjfghiepdnonjaaReg
import Derived.Test.YtjfghiepdnonjaaProg
namespace Go.Proofs.Ytjfghiepdnonjaa
open Go Go.Dd

theorem mixed : Try.prog.follows .mixedOrders = true := by kernel_rfl
theorem us_1 : (Try.prog.underlying 1).isSome = true := by rw [Try.underlying1]; rfl
theorem ag_1 (w : World) : (isAgg 1).run Try.prog w = .ok false w := Try.isAgg1 w
theorem sz_1 (w : World) : (sizeOf 1).run Try.prog w = .ok 1 w := Try.sizeOf1 w
theorem it_1 : ITy Try.prog 1 [.nilFunc] 8 := ⟨⟨_, (show Try.prog.info? 1 = some Try.t1 by kernel_rfl), rfl, rfl, _, rfl, rfl⟩⟩
theorem un_2 : Try.prog.underlying 2 = some (.int .i64) := Try.underlying2
theorem us_2 : (Try.prog.underlying 2).isSome = true := by rw [un_2]; rfl
theorem ag_2 (w : World) : (isAgg 2).run Try.prog w = .ok false w := Try.isAgg2 w
theorem sz_2 (w : World) : (sizeOf 2).run Try.prog w = .ok 1 w := Try.sizeOf2 w
theorem it_2 : ITy Try.prog 2 [.int .i64 0] 8 := ⟨⟨_, (show Try.prog.info? 2 = some Try.t2 by kernel_rfl), rfl, rfl, _, rfl, rfl⟩⟩
theorem un_3 : Try.prog.underlying 3 = some (.int .i64) := Try.underlying3
theorem us_3 : (Try.prog.underlying 3).isSome = true := by rw [un_3]; rfl
theorem ag_3 (w : World) : (isAgg 3).run Try.prog w = .ok false w := Try.isAgg3 w
theorem sz_3 (w : World) : (sizeOf 3).run Try.prog w = .ok 1 w := Try.sizeOf3 w
theorem it_3 : ITy Try.prog 3 [.int .i64 0] 8 := ⟨⟨_, (show Try.prog.info? 3 = some Try.t3 by kernel_rfl), rfl, rfl, _, rfl, rfl⟩⟩
theorem un_4 : Try.prog.underlying 4 = some (.bool) := Try.underlying4
theorem us_4 : (Try.prog.underlying 4).isSome = true := by rw [un_4]; rfl
theorem ag_4 (w : World) : (isAgg 4).run Try.prog w = .ok false w := Try.isAgg4 w
theorem sz_4 (w : World) : (sizeOf 4).run Try.prog w = .ok 1 w := Try.sizeOf4 w
theorem it_4 : ITy Try.prog 4 [.bool false] 1 := ⟨⟨_, (show Try.prog.info? 4 = some Try.t4 by kernel_rfl), rfl, rfl, _, rfl, rfl⟩⟩
theorem un_5 : Try.prog.underlying 5 = some (.int .u8) := Try.underlying5
theorem us_5 : (Try.prog.underlying 5).isSome = true := by rw [un_5]; rfl
theorem ag_5 (w : World) : (isAgg 5).run Try.prog w = .ok false w := Try.isAgg5 w
theorem sz_5 (w : World) : (sizeOf 5).run Try.prog w = .ok 1 w := Try.sizeOf5 w
theorem it_5 : ITy Try.prog 5 [.int .u8 0] 1 := ⟨⟨_, (show Try.prog.info? 5 = some Try.t5 by kernel_rfl), rfl, rfl, _, rfl, rfl⟩⟩
theorem un_6 : Try.prog.underlying 6 = some (.int .u8) := Try.underlying6
theorem us_6 : (Try.prog.underlying 6).isSome = true := by rw [un_6]; rfl
theorem ag_6 (w : World) : (isAgg 6).run Try.prog w = .ok false w := Try.isAgg6 w
theorem sz_6 (w : World) : (sizeOf 6).run Try.prog w = .ok 1 w := Try.sizeOf6 w
theorem it_6 : ITy Try.prog 6 [.int .u8 0] 1 := ⟨⟨_, (show Try.prog.info? 6 = some Try.t6 by kernel_rfl), rfl, rfl, _, rfl, rfl⟩⟩
theorem us_7 : (Try.prog.underlying 7).isSome = true := by rw [Try.underlying7]; rfl
theorem ag_7 (w : World) : (isAgg 7).run Try.prog w = .ok true w := Try.isAgg7 w
theorem sz_7 (w : World) : (sizeOf 7).run Try.prog w = .ok 4 w := Try.sizeOf7 w
theorem it_7 : ITy Try.prog 7 [.int .i64 0, .int .i64 0, .bool false, .int .u8 0] 24 := ⟨⟨_, (show Try.prog.info? 7 = some Try.t7 by kernel_rfl), rfl, rfl, _, rfl, rfl⟩⟩
theorem us_8 : (Try.prog.underlying 8).isSome = true := by rw [Try.underlying8]; rfl
theorem ag_8 (w : World) : (isAgg 8).run Try.prog w = .ok true w := Try.isAgg8 w
theorem sz_8 (w : World) : (sizeOf 8).run Try.prog w = .ok 4 w := Try.sizeOf8 w
theorem it_8 : ITy Try.prog 8 [.int .i64 0, .int .i64 0, .bool false, .int .u8 0] 24 := ⟨⟨_, (show Try.prog.info? 8 = some Try.t8 by kernel_rfl), rfl, rfl, _, rfl, rfl⟩⟩
theorem un_9 : Try.prog.underlying 9 = some (.string) := Try.underlying9
theorem us_9 : (Try.prog.underlying 9).isSome = true := by rw [un_9]; rfl
theorem ag_9 (w : World) : (isAgg 9).run Try.prog w = .ok false w := Try.isAgg9 w
theorem sz_9 (w : World) : (sizeOf 9).run Try.prog w = .ok 1 w := Try.sizeOf9 w
theorem it_9 : ITy Try.prog 9 [.string ⟨#[]⟩] 16 := ⟨⟨_, (show Try.prog.info? 9 = some Try.t9 by kernel_rfl), rfl, rfl, _, rfl, rfl⟩⟩
theorem un_10 : Try.prog.underlying 10 = some (.string) := Try.underlying10
theorem us_10 : (Try.prog.underlying 10).isSome = true := by rw [un_10]; rfl
theorem ag_10 (w : World) : (isAgg 10).run Try.prog w = .ok false w := Try.isAgg10 w
theorem sz_10 (w : World) : (sizeOf 10).run Try.prog w = .ok 1 w := Try.sizeOf10 w
theorem it_10 : ITy Try.prog 10 [.string ⟨#[]⟩] 16 := ⟨⟨_, (show Try.prog.info? 10 = some Try.t10 by kernel_rfl), rfl, rfl, _, rfl, rfl⟩⟩
theorem un_11 : Try.prog.underlying 11 = some (.string) := Try.underlying11
theorem us_11 : (Try.prog.underlying 11).isSome = true := by rw [un_11]; rfl
theorem ag_11 (w : World) : (isAgg 11).run Try.prog w = .ok false w := Try.isAgg11 w
theorem sz_11 (w : World) : (sizeOf 11).run Try.prog w = .ok 1 w := Try.sizeOf11 w
theorem it_11 : ITy Try.prog 11 [.string ⟨#[]⟩] 16 := ⟨⟨_, (show Try.prog.info? 11 = some Try.t11 by kernel_rfl), rfl, rfl, _, rfl, rfl⟩⟩
theorem un_12 : Try.prog.underlying 12 = some (.int .u64) := Try.underlying12
theorem us_12 : (Try.prog.underlying 12).isSome = true := by rw [un_12]; rfl
theorem ag_12 (w : World) : (isAgg 12).run Try.prog w = .ok false w := Try.isAgg12 w
theorem sz_12 (w : World) : (sizeOf 12).run Try.prog w = .ok 1 w := Try.sizeOf12 w
theorem it_12 : ITy Try.prog 12 [.int .u64 0] 8 := ⟨⟨_, (show Try.prog.info? 12 = some Try.t12 by kernel_rfl), rfl, rfl, _, rfl, rfl⟩⟩
theorem us_13 : (Try.prog.underlying 13).isSome = true := by rw [Try.underlying13]; rfl
theorem ag_13 (w : World) : (isAgg 13).run Try.prog w = .ok true w := Try.isAgg13 w
theorem sz_13 (w : World) : (sizeOf 13).run Try.prog w = .ok 2 w := Try.sizeOf13 w
theorem it_13 : ITy Try.prog 13 [.string ⟨#[]⟩, .int .u64 0] 24 := ⟨⟨_, (show Try.prog.info? 13 = some Try.t13 by kernel_rfl), rfl, rfl, _, rfl, rfl⟩⟩
theorem us_14 : (Try.prog.underlying 14).isSome = true := by rw [Try.underlying14]; rfl
theorem ag_14 (w : World) : (isAgg 14).run Try.prog w = .ok true w := Try.isAgg14 w
theorem sz_14 (w : World) : (sizeOf 14).run Try.prog w = .ok 2 w := Try.sizeOf14 w
theorem it_14 : ITy Try.prog 14 [.string ⟨#[]⟩, .int .u64 0] 24 := ⟨⟨_, (show Try.prog.info? 14 = some Try.t14 by kernel_rfl), rfl, rfl, _, rfl, rfl⟩⟩
theorem un_15 : Try.prog.underlying 15 = some (.pointer 85) := Try.underlying15
theorem us_15 : (Try.prog.underlying 15).isSome = true := by rw [un_15]; rfl
theorem ag_15 (w : World) : (isAgg 15).run Try.prog w = .ok false w := Try.isAgg15 w
theorem sz_15 (w : World) : (sizeOf 15).run Try.prog w = .ok 1 w := Try.sizeOf15 w
theorem it_15 : ITy Try.prog 15 [.pointer none] 8 := ⟨⟨_, (show Try.prog.info? 15 = some Try.t15 by kernel_rfl), rfl, rfl, _, rfl, rfl⟩⟩
theorem un_16 : Try.prog.underlying 16 = some (.pointer 88) := Try.underlying16
theorem us_16 : (Try.prog.underlying 16).isSome = true := by rw [un_16]; rfl
theorem ag_16 (w : World) : (isAgg 16).run Try.prog w = .ok false w := Try.isAgg16 w
theorem sz_16 (w : World) : (sizeOf 16).run Try.prog w = .ok 1 w := Try.sizeOf16 w
theorem it_16 : ITy Try.prog 16 [.pointer none] 8 := ⟨⟨_, (show Try.prog.info? 16 = some Try.t16 by kernel_rfl), rfl, rfl, _, rfl, rfl⟩⟩
theorem un_17 : Try.prog.underlying 17 = some (.pointer 97) := Try.underlying17
theorem us_17 : (Try.prog.underlying 17).isSome = true := by rw [un_17]; rfl
theorem ag_17 (w : World) : (isAgg 17).run Try.prog w = .ok false w := Try.isAgg17 w
theorem sz_17 (w : World) : (sizeOf 17).run Try.prog w = .ok 1 w := Try.sizeOf17 w
theorem it_17 : ITy Try.prog 17 [.pointer none] 8 := ⟨⟨_, (show Try.prog.info? 17 = some Try.t17 by kernel_rfl), rfl, rfl, _, rfl, rfl⟩⟩
theorem us_18 : (Try.prog.underlying 18).isSome = true := by rw [Try.underlying18]; rfl
theorem ag_18 (w : World) : (isAgg 18).run Try.prog w = .ok true w := Try.isAgg18 w
theorem sz_18 (w : World) : (sizeOf 18).run Try.prog w = .ok 1 w := Try.sizeOf18 w
theorem it_18 : ITy Try.prog 18 [.pointer none] 8 := ⟨⟨_, (show Try.prog.info? 18 = some Try.t18 by kernel_rfl), rfl, rfl, _, rfl, rfl⟩⟩
theorem us_19 : (Try.prog.underlying 19).isSome = true := by rw [Try.underlying19]; rfl
theorem ag_19 (w : World) : (isAgg 19).run Try.prog w = .ok true w := Try.isAgg19 w
theorem sz_19 (w : World) : (sizeOf 19).run Try.prog w = .ok 1 w := Try.sizeOf19 w
theorem it_19 : ITy Try.prog 19 [.pointer none] 8 := ⟨⟨_, (show Try.prog.info? 19 = some Try.t19 by kernel_rfl), rfl, rfl, _, rfl, rfl⟩⟩
theorem us_20 : (Try.prog.underlying 20).isSome = true := by rw [Try.underlying20]; rfl
theorem ag_20 (w : World) : (isAgg 20).run Try.prog w = .ok false w := Try.isAgg20 w
theorem sz_20 (w : World) : (sizeOf 20).run Try.prog w = .ok 1 w := Try.sizeOf20 w
theorem it_20 : ITy Try.prog 20 [.nilIface] 16 := ⟨⟨_, (show Try.prog.info? 20 = some Try.t20 by kernel_rfl), rfl, rfl, _, rfl, rfl⟩⟩
theorem un_21 : Try.prog.underlying 21 = some (.int .i32) := Try.underlying21
theorem us_21 : (Try.prog.underlying 21).isSome = true := by rw [un_21]; rfl
theorem ag_21 (w : World) : (isAgg 21).run Try.prog w = .ok false w := Try.isAgg21 w
theorem sz_21 (w : World) : (sizeOf 21).run Try.prog w = .ok 1 w := Try.sizeOf21 w
theorem it_21 : ITy Try.prog 21 [.int .i32 0] 4 := ⟨⟨_, (show Try.prog.info? 21 = some Try.t21 by kernel_rfl), rfl, rfl, _, rfl, rfl⟩⟩
theorem st_22 : STy Try.prog 22 3 1 := ⟨Try.underlying22, Try.sizeOf3⟩
theorem un_22 : Try.prog.underlying 22 = some (.slice 3) := Try.underlying22
theorem us_22 : (Try.prog.underlying 22).isSome = true := by rw [un_22]; rfl
theorem ag_22 (w : World) : (isAgg 22).run Try.prog w = .ok false w := Try.isAgg22 w
theorem sz_22 (w : World) : (sizeOf 22).run Try.prog w = .ok 1 w := Try.sizeOf22 w
theorem it_22 : ITy Try.prog 22 [.slice none 0 0] 24 := ⟨⟨_, (show Try.prog.info? 22 = some Try.t22 by kernel_rfl), rfl, rfl, _, rfl, rfl⟩⟩
theorem st_23 : STy Try.prog 23 21 1 := ⟨Try.underlying23, Try.sizeOf21⟩
theorem un_23 : Try.prog.underlying 23 = some (.slice 21) := Try.underlying23
theorem us_23 : (Try.prog.underlying 23).isSome = true := by rw [un_23]; rfl
theorem ag_23 (w : World) : (isAgg 23).run Try.prog w = .ok false w := Try.isAgg23 w
theorem sz_23 (w : World) : (sizeOf 23).run Try.prog w = .ok 1 w := Try.sizeOf23 w
theorem it_23 : ITy Try.prog 23 [.slice none 0 0] 24 := ⟨⟨_, (show Try.prog.info? 23 = some Try.t23 by kernel_rfl), rfl, rfl, _, rfl, rfl⟩⟩
theorem us_24 : (Try.prog.underlying 24).isSome = true := by rw [Try.underlying24]; rfl
theorem ag_24 (w : World) : (isAgg 24).run Try.prog w = .ok true w := Try.isAgg24 w
theorem sz_24 (w : World) : (sizeOf 24).run Try.prog w = .ok 2 w := Try.sizeOf24 w
theorem it_24 : ITy Try.prog 24 [.slice none 0 0, .slice none 0 0] 48 := ⟨⟨_, (show Try.prog.info? 24 = some Try.t24 by kernel_rfl), rfl, rfl, _, rfl, rfl⟩⟩
theorem us_25 : (Try.prog.underlying 25).isSome = true := by rw [Try.underlying25]; rfl
theorem ag_25 (w : World) : (isAgg 25).run Try.prog w = .ok true w := Try.isAgg25 w
theorem sz_25 (w : World) : (sizeOf 25).run Try.prog w = .ok 2 w := Try.sizeOf25 w
theorem it_25 : ITy Try.prog 25 [.slice none 0 0, .slice none 0 0] 48 := ⟨⟨_, (show Try.prog.info? 25 = some Try.t25 by kernel_rfl), rfl, rfl, _, rfl, rfl⟩⟩
theorem st_26 : STy Try.prog 26 5 1 := ⟨Try.underlying26, Try.sizeOf5⟩
theorem un_26 : Try.prog.underlying 26 = some (.slice 5) := Try.underlying26
theorem us_26 : (Try.prog.underlying 26).isSome = true := by rw [un_26]; rfl
theorem ag_26 (w : World) : (isAgg 26).run Try.prog w = .ok false w := Try.isAgg26 w
theorem sz_26 (w : World) : (sizeOf 26).run Try.prog w = .ok 1 w := Try.sizeOf26 w
theorem it_26 : ITy Try.prog 26 [.slice none 0 0] 24 := ⟨⟨_, (show Try.prog.info? 26 = some Try.t26 by kernel_rfl), rfl, rfl, _, rfl, rfl⟩⟩
theorem un_30 : Try.prog.underlying 30 = some (.int .i64) := Try.underlying30
theorem us_30 : (Try.prog.underlying 30).isSome = true := by rw [un_30]; rfl
theorem ag_30 (w : World) : (isAgg 30).run Try.prog w = .ok false w := Try.isAgg30 w
theorem sz_30 (w : World) : (sizeOf 30).run Try.prog w = .ok 1 w := Try.sizeOf30 w
theorem it_30 : ITy Try.prog 30 [.int .i64 0] 8 := ⟨⟨_, (show Try.prog.info? 30 = some Try.t30 by kernel_rfl), rfl, rfl, _, rfl, rfl⟩⟩
theorem un_40 : Try.prog.underlying 40 = some (.int .u16) := Try.underlying40
theorem us_40 : (Try.prog.underlying 40).isSome = true := by rw [un_40]; rfl
theorem ag_40 (w : World) : (isAgg 40).run Try.prog w = .ok false w := Try.isAgg40 w
theorem sz_40 (w : World) : (sizeOf 40).run Try.prog w = .ok 1 w := Try.sizeOf40 w
theorem it_40 : ITy Try.prog 40 [.int .u16 0] 2 := ⟨⟨_, (show Try.prog.info? 40 = some Try.t40 by kernel_rfl), rfl, rfl, _, rfl, rfl⟩⟩
theorem us_41 : (Try.prog.underlying 41).isSome = true := by rw [Try.underlying41]; rfl
theorem ag_41 (w : World) : (isAgg 41).run Try.prog w = .ok true w := Try.isAgg41 w
theorem sz_41 (w : World) : (sizeOf 41).run Try.prog w = .ok 2 w := Try.sizeOf41 w
theorem it_41 : ITy Try.prog 41 [.int .u16 0, .int .i32 0] 8 := ⟨⟨_, (show Try.prog.info? 41 = some Try.t41 by kernel_rfl), rfl, rfl, _, rfl, rfl⟩⟩
theorem us_42 : (Try.prog.underlying 42).isSome = true := by rw [Try.underlying42]; rfl
theorem ag_42 (w : World) : (isAgg 42).run Try.prog w = .ok true w := Try.isAgg42 w
theorem sz_42 (w : World) : (sizeOf 42).run Try.prog w = .ok 2 w := Try.sizeOf42 w
theorem it_42 : ITy Try.prog 42 [.int .u16 0, .int .i32 0] 8 := ⟨⟨_, (show Try.prog.info? 42 = some Try.t42 by kernel_rfl), rfl, rfl, _, rfl, rfl⟩⟩
theorem un_55 : Try.prog.underlying 55 = some (.pointer 57) := Try.underlying55
theorem us_55 : (Try.prog.underlying 55).isSome = true := by rw [un_55]; rfl
theorem ag_55 (w : World) : (isAgg 55).run Try.prog w = .ok false w := Try.isAgg55 w
theorem sz_55 (w : World) : (sizeOf 55).run Try.prog w = .ok 1 w := Try.sizeOf55 w
theorem it_55 : ITy Try.prog 55 [.pointer none] 8 := ⟨⟨_, (show Try.prog.info? 55 = some Try.t55 by kernel_rfl), rfl, rfl, _, rfl, rfl⟩⟩
theorem us_56 : (Try.prog.underlying 56).isSome = true := by rw [Try.underlying56]; rfl
theorem ag_56 (w : World) : (isAgg 56).run Try.prog w = .ok true w := Try.isAgg56 w
theorem sz_56 (w : World) : (sizeOf 56).run Try.prog w = .ok 1 w := Try.sizeOf56 w
theorem it_56 : ITy Try.prog 56 [.slice none 0 0] 24 := ⟨⟨_, (show Try.prog.info? 56 = some Try.t56 by kernel_rfl), rfl, rfl, _, rfl, rfl⟩⟩
theorem us_57 : (Try.prog.underlying 57).isSome = true := by rw [Try.underlying57]; rfl
theorem ag_57 (w : World) : (isAgg 57).run Try.prog w = .ok true w := Try.isAgg57 w
theorem sz_57 (w : World) : (sizeOf 57).run Try.prog w = .ok 1 w := Try.sizeOf57 w
theorem it_57 : ITy Try.prog 57 [.slice none 0 0] 24 := ⟨⟨_, (show Try.prog.info? 57 = some Try.t57 by kernel_rfl), rfl, rfl, _, rfl, rfl⟩⟩
theorem us_59 : (Try.prog.underlying 59).isSome = true := by rw [Try.underlying59]; rfl
theorem ag_59 (w : World) : (isAgg 59).run Try.prog w = .ok false w := Try.isAgg59 w
theorem sz_59 (w : World) : (sizeOf 59).run Try.prog w = .ok 1 w := Try.sizeOf59 w
theorem it_59 : ITy Try.prog 59 [.nilFunc] 8 := ⟨⟨_, (show Try.prog.info? 59 = some Try.t59 by kernel_rfl), rfl, rfl, _, rfl, rfl⟩⟩
theorem st_65 : STy Try.prog 65 26 1 := ⟨Try.underlying65, Try.sizeOf26⟩
theorem un_65 : Try.prog.underlying 65 = some (.slice 26) := Try.underlying65
theorem us_65 : (Try.prog.underlying 65).isSome = true := by rw [un_65]; rfl
theorem ag_65 (w : World) : (isAgg 65).run Try.prog w = .ok false w := Try.isAgg65 w
theorem sz_65 (w : World) : (sizeOf 65).run Try.prog w = .ok 1 w := Try.sizeOf65 w
theorem it_65 : ITy Try.prog 65 [.slice none 0 0] 24 := ⟨⟨_, (show Try.prog.info? 65 = some Try.t65 by kernel_rfl), rfl, rfl, _, rfl, rfl⟩⟩
theorem st_68 : STy Try.prog 68 70 1 := ⟨Try.underlying68, Try.sizeOf70⟩
theorem un_68 : Try.prog.underlying 68 = some (.slice 70) := Try.underlying68
theorem us_68 : (Try.prog.underlying 68).isSome = true := by rw [un_68]; rfl
theorem ag_68 (w : World) : (isAgg 68).run Try.prog w = .ok false w := Try.isAgg68 w
theorem sz_68 (w : World) : (sizeOf 68).run Try.prog w = .ok 1 w := Try.sizeOf68 w
theorem it_68 : ITy Try.prog 68 [.slice none 0 0] 24 := ⟨⟨_, (show Try.prog.info? 68 = some Try.t68 by kernel_rfl), rfl, rfl, _, rfl, rfl⟩⟩
theorem un_70 : Try.prog.underlying 70 = some (.int .u32) := Try.underlying70
theorem us_70 : (Try.prog.underlying 70).isSome = true := by rw [un_70]; rfl
theorem ag_70 (w : World) : (isAgg 70).run Try.prog w = .ok false w := Try.isAgg70 w
theorem sz_70 (w : World) : (sizeOf 70).run Try.prog w = .ok 1 w := Try.sizeOf70 w
theorem it_70 : ITy Try.prog 70 [.int .u32 0] 4 := ⟨⟨_, (show Try.prog.info? 70 = some Try.t70 by kernel_rfl), rfl, rfl, _, rfl, rfl⟩⟩
theorem us_72 : (Try.prog.underlying 72).isSome = true := by rw [Try.underlying72]; rfl
theorem ag_72 (w : World) : (isAgg 72).run Try.prog w = .ok false w := Try.isAgg72 w
theorem sz_72 (w : World) : (sizeOf 72).run Try.prog w = .ok 1 w := Try.sizeOf72 w
theorem it_72 : ITy Try.prog 72 [.nilFunc] 8 := ⟨⟨_, (show Try.prog.info? 72 = some Try.t72 by kernel_rfl), rfl, rfl, _, rfl, rfl⟩⟩
theorem us_74 : (Try.prog.underlying 74).isSome = true := by rw [Try.underlying74]; rfl
theorem ag_74 (w : World) : (isAgg 74).run Try.prog w = .ok false w := Try.isAgg74 w
theorem sz_74 (w : World) : (sizeOf 74).run Try.prog w = .ok 1 w := Try.sizeOf74 w
theorem it_74 : ITy Try.prog 74 [.nilFunc] 8 := ⟨⟨_, (show Try.prog.info? 74 = some Try.t74 by kernel_rfl), rfl, rfl, _, rfl, rfl⟩⟩
theorem us_78 : (Try.prog.underlying 78).isSome = true := by rw [Try.underlying78]; rfl
theorem ag_78 (w : World) : (isAgg 78).run Try.prog w = .ok false w := Try.isAgg78 w
theorem sz_78 (w : World) : (sizeOf 78).run Try.prog w = .ok 1 w := Try.sizeOf78 w
theorem it_78 : ITy Try.prog 78 [.nilFunc] 8 := ⟨⟨_, (show Try.prog.info? 78 = some Try.t78 by kernel_rfl), rfl, rfl, _, rfl, rfl⟩⟩
theorem un_79 : Try.prog.underlying 79 = some (.int .u64) := Try.underlying79
theorem us_79 : (Try.prog.underlying 79).isSome = true := by rw [un_79]; rfl
theorem ag_79 (w : World) : (isAgg 79).run Try.prog w = .ok false w := Try.isAgg79 w
theorem sz_79 (w : World) : (sizeOf 79).run Try.prog w = .ok 1 w := Try.sizeOf79 w
theorem it_79 : ITy Try.prog 79 [.int .u64 0] 8 := ⟨⟨_, (show Try.prog.info? 79 = some Try.t79 by kernel_rfl), rfl, rfl, _, rfl, rfl⟩⟩
theorem st_80 : STy Try.prog 80 68 1 := ⟨Try.underlying80, Try.sizeOf68⟩
theorem un_80 : Try.prog.underlying 80 = some (.slice 68) := Try.underlying80
theorem us_80 : (Try.prog.underlying 80).isSome = true := by rw [un_80]; rfl
theorem ag_80 (w : World) : (isAgg 80).run Try.prog w = .ok false w := Try.isAgg80 w
theorem sz_80 (w : World) : (sizeOf 80).run Try.prog w = .ok 1 w := Try.sizeOf80 w
theorem it_80 : ITy Try.prog 80 [.slice none 0 0] 24 := ⟨⟨_, (show Try.prog.info? 80 = some Try.t80 by kernel_rfl), rfl, rfl, _, rfl, rfl⟩⟩
theorem us_84 : (Try.prog.underlying 84).isSome = true := by rw [Try.underlying84]; rfl
theorem ag_84 (w : World) : (isAgg 84).run Try.prog w = .ok true w := Try.isAgg84 w
theorem sz_84 (w : World) : (sizeOf 84).run Try.prog w = .ok 4 w := Try.sizeOf84 w
theorem it_84 : ITy Try.prog 84 [.pointer none, .pointer none, .pointer none, .string ⟨#[]⟩] 40 := ⟨⟨_, (show Try.prog.info? 84 = some Try.t84 by kernel_rfl), rfl, rfl, _, rfl, rfl⟩⟩
theorem us_85 : (Try.prog.underlying 85).isSome = true := by rw [Try.underlying85]; rfl
theorem ag_85 (w : World) : (isAgg 85).run Try.prog w = .ok true w := Try.isAgg85 w
theorem sz_85 (w : World) : (sizeOf 85).run Try.prog w = .ok 4 w := Try.sizeOf85 w
theorem it_85 : ITy Try.prog 85 [.pointer none, .pointer none, .pointer none, .string ⟨#[]⟩] 40 := ⟨⟨_, (show Try.prog.info? 85 = some Try.t85 by kernel_rfl), rfl, rfl, _, rfl, rfl⟩⟩
theorem un_86 : Try.prog.underlying 86 = some (.array 0 16) := Try.underlying86
theorem us_86 : (Try.prog.underlying 86).isSome = true := by rw [un_86]; rfl
theorem ag_86 (w : World) : (isAgg 86).run Try.prog w = .ok true w := Try.isAgg86 w
theorem sz_86 (w : World) : (sizeOf 86).run Try.prog w = .ok 0 w := Try.sizeOf86 w
theorem it_86 : ITy Try.prog 86 [] 0 := ⟨⟨_, (show Try.prog.info? 86 = some Try.t86 by kernel_rfl), rfl, rfl, _, rfl, rfl⟩⟩
theorem us_87 : (Try.prog.underlying 87).isSome = true := by rw [Try.underlying87]; rfl
theorem ag_87 (w : World) : (isAgg 87).run Try.prog w = .ok true w := Try.isAgg87 w
theorem sz_87 (w : World) : (sizeOf 87).run Try.prog w = .ok 0 w := Try.sizeOf87 w
theorem it_87 : ITy Try.prog 87 [] 0 := ⟨⟨_, (show Try.prog.info? 87 = some Try.t87 by kernel_rfl), rfl, rfl, _, rfl, rfl⟩⟩
theorem us_88 : (Try.prog.underlying 88).isSome = true := by rw [Try.underlying88]; rfl
theorem ag_88 (w : World) : (isAgg 88).run Try.prog w = .ok true w := Try.isAgg88 w
theorem sz_88 (w : World) : (sizeOf 88).run Try.prog w = .ok 0 w := Try.sizeOf88 w
theorem it_88 : ITy Try.prog 88 [] 0 := ⟨⟨_, (show Try.prog.info? 88 = some Try.t88 by kernel_rfl), rfl, rfl, _, rfl, rfl⟩⟩
theorem un_90 : Try.prog.underlying 90 = some (.int .u8) := Try.underlying90
theorem us_90 : (Try.prog.underlying 90).isSome = true := by rw [un_90]; rfl
theorem ag_90 (w : World) : (isAgg 90).run Try.prog w = .ok false w := Try.isAgg90 w
theorem sz_90 (w : World) : (sizeOf 90).run Try.prog w = .ok 1 w := Try.sizeOf90 w
theorem it_90 : ITy Try.prog 90 [.int .u8 0] 1 := ⟨⟨_, (show Try.prog.info? 90 = some Try.t90 by kernel_rfl), rfl, rfl, _, rfl, rfl⟩⟩
theorem un_91 : Try.prog.underlying 91 = some (.int .u8) := Try.underlying91
theorem us_91 : (Try.prog.underlying 91).isSome = true := by rw [un_91]; rfl
theorem ag_91 (w : World) : (isAgg 91).run Try.prog w = .ok false w := Try.isAgg91 w
theorem sz_91 (w : World) : (sizeOf 91).run Try.prog w = .ok 1 w := Try.sizeOf91 w
theorem it_91 : ITy Try.prog 91 [.int .u8 0] 1 := ⟨⟨_, (show Try.prog.info? 91 = some Try.t91 by kernel_rfl), rfl, rfl, _, rfl, rfl⟩⟩
theorem us_92 : (Try.prog.underlying 92).isSome = true := by rw [Try.underlying92]; rfl
theorem ag_92 (w : World) : (isAgg 92).run Try.prog w = .ok false w := Try.isAgg92 w
theorem sz_92 (w : World) : (sizeOf 92).run Try.prog w = .ok 1 w := Try.sizeOf92 w
theorem it_92 : ITy Try.prog 92 [.nilFunc] 8 := ⟨⟨_, (show Try.prog.info? 92 = some Try.t92 by kernel_rfl), rfl, rfl, _, rfl, rfl⟩⟩
theorem un_93 : Try.prog.underlying 93 = some (.pointer 5) := Try.underlying93
theorem us_93 : (Try.prog.underlying 93).isSome = true := by rw [un_93]; rfl
theorem ag_93 (w : World) : (isAgg 93).run Try.prog w = .ok false w := Try.isAgg93 w
theorem sz_93 (w : World) : (sizeOf 93).run Try.prog w = .ok 1 w := Try.sizeOf93 w
theorem it_93 : ITy Try.prog 93 [.pointer none] 8 := ⟨⟨_, (show Try.prog.info? 93 = some Try.t93 by kernel_rfl), rfl, rfl, _, rfl, rfl⟩⟩
theorem un_94 : Try.prog.underlying 94 = some (.int .i32) := Try.underlying94
theorem us_94 : (Try.prog.underlying 94).isSome = true := by rw [un_94]; rfl
theorem ag_94 (w : World) : (isAgg 94).run Try.prog w = .ok false w := Try.isAgg94 w
theorem sz_94 (w : World) : (sizeOf 94).run Try.prog w = .ok 1 w := Try.sizeOf94 w
theorem it_94 : ITy Try.prog 94 [.int .i32 0] 4 := ⟨⟨_, (show Try.prog.info? 94 = some Try.t94 by kernel_rfl), rfl, rfl, _, rfl, rfl⟩⟩
theorem un_95 : Try.prog.underlying 95 = some (.int .i32) := Try.underlying95
theorem us_95 : (Try.prog.underlying 95).isSome = true := by rw [un_95]; rfl
theorem ag_95 (w : World) : (isAgg 95).run Try.prog w = .ok false w := Try.isAgg95 w
theorem sz_95 (w : World) : (sizeOf 95).run Try.prog w = .ok 1 w := Try.sizeOf95 w
theorem it_95 : ITy Try.prog 95 [.int .i32 0] 4 := ⟨⟨_, (show Try.prog.info? 95 = some Try.t95 by kernel_rfl), rfl, rfl, _, rfl, rfl⟩⟩
theorem us_96 : (Try.prog.underlying 96).isSome = true := by rw [Try.underlying96]; rfl
theorem ag_96 (w : World) : (isAgg 96).run Try.prog w = .ok true w := Try.isAgg96 w
theorem sz_96 (w : World) : (sizeOf 96).run Try.prog w = .ok 11 w := Try.sizeOf96 w
theorem it_96 : ITy Try.prog 96 [.int .u64 0, .int .u64 0, .int .u32 0, .int .u8 0, .int .u8 0, .int .u8 0, .int .u8 0, .nilFunc, .pointer none, .int .i32 0, .int .i32 0] 48 := ⟨⟨_, (show Try.prog.info? 96 = some Try.t96 by kernel_rfl), rfl, rfl, _, rfl, rfl⟩⟩
theorem us_97 : (Try.prog.underlying 97).isSome = true := by rw [Try.underlying97]; rfl
theorem ag_97 (w : World) : (isAgg 97).run Try.prog w = .ok true w := Try.isAgg97 w
theorem sz_97 (w : World) : (sizeOf 97).run Try.prog w = .ok 11 w := Try.sizeOf97 w
theorem it_97 : ITy Try.prog 97 [.int .u64 0, .int .u64 0, .int .u32 0, .int .u8 0, .int .u8 0, .int .u8 0, .int .u8 0, .nilFunc, .pointer none, .int .i32 0, .int .i32 0] 48 := ⟨⟨_, (show Try.prog.info? 97 = some Try.t97 by kernel_rfl), rfl, rfl, _, rfl, rfl⟩⟩
end Go.Proofs.Ytjfghiepdnonjaa
