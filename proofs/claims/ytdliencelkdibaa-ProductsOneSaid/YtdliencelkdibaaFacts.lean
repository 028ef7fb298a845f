/- Closed facts on the types of this seat: printed by a program of ours. -/
import Derived.Test.YtdliencelkdibaaReg
import Derived.Test.YtdliencelkdibaaProg
namespace Go.Proofs.Ytdliencelkdibaa
open Go Go.Dd

theorem mixed : Try.prog.follows .mixedOrders = true := by kernel_rfl
theorem us_1 : (Try.prog.underlying 1).isSome = true := by rw [Try.underlying1]; rfl
theorem ag_1 (w : World) : (isAgg 1).run Try.prog w = .ok false w := Try.isAgg1 w
theorem sz_1 (w : World) : (sizeOf 1).run Try.prog w = .ok 1 w := Try.sizeOf1 w
theorem it_1 : ITy Try.prog 1 [.nilFunc] 8 := ⟨⟨_, (rfl : Try.prog.info? 1 = some Try.t1), rfl, rfl, _, rfl, rfl⟩⟩
theorem un_2 : Try.prog.underlying 2 = some (.int .i64) := Try.underlying2
theorem us_2 : (Try.prog.underlying 2).isSome = true := by rw [un_2]; rfl
theorem ag_2 (w : World) : (isAgg 2).run Try.prog w = .ok false w := Try.isAgg2 w
theorem sz_2 (w : World) : (sizeOf 2).run Try.prog w = .ok 1 w := Try.sizeOf2 w
theorem it_2 : ITy Try.prog 2 [.int .i64 0] 8 := ⟨⟨_, (rfl : Try.prog.info? 2 = some Try.t2), rfl, rfl, _, rfl, rfl⟩⟩
theorem un_3 : Try.prog.underlying 3 = some (.int .i64) := Try.underlying3
theorem us_3 : (Try.prog.underlying 3).isSome = true := by rw [un_3]; rfl
theorem ag_3 (w : World) : (isAgg 3).run Try.prog w = .ok false w := Try.isAgg3 w
theorem sz_3 (w : World) : (sizeOf 3).run Try.prog w = .ok 1 w := Try.sizeOf3 w
theorem it_3 : ITy Try.prog 3 [.int .i64 0] 8 := ⟨⟨_, (rfl : Try.prog.info? 3 = some Try.t3), rfl, rfl, _, rfl, rfl⟩⟩
theorem un_4 : Try.prog.underlying 4 = some (.bool) := Try.underlying4
theorem us_4 : (Try.prog.underlying 4).isSome = true := by rw [un_4]; rfl
theorem ag_4 (w : World) : (isAgg 4).run Try.prog w = .ok false w := Try.isAgg4 w
theorem sz_4 (w : World) : (sizeOf 4).run Try.prog w = .ok 1 w := Try.sizeOf4 w
theorem it_4 : ITy Try.prog 4 [.bool false] 1 := ⟨⟨_, (rfl : Try.prog.info? 4 = some Try.t4), rfl, rfl, _, rfl, rfl⟩⟩
theorem un_5 : Try.prog.underlying 5 = some (.int .u8) := Try.underlying5
theorem us_5 : (Try.prog.underlying 5).isSome = true := by rw [un_5]; rfl
theorem ag_5 (w : World) : (isAgg 5).run Try.prog w = .ok false w := Try.isAgg5 w
theorem sz_5 (w : World) : (sizeOf 5).run Try.prog w = .ok 1 w := Try.sizeOf5 w
theorem it_5 : ITy Try.prog 5 [.int .u8 0] 1 := ⟨⟨_, (rfl : Try.prog.info? 5 = some Try.t5), rfl, rfl, _, rfl, rfl⟩⟩
theorem un_6 : Try.prog.underlying 6 = some (.int .u8) := Try.underlying6
theorem us_6 : (Try.prog.underlying 6).isSome = true := by rw [un_6]; rfl
theorem ag_6 (w : World) : (isAgg 6).run Try.prog w = .ok false w := Try.isAgg6 w
theorem sz_6 (w : World) : (sizeOf 6).run Try.prog w = .ok 1 w := Try.sizeOf6 w
theorem it_6 : ITy Try.prog 6 [.int .u8 0] 1 := ⟨⟨_, (rfl : Try.prog.info? 6 = some Try.t6), rfl, rfl, _, rfl, rfl⟩⟩
theorem us_7 : (Try.prog.underlying 7).isSome = true := by rw [Try.underlying7]; rfl
theorem ag_7 (w : World) : (isAgg 7).run Try.prog w = .ok true w := Try.isAgg7 w
theorem sz_7 (w : World) : (sizeOf 7).run Try.prog w = .ok 4 w := Try.sizeOf7 w
theorem it_7 : ITy Try.prog 7 [.int .i64 0, .int .i64 0, .bool false, .int .u8 0] 24 := ⟨⟨_, (rfl : Try.prog.info? 7 = some Try.t7), rfl, rfl, _, rfl, rfl⟩⟩
theorem us_8 : (Try.prog.underlying 8).isSome = true := by rw [Try.underlying8]; rfl
theorem ag_8 (w : World) : (isAgg 8).run Try.prog w = .ok true w := Try.isAgg8 w
theorem sz_8 (w : World) : (sizeOf 8).run Try.prog w = .ok 4 w := Try.sizeOf8 w
theorem it_8 : ITy Try.prog 8 [.int .i64 0, .int .i64 0, .bool false, .int .u8 0] 24 := ⟨⟨_, (rfl : Try.prog.info? 8 = some Try.t8), rfl, rfl, _, rfl, rfl⟩⟩
theorem un_9 : Try.prog.underlying 9 = some (.string) := Try.underlying9
theorem us_9 : (Try.prog.underlying 9).isSome = true := by rw [un_9]; rfl
theorem ag_9 (w : World) : (isAgg 9).run Try.prog w = .ok false w := Try.isAgg9 w
theorem sz_9 (w : World) : (sizeOf 9).run Try.prog w = .ok 1 w := Try.sizeOf9 w
theorem it_9 : ITy Try.prog 9 [.string ⟨#[]⟩] 16 := ⟨⟨_, (rfl : Try.prog.info? 9 = some Try.t9), rfl, rfl, _, rfl, rfl⟩⟩
theorem un_10 : Try.prog.underlying 10 = some (.string) := Try.underlying10
theorem us_10 : (Try.prog.underlying 10).isSome = true := by rw [un_10]; rfl
theorem ag_10 (w : World) : (isAgg 10).run Try.prog w = .ok false w := Try.isAgg10 w
theorem sz_10 (w : World) : (sizeOf 10).run Try.prog w = .ok 1 w := Try.sizeOf10 w
theorem it_10 : ITy Try.prog 10 [.string ⟨#[]⟩] 16 := ⟨⟨_, (rfl : Try.prog.info? 10 = some Try.t10), rfl, rfl, _, rfl, rfl⟩⟩
theorem un_11 : Try.prog.underlying 11 = some (.string) := Try.underlying11
theorem us_11 : (Try.prog.underlying 11).isSome = true := by rw [un_11]; rfl
theorem ag_11 (w : World) : (isAgg 11).run Try.prog w = .ok false w := Try.isAgg11 w
theorem sz_11 (w : World) : (sizeOf 11).run Try.prog w = .ok 1 w := Try.sizeOf11 w
theorem it_11 : ITy Try.prog 11 [.string ⟨#[]⟩] 16 := ⟨⟨_, (rfl : Try.prog.info? 11 = some Try.t11), rfl, rfl, _, rfl, rfl⟩⟩
theorem un_12 : Try.prog.underlying 12 = some (.int .u64) := Try.underlying12
theorem us_12 : (Try.prog.underlying 12).isSome = true := by rw [un_12]; rfl
theorem ag_12 (w : World) : (isAgg 12).run Try.prog w = .ok false w := Try.isAgg12 w
theorem sz_12 (w : World) : (sizeOf 12).run Try.prog w = .ok 1 w := Try.sizeOf12 w
theorem it_12 : ITy Try.prog 12 [.int .u64 0] 8 := ⟨⟨_, (rfl : Try.prog.info? 12 = some Try.t12), rfl, rfl, _, rfl, rfl⟩⟩
theorem us_13 : (Try.prog.underlying 13).isSome = true := by rw [Try.underlying13]; rfl
theorem ag_13 (w : World) : (isAgg 13).run Try.prog w = .ok true w := Try.isAgg13 w
theorem sz_13 (w : World) : (sizeOf 13).run Try.prog w = .ok 2 w := Try.sizeOf13 w
theorem it_13 : ITy Try.prog 13 [.string ⟨#[]⟩, .int .u64 0] 24 := ⟨⟨_, (rfl : Try.prog.info? 13 = some Try.t13), rfl, rfl, _, rfl, rfl⟩⟩
theorem us_14 : (Try.prog.underlying 14).isSome = true := by rw [Try.underlying14]; rfl
theorem ag_14 (w : World) : (isAgg 14).run Try.prog w = .ok true w := Try.isAgg14 w
theorem sz_14 (w : World) : (sizeOf 14).run Try.prog w = .ok 2 w := Try.sizeOf14 w
theorem it_14 : ITy Try.prog 14 [.string ⟨#[]⟩, .int .u64 0] 24 := ⟨⟨_, (rfl : Try.prog.info? 14 = some Try.t14), rfl, rfl, _, rfl, rfl⟩⟩
theorem un_15 : Try.prog.underlying 15 = some (.pointer 62) := Try.underlying15
theorem us_15 : (Try.prog.underlying 15).isSome = true := by rw [un_15]; rfl
theorem ag_15 (w : World) : (isAgg 15).run Try.prog w = .ok false w := Try.isAgg15 w
theorem sz_15 (w : World) : (sizeOf 15).run Try.prog w = .ok 1 w := Try.sizeOf15 w
theorem it_15 : ITy Try.prog 15 [.pointer none] 8 := ⟨⟨_, (rfl : Try.prog.info? 15 = some Try.t15), rfl, rfl, _, rfl, rfl⟩⟩
theorem un_16 : Try.prog.underlying 16 = some (.pointer 65) := Try.underlying16
theorem us_16 : (Try.prog.underlying 16).isSome = true := by rw [un_16]; rfl
theorem ag_16 (w : World) : (isAgg 16).run Try.prog w = .ok false w := Try.isAgg16 w
theorem sz_16 (w : World) : (sizeOf 16).run Try.prog w = .ok 1 w := Try.sizeOf16 w
theorem it_16 : ITy Try.prog 16 [.pointer none] 8 := ⟨⟨_, (rfl : Try.prog.info? 16 = some Try.t16), rfl, rfl, _, rfl, rfl⟩⟩
theorem un_17 : Try.prog.underlying 17 = some (.pointer 75) := Try.underlying17
theorem us_17 : (Try.prog.underlying 17).isSome = true := by rw [un_17]; rfl
theorem ag_17 (w : World) : (isAgg 17).run Try.prog w = .ok false w := Try.isAgg17 w
theorem sz_17 (w : World) : (sizeOf 17).run Try.prog w = .ok 1 w := Try.sizeOf17 w
theorem it_17 : ITy Try.prog 17 [.pointer none] 8 := ⟨⟨_, (rfl : Try.prog.info? 17 = some Try.t17), rfl, rfl, _, rfl, rfl⟩⟩
theorem us_18 : (Try.prog.underlying 18).isSome = true := by rw [Try.underlying18]; rfl
theorem ag_18 (w : World) : (isAgg 18).run Try.prog w = .ok true w := Try.isAgg18 w
theorem sz_18 (w : World) : (sizeOf 18).run Try.prog w = .ok 1 w := Try.sizeOf18 w
theorem it_18 : ITy Try.prog 18 [.pointer none] 8 := ⟨⟨_, (rfl : Try.prog.info? 18 = some Try.t18), rfl, rfl, _, rfl, rfl⟩⟩
theorem us_19 : (Try.prog.underlying 19).isSome = true := by rw [Try.underlying19]; rfl
theorem ag_19 (w : World) : (isAgg 19).run Try.prog w = .ok true w := Try.isAgg19 w
theorem sz_19 (w : World) : (sizeOf 19).run Try.prog w = .ok 1 w := Try.sizeOf19 w
theorem it_19 : ITy Try.prog 19 [.pointer none] 8 := ⟨⟨_, (rfl : Try.prog.info? 19 = some Try.t19), rfl, rfl, _, rfl, rfl⟩⟩
theorem un_21 : Try.prog.underlying 21 = some (.int .i32) := Try.underlying21
theorem us_21 : (Try.prog.underlying 21).isSome = true := by rw [un_21]; rfl
theorem ag_21 (w : World) : (isAgg 21).run Try.prog w = .ok false w := Try.isAgg21 w
theorem sz_21 (w : World) : (sizeOf 21).run Try.prog w = .ok 1 w := Try.sizeOf21 w
theorem it_21 : ITy Try.prog 21 [.int .i32 0] 4 := ⟨⟨_, (rfl : Try.prog.info? 21 = some Try.t21), rfl, rfl, _, rfl, rfl⟩⟩
theorem st_22 : STy Try.prog 22 21 1 := ⟨Try.underlying22, Try.sizeOf21⟩
theorem un_22 : Try.prog.underlying 22 = some (.slice 21) := Try.underlying22
theorem us_22 : (Try.prog.underlying 22).isSome = true := by rw [un_22]; rfl
theorem ag_22 (w : World) : (isAgg 22).run Try.prog w = .ok false w := Try.isAgg22 w
theorem sz_22 (w : World) : (sizeOf 22).run Try.prog w = .ok 1 w := Try.sizeOf22 w
theorem it_22 : ITy Try.prog 22 [.slice none 0 0] 24 := ⟨⟨_, (rfl : Try.prog.info? 22 = some Try.t22), rfl, rfl, _, rfl, rfl⟩⟩
theorem un_23 : Try.prog.underlying 23 = some (.array 3 22) := Try.underlying23
theorem us_23 : (Try.prog.underlying 23).isSome = true := by rw [un_23]; rfl
theorem ag_23 (w : World) : (isAgg 23).run Try.prog w = .ok true w := Try.isAgg23 w
theorem sz_23 (w : World) : (sizeOf 23).run Try.prog w = .ok 3 w := Try.sizeOf23 w
theorem it_23 : ITy Try.prog 23 [.slice none 0 0, .slice none 0 0, .slice none 0 0] 72 := ⟨⟨_, (rfl : Try.prog.info? 23 = some Try.t23), rfl, rfl, _, rfl, rfl⟩⟩
theorem un_24 : Try.prog.underlying 24 = some (.array 4 5) := Try.underlying24
theorem us_24 : (Try.prog.underlying 24).isSome = true := by rw [un_24]; rfl
theorem ag_24 (w : World) : (isAgg 24).run Try.prog w = .ok true w := Try.isAgg24 w
theorem sz_24 (w : World) : (sizeOf 24).run Try.prog w = .ok 4 w := Try.sizeOf24 w
theorem it_24 : ITy Try.prog 24 [.int .u8 0, .int .u8 0, .int .u8 0, .int .u8 0] 4 := ⟨⟨_, (rfl : Try.prog.info? 24 = some Try.t24), rfl, rfl, _, rfl, rfl⟩⟩
theorem st_26 : STy Try.prog 26 3 1 := ⟨Try.underlying26, Try.sizeOf3⟩
theorem un_26 : Try.prog.underlying 26 = some (.slice 3) := Try.underlying26
theorem us_26 : (Try.prog.underlying 26).isSome = true := by rw [un_26]; rfl
theorem ag_26 (w : World) : (isAgg 26).run Try.prog w = .ok false w := Try.isAgg26 w
theorem sz_26 (w : World) : (sizeOf 26).run Try.prog w = .ok 1 w := Try.sizeOf26 w
theorem it_26 : ITy Try.prog 26 [.slice none 0 0] 24 := ⟨⟨_, (rfl : Try.prog.info? 26 = some Try.t26), rfl, rfl, _, rfl, rfl⟩⟩
theorem us_27 : (Try.prog.underlying 27).isSome = true := by rw [Try.underlying27]; rfl
theorem ag_27 (w : World) : (isAgg 27).run Try.prog w = .ok true w := Try.isAgg27 w
theorem sz_27 (w : World) : (sizeOf 27).run Try.prog w = .ok 2 w := Try.sizeOf27 w
theorem it_27 : ITy Try.prog 27 [.slice none 0 0, .slice none 0 0] 48 := ⟨⟨_, (rfl : Try.prog.info? 27 = some Try.t27), rfl, rfl, _, rfl, rfl⟩⟩
theorem us_28 : (Try.prog.underlying 28).isSome = true := by rw [Try.underlying28]; rfl
theorem ag_28 (w : World) : (isAgg 28).run Try.prog w = .ok true w := Try.isAgg28 w
theorem sz_28 (w : World) : (sizeOf 28).run Try.prog w = .ok 2 w := Try.sizeOf28 w
theorem it_28 : ITy Try.prog 28 [.slice none 0 0, .slice none 0 0] 48 := ⟨⟨_, (rfl : Try.prog.info? 28 = some Try.t28), rfl, rfl, _, rfl, rfl⟩⟩
theorem un_30 : Try.prog.underlying 30 = some (.int .i64) := Try.underlying30
theorem us_30 : (Try.prog.underlying 30).isSome = true := by rw [un_30]; rfl
theorem ag_30 (w : World) : (isAgg 30).run Try.prog w = .ok false w := Try.isAgg30 w
theorem sz_30 (w : World) : (sizeOf 30).run Try.prog w = .ok 1 w := Try.sizeOf30 w
theorem it_30 : ITy Try.prog 30 [.int .i64 0] 8 := ⟨⟨_, (rfl : Try.prog.info? 30 = some Try.t30), rfl, rfl, _, rfl, rfl⟩⟩
theorem un_35 : Try.prog.underlying 35 = some (.array 2 5) := Try.underlying35
theorem us_35 : (Try.prog.underlying 35).isSome = true := by rw [un_35]; rfl
theorem ag_35 (w : World) : (isAgg 35).run Try.prog w = .ok true w := Try.isAgg35 w
theorem sz_35 (w : World) : (sizeOf 35).run Try.prog w = .ok 2 w := Try.sizeOf35 w
theorem it_35 : ITy Try.prog 35 [.int .u8 0, .int .u8 0] 2 := ⟨⟨_, (rfl : Try.prog.info? 35 = some Try.t35), rfl, rfl, _, rfl, rfl⟩⟩
theorem un_39 : Try.prog.underlying 39 = some (.array 3 5) := Try.underlying39
theorem us_39 : (Try.prog.underlying 39).isSome = true := by rw [un_39]; rfl
theorem ag_39 (w : World) : (isAgg 39).run Try.prog w = .ok true w := Try.isAgg39 w
theorem sz_39 (w : World) : (sizeOf 39).run Try.prog w = .ok 3 w := Try.sizeOf39 w
theorem it_39 : ITy Try.prog 39 [.int .u8 0, .int .u8 0, .int .u8 0] 3 := ⟨⟨_, (rfl : Try.prog.info? 39 = some Try.t39), rfl, rfl, _, rfl, rfl⟩⟩
theorem us_48 : (Try.prog.underlying 48).isSome = true := by rw [Try.underlying48]; rfl
theorem ag_48 (w : World) : (isAgg 48).run Try.prog w = .ok false w := Try.isAgg48 w
theorem sz_48 (w : World) : (sizeOf 48).run Try.prog w = .ok 1 w := Try.sizeOf48 w
theorem it_48 : ITy Try.prog 48 [.nilFunc] 8 := ⟨⟨_, (rfl : Try.prog.info? 48 = some Try.t48), rfl, rfl, _, rfl, rfl⟩⟩
theorem us_53 : (Try.prog.underlying 53).isSome = true := by rw [Try.underlying53]; rfl
theorem ag_53 (w : World) : (isAgg 53).run Try.prog w = .ok false w := Try.isAgg53 w
theorem sz_53 (w : World) : (sizeOf 53).run Try.prog w = .ok 1 w := Try.sizeOf53 w
theorem it_53 : ITy Try.prog 53 [.nilFunc] 8 := ⟨⟨_, (rfl : Try.prog.info? 53 = some Try.t53), rfl, rfl, _, rfl, rfl⟩⟩
theorem us_54 : (Try.prog.underlying 54).isSome = true := by rw [Try.underlying54]; rfl
theorem ag_54 (w : World) : (isAgg 54).run Try.prog w = .ok true w := Try.isAgg54 w
theorem sz_54 (w : World) : (sizeOf 54).run Try.prog w = .ok 1 w := Try.sizeOf54 w
theorem it_54 : ITy Try.prog 54 [.nilFunc] 8 := ⟨⟨_, (rfl : Try.prog.info? 54 = some Try.t54), rfl, rfl, _, rfl, rfl⟩⟩
theorem us_55 : (Try.prog.underlying 55).isSome = true := by rw [Try.underlying55]; rfl
theorem ag_55 (w : World) : (isAgg 55).run Try.prog w = .ok true w := Try.isAgg55 w
theorem sz_55 (w : World) : (sizeOf 55).run Try.prog w = .ok 1 w := Try.sizeOf55 w
theorem it_55 : ITy Try.prog 55 [.nilFunc] 8 := ⟨⟨_, (rfl : Try.prog.info? 55 = some Try.t55), rfl, rfl, _, rfl, rfl⟩⟩
theorem st_59 : STy Try.prog 59 28 2 := ⟨Try.underlying59, Try.sizeOf28⟩
theorem un_59 : Try.prog.underlying 59 = some (.slice 28) := Try.underlying59
theorem us_59 : (Try.prog.underlying 59).isSome = true := by rw [un_59]; rfl
theorem ag_59 (w : World) : (isAgg 59).run Try.prog w = .ok false w := Try.isAgg59 w
theorem sz_59 (w : World) : (sizeOf 59).run Try.prog w = .ok 1 w := Try.sizeOf59 w
theorem it_59 : ITy Try.prog 59 [.slice none 0 0] 24 := ⟨⟨_, (rfl : Try.prog.info? 59 = some Try.t59), rfl, rfl, _, rfl, rfl⟩⟩
theorem us_61 : (Try.prog.underlying 61).isSome = true := by rw [Try.underlying61]; rfl
theorem ag_61 (w : World) : (isAgg 61).run Try.prog w = .ok true w := Try.isAgg61 w
theorem sz_61 (w : World) : (sizeOf 61).run Try.prog w = .ok 4 w := Try.sizeOf61 w
theorem it_61 : ITy Try.prog 61 [.pointer none, .pointer none, .pointer none, .string ⟨#[]⟩] 40 := ⟨⟨_, (rfl : Try.prog.info? 61 = some Try.t61), rfl, rfl, _, rfl, rfl⟩⟩
theorem us_62 : (Try.prog.underlying 62).isSome = true := by rw [Try.underlying62]; rfl
theorem ag_62 (w : World) : (isAgg 62).run Try.prog w = .ok true w := Try.isAgg62 w
theorem sz_62 (w : World) : (sizeOf 62).run Try.prog w = .ok 4 w := Try.sizeOf62 w
theorem it_62 : ITy Try.prog 62 [.pointer none, .pointer none, .pointer none, .string ⟨#[]⟩] 40 := ⟨⟨_, (rfl : Try.prog.info? 62 = some Try.t62), rfl, rfl, _, rfl, rfl⟩⟩
theorem un_63 : Try.prog.underlying 63 = some (.array 0 16) := Try.underlying63
theorem us_63 : (Try.prog.underlying 63).isSome = true := by rw [un_63]; rfl
theorem ag_63 (w : World) : (isAgg 63).run Try.prog w = .ok true w := Try.isAgg63 w
theorem sz_63 (w : World) : (sizeOf 63).run Try.prog w = .ok 0 w := Try.sizeOf63 w
theorem it_63 : ITy Try.prog 63 [] 0 := ⟨⟨_, (rfl : Try.prog.info? 63 = some Try.t63), rfl, rfl, _, rfl, rfl⟩⟩
theorem us_64 : (Try.prog.underlying 64).isSome = true := by rw [Try.underlying64]; rfl
theorem ag_64 (w : World) : (isAgg 64).run Try.prog w = .ok true w := Try.isAgg64 w
theorem sz_64 (w : World) : (sizeOf 64).run Try.prog w = .ok 0 w := Try.sizeOf64 w
theorem it_64 : ITy Try.prog 64 [] 0 := ⟨⟨_, (rfl : Try.prog.info? 64 = some Try.t64), rfl, rfl, _, rfl, rfl⟩⟩
theorem us_65 : (Try.prog.underlying 65).isSome = true := by rw [Try.underlying65]; rfl
theorem ag_65 (w : World) : (isAgg 65).run Try.prog w = .ok true w := Try.isAgg65 w
theorem sz_65 (w : World) : (sizeOf 65).run Try.prog w = .ok 0 w := Try.sizeOf65 w
theorem it_65 : ITy Try.prog 65 [] 0 := ⟨⟨_, (rfl : Try.prog.info? 65 = some Try.t65), rfl, rfl, _, rfl, rfl⟩⟩
theorem un_67 : Try.prog.underlying 67 = some (.int .u32) := Try.underlying67
theorem us_67 : (Try.prog.underlying 67).isSome = true := by rw [un_67]; rfl
theorem ag_67 (w : World) : (isAgg 67).run Try.prog w = .ok false w := Try.isAgg67 w
theorem sz_67 (w : World) : (sizeOf 67).run Try.prog w = .ok 1 w := Try.sizeOf67 w
theorem it_67 : ITy Try.prog 67 [.int .u32 0] 4 := ⟨⟨_, (rfl : Try.prog.info? 67 = some Try.t67), rfl, rfl, _, rfl, rfl⟩⟩
theorem un_68 : Try.prog.underlying 68 = some (.int .u8) := Try.underlying68
theorem us_68 : (Try.prog.underlying 68).isSome = true := by rw [un_68]; rfl
theorem ag_68 (w : World) : (isAgg 68).run Try.prog w = .ok false w := Try.isAgg68 w
theorem sz_68 (w : World) : (sizeOf 68).run Try.prog w = .ok 1 w := Try.sizeOf68 w
theorem it_68 : ITy Try.prog 68 [.int .u8 0] 1 := ⟨⟨_, (rfl : Try.prog.info? 68 = some Try.t68), rfl, rfl, _, rfl, rfl⟩⟩
theorem un_69 : Try.prog.underlying 69 = some (.int .u8) := Try.underlying69
theorem us_69 : (Try.prog.underlying 69).isSome = true := by rw [un_69]; rfl
theorem ag_69 (w : World) : (isAgg 69).run Try.prog w = .ok false w := Try.isAgg69 w
theorem sz_69 (w : World) : (sizeOf 69).run Try.prog w = .ok 1 w := Try.sizeOf69 w
theorem it_69 : ITy Try.prog 69 [.int .u8 0] 1 := ⟨⟨_, (rfl : Try.prog.info? 69 = some Try.t69), rfl, rfl, _, rfl, rfl⟩⟩
theorem us_70 : (Try.prog.underlying 70).isSome = true := by rw [Try.underlying70]; rfl
theorem ag_70 (w : World) : (isAgg 70).run Try.prog w = .ok false w := Try.isAgg70 w
theorem sz_70 (w : World) : (sizeOf 70).run Try.prog w = .ok 1 w := Try.sizeOf70 w
theorem it_70 : ITy Try.prog 70 [.nilFunc] 8 := ⟨⟨_, (rfl : Try.prog.info? 70 = some Try.t70), rfl, rfl, _, rfl, rfl⟩⟩
theorem un_71 : Try.prog.underlying 71 = some (.pointer 5) := Try.underlying71
theorem us_71 : (Try.prog.underlying 71).isSome = true := by rw [un_71]; rfl
theorem ag_71 (w : World) : (isAgg 71).run Try.prog w = .ok false w := Try.isAgg71 w
theorem sz_71 (w : World) : (sizeOf 71).run Try.prog w = .ok 1 w := Try.sizeOf71 w
theorem it_71 : ITy Try.prog 71 [.pointer none] 8 := ⟨⟨_, (rfl : Try.prog.info? 71 = some Try.t71), rfl, rfl, _, rfl, rfl⟩⟩
theorem un_72 : Try.prog.underlying 72 = some (.int .i32) := Try.underlying72
theorem us_72 : (Try.prog.underlying 72).isSome = true := by rw [un_72]; rfl
theorem ag_72 (w : World) : (isAgg 72).run Try.prog w = .ok false w := Try.isAgg72 w
theorem sz_72 (w : World) : (sizeOf 72).run Try.prog w = .ok 1 w := Try.sizeOf72 w
theorem it_72 : ITy Try.prog 72 [.int .i32 0] 4 := ⟨⟨_, (rfl : Try.prog.info? 72 = some Try.t72), rfl, rfl, _, rfl, rfl⟩⟩
theorem un_73 : Try.prog.underlying 73 = some (.int .i32) := Try.underlying73
theorem us_73 : (Try.prog.underlying 73).isSome = true := by rw [un_73]; rfl
theorem ag_73 (w : World) : (isAgg 73).run Try.prog w = .ok false w := Try.isAgg73 w
theorem sz_73 (w : World) : (sizeOf 73).run Try.prog w = .ok 1 w := Try.sizeOf73 w
theorem it_73 : ITy Try.prog 73 [.int .i32 0] 4 := ⟨⟨_, (rfl : Try.prog.info? 73 = some Try.t73), rfl, rfl, _, rfl, rfl⟩⟩
theorem us_74 : (Try.prog.underlying 74).isSome = true := by rw [Try.underlying74]; rfl
theorem ag_74 (w : World) : (isAgg 74).run Try.prog w = .ok true w := Try.isAgg74 w
theorem sz_74 (w : World) : (sizeOf 74).run Try.prog w = .ok 11 w := Try.sizeOf74 w
theorem it_74 : ITy Try.prog 74 [.int .u64 0, .int .u64 0, .int .u32 0, .int .u8 0, .int .u8 0, .int .u8 0, .int .u8 0, .nilFunc, .pointer none, .int .i32 0, .int .i32 0] 48 := ⟨⟨_, (rfl : Try.prog.info? 74 = some Try.t74), rfl, rfl, _, rfl, rfl⟩⟩
theorem us_75 : (Try.prog.underlying 75).isSome = true := by rw [Try.underlying75]; rfl
theorem ag_75 (w : World) : (isAgg 75).run Try.prog w = .ok true w := Try.isAgg75 w
theorem sz_75 (w : World) : (sizeOf 75).run Try.prog w = .ok 11 w := Try.sizeOf75 w
theorem it_75 : ITy Try.prog 75 [.int .u64 0, .int .u64 0, .int .u32 0, .int .u8 0, .int .u8 0, .int .u8 0, .int .u8 0, .nilFunc, .pointer none, .int .i32 0, .int .i32 0] 48 := ⟨⟨_, (rfl : Try.prog.info? 75 = some Try.t75), rfl, rfl, _, rfl, rfl⟩⟩
end Go.Proofs.Ytdliencelkdibaa
