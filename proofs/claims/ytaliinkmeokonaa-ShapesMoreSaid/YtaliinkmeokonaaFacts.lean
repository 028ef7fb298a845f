/- Closed facts on the types of this seat: printed by a program of ours. -/
import Derived.Test.YtaliinkmeokonaaReg
import Derived.Test.YtaliinkmeokonaaProg
namespace Go.Proofs.Ytaliinkmeokonaa
open Go Go.Dd

theorem mixed : Try.prog.follows .mixedOrders = true := by kernel_rfl
theorem us_1 : (Try.prog.underlying 1).isSome = true := by rw [Try.underlying1]; rfl
theorem ag_1 (w : World) : (isAgg 1).run Try.prog w = .ok false w := Try.isAgg1 w
theorem sz_1 (w : World) : (sizeOf 1).run Try.prog w = .ok 1 w := Try.sizeOf1 w
theorem it_1 : ITy Try.prog 1 [.nilFunc] 8 := ⟨⟨_, (rfl : Try.prog.info? 1 = some Try.t1), rfl, rfl, _, rfl, rfl⟩⟩
theorem un_2 : Try.prog.underlying 2 = some (.int .i64) := Try.underlying2
theorem us_2 : (Try.prog.underlying 2).isSome = true := by rw [un_2]; rfl
theorem ag_2 (w : World) : (isAgg 2).run Try.prog w = .ok false w := Try.isAgg2 w
theorem sz_2 (w : World) : (sizeOf 2).run Try.prog w = .ok 1 w := Try.sizeOf2 w
theorem it_2 : ITy Try.prog 2 [.int .i64 0] 8 := ⟨⟨_, (rfl : Try.prog.info? 2 = some Try.t2), rfl, rfl, _, rfl, rfl⟩⟩
theorem un_3 : Try.prog.underlying 3 = some (.int .i64) := Try.underlying3
theorem us_3 : (Try.prog.underlying 3).isSome = true := by rw [un_3]; rfl
theorem ag_3 (w : World) : (isAgg 3).run Try.prog w = .ok false w := Try.isAgg3 w
theorem sz_3 (w : World) : (sizeOf 3).run Try.prog w = .ok 1 w := Try.sizeOf3 w
theorem it_3 : ITy Try.prog 3 [.int .i64 0] 8 := ⟨⟨_, (rfl : Try.prog.info? 3 = some Try.t3), rfl, rfl, _, rfl, rfl⟩⟩
theorem un_4 : Try.prog.underlying 4 = some (.bool) := Try.underlying4
theorem us_4 : (Try.prog.underlying 4).isSome = true := by rw [un_4]; rfl
theorem ag_4 (w : World) : (isAgg 4).run Try.prog w = .ok false w := Try.isAgg4 w
theorem sz_4 (w : World) : (sizeOf 4).run Try.prog w = .ok 1 w := Try.sizeOf4 w
theorem it_4 : ITy Try.prog 4 [.bool false] 1 := ⟨⟨_, (rfl : Try.prog.info? 4 = some Try.t4), rfl, rfl, _, rfl, rfl⟩⟩
theorem un_5 : Try.prog.underlying 5 = some (.int .u8) := Try.underlying5
theorem us_5 : (Try.prog.underlying 5).isSome = true := by rw [un_5]; rfl
theorem ag_5 (w : World) : (isAgg 5).run Try.prog w = .ok false w := Try.isAgg5 w
theorem sz_5 (w : World) : (sizeOf 5).run Try.prog w = .ok 1 w := Try.sizeOf5 w
theorem it_5 : ITy Try.prog 5 [.int .u8 0] 1 := ⟨⟨_, (rfl : Try.prog.info? 5 = some Try.t5), rfl, rfl, _, rfl, rfl⟩⟩
theorem un_6 : Try.prog.underlying 6 = some (.int .u8) := Try.underlying6
theorem us_6 : (Try.prog.underlying 6).isSome = true := by rw [un_6]; rfl
theorem ag_6 (w : World) : (isAgg 6).run Try.prog w = .ok false w := Try.isAgg6 w
theorem sz_6 (w : World) : (sizeOf 6).run Try.prog w = .ok 1 w := Try.sizeOf6 w
theorem it_6 : ITy Try.prog 6 [.int .u8 0] 1 := ⟨⟨_, (rfl : Try.prog.info? 6 = some Try.t6), rfl, rfl, _, rfl, rfl⟩⟩
theorem us_7 : (Try.prog.underlying 7).isSome = true := by rw [Try.underlying7]; rfl
theorem ag_7 (w : World) : (isAgg 7).run Try.prog w = .ok true w := Try.isAgg7 w
theorem sz_7 (w : World) : (sizeOf 7).run Try.prog w = .ok 4 w := Try.sizeOf7 w
theorem it_7 : ITy Try.prog 7 [.int .i64 0, .int .i64 0, .bool false, .int .u8 0] 24 := ⟨⟨_, (rfl : Try.prog.info? 7 = some Try.t7), rfl, rfl, _, rfl, rfl⟩⟩
theorem us_8 : (Try.prog.underlying 8).isSome = true := by rw [Try.underlying8]; rfl
theorem ag_8 (w : World) : (isAgg 8).run Try.prog w = .ok true w := Try.isAgg8 w
theorem sz_8 (w : World) : (sizeOf 8).run Try.prog w = .ok 4 w := Try.sizeOf8 w
theorem it_8 : ITy Try.prog 8 [.int .i64 0, .int .i64 0, .bool false, .int .u8 0] 24 := ⟨⟨_, (rfl : Try.prog.info? 8 = some Try.t8), rfl, rfl, _, rfl, rfl⟩⟩
theorem un_9 : Try.prog.underlying 9 = some (.string) := Try.underlying9
theorem us_9 : (Try.prog.underlying 9).isSome = true := by rw [un_9]; rfl
theorem ag_9 (w : World) : (isAgg 9).run Try.prog w = .ok false w := Try.isAgg9 w
theorem sz_9 (w : World) : (sizeOf 9).run Try.prog w = .ok 1 w := Try.sizeOf9 w
theorem it_9 : ITy Try.prog 9 [.string ⟨#[]⟩] 16 := ⟨⟨_, (rfl : Try.prog.info? 9 = some Try.t9), rfl, rfl, _, rfl, rfl⟩⟩
theorem un_10 : Try.prog.underlying 10 = some (.string) := Try.underlying10
theorem us_10 : (Try.prog.underlying 10).isSome = true := by rw [un_10]; rfl
theorem ag_10 (w : World) : (isAgg 10).run Try.prog w = .ok false w := Try.isAgg10 w
theorem sz_10 (w : World) : (sizeOf 10).run Try.prog w = .ok 1 w := Try.sizeOf10 w
theorem it_10 : ITy Try.prog 10 [.string ⟨#[]⟩] 16 := ⟨⟨_, (rfl : Try.prog.info? 10 = some Try.t10), rfl, rfl, _, rfl, rfl⟩⟩
theorem un_11 : Try.prog.underlying 11 = some (.string) := Try.underlying11
theorem us_11 : (Try.prog.underlying 11).isSome = true := by rw [un_11]; rfl
theorem ag_11 (w : World) : (isAgg 11).run Try.prog w = .ok false w := Try.isAgg11 w
theorem sz_11 (w : World) : (sizeOf 11).run Try.prog w = .ok 1 w := Try.sizeOf11 w
theorem it_11 : ITy Try.prog 11 [.string ⟨#[]⟩] 16 := ⟨⟨_, (rfl : Try.prog.info? 11 = some Try.t11), rfl, rfl, _, rfl, rfl⟩⟩
theorem un_12 : Try.prog.underlying 12 = some (.int .u64) := Try.underlying12
theorem us_12 : (Try.prog.underlying 12).isSome = true := by rw [un_12]; rfl
theorem ag_12 (w : World) : (isAgg 12).run Try.prog w = .ok false w := Try.isAgg12 w
theorem sz_12 (w : World) : (sizeOf 12).run Try.prog w = .ok 1 w := Try.sizeOf12 w
theorem it_12 : ITy Try.prog 12 [.int .u64 0] 8 := ⟨⟨_, (rfl : Try.prog.info? 12 = some Try.t12), rfl, rfl, _, rfl, rfl⟩⟩
theorem us_13 : (Try.prog.underlying 13).isSome = true := by rw [Try.underlying13]; rfl
theorem ag_13 (w : World) : (isAgg 13).run Try.prog w = .ok true w := Try.isAgg13 w
theorem sz_13 (w : World) : (sizeOf 13).run Try.prog w = .ok 2 w := Try.sizeOf13 w
theorem it_13 : ITy Try.prog 13 [.string ⟨#[]⟩, .int .u64 0] 24 := ⟨⟨_, (rfl : Try.prog.info? 13 = some Try.t13), rfl, rfl, _, rfl, rfl⟩⟩
theorem us_14 : (Try.prog.underlying 14).isSome = true := by rw [Try.underlying14]; rfl
theorem ag_14 (w : World) : (isAgg 14).run Try.prog w = .ok true w := Try.isAgg14 w
theorem sz_14 (w : World) : (sizeOf 14).run Try.prog w = .ok 2 w := Try.sizeOf14 w
theorem it_14 : ITy Try.prog 14 [.string ⟨#[]⟩, .int .u64 0] 24 := ⟨⟨_, (rfl : Try.prog.info? 14 = some Try.t14), rfl, rfl, _, rfl, rfl⟩⟩
theorem un_15 : Try.prog.underlying 15 = some (.pointer 43) := Try.underlying15
theorem us_15 : (Try.prog.underlying 15).isSome = true := by rw [un_15]; rfl
theorem ag_15 (w : World) : (isAgg 15).run Try.prog w = .ok false w := Try.isAgg15 w
theorem sz_15 (w : World) : (sizeOf 15).run Try.prog w = .ok 1 w := Try.sizeOf15 w
theorem it_15 : ITy Try.prog 15 [.pointer none] 8 := ⟨⟨_, (rfl : Try.prog.info? 15 = some Try.t15), rfl, rfl, _, rfl, rfl⟩⟩
theorem un_16 : Try.prog.underlying 16 = some (.pointer 46) := Try.underlying16
theorem us_16 : (Try.prog.underlying 16).isSome = true := by rw [un_16]; rfl
theorem ag_16 (w : World) : (isAgg 16).run Try.prog w = .ok false w := Try.isAgg16 w
theorem sz_16 (w : World) : (sizeOf 16).run Try.prog w = .ok 1 w := Try.sizeOf16 w
theorem it_16 : ITy Try.prog 16 [.pointer none] 8 := ⟨⟨_, (rfl : Try.prog.info? 16 = some Try.t16), rfl, rfl, _, rfl, rfl⟩⟩
theorem un_17 : Try.prog.underlying 17 = some (.pointer 56) := Try.underlying17
theorem us_17 : (Try.prog.underlying 17).isSome = true := by rw [un_17]; rfl
theorem ag_17 (w : World) : (isAgg 17).run Try.prog w = .ok false w := Try.isAgg17 w
theorem sz_17 (w : World) : (sizeOf 17).run Try.prog w = .ok 1 w := Try.sizeOf17 w
theorem it_17 : ITy Try.prog 17 [.pointer none] 8 := ⟨⟨_, (rfl : Try.prog.info? 17 = some Try.t17), rfl, rfl, _, rfl, rfl⟩⟩
theorem us_18 : (Try.prog.underlying 18).isSome = true := by rw [Try.underlying18]; rfl
theorem ag_18 (w : World) : (isAgg 18).run Try.prog w = .ok true w := Try.isAgg18 w
theorem sz_18 (w : World) : (sizeOf 18).run Try.prog w = .ok 1 w := Try.sizeOf18 w
theorem it_18 : ITy Try.prog 18 [.pointer none] 8 := ⟨⟨_, (rfl : Try.prog.info? 18 = some Try.t18), rfl, rfl, _, rfl, rfl⟩⟩
theorem us_19 : (Try.prog.underlying 19).isSome = true := by rw [Try.underlying19]; rfl
theorem ag_19 (w : World) : (isAgg 19).run Try.prog w = .ok true w := Try.isAgg19 w
theorem sz_19 (w : World) : (sizeOf 19).run Try.prog w = .ok 1 w := Try.sizeOf19 w
theorem it_19 : ITy Try.prog 19 [.pointer none] 8 := ⟨⟨_, (rfl : Try.prog.info? 19 = some Try.t19), rfl, rfl, _, rfl, rfl⟩⟩
theorem un_21 : Try.prog.underlying 21 = some (.int .i32) := Try.underlying21
theorem us_21 : (Try.prog.underlying 21).isSome = true := by rw [un_21]; rfl
theorem ag_21 (w : World) : (isAgg 21).run Try.prog w = .ok false w := Try.isAgg21 w
theorem sz_21 (w : World) : (sizeOf 21).run Try.prog w = .ok 1 w := Try.sizeOf21 w
theorem it_21 : ITy Try.prog 21 [.int .i32 0] 4 := ⟨⟨_, (rfl : Try.prog.info? 21 = some Try.t21), rfl, rfl, _, rfl, rfl⟩⟩
theorem st_22 : STy Try.prog 22 3 1 := ⟨Try.underlying22, Try.sizeOf3⟩
theorem un_22 : Try.prog.underlying 22 = some (.slice 3) := Try.underlying22
theorem us_22 : (Try.prog.underlying 22).isSome = true := by rw [un_22]; rfl
theorem ag_22 (w : World) : (isAgg 22).run Try.prog w = .ok false w := Try.isAgg22 w
theorem sz_22 (w : World) : (sizeOf 22).run Try.prog w = .ok 1 w := Try.sizeOf22 w
theorem it_22 : ITy Try.prog 22 [.slice none 0 0] 24 := ⟨⟨_, (rfl : Try.prog.info? 22 = some Try.t22), rfl, rfl, _, rfl, rfl⟩⟩
theorem un_26 : Try.prog.underlying 26 = some (.int .i64) := Try.underlying26
theorem us_26 : (Try.prog.underlying 26).isSome = true := by rw [un_26]; rfl
theorem ag_26 (w : World) : (isAgg 26).run Try.prog w = .ok false w := Try.isAgg26 w
theorem sz_26 (w : World) : (sizeOf 26).run Try.prog w = .ok 1 w := Try.sizeOf26 w
theorem it_26 : ITy Try.prog 26 [.int .i64 0] 8 := ⟨⟨_, (rfl : Try.prog.info? 26 = some Try.t26), rfl, rfl, _, rfl, rfl⟩⟩
theorem us_32 : (Try.prog.underlying 32).isSome = true := by rw [Try.underlying32]; rfl
theorem ag_32 (w : World) : (isAgg 32).run Try.prog w = .ok true w := Try.isAgg32 w
theorem sz_32 (w : World) : (sizeOf 32).run Try.prog w = .ok 2 w := Try.sizeOf32 w
theorem it_32 : ITy Try.prog 32 [.int .i64 0, .int .i64 0] 16 := ⟨⟨_, (rfl : Try.prog.info? 32 = some Try.t32), rfl, rfl, _, rfl, rfl⟩⟩
theorem us_33 : (Try.prog.underlying 33).isSome = true := by rw [Try.underlying33]; rfl
theorem ag_33 (w : World) : (isAgg 33).run Try.prog w = .ok true w := Try.isAgg33 w
theorem sz_33 (w : World) : (sizeOf 33).run Try.prog w = .ok 2 w := Try.sizeOf33 w
theorem it_33 : ITy Try.prog 33 [.int .i64 0, .int .i64 0] 16 := ⟨⟨_, (rfl : Try.prog.info? 33 = some Try.t33), rfl, rfl, _, rfl, rfl⟩⟩
theorem us_40 : (Try.prog.underlying 40).isSome = true := by rw [Try.underlying40]; rfl
theorem ag_40 (w : World) : (isAgg 40).run Try.prog w = .ok false w := Try.isAgg40 w
theorem sz_40 (w : World) : (sizeOf 40).run Try.prog w = .ok 1 w := Try.sizeOf40 w
theorem it_40 : ITy Try.prog 40 [.nilFunc] 8 := ⟨⟨_, (rfl : Try.prog.info? 40 = some Try.t40), rfl, rfl, _, rfl, rfl⟩⟩
theorem us_42 : (Try.prog.underlying 42).isSome = true := by rw [Try.underlying42]; rfl
theorem ag_42 (w : World) : (isAgg 42).run Try.prog w = .ok true w := Try.isAgg42 w
theorem sz_42 (w : World) : (sizeOf 42).run Try.prog w = .ok 4 w := Try.sizeOf42 w
theorem it_42 : ITy Try.prog 42 [.pointer none, .pointer none, .pointer none, .string ⟨#[]⟩] 40 := ⟨⟨_, (rfl : Try.prog.info? 42 = some Try.t42), rfl, rfl, _, rfl, rfl⟩⟩
theorem us_43 : (Try.prog.underlying 43).isSome = true := by rw [Try.underlying43]; rfl
theorem ag_43 (w : World) : (isAgg 43).run Try.prog w = .ok true w := Try.isAgg43 w
theorem sz_43 (w : World) : (sizeOf 43).run Try.prog w = .ok 4 w := Try.sizeOf43 w
theorem it_43 : ITy Try.prog 43 [.pointer none, .pointer none, .pointer none, .string ⟨#[]⟩] 40 := ⟨⟨_, (rfl : Try.prog.info? 43 = some Try.t43), rfl, rfl, _, rfl, rfl⟩⟩
theorem un_44 : Try.prog.underlying 44 = some (.array 0 16) := Try.underlying44
theorem us_44 : (Try.prog.underlying 44).isSome = true := by rw [un_44]; rfl
theorem ag_44 (w : World) : (isAgg 44).run Try.prog w = .ok true w := Try.isAgg44 w
theorem sz_44 (w : World) : (sizeOf 44).run Try.prog w = .ok 0 w := Try.sizeOf44 w
theorem it_44 : ITy Try.prog 44 [] 0 := ⟨⟨_, (rfl : Try.prog.info? 44 = some Try.t44), rfl, rfl, _, rfl, rfl⟩⟩
theorem us_45 : (Try.prog.underlying 45).isSome = true := by rw [Try.underlying45]; rfl
theorem ag_45 (w : World) : (isAgg 45).run Try.prog w = .ok true w := Try.isAgg45 w
theorem sz_45 (w : World) : (sizeOf 45).run Try.prog w = .ok 0 w := Try.sizeOf45 w
theorem it_45 : ITy Try.prog 45 [] 0 := ⟨⟨_, (rfl : Try.prog.info? 45 = some Try.t45), rfl, rfl, _, rfl, rfl⟩⟩
theorem us_46 : (Try.prog.underlying 46).isSome = true := by rw [Try.underlying46]; rfl
theorem ag_46 (w : World) : (isAgg 46).run Try.prog w = .ok true w := Try.isAgg46 w
theorem sz_46 (w : World) : (sizeOf 46).run Try.prog w = .ok 0 w := Try.sizeOf46 w
theorem it_46 : ITy Try.prog 46 [] 0 := ⟨⟨_, (rfl : Try.prog.info? 46 = some Try.t46), rfl, rfl, _, rfl, rfl⟩⟩
theorem un_48 : Try.prog.underlying 48 = some (.int .u32) := Try.underlying48
theorem us_48 : (Try.prog.underlying 48).isSome = true := by rw [un_48]; rfl
theorem ag_48 (w : World) : (isAgg 48).run Try.prog w = .ok false w := Try.isAgg48 w
theorem sz_48 (w : World) : (sizeOf 48).run Try.prog w = .ok 1 w := Try.sizeOf48 w
theorem it_48 : ITy Try.prog 48 [.int .u32 0] 4 := ⟨⟨_, (rfl : Try.prog.info? 48 = some Try.t48), rfl, rfl, _, rfl, rfl⟩⟩
theorem un_49 : Try.prog.underlying 49 = some (.int .u8) := Try.underlying49
theorem us_49 : (Try.prog.underlying 49).isSome = true := by rw [un_49]; rfl
theorem ag_49 (w : World) : (isAgg 49).run Try.prog w = .ok false w := Try.isAgg49 w
theorem sz_49 (w : World) : (sizeOf 49).run Try.prog w = .ok 1 w := Try.sizeOf49 w
theorem it_49 : ITy Try.prog 49 [.int .u8 0] 1 := ⟨⟨_, (rfl : Try.prog.info? 49 = some Try.t49), rfl, rfl, _, rfl, rfl⟩⟩
theorem un_50 : Try.prog.underlying 50 = some (.int .u8) := Try.underlying50
theorem us_50 : (Try.prog.underlying 50).isSome = true := by rw [un_50]; rfl
theorem ag_50 (w : World) : (isAgg 50).run Try.prog w = .ok false w := Try.isAgg50 w
theorem sz_50 (w : World) : (sizeOf 50).run Try.prog w = .ok 1 w := Try.sizeOf50 w
theorem it_50 : ITy Try.prog 50 [.int .u8 0] 1 := ⟨⟨_, (rfl : Try.prog.info? 50 = some Try.t50), rfl, rfl, _, rfl, rfl⟩⟩
theorem us_51 : (Try.prog.underlying 51).isSome = true := by rw [Try.underlying51]; rfl
theorem ag_51 (w : World) : (isAgg 51).run Try.prog w = .ok false w := Try.isAgg51 w
theorem sz_51 (w : World) : (sizeOf 51).run Try.prog w = .ok 1 w := Try.sizeOf51 w
theorem it_51 : ITy Try.prog 51 [.nilFunc] 8 := ⟨⟨_, (rfl : Try.prog.info? 51 = some Try.t51), rfl, rfl, _, rfl, rfl⟩⟩
theorem un_52 : Try.prog.underlying 52 = some (.pointer 5) := Try.underlying52
theorem us_52 : (Try.prog.underlying 52).isSome = true := by rw [un_52]; rfl
theorem ag_52 (w : World) : (isAgg 52).run Try.prog w = .ok false w := Try.isAgg52 w
theorem sz_52 (w : World) : (sizeOf 52).run Try.prog w = .ok 1 w := Try.sizeOf52 w
theorem it_52 : ITy Try.prog 52 [.pointer none] 8 := ⟨⟨_, (rfl : Try.prog.info? 52 = some Try.t52), rfl, rfl, _, rfl, rfl⟩⟩
theorem un_53 : Try.prog.underlying 53 = some (.int .i32) := Try.underlying53
theorem us_53 : (Try.prog.underlying 53).isSome = true := by rw [un_53]; rfl
theorem ag_53 (w : World) : (isAgg 53).run Try.prog w = .ok false w := Try.isAgg53 w
theorem sz_53 (w : World) : (sizeOf 53).run Try.prog w = .ok 1 w := Try.sizeOf53 w
theorem it_53 : ITy Try.prog 53 [.int .i32 0] 4 := ⟨⟨_, (rfl : Try.prog.info? 53 = some Try.t53), rfl, rfl, _, rfl, rfl⟩⟩
theorem un_54 : Try.prog.underlying 54 = some (.int .i32) := Try.underlying54
theorem us_54 : (Try.prog.underlying 54).isSome = true := by rw [un_54]; rfl
theorem ag_54 (w : World) : (isAgg 54).run Try.prog w = .ok false w := Try.isAgg54 w
theorem sz_54 (w : World) : (sizeOf 54).run Try.prog w = .ok 1 w := Try.sizeOf54 w
theorem it_54 : ITy Try.prog 54 [.int .i32 0] 4 := ⟨⟨_, (rfl : Try.prog.info? 54 = some Try.t54), rfl, rfl, _, rfl, rfl⟩⟩
theorem us_55 : (Try.prog.underlying 55).isSome = true := by rw [Try.underlying55]; rfl
theorem ag_55 (w : World) : (isAgg 55).run Try.prog w = .ok true w := Try.isAgg55 w
theorem sz_55 (w : World) : (sizeOf 55).run Try.prog w = .ok 11 w := Try.sizeOf55 w
theorem it_55 : ITy Try.prog 55 [.int .u64 0, .int .u64 0, .int .u32 0, .int .u8 0, .int .u8 0, .int .u8 0, .int .u8 0, .nilFunc, .pointer none, .int .i32 0, .int .i32 0] 48 := ⟨⟨_, (rfl : Try.prog.info? 55 = some Try.t55), rfl, rfl, _, rfl, rfl⟩⟩
theorem us_56 : (Try.prog.underlying 56).isSome = true := by rw [Try.underlying56]; rfl
theorem ag_56 (w : World) : (isAgg 56).run Try.prog w = .ok true w := Try.isAgg56 w
theorem sz_56 (w : World) : (sizeOf 56).run Try.prog w = .ok 11 w := Try.sizeOf56 w
theorem it_56 : ITy Try.prog 56 [.int .u64 0, .int .u64 0, .int .u32 0, .int .u8 0, .int .u8 0, .int .u8 0, .int .u8 0, .nilFunc, .pointer none, .int .i32 0, .int .i32 0] 48 := ⟨⟨_, (rfl : Try.prog.info? 56 = some Try.t56), rfl, rfl, _, rfl, rfl⟩⟩
end Go.Proofs.Ytaliinkmeokonaa
