/- Closed facts on the types of this seat: printed by a program of ours. -/
import Derived.Test.YtiaojbbgjlpikaaReg
import Derived.Test.YtiaojbbgjlpikaaProg
namespace Go.Proofs.Ytiaojbbgjlpikaa
open Go Go.Dd

theorem mixed : Try.prog.follows .mixedOrders = true := by kernel_rfl
theorem us_1 : (Try.prog.underlying 1).isSome = true := by rw [Try.underlying1]; rfl
theorem ag_1 (w : World) : (isAgg 1).run Try.prog w = .ok false w := Try.isAgg1 w
theorem sz_1 (w : World) : (sizeOf 1).run Try.prog w = .ok 1 w := Try.sizeOf1 w
theorem it_1 : ITy Try.prog 1 [.nilFunc] 8 := ⟨⟨_, (show Try.prog.info? 1 = some Try.t1 by kernel_rfl), rfl, rfl, _, rfl, rfl⟩⟩
theorem un_2 : Try.prog.underlying 2 = some (.int .i64) := Try.underlying2
theorem us_2 : (Try.prog.underlying 2).isSome = true := by rw [un_2]; rfl
theorem ag_2 (w : World) : (isAgg 2).run Try.prog w = .ok false w := Try.isAgg2 w
theorem sz_2 (w : World) : (sizeOf 2).run Try.prog w = .ok 1 w := Try.sizeOf2 w
theorem it_2 : ITy Try.prog 2 [.int .i64 0] 8 := ⟨⟨_, (show Try.prog.info? 2 = some Try.t2 by kernel_rfl), rfl, rfl, _, rfl, rfl⟩⟩
theorem un_3 : Try.prog.underlying 3 = some (.int .i64) := Try.underlying3
theorem us_3 : (Try.prog.underlying 3).isSome = true := by rw [un_3]; rfl
theorem ag_3 (w : World) : (isAgg 3).run Try.prog w = .ok false w := Try.isAgg3 w
theorem sz_3 (w : World) : (sizeOf 3).run Try.prog w = .ok 1 w := Try.sizeOf3 w
theorem it_3 : ITy Try.prog 3 [.int .i64 0] 8 := ⟨⟨_, (show Try.prog.info? 3 = some Try.t3 by kernel_rfl), rfl, rfl, _, rfl, rfl⟩⟩
theorem un_4 : Try.prog.underlying 4 = some (.bool) := Try.underlying4
theorem us_4 : (Try.prog.underlying 4).isSome = true := by rw [un_4]; rfl
theorem ag_4 (w : World) : (isAgg 4).run Try.prog w = .ok false w := Try.isAgg4 w
theorem sz_4 (w : World) : (sizeOf 4).run Try.prog w = .ok 1 w := Try.sizeOf4 w
theorem it_4 : ITy Try.prog 4 [.bool false] 1 := ⟨⟨_, (show Try.prog.info? 4 = some Try.t4 by kernel_rfl), rfl, rfl, _, rfl, rfl⟩⟩
theorem un_5 : Try.prog.underlying 5 = some (.int .u8) := Try.underlying5
theorem us_5 : (Try.prog.underlying 5).isSome = true := by rw [un_5]; rfl
theorem ag_5 (w : World) : (isAgg 5).run Try.prog w = .ok false w := Try.isAgg5 w
theorem sz_5 (w : World) : (sizeOf 5).run Try.prog w = .ok 1 w := Try.sizeOf5 w
theorem it_5 : ITy Try.prog 5 [.int .u8 0] 1 := ⟨⟨_, (show Try.prog.info? 5 = some Try.t5 by kernel_rfl), rfl, rfl, _, rfl, rfl⟩⟩
theorem un_6 : Try.prog.underlying 6 = some (.int .u8) := Try.underlying6
theorem us_6 : (Try.prog.underlying 6).isSome = true := by rw [un_6]; rfl
theorem ag_6 (w : World) : (isAgg 6).run Try.prog w = .ok false w := Try.isAgg6 w
theorem sz_6 (w : World) : (sizeOf 6).run Try.prog w = .ok 1 w := Try.sizeOf6 w
theorem it_6 : ITy Try.prog 6 [.int .u8 0] 1 := ⟨⟨_, (show Try.prog.info? 6 = some Try.t6 by kernel_rfl), rfl, rfl, _, rfl, rfl⟩⟩
theorem us_7 : (Try.prog.underlying 7).isSome = true := by rw [Try.underlying7]; rfl
theorem ag_7 (w : World) : (isAgg 7).run Try.prog w = .ok true w := Try.isAgg7 w
theorem sz_7 (w : World) : (sizeOf 7).run Try.prog w = .ok 4 w := Try.sizeOf7 w
theorem it_7 : ITy Try.prog 7 [.int .i64 0, .int .i64 0, .bool false, .int .u8 0] 24 := ⟨⟨_, (show Try.prog.info? 7 = some Try.t7 by kernel_rfl), rfl, rfl, _, rfl, rfl⟩⟩
theorem us_8 : (Try.prog.underlying 8).isSome = true := by rw [Try.underlying8]; rfl
theorem ag_8 (w : World) : (isAgg 8).run Try.prog w = .ok true w := Try.isAgg8 w
theorem sz_8 (w : World) : (sizeOf 8).run Try.prog w = .ok 4 w := Try.sizeOf8 w
theorem it_8 : ITy Try.prog 8 [.int .i64 0, .int .i64 0, .bool false, .int .u8 0] 24 := ⟨⟨_, (show Try.prog.info? 8 = some Try.t8 by kernel_rfl), rfl, rfl, _, rfl, rfl⟩⟩
theorem un_9 : Try.prog.underlying 9 = some (.string) := Try.underlying9
theorem us_9 : (Try.prog.underlying 9).isSome = true := by rw [un_9]; rfl
theorem ag_9 (w : World) : (isAgg 9).run Try.prog w = .ok false w := Try.isAgg9 w
theorem sz_9 (w : World) : (sizeOf 9).run Try.prog w = .ok 1 w := Try.sizeOf9 w
theorem it_9 : ITy Try.prog 9 [.string ⟨#[]⟩] 16 := ⟨⟨_, (show Try.prog.info? 9 = some Try.t9 by kernel_rfl), rfl, rfl, _, rfl, rfl⟩⟩
theorem un_10 : Try.prog.underlying 10 = some (.string) := Try.underlying10
theorem us_10 : (Try.prog.underlying 10).isSome = true := by rw [un_10]; rfl
theorem ag_10 (w : World) : (isAgg 10).run Try.prog w = .ok false w := Try.isAgg10 w
theorem sz_10 (w : World) : (sizeOf 10).run Try.prog w = .ok 1 w := Try.sizeOf10 w
theorem it_10 : ITy Try.prog 10 [.string ⟨#[]⟩] 16 := ⟨⟨_, (show Try.prog.info? 10 = some Try.t10 by kernel_rfl), rfl, rfl, _, rfl, rfl⟩⟩
theorem un_11 : Try.prog.underlying 11 = some (.string) := Try.underlying11
theorem us_11 : (Try.prog.underlying 11).isSome = true := by rw [un_11]; rfl
theorem ag_11 (w : World) : (isAgg 11).run Try.prog w = .ok false w := Try.isAgg11 w
theorem sz_11 (w : World) : (sizeOf 11).run Try.prog w = .ok 1 w := Try.sizeOf11 w
theorem it_11 : ITy Try.prog 11 [.string ⟨#[]⟩] 16 := ⟨⟨_, (show Try.prog.info? 11 = some Try.t11 by kernel_rfl), rfl, rfl, _, rfl, rfl⟩⟩
theorem un_12 : Try.prog.underlying 12 = some (.int .u64) := Try.underlying12
theorem us_12 : (Try.prog.underlying 12).isSome = true := by rw [un_12]; rfl
theorem ag_12 (w : World) : (isAgg 12).run Try.prog w = .ok false w := Try.isAgg12 w
theorem sz_12 (w : World) : (sizeOf 12).run Try.prog w = .ok 1 w := Try.sizeOf12 w
theorem it_12 : ITy Try.prog 12 [.int .u64 0] 8 := ⟨⟨_, (show Try.prog.info? 12 = some Try.t12 by kernel_rfl), rfl, rfl, _, rfl, rfl⟩⟩
theorem us_13 : (Try.prog.underlying 13).isSome = true := by rw [Try.underlying13]; rfl
theorem ag_13 (w : World) : (isAgg 13).run Try.prog w = .ok true w := Try.isAgg13 w
theorem sz_13 (w : World) : (sizeOf 13).run Try.prog w = .ok 2 w := Try.sizeOf13 w
theorem it_13 : ITy Try.prog 13 [.string ⟨#[]⟩, .int .u64 0] 24 := ⟨⟨_, (show Try.prog.info? 13 = some Try.t13 by kernel_rfl), rfl, rfl, _, rfl, rfl⟩⟩
theorem us_14 : (Try.prog.underlying 14).isSome = true := by rw [Try.underlying14]; rfl
theorem ag_14 (w : World) : (isAgg 14).run Try.prog w = .ok true w := Try.isAgg14 w
theorem sz_14 (w : World) : (sizeOf 14).run Try.prog w = .ok 2 w := Try.sizeOf14 w
theorem it_14 : ITy Try.prog 14 [.string ⟨#[]⟩, .int .u64 0] 24 := ⟨⟨_, (show Try.prog.info? 14 = some Try.t14 by kernel_rfl), rfl, rfl, _, rfl, rfl⟩⟩
theorem un_15 : Try.prog.underlying 15 = some (.pointer 143) := Try.underlying15
theorem us_15 : (Try.prog.underlying 15).isSome = true := by rw [un_15]; rfl
theorem ag_15 (w : World) : (isAgg 15).run Try.prog w = .ok false w := Try.isAgg15 w
theorem sz_15 (w : World) : (sizeOf 15).run Try.prog w = .ok 1 w := Try.sizeOf15 w
theorem it_15 : ITy Try.prog 15 [.pointer none] 8 := ⟨⟨_, (show Try.prog.info? 15 = some Try.t15 by kernel_rfl), rfl, rfl, _, rfl, rfl⟩⟩
theorem un_16 : Try.prog.underlying 16 = some (.pointer 146) := Try.underlying16
theorem us_16 : (Try.prog.underlying 16).isSome = true := by rw [un_16]; rfl
theorem ag_16 (w : World) : (isAgg 16).run Try.prog w = .ok false w := Try.isAgg16 w
theorem sz_16 (w : World) : (sizeOf 16).run Try.prog w = .ok 1 w := Try.sizeOf16 w
theorem it_16 : ITy Try.prog 16 [.pointer none] 8 := ⟨⟨_, (show Try.prog.info? 16 = some Try.t16 by kernel_rfl), rfl, rfl, _, rfl, rfl⟩⟩
theorem un_17 : Try.prog.underlying 17 = some (.pointer 154) := Try.underlying17
theorem us_17 : (Try.prog.underlying 17).isSome = true := by rw [un_17]; rfl
theorem ag_17 (w : World) : (isAgg 17).run Try.prog w = .ok false w := Try.isAgg17 w
theorem sz_17 (w : World) : (sizeOf 17).run Try.prog w = .ok 1 w := Try.sizeOf17 w
theorem it_17 : ITy Try.prog 17 [.pointer none] 8 := ⟨⟨_, (show Try.prog.info? 17 = some Try.t17 by kernel_rfl), rfl, rfl, _, rfl, rfl⟩⟩
theorem us_18 : (Try.prog.underlying 18).isSome = true := by rw [Try.underlying18]; rfl
theorem ag_18 (w : World) : (isAgg 18).run Try.prog w = .ok true w := Try.isAgg18 w
theorem sz_18 (w : World) : (sizeOf 18).run Try.prog w = .ok 1 w := Try.sizeOf18 w
theorem it_18 : ITy Try.prog 18 [.pointer none] 8 := ⟨⟨_, (show Try.prog.info? 18 = some Try.t18 by kernel_rfl), rfl, rfl, _, rfl, rfl⟩⟩
theorem us_19 : (Try.prog.underlying 19).isSome = true := by rw [Try.underlying19]; rfl
theorem ag_19 (w : World) : (isAgg 19).run Try.prog w = .ok true w := Try.isAgg19 w
theorem sz_19 (w : World) : (sizeOf 19).run Try.prog w = .ok 1 w := Try.sizeOf19 w
theorem it_19 : ITy Try.prog 19 [.pointer none] 8 := ⟨⟨_, (show Try.prog.info? 19 = some Try.t19 by kernel_rfl), rfl, rfl, _, rfl, rfl⟩⟩
theorem us_20 : (Try.prog.underlying 20).isSome = true := by rw [Try.underlying20]; rfl
theorem ag_20 (w : World) : (isAgg 20).run Try.prog w = .ok false w := Try.isAgg20 w
theorem sz_20 (w : World) : (sizeOf 20).run Try.prog w = .ok 1 w := Try.sizeOf20 w
theorem it_20 : ITy Try.prog 20 [.nilIface] 16 := ⟨⟨_, (show Try.prog.info? 20 = some Try.t20 by kernel_rfl), rfl, rfl, _, rfl, rfl⟩⟩
theorem un_21 : Try.prog.underlying 21 = some (.int .i32) := Try.underlying21
theorem us_21 : (Try.prog.underlying 21).isSome = true := by rw [un_21]; rfl
theorem ag_21 (w : World) : (isAgg 21).run Try.prog w = .ok false w := Try.isAgg21 w
theorem sz_21 (w : World) : (sizeOf 21).run Try.prog w = .ok 1 w := Try.sizeOf21 w
theorem it_21 : ITy Try.prog 21 [.int .i32 0] 4 := ⟨⟨_, (show Try.prog.info? 21 = some Try.t21 by kernel_rfl), rfl, rfl, _, rfl, rfl⟩⟩
theorem st_22 : STy Try.prog 22 34 1 := ⟨Try.underlying22, Try.sizeOf34⟩
theorem un_22 : Try.prog.underlying 22 = some (.slice 34) := Try.underlying22
theorem us_22 : (Try.prog.underlying 22).isSome = true := by rw [un_22]; rfl
theorem ag_22 (w : World) : (isAgg 22).run Try.prog w = .ok false w := Try.isAgg22 w
theorem sz_22 (w : World) : (sizeOf 22).run Try.prog w = .ok 1 w := Try.sizeOf22 w
theorem it_22 : ITy Try.prog 22 [.slice none 0 0] 24 := ⟨⟨_, (show Try.prog.info? 22 = some Try.t22 by kernel_rfl), rfl, rfl, _, rfl, rfl⟩⟩
theorem un_25 : Try.prog.underlying 25 = some (.pointer 95) := Try.underlying25
theorem us_25 : (Try.prog.underlying 25).isSome = true := by rw [un_25]; rfl
theorem ag_25 (w : World) : (isAgg 25).run Try.prog w = .ok false w := Try.isAgg25 w
theorem sz_25 (w : World) : (sizeOf 25).run Try.prog w = .ok 1 w := Try.sizeOf25 w
theorem it_25 : ITy Try.prog 25 [.pointer none] 8 := ⟨⟨_, (show Try.prog.info? 25 = some Try.t25 by kernel_rfl), rfl, rfl, _, rfl, rfl⟩⟩
theorem un_26 : Try.prog.underlying 26 = some (.int .i64) := Try.underlying26
theorem us_26 : (Try.prog.underlying 26).isSome = true := by rw [un_26]; rfl
theorem ag_26 (w : World) : (isAgg 26).run Try.prog w = .ok false w := Try.isAgg26 w
theorem sz_26 (w : World) : (sizeOf 26).run Try.prog w = .ok 1 w := Try.sizeOf26 w
theorem it_26 : ITy Try.prog 26 [.int .i64 0] 8 := ⟨⟨_, (show Try.prog.info? 26 = some Try.t26 by kernel_rfl), rfl, rfl, _, rfl, rfl⟩⟩
theorem un_29 : Try.prog.underlying 29 = some (.pointer 72) := Try.underlying29
theorem us_29 : (Try.prog.underlying 29).isSome = true := by rw [un_29]; rfl
theorem ag_29 (w : World) : (isAgg 29).run Try.prog w = .ok false w := Try.isAgg29 w
theorem sz_29 (w : World) : (sizeOf 29).run Try.prog w = .ok 1 w := Try.sizeOf29 w
theorem it_29 : ITy Try.prog 29 [.pointer none] 8 := ⟨⟨_, (show Try.prog.info? 29 = some Try.t29 by kernel_rfl), rfl, rfl, _, rfl, rfl⟩⟩
theorem un_32 : Try.prog.underlying 32 = some (.int .u32) := Try.underlying32
theorem us_32 : (Try.prog.underlying 32).isSome = true := by rw [un_32]; rfl
theorem ag_32 (w : World) : (isAgg 32).run Try.prog w = .ok false w := Try.isAgg32 w
theorem sz_32 (w : World) : (sizeOf 32).run Try.prog w = .ok 1 w := Try.sizeOf32 w
theorem it_32 : ITy Try.prog 32 [.int .u32 0] 4 := ⟨⟨_, (show Try.prog.info? 32 = some Try.t32 by kernel_rfl), rfl, rfl, _, rfl, rfl⟩⟩
theorem st_33 : STy Try.prog 33 3 1 := ⟨Try.underlying33, Try.sizeOf3⟩
theorem un_33 : Try.prog.underlying 33 = some (.slice 3) := Try.underlying33
theorem us_33 : (Try.prog.underlying 33).isSome = true := by rw [un_33]; rfl
theorem ag_33 (w : World) : (isAgg 33).run Try.prog w = .ok false w := Try.isAgg33 w
theorem sz_33 (w : World) : (sizeOf 33).run Try.prog w = .ok 1 w := Try.sizeOf33 w
theorem it_33 : ITy Try.prog 33 [.slice none 0 0] 24 := ⟨⟨_, (show Try.prog.info? 33 = some Try.t33 by kernel_rfl), rfl, rfl, _, rfl, rfl⟩⟩
theorem st_34 : STy Try.prog 34 21 1 := ⟨Try.underlying34, Try.sizeOf21⟩
theorem un_34 : Try.prog.underlying 34 = some (.slice 21) := Try.underlying34
theorem us_34 : (Try.prog.underlying 34).isSome = true := by rw [un_34]; rfl
theorem ag_34 (w : World) : (isAgg 34).run Try.prog w = .ok false w := Try.isAgg34 w
theorem sz_34 (w : World) : (sizeOf 34).run Try.prog w = .ok 1 w := Try.sizeOf34 w
theorem it_34 : ITy Try.prog 34 [.slice none 0 0] 24 := ⟨⟨_, (show Try.prog.info? 34 = some Try.t34 by kernel_rfl), rfl, rfl, _, rfl, rfl⟩⟩
theorem us_35 : (Try.prog.underlying 35).isSome = true := by rw [Try.underlying35]; rfl
theorem ag_35 (w : World) : (isAgg 35).run Try.prog w = .ok true w := Try.isAgg35 w
theorem sz_35 (w : World) : (sizeOf 35).run Try.prog w = .ok 2 w := Try.sizeOf35 w
theorem it_35 : ITy Try.prog 35 [.slice none 0 0, .slice none 0 0] 48 := ⟨⟨_, (show Try.prog.info? 35 = some Try.t35 by kernel_rfl), rfl, rfl, _, rfl, rfl⟩⟩
theorem us_36 : (Try.prog.underlying 36).isSome = true := by rw [Try.underlying36]; rfl
theorem ag_36 (w : World) : (isAgg 36).run Try.prog w = .ok true w := Try.isAgg36 w
theorem sz_36 (w : World) : (sizeOf 36).run Try.prog w = .ok 2 w := Try.sizeOf36 w
theorem it_36 : ITy Try.prog 36 [.slice none 0 0, .slice none 0 0] 48 := ⟨⟨_, (show Try.prog.info? 36 = some Try.t36 by kernel_rfl), rfl, rfl, _, rfl, rfl⟩⟩
theorem us_38 : (Try.prog.underlying 38).isSome = true := by rw [Try.underlying38]; rfl
theorem ag_38 (w : World) : (isAgg 38).run Try.prog w = .ok true w := Try.isAgg38 w
theorem sz_38 (w : World) : (sizeOf 38).run Try.prog w = .ok 3 w := Try.sizeOf38 w
theorem it_38 : ITy Try.prog 38 [.int .u32 0, .slice none 0 0, .slice none 0 0] 56 := ⟨⟨_, (show Try.prog.info? 38 = some Try.t38 by kernel_rfl), rfl, rfl, _, rfl, rfl⟩⟩
theorem us_39 : (Try.prog.underlying 39).isSome = true := by rw [Try.underlying39]; rfl
theorem ag_39 (w : World) : (isAgg 39).run Try.prog w = .ok true w := Try.isAgg39 w
theorem sz_39 (w : World) : (sizeOf 39).run Try.prog w = .ok 3 w := Try.sizeOf39 w
theorem it_39 : ITy Try.prog 39 [.int .u32 0, .slice none 0 0, .slice none 0 0] 56 := ⟨⟨_, (show Try.prog.info? 39 = some Try.t39 by kernel_rfl), rfl, rfl, _, rfl, rfl⟩⟩
theorem un_43 : Try.prog.underlying 43 = some (.int .u64) := Try.underlying43
theorem us_43 : (Try.prog.underlying 43).isSome = true := by rw [un_43]; rfl
theorem ag_43 (w : World) : (isAgg 43).run Try.prog w = .ok false w := Try.isAgg43 w
theorem sz_43 (w : World) : (sizeOf 43).run Try.prog w = .ok 1 w := Try.sizeOf43 w
theorem it_43 : ITy Try.prog 43 [.int .u64 0] 8 := ⟨⟨_, (show Try.prog.info? 43 = some Try.t43 by kernel_rfl), rfl, rfl, _, rfl, rfl⟩⟩
theorem un_44 : Try.prog.underlying 44 = some (.int .i8) := Try.underlying44
theorem us_44 : (Try.prog.underlying 44).isSome = true := by rw [un_44]; rfl
theorem ag_44 (w : World) : (isAgg 44).run Try.prog w = .ok false w := Try.isAgg44 w
theorem sz_44 (w : World) : (sizeOf 44).run Try.prog w = .ok 1 w := Try.sizeOf44 w
theorem it_44 : ITy Try.prog 44 [.int .i8 0] 1 := ⟨⟨_, (show Try.prog.info? 44 = some Try.t44 by kernel_rfl), rfl, rfl, _, rfl, rfl⟩⟩
theorem us_45 : (Try.prog.underlying 45).isSome = true := by rw [Try.underlying45]; rfl
theorem ag_45 (w : World) : (isAgg 45).run Try.prog w = .ok true w := Try.isAgg45 w
theorem sz_45 (w : World) : (sizeOf 45).run Try.prog w = .ok 5 w := Try.sizeOf45 w
theorem it_45 : ITy Try.prog 45 [.slice none 0 0, .slice none 0 0, .int .u8 0, .int .u64 0, .int .i8 0] 72 := ⟨⟨_, (show Try.prog.info? 45 = some Try.t45 by kernel_rfl), rfl, rfl, _, rfl, rfl⟩⟩
theorem us_46 : (Try.prog.underlying 46).isSome = true := by rw [Try.underlying46]; rfl
theorem ag_46 (w : World) : (isAgg 46).run Try.prog w = .ok true w := Try.isAgg46 w
theorem sz_46 (w : World) : (sizeOf 46).run Try.prog w = .ok 5 w := Try.sizeOf46 w
theorem it_46 : ITy Try.prog 46 [.slice none 0 0, .slice none 0 0, .int .u8 0, .int .u64 0, .int .i8 0] 72 := ⟨⟨_, (show Try.prog.info? 46 = some Try.t46 by kernel_rfl), rfl, rfl, _, rfl, rfl⟩⟩
theorem us_51 : (Try.prog.underlying 51).isSome = true := by rw [Try.underlying51]; rfl
theorem ag_51 (w : World) : (isAgg 51).run Try.prog w = .ok true w := Try.isAgg51 w
theorem sz_51 (w : World) : (sizeOf 51).run Try.prog w = .ok 4 w := Try.sizeOf51 w
theorem it_51 : ITy Try.prog 51 [.slice none 0 0, .slice none 0 0, .int .u64 0, .int .i8 0] 64 := ⟨⟨_, (show Try.prog.info? 51 = some Try.t51 by kernel_rfl), rfl, rfl, _, rfl, rfl⟩⟩
theorem us_52 : (Try.prog.underlying 52).isSome = true := by rw [Try.underlying52]; rfl
theorem ag_52 (w : World) : (isAgg 52).run Try.prog w = .ok true w := Try.isAgg52 w
theorem sz_52 (w : World) : (sizeOf 52).run Try.prog w = .ok 4 w := Try.sizeOf52 w
theorem it_52 : ITy Try.prog 52 [.slice none 0 0, .slice none 0 0, .int .u64 0, .int .i8 0] 64 := ⟨⟨_, (show Try.prog.info? 52 = some Try.t52 by kernel_rfl), rfl, rfl, _, rfl, rfl⟩⟩
theorem st_53 : STy Try.prog 53 5 1 := ⟨Try.underlying53, Try.sizeOf5⟩
theorem un_53 : Try.prog.underlying 53 = some (.slice 5) := Try.underlying53
theorem us_53 : (Try.prog.underlying 53).isSome = true := by rw [un_53]; rfl
theorem ag_53 (w : World) : (isAgg 53).run Try.prog w = .ok false w := Try.isAgg53 w
theorem sz_53 (w : World) : (sizeOf 53).run Try.prog w = .ok 1 w := Try.sizeOf53 w
theorem it_53 : ITy Try.prog 53 [.slice none 0 0] 24 := ⟨⟨_, (show Try.prog.info? 53 = some Try.t53 by kernel_rfl), rfl, rfl, _, rfl, rfl⟩⟩
theorem un_60 : Try.prog.underlying 60 = some (.int .u16) := Try.underlying60
theorem us_60 : (Try.prog.underlying 60).isSome = true := by rw [un_60]; rfl
theorem ag_60 (w : World) : (isAgg 60).run Try.prog w = .ok false w := Try.isAgg60 w
theorem sz_60 (w : World) : (sizeOf 60).run Try.prog w = .ok 1 w := Try.sizeOf60 w
theorem it_60 : ITy Try.prog 60 [.int .u16 0] 2 := ⟨⟨_, (show Try.prog.info? 60 = some Try.t60 by kernel_rfl), rfl, rfl, _, rfl, rfl⟩⟩
theorem us_61 : (Try.prog.underlying 61).isSome = true := by rw [Try.underlying61]; rfl
theorem ag_61 (w : World) : (isAgg 61).run Try.prog w = .ok true w := Try.isAgg61 w
theorem sz_61 (w : World) : (sizeOf 61).run Try.prog w = .ok 4 w := Try.sizeOf61 w
theorem it_61 : ITy Try.prog 61 [.slice none 0 0, .int .u16 0, .int .u8 0, .int .u8 0] 32 := ⟨⟨_, (show Try.prog.info? 61 = some Try.t61 by kernel_rfl), rfl, rfl, _, rfl, rfl⟩⟩
theorem us_62 : (Try.prog.underlying 62).isSome = true := by rw [Try.underlying62]; rfl
theorem ag_62 (w : World) : (isAgg 62).run Try.prog w = .ok true w := Try.isAgg62 w
theorem sz_62 (w : World) : (sizeOf 62).run Try.prog w = .ok 4 w := Try.sizeOf62 w
theorem it_62 : ITy Try.prog 62 [.slice none 0 0, .int .u16 0, .int .u8 0, .int .u8 0] 32 := ⟨⟨_, (show Try.prog.info? 62 = some Try.t62 by kernel_rfl), rfl, rfl, _, rfl, rfl⟩⟩
theorem st_66 : STy Try.prog 66 39 3 := ⟨Try.underlying66, Try.sizeOf39⟩
theorem un_66 : Try.prog.underlying 66 = some (.slice 39) := Try.underlying66
theorem us_66 : (Try.prog.underlying 66).isSome = true := by rw [un_66]; rfl
theorem ag_66 (w : World) : (isAgg 66).run Try.prog w = .ok false w := Try.isAgg66 w
theorem sz_66 (w : World) : (sizeOf 66).run Try.prog w = .ok 1 w := Try.sizeOf66 w
theorem it_66 : ITy Try.prog 66 [.slice none 0 0] 24 := ⟨⟨_, (show Try.prog.info? 66 = some Try.t66 by kernel_rfl), rfl, rfl, _, rfl, rfl⟩⟩
theorem st_70 : STy Try.prog 70 92 65 := ⟨Try.underlying70, Try.sizeOf92⟩
theorem un_70 : Try.prog.underlying 70 = some (.slice 92) := Try.underlying70
theorem us_70 : (Try.prog.underlying 70).isSome = true := by rw [un_70]; rfl
theorem ag_70 (w : World) : (isAgg 70).run Try.prog w = .ok false w := Try.isAgg70 w
theorem sz_70 (w : World) : (sizeOf 70).run Try.prog w = .ok 1 w := Try.sizeOf70 w
theorem it_70 : ITy Try.prog 70 [.slice none 0 0] 24 := ⟨⟨_, (show Try.prog.info? 70 = some Try.t70 by kernel_rfl), rfl, rfl, _, rfl, rfl⟩⟩
theorem us_71 : (Try.prog.underlying 71).isSome = true := by rw [Try.underlying71]; rfl
theorem ag_71 (w : World) : (isAgg 71).run Try.prog w = .ok true w := Try.isAgg71 w
theorem sz_71 (w : World) : (sizeOf 71).run Try.prog w = .ok 2 w := Try.sizeOf71 w
theorem it_71 : ITy Try.prog 71 [.pointer none, .slice none 0 0] 32 := ⟨⟨_, (show Try.prog.info? 71 = some Try.t71 by kernel_rfl), rfl, rfl, _, rfl, rfl⟩⟩
theorem us_72 : (Try.prog.underlying 72).isSome = true := by rw [Try.underlying72]; rfl
theorem ag_72 (w : World) : (isAgg 72).run Try.prog w = .ok true w := Try.isAgg72 w
theorem sz_72 (w : World) : (sizeOf 72).run Try.prog w = .ok 2 w := Try.sizeOf72 w
theorem it_72 : ITy Try.prog 72 [.pointer none, .slice none 0 0] 32 := ⟨⟨_, (show Try.prog.info? 72 = some Try.t72 by kernel_rfl), rfl, rfl, _, rfl, rfl⟩⟩
theorem us_73 : (Try.prog.underlying 73).isSome = true := by rw [Try.underlying73]; rfl
theorem ag_73 (w : World) : (isAgg 73).run Try.prog w = .ok false w := Try.isAgg73 w
theorem sz_73 (w : World) : (sizeOf 73).run Try.prog w = .ok 1 w := Try.sizeOf73 w
theorem it_73 : ITy Try.prog 73 [.nilFunc] 8 := ⟨⟨_, (show Try.prog.info? 73 = some Try.t73 by kernel_rfl), rfl, rfl, _, rfl, rfl⟩⟩
theorem us_81 : (Try.prog.underlying 81).isSome = true := by rw [Try.underlying81]; rfl
theorem ag_81 (w : World) : (isAgg 81).run Try.prog w = .ok false w := Try.isAgg81 w
theorem sz_81 (w : World) : (sizeOf 81).run Try.prog w = .ok 1 w := Try.sizeOf81 w
theorem it_81 : ITy Try.prog 81 [.nilFunc] 8 := ⟨⟨_, (show Try.prog.info? 81 = some Try.t81 by kernel_rfl), rfl, rfl, _, rfl, rfl⟩⟩
theorem us_82 : (Try.prog.underlying 82).isSome = true := by rw [Try.underlying82]; rfl
theorem ag_82 (w : World) : (isAgg 82).run Try.prog w = .ok false w := Try.isAgg82 w
theorem sz_82 (w : World) : (sizeOf 82).run Try.prog w = .ok 1 w := Try.sizeOf82 w
theorem it_82 : ITy Try.prog 82 [.nilFunc] 8 := ⟨⟨_, (show Try.prog.info? 82 = some Try.t82 by kernel_rfl), rfl, rfl, _, rfl, rfl⟩⟩
theorem un_89 : Try.prog.underlying 89 = some (.array 64 5) := Try.underlying89
theorem us_89 : (Try.prog.underlying 89).isSome = true := by rw [un_89]; rfl
theorem ag_89 (w : World) : (isAgg 89).run Try.prog w = .ok true w := Try.isAgg89 w
theorem sz_89 (w : World) : (sizeOf 89).run Try.prog w = .ok 64 w := Try.sizeOf89 w
theorem un_90 : Try.prog.underlying 90 = some (.array 64 5) := Try.underlying90
theorem us_90 : (Try.prog.underlying 90).isSome = true := by rw [un_90]; rfl
theorem ag_90 (w : World) : (isAgg 90).run Try.prog w = .ok true w := Try.isAgg90 w
theorem sz_90 (w : World) : (sizeOf 90).run Try.prog w = .ok 64 w := Try.sizeOf90 w
theorem us_91 : (Try.prog.underlying 91).isSome = true := by rw [Try.underlying91]; rfl
theorem ag_91 (w : World) : (isAgg 91).run Try.prog w = .ok true w := Try.isAgg91 w
theorem sz_91 (w : World) : (sizeOf 91).run Try.prog w = .ok 65 w := Try.sizeOf91 w
theorem us_92 : (Try.prog.underlying 92).isSome = true := by rw [Try.underlying92]; rfl
theorem ag_92 (w : World) : (isAgg 92).run Try.prog w = .ok true w := Try.isAgg92 w
theorem sz_92 (w : World) : (sizeOf 92).run Try.prog w = .ok 65 w := Try.sizeOf92 w
theorem st_93 : STy Try.prog 93 99 66 := ⟨Try.underlying93, Try.sizeOf99⟩
theorem un_93 : Try.prog.underlying 93 = some (.slice 99) := Try.underlying93
theorem us_93 : (Try.prog.underlying 93).isSome = true := by rw [un_93]; rfl
theorem ag_93 (w : World) : (isAgg 93).run Try.prog w = .ok false w := Try.isAgg93 w
theorem sz_93 (w : World) : (sizeOf 93).run Try.prog w = .ok 1 w := Try.sizeOf93 w
theorem it_93 : ITy Try.prog 93 [.slice none 0 0] 24 := ⟨⟨_, (show Try.prog.info? 93 = some Try.t93 by kernel_rfl), rfl, rfl, _, rfl, rfl⟩⟩
theorem us_94 : (Try.prog.underlying 94).isSome = true := by rw [Try.underlying94]; rfl
theorem ag_94 (w : World) : (isAgg 94).run Try.prog w = .ok true w := Try.isAgg94 w
theorem sz_94 (w : World) : (sizeOf 94).run Try.prog w = .ok 3 w := Try.sizeOf94 w
theorem it_94 : ITy Try.prog 94 [.slice none 0 0, .slice none 0 0, .slice none 0 0] 72 := ⟨⟨_, (show Try.prog.info? 94 = some Try.t94 by kernel_rfl), rfl, rfl, _, rfl, rfl⟩⟩
theorem us_95 : (Try.prog.underlying 95).isSome = true := by rw [Try.underlying95]; rfl
theorem ag_95 (w : World) : (isAgg 95).run Try.prog w = .ok true w := Try.isAgg95 w
theorem sz_95 (w : World) : (sizeOf 95).run Try.prog w = .ok 3 w := Try.sizeOf95 w
theorem it_95 : ITy Try.prog 95 [.slice none 0 0, .slice none 0 0, .slice none 0 0] 72 := ⟨⟨_, (show Try.prog.info? 95 = some Try.t95 by kernel_rfl), rfl, rfl, _, rfl, rfl⟩⟩
theorem us_96 : (Try.prog.underlying 96).isSome = true := by rw [Try.underlying96]; rfl
theorem ag_96 (w : World) : (isAgg 96).run Try.prog w = .ok true w := Try.isAgg96 w
theorem sz_96 (w : World) : (sizeOf 96).run Try.prog w = .ok 1 w := Try.sizeOf96 w
theorem it_96 : ITy Try.prog 96 [.int .i64 0] 8 := ⟨⟨_, (show Try.prog.info? 96 = some Try.t96 by kernel_rfl), rfl, rfl, _, rfl, rfl⟩⟩
theorem us_97 : (Try.prog.underlying 97).isSome = true := by rw [Try.underlying97]; rfl
theorem ag_97 (w : World) : (isAgg 97).run Try.prog w = .ok true w := Try.isAgg97 w
theorem sz_97 (w : World) : (sizeOf 97).run Try.prog w = .ok 1 w := Try.sizeOf97 w
theorem it_97 : ITy Try.prog 97 [.int .i64 0] 8 := ⟨⟨_, (show Try.prog.info? 97 = some Try.t97 by kernel_rfl), rfl, rfl, _, rfl, rfl⟩⟩
theorem us_98 : (Try.prog.underlying 98).isSome = true := by rw [Try.underlying98]; rfl
theorem ag_98 (w : World) : (isAgg 98).run Try.prog w = .ok true w := Try.isAgg98 w
theorem sz_98 (w : World) : (sizeOf 98).run Try.prog w = .ok 66 w := Try.sizeOf98 w
theorem us_99 : (Try.prog.underlying 99).isSome = true := by rw [Try.underlying99]; rfl
theorem ag_99 (w : World) : (isAgg 99).run Try.prog w = .ok true w := Try.isAgg99 w
theorem sz_99 (w : World) : (sizeOf 99).run Try.prog w = .ok 66 w := Try.sizeOf99 w
theorem un_100 : Try.prog.underlying 100 = some (.pointer 92) := Try.underlying100
theorem us_100 : (Try.prog.underlying 100).isSome = true := by rw [un_100]; rfl
theorem ag_100 (w : World) : (isAgg 100).run Try.prog w = .ok false w := Try.isAgg100 w
theorem sz_100 (w : World) : (sizeOf 100).run Try.prog w = .ok 1 w := Try.sizeOf100 w
theorem it_100 : ITy Try.prog 100 [.pointer none] 8 := ⟨⟨_, (show Try.prog.info? 100 = some Try.t100 by kernel_rfl), rfl, rfl, _, rfl, rfl⟩⟩
theorem st_102 : STy Try.prog 102 104 1 := ⟨Try.underlying102, Try.sizeOf104⟩
theorem un_102 : Try.prog.underlying 102 = some (.slice 104) := Try.underlying102
theorem us_102 : (Try.prog.underlying 102).isSome = true := by rw [un_102]; rfl
theorem ag_102 (w : World) : (isAgg 102).run Try.prog w = .ok false w := Try.isAgg102 w
theorem sz_102 (w : World) : (sizeOf 102).run Try.prog w = .ok 1 w := Try.sizeOf102 w
theorem it_102 : ITy Try.prog 102 [.slice none 0 0] 24 := ⟨⟨_, (show Try.prog.info? 102 = some Try.t102 by kernel_rfl), rfl, rfl, _, rfl, rfl⟩⟩
theorem un_104 : Try.prog.underlying 104 = some (.pointer 99) := Try.underlying104
theorem us_104 : (Try.prog.underlying 104).isSome = true := by rw [un_104]; rfl
theorem ag_104 (w : World) : (isAgg 104).run Try.prog w = .ok false w := Try.isAgg104 w
theorem sz_104 (w : World) : (sizeOf 104).run Try.prog w = .ok 1 w := Try.sizeOf104 w
theorem it_104 : ITy Try.prog 104 [.pointer none] 8 := ⟨⟨_, (show Try.prog.info? 104 = some Try.t104 by kernel_rfl), rfl, rfl, _, rfl, rfl⟩⟩
theorem us_107 : (Try.prog.underlying 107).isSome = true := by rw [Try.underlying107]; rfl
theorem ag_107 (w : World) : (isAgg 107).run Try.prog w = .ok false w := Try.isAgg107 w
theorem sz_107 (w : World) : (sizeOf 107).run Try.prog w = .ok 1 w := Try.sizeOf107 w
theorem it_107 : ITy Try.prog 107 [.nilFunc] 8 := ⟨⟨_, (show Try.prog.info? 107 = some Try.t107 by kernel_rfl), rfl, rfl, _, rfl, rfl⟩⟩
theorem un_115 : Try.prog.underlying 115 = some (.array 256 32) := Try.underlying115
theorem us_115 : (Try.prog.underlying 115).isSome = true := by rw [un_115]; rfl
theorem ag_115 (w : World) : (isAgg 115).run Try.prog w = .ok true w := Try.isAgg115 w
theorem sz_115 (w : World) : (sizeOf 115).run Try.prog w = .ok 256 w := Try.sizeOf115 w
theorem un_117 : Try.prog.underlying 117 = some (.int .u64) := Try.underlying117
theorem us_117 : (Try.prog.underlying 117).isSome = true := by rw [un_117]; rfl
theorem ag_117 (w : World) : (isAgg 117).run Try.prog w = .ok false w := Try.isAgg117 w
theorem sz_117 (w : World) : (sizeOf 117).run Try.prog w = .ok 1 w := Try.sizeOf117 w
theorem it_117 : ITy Try.prog 117 [.int .u64 0] 8 := ⟨⟨_, (show Try.prog.info? 117 = some Try.t117 by kernel_rfl), rfl, rfl, _, rfl, rfl⟩⟩
theorem un_123 : Try.prog.underlying 123 = some (.pointer 125) := Try.underlying123
theorem us_123 : (Try.prog.underlying 123).isSome = true := by rw [un_123]; rfl
theorem ag_123 (w : World) : (isAgg 123).run Try.prog w = .ok false w := Try.isAgg123 w
theorem sz_123 (w : World) : (sizeOf 123).run Try.prog w = .ok 1 w := Try.sizeOf123 w
theorem it_123 : ITy Try.prog 123 [.pointer none] 8 := ⟨⟨_, (show Try.prog.info? 123 = some Try.t123 by kernel_rfl), rfl, rfl, _, rfl, rfl⟩⟩
theorem us_124 : (Try.prog.underlying 124).isSome = true := by rw [Try.underlying124]; rfl
theorem ag_124 (w : World) : (isAgg 124).run Try.prog w = .ok true w := Try.isAgg124 w
theorem sz_124 (w : World) : (sizeOf 124).run Try.prog w = .ok 1 w := Try.sizeOf124 w
theorem it_124 : ITy Try.prog 124 [.slice none 0 0] 24 := ⟨⟨_, (show Try.prog.info? 124 = some Try.t124 by kernel_rfl), rfl, rfl, _, rfl, rfl⟩⟩
theorem us_125 : (Try.prog.underlying 125).isSome = true := by rw [Try.underlying125]; rfl
theorem ag_125 (w : World) : (isAgg 125).run Try.prog w = .ok true w := Try.isAgg125 w
theorem sz_125 (w : World) : (sizeOf 125).run Try.prog w = .ok 1 w := Try.sizeOf125 w
theorem it_125 : ITy Try.prog 125 [.slice none 0 0] 24 := ⟨⟨_, (show Try.prog.info? 125 = some Try.t125 by kernel_rfl), rfl, rfl, _, rfl, rfl⟩⟩
theorem us_128 : (Try.prog.underlying 128).isSome = true := by rw [Try.underlying128]; rfl
theorem ag_128 (w : World) : (isAgg 128).run Try.prog w = .ok false w := Try.isAgg128 w
theorem sz_128 (w : World) : (sizeOf 128).run Try.prog w = .ok 1 w := Try.sizeOf128 w
theorem it_128 : ITy Try.prog 128 [.nilFunc] 8 := ⟨⟨_, (show Try.prog.info? 128 = some Try.t128 by kernel_rfl), rfl, rfl, _, rfl, rfl⟩⟩
theorem st_131 : STy Try.prog 131 53 1 := ⟨Try.underlying131, Try.sizeOf53⟩
theorem un_131 : Try.prog.underlying 131 = some (.slice 53) := Try.underlying131
theorem us_131 : (Try.prog.underlying 131).isSome = true := by rw [un_131]; rfl
theorem ag_131 (w : World) : (isAgg 131).run Try.prog w = .ok false w := Try.isAgg131 w
theorem sz_131 (w : World) : (sizeOf 131).run Try.prog w = .ok 1 w := Try.sizeOf131 w
theorem it_131 : ITy Try.prog 131 [.slice none 0 0] 24 := ⟨⟨_, (show Try.prog.info? 131 = some Try.t131 by kernel_rfl), rfl, rfl, _, rfl, rfl⟩⟩
theorem st_133 : STy Try.prog 133 32 1 := ⟨Try.underlying133, Try.sizeOf32⟩
theorem un_133 : Try.prog.underlying 133 = some (.slice 32) := Try.underlying133
theorem us_133 : (Try.prog.underlying 133).isSome = true := by rw [un_133]; rfl
theorem ag_133 (w : World) : (isAgg 133).run Try.prog w = .ok false w := Try.isAgg133 w
theorem sz_133 (w : World) : (sizeOf 133).run Try.prog w = .ok 1 w := Try.sizeOf133 w
theorem it_133 : ITy Try.prog 133 [.slice none 0 0] 24 := ⟨⟨_, (show Try.prog.info? 133 = some Try.t133 by kernel_rfl), rfl, rfl, _, rfl, rfl⟩⟩
theorem us_136 : (Try.prog.underlying 136).isSome = true := by rw [Try.underlying136]; rfl
theorem ag_136 (w : World) : (isAgg 136).run Try.prog w = .ok false w := Try.isAgg136 w
theorem sz_136 (w : World) : (sizeOf 136).run Try.prog w = .ok 1 w := Try.sizeOf136 w
theorem it_136 : ITy Try.prog 136 [.nilFunc] 8 := ⟨⟨_, (show Try.prog.info? 136 = some Try.t136 by kernel_rfl), rfl, rfl, _, rfl, rfl⟩⟩
theorem us_137 : (Try.prog.underlying 137).isSome = true := by rw [Try.underlying137]; rfl
theorem ag_137 (w : World) : (isAgg 137).run Try.prog w = .ok false w := Try.isAgg137 w
theorem sz_137 (w : World) : (sizeOf 137).run Try.prog w = .ok 1 w := Try.sizeOf137 w
theorem it_137 : ITy Try.prog 137 [.nilFunc] 8 := ⟨⟨_, (show Try.prog.info? 137 = some Try.t137 by kernel_rfl), rfl, rfl, _, rfl, rfl⟩⟩
theorem st_139 : STy Try.prog 139 133 1 := ⟨Try.underlying139, Try.sizeOf133⟩
theorem un_139 : Try.prog.underlying 139 = some (.slice 133) := Try.underlying139
theorem us_139 : (Try.prog.underlying 139).isSome = true := by rw [un_139]; rfl
theorem ag_139 (w : World) : (isAgg 139).run Try.prog w = .ok false w := Try.isAgg139 w
theorem sz_139 (w : World) : (sizeOf 139).run Try.prog w = .ok 1 w := Try.sizeOf139 w
theorem it_139 : ITy Try.prog 139 [.slice none 0 0] 24 := ⟨⟨_, (show Try.prog.info? 139 = some Try.t139 by kernel_rfl), rfl, rfl, _, rfl, rfl⟩⟩
theorem us_142 : (Try.prog.underlying 142).isSome = true := by rw [Try.underlying142]; rfl
theorem ag_142 (w : World) : (isAgg 142).run Try.prog w = .ok true w := Try.isAgg142 w
theorem sz_142 (w : World) : (sizeOf 142).run Try.prog w = .ok 4 w := Try.sizeOf142 w
theorem it_142 : ITy Try.prog 142 [.pointer none, .pointer none, .pointer none, .string ⟨#[]⟩] 40 := ⟨⟨_, (show Try.prog.info? 142 = some Try.t142 by kernel_rfl), rfl, rfl, _, rfl, rfl⟩⟩
theorem us_143 : (Try.prog.underlying 143).isSome = true := by rw [Try.underlying143]; rfl
theorem ag_143 (w : World) : (isAgg 143).run Try.prog w = .ok true w := Try.isAgg143 w
theorem sz_143 (w : World) : (sizeOf 143).run Try.prog w = .ok 4 w := Try.sizeOf143 w
theorem it_143 : ITy Try.prog 143 [.pointer none, .pointer none, .pointer none, .string ⟨#[]⟩] 40 := ⟨⟨_, (show Try.prog.info? 143 = some Try.t143 by kernel_rfl), rfl, rfl, _, rfl, rfl⟩⟩
theorem un_144 : Try.prog.underlying 144 = some (.array 0 16) := Try.underlying144
theorem us_144 : (Try.prog.underlying 144).isSome = true := by rw [un_144]; rfl
theorem ag_144 (w : World) : (isAgg 144).run Try.prog w = .ok true w := Try.isAgg144 w
theorem sz_144 (w : World) : (sizeOf 144).run Try.prog w = .ok 0 w := Try.sizeOf144 w
theorem it_144 : ITy Try.prog 144 [] 0 := ⟨⟨_, (show Try.prog.info? 144 = some Try.t144 by kernel_rfl), rfl, rfl, _, rfl, rfl⟩⟩
theorem us_145 : (Try.prog.underlying 145).isSome = true := by rw [Try.underlying145]; rfl
theorem ag_145 (w : World) : (isAgg 145).run Try.prog w = .ok true w := Try.isAgg145 w
theorem sz_145 (w : World) : (sizeOf 145).run Try.prog w = .ok 0 w := Try.sizeOf145 w
theorem it_145 : ITy Try.prog 145 [] 0 := ⟨⟨_, (show Try.prog.info? 145 = some Try.t145 by kernel_rfl), rfl, rfl, _, rfl, rfl⟩⟩
theorem us_146 : (Try.prog.underlying 146).isSome = true := by rw [Try.underlying146]; rfl
theorem ag_146 (w : World) : (isAgg 146).run Try.prog w = .ok true w := Try.isAgg146 w
theorem sz_146 (w : World) : (sizeOf 146).run Try.prog w = .ok 0 w := Try.sizeOf146 w
theorem it_146 : ITy Try.prog 146 [] 0 := ⟨⟨_, (show Try.prog.info? 146 = some Try.t146 by kernel_rfl), rfl, rfl, _, rfl, rfl⟩⟩
theorem un_147 : Try.prog.underlying 147 = some (.int .u8) := Try.underlying147
theorem us_147 : (Try.prog.underlying 147).isSome = true := by rw [un_147]; rfl
theorem ag_147 (w : World) : (isAgg 147).run Try.prog w = .ok false w := Try.isAgg147 w
theorem sz_147 (w : World) : (sizeOf 147).run Try.prog w = .ok 1 w := Try.sizeOf147 w
theorem it_147 : ITy Try.prog 147 [.int .u8 0] 1 := ⟨⟨_, (show Try.prog.info? 147 = some Try.t147 by kernel_rfl), rfl, rfl, _, rfl, rfl⟩⟩
theorem un_148 : Try.prog.underlying 148 = some (.int .u8) := Try.underlying148
theorem us_148 : (Try.prog.underlying 148).isSome = true := by rw [un_148]; rfl
theorem ag_148 (w : World) : (isAgg 148).run Try.prog w = .ok false w := Try.isAgg148 w
theorem sz_148 (w : World) : (sizeOf 148).run Try.prog w = .ok 1 w := Try.sizeOf148 w
theorem it_148 : ITy Try.prog 148 [.int .u8 0] 1 := ⟨⟨_, (show Try.prog.info? 148 = some Try.t148 by kernel_rfl), rfl, rfl, _, rfl, rfl⟩⟩
theorem us_149 : (Try.prog.underlying 149).isSome = true := by rw [Try.underlying149]; rfl
theorem ag_149 (w : World) : (isAgg 149).run Try.prog w = .ok false w := Try.isAgg149 w
theorem sz_149 (w : World) : (sizeOf 149).run Try.prog w = .ok 1 w := Try.sizeOf149 w
theorem it_149 : ITy Try.prog 149 [.nilFunc] 8 := ⟨⟨_, (show Try.prog.info? 149 = some Try.t149 by kernel_rfl), rfl, rfl, _, rfl, rfl⟩⟩
theorem un_150 : Try.prog.underlying 150 = some (.pointer 5) := Try.underlying150
theorem us_150 : (Try.prog.underlying 150).isSome = true := by rw [un_150]; rfl
theorem ag_150 (w : World) : (isAgg 150).run Try.prog w = .ok false w := Try.isAgg150 w
theorem sz_150 (w : World) : (sizeOf 150).run Try.prog w = .ok 1 w := Try.sizeOf150 w
theorem it_150 : ITy Try.prog 150 [.pointer none] 8 := ⟨⟨_, (show Try.prog.info? 150 = some Try.t150 by kernel_rfl), rfl, rfl, _, rfl, rfl⟩⟩
theorem un_151 : Try.prog.underlying 151 = some (.int .i32) := Try.underlying151
theorem us_151 : (Try.prog.underlying 151).isSome = true := by rw [un_151]; rfl
theorem ag_151 (w : World) : (isAgg 151).run Try.prog w = .ok false w := Try.isAgg151 w
theorem sz_151 (w : World) : (sizeOf 151).run Try.prog w = .ok 1 w := Try.sizeOf151 w
theorem it_151 : ITy Try.prog 151 [.int .i32 0] 4 := ⟨⟨_, (show Try.prog.info? 151 = some Try.t151 by kernel_rfl), rfl, rfl, _, rfl, rfl⟩⟩
theorem un_152 : Try.prog.underlying 152 = some (.int .i32) := Try.underlying152
theorem us_152 : (Try.prog.underlying 152).isSome = true := by rw [un_152]; rfl
theorem ag_152 (w : World) : (isAgg 152).run Try.prog w = .ok false w := Try.isAgg152 w
theorem sz_152 (w : World) : (sizeOf 152).run Try.prog w = .ok 1 w := Try.sizeOf152 w
theorem it_152 : ITy Try.prog 152 [.int .i32 0] 4 := ⟨⟨_, (show Try.prog.info? 152 = some Try.t152 by kernel_rfl), rfl, rfl, _, rfl, rfl⟩⟩
theorem us_153 : (Try.prog.underlying 153).isSome = true := by rw [Try.underlying153]; rfl
theorem ag_153 (w : World) : (isAgg 153).run Try.prog w = .ok true w := Try.isAgg153 w
theorem sz_153 (w : World) : (sizeOf 153).run Try.prog w = .ok 11 w := Try.sizeOf153 w
theorem it_153 : ITy Try.prog 153 [.int .u64 0, .int .u64 0, .int .u32 0, .int .u8 0, .int .u8 0, .int .u8 0, .int .u8 0, .nilFunc, .pointer none, .int .i32 0, .int .i32 0] 48 := ⟨⟨_, (show Try.prog.info? 153 = some Try.t153 by kernel_rfl), rfl, rfl, _, rfl, rfl⟩⟩
theorem us_154 : (Try.prog.underlying 154).isSome = true := by rw [Try.underlying154]; rfl
theorem ag_154 (w : World) : (isAgg 154).run Try.prog w = .ok true w := Try.isAgg154 w
theorem sz_154 (w : World) : (sizeOf 154).run Try.prog w = .ok 11 w := Try.sizeOf154 w
theorem it_154 : ITy Try.prog 154 [.int .u64 0, .int .u64 0, .int .u32 0, .int .u8 0, .int .u8 0, .int .u8 0, .int .u8 0, .nilFunc, .pointer none, .int .i32 0, .int .i32 0] 48 := ⟨⟨_, (show Try.prog.info? 154 = some Try.t154 by kernel_rfl), rfl, rfl, _, rfl, rfl⟩⟩
end Go.Proofs.Ytiaojbbgjlpikaa
