/- Closed facts on the types of this seat: printed by a program of ours. -/
import Derived.Test.YtaliinkmeokonaaGreatDoorReg
import Derived.Test.YtaliinkmeokonaaGreatDoorProg
namespace Go.Proofs.YtaliinkmeokonaaGreatDoor
open Go Go.Dd
set_option maxRecDepth 100000

theorem mixed : Tryz.prog.follows .mixedOrders = true := by kernel_rfl
theorem us_1 : (Tryz.prog.underlying 1).isSome = true := by rw [Tryz.underlying1]; rfl
theorem ag_1 (w : World) : (isAgg 1).run Tryz.prog w = .ok false w := Tryz.isAgg1 w
theorem sz_1 (w : World) : (sizeOf 1).run Tryz.prog w = .ok 1 w := Tryz.sizeOf1 w
theorem it_1 : ITy Tryz.prog 1 [.nilFunc] 8 := ⟨⟨_, (show Tryz.prog.info? 1 = some Tryz.t1 by kernel_rfl), rfl, rfl, _, rfl, rfl⟩⟩
theorem un_2 : Tryz.prog.underlying 2 = some (.int .i64) := Tryz.underlying2
theorem us_2 : (Tryz.prog.underlying 2).isSome = true := by rw [un_2]; rfl
theorem ag_2 (w : World) : (isAgg 2).run Tryz.prog w = .ok false w := Tryz.isAgg2 w
theorem sz_2 (w : World) : (sizeOf 2).run Tryz.prog w = .ok 1 w := Tryz.sizeOf2 w
theorem it_2 : ITy Tryz.prog 2 [.int .i64 0] 8 := ⟨⟨_, (show Tryz.prog.info? 2 = some Tryz.t2 by kernel_rfl), rfl, rfl, _, rfl, rfl⟩⟩
theorem un_3 : Tryz.prog.underlying 3 = some (.int .i64) := Tryz.underlying3
theorem us_3 : (Tryz.prog.underlying 3).isSome = true := by rw [un_3]; rfl
theorem ag_3 (w : World) : (isAgg 3).run Tryz.prog w = .ok false w := Tryz.isAgg3 w
theorem sz_3 (w : World) : (sizeOf 3).run Tryz.prog w = .ok 1 w := Tryz.sizeOf3 w
theorem it_3 : ITy Tryz.prog 3 [.int .i64 0] 8 := ⟨⟨_, (show Tryz.prog.info? 3 = some Tryz.t3 by kernel_rfl), rfl, rfl, _, rfl, rfl⟩⟩
theorem un_4 : Tryz.prog.underlying 4 = some (.bool) := Tryz.underlying4
theorem us_4 : (Tryz.prog.underlying 4).isSome = true := by rw [un_4]; rfl
theorem ag_4 (w : World) : (isAgg 4).run Tryz.prog w = .ok false w := Tryz.isAgg4 w
theorem sz_4 (w : World) : (sizeOf 4).run Tryz.prog w = .ok 1 w := Tryz.sizeOf4 w
theorem it_4 : ITy Tryz.prog 4 [.bool false] 1 := ⟨⟨_, (show Tryz.prog.info? 4 = some Tryz.t4 by kernel_rfl), rfl, rfl, _, rfl, rfl⟩⟩
theorem un_5 : Tryz.prog.underlying 5 = some (.int .u8) := Tryz.underlying5
theorem us_5 : (Tryz.prog.underlying 5).isSome = true := by rw [un_5]; rfl
theorem ag_5 (w : World) : (isAgg 5).run Tryz.prog w = .ok false w := Tryz.isAgg5 w
theorem sz_5 (w : World) : (sizeOf 5).run Tryz.prog w = .ok 1 w := Tryz.sizeOf5 w
theorem it_5 : ITy Tryz.prog 5 [.int .u8 0] 1 := ⟨⟨_, (show Tryz.prog.info? 5 = some Tryz.t5 by kernel_rfl), rfl, rfl, _, rfl, rfl⟩⟩
theorem un_6 : Tryz.prog.underlying 6 = some (.int .u8) := Tryz.underlying6
theorem us_6 : (Tryz.prog.underlying 6).isSome = true := by rw [un_6]; rfl
theorem ag_6 (w : World) : (isAgg 6).run Tryz.prog w = .ok false w := Tryz.isAgg6 w
theorem sz_6 (w : World) : (sizeOf 6).run Tryz.prog w = .ok 1 w := Tryz.sizeOf6 w
theorem it_6 : ITy Tryz.prog 6 [.int .u8 0] 1 := ⟨⟨_, (show Tryz.prog.info? 6 = some Tryz.t6 by kernel_rfl), rfl, rfl, _, rfl, rfl⟩⟩
theorem us_7 : (Tryz.prog.underlying 7).isSome = true := by rw [Tryz.underlying7]; rfl
theorem ag_7 (w : World) : (isAgg 7).run Tryz.prog w = .ok true w := Tryz.isAgg7 w
theorem sz_7 (w : World) : (sizeOf 7).run Tryz.prog w = .ok 4 w := Tryz.sizeOf7 w
theorem it_7 : ITy Tryz.prog 7 [.int .i64 0, .int .i64 0, .bool false, .int .u8 0] 24 := ⟨⟨_, (show Tryz.prog.info? 7 = some Tryz.t7 by kernel_rfl), rfl, rfl, _, rfl, rfl⟩⟩
theorem us_8 : (Tryz.prog.underlying 8).isSome = true := by rw [Tryz.underlying8]; rfl
theorem ag_8 (w : World) : (isAgg 8).run Tryz.prog w = .ok true w := Tryz.isAgg8 w
theorem sz_8 (w : World) : (sizeOf 8).run Tryz.prog w = .ok 4 w := Tryz.sizeOf8 w
theorem it_8 : ITy Tryz.prog 8 [.int .i64 0, .int .i64 0, .bool false, .int .u8 0] 24 := ⟨⟨_, (show Tryz.prog.info? 8 = some Tryz.t8 by kernel_rfl), rfl, rfl, _, rfl, rfl⟩⟩
theorem un_9 : Tryz.prog.underlying 9 = some (.string) := Tryz.underlying9
theorem us_9 : (Tryz.prog.underlying 9).isSome = true := by rw [un_9]; rfl
theorem ag_9 (w : World) : (isAgg 9).run Tryz.prog w = .ok false w := Tryz.isAgg9 w
theorem sz_9 (w : World) : (sizeOf 9).run Tryz.prog w = .ok 1 w := Tryz.sizeOf9 w
theorem it_9 : ITy Tryz.prog 9 [.string ⟨#[]⟩] 16 := ⟨⟨_, (show Tryz.prog.info? 9 = some Tryz.t9 by kernel_rfl), rfl, rfl, _, rfl, rfl⟩⟩
theorem un_10 : Tryz.prog.underlying 10 = some (.string) := Tryz.underlying10
theorem us_10 : (Tryz.prog.underlying 10).isSome = true := by rw [un_10]; rfl
theorem ag_10 (w : World) : (isAgg 10).run Tryz.prog w = .ok false w := Tryz.isAgg10 w
theorem sz_10 (w : World) : (sizeOf 10).run Tryz.prog w = .ok 1 w := Tryz.sizeOf10 w
theorem it_10 : ITy Tryz.prog 10 [.string ⟨#[]⟩] 16 := ⟨⟨_, (show Tryz.prog.info? 10 = some Tryz.t10 by kernel_rfl), rfl, rfl, _, rfl, rfl⟩⟩
theorem un_11 : Tryz.prog.underlying 11 = some (.string) := Tryz.underlying11
theorem us_11 : (Tryz.prog.underlying 11).isSome = true := by rw [un_11]; rfl
theorem ag_11 (w : World) : (isAgg 11).run Tryz.prog w = .ok false w := Tryz.isAgg11 w
theorem sz_11 (w : World) : (sizeOf 11).run Tryz.prog w = .ok 1 w := Tryz.sizeOf11 w
theorem it_11 : ITy Tryz.prog 11 [.string ⟨#[]⟩] 16 := ⟨⟨_, (show Tryz.prog.info? 11 = some Tryz.t11 by kernel_rfl), rfl, rfl, _, rfl, rfl⟩⟩
theorem un_12 : Tryz.prog.underlying 12 = some (.int .u64) := Tryz.underlying12
theorem us_12 : (Tryz.prog.underlying 12).isSome = true := by rw [un_12]; rfl
theorem ag_12 (w : World) : (isAgg 12).run Tryz.prog w = .ok false w := Tryz.isAgg12 w
theorem sz_12 (w : World) : (sizeOf 12).run Tryz.prog w = .ok 1 w := Tryz.sizeOf12 w
theorem it_12 : ITy Tryz.prog 12 [.int .u64 0] 8 := ⟨⟨_, (show Tryz.prog.info? 12 = some Tryz.t12 by kernel_rfl), rfl, rfl, _, rfl, rfl⟩⟩
theorem us_13 : (Tryz.prog.underlying 13).isSome = true := by rw [Tryz.underlying13]; rfl
theorem ag_13 (w : World) : (isAgg 13).run Tryz.prog w = .ok true w := Tryz.isAgg13 w
theorem sz_13 (w : World) : (sizeOf 13).run Tryz.prog w = .ok 2 w := Tryz.sizeOf13 w
theorem it_13 : ITy Tryz.prog 13 [.string ⟨#[]⟩, .int .u64 0] 24 := ⟨⟨_, (show Tryz.prog.info? 13 = some Tryz.t13 by kernel_rfl), rfl, rfl, _, rfl, rfl⟩⟩
theorem us_14 : (Tryz.prog.underlying 14).isSome = true := by rw [Tryz.underlying14]; rfl
theorem ag_14 (w : World) : (isAgg 14).run Tryz.prog w = .ok true w := Tryz.isAgg14 w
theorem sz_14 (w : World) : (sizeOf 14).run Tryz.prog w = .ok 2 w := Tryz.sizeOf14 w
theorem it_14 : ITy Tryz.prog 14 [.string ⟨#[]⟩, .int .u64 0] 24 := ⟨⟨_, (show Tryz.prog.info? 14 = some Tryz.t14 by kernel_rfl), rfl, rfl, _, rfl, rfl⟩⟩
theorem un_15 : Tryz.prog.underlying 15 = some (.pointer 167) := Tryz.underlying15
theorem us_15 : (Tryz.prog.underlying 15).isSome = true := by rw [un_15]; rfl
theorem ag_15 (w : World) : (isAgg 15).run Tryz.prog w = .ok false w := Tryz.isAgg15 w
theorem sz_15 (w : World) : (sizeOf 15).run Tryz.prog w = .ok 1 w := Tryz.sizeOf15 w
theorem it_15 : ITy Tryz.prog 15 [.pointer none] 8 := ⟨⟨_, (show Tryz.prog.info? 15 = some Tryz.t15 by kernel_rfl), rfl, rfl, _, rfl, rfl⟩⟩
theorem un_16 : Tryz.prog.underlying 16 = some (.pointer 170) := Tryz.underlying16
theorem us_16 : (Tryz.prog.underlying 16).isSome = true := by rw [un_16]; rfl
theorem ag_16 (w : World) : (isAgg 16).run Tryz.prog w = .ok false w := Tryz.isAgg16 w
theorem sz_16 (w : World) : (sizeOf 16).run Tryz.prog w = .ok 1 w := Tryz.sizeOf16 w
theorem it_16 : ITy Tryz.prog 16 [.pointer none] 8 := ⟨⟨_, (show Tryz.prog.info? 16 = some Tryz.t16 by kernel_rfl), rfl, rfl, _, rfl, rfl⟩⟩
theorem un_17 : Tryz.prog.underlying 17 = some (.pointer 179) := Tryz.underlying17
theorem us_17 : (Tryz.prog.underlying 17).isSome = true := by rw [un_17]; rfl
theorem ag_17 (w : World) : (isAgg 17).run Tryz.prog w = .ok false w := Tryz.isAgg17 w
theorem sz_17 (w : World) : (sizeOf 17).run Tryz.prog w = .ok 1 w := Tryz.sizeOf17 w
theorem it_17 : ITy Tryz.prog 17 [.pointer none] 8 := ⟨⟨_, (show Tryz.prog.info? 17 = some Tryz.t17 by kernel_rfl), rfl, rfl, _, rfl, rfl⟩⟩
theorem us_18 : (Tryz.prog.underlying 18).isSome = true := by rw [Tryz.underlying18]; rfl
theorem ag_18 (w : World) : (isAgg 18).run Tryz.prog w = .ok true w := Tryz.isAgg18 w
theorem sz_18 (w : World) : (sizeOf 18).run Tryz.prog w = .ok 1 w := Tryz.sizeOf18 w
theorem it_18 : ITy Tryz.prog 18 [.pointer none] 8 := ⟨⟨_, (show Tryz.prog.info? 18 = some Tryz.t18 by kernel_rfl), rfl, rfl, _, rfl, rfl⟩⟩
theorem us_19 : (Tryz.prog.underlying 19).isSome = true := by rw [Tryz.underlying19]; rfl
theorem ag_19 (w : World) : (isAgg 19).run Tryz.prog w = .ok true w := Tryz.isAgg19 w
theorem sz_19 (w : World) : (sizeOf 19).run Tryz.prog w = .ok 1 w := Tryz.sizeOf19 w
theorem it_19 : ITy Tryz.prog 19 [.pointer none] 8 := ⟨⟨_, (show Tryz.prog.info? 19 = some Tryz.t19 by kernel_rfl), rfl, rfl, _, rfl, rfl⟩⟩
theorem us_20 : (Tryz.prog.underlying 20).isSome = true := by rw [Tryz.underlying20]; rfl
theorem ag_20 (w : World) : (isAgg 20).run Tryz.prog w = .ok false w := Tryz.isAgg20 w
theorem sz_20 (w : World) : (sizeOf 20).run Tryz.prog w = .ok 1 w := Tryz.sizeOf20 w
theorem it_20 : ITy Tryz.prog 20 [.nilIface] 16 := ⟨⟨_, (show Tryz.prog.info? 20 = some Tryz.t20 by kernel_rfl), rfl, rfl, _, rfl, rfl⟩⟩
theorem un_21 : Tryz.prog.underlying 21 = some (.int .i32) := Tryz.underlying21
theorem us_21 : (Tryz.prog.underlying 21).isSome = true := by rw [un_21]; rfl
theorem ag_21 (w : World) : (isAgg 21).run Tryz.prog w = .ok false w := Tryz.isAgg21 w
theorem sz_21 (w : World) : (sizeOf 21).run Tryz.prog w = .ok 1 w := Tryz.sizeOf21 w
theorem it_21 : ITy Tryz.prog 21 [.int .i32 0] 4 := ⟨⟨_, (show Tryz.prog.info? 21 = some Tryz.t21 by kernel_rfl), rfl, rfl, _, rfl, rfl⟩⟩
theorem st_22 : STy Tryz.prog 22 3 1 := ⟨Tryz.underlying22, Tryz.sizeOf3⟩
theorem un_22 : Tryz.prog.underlying 22 = some (.slice 3) := Tryz.underlying22
theorem us_22 : (Tryz.prog.underlying 22).isSome = true := by rw [un_22]; rfl
theorem ag_22 (w : World) : (isAgg 22).run Tryz.prog w = .ok false w := Tryz.isAgg22 w
theorem sz_22 (w : World) : (sizeOf 22).run Tryz.prog w = .ok 1 w := Tryz.sizeOf22 w
theorem it_22 : ITy Tryz.prog 22 [.slice none 0 0] 24 := ⟨⟨_, (show Tryz.prog.info? 22 = some Tryz.t22 by kernel_rfl), rfl, rfl, _, rfl, rfl⟩⟩
theorem un_25 : Tryz.prog.underlying 25 = some (.int .i64) := Tryz.underlying25
theorem us_25 : (Tryz.prog.underlying 25).isSome = true := by rw [un_25]; rfl
theorem ag_25 (w : World) : (isAgg 25).run Tryz.prog w = .ok false w := Tryz.isAgg25 w
theorem sz_25 (w : World) : (sizeOf 25).run Tryz.prog w = .ok 1 w := Tryz.sizeOf25 w
theorem it_25 : ITy Tryz.prog 25 [.int .i64 0] 8 := ⟨⟨_, (show Tryz.prog.info? 25 = some Tryz.t25 by kernel_rfl), rfl, rfl, _, rfl, rfl⟩⟩
theorem st_33 : STy Tryz.prog 33 61 3 := ⟨Tryz.underlying33, Tryz.sizeOf61⟩
theorem un_33 : Tryz.prog.underlying 33 = some (.slice 61) := Tryz.underlying33
theorem us_33 : (Tryz.prog.underlying 33).isSome = true := by rw [un_33]; rfl
theorem ag_33 (w : World) : (isAgg 33).run Tryz.prog w = .ok false w := Tryz.isAgg33 w
theorem sz_33 (w : World) : (sizeOf 33).run Tryz.prog w = .ok 1 w := Tryz.sizeOf33 w
theorem it_33 : ITy Tryz.prog 33 [.slice none 0 0] 24 := ⟨⟨_, (show Tryz.prog.info? 33 = some Tryz.t33 by kernel_rfl), rfl, rfl, _, rfl, rfl⟩⟩
theorem st_34 : STy Tryz.prog 34 58 3 := ⟨Tryz.underlying34, Tryz.sizeOf58⟩
theorem un_34 : Tryz.prog.underlying 34 = some (.slice 58) := Tryz.underlying34
theorem us_34 : (Tryz.prog.underlying 34).isSome = true := by rw [un_34]; rfl
theorem ag_34 (w : World) : (isAgg 34).run Tryz.prog w = .ok false w := Tryz.isAgg34 w
theorem sz_34 (w : World) : (sizeOf 34).run Tryz.prog w = .ok 1 w := Tryz.sizeOf34 w
theorem it_34 : ITy Tryz.prog 34 [.slice none 0 0] 24 := ⟨⟨_, (show Tryz.prog.info? 34 = some Tryz.t34 by kernel_rfl), rfl, rfl, _, rfl, rfl⟩⟩
theorem st_35 : STy Tryz.prog 35 66 3 := ⟨Tryz.underlying35, Tryz.sizeOf66⟩
theorem un_35 : Tryz.prog.underlying 35 = some (.slice 66) := Tryz.underlying35
theorem us_35 : (Tryz.prog.underlying 35).isSome = true := by rw [un_35]; rfl
theorem ag_35 (w : World) : (isAgg 35).run Tryz.prog w = .ok false w := Tryz.isAgg35 w
theorem sz_35 (w : World) : (sizeOf 35).run Tryz.prog w = .ok 1 w := Tryz.sizeOf35 w
theorem it_35 : ITy Tryz.prog 35 [.slice none 0 0] 24 := ⟨⟨_, (show Tryz.prog.info? 35 = some Tryz.t35 by kernel_rfl), rfl, rfl, _, rfl, rfl⟩⟩
theorem st_36 : STy Tryz.prog 36 70 3 := ⟨Tryz.underlying36, Tryz.sizeOf70⟩
theorem un_36 : Tryz.prog.underlying 36 = some (.slice 70) := Tryz.underlying36
theorem us_36 : (Tryz.prog.underlying 36).isSome = true := by rw [un_36]; rfl
theorem ag_36 (w : World) : (isAgg 36).run Tryz.prog w = .ok false w := Tryz.isAgg36 w
theorem sz_36 (w : World) : (sizeOf 36).run Tryz.prog w = .ok 1 w := Tryz.sizeOf36 w
theorem it_36 : ITy Tryz.prog 36 [.slice none 0 0] 24 := ⟨⟨_, (show Tryz.prog.info? 36 = some Tryz.t36 by kernel_rfl), rfl, rfl, _, rfl, rfl⟩⟩
theorem st_37 : STy Tryz.prog 37 75 3 := ⟨Tryz.underlying37, Tryz.sizeOf75⟩
theorem un_37 : Tryz.prog.underlying 37 = some (.slice 75) := Tryz.underlying37
theorem us_37 : (Tryz.prog.underlying 37).isSome = true := by rw [un_37]; rfl
theorem ag_37 (w : World) : (isAgg 37).run Tryz.prog w = .ok false w := Tryz.isAgg37 w
theorem sz_37 (w : World) : (sizeOf 37).run Tryz.prog w = .ok 1 w := Tryz.sizeOf37 w
theorem it_37 : ITy Tryz.prog 37 [.slice none 0 0] 24 := ⟨⟨_, (show Tryz.prog.info? 37 = some Tryz.t37 by kernel_rfl), rfl, rfl, _, rfl, rfl⟩⟩
theorem st_38 : STy Tryz.prog 38 79 3 := ⟨Tryz.underlying38, Tryz.sizeOf79⟩
theorem un_38 : Tryz.prog.underlying 38 = some (.slice 79) := Tryz.underlying38
theorem us_38 : (Tryz.prog.underlying 38).isSome = true := by rw [un_38]; rfl
theorem ag_38 (w : World) : (isAgg 38).run Tryz.prog w = .ok false w := Tryz.isAgg38 w
theorem sz_38 (w : World) : (sizeOf 38).run Tryz.prog w = .ok 1 w := Tryz.sizeOf38 w
theorem it_38 : ITy Tryz.prog 38 [.slice none 0 0] 24 := ⟨⟨_, (show Tryz.prog.info? 38 = some Tryz.t38 by kernel_rfl), rfl, rfl, _, rfl, rfl⟩⟩
theorem st_39 : STy Tryz.prog 39 85 3 := ⟨Tryz.underlying39, Tryz.sizeOf85⟩
theorem un_39 : Tryz.prog.underlying 39 = some (.slice 85) := Tryz.underlying39
theorem us_39 : (Tryz.prog.underlying 39).isSome = true := by rw [un_39]; rfl
theorem ag_39 (w : World) : (isAgg 39).run Tryz.prog w = .ok false w := Tryz.isAgg39 w
theorem sz_39 (w : World) : (sizeOf 39).run Tryz.prog w = .ok 1 w := Tryz.sizeOf39 w
theorem it_39 : ITy Tryz.prog 39 [.slice none 0 0] 24 := ⟨⟨_, (show Tryz.prog.info? 39 = some Tryz.t39 by kernel_rfl), rfl, rfl, _, rfl, rfl⟩⟩
theorem st_40 : STy Tryz.prog 40 92 3 := ⟨Tryz.underlying40, Tryz.sizeOf92⟩
theorem un_40 : Tryz.prog.underlying 40 = some (.slice 92) := Tryz.underlying40
theorem us_40 : (Tryz.prog.underlying 40).isSome = true := by rw [un_40]; rfl
theorem ag_40 (w : World) : (isAgg 40).run Tryz.prog w = .ok false w := Tryz.isAgg40 w
theorem sz_40 (w : World) : (sizeOf 40).run Tryz.prog w = .ok 1 w := Tryz.sizeOf40 w
theorem it_40 : ITy Tryz.prog 40 [.slice none 0 0] 24 := ⟨⟨_, (show Tryz.prog.info? 40 = some Tryz.t40 by kernel_rfl), rfl, rfl, _, rfl, rfl⟩⟩
theorem st_41 : STy Tryz.prog 41 99 3 := ⟨Tryz.underlying41, Tryz.sizeOf99⟩
theorem un_41 : Tryz.prog.underlying 41 = some (.slice 99) := Tryz.underlying41
theorem us_41 : (Tryz.prog.underlying 41).isSome = true := by rw [un_41]; rfl
theorem ag_41 (w : World) : (isAgg 41).run Tryz.prog w = .ok false w := Tryz.isAgg41 w
theorem sz_41 (w : World) : (sizeOf 41).run Tryz.prog w = .ok 1 w := Tryz.sizeOf41 w
theorem it_41 : ITy Tryz.prog 41 [.slice none 0 0] 24 := ⟨⟨_, (show Tryz.prog.info? 41 = some Tryz.t41 by kernel_rfl), rfl, rfl, _, rfl, rfl⟩⟩
theorem st_42 : STy Tryz.prog 42 105 3 := ⟨Tryz.underlying42, Tryz.sizeOf105⟩
theorem un_42 : Tryz.prog.underlying 42 = some (.slice 105) := Tryz.underlying42
theorem us_42 : (Tryz.prog.underlying 42).isSome = true := by rw [un_42]; rfl
theorem ag_42 (w : World) : (isAgg 42).run Tryz.prog w = .ok false w := Tryz.isAgg42 w
theorem sz_42 (w : World) : (sizeOf 42).run Tryz.prog w = .ok 1 w := Tryz.sizeOf42 w
theorem it_42 : ITy Tryz.prog 42 [.slice none 0 0] 24 := ⟨⟨_, (show Tryz.prog.info? 42 = some Tryz.t42 by kernel_rfl), rfl, rfl, _, rfl, rfl⟩⟩
theorem st_43 : STy Tryz.prog 43 111 3 := ⟨Tryz.underlying43, Tryz.sizeOf111⟩
theorem un_43 : Tryz.prog.underlying 43 = some (.slice 111) := Tryz.underlying43
theorem us_43 : (Tryz.prog.underlying 43).isSome = true := by rw [un_43]; rfl
theorem ag_43 (w : World) : (isAgg 43).run Tryz.prog w = .ok false w := Tryz.isAgg43 w
theorem sz_43 (w : World) : (sizeOf 43).run Tryz.prog w = .ok 1 w := Tryz.sizeOf43 w
theorem it_43 : ITy Tryz.prog 43 [.slice none 0 0] 24 := ⟨⟨_, (show Tryz.prog.info? 43 = some Tryz.t43 by kernel_rfl), rfl, rfl, _, rfl, rfl⟩⟩
theorem st_44 : STy Tryz.prog 44 117 3 := ⟨Tryz.underlying44, Tryz.sizeOf117⟩
theorem un_44 : Tryz.prog.underlying 44 = some (.slice 117) := Tryz.underlying44
theorem us_44 : (Tryz.prog.underlying 44).isSome = true := by rw [un_44]; rfl
theorem ag_44 (w : World) : (isAgg 44).run Tryz.prog w = .ok false w := Tryz.isAgg44 w
theorem sz_44 (w : World) : (sizeOf 44).run Tryz.prog w = .ok 1 w := Tryz.sizeOf44 w
theorem it_44 : ITy Tryz.prog 44 [.slice none 0 0] 24 := ⟨⟨_, (show Tryz.prog.info? 44 = some Tryz.t44 by kernel_rfl), rfl, rfl, _, rfl, rfl⟩⟩
theorem st_45 : STy Tryz.prog 45 123 3 := ⟨Tryz.underlying45, Tryz.sizeOf123⟩
theorem un_45 : Tryz.prog.underlying 45 = some (.slice 123) := Tryz.underlying45
theorem us_45 : (Tryz.prog.underlying 45).isSome = true := by rw [un_45]; rfl
theorem ag_45 (w : World) : (isAgg 45).run Tryz.prog w = .ok false w := Tryz.isAgg45 w
theorem sz_45 (w : World) : (sizeOf 45).run Tryz.prog w = .ok 1 w := Tryz.sizeOf45 w
theorem it_45 : ITy Tryz.prog 45 [.slice none 0 0] 24 := ⟨⟨_, (show Tryz.prog.info? 45 = some Tryz.t45 by kernel_rfl), rfl, rfl, _, rfl, rfl⟩⟩
theorem st_46 : STy Tryz.prog 46 129 3 := ⟨Tryz.underlying46, Tryz.sizeOf129⟩
theorem un_46 : Tryz.prog.underlying 46 = some (.slice 129) := Tryz.underlying46
theorem us_46 : (Tryz.prog.underlying 46).isSome = true := by rw [un_46]; rfl
theorem ag_46 (w : World) : (isAgg 46).run Tryz.prog w = .ok false w := Tryz.isAgg46 w
theorem sz_46 (w : World) : (sizeOf 46).run Tryz.prog w = .ok 1 w := Tryz.sizeOf46 w
theorem it_46 : ITy Tryz.prog 46 [.slice none 0 0] 24 := ⟨⟨_, (show Tryz.prog.info? 46 = some Tryz.t46 by kernel_rfl), rfl, rfl, _, rfl, rfl⟩⟩
theorem st_47 : STy Tryz.prog 47 133 3 := ⟨Tryz.underlying47, Tryz.sizeOf133⟩
theorem un_47 : Tryz.prog.underlying 47 = some (.slice 133) := Tryz.underlying47
theorem us_47 : (Tryz.prog.underlying 47).isSome = true := by rw [un_47]; rfl
theorem ag_47 (w : World) : (isAgg 47).run Tryz.prog w = .ok false w := Tryz.isAgg47 w
theorem sz_47 (w : World) : (sizeOf 47).run Tryz.prog w = .ok 1 w := Tryz.sizeOf47 w
theorem it_47 : ITy Tryz.prog 47 [.slice none 0 0] 24 := ⟨⟨_, (show Tryz.prog.info? 47 = some Tryz.t47 by kernel_rfl), rfl, rfl, _, rfl, rfl⟩⟩
theorem us_48 : (Tryz.prog.underlying 48).isSome = true := by rw [Tryz.underlying48]; rfl
theorem ag_48 (w : World) : (isAgg 48).run Tryz.prog w = .ok true w := Tryz.isAgg48 w
theorem sz_48 (w : World) : (sizeOf 48).run Tryz.prog w = .ok 16 w := Tryz.sizeOf48 w
theorem it_48 : ITy Tryz.prog 48 [.int .i64 0, .slice none 0 0, .slice none 0 0, .slice none 0 0, .slice none 0 0, .slice none 0 0, .slice none 0 0, .slice none 0 0, .slice none 0 0, .slice none 0 0, .slice none 0 0, .slice none 0 0, .slice none 0 0, .slice none 0 0, .slice none 0 0, .slice none 0 0] 368 := ⟨⟨_, (show Tryz.prog.info? 48 = some Tryz.t48 by kernel_rfl), rfl, rfl, _, rfl, rfl⟩⟩
theorem us_49 : (Tryz.prog.underlying 49).isSome = true := by rw [Tryz.underlying49]; rfl
theorem ag_49 (w : World) : (isAgg 49).run Tryz.prog w = .ok true w := Tryz.isAgg49 w
theorem sz_49 (w : World) : (sizeOf 49).run Tryz.prog w = .ok 16 w := Tryz.sizeOf49 w
theorem it_49 : ITy Tryz.prog 49 [.int .i64 0, .slice none 0 0, .slice none 0 0, .slice none 0 0, .slice none 0 0, .slice none 0 0, .slice none 0 0, .slice none 0 0, .slice none 0 0, .slice none 0 0, .slice none 0 0, .slice none 0 0, .slice none 0 0, .slice none 0 0, .slice none 0 0, .slice none 0 0] 368 := ⟨⟨_, (show Tryz.prog.info? 49 = some Tryz.t49 by kernel_rfl), rfl, rfl, _, rfl, rfl⟩⟩
theorem us_54 : (Tryz.prog.underlying 54).isSome = true := by rw [Tryz.underlying54]; rfl
theorem ag_54 (w : World) : (isAgg 54).run Tryz.prog w = .ok false w := Tryz.isAgg54 w
theorem sz_54 (w : World) : (sizeOf 54).run Tryz.prog w = .ok 1 w := Tryz.sizeOf54 w
theorem it_54 : ITy Tryz.prog 54 [.nilFunc] 8 := ⟨⟨_, (show Tryz.prog.info? 54 = some Tryz.t54 by kernel_rfl), rfl, rfl, _, rfl, rfl⟩⟩
theorem un_56 : Tryz.prog.underlying 56 = some (.pointer 49) := Tryz.underlying56
theorem us_56 : (Tryz.prog.underlying 56).isSome = true := by rw [un_56]; rfl
theorem ag_56 (w : World) : (isAgg 56).run Tryz.prog w = .ok false w := Tryz.isAgg56 w
theorem sz_56 (w : World) : (sizeOf 56).run Tryz.prog w = .ok 1 w := Tryz.sizeOf56 w
theorem it_56 : ITy Tryz.prog 56 [.pointer none] 8 := ⟨⟨_, (show Tryz.prog.info? 56 = some Tryz.t56 by kernel_rfl), rfl, rfl, _, rfl, rfl⟩⟩
theorem us_57 : (Tryz.prog.underlying 57).isSome = true := by rw [Tryz.underlying57]; rfl
theorem ag_57 (w : World) : (isAgg 57).run Tryz.prog w = .ok true w := Tryz.isAgg57 w
theorem sz_57 (w : World) : (sizeOf 57).run Tryz.prog w = .ok 3 w := Tryz.sizeOf57 w
theorem it_57 : ITy Tryz.prog 57 [.slice none 0 0, .slice none 0 0, .int .i64 0] 56 := ⟨⟨_, (show Tryz.prog.info? 57 = some Tryz.t57 by kernel_rfl), rfl, rfl, _, rfl, rfl⟩⟩
theorem us_58 : (Tryz.prog.underlying 58).isSome = true := by rw [Tryz.underlying58]; rfl
theorem ag_58 (w : World) : (isAgg 58).run Tryz.prog w = .ok true w := Tryz.isAgg58 w
theorem sz_58 (w : World) : (sizeOf 58).run Tryz.prog w = .ok 3 w := Tryz.sizeOf58 w
theorem it_58 : ITy Tryz.prog 58 [.slice none 0 0, .slice none 0 0, .int .i64 0] 56 := ⟨⟨_, (show Tryz.prog.info? 58 = some Tryz.t58 by kernel_rfl), rfl, rfl, _, rfl, rfl⟩⟩
theorem st_59 : STy Tryz.prog 59 5 1 := ⟨Tryz.underlying59, Tryz.sizeOf5⟩
theorem un_59 : Tryz.prog.underlying 59 = some (.slice 5) := Tryz.underlying59
theorem us_59 : (Tryz.prog.underlying 59).isSome = true := by rw [un_59]; rfl
theorem ag_59 (w : World) : (isAgg 59).run Tryz.prog w = .ok false w := Tryz.isAgg59 w
theorem sz_59 (w : World) : (sizeOf 59).run Tryz.prog w = .ok 1 w := Tryz.sizeOf59 w
theorem it_59 : ITy Tryz.prog 59 [.slice none 0 0] 24 := ⟨⟨_, (show Tryz.prog.info? 59 = some Tryz.t59 by kernel_rfl), rfl, rfl, _, rfl, rfl⟩⟩
theorem us_60 : (Tryz.prog.underlying 60).isSome = true := by rw [Tryz.underlying60]; rfl
theorem ag_60 (w : World) : (isAgg 60).run Tryz.prog w = .ok true w := Tryz.isAgg60 w
theorem sz_60 (w : World) : (sizeOf 60).run Tryz.prog w = .ok 3 w := Tryz.sizeOf60 w
theorem it_60 : ITy Tryz.prog 60 [.slice none 0 0, .slice none 0 0, .int .i64 0] 56 := ⟨⟨_, (show Tryz.prog.info? 60 = some Tryz.t60 by kernel_rfl), rfl, rfl, _, rfl, rfl⟩⟩
theorem us_61 : (Tryz.prog.underlying 61).isSome = true := by rw [Tryz.underlying61]; rfl
theorem ag_61 (w : World) : (isAgg 61).run Tryz.prog w = .ok true w := Tryz.isAgg61 w
theorem sz_61 (w : World) : (sizeOf 61).run Tryz.prog w = .ok 3 w := Tryz.sizeOf61 w
theorem it_61 : ITy Tryz.prog 61 [.slice none 0 0, .slice none 0 0, .int .i64 0] 56 := ⟨⟨_, (show Tryz.prog.info? 61 = some Tryz.t61 by kernel_rfl), rfl, rfl, _, rfl, rfl⟩⟩
theorem st_64 : STy Tryz.prog 64 21 1 := ⟨Tryz.underlying64, Tryz.sizeOf21⟩
theorem un_64 : Tryz.prog.underlying 64 = some (.slice 21) := Tryz.underlying64
theorem us_64 : (Tryz.prog.underlying 64).isSome = true := by rw [un_64]; rfl
theorem ag_64 (w : World) : (isAgg 64).run Tryz.prog w = .ok false w := Tryz.isAgg64 w
theorem sz_64 (w : World) : (sizeOf 64).run Tryz.prog w = .ok 1 w := Tryz.sizeOf64 w
theorem it_64 : ITy Tryz.prog 64 [.slice none 0 0] 24 := ⟨⟨_, (show Tryz.prog.info? 64 = some Tryz.t64 by kernel_rfl), rfl, rfl, _, rfl, rfl⟩⟩
theorem us_65 : (Tryz.prog.underlying 65).isSome = true := by rw [Tryz.underlying65]; rfl
theorem ag_65 (w : World) : (isAgg 65).run Tryz.prog w = .ok true w := Tryz.isAgg65 w
theorem sz_65 (w : World) : (sizeOf 65).run Tryz.prog w = .ok 3 w := Tryz.sizeOf65 w
theorem it_65 : ITy Tryz.prog 65 [.slice none 0 0, .slice none 0 0, .int .i64 0] 56 := ⟨⟨_, (show Tryz.prog.info? 65 = some Tryz.t65 by kernel_rfl), rfl, rfl, _, rfl, rfl⟩⟩
theorem us_66 : (Tryz.prog.underlying 66).isSome = true := by rw [Tryz.underlying66]; rfl
theorem ag_66 (w : World) : (isAgg 66).run Tryz.prog w = .ok true w := Tryz.isAgg66 w
theorem sz_66 (w : World) : (sizeOf 66).run Tryz.prog w = .ok 3 w := Tryz.sizeOf66 w
theorem it_66 : ITy Tryz.prog 66 [.slice none 0 0, .slice none 0 0, .int .i64 0] 56 := ⟨⟨_, (show Tryz.prog.info? 66 = some Tryz.t66 by kernel_rfl), rfl, rfl, _, rfl, rfl⟩⟩
theorem st_68 : STy Tryz.prog 68 71 1 := ⟨Tryz.underlying68, Tryz.sizeOf71⟩
theorem un_68 : Tryz.prog.underlying 68 = some (.slice 71) := Tryz.underlying68
theorem us_68 : (Tryz.prog.underlying 68).isSome = true := by rw [un_68]; rfl
theorem ag_68 (w : World) : (isAgg 68).run Tryz.prog w = .ok false w := Tryz.isAgg68 w
theorem sz_68 (w : World) : (sizeOf 68).run Tryz.prog w = .ok 1 w := Tryz.sizeOf68 w
theorem it_68 : ITy Tryz.prog 68 [.slice none 0 0] 24 := ⟨⟨_, (show Tryz.prog.info? 68 = some Tryz.t68 by kernel_rfl), rfl, rfl, _, rfl, rfl⟩⟩
theorem us_69 : (Tryz.prog.underlying 69).isSome = true := by rw [Tryz.underlying69]; rfl
theorem ag_69 (w : World) : (isAgg 69).run Tryz.prog w = .ok true w := Tryz.isAgg69 w
theorem sz_69 (w : World) : (sizeOf 69).run Tryz.prog w = .ok 3 w := Tryz.sizeOf69 w
theorem it_69 : ITy Tryz.prog 69 [.slice none 0 0, .slice none 0 0, .int .i64 0] 56 := ⟨⟨_, (show Tryz.prog.info? 69 = some Tryz.t69 by kernel_rfl), rfl, rfl, _, rfl, rfl⟩⟩
theorem us_70 : (Tryz.prog.underlying 70).isSome = true := by rw [Tryz.underlying70]; rfl
theorem ag_70 (w : World) : (isAgg 70).run Tryz.prog w = .ok true w := Tryz.isAgg70 w
theorem sz_70 (w : World) : (sizeOf 70).run Tryz.prog w = .ok 3 w := Tryz.sizeOf70 w
theorem it_70 : ITy Tryz.prog 70 [.slice none 0 0, .slice none 0 0, .int .i64 0] 56 := ⟨⟨_, (show Tryz.prog.info? 70 = some Tryz.t70 by kernel_rfl), rfl, rfl, _, rfl, rfl⟩⟩
theorem un_71 : Tryz.prog.underlying 71 = some (.int .u32) := Tryz.underlying71
theorem us_71 : (Tryz.prog.underlying 71).isSome = true := by rw [un_71]; rfl
theorem ag_71 (w : World) : (isAgg 71).run Tryz.prog w = .ok false w := Tryz.isAgg71 w
theorem sz_71 (w : World) : (sizeOf 71).run Tryz.prog w = .ok 1 w := Tryz.sizeOf71 w
theorem it_71 : ITy Tryz.prog 71 [.int .u32 0] 4 := ⟨⟨_, (show Tryz.prog.info? 71 = some Tryz.t71 by kernel_rfl), rfl, rfl, _, rfl, rfl⟩⟩
theorem st_73 : STy Tryz.prog 73 9 1 := ⟨Tryz.underlying73, Tryz.sizeOf9⟩
theorem un_73 : Tryz.prog.underlying 73 = some (.slice 9) := Tryz.underlying73
theorem us_73 : (Tryz.prog.underlying 73).isSome = true := by rw [un_73]; rfl
theorem ag_73 (w : World) : (isAgg 73).run Tryz.prog w = .ok false w := Tryz.isAgg73 w
theorem sz_73 (w : World) : (sizeOf 73).run Tryz.prog w = .ok 1 w := Tryz.sizeOf73 w
theorem it_73 : ITy Tryz.prog 73 [.slice none 0 0] 24 := ⟨⟨_, (show Tryz.prog.info? 73 = some Tryz.t73 by kernel_rfl), rfl, rfl, _, rfl, rfl⟩⟩
theorem us_74 : (Tryz.prog.underlying 74).isSome = true := by rw [Tryz.underlying74]; rfl
theorem ag_74 (w : World) : (isAgg 74).run Tryz.prog w = .ok true w := Tryz.isAgg74 w
theorem sz_74 (w : World) : (sizeOf 74).run Tryz.prog w = .ok 3 w := Tryz.sizeOf74 w
theorem it_74 : ITy Tryz.prog 74 [.slice none 0 0, .slice none 0 0, .int .i64 0] 56 := ⟨⟨_, (show Tryz.prog.info? 74 = some Tryz.t74 by kernel_rfl), rfl, rfl, _, rfl, rfl⟩⟩
theorem us_75 : (Tryz.prog.underlying 75).isSome = true := by rw [Tryz.underlying75]; rfl
theorem ag_75 (w : World) : (isAgg 75).run Tryz.prog w = .ok true w := Tryz.isAgg75 w
theorem sz_75 (w : World) : (sizeOf 75).run Tryz.prog w = .ok 3 w := Tryz.sizeOf75 w
theorem it_75 : ITy Tryz.prog 75 [.slice none 0 0, .slice none 0 0, .int .i64 0] 56 := ⟨⟨_, (show Tryz.prog.info? 75 = some Tryz.t75 by kernel_rfl), rfl, rfl, _, rfl, rfl⟩⟩
theorem st_77 : STy Tryz.prog 77 81 2 := ⟨Tryz.underlying77, Tryz.sizeOf81⟩
theorem un_77 : Tryz.prog.underlying 77 = some (.slice 81) := Tryz.underlying77
theorem us_77 : (Tryz.prog.underlying 77).isSome = true := by rw [un_77]; rfl
theorem ag_77 (w : World) : (isAgg 77).run Tryz.prog w = .ok false w := Tryz.isAgg77 w
theorem sz_77 (w : World) : (sizeOf 77).run Tryz.prog w = .ok 1 w := Tryz.sizeOf77 w
theorem it_77 : ITy Tryz.prog 77 [.slice none 0 0] 24 := ⟨⟨_, (show Tryz.prog.info? 77 = some Tryz.t77 by kernel_rfl), rfl, rfl, _, rfl, rfl⟩⟩
theorem us_78 : (Tryz.prog.underlying 78).isSome = true := by rw [Tryz.underlying78]; rfl
theorem ag_78 (w : World) : (isAgg 78).run Tryz.prog w = .ok true w := Tryz.isAgg78 w
theorem sz_78 (w : World) : (sizeOf 78).run Tryz.prog w = .ok 3 w := Tryz.sizeOf78 w
theorem it_78 : ITy Tryz.prog 78 [.slice none 0 0, .slice none 0 0, .int .i64 0] 56 := ⟨⟨_, (show Tryz.prog.info? 78 = some Tryz.t78 by kernel_rfl), rfl, rfl, _, rfl, rfl⟩⟩
theorem us_79 : (Tryz.prog.underlying 79).isSome = true := by rw [Tryz.underlying79]; rfl
theorem ag_79 (w : World) : (isAgg 79).run Tryz.prog w = .ok true w := Tryz.isAgg79 w
theorem sz_79 (w : World) : (sizeOf 79).run Tryz.prog w = .ok 3 w := Tryz.sizeOf79 w
theorem it_79 : ITy Tryz.prog 79 [.slice none 0 0, .slice none 0 0, .int .i64 0] 56 := ⟨⟨_, (show Tryz.prog.info? 79 = some Tryz.t79 by kernel_rfl), rfl, rfl, _, rfl, rfl⟩⟩
theorem us_80 : (Tryz.prog.underlying 80).isSome = true := by rw [Tryz.underlying80]; rfl
theorem ag_80 (w : World) : (isAgg 80).run Tryz.prog w = .ok true w := Tryz.isAgg80 w
theorem sz_80 (w : World) : (sizeOf 80).run Tryz.prog w = .ok 2 w := Tryz.sizeOf80 w
theorem it_80 : ITy Tryz.prog 80 [.slice none 0 0, .slice none 0 0] 48 := ⟨⟨_, (show Tryz.prog.info? 80 = some Tryz.t80 by kernel_rfl), rfl, rfl, _, rfl, rfl⟩⟩
theorem us_81 : (Tryz.prog.underlying 81).isSome = true := by rw [Tryz.underlying81]; rfl
theorem ag_81 (w : World) : (isAgg 81).run Tryz.prog w = .ok true w := Tryz.isAgg81 w
theorem sz_81 (w : World) : (sizeOf 81).run Tryz.prog w = .ok 2 w := Tryz.sizeOf81 w
theorem it_81 : ITy Tryz.prog 81 [.slice none 0 0, .slice none 0 0] 48 := ⟨⟨_, (show Tryz.prog.info? 81 = some Tryz.t81 by kernel_rfl), rfl, rfl, _, rfl, rfl⟩⟩
theorem st_83 : STy Tryz.prog 83 88 5 := ⟨Tryz.underlying83, Tryz.sizeOf88⟩
theorem un_83 : Tryz.prog.underlying 83 = some (.slice 88) := Tryz.underlying83
theorem us_83 : (Tryz.prog.underlying 83).isSome = true := by rw [un_83]; rfl
theorem ag_83 (w : World) : (isAgg 83).run Tryz.prog w = .ok false w := Tryz.isAgg83 w
theorem sz_83 (w : World) : (sizeOf 83).run Tryz.prog w = .ok 1 w := Tryz.sizeOf83 w
theorem it_83 : ITy Tryz.prog 83 [.slice none 0 0] 24 := ⟨⟨_, (show Tryz.prog.info? 83 = some Tryz.t83 by kernel_rfl), rfl, rfl, _, rfl, rfl⟩⟩
theorem us_84 : (Tryz.prog.underlying 84).isSome = true := by rw [Tryz.underlying84]; rfl
theorem ag_84 (w : World) : (isAgg 84).run Tryz.prog w = .ok true w := Tryz.isAgg84 w
theorem sz_84 (w : World) : (sizeOf 84).run Tryz.prog w = .ok 3 w := Tryz.sizeOf84 w
theorem it_84 : ITy Tryz.prog 84 [.slice none 0 0, .slice none 0 0, .int .i64 0] 56 := ⟨⟨_, (show Tryz.prog.info? 84 = some Tryz.t84 by kernel_rfl), rfl, rfl, _, rfl, rfl⟩⟩
theorem us_85 : (Tryz.prog.underlying 85).isSome = true := by rw [Tryz.underlying85]; rfl
theorem ag_85 (w : World) : (isAgg 85).run Tryz.prog w = .ok true w := Tryz.isAgg85 w
theorem sz_85 (w : World) : (sizeOf 85).run Tryz.prog w = .ok 3 w := Tryz.sizeOf85 w
theorem it_85 : ITy Tryz.prog 85 [.slice none 0 0, .slice none 0 0, .int .i64 0] 56 := ⟨⟨_, (show Tryz.prog.info? 85 = some Tryz.t85 by kernel_rfl), rfl, rfl, _, rfl, rfl⟩⟩
theorem un_86 : Tryz.prog.underlying 86 = some (.int .u8) := Tryz.underlying86
theorem us_86 : (Tryz.prog.underlying 86).isSome = true := by rw [un_86]; rfl
theorem ag_86 (w : World) : (isAgg 86).run Tryz.prog w = .ok false w := Tryz.isAgg86 w
theorem sz_86 (w : World) : (sizeOf 86).run Tryz.prog w = .ok 1 w := Tryz.sizeOf86 w
theorem it_86 : ITy Tryz.prog 86 [.int .u8 0] 1 := ⟨⟨_, (show Tryz.prog.info? 86 = some Tryz.t86 by kernel_rfl), rfl, rfl, _, rfl, rfl⟩⟩
theorem us_87 : (Tryz.prog.underlying 87).isSome = true := by rw [Tryz.underlying87]; rfl
theorem ag_87 (w : World) : (isAgg 87).run Tryz.prog w = .ok true w := Tryz.isAgg87 w
theorem sz_87 (w : World) : (sizeOf 87).run Tryz.prog w = .ok 5 w := Tryz.sizeOf87 w
theorem it_87 : ITy Tryz.prog 87 [.int .u8 0, .slice none 0 0, .slice none 0 0, .int .i64 0, .int .i64 0] 72 := ⟨⟨_, (show Tryz.prog.info? 87 = some Tryz.t87 by kernel_rfl), rfl, rfl, _, rfl, rfl⟩⟩
theorem us_88 : (Tryz.prog.underlying 88).isSome = true := by rw [Tryz.underlying88]; rfl
theorem ag_88 (w : World) : (isAgg 88).run Tryz.prog w = .ok true w := Tryz.isAgg88 w
theorem sz_88 (w : World) : (sizeOf 88).run Tryz.prog w = .ok 5 w := Tryz.sizeOf88 w
theorem it_88 : ITy Tryz.prog 88 [.int .u8 0, .slice none 0 0, .slice none 0 0, .int .i64 0, .int .i64 0] 72 := ⟨⟨_, (show Tryz.prog.info? 88 = some Tryz.t88 by kernel_rfl), rfl, rfl, _, rfl, rfl⟩⟩
theorem st_90 : STy Tryz.prog 90 95 2 := ⟨Tryz.underlying90, Tryz.sizeOf95⟩
theorem un_90 : Tryz.prog.underlying 90 = some (.slice 95) := Tryz.underlying90
theorem us_90 : (Tryz.prog.underlying 90).isSome = true := by rw [un_90]; rfl
theorem ag_90 (w : World) : (isAgg 90).run Tryz.prog w = .ok false w := Tryz.isAgg90 w
theorem sz_90 (w : World) : (sizeOf 90).run Tryz.prog w = .ok 1 w := Tryz.sizeOf90 w
theorem it_90 : ITy Tryz.prog 90 [.slice none 0 0] 24 := ⟨⟨_, (show Tryz.prog.info? 90 = some Tryz.t90 by kernel_rfl), rfl, rfl, _, rfl, rfl⟩⟩
theorem us_91 : (Tryz.prog.underlying 91).isSome = true := by rw [Tryz.underlying91]; rfl
theorem ag_91 (w : World) : (isAgg 91).run Tryz.prog w = .ok true w := Tryz.isAgg91 w
theorem sz_91 (w : World) : (sizeOf 91).run Tryz.prog w = .ok 3 w := Tryz.sizeOf91 w
theorem it_91 : ITy Tryz.prog 91 [.slice none 0 0, .slice none 0 0, .int .i64 0] 56 := ⟨⟨_, (show Tryz.prog.info? 91 = some Tryz.t91 by kernel_rfl), rfl, rfl, _, rfl, rfl⟩⟩
theorem us_92 : (Tryz.prog.underlying 92).isSome = true := by rw [Tryz.underlying92]; rfl
theorem ag_92 (w : World) : (isAgg 92).run Tryz.prog w = .ok true w := Tryz.isAgg92 w
theorem sz_92 (w : World) : (sizeOf 92).run Tryz.prog w = .ok 3 w := Tryz.sizeOf92 w
theorem it_92 : ITy Tryz.prog 92 [.slice none 0 0, .slice none 0 0, .int .i64 0] 56 := ⟨⟨_, (show Tryz.prog.info? 92 = some Tryz.t92 by kernel_rfl), rfl, rfl, _, rfl, rfl⟩⟩
theorem un_93 : Tryz.prog.underlying 93 = some (.int .u8) := Tryz.underlying93
theorem us_93 : (Tryz.prog.underlying 93).isSome = true := by rw [un_93]; rfl
theorem ag_93 (w : World) : (isAgg 93).run Tryz.prog w = .ok false w := Tryz.isAgg93 w
theorem sz_93 (w : World) : (sizeOf 93).run Tryz.prog w = .ok 1 w := Tryz.sizeOf93 w
theorem it_93 : ITy Tryz.prog 93 [.int .u8 0] 1 := ⟨⟨_, (show Tryz.prog.info? 93 = some Tryz.t93 by kernel_rfl), rfl, rfl, _, rfl, rfl⟩⟩
theorem us_94 : (Tryz.prog.underlying 94).isSome = true := by rw [Tryz.underlying94]; rfl
theorem ag_94 (w : World) : (isAgg 94).run Tryz.prog w = .ok true w := Tryz.isAgg94 w
theorem sz_94 (w : World) : (sizeOf 94).run Tryz.prog w = .ok 2 w := Tryz.sizeOf94 w
theorem it_94 : ITy Tryz.prog 94 [.int .u8 0, .int .i64 0] 16 := ⟨⟨_, (show Tryz.prog.info? 94 = some Tryz.t94 by kernel_rfl), rfl, rfl, _, rfl, rfl⟩⟩
theorem us_95 : (Tryz.prog.underlying 95).isSome = true := by rw [Tryz.underlying95]; rfl
theorem ag_95 (w : World) : (isAgg 95).run Tryz.prog w = .ok true w := Tryz.isAgg95 w
theorem sz_95 (w : World) : (sizeOf 95).run Tryz.prog w = .ok 2 w := Tryz.sizeOf95 w
theorem it_95 : ITy Tryz.prog 95 [.int .u8 0, .int .i64 0] 16 := ⟨⟨_, (show Tryz.prog.info? 95 = some Tryz.t95 by kernel_rfl), rfl, rfl, _, rfl, rfl⟩⟩
theorem st_97 : STy Tryz.prog 97 101 3 := ⟨Tryz.underlying97, Tryz.sizeOf101⟩
theorem un_97 : Tryz.prog.underlying 97 = some (.slice 101) := Tryz.underlying97
theorem us_97 : (Tryz.prog.underlying 97).isSome = true := by rw [un_97]; rfl
theorem ag_97 (w : World) : (isAgg 97).run Tryz.prog w = .ok false w := Tryz.isAgg97 w
theorem sz_97 (w : World) : (sizeOf 97).run Tryz.prog w = .ok 1 w := Tryz.sizeOf97 w
theorem it_97 : ITy Tryz.prog 97 [.slice none 0 0] 24 := ⟨⟨_, (show Tryz.prog.info? 97 = some Tryz.t97 by kernel_rfl), rfl, rfl, _, rfl, rfl⟩⟩
theorem us_98 : (Tryz.prog.underlying 98).isSome = true := by rw [Tryz.underlying98]; rfl
theorem ag_98 (w : World) : (isAgg 98).run Tryz.prog w = .ok true w := Tryz.isAgg98 w
theorem sz_98 (w : World) : (sizeOf 98).run Tryz.prog w = .ok 3 w := Tryz.sizeOf98 w
theorem it_98 : ITy Tryz.prog 98 [.slice none 0 0, .slice none 0 0, .int .i64 0] 56 := ⟨⟨_, (show Tryz.prog.info? 98 = some Tryz.t98 by kernel_rfl), rfl, rfl, _, rfl, rfl⟩⟩
theorem us_99 : (Tryz.prog.underlying 99).isSome = true := by rw [Tryz.underlying99]; rfl
theorem ag_99 (w : World) : (isAgg 99).run Tryz.prog w = .ok true w := Tryz.isAgg99 w
theorem sz_99 (w : World) : (sizeOf 99).run Tryz.prog w = .ok 3 w := Tryz.sizeOf99 w
theorem it_99 : ITy Tryz.prog 99 [.slice none 0 0, .slice none 0 0, .int .i64 0] 56 := ⟨⟨_, (show Tryz.prog.info? 99 = some Tryz.t99 by kernel_rfl), rfl, rfl, _, rfl, rfl⟩⟩
theorem us_100 : (Tryz.prog.underlying 100).isSome = true := by rw [Tryz.underlying100]; rfl
theorem ag_100 (w : World) : (isAgg 100).run Tryz.prog w = .ok true w := Tryz.isAgg100 w
theorem sz_100 (w : World) : (sizeOf 100).run Tryz.prog w = .ok 3 w := Tryz.sizeOf100 w
theorem it_100 : ITy Tryz.prog 100 [.int .i64 0, .int .i64 0, .int .i64 0] 24 := ⟨⟨_, (show Tryz.prog.info? 100 = some Tryz.t100 by kernel_rfl), rfl, rfl, _, rfl, rfl⟩⟩
theorem us_101 : (Tryz.prog.underlying 101).isSome = true := by rw [Tryz.underlying101]; rfl
theorem ag_101 (w : World) : (isAgg 101).run Tryz.prog w = .ok true w := Tryz.isAgg101 w
theorem sz_101 (w : World) : (sizeOf 101).run Tryz.prog w = .ok 3 w := Tryz.sizeOf101 w
theorem it_101 : ITy Tryz.prog 101 [.int .i64 0, .int .i64 0, .int .i64 0] 24 := ⟨⟨_, (show Tryz.prog.info? 101 = some Tryz.t101 by kernel_rfl), rfl, rfl, _, rfl, rfl⟩⟩
theorem st_103 : STy Tryz.prog 103 107 3 := ⟨Tryz.underlying103, Tryz.sizeOf107⟩
theorem un_103 : Tryz.prog.underlying 103 = some (.slice 107) := Tryz.underlying103
theorem us_103 : (Tryz.prog.underlying 103).isSome = true := by rw [un_103]; rfl
theorem ag_103 (w : World) : (isAgg 103).run Tryz.prog w = .ok false w := Tryz.isAgg103 w
theorem sz_103 (w : World) : (sizeOf 103).run Tryz.prog w = .ok 1 w := Tryz.sizeOf103 w
theorem it_103 : ITy Tryz.prog 103 [.slice none 0 0] 24 := ⟨⟨_, (show Tryz.prog.info? 103 = some Tryz.t103 by kernel_rfl), rfl, rfl, _, rfl, rfl⟩⟩
theorem us_104 : (Tryz.prog.underlying 104).isSome = true := by rw [Tryz.underlying104]; rfl
theorem ag_104 (w : World) : (isAgg 104).run Tryz.prog w = .ok true w := Tryz.isAgg104 w
theorem sz_104 (w : World) : (sizeOf 104).run Tryz.prog w = .ok 3 w := Tryz.sizeOf104 w
theorem it_104 : ITy Tryz.prog 104 [.slice none 0 0, .slice none 0 0, .int .i64 0] 56 := ⟨⟨_, (show Tryz.prog.info? 104 = some Tryz.t104 by kernel_rfl), rfl, rfl, _, rfl, rfl⟩⟩
theorem us_105 : (Tryz.prog.underlying 105).isSome = true := by rw [Tryz.underlying105]; rfl
theorem ag_105 (w : World) : (isAgg 105).run Tryz.prog w = .ok true w := Tryz.isAgg105 w
theorem sz_105 (w : World) : (sizeOf 105).run Tryz.prog w = .ok 3 w := Tryz.sizeOf105 w
theorem it_105 : ITy Tryz.prog 105 [.slice none 0 0, .slice none 0 0, .int .i64 0] 56 := ⟨⟨_, (show Tryz.prog.info? 105 = some Tryz.t105 by kernel_rfl), rfl, rfl, _, rfl, rfl⟩⟩
theorem us_106 : (Tryz.prog.underlying 106).isSome = true := by rw [Tryz.underlying106]; rfl
theorem ag_106 (w : World) : (isAgg 106).run Tryz.prog w = .ok true w := Tryz.isAgg106 w
theorem sz_106 (w : World) : (sizeOf 106).run Tryz.prog w = .ok 3 w := Tryz.sizeOf106 w
theorem it_106 : ITy Tryz.prog 106 [.int .u32 0, .slice none 0 0, .slice none 0 0] 56 := ⟨⟨_, (show Tryz.prog.info? 106 = some Tryz.t106 by kernel_rfl), rfl, rfl, _, rfl, rfl⟩⟩
theorem us_107 : (Tryz.prog.underlying 107).isSome = true := by rw [Tryz.underlying107]; rfl
theorem ag_107 (w : World) : (isAgg 107).run Tryz.prog w = .ok true w := Tryz.isAgg107 w
theorem sz_107 (w : World) : (sizeOf 107).run Tryz.prog w = .ok 3 w := Tryz.sizeOf107 w
theorem it_107 : ITy Tryz.prog 107 [.int .u32 0, .slice none 0 0, .slice none 0 0] 56 := ⟨⟨_, (show Tryz.prog.info? 107 = some Tryz.t107 by kernel_rfl), rfl, rfl, _, rfl, rfl⟩⟩
theorem st_109 : STy Tryz.prog 109 113 3 := ⟨Tryz.underlying109, Tryz.sizeOf113⟩
theorem un_109 : Tryz.prog.underlying 109 = some (.slice 113) := Tryz.underlying109
theorem us_109 : (Tryz.prog.underlying 109).isSome = true := by rw [un_109]; rfl
theorem ag_109 (w : World) : (isAgg 109).run Tryz.prog w = .ok false w := Tryz.isAgg109 w
theorem sz_109 (w : World) : (sizeOf 109).run Tryz.prog w = .ok 1 w := Tryz.sizeOf109 w
theorem it_109 : ITy Tryz.prog 109 [.slice none 0 0] 24 := ⟨⟨_, (show Tryz.prog.info? 109 = some Tryz.t109 by kernel_rfl), rfl, rfl, _, rfl, rfl⟩⟩
theorem us_110 : (Tryz.prog.underlying 110).isSome = true := by rw [Tryz.underlying110]; rfl
theorem ag_110 (w : World) : (isAgg 110).run Tryz.prog w = .ok true w := Tryz.isAgg110 w
theorem sz_110 (w : World) : (sizeOf 110).run Tryz.prog w = .ok 3 w := Tryz.sizeOf110 w
theorem it_110 : ITy Tryz.prog 110 [.slice none 0 0, .slice none 0 0, .int .i64 0] 56 := ⟨⟨_, (show Tryz.prog.info? 110 = some Tryz.t110 by kernel_rfl), rfl, rfl, _, rfl, rfl⟩⟩
theorem us_111 : (Tryz.prog.underlying 111).isSome = true := by rw [Tryz.underlying111]; rfl
theorem ag_111 (w : World) : (isAgg 111).run Tryz.prog w = .ok true w := Tryz.isAgg111 w
theorem sz_111 (w : World) : (sizeOf 111).run Tryz.prog w = .ok 3 w := Tryz.sizeOf111 w
theorem it_111 : ITy Tryz.prog 111 [.slice none 0 0, .slice none 0 0, .int .i64 0] 56 := ⟨⟨_, (show Tryz.prog.info? 111 = some Tryz.t111 by kernel_rfl), rfl, rfl, _, rfl, rfl⟩⟩
theorem us_112 : (Tryz.prog.underlying 112).isSome = true := by rw [Tryz.underlying112]; rfl
theorem ag_112 (w : World) : (isAgg 112).run Tryz.prog w = .ok true w := Tryz.isAgg112 w
theorem sz_112 (w : World) : (sizeOf 112).run Tryz.prog w = .ok 3 w := Tryz.sizeOf112 w
theorem it_112 : ITy Tryz.prog 112 [.int .u32 0, .int .u32 0, .slice none 0 0] 32 := ⟨⟨_, (show Tryz.prog.info? 112 = some Tryz.t112 by kernel_rfl), rfl, rfl, _, rfl, rfl⟩⟩
theorem us_113 : (Tryz.prog.underlying 113).isSome = true := by rw [Tryz.underlying113]; rfl
theorem ag_113 (w : World) : (isAgg 113).run Tryz.prog w = .ok true w := Tryz.isAgg113 w
theorem sz_113 (w : World) : (sizeOf 113).run Tryz.prog w = .ok 3 w := Tryz.sizeOf113 w
theorem it_113 : ITy Tryz.prog 113 [.int .u32 0, .int .u32 0, .slice none 0 0] 32 := ⟨⟨_, (show Tryz.prog.info? 113 = some Tryz.t113 by kernel_rfl), rfl, rfl, _, rfl, rfl⟩⟩
theorem st_115 : STy Tryz.prog 115 119 4 := ⟨Tryz.underlying115, Tryz.sizeOf119⟩
theorem un_115 : Tryz.prog.underlying 115 = some (.slice 119) := Tryz.underlying115
theorem us_115 : (Tryz.prog.underlying 115).isSome = true := by rw [un_115]; rfl
theorem ag_115 (w : World) : (isAgg 115).run Tryz.prog w = .ok false w := Tryz.isAgg115 w
theorem sz_115 (w : World) : (sizeOf 115).run Tryz.prog w = .ok 1 w := Tryz.sizeOf115 w
theorem it_115 : ITy Tryz.prog 115 [.slice none 0 0] 24 := ⟨⟨_, (show Tryz.prog.info? 115 = some Tryz.t115 by kernel_rfl), rfl, rfl, _, rfl, rfl⟩⟩
theorem us_116 : (Tryz.prog.underlying 116).isSome = true := by rw [Tryz.underlying116]; rfl
theorem ag_116 (w : World) : (isAgg 116).run Tryz.prog w = .ok true w := Tryz.isAgg116 w
theorem sz_116 (w : World) : (sizeOf 116).run Tryz.prog w = .ok 3 w := Tryz.sizeOf116 w
theorem it_116 : ITy Tryz.prog 116 [.slice none 0 0, .slice none 0 0, .int .i64 0] 56 := ⟨⟨_, (show Tryz.prog.info? 116 = some Tryz.t116 by kernel_rfl), rfl, rfl, _, rfl, rfl⟩⟩
theorem us_117 : (Tryz.prog.underlying 117).isSome = true := by rw [Tryz.underlying117]; rfl
theorem ag_117 (w : World) : (isAgg 117).run Tryz.prog w = .ok true w := Tryz.isAgg117 w
theorem sz_117 (w : World) : (sizeOf 117).run Tryz.prog w = .ok 3 w := Tryz.sizeOf117 w
theorem it_117 : ITy Tryz.prog 117 [.slice none 0 0, .slice none 0 0, .int .i64 0] 56 := ⟨⟨_, (show Tryz.prog.info? 117 = some Tryz.t117 by kernel_rfl), rfl, rfl, _, rfl, rfl⟩⟩
theorem us_118 : (Tryz.prog.underlying 118).isSome = true := by rw [Tryz.underlying118]; rfl
theorem ag_118 (w : World) : (isAgg 118).run Tryz.prog w = .ok true w := Tryz.isAgg118 w
theorem sz_118 (w : World) : (sizeOf 118).run Tryz.prog w = .ok 4 w := Tryz.sizeOf118 w
theorem it_118 : ITy Tryz.prog 118 [.int .u32 0, .bool false, .int .u32 0, .slice none 0 0] 40 := ⟨⟨_, (show Tryz.prog.info? 118 = some Tryz.t118 by kernel_rfl), rfl, rfl, _, rfl, rfl⟩⟩
theorem us_119 : (Tryz.prog.underlying 119).isSome = true := by rw [Tryz.underlying119]; rfl
theorem ag_119 (w : World) : (isAgg 119).run Tryz.prog w = .ok true w := Tryz.isAgg119 w
theorem sz_119 (w : World) : (sizeOf 119).run Tryz.prog w = .ok 4 w := Tryz.sizeOf119 w
theorem it_119 : ITy Tryz.prog 119 [.int .u32 0, .bool false, .int .u32 0, .slice none 0 0] 40 := ⟨⟨_, (show Tryz.prog.info? 119 = some Tryz.t119 by kernel_rfl), rfl, rfl, _, rfl, rfl⟩⟩
theorem st_121 : STy Tryz.prog 121 125 3 := ⟨Tryz.underlying121, Tryz.sizeOf125⟩
theorem un_121 : Tryz.prog.underlying 121 = some (.slice 125) := Tryz.underlying121
theorem us_121 : (Tryz.prog.underlying 121).isSome = true := by rw [un_121]; rfl
theorem ag_121 (w : World) : (isAgg 121).run Tryz.prog w = .ok false w := Tryz.isAgg121 w
theorem sz_121 (w : World) : (sizeOf 121).run Tryz.prog w = .ok 1 w := Tryz.sizeOf121 w
theorem it_121 : ITy Tryz.prog 121 [.slice none 0 0] 24 := ⟨⟨_, (show Tryz.prog.info? 121 = some Tryz.t121 by kernel_rfl), rfl, rfl, _, rfl, rfl⟩⟩
theorem us_122 : (Tryz.prog.underlying 122).isSome = true := by rw [Tryz.underlying122]; rfl
theorem ag_122 (w : World) : (isAgg 122).run Tryz.prog w = .ok true w := Tryz.isAgg122 w
theorem sz_122 (w : World) : (sizeOf 122).run Tryz.prog w = .ok 3 w := Tryz.sizeOf122 w
theorem it_122 : ITy Tryz.prog 122 [.slice none 0 0, .slice none 0 0, .int .i64 0] 56 := ⟨⟨_, (show Tryz.prog.info? 122 = some Tryz.t122 by kernel_rfl), rfl, rfl, _, rfl, rfl⟩⟩
theorem us_123 : (Tryz.prog.underlying 123).isSome = true := by rw [Tryz.underlying123]; rfl
theorem ag_123 (w : World) : (isAgg 123).run Tryz.prog w = .ok true w := Tryz.isAgg123 w
theorem sz_123 (w : World) : (sizeOf 123).run Tryz.prog w = .ok 3 w := Tryz.sizeOf123 w
theorem it_123 : ITy Tryz.prog 123 [.slice none 0 0, .slice none 0 0, .int .i64 0] 56 := ⟨⟨_, (show Tryz.prog.info? 123 = some Tryz.t123 by kernel_rfl), rfl, rfl, _, rfl, rfl⟩⟩
theorem us_124 : (Tryz.prog.underlying 124).isSome = true := by rw [Tryz.underlying124]; rfl
theorem ag_124 (w : World) : (isAgg 124).run Tryz.prog w = .ok true w := Tryz.isAgg124 w
theorem sz_124 (w : World) : (sizeOf 124).run Tryz.prog w = .ok 3 w := Tryz.sizeOf124 w
theorem it_124 : ITy Tryz.prog 124 [.int .u32 0, .int .i64 0, .slice none 0 0] 40 := ⟨⟨_, (show Tryz.prog.info? 124 = some Tryz.t124 by kernel_rfl), rfl, rfl, _, rfl, rfl⟩⟩
theorem us_125 : (Tryz.prog.underlying 125).isSome = true := by rw [Tryz.underlying125]; rfl
theorem ag_125 (w : World) : (isAgg 125).run Tryz.prog w = .ok true w := Tryz.isAgg125 w
theorem sz_125 (w : World) : (sizeOf 125).run Tryz.prog w = .ok 3 w := Tryz.sizeOf125 w
theorem it_125 : ITy Tryz.prog 125 [.int .u32 0, .int .i64 0, .slice none 0 0] 40 := ⟨⟨_, (show Tryz.prog.info? 125 = some Tryz.t125 by kernel_rfl), rfl, rfl, _, rfl, rfl⟩⟩
theorem st_127 : STy Tryz.prog 127 22 1 := ⟨Tryz.underlying127, Tryz.sizeOf22⟩
theorem un_127 : Tryz.prog.underlying 127 = some (.slice 22) := Tryz.underlying127
theorem us_127 : (Tryz.prog.underlying 127).isSome = true := by rw [un_127]; rfl
theorem ag_127 (w : World) : (isAgg 127).run Tryz.prog w = .ok false w := Tryz.isAgg127 w
theorem sz_127 (w : World) : (sizeOf 127).run Tryz.prog w = .ok 1 w := Tryz.sizeOf127 w
theorem it_127 : ITy Tryz.prog 127 [.slice none 0 0] 24 := ⟨⟨_, (show Tryz.prog.info? 127 = some Tryz.t127 by kernel_rfl), rfl, rfl, _, rfl, rfl⟩⟩
theorem us_128 : (Tryz.prog.underlying 128).isSome = true := by rw [Tryz.underlying128]; rfl
theorem ag_128 (w : World) : (isAgg 128).run Tryz.prog w = .ok true w := Tryz.isAgg128 w
theorem sz_128 (w : World) : (sizeOf 128).run Tryz.prog w = .ok 3 w := Tryz.sizeOf128 w
theorem it_128 : ITy Tryz.prog 128 [.slice none 0 0, .slice none 0 0, .int .i64 0] 56 := ⟨⟨_, (show Tryz.prog.info? 128 = some Tryz.t128 by kernel_rfl), rfl, rfl, _, rfl, rfl⟩⟩
theorem us_129 : (Tryz.prog.underlying 129).isSome = true := by rw [Tryz.underlying129]; rfl
theorem ag_129 (w : World) : (isAgg 129).run Tryz.prog w = .ok true w := Tryz.isAgg129 w
theorem sz_129 (w : World) : (sizeOf 129).run Tryz.prog w = .ok 3 w := Tryz.sizeOf129 w
theorem it_129 : ITy Tryz.prog 129 [.slice none 0 0, .slice none 0 0, .int .i64 0] 56 := ⟨⟨_, (show Tryz.prog.info? 129 = some Tryz.t129 by kernel_rfl), rfl, rfl, _, rfl, rfl⟩⟩
theorem st_131 : STy Tryz.prog 131 59 1 := ⟨Tryz.underlying131, Tryz.sizeOf59⟩
theorem un_131 : Tryz.prog.underlying 131 = some (.slice 59) := Tryz.underlying131
theorem us_131 : (Tryz.prog.underlying 131).isSome = true := by rw [un_131]; rfl
theorem ag_131 (w : World) : (isAgg 131).run Tryz.prog w = .ok false w := Tryz.isAgg131 w
theorem sz_131 (w : World) : (sizeOf 131).run Tryz.prog w = .ok 1 w := Tryz.sizeOf131 w
theorem it_131 : ITy Tryz.prog 131 [.slice none 0 0] 24 := ⟨⟨_, (show Tryz.prog.info? 131 = some Tryz.t131 by kernel_rfl), rfl, rfl, _, rfl, rfl⟩⟩
theorem us_132 : (Tryz.prog.underlying 132).isSome = true := by rw [Tryz.underlying132]; rfl
theorem ag_132 (w : World) : (isAgg 132).run Tryz.prog w = .ok true w := Tryz.isAgg132 w
theorem sz_132 (w : World) : (sizeOf 132).run Tryz.prog w = .ok 3 w := Tryz.sizeOf132 w
theorem it_132 : ITy Tryz.prog 132 [.slice none 0 0, .slice none 0 0, .int .i64 0] 56 := ⟨⟨_, (show Tryz.prog.info? 132 = some Tryz.t132 by kernel_rfl), rfl, rfl, _, rfl, rfl⟩⟩
theorem us_133 : (Tryz.prog.underlying 133).isSome = true := by rw [Tryz.underlying133]; rfl
theorem ag_133 (w : World) : (isAgg 133).run Tryz.prog w = .ok true w := Tryz.isAgg133 w
theorem sz_133 (w : World) : (sizeOf 133).run Tryz.prog w = .ok 3 w := Tryz.sizeOf133 w
theorem it_133 : ITy Tryz.prog 133 [.slice none 0 0, .slice none 0 0, .int .i64 0] 56 := ⟨⟨_, (show Tryz.prog.info? 133 = some Tryz.t133 by kernel_rfl), rfl, rfl, _, rfl, rfl⟩⟩
theorem un_150 : Tryz.prog.underlying 150 = some (.array 24 5) := Tryz.underlying150
theorem us_150 : (Tryz.prog.underlying 150).isSome = true := by rw [un_150]; rfl
theorem ag_150 (w : World) : (isAgg 150).run Tryz.prog w = .ok true w := Tryz.isAgg150 w
theorem sz_150 (w : World) : (sizeOf 150).run Tryz.prog w = .ok 24 w := Tryz.sizeOf150 w
theorem un_151 : Tryz.prog.underlying 151 = some (.int .u64) := Tryz.underlying151
theorem us_151 : (Tryz.prog.underlying 151).isSome = true := by rw [un_151]; rfl
theorem ag_151 (w : World) : (isAgg 151).run Tryz.prog w = .ok false w := Tryz.isAgg151 w
theorem sz_151 (w : World) : (sizeOf 151).run Tryz.prog w = .ok 1 w := Tryz.sizeOf151 w
theorem it_151 : ITy Tryz.prog 151 [.int .u64 0] 8 := ⟨⟨_, (show Tryz.prog.info? 151 = some Tryz.t151 by kernel_rfl), rfl, rfl, _, rfl, rfl⟩⟩
theorem un_157 : Tryz.prog.underlying 157 = some (.array 20 151) := Tryz.underlying157
theorem us_157 : (Tryz.prog.underlying 157).isSome = true := by rw [un_157]; rfl
theorem ag_157 (w : World) : (isAgg 157).run Tryz.prog w = .ok true w := Tryz.isAgg157 w
theorem sz_157 (w : World) : (sizeOf 157).run Tryz.prog w = .ok 20 w := Tryz.sizeOf157 w
theorem un_158 : Tryz.prog.underlying 158 = some (.array 65 5) := Tryz.underlying158
theorem us_158 : (Tryz.prog.underlying 158).isSome = true := by rw [un_158]; rfl
theorem ag_158 (w : World) : (isAgg 158).run Tryz.prog w = .ok true w := Tryz.isAgg158 w
theorem sz_158 (w : World) : (sizeOf 158).run Tryz.prog w = .ok 65 w := Tryz.sizeOf158 w
theorem un_160 : Tryz.prog.underlying 160 = some (.int .u64) := Tryz.underlying160
theorem us_160 : (Tryz.prog.underlying 160).isSome = true := by rw [un_160]; rfl
theorem ag_160 (w : World) : (isAgg 160).run Tryz.prog w = .ok false w := Tryz.isAgg160 w
theorem sz_160 (w : World) : (sizeOf 160).run Tryz.prog w = .ok 1 w := Tryz.sizeOf160 w
theorem it_160 : ITy Tryz.prog 160 [.int .u64 0] 8 := ⟨⟨_, (show Tryz.prog.info? 160 = some Tryz.t160 by kernel_rfl), rfl, rfl, _, rfl, rfl⟩⟩
theorem un_163 : Tryz.prog.underlying 163 = some (.array 32 5) := Tryz.underlying163
theorem us_163 : (Tryz.prog.underlying 163).isSome = true := by rw [un_163]; rfl
theorem ag_163 (w : World) : (isAgg 163).run Tryz.prog w = .ok true w := Tryz.isAgg163 w
theorem sz_163 (w : World) : (sizeOf 163).run Tryz.prog w = .ok 32 w := Tryz.sizeOf163 w
theorem un_164 : Tryz.prog.underlying 164 = some (.array 64 5) := Tryz.underlying164
theorem us_164 : (Tryz.prog.underlying 164).isSome = true := by rw [un_164]; rfl
theorem ag_164 (w : World) : (isAgg 164).run Tryz.prog w = .ok true w := Tryz.isAgg164 w
theorem sz_164 (w : World) : (sizeOf 164).run Tryz.prog w = .ok 64 w := Tryz.sizeOf164 w
theorem us_166 : (Tryz.prog.underlying 166).isSome = true := by rw [Tryz.underlying166]; rfl
theorem ag_166 (w : World) : (isAgg 166).run Tryz.prog w = .ok true w := Tryz.isAgg166 w
theorem sz_166 (w : World) : (sizeOf 166).run Tryz.prog w = .ok 4 w := Tryz.sizeOf166 w
theorem it_166 : ITy Tryz.prog 166 [.pointer none, .pointer none, .pointer none, .string ⟨#[]⟩] 40 := ⟨⟨_, (show Tryz.prog.info? 166 = some Tryz.t166 by kernel_rfl), rfl, rfl, _, rfl, rfl⟩⟩
theorem us_167 : (Tryz.prog.underlying 167).isSome = true := by rw [Tryz.underlying167]; rfl
theorem ag_167 (w : World) : (isAgg 167).run Tryz.prog w = .ok true w := Tryz.isAgg167 w
theorem sz_167 (w : World) : (sizeOf 167).run Tryz.prog w = .ok 4 w := Tryz.sizeOf167 w
theorem it_167 : ITy Tryz.prog 167 [.pointer none, .pointer none, .pointer none, .string ⟨#[]⟩] 40 := ⟨⟨_, (show Tryz.prog.info? 167 = some Tryz.t167 by kernel_rfl), rfl, rfl, _, rfl, rfl⟩⟩
theorem un_168 : Tryz.prog.underlying 168 = some (.array 0 16) := Tryz.underlying168
theorem us_168 : (Tryz.prog.underlying 168).isSome = true := by rw [un_168]; rfl
theorem ag_168 (w : World) : (isAgg 168).run Tryz.prog w = .ok true w := Tryz.isAgg168 w
theorem sz_168 (w : World) : (sizeOf 168).run Tryz.prog w = .ok 0 w := Tryz.sizeOf168 w
theorem it_168 : ITy Tryz.prog 168 [] 0 := ⟨⟨_, (show Tryz.prog.info? 168 = some Tryz.t168 by kernel_rfl), rfl, rfl, _, rfl, rfl⟩⟩
theorem us_169 : (Tryz.prog.underlying 169).isSome = true := by rw [Tryz.underlying169]; rfl
theorem ag_169 (w : World) : (isAgg 169).run Tryz.prog w = .ok true w := Tryz.isAgg169 w
theorem sz_169 (w : World) : (sizeOf 169).run Tryz.prog w = .ok 0 w := Tryz.sizeOf169 w
theorem it_169 : ITy Tryz.prog 169 [] 0 := ⟨⟨_, (show Tryz.prog.info? 169 = some Tryz.t169 by kernel_rfl), rfl, rfl, _, rfl, rfl⟩⟩
theorem us_170 : (Tryz.prog.underlying 170).isSome = true := by rw [Tryz.underlying170]; rfl
theorem ag_170 (w : World) : (isAgg 170).run Tryz.prog w = .ok true w := Tryz.isAgg170 w
theorem sz_170 (w : World) : (sizeOf 170).run Tryz.prog w = .ok 0 w := Tryz.sizeOf170 w
theorem it_170 : ITy Tryz.prog 170 [] 0 := ⟨⟨_, (show Tryz.prog.info? 170 = some Tryz.t170 by kernel_rfl), rfl, rfl, _, rfl, rfl⟩⟩
theorem un_172 : Tryz.prog.underlying 172 = some (.int .u8) := Tryz.underlying172
theorem us_172 : (Tryz.prog.underlying 172).isSome = true := by rw [un_172]; rfl
theorem ag_172 (w : World) : (isAgg 172).run Tryz.prog w = .ok false w := Tryz.isAgg172 w
theorem sz_172 (w : World) : (sizeOf 172).run Tryz.prog w = .ok 1 w := Tryz.sizeOf172 w
theorem it_172 : ITy Tryz.prog 172 [.int .u8 0] 1 := ⟨⟨_, (show Tryz.prog.info? 172 = some Tryz.t172 by kernel_rfl), rfl, rfl, _, rfl, rfl⟩⟩
theorem un_173 : Tryz.prog.underlying 173 = some (.int .u8) := Tryz.underlying173
theorem us_173 : (Tryz.prog.underlying 173).isSome = true := by rw [un_173]; rfl
theorem ag_173 (w : World) : (isAgg 173).run Tryz.prog w = .ok false w := Tryz.isAgg173 w
theorem sz_173 (w : World) : (sizeOf 173).run Tryz.prog w = .ok 1 w := Tryz.sizeOf173 w
theorem it_173 : ITy Tryz.prog 173 [.int .u8 0] 1 := ⟨⟨_, (show Tryz.prog.info? 173 = some Tryz.t173 by kernel_rfl), rfl, rfl, _, rfl, rfl⟩⟩
theorem us_174 : (Tryz.prog.underlying 174).isSome = true := by rw [Tryz.underlying174]; rfl
theorem ag_174 (w : World) : (isAgg 174).run Tryz.prog w = .ok false w := Tryz.isAgg174 w
theorem sz_174 (w : World) : (sizeOf 174).run Tryz.prog w = .ok 1 w := Tryz.sizeOf174 w
theorem it_174 : ITy Tryz.prog 174 [.nilFunc] 8 := ⟨⟨_, (show Tryz.prog.info? 174 = some Tryz.t174 by kernel_rfl), rfl, rfl, _, rfl, rfl⟩⟩
theorem un_175 : Tryz.prog.underlying 175 = some (.pointer 5) := Tryz.underlying175
theorem us_175 : (Tryz.prog.underlying 175).isSome = true := by rw [un_175]; rfl
theorem ag_175 (w : World) : (isAgg 175).run Tryz.prog w = .ok false w := Tryz.isAgg175 w
theorem sz_175 (w : World) : (sizeOf 175).run Tryz.prog w = .ok 1 w := Tryz.sizeOf175 w
theorem it_175 : ITy Tryz.prog 175 [.pointer none] 8 := ⟨⟨_, (show Tryz.prog.info? 175 = some Tryz.t175 by kernel_rfl), rfl, rfl, _, rfl, rfl⟩⟩
theorem un_176 : Tryz.prog.underlying 176 = some (.int .i32) := Tryz.underlying176
theorem us_176 : (Tryz.prog.underlying 176).isSome = true := by rw [un_176]; rfl
theorem ag_176 (w : World) : (isAgg 176).run Tryz.prog w = .ok false w := Tryz.isAgg176 w
theorem sz_176 (w : World) : (sizeOf 176).run Tryz.prog w = .ok 1 w := Tryz.sizeOf176 w
theorem it_176 : ITy Tryz.prog 176 [.int .i32 0] 4 := ⟨⟨_, (show Tryz.prog.info? 176 = some Tryz.t176 by kernel_rfl), rfl, rfl, _, rfl, rfl⟩⟩
theorem un_177 : Tryz.prog.underlying 177 = some (.int .i32) := Tryz.underlying177
theorem us_177 : (Tryz.prog.underlying 177).isSome = true := by rw [un_177]; rfl
theorem ag_177 (w : World) : (isAgg 177).run Tryz.prog w = .ok false w := Tryz.isAgg177 w
theorem sz_177 (w : World) : (sizeOf 177).run Tryz.prog w = .ok 1 w := Tryz.sizeOf177 w
theorem it_177 : ITy Tryz.prog 177 [.int .i32 0] 4 := ⟨⟨_, (show Tryz.prog.info? 177 = some Tryz.t177 by kernel_rfl), rfl, rfl, _, rfl, rfl⟩⟩
theorem us_178 : (Tryz.prog.underlying 178).isSome = true := by rw [Tryz.underlying178]; rfl
theorem ag_178 (w : World) : (isAgg 178).run Tryz.prog w = .ok true w := Tryz.isAgg178 w
theorem sz_178 (w : World) : (sizeOf 178).run Tryz.prog w = .ok 11 w := Tryz.sizeOf178 w
theorem it_178 : ITy Tryz.prog 178 [.int .u64 0, .int .u64 0, .int .u32 0, .int .u8 0, .int .u8 0, .int .u8 0, .int .u8 0, .nilFunc, .pointer none, .int .i32 0, .int .i32 0] 48 := ⟨⟨_, (show Tryz.prog.info? 178 = some Tryz.t178 by kernel_rfl), rfl, rfl, _, rfl, rfl⟩⟩
theorem us_179 : (Tryz.prog.underlying 179).isSome = true := by rw [Tryz.underlying179]; rfl
theorem ag_179 (w : World) : (isAgg 179).run Tryz.prog w = .ok true w := Tryz.isAgg179 w
theorem sz_179 (w : World) : (sizeOf 179).run Tryz.prog w = .ok 11 w := Tryz.sizeOf179 w
theorem it_179 : ITy Tryz.prog 179 [.int .u64 0, .int .u64 0, .int .u32 0, .int .u8 0, .int .u8 0, .int .u8 0, .int .u8 0, .nilFunc, .pointer none, .int .i32 0, .int .i32 0] 48 := ⟨⟨_, (show Tryz.prog.info? 179 = some Tryz.t179 by kernel_rfl), rfl, rfl, _, rfl, rfl⟩⟩
end Go.Proofs.YtaliinkmeokonaaGreatDoor
