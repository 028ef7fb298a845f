/- Closed facts on the types of this seat: printed by a program of ours. -/
import Derived.Test.YtkhndfaampkbnaaGreatDoorReg
import Derived.Test.YtkhndfaampkbnaaGreatDoorProg
namespace Go.Proofs.YtkhndfaampkbnaaGreatDoor
open Go Go.Dd
set_option maxRecDepth 100000

theorem mixed : Tryz.prog.follows .mixedOrders = true := by kernel_rfl
theorem us_1 : (Tryz.prog.underlying 1).isSome = true := by rw [Tryz.underlying1]; rfl
theorem ag_1 (w : World) : (isAgg 1).run Tryz.prog w = .ok false w := Tryz.isAgg1 w
theorem sz_1 (w : World) : (sizeOf 1).run Tryz.prog w = .ok 1 w := Tryz.sizeOf1 w
theorem it_1 : ITy Tryz.prog 1 [.nilFunc] 8 := ⟨⟨_, (show Tryz.prog.info? 1 = some Tryz.t1 by kernel_rfl), rfl, rfl, _, rfl, rfl⟩⟩
theorem un_2 : Tryz.prog.underlying 2 = some (.int .i64) := Tryz.underlying2
theorem us_2 : (Tryz.prog.underlying 2).isSome = true := by rw [un_2]; rfl
theorem ag_2 (w : World) : (isAgg 2).run Tryz.prog w = .ok false w := Tryz.isAgg2 w
theorem sz_2 (w : World) : (sizeOf 2).run Tryz.prog w = .ok 1 w := Tryz.sizeOf2 w
theorem it_2 : ITy Tryz.prog 2 [.int .i64 0] 8 := ⟨⟨_, (show Tryz.prog.info? 2 = some Tryz.t2 by kernel_rfl), rfl, rfl, _, rfl, rfl⟩⟩
theorem un_3 : Tryz.prog.underlying 3 = some (.int .i64) := Tryz.underlying3
theorem us_3 : (Tryz.prog.underlying 3).isSome = true := by rw [un_3]; rfl
theorem ag_3 (w : World) : (isAgg 3).run Tryz.prog w = .ok false w := Tryz.isAgg3 w
theorem sz_3 (w : World) : (sizeOf 3).run Tryz.prog w = .ok 1 w := Tryz.sizeOf3 w
theorem it_3 : ITy Tryz.prog 3 [.int .i64 0] 8 := ⟨⟨_, (show Tryz.prog.info? 3 = some Tryz.t3 by kernel_rfl), rfl, rfl, _, rfl, rfl⟩⟩
theorem un_4 : Tryz.prog.underlying 4 = some (.bool) := Tryz.underlying4
theorem us_4 : (Tryz.prog.underlying 4).isSome = true := by rw [un_4]; rfl
theorem ag_4 (w : World) : (isAgg 4).run Tryz.prog w = .ok false w := Tryz.isAgg4 w
theorem sz_4 (w : World) : (sizeOf 4).run Tryz.prog w = .ok 1 w := Tryz.sizeOf4 w
theorem it_4 : ITy Tryz.prog 4 [.bool false] 1 := ⟨⟨_, (show Tryz.prog.info? 4 = some Tryz.t4 by kernel_rfl), rfl, rfl, _, rfl, rfl⟩⟩
theorem un_5 : Tryz.prog.underlying 5 = some (.int .u8) := Tryz.underlying5
theorem us_5 : (Tryz.prog.underlying 5).isSome = true := by rw [un_5]; rfl
theorem ag_5 (w : World) : (isAgg 5).run Tryz.prog w = .ok false w := Tryz.isAgg5 w
theorem sz_5 (w : World) : (sizeOf 5).run Tryz.prog w = .ok 1 w := Tryz.sizeOf5 w
theorem it_5 : ITy Tryz.prog 5 [.int .u8 0] 1 := ⟨⟨_, (show Tryz.prog.info? 5 = some Tryz.t5 by kernel_rfl), rfl, rfl, _, rfl, rfl⟩⟩
theorem un_6 : Tryz.prog.underlying 6 = some (.int .u8) := Tryz.underlying6
theorem us_6 : (Tryz.prog.underlying 6).isSome = true := by rw [un_6]; rfl
theorem ag_6 (w : World) : (isAgg 6).run Tryz.prog w = .ok false w := Tryz.isAgg6 w
theorem sz_6 (w : World) : (sizeOf 6).run Tryz.prog w = .ok 1 w := Tryz.sizeOf6 w
theorem it_6 : ITy Tryz.prog 6 [.int .u8 0] 1 := ⟨⟨_, (show Tryz.prog.info? 6 = some Tryz.t6 by kernel_rfl), rfl, rfl, _, rfl, rfl⟩⟩
theorem us_7 : (Tryz.prog.underlying 7).isSome = true := by rw [Tryz.underlying7]; rfl
theorem ag_7 (w : World) : (isAgg 7).run Tryz.prog w = .ok true w := Tryz.isAgg7 w
theorem sz_7 (w : World) : (sizeOf 7).run Tryz.prog w = .ok 4 w := Tryz.sizeOf7 w
theorem it_7 : ITy Tryz.prog 7 [.int .i64 0, .int .i64 0, .bool false, .int .u8 0] 24 := ⟨⟨_, (show Tryz.prog.info? 7 = some Tryz.t7 by kernel_rfl), rfl, rfl, _, rfl, rfl⟩⟩
theorem us_8 : (Tryz.prog.underlying 8).isSome = true := by rw [Tryz.underlying8]; rfl
theorem ag_8 (w : World) : (isAgg 8).run Tryz.prog w = .ok true w := Tryz.isAgg8 w
theorem sz_8 (w : World) : (sizeOf 8).run Tryz.prog w = .ok 4 w := Tryz.sizeOf8 w
theorem it_8 : ITy Tryz.prog 8 [.int .i64 0, .int .i64 0, .bool false, .int .u8 0] 24 := ⟨⟨_, (show Tryz.prog.info? 8 = some Tryz.t8 by kernel_rfl), rfl, rfl, _, rfl, rfl⟩⟩
theorem un_9 : Tryz.prog.underlying 9 = some (.string) := Tryz.underlying9
theorem us_9 : (Tryz.prog.underlying 9).isSome = true := by rw [un_9]; rfl
theorem ag_9 (w : World) : (isAgg 9).run Tryz.prog w = .ok false w := Tryz.isAgg9 w
theorem sz_9 (w : World) : (sizeOf 9).run Tryz.prog w = .ok 1 w := Tryz.sizeOf9 w
theorem it_9 : ITy Tryz.prog 9 [.string ⟨#[]⟩] 16 := ⟨⟨_, (show Tryz.prog.info? 9 = some Tryz.t9 by kernel_rfl), rfl, rfl, _, rfl, rfl⟩⟩
theorem un_10 : Tryz.prog.underlying 10 = some (.string) := Tryz.underlying10
theorem us_10 : (Tryz.prog.underlying 10).isSome = true := by rw [un_10]; rfl
theorem ag_10 (w : World) : (isAgg 10).run Tryz.prog w = .ok false w := Tryz.isAgg10 w
theorem sz_10 (w : World) : (sizeOf 10).run Tryz.prog w = .ok 1 w := Tryz.sizeOf10 w
theorem it_10 : ITy Tryz.prog 10 [.string ⟨#[]⟩] 16 := ⟨⟨_, (show Tryz.prog.info? 10 = some Tryz.t10 by kernel_rfl), rfl, rfl, _, rfl, rfl⟩⟩
theorem un_11 : Tryz.prog.underlying 11 = some (.string) := Tryz.underlying11
theorem us_11 : (Tryz.prog.underlying 11).isSome = true := by rw [un_11]; rfl
theorem ag_11 (w : World) : (isAgg 11).run Tryz.prog w = .ok false w := Tryz.isAgg11 w
theorem sz_11 (w : World) : (sizeOf 11).run Tryz.prog w = .ok 1 w := Tryz.sizeOf11 w
theorem it_11 : ITy Tryz.prog 11 [.string ⟨#[]⟩] 16 := ⟨⟨_, (show Tryz.prog.info? 11 = some Tryz.t11 by kernel_rfl), rfl, rfl, _, rfl, rfl⟩⟩
theorem un_12 : Tryz.prog.underlying 12 = some (.int .u64) := Tryz.underlying12
theorem us_12 : (Tryz.prog.underlying 12).isSome = true := by rw [un_12]; rfl
theorem ag_12 (w : World) : (isAgg 12).run Tryz.prog w = .ok false w := Tryz.isAgg12 w
theorem sz_12 (w : World) : (sizeOf 12).run Tryz.prog w = .ok 1 w := Tryz.sizeOf12 w
theorem it_12 : ITy Tryz.prog 12 [.int .u64 0] 8 := ⟨⟨_, (show Tryz.prog.info? 12 = some Tryz.t12 by kernel_rfl), rfl, rfl, _, rfl, rfl⟩⟩
theorem us_13 : (Tryz.prog.underlying 13).isSome = true := by rw [Tryz.underlying13]; rfl
theorem ag_13 (w : World) : (isAgg 13).run Tryz.prog w = .ok true w := Tryz.isAgg13 w
theorem sz_13 (w : World) : (sizeOf 13).run Tryz.prog w = .ok 2 w := Tryz.sizeOf13 w
theorem it_13 : ITy Tryz.prog 13 [.string ⟨#[]⟩, .int .u64 0] 24 := ⟨⟨_, (show Tryz.prog.info? 13 = some Tryz.t13 by kernel_rfl), rfl, rfl, _, rfl, rfl⟩⟩
theorem us_14 : (Tryz.prog.underlying 14).isSome = true := by rw [Tryz.underlying14]; rfl
theorem ag_14 (w : World) : (isAgg 14).run Tryz.prog w = .ok true w := Tryz.isAgg14 w
theorem sz_14 (w : World) : (sizeOf 14).run Tryz.prog w = .ok 2 w := Tryz.sizeOf14 w
theorem it_14 : ITy Tryz.prog 14 [.string ⟨#[]⟩, .int .u64 0] 24 := ⟨⟨_, (show Tryz.prog.info? 14 = some Tryz.t14 by kernel_rfl), rfl, rfl, _, rfl, rfl⟩⟩
theorem un_15 : Tryz.prog.underlying 15 = some (.pointer 202) := Tryz.underlying15
theorem us_15 : (Tryz.prog.underlying 15).isSome = true := by rw [un_15]; rfl
theorem ag_15 (w : World) : (isAgg 15).run Tryz.prog w = .ok false w := Tryz.isAgg15 w
theorem sz_15 (w : World) : (sizeOf 15).run Tryz.prog w = .ok 1 w := Tryz.sizeOf15 w
theorem it_15 : ITy Tryz.prog 15 [.pointer none] 8 := ⟨⟨_, (show Tryz.prog.info? 15 = some Tryz.t15 by kernel_rfl), rfl, rfl, _, rfl, rfl⟩⟩
theorem un_16 : Tryz.prog.underlying 16 = some (.pointer 205) := Tryz.underlying16
theorem us_16 : (Tryz.prog.underlying 16).isSome = true := by rw [un_16]; rfl
theorem ag_16 (w : World) : (isAgg 16).run Tryz.prog w = .ok false w := Tryz.isAgg16 w
theorem sz_16 (w : World) : (sizeOf 16).run Tryz.prog w = .ok 1 w := Tryz.sizeOf16 w
theorem it_16 : ITy Tryz.prog 16 [.pointer none] 8 := ⟨⟨_, (show Tryz.prog.info? 16 = some Tryz.t16 by kernel_rfl), rfl, rfl, _, rfl, rfl⟩⟩
theorem un_17 : Tryz.prog.underlying 17 = some (.pointer 213) := Tryz.underlying17
theorem us_17 : (Tryz.prog.underlying 17).isSome = true := by rw [un_17]; rfl
theorem ag_17 (w : World) : (isAgg 17).run Tryz.prog w = .ok false w := Tryz.isAgg17 w
theorem sz_17 (w : World) : (sizeOf 17).run Tryz.prog w = .ok 1 w := Tryz.sizeOf17 w
theorem it_17 : ITy Tryz.prog 17 [.pointer none] 8 := ⟨⟨_, (show Tryz.prog.info? 17 = some Tryz.t17 by kernel_rfl), rfl, rfl, _, rfl, rfl⟩⟩
theorem us_18 : (Tryz.prog.underlying 18).isSome = true := by rw [Tryz.underlying18]; rfl
theorem ag_18 (w : World) : (isAgg 18).run Tryz.prog w = .ok true w := Tryz.isAgg18 w
theorem sz_18 (w : World) : (sizeOf 18).run Tryz.prog w = .ok 1 w := Tryz.sizeOf18 w
theorem it_18 : ITy Tryz.prog 18 [.pointer none] 8 := ⟨⟨_, (show Tryz.prog.info? 18 = some Tryz.t18 by kernel_rfl), rfl, rfl, _, rfl, rfl⟩⟩
theorem us_19 : (Tryz.prog.underlying 19).isSome = true := by rw [Tryz.underlying19]; rfl
theorem ag_19 (w : World) : (isAgg 19).run Tryz.prog w = .ok true w := Tryz.isAgg19 w
theorem sz_19 (w : World) : (sizeOf 19).run Tryz.prog w = .ok 1 w := Tryz.sizeOf19 w
theorem it_19 : ITy Tryz.prog 19 [.pointer none] 8 := ⟨⟨_, (show Tryz.prog.info? 19 = some Tryz.t19 by kernel_rfl), rfl, rfl, _, rfl, rfl⟩⟩
theorem us_20 : (Tryz.prog.underlying 20).isSome = true := by rw [Tryz.underlying20]; rfl
theorem ag_20 (w : World) : (isAgg 20).run Tryz.prog w = .ok false w := Tryz.isAgg20 w
theorem sz_20 (w : World) : (sizeOf 20).run Tryz.prog w = .ok 1 w := Tryz.sizeOf20 w
theorem it_20 : ITy Tryz.prog 20 [.nilIface] 16 := ⟨⟨_, (show Tryz.prog.info? 20 = some Tryz.t20 by kernel_rfl), rfl, rfl, _, rfl, rfl⟩⟩
theorem un_21 : Tryz.prog.underlying 21 = some (.int .i32) := Tryz.underlying21
theorem us_21 : (Tryz.prog.underlying 21).isSome = true := by rw [un_21]; rfl
theorem ag_21 (w : World) : (isAgg 21).run Tryz.prog w = .ok false w := Tryz.isAgg21 w
theorem sz_21 (w : World) : (sizeOf 21).run Tryz.prog w = .ok 1 w := Tryz.sizeOf21 w
theorem it_21 : ITy Tryz.prog 21 [.int .i32 0] 4 := ⟨⟨_, (show Tryz.prog.info? 21 = some Tryz.t21 by kernel_rfl), rfl, rfl, _, rfl, rfl⟩⟩
theorem st_22 : STy Tryz.prog 22 29 2 := ⟨Tryz.underlying22, Tryz.sizeOf29⟩
theorem un_22 : Tryz.prog.underlying 22 = some (.slice 29) := Tryz.underlying22
theorem us_22 : (Tryz.prog.underlying 22).isSome = true := by rw [un_22]; rfl
theorem ag_22 (w : World) : (isAgg 22).run Tryz.prog w = .ok false w := Tryz.isAgg22 w
theorem sz_22 (w : World) : (sizeOf 22).run Tryz.prog w = .ok 1 w := Tryz.sizeOf22 w
theorem it_22 : ITy Tryz.prog 22 [.slice none 0 0] 24 := ⟨⟨_, (show Tryz.prog.info? 22 = some Tryz.t22 by kernel_rfl), rfl, rfl, _, rfl, rfl⟩⟩
theorem st_26 : STy Tryz.prog 26 3 1 := ⟨Tryz.underlying26, Tryz.sizeOf3⟩
theorem un_26 : Tryz.prog.underlying 26 = some (.slice 3) := Tryz.underlying26
theorem us_26 : (Tryz.prog.underlying 26).isSome = true := by rw [un_26]; rfl
theorem ag_26 (w : World) : (isAgg 26).run Tryz.prog w = .ok false w := Tryz.isAgg26 w
theorem sz_26 (w : World) : (sizeOf 26).run Tryz.prog w = .ok 1 w := Tryz.sizeOf26 w
theorem it_26 : ITy Tryz.prog 26 [.slice none 0 0] 24 := ⟨⟨_, (show Tryz.prog.info? 26 = some Tryz.t26 by kernel_rfl), rfl, rfl, _, rfl, rfl⟩⟩
theorem st_27 : STy Tryz.prog 27 21 1 := ⟨Tryz.underlying27, Tryz.sizeOf21⟩
theorem un_27 : Tryz.prog.underlying 27 = some (.slice 21) := Tryz.underlying27
theorem us_27 : (Tryz.prog.underlying 27).isSome = true := by rw [un_27]; rfl
theorem ag_27 (w : World) : (isAgg 27).run Tryz.prog w = .ok false w := Tryz.isAgg27 w
theorem sz_27 (w : World) : (sizeOf 27).run Tryz.prog w = .ok 1 w := Tryz.sizeOf27 w
theorem it_27 : ITy Tryz.prog 27 [.slice none 0 0] 24 := ⟨⟨_, (show Tryz.prog.info? 27 = some Tryz.t27 by kernel_rfl), rfl, rfl, _, rfl, rfl⟩⟩
theorem us_28 : (Tryz.prog.underlying 28).isSome = true := by rw [Tryz.underlying28]; rfl
theorem ag_28 (w : World) : (isAgg 28).run Tryz.prog w = .ok true w := Tryz.isAgg28 w
theorem sz_28 (w : World) : (sizeOf 28).run Tryz.prog w = .ok 2 w := Tryz.sizeOf28 w
theorem it_28 : ITy Tryz.prog 28 [.slice none 0 0, .slice none 0 0] 48 := ⟨⟨_, (show Tryz.prog.info? 28 = some Tryz.t28 by kernel_rfl), rfl, rfl, _, rfl, rfl⟩⟩
theorem us_29 : (Tryz.prog.underlying 29).isSome = true := by rw [Tryz.underlying29]; rfl
theorem ag_29 (w : World) : (isAgg 29).run Tryz.prog w = .ok true w := Tryz.isAgg29 w
theorem sz_29 (w : World) : (sizeOf 29).run Tryz.prog w = .ok 2 w := Tryz.sizeOf29 w
theorem it_29 : ITy Tryz.prog 29 [.slice none 0 0, .slice none 0 0] 48 := ⟨⟨_, (show Tryz.prog.info? 29 = some Tryz.t29 by kernel_rfl), rfl, rfl, _, rfl, rfl⟩⟩
theorem un_30 : Tryz.prog.underlying 30 = some (.int .i64) := Tryz.underlying30
theorem us_30 : (Tryz.prog.underlying 30).isSome = true := by rw [un_30]; rfl
theorem ag_30 (w : World) : (isAgg 30).run Tryz.prog w = .ok false w := Tryz.isAgg30 w
theorem sz_30 (w : World) : (sizeOf 30).run Tryz.prog w = .ok 1 w := Tryz.sizeOf30 w
theorem it_30 : ITy Tryz.prog 30 [.int .i64 0] 8 := ⟨⟨_, (show Tryz.prog.info? 30 = some Tryz.t30 by kernel_rfl), rfl, rfl, _, rfl, rfl⟩⟩
theorem st_35 : STy Tryz.prog 35 99 3 := ⟨Tryz.underlying35, Tryz.sizeOf99⟩
theorem un_35 : Tryz.prog.underlying 35 = some (.slice 99) := Tryz.underlying35
theorem us_35 : (Tryz.prog.underlying 35).isSome = true := by rw [un_35]; rfl
theorem ag_35 (w : World) : (isAgg 35).run Tryz.prog w = .ok false w := Tryz.isAgg35 w
theorem sz_35 (w : World) : (sizeOf 35).run Tryz.prog w = .ok 1 w := Tryz.sizeOf35 w
theorem it_35 : ITy Tryz.prog 35 [.slice none 0 0] 24 := ⟨⟨_, (show Tryz.prog.info? 35 = some Tryz.t35 by kernel_rfl), rfl, rfl, _, rfl, rfl⟩⟩
theorem st_36 : STy Tryz.prog 36 102 3 := ⟨Tryz.underlying36, Tryz.sizeOf102⟩
theorem un_36 : Tryz.prog.underlying 36 = some (.slice 102) := Tryz.underlying36
theorem us_36 : (Tryz.prog.underlying 36).isSome = true := by rw [un_36]; rfl
theorem ag_36 (w : World) : (isAgg 36).run Tryz.prog w = .ok false w := Tryz.isAgg36 w
theorem sz_36 (w : World) : (sizeOf 36).run Tryz.prog w = .ok 1 w := Tryz.sizeOf36 w
theorem it_36 : ITy Tryz.prog 36 [.slice none 0 0] 24 := ⟨⟨_, (show Tryz.prog.info? 36 = some Tryz.t36 by kernel_rfl), rfl, rfl, _, rfl, rfl⟩⟩
theorem st_37 : STy Tryz.prog 37 104 3 := ⟨Tryz.underlying37, Tryz.sizeOf104⟩
theorem un_37 : Tryz.prog.underlying 37 = some (.slice 104) := Tryz.underlying37
theorem us_37 : (Tryz.prog.underlying 37).isSome = true := by rw [un_37]; rfl
theorem ag_37 (w : World) : (isAgg 37).run Tryz.prog w = .ok false w := Tryz.isAgg37 w
theorem sz_37 (w : World) : (sizeOf 37).run Tryz.prog w = .ok 1 w := Tryz.sizeOf37 w
theorem it_37 : ITy Tryz.prog 37 [.slice none 0 0] 24 := ⟨⟨_, (show Tryz.prog.info? 37 = some Tryz.t37 by kernel_rfl), rfl, rfl, _, rfl, rfl⟩⟩
theorem st_38 : STy Tryz.prog 38 108 3 := ⟨Tryz.underlying38, Tryz.sizeOf108⟩
theorem un_38 : Tryz.prog.underlying 38 = some (.slice 108) := Tryz.underlying38
theorem us_38 : (Tryz.prog.underlying 38).isSome = true := by rw [un_38]; rfl
theorem ag_38 (w : World) : (isAgg 38).run Tryz.prog w = .ok false w := Tryz.isAgg38 w
theorem sz_38 (w : World) : (sizeOf 38).run Tryz.prog w = .ok 1 w := Tryz.sizeOf38 w
theorem it_38 : ITy Tryz.prog 38 [.slice none 0 0] 24 := ⟨⟨_, (show Tryz.prog.info? 38 = some Tryz.t38 by kernel_rfl), rfl, rfl, _, rfl, rfl⟩⟩
theorem st_39 : STy Tryz.prog 39 113 3 := ⟨Tryz.underlying39, Tryz.sizeOf113⟩
theorem un_39 : Tryz.prog.underlying 39 = some (.slice 113) := Tryz.underlying39
theorem us_39 : (Tryz.prog.underlying 39).isSome = true := by rw [un_39]; rfl
theorem ag_39 (w : World) : (isAgg 39).run Tryz.prog w = .ok false w := Tryz.isAgg39 w
theorem sz_39 (w : World) : (sizeOf 39).run Tryz.prog w = .ok 1 w := Tryz.sizeOf39 w
theorem it_39 : ITy Tryz.prog 39 [.slice none 0 0] 24 := ⟨⟨_, (show Tryz.prog.info? 39 = some Tryz.t39 by kernel_rfl), rfl, rfl, _, rfl, rfl⟩⟩
theorem st_40 : STy Tryz.prog 40 96 3 := ⟨Tryz.underlying40, Tryz.sizeOf96⟩
theorem un_40 : Tryz.prog.underlying 40 = some (.slice 96) := Tryz.underlying40
theorem us_40 : (Tryz.prog.underlying 40).isSome = true := by rw [un_40]; rfl
theorem ag_40 (w : World) : (isAgg 40).run Tryz.prog w = .ok false w := Tryz.isAgg40 w
theorem sz_40 (w : World) : (sizeOf 40).run Tryz.prog w = .ok 1 w := Tryz.sizeOf40 w
theorem it_40 : ITy Tryz.prog 40 [.slice none 0 0] 24 := ⟨⟨_, (show Tryz.prog.info? 40 = some Tryz.t40 by kernel_rfl), rfl, rfl, _, rfl, rfl⟩⟩
theorem st_41 : STy Tryz.prog 41 118 3 := ⟨Tryz.underlying41, Tryz.sizeOf118⟩
theorem un_41 : Tryz.prog.underlying 41 = some (.slice 118) := Tryz.underlying41
theorem us_41 : (Tryz.prog.underlying 41).isSome = true := by rw [un_41]; rfl
theorem ag_41 (w : World) : (isAgg 41).run Tryz.prog w = .ok false w := Tryz.isAgg41 w
theorem sz_41 (w : World) : (sizeOf 41).run Tryz.prog w = .ok 1 w := Tryz.sizeOf41 w
theorem it_41 : ITy Tryz.prog 41 [.slice none 0 0] 24 := ⟨⟨_, (show Tryz.prog.info? 41 = some Tryz.t41 by kernel_rfl), rfl, rfl, _, rfl, rfl⟩⟩
theorem st_42 : STy Tryz.prog 42 125 3 := ⟨Tryz.underlying42, Tryz.sizeOf125⟩
theorem un_42 : Tryz.prog.underlying 42 = some (.slice 125) := Tryz.underlying42
theorem us_42 : (Tryz.prog.underlying 42).isSome = true := by rw [un_42]; rfl
theorem ag_42 (w : World) : (isAgg 42).run Tryz.prog w = .ok false w := Tryz.isAgg42 w
theorem sz_42 (w : World) : (sizeOf 42).run Tryz.prog w = .ok 1 w := Tryz.sizeOf42 w
theorem it_42 : ITy Tryz.prog 42 [.slice none 0 0] 24 := ⟨⟨_, (show Tryz.prog.info? 42 = some Tryz.t42 by kernel_rfl), rfl, rfl, _, rfl, rfl⟩⟩
theorem st_43 : STy Tryz.prog 43 132 3 := ⟨Tryz.underlying43, Tryz.sizeOf132⟩
theorem un_43 : Tryz.prog.underlying 43 = some (.slice 132) := Tryz.underlying43
theorem us_43 : (Tryz.prog.underlying 43).isSome = true := by rw [un_43]; rfl
theorem ag_43 (w : World) : (isAgg 43).run Tryz.prog w = .ok false w := Tryz.isAgg43 w
theorem sz_43 (w : World) : (sizeOf 43).run Tryz.prog w = .ok 1 w := Tryz.sizeOf43 w
theorem it_43 : ITy Tryz.prog 43 [.slice none 0 0] 24 := ⟨⟨_, (show Tryz.prog.info? 43 = some Tryz.t43 by kernel_rfl), rfl, rfl, _, rfl, rfl⟩⟩
theorem st_44 : STy Tryz.prog 44 138 3 := ⟨Tryz.underlying44, Tryz.sizeOf138⟩
theorem un_44 : Tryz.prog.underlying 44 = some (.slice 138) := Tryz.underlying44
theorem us_44 : (Tryz.prog.underlying 44).isSome = true := by rw [un_44]; rfl
theorem ag_44 (w : World) : (isAgg 44).run Tryz.prog w = .ok false w := Tryz.isAgg44 w
theorem sz_44 (w : World) : (sizeOf 44).run Tryz.prog w = .ok 1 w := Tryz.sizeOf44 w
theorem it_44 : ITy Tryz.prog 44 [.slice none 0 0] 24 := ⟨⟨_, (show Tryz.prog.info? 44 = some Tryz.t44 by kernel_rfl), rfl, rfl, _, rfl, rfl⟩⟩
theorem st_45 : STy Tryz.prog 45 144 3 := ⟨Tryz.underlying45, Tryz.sizeOf144⟩
theorem un_45 : Tryz.prog.underlying 45 = some (.slice 144) := Tryz.underlying45
theorem us_45 : (Tryz.prog.underlying 45).isSome = true := by rw [un_45]; rfl
theorem ag_45 (w : World) : (isAgg 45).run Tryz.prog w = .ok false w := Tryz.isAgg45 w
theorem sz_45 (w : World) : (sizeOf 45).run Tryz.prog w = .ok 1 w := Tryz.sizeOf45 w
theorem it_45 : ITy Tryz.prog 45 [.slice none 0 0] 24 := ⟨⟨_, (show Tryz.prog.info? 45 = some Tryz.t45 by kernel_rfl), rfl, rfl, _, rfl, rfl⟩⟩
theorem st_46 : STy Tryz.prog 46 150 3 := ⟨Tryz.underlying46, Tryz.sizeOf150⟩
theorem un_46 : Tryz.prog.underlying 46 = some (.slice 150) := Tryz.underlying46
theorem us_46 : (Tryz.prog.underlying 46).isSome = true := by rw [un_46]; rfl
theorem ag_46 (w : World) : (isAgg 46).run Tryz.prog w = .ok false w := Tryz.isAgg46 w
theorem sz_46 (w : World) : (sizeOf 46).run Tryz.prog w = .ok 1 w := Tryz.sizeOf46 w
theorem it_46 : ITy Tryz.prog 46 [.slice none 0 0] 24 := ⟨⟨_, (show Tryz.prog.info? 46 = some Tryz.t46 by kernel_rfl), rfl, rfl, _, rfl, rfl⟩⟩
theorem st_47 : STy Tryz.prog 47 156 3 := ⟨Tryz.underlying47, Tryz.sizeOf156⟩
theorem un_47 : Tryz.prog.underlying 47 = some (.slice 156) := Tryz.underlying47
theorem us_47 : (Tryz.prog.underlying 47).isSome = true := by rw [un_47]; rfl
theorem ag_47 (w : World) : (isAgg 47).run Tryz.prog w = .ok false w := Tryz.isAgg47 w
theorem sz_47 (w : World) : (sizeOf 47).run Tryz.prog w = .ok 1 w := Tryz.sizeOf47 w
theorem it_47 : ITy Tryz.prog 47 [.slice none 0 0] 24 := ⟨⟨_, (show Tryz.prog.info? 47 = some Tryz.t47 by kernel_rfl), rfl, rfl, _, rfl, rfl⟩⟩
theorem st_48 : STy Tryz.prog 48 161 3 := ⟨Tryz.underlying48, Tryz.sizeOf161⟩
theorem un_48 : Tryz.prog.underlying 48 = some (.slice 161) := Tryz.underlying48
theorem us_48 : (Tryz.prog.underlying 48).isSome = true := by rw [un_48]; rfl
theorem ag_48 (w : World) : (isAgg 48).run Tryz.prog w = .ok false w := Tryz.isAgg48 w
theorem sz_48 (w : World) : (sizeOf 48).run Tryz.prog w = .ok 1 w := Tryz.sizeOf48 w
theorem it_48 : ITy Tryz.prog 48 [.slice none 0 0] 24 := ⟨⟨_, (show Tryz.prog.info? 48 = some Tryz.t48 by kernel_rfl), rfl, rfl, _, rfl, rfl⟩⟩
theorem st_49 : STy Tryz.prog 49 165 3 := ⟨Tryz.underlying49, Tryz.sizeOf165⟩
theorem un_49 : Tryz.prog.underlying 49 = some (.slice 165) := Tryz.underlying49
theorem us_49 : (Tryz.prog.underlying 49).isSome = true := by rw [un_49]; rfl
theorem ag_49 (w : World) : (isAgg 49).run Tryz.prog w = .ok false w := Tryz.isAgg49 w
theorem sz_49 (w : World) : (sizeOf 49).run Tryz.prog w = .ok 1 w := Tryz.sizeOf49 w
theorem it_49 : ITy Tryz.prog 49 [.slice none 0 0] 24 := ⟨⟨_, (show Tryz.prog.info? 49 = some Tryz.t49 by kernel_rfl), rfl, rfl, _, rfl, rfl⟩⟩
theorem us_50 : (Tryz.prog.underlying 50).isSome = true := by rw [Tryz.underlying50]; rfl
theorem ag_50 (w : World) : (isAgg 50).run Tryz.prog w = .ok true w := Tryz.isAgg50 w
theorem sz_50 (w : World) : (sizeOf 50).run Tryz.prog w = .ok 16 w := Tryz.sizeOf50 w
theorem it_50 : ITy Tryz.prog 50 [.int .i64 0, .slice none 0 0, .slice none 0 0, .slice none 0 0, .slice none 0 0, .slice none 0 0, .slice none 0 0, .slice none 0 0, .slice none 0 0, .slice none 0 0, .slice none 0 0, .slice none 0 0, .slice none 0 0, .slice none 0 0, .slice none 0 0, .slice none 0 0] 368 := ⟨⟨_, (show Tryz.prog.info? 50 = some Tryz.t50 by kernel_rfl), rfl, rfl, _, rfl, rfl⟩⟩
theorem us_51 : (Tryz.prog.underlying 51).isSome = true := by rw [Tryz.underlying51]; rfl
theorem ag_51 (w : World) : (isAgg 51).run Tryz.prog w = .ok true w := Tryz.isAgg51 w
theorem sz_51 (w : World) : (sizeOf 51).run Tryz.prog w = .ok 16 w := Tryz.sizeOf51 w
theorem it_51 : ITy Tryz.prog 51 [.int .i64 0, .slice none 0 0, .slice none 0 0, .slice none 0 0, .slice none 0 0, .slice none 0 0, .slice none 0 0, .slice none 0 0, .slice none 0 0, .slice none 0 0, .slice none 0 0, .slice none 0 0, .slice none 0 0, .slice none 0 0, .slice none 0 0, .slice none 0 0] 368 := ⟨⟨_, (show Tryz.prog.info? 51 = some Tryz.t51 by kernel_rfl), rfl, rfl, _, rfl, rfl⟩⟩
theorem us_65 : (Tryz.prog.underlying 65).isSome = true := by rw [Tryz.underlying65]; rfl
theorem ag_65 (w : World) : (isAgg 65).run Tryz.prog w = .ok false w := Tryz.isAgg65 w
theorem sz_65 (w : World) : (sizeOf 65).run Tryz.prog w = .ok 1 w := Tryz.sizeOf65 w
theorem it_65 : ITy Tryz.prog 65 [.nilFunc] 8 := ⟨⟨_, (show Tryz.prog.info? 65 = some Tryz.t65 by kernel_rfl), rfl, rfl, _, rfl, rfl⟩⟩
theorem us_71 : (Tryz.prog.underlying 71).isSome = true := by rw [Tryz.underlying71]; rfl
theorem ag_71 (w : World) : (isAgg 71).run Tryz.prog w = .ok false w := Tryz.isAgg71 w
theorem sz_71 (w : World) : (sizeOf 71).run Tryz.prog w = .ok 1 w := Tryz.sizeOf71 w
theorem it_71 : ITy Tryz.prog 71 [.nilFunc] 8 := ⟨⟨_, (show Tryz.prog.info? 71 = some Tryz.t71 by kernel_rfl), rfl, rfl, _, rfl, rfl⟩⟩
theorem st_72 : STy Tryz.prog 72 26 1 := ⟨Tryz.underlying72, Tryz.sizeOf26⟩
theorem un_72 : Tryz.prog.underlying 72 = some (.slice 26) := Tryz.underlying72
theorem us_72 : (Tryz.prog.underlying 72).isSome = true := by rw [un_72]; rfl
theorem ag_72 (w : World) : (isAgg 72).run Tryz.prog w = .ok false w := Tryz.isAgg72 w
theorem sz_72 (w : World) : (sizeOf 72).run Tryz.prog w = .ok 1 w := Tryz.sizeOf72 w
theorem it_72 : ITy Tryz.prog 72 [.slice none 0 0] 24 := ⟨⟨_, (show Tryz.prog.info? 72 = some Tryz.t72 by kernel_rfl), rfl, rfl, _, rfl, rfl⟩⟩
theorem un_80 : Tryz.prog.underlying 80 = some (.pointer 51) := Tryz.underlying80
theorem us_80 : (Tryz.prog.underlying 80).isSome = true := by rw [un_80]; rfl
theorem ag_80 (w : World) : (isAgg 80).run Tryz.prog w = .ok false w := Tryz.isAgg80 w
theorem sz_80 (w : World) : (sizeOf 80).run Tryz.prog w = .ok 1 w := Tryz.sizeOf80 w
theorem it_80 : ITy Tryz.prog 80 [.pointer none] 8 := ⟨⟨_, (show Tryz.prog.info? 80 = some Tryz.t80 by kernel_rfl), rfl, rfl, _, rfl, rfl⟩⟩
theorem st_86 : STy Tryz.prog 86 3 1 := ⟨Tryz.underlying86, Tryz.sizeOf3⟩
theorem un_86 : Tryz.prog.underlying 86 = some (.slice 3) := Tryz.underlying86
theorem us_86 : (Tryz.prog.underlying 86).isSome = true := by rw [un_86]; rfl
theorem ag_86 (w : World) : (isAgg 86).run Tryz.prog w = .ok false w := Tryz.isAgg86 w
theorem sz_86 (w : World) : (sizeOf 86).run Tryz.prog w = .ok 1 w := Tryz.sizeOf86 w
theorem it_86 : ITy Tryz.prog 86 [.slice none 0 0] 24 := ⟨⟨_, (show Tryz.prog.info? 86 = some Tryz.t86 by kernel_rfl), rfl, rfl, _, rfl, rfl⟩⟩
theorem us_89 : (Tryz.prog.underlying 89).isSome = true := by rw [Tryz.underlying89]; rfl
theorem ag_89 (w : World) : (isAgg 89).run Tryz.prog w = .ok true w := Tryz.isAgg89 w
theorem sz_89 (w : World) : (sizeOf 89).run Tryz.prog w = .ok 2 w := Tryz.sizeOf89 w
theorem it_89 : ITy Tryz.prog 89 [.slice none 0 0, .int .i64 0] 32 := ⟨⟨_, (show Tryz.prog.info? 89 = some Tryz.t89 by kernel_rfl), rfl, rfl, _, rfl, rfl⟩⟩
theorem us_90 : (Tryz.prog.underlying 90).isSome = true := by rw [Tryz.underlying90]; rfl
theorem ag_90 (w : World) : (isAgg 90).run Tryz.prog w = .ok true w := Tryz.isAgg90 w
theorem sz_90 (w : World) : (sizeOf 90).run Tryz.prog w = .ok 2 w := Tryz.sizeOf90 w
theorem it_90 : ITy Tryz.prog 90 [.slice none 0 0, .int .i64 0] 32 := ⟨⟨_, (show Tryz.prog.info? 90 = some Tryz.t90 by kernel_rfl), rfl, rfl, _, rfl, rfl⟩⟩
theorem us_95 : (Tryz.prog.underlying 95).isSome = true := by rw [Tryz.underlying95]; rfl
theorem ag_95 (w : World) : (isAgg 95).run Tryz.prog w = .ok true w := Tryz.isAgg95 w
theorem sz_95 (w : World) : (sizeOf 95).run Tryz.prog w = .ok 3 w := Tryz.sizeOf95 w
theorem it_95 : ITy Tryz.prog 95 [.slice none 0 0, .slice none 0 0, .int .i64 0] 56 := ⟨⟨_, (show Tryz.prog.info? 95 = some Tryz.t95 by kernel_rfl), rfl, rfl, _, rfl, rfl⟩⟩
theorem us_96 : (Tryz.prog.underlying 96).isSome = true := by rw [Tryz.underlying96]; rfl
theorem ag_96 (w : World) : (isAgg 96).run Tryz.prog w = .ok true w := Tryz.isAgg96 w
theorem sz_96 (w : World) : (sizeOf 96).run Tryz.prog w = .ok 3 w := Tryz.sizeOf96 w
theorem it_96 : ITy Tryz.prog 96 [.slice none 0 0, .slice none 0 0, .int .i64 0] 56 := ⟨⟨_, (show Tryz.prog.info? 96 = some Tryz.t96 by kernel_rfl), rfl, rfl, _, rfl, rfl⟩⟩
theorem st_97 : STy Tryz.prog 97 5 1 := ⟨Tryz.underlying97, Tryz.sizeOf5⟩
theorem un_97 : Tryz.prog.underlying 97 = some (.slice 5) := Tryz.underlying97
theorem us_97 : (Tryz.prog.underlying 97).isSome = true := by rw [un_97]; rfl
theorem ag_97 (w : World) : (isAgg 97).run Tryz.prog w = .ok false w := Tryz.isAgg97 w
theorem sz_97 (w : World) : (sizeOf 97).run Tryz.prog w = .ok 1 w := Tryz.sizeOf97 w
theorem it_97 : ITy Tryz.prog 97 [.slice none 0 0] 24 := ⟨⟨_, (show Tryz.prog.info? 97 = some Tryz.t97 by kernel_rfl), rfl, rfl, _, rfl, rfl⟩⟩
theorem us_98 : (Tryz.prog.underlying 98).isSome = true := by rw [Tryz.underlying98]; rfl
theorem ag_98 (w : World) : (isAgg 98).run Tryz.prog w = .ok true w := Tryz.isAgg98 w
theorem sz_98 (w : World) : (sizeOf 98).run Tryz.prog w = .ok 3 w := Tryz.sizeOf98 w
theorem it_98 : ITy Tryz.prog 98 [.slice none 0 0, .slice none 0 0, .int .i64 0] 56 := ⟨⟨_, (show Tryz.prog.info? 98 = some Tryz.t98 by kernel_rfl), rfl, rfl, _, rfl, rfl⟩⟩
theorem us_99 : (Tryz.prog.underlying 99).isSome = true := by rw [Tryz.underlying99]; rfl
theorem ag_99 (w : World) : (isAgg 99).run Tryz.prog w = .ok true w := Tryz.isAgg99 w
theorem sz_99 (w : World) : (sizeOf 99).run Tryz.prog w = .ok 3 w := Tryz.sizeOf99 w
theorem it_99 : ITy Tryz.prog 99 [.slice none 0 0, .slice none 0 0, .int .i64 0] 56 := ⟨⟨_, (show Tryz.prog.info? 99 = some Tryz.t99 by kernel_rfl), rfl, rfl, _, rfl, rfl⟩⟩
theorem us_101 : (Tryz.prog.underlying 101).isSome = true := by rw [Tryz.underlying101]; rfl
theorem ag_101 (w : World) : (isAgg 101).run Tryz.prog w = .ok true w := Tryz.isAgg101 w
theorem sz_101 (w : World) : (sizeOf 101).run Tryz.prog w = .ok 3 w := Tryz.sizeOf101 w
theorem it_101 : ITy Tryz.prog 101 [.slice none 0 0, .slice none 0 0, .int .i64 0] 56 := ⟨⟨_, (show Tryz.prog.info? 101 = some Tryz.t101 by kernel_rfl), rfl, rfl, _, rfl, rfl⟩⟩
theorem us_102 : (Tryz.prog.underlying 102).isSome = true := by rw [Tryz.underlying102]; rfl
theorem ag_102 (w : World) : (isAgg 102).run Tryz.prog w = .ok true w := Tryz.isAgg102 w
theorem sz_102 (w : World) : (sizeOf 102).run Tryz.prog w = .ok 3 w := Tryz.sizeOf102 w
theorem it_102 : ITy Tryz.prog 102 [.slice none 0 0, .slice none 0 0, .int .i64 0] 56 := ⟨⟨_, (show Tryz.prog.info? 102 = some Tryz.t102 by kernel_rfl), rfl, rfl, _, rfl, rfl⟩⟩
theorem us_103 : (Tryz.prog.underlying 103).isSome = true := by rw [Tryz.underlying103]; rfl
theorem ag_103 (w : World) : (isAgg 103).run Tryz.prog w = .ok true w := Tryz.isAgg103 w
theorem sz_103 (w : World) : (sizeOf 103).run Tryz.prog w = .ok 3 w := Tryz.sizeOf103 w
theorem it_103 : ITy Tryz.prog 103 [.slice none 0 0, .slice none 0 0, .int .i64 0] 56 := ⟨⟨_, (show Tryz.prog.info? 103 = some Tryz.t103 by kernel_rfl), rfl, rfl, _, rfl, rfl⟩⟩
theorem us_104 : (Tryz.prog.underlying 104).isSome = true := by rw [Tryz.underlying104]; rfl
theorem ag_104 (w : World) : (isAgg 104).run Tryz.prog w = .ok true w := Tryz.isAgg104 w
theorem sz_104 (w : World) : (sizeOf 104).run Tryz.prog w = .ok 3 w := Tryz.sizeOf104 w
theorem it_104 : ITy Tryz.prog 104 [.slice none 0 0, .slice none 0 0, .int .i64 0] 56 := ⟨⟨_, (show Tryz.prog.info? 104 = some Tryz.t104 by kernel_rfl), rfl, rfl, _, rfl, rfl⟩⟩
theorem st_106 : STy Tryz.prog 106 109 1 := ⟨Tryz.underlying106, Tryz.sizeOf109⟩
theorem un_106 : Tryz.prog.underlying 106 = some (.slice 109) := Tryz.underlying106
theorem us_106 : (Tryz.prog.underlying 106).isSome = true := by rw [un_106]; rfl
theorem ag_106 (w : World) : (isAgg 106).run Tryz.prog w = .ok false w := Tryz.isAgg106 w
theorem sz_106 (w : World) : (sizeOf 106).run Tryz.prog w = .ok 1 w := Tryz.sizeOf106 w
theorem it_106 : ITy Tryz.prog 106 [.slice none 0 0] 24 := ⟨⟨_, (show Tryz.prog.info? 106 = some Tryz.t106 by kernel_rfl), rfl, rfl, _, rfl, rfl⟩⟩
theorem us_107 : (Tryz.prog.underlying 107).isSome = true := by rw [Tryz.underlying107]; rfl
theorem ag_107 (w : World) : (isAgg 107).run Tryz.prog w = .ok true w := Tryz.isAgg107 w
theorem sz_107 (w : World) : (sizeOf 107).run Tryz.prog w = .ok 3 w := Tryz.sizeOf107 w
theorem it_107 : ITy Tryz.prog 107 [.slice none 0 0, .slice none 0 0, .int .i64 0] 56 := ⟨⟨_, (show Tryz.prog.info? 107 = some Tryz.t107 by kernel_rfl), rfl, rfl, _, rfl, rfl⟩⟩
theorem us_108 : (Tryz.prog.underlying 108).isSome = true := by rw [Tryz.underlying108]; rfl
theorem ag_108 (w : World) : (isAgg 108).run Tryz.prog w = .ok true w := Tryz.isAgg108 w
theorem sz_108 (w : World) : (sizeOf 108).run Tryz.prog w = .ok 3 w := Tryz.sizeOf108 w
theorem it_108 : ITy Tryz.prog 108 [.slice none 0 0, .slice none 0 0, .int .i64 0] 56 := ⟨⟨_, (show Tryz.prog.info? 108 = some Tryz.t108 by kernel_rfl), rfl, rfl, _, rfl, rfl⟩⟩
theorem un_109 : Tryz.prog.underlying 109 = some (.int .u32) := Tryz.underlying109
theorem us_109 : (Tryz.prog.underlying 109).isSome = true := by rw [un_109]; rfl
theorem ag_109 (w : World) : (isAgg 109).run Tryz.prog w = .ok false w := Tryz.isAgg109 w
theorem sz_109 (w : World) : (sizeOf 109).run Tryz.prog w = .ok 1 w := Tryz.sizeOf109 w
theorem it_109 : ITy Tryz.prog 109 [.int .u32 0] 4 := ⟨⟨_, (show Tryz.prog.info? 109 = some Tryz.t109 by kernel_rfl), rfl, rfl, _, rfl, rfl⟩⟩
theorem st_111 : STy Tryz.prog 111 9 1 := ⟨Tryz.underlying111, Tryz.sizeOf9⟩
theorem un_111 : Tryz.prog.underlying 111 = some (.slice 9) := Tryz.underlying111
theorem us_111 : (Tryz.prog.underlying 111).isSome = true := by rw [un_111]; rfl
theorem ag_111 (w : World) : (isAgg 111).run Tryz.prog w = .ok false w := Tryz.isAgg111 w
theorem sz_111 (w : World) : (sizeOf 111).run Tryz.prog w = .ok 1 w := Tryz.sizeOf111 w
theorem it_111 : ITy Tryz.prog 111 [.slice none 0 0] 24 := ⟨⟨_, (show Tryz.prog.info? 111 = some Tryz.t111 by kernel_rfl), rfl, rfl, _, rfl, rfl⟩⟩
theorem us_112 : (Tryz.prog.underlying 112).isSome = true := by rw [Tryz.underlying112]; rfl
theorem ag_112 (w : World) : (isAgg 112).run Tryz.prog w = .ok true w := Tryz.isAgg112 w
theorem sz_112 (w : World) : (sizeOf 112).run Tryz.prog w = .ok 3 w := Tryz.sizeOf112 w
theorem it_112 : ITy Tryz.prog 112 [.slice none 0 0, .slice none 0 0, .int .i64 0] 56 := ⟨⟨_, (show Tryz.prog.info? 112 = some Tryz.t112 by kernel_rfl), rfl, rfl, _, rfl, rfl⟩⟩
theorem us_113 : (Tryz.prog.underlying 113).isSome = true := by rw [Tryz.underlying113]; rfl
theorem ag_113 (w : World) : (isAgg 113).run Tryz.prog w = .ok true w := Tryz.isAgg113 w
theorem sz_113 (w : World) : (sizeOf 113).run Tryz.prog w = .ok 3 w := Tryz.sizeOf113 w
theorem it_113 : ITy Tryz.prog 113 [.slice none 0 0, .slice none 0 0, .int .i64 0] 56 := ⟨⟨_, (show Tryz.prog.info? 113 = some Tryz.t113 by kernel_rfl), rfl, rfl, _, rfl, rfl⟩⟩
theorem st_116 : STy Tryz.prog 116 121 5 := ⟨Tryz.underlying116, Tryz.sizeOf121⟩
theorem un_116 : Tryz.prog.underlying 116 = some (.slice 121) := Tryz.underlying116
theorem us_116 : (Tryz.prog.underlying 116).isSome = true := by rw [un_116]; rfl
theorem ag_116 (w : World) : (isAgg 116).run Tryz.prog w = .ok false w := Tryz.isAgg116 w
theorem sz_116 (w : World) : (sizeOf 116).run Tryz.prog w = .ok 1 w := Tryz.sizeOf116 w
theorem it_116 : ITy Tryz.prog 116 [.slice none 0 0] 24 := ⟨⟨_, (show Tryz.prog.info? 116 = some Tryz.t116 by kernel_rfl), rfl, rfl, _, rfl, rfl⟩⟩
theorem us_117 : (Tryz.prog.underlying 117).isSome = true := by rw [Tryz.underlying117]; rfl
theorem ag_117 (w : World) : (isAgg 117).run Tryz.prog w = .ok true w := Tryz.isAgg117 w
theorem sz_117 (w : World) : (sizeOf 117).run Tryz.prog w = .ok 3 w := Tryz.sizeOf117 w
theorem it_117 : ITy Tryz.prog 117 [.slice none 0 0, .slice none 0 0, .int .i64 0] 56 := ⟨⟨_, (show Tryz.prog.info? 117 = some Tryz.t117 by kernel_rfl), rfl, rfl, _, rfl, rfl⟩⟩
theorem us_118 : (Tryz.prog.underlying 118).isSome = true := by rw [Tryz.underlying118]; rfl
theorem ag_118 (w : World) : (isAgg 118).run Tryz.prog w = .ok true w := Tryz.isAgg118 w
theorem sz_118 (w : World) : (sizeOf 118).run Tryz.prog w = .ok 3 w := Tryz.sizeOf118 w
theorem it_118 : ITy Tryz.prog 118 [.slice none 0 0, .slice none 0 0, .int .i64 0] 56 := ⟨⟨_, (show Tryz.prog.info? 118 = some Tryz.t118 by kernel_rfl), rfl, rfl, _, rfl, rfl⟩⟩
theorem un_119 : Tryz.prog.underlying 119 = some (.int .u8) := Tryz.underlying119
theorem us_119 : (Tryz.prog.underlying 119).isSome = true := by rw [un_119]; rfl
theorem ag_119 (w : World) : (isAgg 119).run Tryz.prog w = .ok false w := Tryz.isAgg119 w
theorem sz_119 (w : World) : (sizeOf 119).run Tryz.prog w = .ok 1 w := Tryz.sizeOf119 w
theorem it_119 : ITy Tryz.prog 119 [.int .u8 0] 1 := ⟨⟨_, (show Tryz.prog.info? 119 = some Tryz.t119 by kernel_rfl), rfl, rfl, _, rfl, rfl⟩⟩
theorem us_120 : (Tryz.prog.underlying 120).isSome = true := by rw [Tryz.underlying120]; rfl
theorem ag_120 (w : World) : (isAgg 120).run Tryz.prog w = .ok true w := Tryz.isAgg120 w
theorem sz_120 (w : World) : (sizeOf 120).run Tryz.prog w = .ok 5 w := Tryz.sizeOf120 w
theorem it_120 : ITy Tryz.prog 120 [.int .u8 0, .slice none 0 0, .slice none 0 0, .int .i64 0, .int .i64 0] 72 := ⟨⟨_, (show Tryz.prog.info? 120 = some Tryz.t120 by kernel_rfl), rfl, rfl, _, rfl, rfl⟩⟩
theorem us_121 : (Tryz.prog.underlying 121).isSome = true := by rw [Tryz.underlying121]; rfl
theorem ag_121 (w : World) : (isAgg 121).run Tryz.prog w = .ok true w := Tryz.isAgg121 w
theorem sz_121 (w : World) : (sizeOf 121).run Tryz.prog w = .ok 5 w := Tryz.sizeOf121 w
theorem it_121 : ITy Tryz.prog 121 [.int .u8 0, .slice none 0 0, .slice none 0 0, .int .i64 0, .int .i64 0] 72 := ⟨⟨_, (show Tryz.prog.info? 121 = some Tryz.t121 by kernel_rfl), rfl, rfl, _, rfl, rfl⟩⟩
theorem st_123 : STy Tryz.prog 123 128 2 := ⟨Tryz.underlying123, Tryz.sizeOf128⟩
theorem un_123 : Tryz.prog.underlying 123 = some (.slice 128) := Tryz.underlying123
theorem us_123 : (Tryz.prog.underlying 123).isSome = true := by rw [un_123]; rfl
theorem ag_123 (w : World) : (isAgg 123).run Tryz.prog w = .ok false w := Tryz.isAgg123 w
theorem sz_123 (w : World) : (sizeOf 123).run Tryz.prog w = .ok 1 w := Tryz.sizeOf123 w
theorem it_123 : ITy Tryz.prog 123 [.slice none 0 0] 24 := ⟨⟨_, (show Tryz.prog.info? 123 = some Tryz.t123 by kernel_rfl), rfl, rfl, _, rfl, rfl⟩⟩
theorem us_124 : (Tryz.prog.underlying 124).isSome = true := by rw [Tryz.underlying124]; rfl
theorem ag_124 (w : World) : (isAgg 124).run Tryz.prog w = .ok true w := Tryz.isAgg124 w
theorem sz_124 (w : World) : (sizeOf 124).run Tryz.prog w = .ok 3 w := Tryz.sizeOf124 w
theorem it_124 : ITy Tryz.prog 124 [.slice none 0 0, .slice none 0 0, .int .i64 0] 56 := ⟨⟨_, (show Tryz.prog.info? 124 = some Tryz.t124 by kernel_rfl), rfl, rfl, _, rfl, rfl⟩⟩
theorem us_125 : (Tryz.prog.underlying 125).isSome = true := by rw [Tryz.underlying125]; rfl
theorem ag_125 (w : World) : (isAgg 125).run Tryz.prog w = .ok true w := Tryz.isAgg125 w
theorem sz_125 (w : World) : (sizeOf 125).run Tryz.prog w = .ok 3 w := Tryz.sizeOf125 w
theorem it_125 : ITy Tryz.prog 125 [.slice none 0 0, .slice none 0 0, .int .i64 0] 56 := ⟨⟨_, (show Tryz.prog.info? 125 = some Tryz.t125 by kernel_rfl), rfl, rfl, _, rfl, rfl⟩⟩
theorem un_126 : Tryz.prog.underlying 126 = some (.int .u8) := Tryz.underlying126
theorem us_126 : (Tryz.prog.underlying 126).isSome = true := by rw [un_126]; rfl
theorem ag_126 (w : World) : (isAgg 126).run Tryz.prog w = .ok false w := Tryz.isAgg126 w
theorem sz_126 (w : World) : (sizeOf 126).run Tryz.prog w = .ok 1 w := Tryz.sizeOf126 w
theorem it_126 : ITy Tryz.prog 126 [.int .u8 0] 1 := ⟨⟨_, (show Tryz.prog.info? 126 = some Tryz.t126 by kernel_rfl), rfl, rfl, _, rfl, rfl⟩⟩
theorem us_127 : (Tryz.prog.underlying 127).isSome = true := by rw [Tryz.underlying127]; rfl
theorem ag_127 (w : World) : (isAgg 127).run Tryz.prog w = .ok true w := Tryz.isAgg127 w
theorem sz_127 (w : World) : (sizeOf 127).run Tryz.prog w = .ok 2 w := Tryz.sizeOf127 w
theorem it_127 : ITy Tryz.prog 127 [.int .u8 0, .int .i64 0] 16 := ⟨⟨_, (show Tryz.prog.info? 127 = some Tryz.t127 by kernel_rfl), rfl, rfl, _, rfl, rfl⟩⟩
theorem us_128 : (Tryz.prog.underlying 128).isSome = true := by rw [Tryz.underlying128]; rfl
theorem ag_128 (w : World) : (isAgg 128).run Tryz.prog w = .ok true w := Tryz.isAgg128 w
theorem sz_128 (w : World) : (sizeOf 128).run Tryz.prog w = .ok 2 w := Tryz.sizeOf128 w
theorem it_128 : ITy Tryz.prog 128 [.int .u8 0, .int .i64 0] 16 := ⟨⟨_, (show Tryz.prog.info? 128 = some Tryz.t128 by kernel_rfl), rfl, rfl, _, rfl, rfl⟩⟩
theorem st_130 : STy Tryz.prog 130 134 3 := ⟨Tryz.underlying130, Tryz.sizeOf134⟩
theorem un_130 : Tryz.prog.underlying 130 = some (.slice 134) := Tryz.underlying130
theorem us_130 : (Tryz.prog.underlying 130).isSome = true := by rw [un_130]; rfl
theorem ag_130 (w : World) : (isAgg 130).run Tryz.prog w = .ok false w := Tryz.isAgg130 w
theorem sz_130 (w : World) : (sizeOf 130).run Tryz.prog w = .ok 1 w := Tryz.sizeOf130 w
theorem it_130 : ITy Tryz.prog 130 [.slice none 0 0] 24 := ⟨⟨_, (show Tryz.prog.info? 130 = some Tryz.t130 by kernel_rfl), rfl, rfl, _, rfl, rfl⟩⟩
theorem us_131 : (Tryz.prog.underlying 131).isSome = true := by rw [Tryz.underlying131]; rfl
theorem ag_131 (w : World) : (isAgg 131).run Tryz.prog w = .ok true w := Tryz.isAgg131 w
theorem sz_131 (w : World) : (sizeOf 131).run Tryz.prog w = .ok 3 w := Tryz.sizeOf131 w
theorem it_131 : ITy Tryz.prog 131 [.slice none 0 0, .slice none 0 0, .int .i64 0] 56 := ⟨⟨_, (show Tryz.prog.info? 131 = some Tryz.t131 by kernel_rfl), rfl, rfl, _, rfl, rfl⟩⟩
theorem us_132 : (Tryz.prog.underlying 132).isSome = true := by rw [Tryz.underlying132]; rfl
theorem ag_132 (w : World) : (isAgg 132).run Tryz.prog w = .ok true w := Tryz.isAgg132 w
theorem sz_132 (w : World) : (sizeOf 132).run Tryz.prog w = .ok 3 w := Tryz.sizeOf132 w
theorem it_132 : ITy Tryz.prog 132 [.slice none 0 0, .slice none 0 0, .int .i64 0] 56 := ⟨⟨_, (show Tryz.prog.info? 132 = some Tryz.t132 by kernel_rfl), rfl, rfl, _, rfl, rfl⟩⟩
theorem us_133 : (Tryz.prog.underlying 133).isSome = true := by rw [Tryz.underlying133]; rfl
theorem ag_133 (w : World) : (isAgg 133).run Tryz.prog w = .ok true w := Tryz.isAgg133 w
theorem sz_133 (w : World) : (sizeOf 133).run Tryz.prog w = .ok 3 w := Tryz.sizeOf133 w
theorem it_133 : ITy Tryz.prog 133 [.int .i64 0, .int .i64 0, .int .i64 0] 24 := ⟨⟨_, (show Tryz.prog.info? 133 = some Tryz.t133 by kernel_rfl), rfl, rfl, _, rfl, rfl⟩⟩
theorem us_134 : (Tryz.prog.underlying 134).isSome = true := by rw [Tryz.underlying134]; rfl
theorem ag_134 (w : World) : (isAgg 134).run Tryz.prog w = .ok true w := Tryz.isAgg134 w
theorem sz_134 (w : World) : (sizeOf 134).run Tryz.prog w = .ok 3 w := Tryz.sizeOf134 w
theorem it_134 : ITy Tryz.prog 134 [.int .i64 0, .int .i64 0, .int .i64 0] 24 := ⟨⟨_, (show Tryz.prog.info? 134 = some Tryz.t134 by kernel_rfl), rfl, rfl, _, rfl, rfl⟩⟩
theorem st_136 : STy Tryz.prog 136 140 3 := ⟨Tryz.underlying136, Tryz.sizeOf140⟩
theorem un_136 : Tryz.prog.underlying 136 = some (.slice 140) := Tryz.underlying136
theorem us_136 : (Tryz.prog.underlying 136).isSome = true := by rw [un_136]; rfl
theorem ag_136 (w : World) : (isAgg 136).run Tryz.prog w = .ok false w := Tryz.isAgg136 w
theorem sz_136 (w : World) : (sizeOf 136).run Tryz.prog w = .ok 1 w := Tryz.sizeOf136 w
theorem it_136 : ITy Tryz.prog 136 [.slice none 0 0] 24 := ⟨⟨_, (show Tryz.prog.info? 136 = some Tryz.t136 by kernel_rfl), rfl, rfl, _, rfl, rfl⟩⟩
theorem us_137 : (Tryz.prog.underlying 137).isSome = true := by rw [Tryz.underlying137]; rfl
theorem ag_137 (w : World) : (isAgg 137).run Tryz.prog w = .ok true w := Tryz.isAgg137 w
theorem sz_137 (w : World) : (sizeOf 137).run Tryz.prog w = .ok 3 w := Tryz.sizeOf137 w
theorem it_137 : ITy Tryz.prog 137 [.slice none 0 0, .slice none 0 0, .int .i64 0] 56 := ⟨⟨_, (show Tryz.prog.info? 137 = some Tryz.t137 by kernel_rfl), rfl, rfl, _, rfl, rfl⟩⟩
theorem us_138 : (Tryz.prog.underlying 138).isSome = true := by rw [Tryz.underlying138]; rfl
theorem ag_138 (w : World) : (isAgg 138).run Tryz.prog w = .ok true w := Tryz.isAgg138 w
theorem sz_138 (w : World) : (sizeOf 138).run Tryz.prog w = .ok 3 w := Tryz.sizeOf138 w
theorem it_138 : ITy Tryz.prog 138 [.slice none 0 0, .slice none 0 0, .int .i64 0] 56 := ⟨⟨_, (show Tryz.prog.info? 138 = some Tryz.t138 by kernel_rfl), rfl, rfl, _, rfl, rfl⟩⟩
theorem us_139 : (Tryz.prog.underlying 139).isSome = true := by rw [Tryz.underlying139]; rfl
theorem ag_139 (w : World) : (isAgg 139).run Tryz.prog w = .ok true w := Tryz.isAgg139 w
theorem sz_139 (w : World) : (sizeOf 139).run Tryz.prog w = .ok 3 w := Tryz.sizeOf139 w
theorem it_139 : ITy Tryz.prog 139 [.int .u32 0, .slice none 0 0, .slice none 0 0] 56 := ⟨⟨_, (show Tryz.prog.info? 139 = some Tryz.t139 by kernel_rfl), rfl, rfl, _, rfl, rfl⟩⟩
theorem us_140 : (Tryz.prog.underlying 140).isSome = true := by rw [Tryz.underlying140]; rfl
theorem ag_140 (w : World) : (isAgg 140).run Tryz.prog w = .ok true w := Tryz.isAgg140 w
theorem sz_140 (w : World) : (sizeOf 140).run Tryz.prog w = .ok 3 w := Tryz.sizeOf140 w
theorem it_140 : ITy Tryz.prog 140 [.int .u32 0, .slice none 0 0, .slice none 0 0] 56 := ⟨⟨_, (show Tryz.prog.info? 140 = some Tryz.t140 by kernel_rfl), rfl, rfl, _, rfl, rfl⟩⟩
theorem st_142 : STy Tryz.prog 142 146 3 := ⟨Tryz.underlying142, Tryz.sizeOf146⟩
theorem un_142 : Tryz.prog.underlying 142 = some (.slice 146) := Tryz.underlying142
theorem us_142 : (Tryz.prog.underlying 142).isSome = true := by rw [un_142]; rfl
theorem ag_142 (w : World) : (isAgg 142).run Tryz.prog w = .ok false w := Tryz.isAgg142 w
theorem sz_142 (w : World) : (sizeOf 142).run Tryz.prog w = .ok 1 w := Tryz.sizeOf142 w
theorem it_142 : ITy Tryz.prog 142 [.slice none 0 0] 24 := ⟨⟨_, (show Tryz.prog.info? 142 = some Tryz.t142 by kernel_rfl), rfl, rfl, _, rfl, rfl⟩⟩
theorem us_143 : (Tryz.prog.underlying 143).isSome = true := by rw [Tryz.underlying143]; rfl
theorem ag_143 (w : World) : (isAgg 143).run Tryz.prog w = .ok true w := Tryz.isAgg143 w
theorem sz_143 (w : World) : (sizeOf 143).run Tryz.prog w = .ok 3 w := Tryz.sizeOf143 w
theorem it_143 : ITy Tryz.prog 143 [.slice none 0 0, .slice none 0 0, .int .i64 0] 56 := ⟨⟨_, (show Tryz.prog.info? 143 = some Tryz.t143 by kernel_rfl), rfl, rfl, _, rfl, rfl⟩⟩
theorem us_144 : (Tryz.prog.underlying 144).isSome = true := by rw [Tryz.underlying144]; rfl
theorem ag_144 (w : World) : (isAgg 144).run Tryz.prog w = .ok true w := Tryz.isAgg144 w
theorem sz_144 (w : World) : (sizeOf 144).run Tryz.prog w = .ok 3 w := Tryz.sizeOf144 w
theorem it_144 : ITy Tryz.prog 144 [.slice none 0 0, .slice none 0 0, .int .i64 0] 56 := ⟨⟨_, (show Tryz.prog.info? 144 = some Tryz.t144 by kernel_rfl), rfl, rfl, _, rfl, rfl⟩⟩
theorem us_145 : (Tryz.prog.underlying 145).isSome = true := by rw [Tryz.underlying145]; rfl
theorem ag_145 (w : World) : (isAgg 145).run Tryz.prog w = .ok true w := Tryz.isAgg145 w
theorem sz_145 (w : World) : (sizeOf 145).run Tryz.prog w = .ok 3 w := Tryz.sizeOf145 w
theorem it_145 : ITy Tryz.prog 145 [.int .u32 0, .int .u32 0, .slice none 0 0] 32 := ⟨⟨_, (show Tryz.prog.info? 145 = some Tryz.t145 by kernel_rfl), rfl, rfl, _, rfl, rfl⟩⟩
theorem us_146 : (Tryz.prog.underlying 146).isSome = true := by rw [Tryz.underlying146]; rfl
theorem ag_146 (w : World) : (isAgg 146).run Tryz.prog w = .ok true w := Tryz.isAgg146 w
theorem sz_146 (w : World) : (sizeOf 146).run Tryz.prog w = .ok 3 w := Tryz.sizeOf146 w
theorem it_146 : ITy Tryz.prog 146 [.int .u32 0, .int .u32 0, .slice none 0 0] 32 := ⟨⟨_, (show Tryz.prog.info? 146 = some Tryz.t146 by kernel_rfl), rfl, rfl, _, rfl, rfl⟩⟩
theorem st_148 : STy Tryz.prog 148 152 4 := ⟨Tryz.underlying148, Tryz.sizeOf152⟩
theorem un_148 : Tryz.prog.underlying 148 = some (.slice 152) := Tryz.underlying148
theorem us_148 : (Tryz.prog.underlying 148).isSome = true := by rw [un_148]; rfl
theorem ag_148 (w : World) : (isAgg 148).run Tryz.prog w = .ok false w := Tryz.isAgg148 w
theorem sz_148 (w : World) : (sizeOf 148).run Tryz.prog w = .ok 1 w := Tryz.sizeOf148 w
theorem it_148 : ITy Tryz.prog 148 [.slice none 0 0] 24 := ⟨⟨_, (show Tryz.prog.info? 148 = some Tryz.t148 by kernel_rfl), rfl, rfl, _, rfl, rfl⟩⟩
theorem us_149 : (Tryz.prog.underlying 149).isSome = true := by rw [Tryz.underlying149]; rfl
theorem ag_149 (w : World) : (isAgg 149).run Tryz.prog w = .ok true w := Tryz.isAgg149 w
theorem sz_149 (w : World) : (sizeOf 149).run Tryz.prog w = .ok 3 w := Tryz.sizeOf149 w
theorem it_149 : ITy Tryz.prog 149 [.slice none 0 0, .slice none 0 0, .int .i64 0] 56 := ⟨⟨_, (show Tryz.prog.info? 149 = some Tryz.t149 by kernel_rfl), rfl, rfl, _, rfl, rfl⟩⟩
theorem us_150 : (Tryz.prog.underlying 150).isSome = true := by rw [Tryz.underlying150]; rfl
theorem ag_150 (w : World) : (isAgg 150).run Tryz.prog w = .ok true w := Tryz.isAgg150 w
theorem sz_150 (w : World) : (sizeOf 150).run Tryz.prog w = .ok 3 w := Tryz.sizeOf150 w
theorem it_150 : ITy Tryz.prog 150 [.slice none 0 0, .slice none 0 0, .int .i64 0] 56 := ⟨⟨_, (show Tryz.prog.info? 150 = some Tryz.t150 by kernel_rfl), rfl, rfl, _, rfl, rfl⟩⟩
theorem us_151 : (Tryz.prog.underlying 151).isSome = true := by rw [Tryz.underlying151]; rfl
theorem ag_151 (w : World) : (isAgg 151).run Tryz.prog w = .ok true w := Tryz.isAgg151 w
theorem sz_151 (w : World) : (sizeOf 151).run Tryz.prog w = .ok 4 w := Tryz.sizeOf151 w
theorem it_151 : ITy Tryz.prog 151 [.int .u32 0, .bool false, .int .u32 0, .slice none 0 0] 40 := ⟨⟨_, (show Tryz.prog.info? 151 = some Tryz.t151 by kernel_rfl), rfl, rfl, _, rfl, rfl⟩⟩
theorem us_152 : (Tryz.prog.underlying 152).isSome = true := by rw [Tryz.underlying152]; rfl
theorem ag_152 (w : World) : (isAgg 152).run Tryz.prog w = .ok true w := Tryz.isAgg152 w
theorem sz_152 (w : World) : (sizeOf 152).run Tryz.prog w = .ok 4 w := Tryz.sizeOf152 w
theorem it_152 : ITy Tryz.prog 152 [.int .u32 0, .bool false, .int .u32 0, .slice none 0 0] 40 := ⟨⟨_, (show Tryz.prog.info? 152 = some Tryz.t152 by kernel_rfl), rfl, rfl, _, rfl, rfl⟩⟩
theorem st_154 : STy Tryz.prog 154 158 3 := ⟨Tryz.underlying154, Tryz.sizeOf158⟩
theorem un_154 : Tryz.prog.underlying 154 = some (.slice 158) := Tryz.underlying154
theorem us_154 : (Tryz.prog.underlying 154).isSome = true := by rw [un_154]; rfl
theorem ag_154 (w : World) : (isAgg 154).run Tryz.prog w = .ok false w := Tryz.isAgg154 w
theorem sz_154 (w : World) : (sizeOf 154).run Tryz.prog w = .ok 1 w := Tryz.sizeOf154 w
theorem it_154 : ITy Tryz.prog 154 [.slice none 0 0] 24 := ⟨⟨_, (show Tryz.prog.info? 154 = some Tryz.t154 by kernel_rfl), rfl, rfl, _, rfl, rfl⟩⟩
theorem us_155 : (Tryz.prog.underlying 155).isSome = true := by rw [Tryz.underlying155]; rfl
theorem ag_155 (w : World) : (isAgg 155).run Tryz.prog w = .ok true w := Tryz.isAgg155 w
theorem sz_155 (w : World) : (sizeOf 155).run Tryz.prog w = .ok 3 w := Tryz.sizeOf155 w
theorem it_155 : ITy Tryz.prog 155 [.slice none 0 0, .slice none 0 0, .int .i64 0] 56 := ⟨⟨_, (show Tryz.prog.info? 155 = some Tryz.t155 by kernel_rfl), rfl, rfl, _, rfl, rfl⟩⟩
theorem us_156 : (Tryz.prog.underlying 156).isSome = true := by rw [Tryz.underlying156]; rfl
theorem ag_156 (w : World) : (isAgg 156).run Tryz.prog w = .ok true w := Tryz.isAgg156 w
theorem sz_156 (w : World) : (sizeOf 156).run Tryz.prog w = .ok 3 w := Tryz.sizeOf156 w
theorem it_156 : ITy Tryz.prog 156 [.slice none 0 0, .slice none 0 0, .int .i64 0] 56 := ⟨⟨_, (show Tryz.prog.info? 156 = some Tryz.t156 by kernel_rfl), rfl, rfl, _, rfl, rfl⟩⟩
theorem us_157 : (Tryz.prog.underlying 157).isSome = true := by rw [Tryz.underlying157]; rfl
theorem ag_157 (w : World) : (isAgg 157).run Tryz.prog w = .ok true w := Tryz.isAgg157 w
theorem sz_157 (w : World) : (sizeOf 157).run Tryz.prog w = .ok 3 w := Tryz.sizeOf157 w
theorem it_157 : ITy Tryz.prog 157 [.int .u32 0, .int .i64 0, .slice none 0 0] 40 := ⟨⟨_, (show Tryz.prog.info? 157 = some Tryz.t157 by kernel_rfl), rfl, rfl, _, rfl, rfl⟩⟩
theorem us_158 : (Tryz.prog.underlying 158).isSome = true := by rw [Tryz.underlying158]; rfl
theorem ag_158 (w : World) : (isAgg 158).run Tryz.prog w = .ok true w := Tryz.isAgg158 w
theorem sz_158 (w : World) : (sizeOf 158).run Tryz.prog w = .ok 3 w := Tryz.sizeOf158 w
theorem it_158 : ITy Tryz.prog 158 [.int .u32 0, .int .i64 0, .slice none 0 0] 40 := ⟨⟨_, (show Tryz.prog.info? 158 = some Tryz.t158 by kernel_rfl), rfl, rfl, _, rfl, rfl⟩⟩
theorem us_160 : (Tryz.prog.underlying 160).isSome = true := by rw [Tryz.underlying160]; rfl
theorem ag_160 (w : World) : (isAgg 160).run Tryz.prog w = .ok true w := Tryz.isAgg160 w
theorem sz_160 (w : World) : (sizeOf 160).run Tryz.prog w = .ok 3 w := Tryz.sizeOf160 w
theorem it_160 : ITy Tryz.prog 160 [.slice none 0 0, .slice none 0 0, .int .i64 0] 56 := ⟨⟨_, (show Tryz.prog.info? 160 = some Tryz.t160 by kernel_rfl), rfl, rfl, _, rfl, rfl⟩⟩
theorem us_161 : (Tryz.prog.underlying 161).isSome = true := by rw [Tryz.underlying161]; rfl
theorem ag_161 (w : World) : (isAgg 161).run Tryz.prog w = .ok true w := Tryz.isAgg161 w
theorem sz_161 (w : World) : (sizeOf 161).run Tryz.prog w = .ok 3 w := Tryz.sizeOf161 w
theorem it_161 : ITy Tryz.prog 161 [.slice none 0 0, .slice none 0 0, .int .i64 0] 56 := ⟨⟨_, (show Tryz.prog.info? 161 = some Tryz.t161 by kernel_rfl), rfl, rfl, _, rfl, rfl⟩⟩
theorem st_163 : STy Tryz.prog 163 97 1 := ⟨Tryz.underlying163, Tryz.sizeOf97⟩
theorem un_163 : Tryz.prog.underlying 163 = some (.slice 97) := Tryz.underlying163
theorem us_163 : (Tryz.prog.underlying 163).isSome = true := by rw [un_163]; rfl
theorem ag_163 (w : World) : (isAgg 163).run Tryz.prog w = .ok false w := Tryz.isAgg163 w
theorem sz_163 (w : World) : (sizeOf 163).run Tryz.prog w = .ok 1 w := Tryz.sizeOf163 w
theorem it_163 : ITy Tryz.prog 163 [.slice none 0 0] 24 := ⟨⟨_, (show Tryz.prog.info? 163 = some Tryz.t163 by kernel_rfl), rfl, rfl, _, rfl, rfl⟩⟩
theorem us_164 : (Tryz.prog.underlying 164).isSome = true := by rw [Tryz.underlying164]; rfl
theorem ag_164 (w : World) : (isAgg 164).run Tryz.prog w = .ok true w := Tryz.isAgg164 w
theorem sz_164 (w : World) : (sizeOf 164).run Tryz.prog w = .ok 3 w := Tryz.sizeOf164 w
theorem it_164 : ITy Tryz.prog 164 [.slice none 0 0, .slice none 0 0, .int .i64 0] 56 := ⟨⟨_, (show Tryz.prog.info? 164 = some Tryz.t164 by kernel_rfl), rfl, rfl, _, rfl, rfl⟩⟩
theorem us_165 : (Tryz.prog.underlying 165).isSome = true := by rw [Tryz.underlying165]; rfl
theorem ag_165 (w : World) : (isAgg 165).run Tryz.prog w = .ok true w := Tryz.isAgg165 w
theorem sz_165 (w : World) : (sizeOf 165).run Tryz.prog w = .ok 3 w := Tryz.sizeOf165 w
theorem it_165 : ITy Tryz.prog 165 [.slice none 0 0, .slice none 0 0, .int .i64 0] 56 := ⟨⟨_, (show Tryz.prog.info? 165 = some Tryz.t165 by kernel_rfl), rfl, rfl, _, rfl, rfl⟩⟩
theorem us_168 : (Tryz.prog.underlying 168).isSome = true := by rw [Tryz.underlying168]; rfl
theorem ag_168 (w : World) : (isAgg 168).run Tryz.prog w = .ok false w := Tryz.isAgg168 w
theorem sz_168 (w : World) : (sizeOf 168).run Tryz.prog w = .ok 1 w := Tryz.sizeOf168 w
theorem it_168 : ITy Tryz.prog 168 [.nilFunc] 8 := ⟨⟨_, (show Tryz.prog.info? 168 = some Tryz.t168 by kernel_rfl), rfl, rfl, _, rfl, rfl⟩⟩
theorem un_185 : Tryz.prog.underlying 185 = some (.array 24 5) := Tryz.underlying185
theorem us_185 : (Tryz.prog.underlying 185).isSome = true := by rw [un_185]; rfl
theorem ag_185 (w : World) : (isAgg 185).run Tryz.prog w = .ok true w := Tryz.isAgg185 w
theorem sz_185 (w : World) : (sizeOf 185).run Tryz.prog w = .ok 24 w := Tryz.sizeOf185 w
theorem un_186 : Tryz.prog.underlying 186 = some (.int .u64) := Tryz.underlying186
theorem us_186 : (Tryz.prog.underlying 186).isSome = true := by rw [un_186]; rfl
theorem ag_186 (w : World) : (isAgg 186).run Tryz.prog w = .ok false w := Tryz.isAgg186 w
theorem sz_186 (w : World) : (sizeOf 186).run Tryz.prog w = .ok 1 w := Tryz.sizeOf186 w
theorem it_186 : ITy Tryz.prog 186 [.int .u64 0] 8 := ⟨⟨_, (show Tryz.prog.info? 186 = some Tryz.t186 by kernel_rfl), rfl, rfl, _, rfl, rfl⟩⟩
theorem un_192 : Tryz.prog.underlying 192 = some (.array 20 186) := Tryz.underlying192
theorem us_192 : (Tryz.prog.underlying 192).isSome = true := by rw [un_192]; rfl
theorem ag_192 (w : World) : (isAgg 192).run Tryz.prog w = .ok true w := Tryz.isAgg192 w
theorem sz_192 (w : World) : (sizeOf 192).run Tryz.prog w = .ok 20 w := Tryz.sizeOf192 w
theorem un_193 : Tryz.prog.underlying 193 = some (.array 65 5) := Tryz.underlying193
theorem us_193 : (Tryz.prog.underlying 193).isSome = true := by rw [un_193]; rfl
theorem ag_193 (w : World) : (isAgg 193).run Tryz.prog w = .ok true w := Tryz.isAgg193 w
theorem sz_193 (w : World) : (sizeOf 193).run Tryz.prog w = .ok 65 w := Tryz.sizeOf193 w
theorem un_195 : Tryz.prog.underlying 195 = some (.int .u64) := Tryz.underlying195
theorem us_195 : (Tryz.prog.underlying 195).isSome = true := by rw [un_195]; rfl
theorem ag_195 (w : World) : (isAgg 195).run Tryz.prog w = .ok false w := Tryz.isAgg195 w
theorem sz_195 (w : World) : (sizeOf 195).run Tryz.prog w = .ok 1 w := Tryz.sizeOf195 w
theorem it_195 : ITy Tryz.prog 195 [.int .u64 0] 8 := ⟨⟨_, (show Tryz.prog.info? 195 = some Tryz.t195 by kernel_rfl), rfl, rfl, _, rfl, rfl⟩⟩
theorem un_198 : Tryz.prog.underlying 198 = some (.array 32 5) := Tryz.underlying198
theorem us_198 : (Tryz.prog.underlying 198).isSome = true := by rw [un_198]; rfl
theorem ag_198 (w : World) : (isAgg 198).run Tryz.prog w = .ok true w := Tryz.isAgg198 w
theorem sz_198 (w : World) : (sizeOf 198).run Tryz.prog w = .ok 32 w := Tryz.sizeOf198 w
theorem un_199 : Tryz.prog.underlying 199 = some (.array 64 5) := Tryz.underlying199
theorem us_199 : (Tryz.prog.underlying 199).isSome = true := by rw [un_199]; rfl
theorem ag_199 (w : World) : (isAgg 199).run Tryz.prog w = .ok true w := Tryz.isAgg199 w
theorem sz_199 (w : World) : (sizeOf 199).run Tryz.prog w = .ok 64 w := Tryz.sizeOf199 w
theorem us_201 : (Tryz.prog.underlying 201).isSome = true := by rw [Tryz.underlying201]; rfl
theorem ag_201 (w : World) : (isAgg 201).run Tryz.prog w = .ok true w := Tryz.isAgg201 w
theorem sz_201 (w : World) : (sizeOf 201).run Tryz.prog w = .ok 4 w := Tryz.sizeOf201 w
theorem it_201 : ITy Tryz.prog 201 [.pointer none, .pointer none, .pointer none, .string ⟨#[]⟩] 40 := ⟨⟨_, (show Tryz.prog.info? 201 = some Tryz.t201 by kernel_rfl), rfl, rfl, _, rfl, rfl⟩⟩
theorem us_202 : (Tryz.prog.underlying 202).isSome = true := by rw [Tryz.underlying202]; rfl
theorem ag_202 (w : World) : (isAgg 202).run Tryz.prog w = .ok true w := Tryz.isAgg202 w
theorem sz_202 (w : World) : (sizeOf 202).run Tryz.prog w = .ok 4 w := Tryz.sizeOf202 w
theorem it_202 : ITy Tryz.prog 202 [.pointer none, .pointer none, .pointer none, .string ⟨#[]⟩] 40 := ⟨⟨_, (show Tryz.prog.info? 202 = some Tryz.t202 by kernel_rfl), rfl, rfl, _, rfl, rfl⟩⟩
theorem un_203 : Tryz.prog.underlying 203 = some (.array 0 16) := Tryz.underlying203
theorem us_203 : (Tryz.prog.underlying 203).isSome = true := by rw [un_203]; rfl
theorem ag_203 (w : World) : (isAgg 203).run Tryz.prog w = .ok true w := Tryz.isAgg203 w
theorem sz_203 (w : World) : (sizeOf 203).run Tryz.prog w = .ok 0 w := Tryz.sizeOf203 w
theorem it_203 : ITy Tryz.prog 203 [] 0 := ⟨⟨_, (show Tryz.prog.info? 203 = some Tryz.t203 by kernel_rfl), rfl, rfl, _, rfl, rfl⟩⟩
theorem us_204 : (Tryz.prog.underlying 204).isSome = true := by rw [Tryz.underlying204]; rfl
theorem ag_204 (w : World) : (isAgg 204).run Tryz.prog w = .ok true w := Tryz.isAgg204 w
theorem sz_204 (w : World) : (sizeOf 204).run Tryz.prog w = .ok 0 w := Tryz.sizeOf204 w
theorem it_204 : ITy Tryz.prog 204 [] 0 := ⟨⟨_, (show Tryz.prog.info? 204 = some Tryz.t204 by kernel_rfl), rfl, rfl, _, rfl, rfl⟩⟩
theorem us_205 : (Tryz.prog.underlying 205).isSome = true := by rw [Tryz.underlying205]; rfl
theorem ag_205 (w : World) : (isAgg 205).run Tryz.prog w = .ok true w := Tryz.isAgg205 w
theorem sz_205 (w : World) : (sizeOf 205).run Tryz.prog w = .ok 0 w := Tryz.sizeOf205 w
theorem it_205 : ITy Tryz.prog 205 [] 0 := ⟨⟨_, (show Tryz.prog.info? 205 = some Tryz.t205 by kernel_rfl), rfl, rfl, _, rfl, rfl⟩⟩
theorem un_206 : Tryz.prog.underlying 206 = some (.int .u8) := Tryz.underlying206
theorem us_206 : (Tryz.prog.underlying 206).isSome = true := by rw [un_206]; rfl
theorem ag_206 (w : World) : (isAgg 206).run Tryz.prog w = .ok false w := Tryz.isAgg206 w
theorem sz_206 (w : World) : (sizeOf 206).run Tryz.prog w = .ok 1 w := Tryz.sizeOf206 w
theorem it_206 : ITy Tryz.prog 206 [.int .u8 0] 1 := ⟨⟨_, (show Tryz.prog.info? 206 = some Tryz.t206 by kernel_rfl), rfl, rfl, _, rfl, rfl⟩⟩
theorem un_207 : Tryz.prog.underlying 207 = some (.int .u8) := Tryz.underlying207
theorem us_207 : (Tryz.prog.underlying 207).isSome = true := by rw [un_207]; rfl
theorem ag_207 (w : World) : (isAgg 207).run Tryz.prog w = .ok false w := Tryz.isAgg207 w
theorem sz_207 (w : World) : (sizeOf 207).run Tryz.prog w = .ok 1 w := Tryz.sizeOf207 w
theorem it_207 : ITy Tryz.prog 207 [.int .u8 0] 1 := ⟨⟨_, (show Tryz.prog.info? 207 = some Tryz.t207 by kernel_rfl), rfl, rfl, _, rfl, rfl⟩⟩
theorem us_208 : (Tryz.prog.underlying 208).isSome = true := by rw [Tryz.underlying208]; rfl
theorem ag_208 (w : World) : (isAgg 208).run Tryz.prog w = .ok false w := Tryz.isAgg208 w
theorem sz_208 (w : World) : (sizeOf 208).run Tryz.prog w = .ok 1 w := Tryz.sizeOf208 w
theorem it_208 : ITy Tryz.prog 208 [.nilFunc] 8 := ⟨⟨_, (show Tryz.prog.info? 208 = some Tryz.t208 by kernel_rfl), rfl, rfl, _, rfl, rfl⟩⟩
theorem un_209 : Tryz.prog.underlying 209 = some (.pointer 5) := Tryz.underlying209
theorem us_209 : (Tryz.prog.underlying 209).isSome = true := by rw [un_209]; rfl
theorem ag_209 (w : World) : (isAgg 209).run Tryz.prog w = .ok false w := Tryz.isAgg209 w
theorem sz_209 (w : World) : (sizeOf 209).run Tryz.prog w = .ok 1 w := Tryz.sizeOf209 w
theorem it_209 : ITy Tryz.prog 209 [.pointer none] 8 := ⟨⟨_, (show Tryz.prog.info? 209 = some Tryz.t209 by kernel_rfl), rfl, rfl, _, rfl, rfl⟩⟩
theorem un_210 : Tryz.prog.underlying 210 = some (.int .i32) := Tryz.underlying210
theorem us_210 : (Tryz.prog.underlying 210).isSome = true := by rw [un_210]; rfl
theorem ag_210 (w : World) : (isAgg 210).run Tryz.prog w = .ok false w := Tryz.isAgg210 w
theorem sz_210 (w : World) : (sizeOf 210).run Tryz.prog w = .ok 1 w := Tryz.sizeOf210 w
theorem it_210 : ITy Tryz.prog 210 [.int .i32 0] 4 := ⟨⟨_, (show Tryz.prog.info? 210 = some Tryz.t210 by kernel_rfl), rfl, rfl, _, rfl, rfl⟩⟩
theorem un_211 : Tryz.prog.underlying 211 = some (.int .i32) := Tryz.underlying211
theorem us_211 : (Tryz.prog.underlying 211).isSome = true := by rw [un_211]; rfl
theorem ag_211 (w : World) : (isAgg 211).run Tryz.prog w = .ok false w := Tryz.isAgg211 w
theorem sz_211 (w : World) : (sizeOf 211).run Tryz.prog w = .ok 1 w := Tryz.sizeOf211 w
theorem it_211 : ITy Tryz.prog 211 [.int .i32 0] 4 := ⟨⟨_, (show Tryz.prog.info? 211 = some Tryz.t211 by kernel_rfl), rfl, rfl, _, rfl, rfl⟩⟩
theorem us_212 : (Tryz.prog.underlying 212).isSome = true := by rw [Tryz.underlying212]; rfl
theorem ag_212 (w : World) : (isAgg 212).run Tryz.prog w = .ok true w := Tryz.isAgg212 w
theorem sz_212 (w : World) : (sizeOf 212).run Tryz.prog w = .ok 11 w := Tryz.sizeOf212 w
theorem it_212 : ITy Tryz.prog 212 [.int .u64 0, .int .u64 0, .int .u32 0, .int .u8 0, .int .u8 0, .int .u8 0, .int .u8 0, .nilFunc, .pointer none, .int .i32 0, .int .i32 0] 48 := ⟨⟨_, (show Tryz.prog.info? 212 = some Tryz.t212 by kernel_rfl), rfl, rfl, _, rfl, rfl⟩⟩
theorem us_213 : (Tryz.prog.underlying 213).isSome = true := by rw [Tryz.underlying213]; rfl
theorem ag_213 (w : World) : (isAgg 213).run Tryz.prog w = .ok true w := Tryz.isAgg213 w
theorem sz_213 (w : World) : (sizeOf 213).run Tryz.prog w = .ok 11 w := Tryz.sizeOf213 w
theorem it_213 : ITy Tryz.prog 213 [.int .u64 0, .int .u64 0, .int .u32 0, .int .u8 0, .int .u8 0, .int .u8 0, .int .u8 0, .nilFunc, .pointer none, .int .i32 0, .int .i32 0] 48 := ⟨⟨_, (show Tryz.prog.info? 213 = some Tryz.t213 by kernel_rfl), rfl, rfl, _, rfl, rfl⟩⟩
end Go.Proofs.YtkhndfaampkbnaaGreatDoor
