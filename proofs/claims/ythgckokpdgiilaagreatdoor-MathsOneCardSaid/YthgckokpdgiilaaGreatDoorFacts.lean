/- Closed facts on the types of this seat: printed by a program of ours. -/
import Derived.Test.YthgckokpdgiilaaGreatDoorReg
import Derived.Test.YthgckokpdgiilaaGreatDoorProg
namespace Go.Proofs.YthgckokpdgiilaaGreatDoor
open Go Go.Dd
set_option maxRecDepth 100000

theorem mixed : Tryz.prog.follows .mixedOrders = true := by kernel_rfl
theorem us_1 : (Tryz.prog.underlying 1).isSome = true := by rw [Tryz.underlying1]; rfl
theorem ag_1 (w : World) : (isAgg 1).run Tryz.prog w = .ok false w := Tryz.isAgg1 w
theorem sz_1 (w : World) : (sizeOf 1).run Tryz.prog w = .ok 1 w := Tryz.sizeOf1 w
theorem it_1 : ITy Tryz.prog 1 [.nilFunc] 8 := ⟨⟨_, (show Tryz.prog.info? 1 = some Tryz.t1 by kernel_rfl), rfl, rfl, _, rfl, rfl⟩⟩
theorem un_2 : Tryz.prog.underlying 2 = some (.int .i64) := Tryz.underlying2
theorem us_2 : (Tryz.prog.underlying 2).isSome = true := by rw [un_2]; rfl
theorem ag_2 (w : World) : (isAgg 2).run Tryz.prog w = .ok false w := Tryz.isAgg2 w
theorem sz_2 (w : World) : (sizeOf 2).run Tryz.prog w = .ok 1 w := Tryz.sizeOf2 w
theorem it_2 : ITy Tryz.prog 2 [.int .i64 0] 8 := ⟨⟨_, (show Tryz.prog.info? 2 = some Tryz.t2 by kernel_rfl), rfl, rfl, _, rfl, rfl⟩⟩
theorem un_3 : Tryz.prog.underlying 3 = some (.int .i64) := Tryz.underlying3
theorem us_3 : (Tryz.prog.underlying 3).isSome = true := by rw [un_3]; rfl
theorem ag_3 (w : World) : (isAgg 3).run Tryz.prog w = .ok false w := Tryz.isAgg3 w
theorem sz_3 (w : World) : (sizeOf 3).run Tryz.prog w = .ok 1 w := Tryz.sizeOf3 w
theorem it_3 : ITy Tryz.prog 3 [.int .i64 0] 8 := ⟨⟨_, (show Tryz.prog.info? 3 = some Tryz.t3 by kernel_rfl), rfl, rfl, _, rfl, rfl⟩⟩
theorem un_4 : Tryz.prog.underlying 4 = some (.bool) := Tryz.underlying4
theorem us_4 : (Tryz.prog.underlying 4).isSome = true := by rw [un_4]; rfl
theorem ag_4 (w : World) : (isAgg 4).run Tryz.prog w = .ok false w := Tryz.isAgg4 w
theorem sz_4 (w : World) : (sizeOf 4).run Tryz.prog w = .ok 1 w := Tryz.sizeOf4 w
theorem it_4 : ITy Tryz.prog 4 [.bool false] 1 := ⟨⟨_, (show Tryz.prog.info? 4 = some Tryz.t4 by kernel_rfl), rfl, rfl, _, rfl, rfl⟩⟩
theorem un_5 : Tryz.prog.underlying 5 = some (.int .u8) := Tryz.underlying5
theorem us_5 : (Tryz.prog.underlying 5).isSome = true := by rw [un_5]; rfl
theorem ag_5 (w : World) : (isAgg 5).run Tryz.prog w = .ok false w := Tryz.isAgg5 w
theorem sz_5 (w : World) : (sizeOf 5).run Tryz.prog w = .ok 1 w := Tryz.sizeOf5 w
theorem it_5 : ITy Tryz.prog 5 [.int .u8 0] 1 := ⟨⟨_, (show Tryz.prog.info? 5 = some Tryz.t5 by kernel_rfl), rfl, rfl, _, rfl, rfl⟩⟩
theorem un_6 : Tryz.prog.underlying 6 = some (.int .u8) := Tryz.underlying6
theorem us_6 : (Tryz.prog.underlying 6).isSome = true := by rw [un_6]; rfl
theorem ag_6 (w : World) : (isAgg 6).run Tryz.prog w = .ok false w := Tryz.isAgg6 w
theorem sz_6 (w : World) : (sizeOf 6).run Tryz.prog w = .ok 1 w := Tryz.sizeOf6 w
theorem it_6 : ITy Tryz.prog 6 [.int .u8 0] 1 := ⟨⟨_, (show Tryz.prog.info? 6 = some Tryz.t6 by kernel_rfl), rfl, rfl, _, rfl, rfl⟩⟩
theorem us_7 : (Tryz.prog.underlying 7).isSome = true := by rw [Tryz.underlying7]; rfl
theorem ag_7 (w : World) : (isAgg 7).run Tryz.prog w = .ok true w := Tryz.isAgg7 w
theorem sz_7 (w : World) : (sizeOf 7).run Tryz.prog w = .ok 4 w := Tryz.sizeOf7 w
theorem it_7 : ITy Tryz.prog 7 [.int .i64 0, .int .i64 0, .bool false, .int .u8 0] 24 := ⟨⟨_, (show Tryz.prog.info? 7 = some Tryz.t7 by kernel_rfl), rfl, rfl, _, rfl, rfl⟩⟩
theorem us_8 : (Tryz.prog.underlying 8).isSome = true := by rw [Tryz.underlying8]; rfl
theorem ag_8 (w : World) : (isAgg 8).run Tryz.prog w = .ok true w := Tryz.isAgg8 w
theorem sz_8 (w : World) : (sizeOf 8).run Tryz.prog w = .ok 4 w := Tryz.sizeOf8 w
theorem it_8 : ITy Tryz.prog 8 [.int .i64 0, .int .i64 0, .bool false, .int .u8 0] 24 := ⟨⟨_, (show Tryz.prog.info? 8 = some Tryz.t8 by kernel_rfl), rfl, rfl, _, rfl, rfl⟩⟩
theorem un_9 : Tryz.prog.underlying 9 = some (.string) := Tryz.underlying9
theorem us_9 : (Tryz.prog.underlying 9).isSome = true := by rw [un_9]; rfl
theorem ag_9 (w : World) : (isAgg 9).run Tryz.prog w = .ok false w := Tryz.isAgg9 w
theorem sz_9 (w : World) : (sizeOf 9).run Tryz.prog w = .ok 1 w := Tryz.sizeOf9 w
theorem it_9 : ITy Tryz.prog 9 [.string ⟨#[]⟩] 16 := ⟨⟨_, (show Tryz.prog.info? 9 = some Tryz.t9 by kernel_rfl), rfl, rfl, _, rfl, rfl⟩⟩
theorem un_10 : Tryz.prog.underlying 10 = some (.string) := Tryz.underlying10
theorem us_10 : (Tryz.prog.underlying 10).isSome = true := by rw [un_10]; rfl
theorem ag_10 (w : World) : (isAgg 10).run Tryz.prog w = .ok false w := Tryz.isAgg10 w
theorem sz_10 (w : World) : (sizeOf 10).run Tryz.prog w = .ok 1 w := Tryz.sizeOf10 w
theorem it_10 : ITy Tryz.prog 10 [.string ⟨#[]⟩] 16 := ⟨⟨_, (show Tryz.prog.info? 10 = some Tryz.t10 by kernel_rfl), rfl, rfl, _, rfl, rfl⟩⟩
theorem un_11 : Tryz.prog.underlying 11 = some (.string) := Tryz.underlying11
theorem us_11 : (Tryz.prog.underlying 11).isSome = true := by rw [un_11]; rfl
theorem ag_11 (w : World) : (isAgg 11).run Tryz.prog w = .ok false w := Tryz.isAgg11 w
theorem sz_11 (w : World) : (sizeOf 11).run Tryz.prog w = .ok 1 w := Tryz.sizeOf11 w
theorem it_11 : ITy Tryz.prog 11 [.string ⟨#[]⟩] 16 := ⟨⟨_, (show Tryz.prog.info? 11 = some Tryz.t11 by kernel_rfl), rfl, rfl, _, rfl, rfl⟩⟩
theorem un_12 : Tryz.prog.underlying 12 = some (.int .u64) := Tryz.underlying12
theorem us_12 : (Tryz.prog.underlying 12).isSome = true := by rw [un_12]; rfl
theorem ag_12 (w : World) : (isAgg 12).run Tryz.prog w = .ok false w := Tryz.isAgg12 w
theorem sz_12 (w : World) : (sizeOf 12).run Tryz.prog w = .ok 1 w := Tryz.sizeOf12 w
theorem it_12 : ITy Tryz.prog 12 [.int .u64 0] 8 := ⟨⟨_, (show Tryz.prog.info? 12 = some Tryz.t12 by kernel_rfl), rfl, rfl, _, rfl, rfl⟩⟩
theorem us_13 : (Tryz.prog.underlying 13).isSome = true := by rw [Tryz.underlying13]; rfl
theorem ag_13 (w : World) : (isAgg 13).run Tryz.prog w = .ok true w := Tryz.isAgg13 w
theorem sz_13 (w : World) : (sizeOf 13).run Tryz.prog w = .ok 2 w := Tryz.sizeOf13 w
theorem it_13 : ITy Tryz.prog 13 [.string ⟨#[]⟩, .int .u64 0] 24 := ⟨⟨_, (show Tryz.prog.info? 13 = some Tryz.t13 by kernel_rfl), rfl, rfl, _, rfl, rfl⟩⟩
theorem us_14 : (Tryz.prog.underlying 14).isSome = true := by rw [Tryz.underlying14]; rfl
theorem ag_14 (w : World) : (isAgg 14).run Tryz.prog w = .ok true w := Tryz.isAgg14 w
theorem sz_14 (w : World) : (sizeOf 14).run Tryz.prog w = .ok 2 w := Tryz.sizeOf14 w
theorem it_14 : ITy Tryz.prog 14 [.string ⟨#[]⟩, .int .u64 0] 24 := ⟨⟨_, (show Tryz.prog.info? 14 = some Tryz.t14 by kernel_rfl), rfl, rfl, _, rfl, rfl⟩⟩
theorem un_15 : Tryz.prog.underlying 15 = some (.pointer 186) := Tryz.underlying15
theorem us_15 : (Tryz.prog.underlying 15).isSome = true := by rw [un_15]; rfl
theorem ag_15 (w : World) : (isAgg 15).run Tryz.prog w = .ok false w := Tryz.isAgg15 w
theorem sz_15 (w : World) : (sizeOf 15).run Tryz.prog w = .ok 1 w := Tryz.sizeOf15 w
theorem it_15 : ITy Tryz.prog 15 [.pointer none] 8 := ⟨⟨_, (show Tryz.prog.info? 15 = some Tryz.t15 by kernel_rfl), rfl, rfl, _, rfl, rfl⟩⟩
theorem un_16 : Tryz.prog.underlying 16 = some (.pointer 189) := Tryz.underlying16
theorem us_16 : (Tryz.prog.underlying 16).isSome = true := by rw [un_16]; rfl
theorem ag_16 (w : World) : (isAgg 16).run Tryz.prog w = .ok false w := Tryz.isAgg16 w
theorem sz_16 (w : World) : (sizeOf 16).run Tryz.prog w = .ok 1 w := Tryz.sizeOf16 w
theorem it_16 : ITy Tryz.prog 16 [.pointer none] 8 := ⟨⟨_, (show Tryz.prog.info? 16 = some Tryz.t16 by kernel_rfl), rfl, rfl, _, rfl, rfl⟩⟩
theorem un_17 : Tryz.prog.underlying 17 = some (.pointer 198) := Tryz.underlying17
theorem us_17 : (Tryz.prog.underlying 17).isSome = true := by rw [un_17]; rfl
theorem ag_17 (w : World) : (isAgg 17).run Tryz.prog w = .ok false w := Tryz.isAgg17 w
theorem sz_17 (w : World) : (sizeOf 17).run Tryz.prog w = .ok 1 w := Tryz.sizeOf17 w
theorem it_17 : ITy Tryz.prog 17 [.pointer none] 8 := ⟨⟨_, (show Tryz.prog.info? 17 = some Tryz.t17 by kernel_rfl), rfl, rfl, _, rfl, rfl⟩⟩
theorem us_18 : (Tryz.prog.underlying 18).isSome = true := by rw [Tryz.underlying18]; rfl
theorem ag_18 (w : World) : (isAgg 18).run Tryz.prog w = .ok true w := Tryz.isAgg18 w
theorem sz_18 (w : World) : (sizeOf 18).run Tryz.prog w = .ok 1 w := Tryz.sizeOf18 w
theorem it_18 : ITy Tryz.prog 18 [.pointer none] 8 := ⟨⟨_, (show Tryz.prog.info? 18 = some Tryz.t18 by kernel_rfl), rfl, rfl, _, rfl, rfl⟩⟩
theorem us_19 : (Tryz.prog.underlying 19).isSome = true := by rw [Tryz.underlying19]; rfl
theorem ag_19 (w : World) : (isAgg 19).run Tryz.prog w = .ok true w := Tryz.isAgg19 w
theorem sz_19 (w : World) : (sizeOf 19).run Tryz.prog w = .ok 1 w := Tryz.sizeOf19 w
theorem it_19 : ITy Tryz.prog 19 [.pointer none] 8 := ⟨⟨_, (show Tryz.prog.info? 19 = some Tryz.t19 by kernel_rfl), rfl, rfl, _, rfl, rfl⟩⟩
theorem us_20 : (Tryz.prog.underlying 20).isSome = true := by rw [Tryz.underlying20]; rfl
theorem ag_20 (w : World) : (isAgg 20).run Tryz.prog w = .ok false w := Tryz.isAgg20 w
theorem sz_20 (w : World) : (sizeOf 20).run Tryz.prog w = .ok 1 w := Tryz.sizeOf20 w
theorem it_20 : ITy Tryz.prog 20 [.nilIface] 16 := ⟨⟨_, (show Tryz.prog.info? 20 = some Tryz.t20 by kernel_rfl), rfl, rfl, _, rfl, rfl⟩⟩
theorem un_21 : Tryz.prog.underlying 21 = some (.int .i32) := Tryz.underlying21
theorem us_21 : (Tryz.prog.underlying 21).isSome = true := by rw [un_21]; rfl
theorem ag_21 (w : World) : (isAgg 21).run Tryz.prog w = .ok false w := Tryz.isAgg21 w
theorem sz_21 (w : World) : (sizeOf 21).run Tryz.prog w = .ok 1 w := Tryz.sizeOf21 w
theorem it_21 : ITy Tryz.prog 21 [.int .i32 0] 4 := ⟨⟨_, (show Tryz.prog.info? 21 = some Tryz.t21 by kernel_rfl), rfl, rfl, _, rfl, rfl⟩⟩
theorem st_22 : STy Tryz.prog 22 3 1 := ⟨Tryz.underlying22, Tryz.sizeOf3⟩
theorem un_22 : Tryz.prog.underlying 22 = some (.slice 3) := Tryz.underlying22
theorem us_22 : (Tryz.prog.underlying 22).isSome = true := by rw [un_22]; rfl
theorem ag_22 (w : World) : (isAgg 22).run Tryz.prog w = .ok false w := Tryz.isAgg22 w
theorem sz_22 (w : World) : (sizeOf 22).run Tryz.prog w = .ok 1 w := Tryz.sizeOf22 w
theorem it_22 : ITy Tryz.prog 22 [.slice none 0 0] 24 := ⟨⟨_, (show Tryz.prog.info? 22 = some Tryz.t22 by kernel_rfl), rfl, rfl, _, rfl, rfl⟩⟩
theorem st_23 : STy Tryz.prog 23 21 1 := ⟨Tryz.underlying23, Tryz.sizeOf21⟩
theorem un_23 : Tryz.prog.underlying 23 = some (.slice 21) := Tryz.underlying23
theorem us_23 : (Tryz.prog.underlying 23).isSome = true := by rw [un_23]; rfl
theorem ag_23 (w : World) : (isAgg 23).run Tryz.prog w = .ok false w := Tryz.isAgg23 w
theorem sz_23 (w : World) : (sizeOf 23).run Tryz.prog w = .ok 1 w := Tryz.sizeOf23 w
theorem it_23 : ITy Tryz.prog 23 [.slice none 0 0] 24 := ⟨⟨_, (show Tryz.prog.info? 23 = some Tryz.t23 by kernel_rfl), rfl, rfl, _, rfl, rfl⟩⟩
theorem us_24 : (Tryz.prog.underlying 24).isSome = true := by rw [Tryz.underlying24]; rfl
theorem ag_24 (w : World) : (isAgg 24).run Tryz.prog w = .ok true w := Tryz.isAgg24 w
theorem sz_24 (w : World) : (sizeOf 24).run Tryz.prog w = .ok 2 w := Tryz.sizeOf24 w
theorem it_24 : ITy Tryz.prog 24 [.slice none 0 0, .slice none 0 0] 48 := ⟨⟨_, (show Tryz.prog.info? 24 = some Tryz.t24 by kernel_rfl), rfl, rfl, _, rfl, rfl⟩⟩
theorem us_25 : (Tryz.prog.underlying 25).isSome = true := by rw [Tryz.underlying25]; rfl
theorem ag_25 (w : World) : (isAgg 25).run Tryz.prog w = .ok true w := Tryz.isAgg25 w
theorem sz_25 (w : World) : (sizeOf 25).run Tryz.prog w = .ok 2 w := Tryz.sizeOf25 w
theorem it_25 : ITy Tryz.prog 25 [.slice none 0 0, .slice none 0 0] 48 := ⟨⟨_, (show Tryz.prog.info? 25 = some Tryz.t25 by kernel_rfl), rfl, rfl, _, rfl, rfl⟩⟩
theorem un_29 : Tryz.prog.underlying 29 = some (.int .i64) := Tryz.underlying29
theorem us_29 : (Tryz.prog.underlying 29).isSome = true := by rw [un_29]; rfl
theorem ag_29 (w : World) : (isAgg 29).run Tryz.prog w = .ok false w := Tryz.isAgg29 w
theorem sz_29 (w : World) : (sizeOf 29).run Tryz.prog w = .ok 1 w := Tryz.sizeOf29 w
theorem it_29 : ITy Tryz.prog 29 [.int .i64 0] 8 := ⟨⟨_, (show Tryz.prog.info? 29 = some Tryz.t29 by kernel_rfl), rfl, rfl, _, rfl, rfl⟩⟩
theorem st_33 : STy Tryz.prog 33 82 3 := ⟨Tryz.underlying33, Tryz.sizeOf82⟩
theorem un_33 : Tryz.prog.underlying 33 = some (.slice 82) := Tryz.underlying33
theorem us_33 : (Tryz.prog.underlying 33).isSome = true := by rw [un_33]; rfl
theorem ag_33 (w : World) : (isAgg 33).run Tryz.prog w = .ok false w := Tryz.isAgg33 w
theorem sz_33 (w : World) : (sizeOf 33).run Tryz.prog w = .ok 1 w := Tryz.sizeOf33 w
theorem it_33 : ITy Tryz.prog 33 [.slice none 0 0] 24 := ⟨⟨_, (show Tryz.prog.info? 33 = some Tryz.t33 by kernel_rfl), rfl, rfl, _, rfl, rfl⟩⟩
theorem st_34 : STy Tryz.prog 34 85 3 := ⟨Tryz.underlying34, Tryz.sizeOf85⟩
theorem un_34 : Tryz.prog.underlying 34 = some (.slice 85) := Tryz.underlying34
theorem us_34 : (Tryz.prog.underlying 34).isSome = true := by rw [un_34]; rfl
theorem ag_34 (w : World) : (isAgg 34).run Tryz.prog w = .ok false w := Tryz.isAgg34 w
theorem sz_34 (w : World) : (sizeOf 34).run Tryz.prog w = .ok 1 w := Tryz.sizeOf34 w
theorem it_34 : ITy Tryz.prog 34 [.slice none 0 0] 24 := ⟨⟨_, (show Tryz.prog.info? 34 = some Tryz.t34 by kernel_rfl), rfl, rfl, _, rfl, rfl⟩⟩
theorem st_35 : STy Tryz.prog 35 88 3 := ⟨Tryz.underlying35, Tryz.sizeOf88⟩
theorem un_35 : Tryz.prog.underlying 35 = some (.slice 88) := Tryz.underlying35
theorem us_35 : (Tryz.prog.underlying 35).isSome = true := by rw [un_35]; rfl
theorem ag_35 (w : World) : (isAgg 35).run Tryz.prog w = .ok false w := Tryz.isAgg35 w
theorem sz_35 (w : World) : (sizeOf 35).run Tryz.prog w = .ok 1 w := Tryz.sizeOf35 w
theorem it_35 : ITy Tryz.prog 35 [.slice none 0 0] 24 := ⟨⟨_, (show Tryz.prog.info? 35 = some Tryz.t35 by kernel_rfl), rfl, rfl, _, rfl, rfl⟩⟩
theorem st_36 : STy Tryz.prog 36 92 3 := ⟨Tryz.underlying36, Tryz.sizeOf92⟩
theorem un_36 : Tryz.prog.underlying 36 = some (.slice 92) := Tryz.underlying36
theorem us_36 : (Tryz.prog.underlying 36).isSome = true := by rw [un_36]; rfl
theorem ag_36 (w : World) : (isAgg 36).run Tryz.prog w = .ok false w := Tryz.isAgg36 w
theorem sz_36 (w : World) : (sizeOf 36).run Tryz.prog w = .ok 1 w := Tryz.sizeOf36 w
theorem it_36 : ITy Tryz.prog 36 [.slice none 0 0] 24 := ⟨⟨_, (show Tryz.prog.info? 36 = some Tryz.t36 by kernel_rfl), rfl, rfl, _, rfl, rfl⟩⟩
theorem st_37 : STy Tryz.prog 37 97 3 := ⟨Tryz.underlying37, Tryz.sizeOf97⟩
theorem un_37 : Tryz.prog.underlying 37 = some (.slice 97) := Tryz.underlying37
theorem us_37 : (Tryz.prog.underlying 37).isSome = true := by rw [un_37]; rfl
theorem ag_37 (w : World) : (isAgg 37).run Tryz.prog w = .ok false w := Tryz.isAgg37 w
theorem sz_37 (w : World) : (sizeOf 37).run Tryz.prog w = .ok 1 w := Tryz.sizeOf37 w
theorem it_37 : ITy Tryz.prog 37 [.slice none 0 0] 24 := ⟨⟨_, (show Tryz.prog.info? 37 = some Tryz.t37 by kernel_rfl), rfl, rfl, _, rfl, rfl⟩⟩
theorem st_38 : STy Tryz.prog 38 100 3 := ⟨Tryz.underlying38, Tryz.sizeOf100⟩
theorem un_38 : Tryz.prog.underlying 38 = some (.slice 100) := Tryz.underlying38
theorem us_38 : (Tryz.prog.underlying 38).isSome = true := by rw [un_38]; rfl
theorem ag_38 (w : World) : (isAgg 38).run Tryz.prog w = .ok false w := Tryz.isAgg38 w
theorem sz_38 (w : World) : (sizeOf 38).run Tryz.prog w = .ok 1 w := Tryz.sizeOf38 w
theorem it_38 : ITy Tryz.prog 38 [.slice none 0 0] 24 := ⟨⟨_, (show Tryz.prog.info? 38 = some Tryz.t38 by kernel_rfl), rfl, rfl, _, rfl, rfl⟩⟩
theorem st_39 : STy Tryz.prog 39 104 3 := ⟨Tryz.underlying39, Tryz.sizeOf104⟩
theorem un_39 : Tryz.prog.underlying 39 = some (.slice 104) := Tryz.underlying39
theorem us_39 : (Tryz.prog.underlying 39).isSome = true := by rw [un_39]; rfl
theorem ag_39 (w : World) : (isAgg 39).run Tryz.prog w = .ok false w := Tryz.isAgg39 w
theorem sz_39 (w : World) : (sizeOf 39).run Tryz.prog w = .ok 1 w := Tryz.sizeOf39 w
theorem it_39 : ITy Tryz.prog 39 [.slice none 0 0] 24 := ⟨⟨_, (show Tryz.prog.info? 39 = some Tryz.t39 by kernel_rfl), rfl, rfl, _, rfl, rfl⟩⟩
theorem st_40 : STy Tryz.prog 40 111 3 := ⟨Tryz.underlying40, Tryz.sizeOf111⟩
theorem un_40 : Tryz.prog.underlying 40 = some (.slice 111) := Tryz.underlying40
theorem us_40 : (Tryz.prog.underlying 40).isSome = true := by rw [un_40]; rfl
theorem ag_40 (w : World) : (isAgg 40).run Tryz.prog w = .ok false w := Tryz.isAgg40 w
theorem sz_40 (w : World) : (sizeOf 40).run Tryz.prog w = .ok 1 w := Tryz.sizeOf40 w
theorem it_40 : ITy Tryz.prog 40 [.slice none 0 0] 24 := ⟨⟨_, (show Tryz.prog.info? 40 = some Tryz.t40 by kernel_rfl), rfl, rfl, _, rfl, rfl⟩⟩
theorem st_41 : STy Tryz.prog 41 118 3 := ⟨Tryz.underlying41, Tryz.sizeOf118⟩
theorem un_41 : Tryz.prog.underlying 41 = some (.slice 118) := Tryz.underlying41
theorem us_41 : (Tryz.prog.underlying 41).isSome = true := by rw [un_41]; rfl
theorem ag_41 (w : World) : (isAgg 41).run Tryz.prog w = .ok false w := Tryz.isAgg41 w
theorem sz_41 (w : World) : (sizeOf 41).run Tryz.prog w = .ok 1 w := Tryz.sizeOf41 w
theorem it_41 : ITy Tryz.prog 41 [.slice none 0 0] 24 := ⟨⟨_, (show Tryz.prog.info? 41 = some Tryz.t41 by kernel_rfl), rfl, rfl, _, rfl, rfl⟩⟩
theorem st_42 : STy Tryz.prog 42 124 3 := ⟨Tryz.underlying42, Tryz.sizeOf124⟩
theorem un_42 : Tryz.prog.underlying 42 = some (.slice 124) := Tryz.underlying42
theorem us_42 : (Tryz.prog.underlying 42).isSome = true := by rw [un_42]; rfl
theorem ag_42 (w : World) : (isAgg 42).run Tryz.prog w = .ok false w := Tryz.isAgg42 w
theorem sz_42 (w : World) : (sizeOf 42).run Tryz.prog w = .ok 1 w := Tryz.sizeOf42 w
theorem it_42 : ITy Tryz.prog 42 [.slice none 0 0] 24 := ⟨⟨_, (show Tryz.prog.info? 42 = some Tryz.t42 by kernel_rfl), rfl, rfl, _, rfl, rfl⟩⟩
theorem st_43 : STy Tryz.prog 43 130 3 := ⟨Tryz.underlying43, Tryz.sizeOf130⟩
theorem un_43 : Tryz.prog.underlying 43 = some (.slice 130) := Tryz.underlying43
theorem us_43 : (Tryz.prog.underlying 43).isSome = true := by rw [un_43]; rfl
theorem ag_43 (w : World) : (isAgg 43).run Tryz.prog w = .ok false w := Tryz.isAgg43 w
theorem sz_43 (w : World) : (sizeOf 43).run Tryz.prog w = .ok 1 w := Tryz.sizeOf43 w
theorem it_43 : ITy Tryz.prog 43 [.slice none 0 0] 24 := ⟨⟨_, (show Tryz.prog.info? 43 = some Tryz.t43 by kernel_rfl), rfl, rfl, _, rfl, rfl⟩⟩
theorem st_44 : STy Tryz.prog 44 136 3 := ⟨Tryz.underlying44, Tryz.sizeOf136⟩
theorem un_44 : Tryz.prog.underlying 44 = some (.slice 136) := Tryz.underlying44
theorem us_44 : (Tryz.prog.underlying 44).isSome = true := by rw [un_44]; rfl
theorem ag_44 (w : World) : (isAgg 44).run Tryz.prog w = .ok false w := Tryz.isAgg44 w
theorem sz_44 (w : World) : (sizeOf 44).run Tryz.prog w = .ok 1 w := Tryz.sizeOf44 w
theorem it_44 : ITy Tryz.prog 44 [.slice none 0 0] 24 := ⟨⟨_, (show Tryz.prog.info? 44 = some Tryz.t44 by kernel_rfl), rfl, rfl, _, rfl, rfl⟩⟩
theorem st_45 : STy Tryz.prog 45 142 3 := ⟨Tryz.underlying45, Tryz.sizeOf142⟩
theorem un_45 : Tryz.prog.underlying 45 = some (.slice 142) := Tryz.underlying45
theorem us_45 : (Tryz.prog.underlying 45).isSome = true := by rw [un_45]; rfl
theorem ag_45 (w : World) : (isAgg 45).run Tryz.prog w = .ok false w := Tryz.isAgg45 w
theorem sz_45 (w : World) : (sizeOf 45).run Tryz.prog w = .ok 1 w := Tryz.sizeOf45 w
theorem it_45 : ITy Tryz.prog 45 [.slice none 0 0] 24 := ⟨⟨_, (show Tryz.prog.info? 45 = some Tryz.t45 by kernel_rfl), rfl, rfl, _, rfl, rfl⟩⟩
theorem st_46 : STy Tryz.prog 46 148 3 := ⟨Tryz.underlying46, Tryz.sizeOf148⟩
theorem un_46 : Tryz.prog.underlying 46 = some (.slice 148) := Tryz.underlying46
theorem us_46 : (Tryz.prog.underlying 46).isSome = true := by rw [un_46]; rfl
theorem ag_46 (w : World) : (isAgg 46).run Tryz.prog w = .ok false w := Tryz.isAgg46 w
theorem sz_46 (w : World) : (sizeOf 46).run Tryz.prog w = .ok 1 w := Tryz.sizeOf46 w
theorem it_46 : ITy Tryz.prog 46 [.slice none 0 0] 24 := ⟨⟨_, (show Tryz.prog.info? 46 = some Tryz.t46 by kernel_rfl), rfl, rfl, _, rfl, rfl⟩⟩
theorem st_47 : STy Tryz.prog 47 152 3 := ⟨Tryz.underlying47, Tryz.sizeOf152⟩
theorem un_47 : Tryz.prog.underlying 47 = some (.slice 152) := Tryz.underlying47
theorem us_47 : (Tryz.prog.underlying 47).isSome = true := by rw [un_47]; rfl
theorem ag_47 (w : World) : (isAgg 47).run Tryz.prog w = .ok false w := Tryz.isAgg47 w
theorem sz_47 (w : World) : (sizeOf 47).run Tryz.prog w = .ok 1 w := Tryz.sizeOf47 w
theorem it_47 : ITy Tryz.prog 47 [.slice none 0 0] 24 := ⟨⟨_, (show Tryz.prog.info? 47 = some Tryz.t47 by kernel_rfl), rfl, rfl, _, rfl, rfl⟩⟩
theorem us_48 : (Tryz.prog.underlying 48).isSome = true := by rw [Tryz.underlying48]; rfl
theorem ag_48 (w : World) : (isAgg 48).run Tryz.prog w = .ok true w := Tryz.isAgg48 w
theorem sz_48 (w : World) : (sizeOf 48).run Tryz.prog w = .ok 16 w := Tryz.sizeOf48 w
theorem it_48 : ITy Tryz.prog 48 [.int .i64 0, .slice none 0 0, .slice none 0 0, .slice none 0 0, .slice none 0 0, .slice none 0 0, .slice none 0 0, .slice none 0 0, .slice none 0 0, .slice none 0 0, .slice none 0 0, .slice none 0 0, .slice none 0 0, .slice none 0 0, .slice none 0 0, .slice none 0 0] 368 := ⟨⟨_, (show Tryz.prog.info? 48 = some Tryz.t48 by kernel_rfl), rfl, rfl, _, rfl, rfl⟩⟩
theorem us_49 : (Tryz.prog.underlying 49).isSome = true := by rw [Tryz.underlying49]; rfl
theorem ag_49 (w : World) : (isAgg 49).run Tryz.prog w = .ok true w := Tryz.isAgg49 w
theorem sz_49 (w : World) : (sizeOf 49).run Tryz.prog w = .ok 16 w := Tryz.sizeOf49 w
theorem it_49 : ITy Tryz.prog 49 [.int .i64 0, .slice none 0 0, .slice none 0 0, .slice none 0 0, .slice none 0 0, .slice none 0 0, .slice none 0 0, .slice none 0 0, .slice none 0 0, .slice none 0 0, .slice none 0 0, .slice none 0 0, .slice none 0 0, .slice none 0 0, .slice none 0 0, .slice none 0 0] 368 := ⟨⟨_, (show Tryz.prog.info? 49 = some Tryz.t49 by kernel_rfl), rfl, rfl, _, rfl, rfl⟩⟩
theorem us_59 : (Tryz.prog.underlying 59).isSome = true := by rw [Tryz.underlying59]; rfl
theorem ag_59 (w : World) : (isAgg 59).run Tryz.prog w = .ok false w := Tryz.isAgg59 w
theorem sz_59 (w : World) : (sizeOf 59).run Tryz.prog w = .ok 1 w := Tryz.sizeOf59 w
theorem it_59 : ITy Tryz.prog 59 [.nilFunc] 8 := ⟨⟨_, (show Tryz.prog.info? 59 = some Tryz.t59 by kernel_rfl), rfl, rfl, _, rfl, rfl⟩⟩
theorem us_60 : (Tryz.prog.underlying 60).isSome = true := by rw [Tryz.underlying60]; rfl
theorem ag_60 (w : World) : (isAgg 60).run Tryz.prog w = .ok true w := Tryz.isAgg60 w
theorem sz_60 (w : World) : (sizeOf 60).run Tryz.prog w = .ok 1 w := Tryz.sizeOf60 w
theorem it_60 : ITy Tryz.prog 60 [.nilFunc] 8 := ⟨⟨_, (show Tryz.prog.info? 60 = some Tryz.t60 by kernel_rfl), rfl, rfl, _, rfl, rfl⟩⟩
theorem us_61 : (Tryz.prog.underlying 61).isSome = true := by rw [Tryz.underlying61]; rfl
theorem ag_61 (w : World) : (isAgg 61).run Tryz.prog w = .ok true w := Tryz.isAgg61 w
theorem sz_61 (w : World) : (sizeOf 61).run Tryz.prog w = .ok 1 w := Tryz.sizeOf61 w
theorem it_61 : ITy Tryz.prog 61 [.nilFunc] 8 := ⟨⟨_, (show Tryz.prog.info? 61 = some Tryz.t61 by kernel_rfl), rfl, rfl, _, rfl, rfl⟩⟩
theorem un_67 : Tryz.prog.underlying 67 = some (.pointer 49) := Tryz.underlying67
theorem us_67 : (Tryz.prog.underlying 67).isSome = true := by rw [un_67]; rfl
theorem ag_67 (w : World) : (isAgg 67).run Tryz.prog w = .ok false w := Tryz.isAgg67 w
theorem sz_67 (w : World) : (sizeOf 67).run Tryz.prog w = .ok 1 w := Tryz.sizeOf67 w
theorem it_67 : ITy Tryz.prog 67 [.pointer none] 8 := ⟨⟨_, (show Tryz.prog.info? 67 = some Tryz.t67 by kernel_rfl), rfl, rfl, _, rfl, rfl⟩⟩
theorem un_70 : Tryz.prog.underlying 70 = some (.int .u64) := Tryz.underlying70
theorem us_70 : (Tryz.prog.underlying 70).isSome = true := by rw [un_70]; rfl
theorem ag_70 (w : World) : (isAgg 70).run Tryz.prog w = .ok false w := Tryz.isAgg70 w
theorem sz_70 (w : World) : (sizeOf 70).run Tryz.prog w = .ok 1 w := Tryz.sizeOf70 w
theorem it_70 : ITy Tryz.prog 70 [.int .u64 0] 8 := ⟨⟨_, (show Tryz.prog.info? 70 = some Tryz.t70 by kernel_rfl), rfl, rfl, _, rfl, rfl⟩⟩
theorem st_71 : STy Tryz.prog 71 2 1 := ⟨Tryz.underlying71, Tryz.sizeOf2⟩
theorem un_71 : Tryz.prog.underlying 71 = some (.slice 2) := Tryz.underlying71
theorem us_71 : (Tryz.prog.underlying 71).isSome = true := by rw [un_71]; rfl
theorem ag_71 (w : World) : (isAgg 71).run Tryz.prog w = .ok false w := Tryz.isAgg71 w
theorem sz_71 (w : World) : (sizeOf 71).run Tryz.prog w = .ok 1 w := Tryz.sizeOf71 w
theorem it_71 : ITy Tryz.prog 71 [.slice none 0 0] 24 := ⟨⟨_, (show Tryz.prog.info? 71 = some Tryz.t71 by kernel_rfl), rfl, rfl, _, rfl, rfl⟩⟩
theorem us_73 : (Tryz.prog.underlying 73).isSome = true := by rw [Tryz.underlying73]; rfl
theorem ag_73 (w : World) : (isAgg 73).run Tryz.prog w = .ok false w := Tryz.isAgg73 w
theorem sz_73 (w : World) : (sizeOf 73).run Tryz.prog w = .ok 1 w := Tryz.sizeOf73 w
theorem it_73 : ITy Tryz.prog 73 [.nilFunc] 8 := ⟨⟨_, (show Tryz.prog.info? 73 = some Tryz.t73 by kernel_rfl), rfl, rfl, _, rfl, rfl⟩⟩
theorem us_74 : (Tryz.prog.underlying 74).isSome = true := by rw [Tryz.underlying74]; rfl
theorem ag_74 (w : World) : (isAgg 74).run Tryz.prog w = .ok true w := Tryz.isAgg74 w
theorem sz_74 (w : World) : (sizeOf 74).run Tryz.prog w = .ok 1 w := Tryz.sizeOf74 w
theorem it_74 : ITy Tryz.prog 74 [.nilFunc] 8 := ⟨⟨_, (show Tryz.prog.info? 74 = some Tryz.t74 by kernel_rfl), rfl, rfl, _, rfl, rfl⟩⟩
theorem us_75 : (Tryz.prog.underlying 75).isSome = true := by rw [Tryz.underlying75]; rfl
theorem ag_75 (w : World) : (isAgg 75).run Tryz.prog w = .ok true w := Tryz.isAgg75 w
theorem sz_75 (w : World) : (sizeOf 75).run Tryz.prog w = .ok 1 w := Tryz.sizeOf75 w
theorem it_75 : ITy Tryz.prog 75 [.nilFunc] 8 := ⟨⟨_, (show Tryz.prog.info? 75 = some Tryz.t75 by kernel_rfl), rfl, rfl, _, rfl, rfl⟩⟩
theorem st_78 : STy Tryz.prog 78 25 2 := ⟨Tryz.underlying78, Tryz.sizeOf25⟩
theorem un_78 : Tryz.prog.underlying 78 = some (.slice 25) := Tryz.underlying78
theorem us_78 : (Tryz.prog.underlying 78).isSome = true := by rw [un_78]; rfl
theorem ag_78 (w : World) : (isAgg 78).run Tryz.prog w = .ok false w := Tryz.isAgg78 w
theorem sz_78 (w : World) : (sizeOf 78).run Tryz.prog w = .ok 1 w := Tryz.sizeOf78 w
theorem it_78 : ITy Tryz.prog 78 [.slice none 0 0] 24 := ⟨⟨_, (show Tryz.prog.info? 78 = some Tryz.t78 by kernel_rfl), rfl, rfl, _, rfl, rfl⟩⟩
theorem st_80 : STy Tryz.prog 80 5 1 := ⟨Tryz.underlying80, Tryz.sizeOf5⟩
theorem un_80 : Tryz.prog.underlying 80 = some (.slice 5) := Tryz.underlying80
theorem us_80 : (Tryz.prog.underlying 80).isSome = true := by rw [un_80]; rfl
theorem ag_80 (w : World) : (isAgg 80).run Tryz.prog w = .ok false w := Tryz.isAgg80 w
theorem sz_80 (w : World) : (sizeOf 80).run Tryz.prog w = .ok 1 w := Tryz.sizeOf80 w
theorem it_80 : ITy Tryz.prog 80 [.slice none 0 0] 24 := ⟨⟨_, (show Tryz.prog.info? 80 = some Tryz.t80 by kernel_rfl), rfl, rfl, _, rfl, rfl⟩⟩
theorem us_81 : (Tryz.prog.underlying 81).isSome = true := by rw [Tryz.underlying81]; rfl
theorem ag_81 (w : World) : (isAgg 81).run Tryz.prog w = .ok true w := Tryz.isAgg81 w
theorem sz_81 (w : World) : (sizeOf 81).run Tryz.prog w = .ok 3 w := Tryz.sizeOf81 w
theorem it_81 : ITy Tryz.prog 81 [.slice none 0 0, .slice none 0 0, .int .i64 0] 56 := ⟨⟨_, (show Tryz.prog.info? 81 = some Tryz.t81 by kernel_rfl), rfl, rfl, _, rfl, rfl⟩⟩
theorem us_82 : (Tryz.prog.underlying 82).isSome = true := by rw [Tryz.underlying82]; rfl
theorem ag_82 (w : World) : (isAgg 82).run Tryz.prog w = .ok true w := Tryz.isAgg82 w
theorem sz_82 (w : World) : (sizeOf 82).run Tryz.prog w = .ok 3 w := Tryz.sizeOf82 w
theorem it_82 : ITy Tryz.prog 82 [.slice none 0 0, .slice none 0 0, .int .i64 0] 56 := ⟨⟨_, (show Tryz.prog.info? 82 = some Tryz.t82 by kernel_rfl), rfl, rfl, _, rfl, rfl⟩⟩
theorem us_84 : (Tryz.prog.underlying 84).isSome = true := by rw [Tryz.underlying84]; rfl
theorem ag_84 (w : World) : (isAgg 84).run Tryz.prog w = .ok true w := Tryz.isAgg84 w
theorem sz_84 (w : World) : (sizeOf 84).run Tryz.prog w = .ok 3 w := Tryz.sizeOf84 w
theorem it_84 : ITy Tryz.prog 84 [.slice none 0 0, .slice none 0 0, .int .i64 0] 56 := ⟨⟨_, (show Tryz.prog.info? 84 = some Tryz.t84 by kernel_rfl), rfl, rfl, _, rfl, rfl⟩⟩
theorem us_85 : (Tryz.prog.underlying 85).isSome = true := by rw [Tryz.underlying85]; rfl
theorem ag_85 (w : World) : (isAgg 85).run Tryz.prog w = .ok true w := Tryz.isAgg85 w
theorem sz_85 (w : World) : (sizeOf 85).run Tryz.prog w = .ok 3 w := Tryz.sizeOf85 w
theorem it_85 : ITy Tryz.prog 85 [.slice none 0 0, .slice none 0 0, .int .i64 0] 56 := ⟨⟨_, (show Tryz.prog.info? 85 = some Tryz.t85 by kernel_rfl), rfl, rfl, _, rfl, rfl⟩⟩
theorem us_87 : (Tryz.prog.underlying 87).isSome = true := by rw [Tryz.underlying87]; rfl
theorem ag_87 (w : World) : (isAgg 87).run Tryz.prog w = .ok true w := Tryz.isAgg87 w
theorem sz_87 (w : World) : (sizeOf 87).run Tryz.prog w = .ok 3 w := Tryz.sizeOf87 w
theorem it_87 : ITy Tryz.prog 87 [.slice none 0 0, .slice none 0 0, .int .i64 0] 56 := ⟨⟨_, (show Tryz.prog.info? 87 = some Tryz.t87 by kernel_rfl), rfl, rfl, _, rfl, rfl⟩⟩
theorem us_88 : (Tryz.prog.underlying 88).isSome = true := by rw [Tryz.underlying88]; rfl
theorem ag_88 (w : World) : (isAgg 88).run Tryz.prog w = .ok true w := Tryz.isAgg88 w
theorem sz_88 (w : World) : (sizeOf 88).run Tryz.prog w = .ok 3 w := Tryz.sizeOf88 w
theorem it_88 : ITy Tryz.prog 88 [.slice none 0 0, .slice none 0 0, .int .i64 0] 56 := ⟨⟨_, (show Tryz.prog.info? 88 = some Tryz.t88 by kernel_rfl), rfl, rfl, _, rfl, rfl⟩⟩
theorem st_90 : STy Tryz.prog 90 93 1 := ⟨Tryz.underlying90, Tryz.sizeOf93⟩
theorem un_90 : Tryz.prog.underlying 90 = some (.slice 93) := Tryz.underlying90
theorem us_90 : (Tryz.prog.underlying 90).isSome = true := by rw [un_90]; rfl
theorem ag_90 (w : World) : (isAgg 90).run Tryz.prog w = .ok false w := Tryz.isAgg90 w
theorem sz_90 (w : World) : (sizeOf 90).run Tryz.prog w = .ok 1 w := Tryz.sizeOf90 w
theorem it_90 : ITy Tryz.prog 90 [.slice none 0 0] 24 := ⟨⟨_, (show Tryz.prog.info? 90 = some Tryz.t90 by kernel_rfl), rfl, rfl, _, rfl, rfl⟩⟩
theorem us_91 : (Tryz.prog.underlying 91).isSome = true := by rw [Tryz.underlying91]; rfl
theorem ag_91 (w : World) : (isAgg 91).run Tryz.prog w = .ok true w := Tryz.isAgg91 w
theorem sz_91 (w : World) : (sizeOf 91).run Tryz.prog w = .ok 3 w := Tryz.sizeOf91 w
theorem it_91 : ITy Tryz.prog 91 [.slice none 0 0, .slice none 0 0, .int .i64 0] 56 := ⟨⟨_, (show Tryz.prog.info? 91 = some Tryz.t91 by kernel_rfl), rfl, rfl, _, rfl, rfl⟩⟩
theorem us_92 : (Tryz.prog.underlying 92).isSome = true := by rw [Tryz.underlying92]; rfl
theorem ag_92 (w : World) : (isAgg 92).run Tryz.prog w = .ok true w := Tryz.isAgg92 w
theorem sz_92 (w : World) : (sizeOf 92).run Tryz.prog w = .ok 3 w := Tryz.sizeOf92 w
theorem it_92 : ITy Tryz.prog 92 [.slice none 0 0, .slice none 0 0, .int .i64 0] 56 := ⟨⟨_, (show Tryz.prog.info? 92 = some Tryz.t92 by kernel_rfl), rfl, rfl, _, rfl, rfl⟩⟩
theorem un_93 : Tryz.prog.underlying 93 = some (.int .u32) := Tryz.underlying93
theorem us_93 : (Tryz.prog.underlying 93).isSome = true := by rw [un_93]; rfl
theorem ag_93 (w : World) : (isAgg 93).run Tryz.prog w = .ok false w := Tryz.isAgg93 w
theorem sz_93 (w : World) : (sizeOf 93).run Tryz.prog w = .ok 1 w := Tryz.sizeOf93 w
theorem it_93 : ITy Tryz.prog 93 [.int .u32 0] 4 := ⟨⟨_, (show Tryz.prog.info? 93 = some Tryz.t93 by kernel_rfl), rfl, rfl, _, rfl, rfl⟩⟩
theorem st_95 : STy Tryz.prog 95 9 1 := ⟨Tryz.underlying95, Tryz.sizeOf9⟩
theorem un_95 : Tryz.prog.underlying 95 = some (.slice 9) := Tryz.underlying95
theorem us_95 : (Tryz.prog.underlying 95).isSome = true := by rw [un_95]; rfl
theorem ag_95 (w : World) : (isAgg 95).run Tryz.prog w = .ok false w := Tryz.isAgg95 w
theorem sz_95 (w : World) : (sizeOf 95).run Tryz.prog w = .ok 1 w := Tryz.sizeOf95 w
theorem it_95 : ITy Tryz.prog 95 [.slice none 0 0] 24 := ⟨⟨_, (show Tryz.prog.info? 95 = some Tryz.t95 by kernel_rfl), rfl, rfl, _, rfl, rfl⟩⟩
theorem us_96 : (Tryz.prog.underlying 96).isSome = true := by rw [Tryz.underlying96]; rfl
theorem ag_96 (w : World) : (isAgg 96).run Tryz.prog w = .ok true w := Tryz.isAgg96 w
theorem sz_96 (w : World) : (sizeOf 96).run Tryz.prog w = .ok 3 w := Tryz.sizeOf96 w
theorem it_96 : ITy Tryz.prog 96 [.slice none 0 0, .slice none 0 0, .int .i64 0] 56 := ⟨⟨_, (show Tryz.prog.info? 96 = some Tryz.t96 by kernel_rfl), rfl, rfl, _, rfl, rfl⟩⟩
theorem us_97 : (Tryz.prog.underlying 97).isSome = true := by rw [Tryz.underlying97]; rfl
theorem ag_97 (w : World) : (isAgg 97).run Tryz.prog w = .ok true w := Tryz.isAgg97 w
theorem sz_97 (w : World) : (sizeOf 97).run Tryz.prog w = .ok 3 w := Tryz.sizeOf97 w
theorem it_97 : ITy Tryz.prog 97 [.slice none 0 0, .slice none 0 0, .int .i64 0] 56 := ⟨⟨_, (show Tryz.prog.info? 97 = some Tryz.t97 by kernel_rfl), rfl, rfl, _, rfl, rfl⟩⟩
theorem us_99 : (Tryz.prog.underlying 99).isSome = true := by rw [Tryz.underlying99]; rfl
theorem ag_99 (w : World) : (isAgg 99).run Tryz.prog w = .ok true w := Tryz.isAgg99 w
theorem sz_99 (w : World) : (sizeOf 99).run Tryz.prog w = .ok 3 w := Tryz.sizeOf99 w
theorem it_99 : ITy Tryz.prog 99 [.slice none 0 0, .slice none 0 0, .int .i64 0] 56 := ⟨⟨_, (show Tryz.prog.info? 99 = some Tryz.t99 by kernel_rfl), rfl, rfl, _, rfl, rfl⟩⟩
theorem us_100 : (Tryz.prog.underlying 100).isSome = true := by rw [Tryz.underlying100]; rfl
theorem ag_100 (w : World) : (isAgg 100).run Tryz.prog w = .ok true w := Tryz.isAgg100 w
theorem sz_100 (w : World) : (sizeOf 100).run Tryz.prog w = .ok 3 w := Tryz.sizeOf100 w
theorem it_100 : ITy Tryz.prog 100 [.slice none 0 0, .slice none 0 0, .int .i64 0] 56 := ⟨⟨_, (show Tryz.prog.info? 100 = some Tryz.t100 by kernel_rfl), rfl, rfl, _, rfl, rfl⟩⟩
theorem st_102 : STy Tryz.prog 102 107 5 := ⟨Tryz.underlying102, Tryz.sizeOf107⟩
theorem un_102 : Tryz.prog.underlying 102 = some (.slice 107) := Tryz.underlying102
theorem us_102 : (Tryz.prog.underlying 102).isSome = true := by rw [un_102]; rfl
theorem ag_102 (w : World) : (isAgg 102).run Tryz.prog w = .ok false w := Tryz.isAgg102 w
theorem sz_102 (w : World) : (sizeOf 102).run Tryz.prog w = .ok 1 w := Tryz.sizeOf102 w
theorem it_102 : ITy Tryz.prog 102 [.slice none 0 0] 24 := ⟨⟨_, (show Tryz.prog.info? 102 = some Tryz.t102 by kernel_rfl), rfl, rfl, _, rfl, rfl⟩⟩
theorem us_103 : (Tryz.prog.underlying 103).isSome = true := by rw [Tryz.underlying103]; rfl
theorem ag_103 (w : World) : (isAgg 103).run Tryz.prog w = .ok true w := Tryz.isAgg103 w
theorem sz_103 (w : World) : (sizeOf 103).run Tryz.prog w = .ok 3 w := Tryz.sizeOf103 w
theorem it_103 : ITy Tryz.prog 103 [.slice none 0 0, .slice none 0 0, .int .i64 0] 56 := ⟨⟨_, (show Tryz.prog.info? 103 = some Tryz.t103 by kernel_rfl), rfl, rfl, _, rfl, rfl⟩⟩
theorem us_104 : (Tryz.prog.underlying 104).isSome = true := by rw [Tryz.underlying104]; rfl
theorem ag_104 (w : World) : (isAgg 104).run Tryz.prog w = .ok true w := Tryz.isAgg104 w
theorem sz_104 (w : World) : (sizeOf 104).run Tryz.prog w = .ok 3 w := Tryz.sizeOf104 w
theorem it_104 : ITy Tryz.prog 104 [.slice none 0 0, .slice none 0 0, .int .i64 0] 56 := ⟨⟨_, (show Tryz.prog.info? 104 = some Tryz.t104 by kernel_rfl), rfl, rfl, _, rfl, rfl⟩⟩
theorem un_105 : Tryz.prog.underlying 105 = some (.int .u8) := Tryz.underlying105
theorem us_105 : (Tryz.prog.underlying 105).isSome = true := by rw [un_105]; rfl
theorem ag_105 (w : World) : (isAgg 105).run Tryz.prog w = .ok false w := Tryz.isAgg105 w
theorem sz_105 (w : World) : (sizeOf 105).run Tryz.prog w = .ok 1 w := Tryz.sizeOf105 w
theorem it_105 : ITy Tryz.prog 105 [.int .u8 0] 1 := ⟨⟨_, (show Tryz.prog.info? 105 = some Tryz.t105 by kernel_rfl), rfl, rfl, _, rfl, rfl⟩⟩
theorem us_106 : (Tryz.prog.underlying 106).isSome = true := by rw [Tryz.underlying106]; rfl
theorem ag_106 (w : World) : (isAgg 106).run Tryz.prog w = .ok true w := Tryz.isAgg106 w
theorem sz_106 (w : World) : (sizeOf 106).run Tryz.prog w = .ok 5 w := Tryz.sizeOf106 w
theorem it_106 : ITy Tryz.prog 106 [.int .u8 0, .slice none 0 0, .slice none 0 0, .int .i64 0, .int .i64 0] 72 := ⟨⟨_, (show Tryz.prog.info? 106 = some Tryz.t106 by kernel_rfl), rfl, rfl, _, rfl, rfl⟩⟩
theorem us_107 : (Tryz.prog.underlying 107).isSome = true := by rw [Tryz.underlying107]; rfl
theorem ag_107 (w : World) : (isAgg 107).run Tryz.prog w = .ok true w := Tryz.isAgg107 w
theorem sz_107 (w : World) : (sizeOf 107).run Tryz.prog w = .ok 5 w := Tryz.sizeOf107 w
theorem it_107 : ITy Tryz.prog 107 [.int .u8 0, .slice none 0 0, .slice none 0 0, .int .i64 0, .int .i64 0] 72 := ⟨⟨_, (show Tryz.prog.info? 107 = some Tryz.t107 by kernel_rfl), rfl, rfl, _, rfl, rfl⟩⟩
theorem st_109 : STy Tryz.prog 109 114 2 := ⟨Tryz.underlying109, Tryz.sizeOf114⟩
theorem un_109 : Tryz.prog.underlying 109 = some (.slice 114) := Tryz.underlying109
theorem us_109 : (Tryz.prog.underlying 109).isSome = true := by rw [un_109]; rfl
theorem ag_109 (w : World) : (isAgg 109).run Tryz.prog w = .ok false w := Tryz.isAgg109 w
theorem sz_109 (w : World) : (sizeOf 109).run Tryz.prog w = .ok 1 w := Tryz.sizeOf109 w
theorem it_109 : ITy Tryz.prog 109 [.slice none 0 0] 24 := ⟨⟨_, (show Tryz.prog.info? 109 = some Tryz.t109 by kernel_rfl), rfl, rfl, _, rfl, rfl⟩⟩
theorem us_110 : (Tryz.prog.underlying 110).isSome = true := by rw [Tryz.underlying110]; rfl
theorem ag_110 (w : World) : (isAgg 110).run Tryz.prog w = .ok true w := Tryz.isAgg110 w
theorem sz_110 (w : World) : (sizeOf 110).run Tryz.prog w = .ok 3 w := Tryz.sizeOf110 w
theorem it_110 : ITy Tryz.prog 110 [.slice none 0 0, .slice none 0 0, .int .i64 0] 56 := ⟨⟨_, (show Tryz.prog.info? 110 = some Tryz.t110 by kernel_rfl), rfl, rfl, _, rfl, rfl⟩⟩
theorem us_111 : (Tryz.prog.underlying 111).isSome = true := by rw [Tryz.underlying111]; rfl
theorem ag_111 (w : World) : (isAgg 111).run Tryz.prog w = .ok true w := Tryz.isAgg111 w
theorem sz_111 (w : World) : (sizeOf 111).run Tryz.prog w = .ok 3 w := Tryz.sizeOf111 w
theorem it_111 : ITy Tryz.prog 111 [.slice none 0 0, .slice none 0 0, .int .i64 0] 56 := ⟨⟨_, (show Tryz.prog.info? 111 = some Tryz.t111 by kernel_rfl), rfl, rfl, _, rfl, rfl⟩⟩
theorem un_112 : Tryz.prog.underlying 112 = some (.int .u8) := Tryz.underlying112
theorem us_112 : (Tryz.prog.underlying 112).isSome = true := by rw [un_112]; rfl
theorem ag_112 (w : World) : (isAgg 112).run Tryz.prog w = .ok false w := Tryz.isAgg112 w
theorem sz_112 (w : World) : (sizeOf 112).run Tryz.prog w = .ok 1 w := Tryz.sizeOf112 w
theorem it_112 : ITy Tryz.prog 112 [.int .u8 0] 1 := ⟨⟨_, (show Tryz.prog.info? 112 = some Tryz.t112 by kernel_rfl), rfl, rfl, _, rfl, rfl⟩⟩
theorem us_113 : (Tryz.prog.underlying 113).isSome = true := by rw [Tryz.underlying113]; rfl
theorem ag_113 (w : World) : (isAgg 113).run Tryz.prog w = .ok true w := Tryz.isAgg113 w
theorem sz_113 (w : World) : (sizeOf 113).run Tryz.prog w = .ok 2 w := Tryz.sizeOf113 w
theorem it_113 : ITy Tryz.prog 113 [.int .u8 0, .int .i64 0] 16 := ⟨⟨_, (show Tryz.prog.info? 113 = some Tryz.t113 by kernel_rfl), rfl, rfl, _, rfl, rfl⟩⟩
theorem us_114 : (Tryz.prog.underlying 114).isSome = true := by rw [Tryz.underlying114]; rfl
theorem ag_114 (w : World) : (isAgg 114).run Tryz.prog w = .ok true w := Tryz.isAgg114 w
theorem sz_114 (w : World) : (sizeOf 114).run Tryz.prog w = .ok 2 w := Tryz.sizeOf114 w
theorem it_114 : ITy Tryz.prog 114 [.int .u8 0, .int .i64 0] 16 := ⟨⟨_, (show Tryz.prog.info? 114 = some Tryz.t114 by kernel_rfl), rfl, rfl, _, rfl, rfl⟩⟩
theorem st_116 : STy Tryz.prog 116 120 3 := ⟨Tryz.underlying116, Tryz.sizeOf120⟩
theorem un_116 : Tryz.prog.underlying 116 = some (.slice 120) := Tryz.underlying116
theorem us_116 : (Tryz.prog.underlying 116).isSome = true := by rw [un_116]; rfl
theorem ag_116 (w : World) : (isAgg 116).run Tryz.prog w = .ok false w := Tryz.isAgg116 w
theorem sz_116 (w : World) : (sizeOf 116).run Tryz.prog w = .ok 1 w := Tryz.sizeOf116 w
theorem it_116 : ITy Tryz.prog 116 [.slice none 0 0] 24 := ⟨⟨_, (show Tryz.prog.info? 116 = some Tryz.t116 by kernel_rfl), rfl, rfl, _, rfl, rfl⟩⟩
theorem us_117 : (Tryz.prog.underlying 117).isSome = true := by rw [Tryz.underlying117]; rfl
theorem ag_117 (w : World) : (isAgg 117).run Tryz.prog w = .ok true w := Tryz.isAgg117 w
theorem sz_117 (w : World) : (sizeOf 117).run Tryz.prog w = .ok 3 w := Tryz.sizeOf117 w
theorem it_117 : ITy Tryz.prog 117 [.slice none 0 0, .slice none 0 0, .int .i64 0] 56 := ⟨⟨_, (show Tryz.prog.info? 117 = some Tryz.t117 by kernel_rfl), rfl, rfl, _, rfl, rfl⟩⟩
theorem us_118 : (Tryz.prog.underlying 118).isSome = true := by rw [Tryz.underlying118]; rfl
theorem ag_118 (w : World) : (isAgg 118).run Tryz.prog w = .ok true w := Tryz.isAgg118 w
theorem sz_118 (w : World) : (sizeOf 118).run Tryz.prog w = .ok 3 w := Tryz.sizeOf118 w
theorem it_118 : ITy Tryz.prog 118 [.slice none 0 0, .slice none 0 0, .int .i64 0] 56 := ⟨⟨_, (show Tryz.prog.info? 118 = some Tryz.t118 by kernel_rfl), rfl, rfl, _, rfl, rfl⟩⟩
theorem us_119 : (Tryz.prog.underlying 119).isSome = true := by rw [Tryz.underlying119]; rfl
theorem ag_119 (w : World) : (isAgg 119).run Tryz.prog w = .ok true w := Tryz.isAgg119 w
theorem sz_119 (w : World) : (sizeOf 119).run Tryz.prog w = .ok 3 w := Tryz.sizeOf119 w
theorem it_119 : ITy Tryz.prog 119 [.int .i64 0, .int .i64 0, .int .i64 0] 24 := ⟨⟨_, (show Tryz.prog.info? 119 = some Tryz.t119 by kernel_rfl), rfl, rfl, _, rfl, rfl⟩⟩
theorem us_120 : (Tryz.prog.underlying 120).isSome = true := by rw [Tryz.underlying120]; rfl
theorem ag_120 (w : World) : (isAgg 120).run Tryz.prog w = .ok true w := Tryz.isAgg120 w
theorem sz_120 (w : World) : (sizeOf 120).run Tryz.prog w = .ok 3 w := Tryz.sizeOf120 w
theorem it_120 : ITy Tryz.prog 120 [.int .i64 0, .int .i64 0, .int .i64 0] 24 := ⟨⟨_, (show Tryz.prog.info? 120 = some Tryz.t120 by kernel_rfl), rfl, rfl, _, rfl, rfl⟩⟩
theorem st_122 : STy Tryz.prog 122 126 3 := ⟨Tryz.underlying122, Tryz.sizeOf126⟩
theorem un_122 : Tryz.prog.underlying 122 = some (.slice 126) := Tryz.underlying122
theorem us_122 : (Tryz.prog.underlying 122).isSome = true := by rw [un_122]; rfl
theorem ag_122 (w : World) : (isAgg 122).run Tryz.prog w = .ok false w := Tryz.isAgg122 w
theorem sz_122 (w : World) : (sizeOf 122).run Tryz.prog w = .ok 1 w := Tryz.sizeOf122 w
theorem it_122 : ITy Tryz.prog 122 [.slice none 0 0] 24 := ⟨⟨_, (show Tryz.prog.info? 122 = some Tryz.t122 by kernel_rfl), rfl, rfl, _, rfl, rfl⟩⟩
theorem us_123 : (Tryz.prog.underlying 123).isSome = true := by rw [Tryz.underlying123]; rfl
theorem ag_123 (w : World) : (isAgg 123).run Tryz.prog w = .ok true w := Tryz.isAgg123 w
theorem sz_123 (w : World) : (sizeOf 123).run Tryz.prog w = .ok 3 w := Tryz.sizeOf123 w
theorem it_123 : ITy Tryz.prog 123 [.slice none 0 0, .slice none 0 0, .int .i64 0] 56 := ⟨⟨_, (show Tryz.prog.info? 123 = some Tryz.t123 by kernel_rfl), rfl, rfl, _, rfl, rfl⟩⟩
theorem us_124 : (Tryz.prog.underlying 124).isSome = true := by rw [Tryz.underlying124]; rfl
theorem ag_124 (w : World) : (isAgg 124).run Tryz.prog w = .ok true w := Tryz.isAgg124 w
theorem sz_124 (w : World) : (sizeOf 124).run Tryz.prog w = .ok 3 w := Tryz.sizeOf124 w
theorem it_124 : ITy Tryz.prog 124 [.slice none 0 0, .slice none 0 0, .int .i64 0] 56 := ⟨⟨_, (show Tryz.prog.info? 124 = some Tryz.t124 by kernel_rfl), rfl, rfl, _, rfl, rfl⟩⟩
theorem us_125 : (Tryz.prog.underlying 125).isSome = true := by rw [Tryz.underlying125]; rfl
theorem ag_125 (w : World) : (isAgg 125).run Tryz.prog w = .ok true w := Tryz.isAgg125 w
theorem sz_125 (w : World) : (sizeOf 125).run Tryz.prog w = .ok 3 w := Tryz.sizeOf125 w
theorem it_125 : ITy Tryz.prog 125 [.int .u32 0, .slice none 0 0, .slice none 0 0] 56 := ⟨⟨_, (show Tryz.prog.info? 125 = some Tryz.t125 by kernel_rfl), rfl, rfl, _, rfl, rfl⟩⟩
theorem us_126 : (Tryz.prog.underlying 126).isSome = true := by rw [Tryz.underlying126]; rfl
theorem ag_126 (w : World) : (isAgg 126).run Tryz.prog w = .ok true w := Tryz.isAgg126 w
theorem sz_126 (w : World) : (sizeOf 126).run Tryz.prog w = .ok 3 w := Tryz.sizeOf126 w
theorem it_126 : ITy Tryz.prog 126 [.int .u32 0, .slice none 0 0, .slice none 0 0] 56 := ⟨⟨_, (show Tryz.prog.info? 126 = some Tryz.t126 by kernel_rfl), rfl, rfl, _, rfl, rfl⟩⟩
theorem st_128 : STy Tryz.prog 128 132 3 := ⟨Tryz.underlying128, Tryz.sizeOf132⟩
theorem un_128 : Tryz.prog.underlying 128 = some (.slice 132) := Tryz.underlying128
theorem us_128 : (Tryz.prog.underlying 128).isSome = true := by rw [un_128]; rfl
theorem ag_128 (w : World) : (isAgg 128).run Tryz.prog w = .ok false w := Tryz.isAgg128 w
theorem sz_128 (w : World) : (sizeOf 128).run Tryz.prog w = .ok 1 w := Tryz.sizeOf128 w
theorem it_128 : ITy Tryz.prog 128 [.slice none 0 0] 24 := ⟨⟨_, (show Tryz.prog.info? 128 = some Tryz.t128 by kernel_rfl), rfl, rfl, _, rfl, rfl⟩⟩
theorem us_129 : (Tryz.prog.underlying 129).isSome = true := by rw [Tryz.underlying129]; rfl
theorem ag_129 (w : World) : (isAgg 129).run Tryz.prog w = .ok true w := Tryz.isAgg129 w
theorem sz_129 (w : World) : (sizeOf 129).run Tryz.prog w = .ok 3 w := Tryz.sizeOf129 w
theorem it_129 : ITy Tryz.prog 129 [.slice none 0 0, .slice none 0 0, .int .i64 0] 56 := ⟨⟨_, (show Tryz.prog.info? 129 = some Tryz.t129 by kernel_rfl), rfl, rfl, _, rfl, rfl⟩⟩
theorem us_130 : (Tryz.prog.underlying 130).isSome = true := by rw [Tryz.underlying130]; rfl
theorem ag_130 (w : World) : (isAgg 130).run Tryz.prog w = .ok true w := Tryz.isAgg130 w
theorem sz_130 (w : World) : (sizeOf 130).run Tryz.prog w = .ok 3 w := Tryz.sizeOf130 w
theorem it_130 : ITy Tryz.prog 130 [.slice none 0 0, .slice none 0 0, .int .i64 0] 56 := ⟨⟨_, (show Tryz.prog.info? 130 = some Tryz.t130 by kernel_rfl), rfl, rfl, _, rfl, rfl⟩⟩
theorem us_131 : (Tryz.prog.underlying 131).isSome = true := by rw [Tryz.underlying131]; rfl
theorem ag_131 (w : World) : (isAgg 131).run Tryz.prog w = .ok true w := Tryz.isAgg131 w
theorem sz_131 (w : World) : (sizeOf 131).run Tryz.prog w = .ok 3 w := Tryz.sizeOf131 w
theorem it_131 : ITy Tryz.prog 131 [.int .u32 0, .int .u32 0, .slice none 0 0] 32 := ⟨⟨_, (show Tryz.prog.info? 131 = some Tryz.t131 by kernel_rfl), rfl, rfl, _, rfl, rfl⟩⟩
theorem us_132 : (Tryz.prog.underlying 132).isSome = true := by rw [Tryz.underlying132]; rfl
theorem ag_132 (w : World) : (isAgg 132).run Tryz.prog w = .ok true w := Tryz.isAgg132 w
theorem sz_132 (w : World) : (sizeOf 132).run Tryz.prog w = .ok 3 w := Tryz.sizeOf132 w
theorem it_132 : ITy Tryz.prog 132 [.int .u32 0, .int .u32 0, .slice none 0 0] 32 := ⟨⟨_, (show Tryz.prog.info? 132 = some Tryz.t132 by kernel_rfl), rfl, rfl, _, rfl, rfl⟩⟩
theorem st_134 : STy Tryz.prog 134 138 4 := ⟨Tryz.underlying134, Tryz.sizeOf138⟩
theorem un_134 : Tryz.prog.underlying 134 = some (.slice 138) := Tryz.underlying134
theorem us_134 : (Tryz.prog.underlying 134).isSome = true := by rw [un_134]; rfl
theorem ag_134 (w : World) : (isAgg 134).run Tryz.prog w = .ok false w := Tryz.isAgg134 w
theorem sz_134 (w : World) : (sizeOf 134).run Tryz.prog w = .ok 1 w := Tryz.sizeOf134 w
theorem it_134 : ITy Tryz.prog 134 [.slice none 0 0] 24 := ⟨⟨_, (show Tryz.prog.info? 134 = some Tryz.t134 by kernel_rfl), rfl, rfl, _, rfl, rfl⟩⟩
theorem us_135 : (Tryz.prog.underlying 135).isSome = true := by rw [Tryz.underlying135]; rfl
theorem ag_135 (w : World) : (isAgg 135).run Tryz.prog w = .ok true w := Tryz.isAgg135 w
theorem sz_135 (w : World) : (sizeOf 135).run Tryz.prog w = .ok 3 w := Tryz.sizeOf135 w
theorem it_135 : ITy Tryz.prog 135 [.slice none 0 0, .slice none 0 0, .int .i64 0] 56 := ⟨⟨_, (show Tryz.prog.info? 135 = some Tryz.t135 by kernel_rfl), rfl, rfl, _, rfl, rfl⟩⟩
theorem us_136 : (Tryz.prog.underlying 136).isSome = true := by rw [Tryz.underlying136]; rfl
theorem ag_136 (w : World) : (isAgg 136).run Tryz.prog w = .ok true w := Tryz.isAgg136 w
theorem sz_136 (w : World) : (sizeOf 136).run Tryz.prog w = .ok 3 w := Tryz.sizeOf136 w
theorem it_136 : ITy Tryz.prog 136 [.slice none 0 0, .slice none 0 0, .int .i64 0] 56 := ⟨⟨_, (show Tryz.prog.info? 136 = some Tryz.t136 by kernel_rfl), rfl, rfl, _, rfl, rfl⟩⟩
theorem us_137 : (Tryz.prog.underlying 137).isSome = true := by rw [Tryz.underlying137]; rfl
theorem ag_137 (w : World) : (isAgg 137).run Tryz.prog w = .ok true w := Tryz.isAgg137 w
theorem sz_137 (w : World) : (sizeOf 137).run Tryz.prog w = .ok 4 w := Tryz.sizeOf137 w
theorem it_137 : ITy Tryz.prog 137 [.int .u32 0, .bool false, .int .u32 0, .slice none 0 0] 40 := ⟨⟨_, (show Tryz.prog.info? 137 = some Tryz.t137 by kernel_rfl), rfl, rfl, _, rfl, rfl⟩⟩
theorem us_138 : (Tryz.prog.underlying 138).isSome = true := by rw [Tryz.underlying138]; rfl
theorem ag_138 (w : World) : (isAgg 138).run Tryz.prog w = .ok true w := Tryz.isAgg138 w
theorem sz_138 (w : World) : (sizeOf 138).run Tryz.prog w = .ok 4 w := Tryz.sizeOf138 w
theorem it_138 : ITy Tryz.prog 138 [.int .u32 0, .bool false, .int .u32 0, .slice none 0 0] 40 := ⟨⟨_, (show Tryz.prog.info? 138 = some Tryz.t138 by kernel_rfl), rfl, rfl, _, rfl, rfl⟩⟩
theorem st_140 : STy Tryz.prog 140 144 3 := ⟨Tryz.underlying140, Tryz.sizeOf144⟩
theorem un_140 : Tryz.prog.underlying 140 = some (.slice 144) := Tryz.underlying140
theorem us_140 : (Tryz.prog.underlying 140).isSome = true := by rw [un_140]; rfl
theorem ag_140 (w : World) : (isAgg 140).run Tryz.prog w = .ok false w := Tryz.isAgg140 w
theorem sz_140 (w : World) : (sizeOf 140).run Tryz.prog w = .ok 1 w := Tryz.sizeOf140 w
theorem it_140 : ITy Tryz.prog 140 [.slice none 0 0] 24 := ⟨⟨_, (show Tryz.prog.info? 140 = some Tryz.t140 by kernel_rfl), rfl, rfl, _, rfl, rfl⟩⟩
theorem us_141 : (Tryz.prog.underlying 141).isSome = true := by rw [Tryz.underlying141]; rfl
theorem ag_141 (w : World) : (isAgg 141).run Tryz.prog w = .ok true w := Tryz.isAgg141 w
theorem sz_141 (w : World) : (sizeOf 141).run Tryz.prog w = .ok 3 w := Tryz.sizeOf141 w
theorem it_141 : ITy Tryz.prog 141 [.slice none 0 0, .slice none 0 0, .int .i64 0] 56 := ⟨⟨_, (show Tryz.prog.info? 141 = some Tryz.t141 by kernel_rfl), rfl, rfl, _, rfl, rfl⟩⟩
theorem us_142 : (Tryz.prog.underlying 142).isSome = true := by rw [Tryz.underlying142]; rfl
theorem ag_142 (w : World) : (isAgg 142).run Tryz.prog w = .ok true w := Tryz.isAgg142 w
theorem sz_142 (w : World) : (sizeOf 142).run Tryz.prog w = .ok 3 w := Tryz.sizeOf142 w
theorem it_142 : ITy Tryz.prog 142 [.slice none 0 0, .slice none 0 0, .int .i64 0] 56 := ⟨⟨_, (show Tryz.prog.info? 142 = some Tryz.t142 by kernel_rfl), rfl, rfl, _, rfl, rfl⟩⟩
theorem us_143 : (Tryz.prog.underlying 143).isSome = true := by rw [Tryz.underlying143]; rfl
theorem ag_143 (w : World) : (isAgg 143).run Tryz.prog w = .ok true w := Tryz.isAgg143 w
theorem sz_143 (w : World) : (sizeOf 143).run Tryz.prog w = .ok 3 w := Tryz.sizeOf143 w
theorem it_143 : ITy Tryz.prog 143 [.int .u32 0, .int .i64 0, .slice none 0 0] 40 := ⟨⟨_, (show Tryz.prog.info? 143 = some Tryz.t143 by kernel_rfl), rfl, rfl, _, rfl, rfl⟩⟩
theorem us_144 : (Tryz.prog.underlying 144).isSome = true := by rw [Tryz.underlying144]; rfl
theorem ag_144 (w : World) : (isAgg 144).run Tryz.prog w = .ok true w := Tryz.isAgg144 w
theorem sz_144 (w : World) : (sizeOf 144).run Tryz.prog w = .ok 3 w := Tryz.sizeOf144 w
theorem it_144 : ITy Tryz.prog 144 [.int .u32 0, .int .i64 0, .slice none 0 0] 40 := ⟨⟨_, (show Tryz.prog.info? 144 = some Tryz.t144 by kernel_rfl), rfl, rfl, _, rfl, rfl⟩⟩
theorem st_146 : STy Tryz.prog 146 22 1 := ⟨Tryz.underlying146, Tryz.sizeOf22⟩
theorem un_146 : Tryz.prog.underlying 146 = some (.slice 22) := Tryz.underlying146
theorem us_146 : (Tryz.prog.underlying 146).isSome = true := by rw [un_146]; rfl
theorem ag_146 (w : World) : (isAgg 146).run Tryz.prog w = .ok false w := Tryz.isAgg146 w
theorem sz_146 (w : World) : (sizeOf 146).run Tryz.prog w = .ok 1 w := Tryz.sizeOf146 w
theorem it_146 : ITy Tryz.prog 146 [.slice none 0 0] 24 := ⟨⟨_, (show Tryz.prog.info? 146 = some Tryz.t146 by kernel_rfl), rfl, rfl, _, rfl, rfl⟩⟩
theorem us_147 : (Tryz.prog.underlying 147).isSome = true := by rw [Tryz.underlying147]; rfl
theorem ag_147 (w : World) : (isAgg 147).run Tryz.prog w = .ok true w := Tryz.isAgg147 w
theorem sz_147 (w : World) : (sizeOf 147).run Tryz.prog w = .ok 3 w := Tryz.sizeOf147 w
theorem it_147 : ITy Tryz.prog 147 [.slice none 0 0, .slice none 0 0, .int .i64 0] 56 := ⟨⟨_, (show Tryz.prog.info? 147 = some Tryz.t147 by kernel_rfl), rfl, rfl, _, rfl, rfl⟩⟩
theorem us_148 : (Tryz.prog.underlying 148).isSome = true := by rw [Tryz.underlying148]; rfl
theorem ag_148 (w : World) : (isAgg 148).run Tryz.prog w = .ok true w := Tryz.isAgg148 w
theorem sz_148 (w : World) : (sizeOf 148).run Tryz.prog w = .ok 3 w := Tryz.sizeOf148 w
theorem it_148 : ITy Tryz.prog 148 [.slice none 0 0, .slice none 0 0, .int .i64 0] 56 := ⟨⟨_, (show Tryz.prog.info? 148 = some Tryz.t148 by kernel_rfl), rfl, rfl, _, rfl, rfl⟩⟩
theorem st_150 : STy Tryz.prog 150 80 1 := ⟨Tryz.underlying150, Tryz.sizeOf80⟩
theorem un_150 : Tryz.prog.underlying 150 = some (.slice 80) := Tryz.underlying150
theorem us_150 : (Tryz.prog.underlying 150).isSome = true := by rw [un_150]; rfl
theorem ag_150 (w : World) : (isAgg 150).run Tryz.prog w = .ok false w := Tryz.isAgg150 w
theorem sz_150 (w : World) : (sizeOf 150).run Tryz.prog w = .ok 1 w := Tryz.sizeOf150 w
theorem it_150 : ITy Tryz.prog 150 [.slice none 0 0] 24 := ⟨⟨_, (show Tryz.prog.info? 150 = some Tryz.t150 by kernel_rfl), rfl, rfl, _, rfl, rfl⟩⟩
theorem us_151 : (Tryz.prog.underlying 151).isSome = true := by rw [Tryz.underlying151]; rfl
theorem ag_151 (w : World) : (isAgg 151).run Tryz.prog w = .ok true w := Tryz.isAgg151 w
theorem sz_151 (w : World) : (sizeOf 151).run Tryz.prog w = .ok 3 w := Tryz.sizeOf151 w
theorem it_151 : ITy Tryz.prog 151 [.slice none 0 0, .slice none 0 0, .int .i64 0] 56 := ⟨⟨_, (show Tryz.prog.info? 151 = some Tryz.t151 by kernel_rfl), rfl, rfl, _, rfl, rfl⟩⟩
theorem us_152 : (Tryz.prog.underlying 152).isSome = true := by rw [Tryz.underlying152]; rfl
theorem ag_152 (w : World) : (isAgg 152).run Tryz.prog w = .ok true w := Tryz.isAgg152 w
theorem sz_152 (w : World) : (sizeOf 152).run Tryz.prog w = .ok 3 w := Tryz.sizeOf152 w
theorem it_152 : ITy Tryz.prog 152 [.slice none 0 0, .slice none 0 0, .int .i64 0] 56 := ⟨⟨_, (show Tryz.prog.info? 152 = some Tryz.t152 by kernel_rfl), rfl, rfl, _, rfl, rfl⟩⟩
theorem un_170 : Tryz.prog.underlying 170 = some (.array 24 5) := Tryz.underlying170
theorem us_170 : (Tryz.prog.underlying 170).isSome = true := by rw [un_170]; rfl
theorem ag_170 (w : World) : (isAgg 170).run Tryz.prog w = .ok true w := Tryz.isAgg170 w
theorem sz_170 (w : World) : (sizeOf 170).run Tryz.prog w = .ok 24 w := Tryz.sizeOf170 w
theorem un_171 : Tryz.prog.underlying 171 = some (.int .u64) := Tryz.underlying171
theorem us_171 : (Tryz.prog.underlying 171).isSome = true := by rw [un_171]; rfl
theorem ag_171 (w : World) : (isAgg 171).run Tryz.prog w = .ok false w := Tryz.isAgg171 w
theorem sz_171 (w : World) : (sizeOf 171).run Tryz.prog w = .ok 1 w := Tryz.sizeOf171 w
theorem it_171 : ITy Tryz.prog 171 [.int .u64 0] 8 := ⟨⟨_, (show Tryz.prog.info? 171 = some Tryz.t171 by kernel_rfl), rfl, rfl, _, rfl, rfl⟩⟩
theorem un_177 : Tryz.prog.underlying 177 = some (.array 20 171) := Tryz.underlying177
theorem us_177 : (Tryz.prog.underlying 177).isSome = true := by rw [un_177]; rfl
theorem ag_177 (w : World) : (isAgg 177).run Tryz.prog w = .ok true w := Tryz.isAgg177 w
theorem sz_177 (w : World) : (sizeOf 177).run Tryz.prog w = .ok 20 w := Tryz.sizeOf177 w
theorem un_178 : Tryz.prog.underlying 178 = some (.array 65 5) := Tryz.underlying178
theorem us_178 : (Tryz.prog.underlying 178).isSome = true := by rw [un_178]; rfl
theorem ag_178 (w : World) : (isAgg 178).run Tryz.prog w = .ok true w := Tryz.isAgg178 w
theorem sz_178 (w : World) : (sizeOf 178).run Tryz.prog w = .ok 65 w := Tryz.sizeOf178 w
theorem un_182 : Tryz.prog.underlying 182 = some (.array 32 5) := Tryz.underlying182
theorem us_182 : (Tryz.prog.underlying 182).isSome = true := by rw [un_182]; rfl
theorem ag_182 (w : World) : (isAgg 182).run Tryz.prog w = .ok true w := Tryz.isAgg182 w
theorem sz_182 (w : World) : (sizeOf 182).run Tryz.prog w = .ok 32 w := Tryz.sizeOf182 w
theorem un_183 : Tryz.prog.underlying 183 = some (.array 64 5) := Tryz.underlying183
theorem us_183 : (Tryz.prog.underlying 183).isSome = true := by rw [un_183]; rfl
theorem ag_183 (w : World) : (isAgg 183).run Tryz.prog w = .ok true w := Tryz.isAgg183 w
theorem sz_183 (w : World) : (sizeOf 183).run Tryz.prog w = .ok 64 w := Tryz.sizeOf183 w
theorem us_185 : (Tryz.prog.underlying 185).isSome = true := by rw [Tryz.underlying185]; rfl
theorem ag_185 (w : World) : (isAgg 185).run Tryz.prog w = .ok true w := Tryz.isAgg185 w
theorem sz_185 (w : World) : (sizeOf 185).run Tryz.prog w = .ok 4 w := Tryz.sizeOf185 w
theorem it_185 : ITy Tryz.prog 185 [.pointer none, .pointer none, .pointer none, .string ⟨#[]⟩] 40 := ⟨⟨_, (show Tryz.prog.info? 185 = some Tryz.t185 by kernel_rfl), rfl, rfl, _, rfl, rfl⟩⟩
theorem us_186 : (Tryz.prog.underlying 186).isSome = true := by rw [Tryz.underlying186]; rfl
theorem ag_186 (w : World) : (isAgg 186).run Tryz.prog w = .ok true w := Tryz.isAgg186 w
theorem sz_186 (w : World) : (sizeOf 186).run Tryz.prog w = .ok 4 w := Tryz.sizeOf186 w
theorem it_186 : ITy Tryz.prog 186 [.pointer none, .pointer none, .pointer none, .string ⟨#[]⟩] 40 := ⟨⟨_, (show Tryz.prog.info? 186 = some Tryz.t186 by kernel_rfl), rfl, rfl, _, rfl, rfl⟩⟩
theorem un_187 : Tryz.prog.underlying 187 = some (.array 0 16) := Tryz.underlying187
theorem us_187 : (Tryz.prog.underlying 187).isSome = true := by rw [un_187]; rfl
theorem ag_187 (w : World) : (isAgg 187).run Tryz.prog w = .ok true w := Tryz.isAgg187 w
theorem sz_187 (w : World) : (sizeOf 187).run Tryz.prog w = .ok 0 w := Tryz.sizeOf187 w
theorem it_187 : ITy Tryz.prog 187 [] 0 := ⟨⟨_, (show Tryz.prog.info? 187 = some Tryz.t187 by kernel_rfl), rfl, rfl, _, rfl, rfl⟩⟩
theorem us_188 : (Tryz.prog.underlying 188).isSome = true := by rw [Tryz.underlying188]; rfl
theorem ag_188 (w : World) : (isAgg 188).run Tryz.prog w = .ok true w := Tryz.isAgg188 w
theorem sz_188 (w : World) : (sizeOf 188).run Tryz.prog w = .ok 0 w := Tryz.sizeOf188 w
theorem it_188 : ITy Tryz.prog 188 [] 0 := ⟨⟨_, (show Tryz.prog.info? 188 = some Tryz.t188 by kernel_rfl), rfl, rfl, _, rfl, rfl⟩⟩
theorem us_189 : (Tryz.prog.underlying 189).isSome = true := by rw [Tryz.underlying189]; rfl
theorem ag_189 (w : World) : (isAgg 189).run Tryz.prog w = .ok true w := Tryz.isAgg189 w
theorem sz_189 (w : World) : (sizeOf 189).run Tryz.prog w = .ok 0 w := Tryz.sizeOf189 w
theorem it_189 : ITy Tryz.prog 189 [] 0 := ⟨⟨_, (show Tryz.prog.info? 189 = some Tryz.t189 by kernel_rfl), rfl, rfl, _, rfl, rfl⟩⟩
theorem un_191 : Tryz.prog.underlying 191 = some (.int .u8) := Tryz.underlying191
theorem us_191 : (Tryz.prog.underlying 191).isSome = true := by rw [un_191]; rfl
theorem ag_191 (w : World) : (isAgg 191).run Tryz.prog w = .ok false w := Tryz.isAgg191 w
theorem sz_191 (w : World) : (sizeOf 191).run Tryz.prog w = .ok 1 w := Tryz.sizeOf191 w
theorem it_191 : ITy Tryz.prog 191 [.int .u8 0] 1 := ⟨⟨_, (show Tryz.prog.info? 191 = some Tryz.t191 by kernel_rfl), rfl, rfl, _, rfl, rfl⟩⟩
theorem un_192 : Tryz.prog.underlying 192 = some (.int .u8) := Tryz.underlying192
theorem us_192 : (Tryz.prog.underlying 192).isSome = true := by rw [un_192]; rfl
theorem ag_192 (w : World) : (isAgg 192).run Tryz.prog w = .ok false w := Tryz.isAgg192 w
theorem sz_192 (w : World) : (sizeOf 192).run Tryz.prog w = .ok 1 w := Tryz.sizeOf192 w
theorem it_192 : ITy Tryz.prog 192 [.int .u8 0] 1 := ⟨⟨_, (show Tryz.prog.info? 192 = some Tryz.t192 by kernel_rfl), rfl, rfl, _, rfl, rfl⟩⟩
theorem us_193 : (Tryz.prog.underlying 193).isSome = true := by rw [Tryz.underlying193]; rfl
theorem ag_193 (w : World) : (isAgg 193).run Tryz.prog w = .ok false w := Tryz.isAgg193 w
theorem sz_193 (w : World) : (sizeOf 193).run Tryz.prog w = .ok 1 w := Tryz.sizeOf193 w
theorem it_193 : ITy Tryz.prog 193 [.nilFunc] 8 := ⟨⟨_, (show Tryz.prog.info? 193 = some Tryz.t193 by kernel_rfl), rfl, rfl, _, rfl, rfl⟩⟩
theorem un_194 : Tryz.prog.underlying 194 = some (.pointer 5) := Tryz.underlying194
theorem us_194 : (Tryz.prog.underlying 194).isSome = true := by rw [un_194]; rfl
theorem ag_194 (w : World) : (isAgg 194).run Tryz.prog w = .ok false w := Tryz.isAgg194 w
theorem sz_194 (w : World) : (sizeOf 194).run Tryz.prog w = .ok 1 w := Tryz.sizeOf194 w
theorem it_194 : ITy Tryz.prog 194 [.pointer none] 8 := ⟨⟨_, (show Tryz.prog.info? 194 = some Tryz.t194 by kernel_rfl), rfl, rfl, _, rfl, rfl⟩⟩
theorem un_195 : Tryz.prog.underlying 195 = some (.int .i32) := Tryz.underlying195
theorem us_195 : (Tryz.prog.underlying 195).isSome = true := by rw [un_195]; rfl
theorem ag_195 (w : World) : (isAgg 195).run Tryz.prog w = .ok false w := Tryz.isAgg195 w
theorem sz_195 (w : World) : (sizeOf 195).run Tryz.prog w = .ok 1 w := Tryz.sizeOf195 w
theorem it_195 : ITy Tryz.prog 195 [.int .i32 0] 4 := ⟨⟨_, (show Tryz.prog.info? 195 = some Tryz.t195 by kernel_rfl), rfl, rfl, _, rfl, rfl⟩⟩
theorem un_196 : Tryz.prog.underlying 196 = some (.int .i32) := Tryz.underlying196
theorem us_196 : (Tryz.prog.underlying 196).isSome = true := by rw [un_196]; rfl
theorem ag_196 (w : World) : (isAgg 196).run Tryz.prog w = .ok false w := Tryz.isAgg196 w
theorem sz_196 (w : World) : (sizeOf 196).run Tryz.prog w = .ok 1 w := Tryz.sizeOf196 w
theorem it_196 : ITy Tryz.prog 196 [.int .i32 0] 4 := ⟨⟨_, (show Tryz.prog.info? 196 = some Tryz.t196 by kernel_rfl), rfl, rfl, _, rfl, rfl⟩⟩
theorem us_197 : (Tryz.prog.underlying 197).isSome = true := by rw [Tryz.underlying197]; rfl
theorem ag_197 (w : World) : (isAgg 197).run Tryz.prog w = .ok true w := Tryz.isAgg197 w
theorem sz_197 (w : World) : (sizeOf 197).run Tryz.prog w = .ok 11 w := Tryz.sizeOf197 w
theorem it_197 : ITy Tryz.prog 197 [.int .u64 0, .int .u64 0, .int .u32 0, .int .u8 0, .int .u8 0, .int .u8 0, .int .u8 0, .nilFunc, .pointer none, .int .i32 0, .int .i32 0] 48 := ⟨⟨_, (show Tryz.prog.info? 197 = some Tryz.t197 by kernel_rfl), rfl, rfl, _, rfl, rfl⟩⟩
theorem us_198 : (Tryz.prog.underlying 198).isSome = true := by rw [Tryz.underlying198]; rfl
theorem ag_198 (w : World) : (isAgg 198).run Tryz.prog w = .ok true w := Tryz.isAgg198 w
theorem sz_198 (w : World) : (sizeOf 198).run Tryz.prog w = .ok 11 w := Tryz.sizeOf198 w
theorem it_198 : ITy Tryz.prog 198 [.int .u64 0, .int .u64 0, .int .u32 0, .int .u8 0, .int .u8 0, .int .u8 0, .int .u8 0, .nilFunc, .pointer none, .int .i32 0, .int .i32 0] 48 := ⟨⟨_, (show Tryz.prog.info? 198 = some Tryz.t198 by kernel_rfl), rfl, rfl, _, rfl, rfl⟩⟩
end Go.Proofs.YthgckokpdgiilaaGreatDoor
