/- Closed facts on the types of this seat: printed by a program of ours. -/
import Derived.Test.YtdliencelkdibaaGreatDoorReg
import Derived.Test.YtdliencelkdibaaGreatDoorProg
namespace Go.Proofs.YtdliencelkdibaaGreatDoor
open Go Go.Dd
set_option maxRecDepth 100000

theorem mixed : Tryz.prog.follows .mixedOrders = true := by kernel_rfl
theorem us_1 : (Tryz.prog.underlying 1).isSome = true := by rw [Tryz.underlying1]; rfl
theorem ag_1 (w : World) : (isAgg 1).run Tryz.prog w = .ok false w := Tryz.isAgg1 w
theorem sz_1 (w : World) : (sizeOf 1).run Tryz.prog w = .ok 1 w := Tryz.sizeOf1 w
theorem it_1 : ITy Tryz.prog 1 [.nilFunc] 8 := ⟨⟨_, (show Tryz.prog.info? 1 = some Tryz.t1 by kernel_rfl), rfl, rfl, _, rfl, rfl⟩⟩
theorem un_2 : Tryz.prog.underlying 2 = some (.int .i64) := Tryz.underlying2
theorem us_2 : (Tryz.prog.underlying 2).isSome = true := by rw [un_2]; rfl
theorem ag_2 (w : World) : (isAgg 2).run Tryz.prog w = .ok false w := Tryz.isAgg2 w
theorem sz_2 (w : World) : (sizeOf 2).run Tryz.prog w = .ok 1 w := Tryz.sizeOf2 w
theorem it_2 : ITy Tryz.prog 2 [.int .i64 0] 8 := ⟨⟨_, (show Tryz.prog.info? 2 = some Tryz.t2 by kernel_rfl), rfl, rfl, _, rfl, rfl⟩⟩
theorem un_3 : Tryz.prog.underlying 3 = some (.int .i64) := Tryz.underlying3
theorem us_3 : (Tryz.prog.underlying 3).isSome = true := by rw [un_3]; rfl
theorem ag_3 (w : World) : (isAgg 3).run Tryz.prog w = .ok false w := Tryz.isAgg3 w
theorem sz_3 (w : World) : (sizeOf 3).run Tryz.prog w = .ok 1 w := Tryz.sizeOf3 w
theorem it_3 : ITy Tryz.prog 3 [.int .i64 0] 8 := ⟨⟨_, (show Tryz.prog.info? 3 = some Tryz.t3 by kernel_rfl), rfl, rfl, _, rfl, rfl⟩⟩
theorem un_4 : Tryz.prog.underlying 4 = some (.bool) := Tryz.underlying4
theorem us_4 : (Tryz.prog.underlying 4).isSome = true := by rw [un_4]; rfl
theorem ag_4 (w : World) : (isAgg 4).run Tryz.prog w = .ok false w := Tryz.isAgg4 w
theorem sz_4 (w : World) : (sizeOf 4).run Tryz.prog w = .ok 1 w := Tryz.sizeOf4 w
theorem it_4 : ITy Tryz.prog 4 [.bool false] 1 := ⟨⟨_, (show Tryz.prog.info? 4 = some Tryz.t4 by kernel_rfl), rfl, rfl, _, rfl, rfl⟩⟩
theorem un_5 : Tryz.prog.underlying 5 = some (.int .u8) := Tryz.underlying5
theorem us_5 : (Tryz.prog.underlying 5).isSome = true := by rw [un_5]; rfl
theorem ag_5 (w : World) : (isAgg 5).run Tryz.prog w = .ok false w := Tryz.isAgg5 w
theorem sz_5 (w : World) : (sizeOf 5).run Tryz.prog w = .ok 1 w := Tryz.sizeOf5 w
theorem it_5 : ITy Tryz.prog 5 [.int .u8 0] 1 := ⟨⟨_, (show Tryz.prog.info? 5 = some Tryz.t5 by kernel_rfl), rfl, rfl, _, rfl, rfl⟩⟩
theorem un_6 : Tryz.prog.underlying 6 = some (.int .u8) := Tryz.underlying6
theorem us_6 : (Tryz.prog.underlying 6).isSome = true := by rw [un_6]; rfl
theorem ag_6 (w : World) : (isAgg 6).run Tryz.prog w = .ok false w := Tryz.isAgg6 w
theorem sz_6 (w : World) : (sizeOf 6).run Tryz.prog w = .ok 1 w := Tryz.sizeOf6 w
theorem it_6 : ITy Tryz.prog 6 [.int .u8 0] 1 := ⟨⟨_, (show Tryz.prog.info? 6 = some Tryz.t6 by kernel_rfl), rfl, rfl, _, rfl, rfl⟩⟩
theorem us_7 : (Tryz.prog.underlying 7).isSome = true := by rw [Tryz.underlying7]; rfl
theorem ag_7 (w : World) : (isAgg 7).run Tryz.prog w = .ok true w := Tryz.isAgg7 w
theorem sz_7 (w : World) : (sizeOf 7).run Tryz.prog w = .ok 4 w := Tryz.sizeOf7 w
theorem it_7 : ITy Tryz.prog 7 [.int .i64 0, .int .i64 0, .bool false, .int .u8 0] 24 := ⟨⟨_, (show Tryz.prog.info? 7 = some Tryz.t7 by kernel_rfl), rfl, rfl, _, rfl, rfl⟩⟩
theorem us_8 : (Tryz.prog.underlying 8).isSome = true := by rw [Tryz.underlying8]; rfl
theorem ag_8 (w : World) : (isAgg 8).run Tryz.prog w = .ok true w := Tryz.isAgg8 w
theorem sz_8 (w : World) : (sizeOf 8).run Tryz.prog w = .ok 4 w := Tryz.sizeOf8 w
theorem it_8 : ITy Tryz.prog 8 [.int .i64 0, .int .i64 0, .bool false, .int .u8 0] 24 := ⟨⟨_, (show Tryz.prog.info? 8 = some Tryz.t8 by kernel_rfl), rfl, rfl, _, rfl, rfl⟩⟩
theorem un_9 : Tryz.prog.underlying 9 = some (.string) := Tryz.underlying9
theorem us_9 : (Tryz.prog.underlying 9).isSome = true := by rw [un_9]; rfl
theorem ag_9 (w : World) : (isAgg 9).run Tryz.prog w = .ok false w := Tryz.isAgg9 w
theorem sz_9 (w : World) : (sizeOf 9).run Tryz.prog w = .ok 1 w := Tryz.sizeOf9 w
theorem it_9 : ITy Tryz.prog 9 [.string ⟨#[]⟩] 16 := ⟨⟨_, (show Tryz.prog.info? 9 = some Tryz.t9 by kernel_rfl), rfl, rfl, _, rfl, rfl⟩⟩
theorem un_10 : Tryz.prog.underlying 10 = some (.string) := Tryz.underlying10
theorem us_10 : (Tryz.prog.underlying 10).isSome = true := by rw [un_10]; rfl
theorem ag_10 (w : World) : (isAgg 10).run Tryz.prog w = .ok false w := Tryz.isAgg10 w
theorem sz_10 (w : World) : (sizeOf 10).run Tryz.prog w = .ok 1 w := Tryz.sizeOf10 w
theorem it_10 : ITy Tryz.prog 10 [.string ⟨#[]⟩] 16 := ⟨⟨_, (show Tryz.prog.info? 10 = some Tryz.t10 by kernel_rfl), rfl, rfl, _, rfl, rfl⟩⟩
theorem un_11 : Tryz.prog.underlying 11 = some (.string) := Tryz.underlying11
theorem us_11 : (Tryz.prog.underlying 11).isSome = true := by rw [un_11]; rfl
theorem ag_11 (w : World) : (isAgg 11).run Tryz.prog w = .ok false w := Tryz.isAgg11 w
theorem sz_11 (w : World) : (sizeOf 11).run Tryz.prog w = .ok 1 w := Tryz.sizeOf11 w
theorem it_11 : ITy Tryz.prog 11 [.string ⟨#[]⟩] 16 := ⟨⟨_, (show Tryz.prog.info? 11 = some Tryz.t11 by kernel_rfl), rfl, rfl, _, rfl, rfl⟩⟩
theorem un_12 : Tryz.prog.underlying 12 = some (.int .u64) := Tryz.underlying12
theorem us_12 : (Tryz.prog.underlying 12).isSome = true := by rw [un_12]; rfl
theorem ag_12 (w : World) : (isAgg 12).run Tryz.prog w = .ok false w := Tryz.isAgg12 w
theorem sz_12 (w : World) : (sizeOf 12).run Tryz.prog w = .ok 1 w := Tryz.sizeOf12 w
theorem it_12 : ITy Tryz.prog 12 [.int .u64 0] 8 := ⟨⟨_, (show Tryz.prog.info? 12 = some Tryz.t12 by kernel_rfl), rfl, rfl, _, rfl, rfl⟩⟩
theorem us_13 : (Tryz.prog.underlying 13).isSome = true := by rw [Tryz.underlying13]; rfl
theorem ag_13 (w : World) : (isAgg 13).run Tryz.prog w = .ok true w := Tryz.isAgg13 w
theorem sz_13 (w : World) : (sizeOf 13).run Tryz.prog w = .ok 2 w := Tryz.sizeOf13 w
theorem it_13 : ITy Tryz.prog 13 [.string ⟨#[]⟩, .int .u64 0] 24 := ⟨⟨_, (show Tryz.prog.info? 13 = some Tryz.t13 by kernel_rfl), rfl, rfl, _, rfl, rfl⟩⟩
theorem us_14 : (Tryz.prog.underlying 14).isSome = true := by rw [Tryz.underlying14]; rfl
theorem ag_14 (w : World) : (isAgg 14).run Tryz.prog w = .ok true w := Tryz.isAgg14 w
theorem sz_14 (w : World) : (sizeOf 14).run Tryz.prog w = .ok 2 w := Tryz.sizeOf14 w
theorem it_14 : ITy Tryz.prog 14 [.string ⟨#[]⟩, .int .u64 0] 24 := ⟨⟨_, (show Tryz.prog.info? 14 = some Tryz.t14 by kernel_rfl), rfl, rfl, _, rfl, rfl⟩⟩
theorem un_15 : Tryz.prog.underlying 15 = some (.pointer 179) := Tryz.underlying15
theorem us_15 : (Tryz.prog.underlying 15).isSome = true := by rw [un_15]; rfl
theorem ag_15 (w : World) : (isAgg 15).run Tryz.prog w = .ok false w := Tryz.isAgg15 w
theorem sz_15 (w : World) : (sizeOf 15).run Tryz.prog w = .ok 1 w := Tryz.sizeOf15 w
theorem it_15 : ITy Tryz.prog 15 [.pointer none] 8 := ⟨⟨_, (show Tryz.prog.info? 15 = some Tryz.t15 by kernel_rfl), rfl, rfl, _, rfl, rfl⟩⟩
theorem un_16 : Tryz.prog.underlying 16 = some (.pointer 182) := Tryz.underlying16
theorem us_16 : (Tryz.prog.underlying 16).isSome = true := by rw [un_16]; rfl
theorem ag_16 (w : World) : (isAgg 16).run Tryz.prog w = .ok false w := Tryz.isAgg16 w
theorem sz_16 (w : World) : (sizeOf 16).run Tryz.prog w = .ok 1 w := Tryz.sizeOf16 w
theorem it_16 : ITy Tryz.prog 16 [.pointer none] 8 := ⟨⟨_, (show Tryz.prog.info? 16 = some Tryz.t16 by kernel_rfl), rfl, rfl, _, rfl, rfl⟩⟩
theorem un_17 : Tryz.prog.underlying 17 = some (.pointer 191) := Tryz.underlying17
theorem us_17 : (Tryz.prog.underlying 17).isSome = true := by rw [un_17]; rfl
theorem ag_17 (w : World) : (isAgg 17).run Tryz.prog w = .ok false w := Tryz.isAgg17 w
theorem sz_17 (w : World) : (sizeOf 17).run Tryz.prog w = .ok 1 w := Tryz.sizeOf17 w
theorem it_17 : ITy Tryz.prog 17 [.pointer none] 8 := ⟨⟨_, (show Tryz.prog.info? 17 = some Tryz.t17 by kernel_rfl), rfl, rfl, _, rfl, rfl⟩⟩
theorem us_18 : (Tryz.prog.underlying 18).isSome = true := by rw [Tryz.underlying18]; rfl
theorem ag_18 (w : World) : (isAgg 18).run Tryz.prog w = .ok true w := Tryz.isAgg18 w
theorem sz_18 (w : World) : (sizeOf 18).run Tryz.prog w = .ok 1 w := Tryz.sizeOf18 w
theorem it_18 : ITy Tryz.prog 18 [.pointer none] 8 := ⟨⟨_, (show Tryz.prog.info? 18 = some Tryz.t18 by kernel_rfl), rfl, rfl, _, rfl, rfl⟩⟩
theorem us_19 : (Tryz.prog.underlying 19).isSome = true := by rw [Tryz.underlying19]; rfl
theorem ag_19 (w : World) : (isAgg 19).run Tryz.prog w = .ok true w := Tryz.isAgg19 w
theorem sz_19 (w : World) : (sizeOf 19).run Tryz.prog w = .ok 1 w := Tryz.sizeOf19 w
theorem it_19 : ITy Tryz.prog 19 [.pointer none] 8 := ⟨⟨_, (show Tryz.prog.info? 19 = some Tryz.t19 by kernel_rfl), rfl, rfl, _, rfl, rfl⟩⟩
theorem us_20 : (Tryz.prog.underlying 20).isSome = true := by rw [Tryz.underlying20]; rfl
theorem ag_20 (w : World) : (isAgg 20).run Tryz.prog w = .ok false w := Tryz.isAgg20 w
theorem sz_20 (w : World) : (sizeOf 20).run Tryz.prog w = .ok 1 w := Tryz.sizeOf20 w
theorem it_20 : ITy Tryz.prog 20 [.nilIface] 16 := ⟨⟨_, (show Tryz.prog.info? 20 = some Tryz.t20 by kernel_rfl), rfl, rfl, _, rfl, rfl⟩⟩
theorem un_21 : Tryz.prog.underlying 21 = some (.int .i32) := Tryz.underlying21
theorem us_21 : (Tryz.prog.underlying 21).isSome = true := by rw [un_21]; rfl
theorem ag_21 (w : World) : (isAgg 21).run Tryz.prog w = .ok false w := Tryz.isAgg21 w
theorem sz_21 (w : World) : (sizeOf 21).run Tryz.prog w = .ok 1 w := Tryz.sizeOf21 w
theorem it_21 : ITy Tryz.prog 21 [.int .i32 0] 4 := ⟨⟨_, (show Tryz.prog.info? 21 = some Tryz.t21 by kernel_rfl), rfl, rfl, _, rfl, rfl⟩⟩
theorem st_22 : STy Tryz.prog 22 3 1 := ⟨Tryz.underlying22, Tryz.sizeOf3⟩
theorem un_22 : Tryz.prog.underlying 22 = some (.slice 3) := Tryz.underlying22
theorem us_22 : (Tryz.prog.underlying 22).isSome = true := by rw [un_22]; rfl
theorem ag_22 (w : World) : (isAgg 22).run Tryz.prog w = .ok false w := Tryz.isAgg22 w
theorem sz_22 (w : World) : (sizeOf 22).run Tryz.prog w = .ok 1 w := Tryz.sizeOf22 w
theorem it_22 : ITy Tryz.prog 22 [.slice none 0 0] 24 := ⟨⟨_, (show Tryz.prog.info? 22 = some Tryz.t22 by kernel_rfl), rfl, rfl, _, rfl, rfl⟩⟩
theorem st_23 : STy Tryz.prog 23 21 1 := ⟨Tryz.underlying23, Tryz.sizeOf21⟩
theorem un_23 : Tryz.prog.underlying 23 = some (.slice 21) := Tryz.underlying23
theorem us_23 : (Tryz.prog.underlying 23).isSome = true := by rw [un_23]; rfl
theorem ag_23 (w : World) : (isAgg 23).run Tryz.prog w = .ok false w := Tryz.isAgg23 w
theorem sz_23 (w : World) : (sizeOf 23).run Tryz.prog w = .ok 1 w := Tryz.sizeOf23 w
theorem it_23 : ITy Tryz.prog 23 [.slice none 0 0] 24 := ⟨⟨_, (show Tryz.prog.info? 23 = some Tryz.t23 by kernel_rfl), rfl, rfl, _, rfl, rfl⟩⟩
theorem us_24 : (Tryz.prog.underlying 24).isSome = true := by rw [Tryz.underlying24]; rfl
theorem ag_24 (w : World) : (isAgg 24).run Tryz.prog w = .ok true w := Tryz.isAgg24 w
theorem sz_24 (w : World) : (sizeOf 24).run Tryz.prog w = .ok 2 w := Tryz.sizeOf24 w
theorem it_24 : ITy Tryz.prog 24 [.slice none 0 0, .slice none 0 0] 48 := ⟨⟨_, (show Tryz.prog.info? 24 = some Tryz.t24 by kernel_rfl), rfl, rfl, _, rfl, rfl⟩⟩
theorem us_25 : (Tryz.prog.underlying 25).isSome = true := by rw [Tryz.underlying25]; rfl
theorem ag_25 (w : World) : (isAgg 25).run Tryz.prog w = .ok true w := Tryz.isAgg25 w
theorem sz_25 (w : World) : (sizeOf 25).run Tryz.prog w = .ok 2 w := Tryz.sizeOf25 w
theorem it_25 : ITy Tryz.prog 25 [.slice none 0 0, .slice none 0 0] 48 := ⟨⟨_, (show Tryz.prog.info? 25 = some Tryz.t25 by kernel_rfl), rfl, rfl, _, rfl, rfl⟩⟩
theorem un_26 : Tryz.prog.underlying 26 = some (.array 2 22) := Tryz.underlying26
theorem us_26 : (Tryz.prog.underlying 26).isSome = true := by rw [un_26]; rfl
theorem ag_26 (w : World) : (isAgg 26).run Tryz.prog w = .ok true w := Tryz.isAgg26 w
theorem sz_26 (w : World) : (sizeOf 26).run Tryz.prog w = .ok 2 w := Tryz.sizeOf26 w
theorem it_26 : ITy Tryz.prog 26 [.slice none 0 0, .slice none 0 0] 48 := ⟨⟨_, (show Tryz.prog.info? 26 = some Tryz.t26 by kernel_rfl), rfl, rfl, _, rfl, rfl⟩⟩
theorem un_31 : Tryz.prog.underlying 31 = some (.int .i64) := Tryz.underlying31
theorem us_31 : (Tryz.prog.underlying 31).isSome = true := by rw [un_31]; rfl
theorem ag_31 (w : World) : (isAgg 31).run Tryz.prog w = .ok false w := Tryz.isAgg31 w
theorem sz_31 (w : World) : (sizeOf 31).run Tryz.prog w = .ok 1 w := Tryz.sizeOf31 w
theorem it_31 : ITy Tryz.prog 31 [.int .i64 0] 8 := ⟨⟨_, (show Tryz.prog.info? 31 = some Tryz.t31 by kernel_rfl), rfl, rfl, _, rfl, rfl⟩⟩
theorem st_38 : STy Tryz.prog 38 74 3 := ⟨Tryz.underlying38, Tryz.sizeOf74⟩
theorem un_38 : Tryz.prog.underlying 38 = some (.slice 74) := Tryz.underlying38
theorem us_38 : (Tryz.prog.underlying 38).isSome = true := by rw [un_38]; rfl
theorem ag_38 (w : World) : (isAgg 38).run Tryz.prog w = .ok false w := Tryz.isAgg38 w
theorem sz_38 (w : World) : (sizeOf 38).run Tryz.prog w = .ok 1 w := Tryz.sizeOf38 w
theorem it_38 : ITy Tryz.prog 38 [.slice none 0 0] 24 := ⟨⟨_, (show Tryz.prog.info? 38 = some Tryz.t38 by kernel_rfl), rfl, rfl, _, rfl, rfl⟩⟩
theorem st_39 : STy Tryz.prog 39 71 3 := ⟨Tryz.underlying39, Tryz.sizeOf71⟩
theorem un_39 : Tryz.prog.underlying 39 = some (.slice 71) := Tryz.underlying39
theorem us_39 : (Tryz.prog.underlying 39).isSome = true := by rw [un_39]; rfl
theorem ag_39 (w : World) : (isAgg 39).run Tryz.prog w = .ok false w := Tryz.isAgg39 w
theorem sz_39 (w : World) : (sizeOf 39).run Tryz.prog w = .ok 1 w := Tryz.sizeOf39 w
theorem it_39 : ITy Tryz.prog 39 [.slice none 0 0] 24 := ⟨⟨_, (show Tryz.prog.info? 39 = some Tryz.t39 by kernel_rfl), rfl, rfl, _, rfl, rfl⟩⟩
theorem st_40 : STy Tryz.prog 40 78 3 := ⟨Tryz.underlying40, Tryz.sizeOf78⟩
theorem un_40 : Tryz.prog.underlying 40 = some (.slice 78) := Tryz.underlying40
theorem us_40 : (Tryz.prog.underlying 40).isSome = true := by rw [un_40]; rfl
theorem ag_40 (w : World) : (isAgg 40).run Tryz.prog w = .ok false w := Tryz.isAgg40 w
theorem sz_40 (w : World) : (sizeOf 40).run Tryz.prog w = .ok 1 w := Tryz.sizeOf40 w
theorem it_40 : ITy Tryz.prog 40 [.slice none 0 0] 24 := ⟨⟨_, (show Tryz.prog.info? 40 = some Tryz.t40 by kernel_rfl), rfl, rfl, _, rfl, rfl⟩⟩
theorem st_41 : STy Tryz.prog 41 82 3 := ⟨Tryz.underlying41, Tryz.sizeOf82⟩
theorem un_41 : Tryz.prog.underlying 41 = some (.slice 82) := Tryz.underlying41
theorem us_41 : (Tryz.prog.underlying 41).isSome = true := by rw [un_41]; rfl
theorem ag_41 (w : World) : (isAgg 41).run Tryz.prog w = .ok false w := Tryz.isAgg41 w
theorem sz_41 (w : World) : (sizeOf 41).run Tryz.prog w = .ok 1 w := Tryz.sizeOf41 w
theorem it_41 : ITy Tryz.prog 41 [.slice none 0 0] 24 := ⟨⟨_, (show Tryz.prog.info? 41 = some Tryz.t41 by kernel_rfl), rfl, rfl, _, rfl, rfl⟩⟩
theorem st_42 : STy Tryz.prog 42 87 3 := ⟨Tryz.underlying42, Tryz.sizeOf87⟩
theorem un_42 : Tryz.prog.underlying 42 = some (.slice 87) := Tryz.underlying42
theorem us_42 : (Tryz.prog.underlying 42).isSome = true := by rw [un_42]; rfl
theorem ag_42 (w : World) : (isAgg 42).run Tryz.prog w = .ok false w := Tryz.isAgg42 w
theorem sz_42 (w : World) : (sizeOf 42).run Tryz.prog w = .ok 1 w := Tryz.sizeOf42 w
theorem it_42 : ITy Tryz.prog 42 [.slice none 0 0] 24 := ⟨⟨_, (show Tryz.prog.info? 42 = some Tryz.t42 by kernel_rfl), rfl, rfl, _, rfl, rfl⟩⟩
theorem st_43 : STy Tryz.prog 43 91 3 := ⟨Tryz.underlying43, Tryz.sizeOf91⟩
theorem un_43 : Tryz.prog.underlying 43 = some (.slice 91) := Tryz.underlying43
theorem us_43 : (Tryz.prog.underlying 43).isSome = true := by rw [un_43]; rfl
theorem ag_43 (w : World) : (isAgg 43).run Tryz.prog w = .ok false w := Tryz.isAgg43 w
theorem sz_43 (w : World) : (sizeOf 43).run Tryz.prog w = .ok 1 w := Tryz.sizeOf43 w
theorem it_43 : ITy Tryz.prog 43 [.slice none 0 0] 24 := ⟨⟨_, (show Tryz.prog.info? 43 = some Tryz.t43 by kernel_rfl), rfl, rfl, _, rfl, rfl⟩⟩
theorem st_44 : STy Tryz.prog 44 95 3 := ⟨Tryz.underlying44, Tryz.sizeOf95⟩
theorem un_44 : Tryz.prog.underlying 44 = some (.slice 95) := Tryz.underlying44
theorem us_44 : (Tryz.prog.underlying 44).isSome = true := by rw [un_44]; rfl
theorem ag_44 (w : World) : (isAgg 44).run Tryz.prog w = .ok false w := Tryz.isAgg44 w
theorem sz_44 (w : World) : (sizeOf 44).run Tryz.prog w = .ok 1 w := Tryz.sizeOf44 w
theorem it_44 : ITy Tryz.prog 44 [.slice none 0 0] 24 := ⟨⟨_, (show Tryz.prog.info? 44 = some Tryz.t44 by kernel_rfl), rfl, rfl, _, rfl, rfl⟩⟩
theorem st_45 : STy Tryz.prog 45 102 3 := ⟨Tryz.underlying45, Tryz.sizeOf102⟩
theorem un_45 : Tryz.prog.underlying 45 = some (.slice 102) := Tryz.underlying45
theorem us_45 : (Tryz.prog.underlying 45).isSome = true := by rw [un_45]; rfl
theorem ag_45 (w : World) : (isAgg 45).run Tryz.prog w = .ok false w := Tryz.isAgg45 w
theorem sz_45 (w : World) : (sizeOf 45).run Tryz.prog w = .ok 1 w := Tryz.sizeOf45 w
theorem it_45 : ITy Tryz.prog 45 [.slice none 0 0] 24 := ⟨⟨_, (show Tryz.prog.info? 45 = some Tryz.t45 by kernel_rfl), rfl, rfl, _, rfl, rfl⟩⟩
theorem st_46 : STy Tryz.prog 46 109 3 := ⟨Tryz.underlying46, Tryz.sizeOf109⟩
theorem un_46 : Tryz.prog.underlying 46 = some (.slice 109) := Tryz.underlying46
theorem us_46 : (Tryz.prog.underlying 46).isSome = true := by rw [un_46]; rfl
theorem ag_46 (w : World) : (isAgg 46).run Tryz.prog w = .ok false w := Tryz.isAgg46 w
theorem sz_46 (w : World) : (sizeOf 46).run Tryz.prog w = .ok 1 w := Tryz.sizeOf46 w
theorem it_46 : ITy Tryz.prog 46 [.slice none 0 0] 24 := ⟨⟨_, (show Tryz.prog.info? 46 = some Tryz.t46 by kernel_rfl), rfl, rfl, _, rfl, rfl⟩⟩
theorem st_47 : STy Tryz.prog 47 115 3 := ⟨Tryz.underlying47, Tryz.sizeOf115⟩
theorem un_47 : Tryz.prog.underlying 47 = some (.slice 115) := Tryz.underlying47
theorem us_47 : (Tryz.prog.underlying 47).isSome = true := by rw [un_47]; rfl
theorem ag_47 (w : World) : (isAgg 47).run Tryz.prog w = .ok false w := Tryz.isAgg47 w
theorem sz_47 (w : World) : (sizeOf 47).run Tryz.prog w = .ok 1 w := Tryz.sizeOf47 w
theorem it_47 : ITy Tryz.prog 47 [.slice none 0 0] 24 := ⟨⟨_, (show Tryz.prog.info? 47 = some Tryz.t47 by kernel_rfl), rfl, rfl, _, rfl, rfl⟩⟩
theorem st_48 : STy Tryz.prog 48 121 3 := ⟨Tryz.underlying48, Tryz.sizeOf121⟩
theorem un_48 : Tryz.prog.underlying 48 = some (.slice 121) := Tryz.underlying48
theorem us_48 : (Tryz.prog.underlying 48).isSome = true := by rw [un_48]; rfl
theorem ag_48 (w : World) : (isAgg 48).run Tryz.prog w = .ok false w := Tryz.isAgg48 w
theorem sz_48 (w : World) : (sizeOf 48).run Tryz.prog w = .ok 1 w := Tryz.sizeOf48 w
theorem it_48 : ITy Tryz.prog 48 [.slice none 0 0] 24 := ⟨⟨_, (show Tryz.prog.info? 48 = some Tryz.t48 by kernel_rfl), rfl, rfl, _, rfl, rfl⟩⟩
theorem st_49 : STy Tryz.prog 49 127 3 := ⟨Tryz.underlying49, Tryz.sizeOf127⟩
theorem un_49 : Tryz.prog.underlying 49 = some (.slice 127) := Tryz.underlying49
theorem us_49 : (Tryz.prog.underlying 49).isSome = true := by rw [un_49]; rfl
theorem ag_49 (w : World) : (isAgg 49).run Tryz.prog w = .ok false w := Tryz.isAgg49 w
theorem sz_49 (w : World) : (sizeOf 49).run Tryz.prog w = .ok 1 w := Tryz.sizeOf49 w
theorem it_49 : ITy Tryz.prog 49 [.slice none 0 0] 24 := ⟨⟨_, (show Tryz.prog.info? 49 = some Tryz.t49 by kernel_rfl), rfl, rfl, _, rfl, rfl⟩⟩
theorem st_50 : STy Tryz.prog 50 133 3 := ⟨Tryz.underlying50, Tryz.sizeOf133⟩
theorem un_50 : Tryz.prog.underlying 50 = some (.slice 133) := Tryz.underlying50
theorem us_50 : (Tryz.prog.underlying 50).isSome = true := by rw [un_50]; rfl
theorem ag_50 (w : World) : (isAgg 50).run Tryz.prog w = .ok false w := Tryz.isAgg50 w
theorem sz_50 (w : World) : (sizeOf 50).run Tryz.prog w = .ok 1 w := Tryz.sizeOf50 w
theorem it_50 : ITy Tryz.prog 50 [.slice none 0 0] 24 := ⟨⟨_, (show Tryz.prog.info? 50 = some Tryz.t50 by kernel_rfl), rfl, rfl, _, rfl, rfl⟩⟩
theorem st_51 : STy Tryz.prog 51 139 3 := ⟨Tryz.underlying51, Tryz.sizeOf139⟩
theorem un_51 : Tryz.prog.underlying 51 = some (.slice 139) := Tryz.underlying51
theorem us_51 : (Tryz.prog.underlying 51).isSome = true := by rw [un_51]; rfl
theorem ag_51 (w : World) : (isAgg 51).run Tryz.prog w = .ok false w := Tryz.isAgg51 w
theorem sz_51 (w : World) : (sizeOf 51).run Tryz.prog w = .ok 1 w := Tryz.sizeOf51 w
theorem it_51 : ITy Tryz.prog 51 [.slice none 0 0] 24 := ⟨⟨_, (show Tryz.prog.info? 51 = some Tryz.t51 by kernel_rfl), rfl, rfl, _, rfl, rfl⟩⟩
theorem st_52 : STy Tryz.prog 52 143 3 := ⟨Tryz.underlying52, Tryz.sizeOf143⟩
theorem un_52 : Tryz.prog.underlying 52 = some (.slice 143) := Tryz.underlying52
theorem us_52 : (Tryz.prog.underlying 52).isSome = true := by rw [un_52]; rfl
theorem ag_52 (w : World) : (isAgg 52).run Tryz.prog w = .ok false w := Tryz.isAgg52 w
theorem sz_52 (w : World) : (sizeOf 52).run Tryz.prog w = .ok 1 w := Tryz.sizeOf52 w
theorem it_52 : ITy Tryz.prog 52 [.slice none 0 0] 24 := ⟨⟨_, (show Tryz.prog.info? 52 = some Tryz.t52 by kernel_rfl), rfl, rfl, _, rfl, rfl⟩⟩
theorem us_53 : (Tryz.prog.underlying 53).isSome = true := by rw [Tryz.underlying53]; rfl
theorem ag_53 (w : World) : (isAgg 53).run Tryz.prog w = .ok true w := Tryz.isAgg53 w
theorem sz_53 (w : World) : (sizeOf 53).run Tryz.prog w = .ok 16 w := Tryz.sizeOf53 w
theorem it_53 : ITy Tryz.prog 53 [.int .i64 0, .slice none 0 0, .slice none 0 0, .slice none 0 0, .slice none 0 0, .slice none 0 0, .slice none 0 0, .slice none 0 0, .slice none 0 0, .slice none 0 0, .slice none 0 0, .slice none 0 0, .slice none 0 0, .slice none 0 0, .slice none 0 0, .slice none 0 0] 368 := ⟨⟨_, (show Tryz.prog.info? 53 = some Tryz.t53 by kernel_rfl), rfl, rfl, _, rfl, rfl⟩⟩
theorem us_54 : (Tryz.prog.underlying 54).isSome = true := by rw [Tryz.underlying54]; rfl
theorem ag_54 (w : World) : (isAgg 54).run Tryz.prog w = .ok true w := Tryz.isAgg54 w
theorem sz_54 (w : World) : (sizeOf 54).run Tryz.prog w = .ok 16 w := Tryz.sizeOf54 w
theorem it_54 : ITy Tryz.prog 54 [.int .i64 0, .slice none 0 0, .slice none 0 0, .slice none 0 0, .slice none 0 0, .slice none 0 0, .slice none 0 0, .slice none 0 0, .slice none 0 0, .slice none 0 0, .slice none 0 0, .slice none 0 0, .slice none 0 0, .slice none 0 0, .slice none 0 0, .slice none 0 0] 368 := ⟨⟨_, (show Tryz.prog.info? 54 = some Tryz.t54 by kernel_rfl), rfl, rfl, _, rfl, rfl⟩⟩
theorem us_64 : (Tryz.prog.underlying 64).isSome = true := by rw [Tryz.underlying64]; rfl
theorem ag_64 (w : World) : (isAgg 64).run Tryz.prog w = .ok false w := Tryz.isAgg64 w
theorem sz_64 (w : World) : (sizeOf 64).run Tryz.prog w = .ok 1 w := Tryz.sizeOf64 w
theorem it_64 : ITy Tryz.prog 64 [.nilFunc] 8 := ⟨⟨_, (show Tryz.prog.info? 64 = some Tryz.t64 by kernel_rfl), rfl, rfl, _, rfl, rfl⟩⟩
theorem un_68 : Tryz.prog.underlying 68 = some (.pointer 54) := Tryz.underlying68
theorem us_68 : (Tryz.prog.underlying 68).isSome = true := by rw [un_68]; rfl
theorem ag_68 (w : World) : (isAgg 68).run Tryz.prog w = .ok false w := Tryz.isAgg68 w
theorem sz_68 (w : World) : (sizeOf 68).run Tryz.prog w = .ok 1 w := Tryz.sizeOf68 w
theorem it_68 : ITy Tryz.prog 68 [.pointer none] 8 := ⟨⟨_, (show Tryz.prog.info? 68 = some Tryz.t68 by kernel_rfl), rfl, rfl, _, rfl, rfl⟩⟩
theorem us_70 : (Tryz.prog.underlying 70).isSome = true := by rw [Tryz.underlying70]; rfl
theorem ag_70 (w : World) : (isAgg 70).run Tryz.prog w = .ok true w := Tryz.isAgg70 w
theorem sz_70 (w : World) : (sizeOf 70).run Tryz.prog w = .ok 3 w := Tryz.sizeOf70 w
theorem it_70 : ITy Tryz.prog 70 [.slice none 0 0, .slice none 0 0, .int .i64 0] 56 := ⟨⟨_, (show Tryz.prog.info? 70 = some Tryz.t70 by kernel_rfl), rfl, rfl, _, rfl, rfl⟩⟩
theorem us_71 : (Tryz.prog.underlying 71).isSome = true := by rw [Tryz.underlying71]; rfl
theorem ag_71 (w : World) : (isAgg 71).run Tryz.prog w = .ok true w := Tryz.isAgg71 w
theorem sz_71 (w : World) : (sizeOf 71).run Tryz.prog w = .ok 3 w := Tryz.sizeOf71 w
theorem it_71 : ITy Tryz.prog 71 [.slice none 0 0, .slice none 0 0, .int .i64 0] 56 := ⟨⟨_, (show Tryz.prog.info? 71 = some Tryz.t71 by kernel_rfl), rfl, rfl, _, rfl, rfl⟩⟩
theorem st_72 : STy Tryz.prog 72 5 1 := ⟨Tryz.underlying72, Tryz.sizeOf5⟩
theorem un_72 : Tryz.prog.underlying 72 = some (.slice 5) := Tryz.underlying72
theorem us_72 : (Tryz.prog.underlying 72).isSome = true := by rw [un_72]; rfl
theorem ag_72 (w : World) : (isAgg 72).run Tryz.prog w = .ok false w := Tryz.isAgg72 w
theorem sz_72 (w : World) : (sizeOf 72).run Tryz.prog w = .ok 1 w := Tryz.sizeOf72 w
theorem it_72 : ITy Tryz.prog 72 [.slice none 0 0] 24 := ⟨⟨_, (show Tryz.prog.info? 72 = some Tryz.t72 by kernel_rfl), rfl, rfl, _, rfl, rfl⟩⟩
theorem us_73 : (Tryz.prog.underlying 73).isSome = true := by rw [Tryz.underlying73]; rfl
theorem ag_73 (w : World) : (isAgg 73).run Tryz.prog w = .ok true w := Tryz.isAgg73 w
theorem sz_73 (w : World) : (sizeOf 73).run Tryz.prog w = .ok 3 w := Tryz.sizeOf73 w
theorem it_73 : ITy Tryz.prog 73 [.slice none 0 0, .slice none 0 0, .int .i64 0] 56 := ⟨⟨_, (show Tryz.prog.info? 73 = some Tryz.t73 by kernel_rfl), rfl, rfl, _, rfl, rfl⟩⟩
theorem us_74 : (Tryz.prog.underlying 74).isSome = true := by rw [Tryz.underlying74]; rfl
theorem ag_74 (w : World) : (isAgg 74).run Tryz.prog w = .ok true w := Tryz.isAgg74 w
theorem sz_74 (w : World) : (sizeOf 74).run Tryz.prog w = .ok 3 w := Tryz.sizeOf74 w
theorem it_74 : ITy Tryz.prog 74 [.slice none 0 0, .slice none 0 0, .int .i64 0] 56 := ⟨⟨_, (show Tryz.prog.info? 74 = some Tryz.t74 by kernel_rfl), rfl, rfl, _, rfl, rfl⟩⟩
theorem us_77 : (Tryz.prog.underlying 77).isSome = true := by rw [Tryz.underlying77]; rfl
theorem ag_77 (w : World) : (isAgg 77).run Tryz.prog w = .ok true w := Tryz.isAgg77 w
theorem sz_77 (w : World) : (sizeOf 77).run Tryz.prog w = .ok 3 w := Tryz.sizeOf77 w
theorem it_77 : ITy Tryz.prog 77 [.slice none 0 0, .slice none 0 0, .int .i64 0] 56 := ⟨⟨_, (show Tryz.prog.info? 77 = some Tryz.t77 by kernel_rfl), rfl, rfl, _, rfl, rfl⟩⟩
theorem us_78 : (Tryz.prog.underlying 78).isSome = true := by rw [Tryz.underlying78]; rfl
theorem ag_78 (w : World) : (isAgg 78).run Tryz.prog w = .ok true w := Tryz.isAgg78 w
theorem sz_78 (w : World) : (sizeOf 78).run Tryz.prog w = .ok 3 w := Tryz.sizeOf78 w
theorem it_78 : ITy Tryz.prog 78 [.slice none 0 0, .slice none 0 0, .int .i64 0] 56 := ⟨⟨_, (show Tryz.prog.info? 78 = some Tryz.t78 by kernel_rfl), rfl, rfl, _, rfl, rfl⟩⟩
theorem st_80 : STy Tryz.prog 80 83 1 := ⟨Tryz.underlying80, Tryz.sizeOf83⟩
theorem un_80 : Tryz.prog.underlying 80 = some (.slice 83) := Tryz.underlying80
theorem us_80 : (Tryz.prog.underlying 80).isSome = true := by rw [un_80]; rfl
theorem ag_80 (w : World) : (isAgg 80).run Tryz.prog w = .ok false w := Tryz.isAgg80 w
theorem sz_80 (w : World) : (sizeOf 80).run Tryz.prog w = .ok 1 w := Tryz.sizeOf80 w
theorem it_80 : ITy Tryz.prog 80 [.slice none 0 0] 24 := ⟨⟨_, (show Tryz.prog.info? 80 = some Tryz.t80 by kernel_rfl), rfl, rfl, _, rfl, rfl⟩⟩
theorem us_81 : (Tryz.prog.underlying 81).isSome = true := by rw [Tryz.underlying81]; rfl
theorem ag_81 (w : World) : (isAgg 81).run Tryz.prog w = .ok true w := Tryz.isAgg81 w
theorem sz_81 (w : World) : (sizeOf 81).run Tryz.prog w = .ok 3 w := Tryz.sizeOf81 w
theorem it_81 : ITy Tryz.prog 81 [.slice none 0 0, .slice none 0 0, .int .i64 0] 56 := ⟨⟨_, (show Tryz.prog.info? 81 = some Tryz.t81 by kernel_rfl), rfl, rfl, _, rfl, rfl⟩⟩
theorem us_82 : (Tryz.prog.underlying 82).isSome = true := by rw [Tryz.underlying82]; rfl
theorem ag_82 (w : World) : (isAgg 82).run Tryz.prog w = .ok true w := Tryz.isAgg82 w
theorem sz_82 (w : World) : (sizeOf 82).run Tryz.prog w = .ok 3 w := Tryz.sizeOf82 w
theorem it_82 : ITy Tryz.prog 82 [.slice none 0 0, .slice none 0 0, .int .i64 0] 56 := ⟨⟨_, (show Tryz.prog.info? 82 = some Tryz.t82 by kernel_rfl), rfl, rfl, _, rfl, rfl⟩⟩
theorem un_83 : Tryz.prog.underlying 83 = some (.int .u32) := Tryz.underlying83
theorem us_83 : (Tryz.prog.underlying 83).isSome = true := by rw [un_83]; rfl
theorem ag_83 (w : World) : (isAgg 83).run Tryz.prog w = .ok false w := Tryz.isAgg83 w
theorem sz_83 (w : World) : (sizeOf 83).run Tryz.prog w = .ok 1 w := Tryz.sizeOf83 w
theorem it_83 : ITy Tryz.prog 83 [.int .u32 0] 4 := ⟨⟨_, (show Tryz.prog.info? 83 = some Tryz.t83 by kernel_rfl), rfl, rfl, _, rfl, rfl⟩⟩
theorem st_85 : STy Tryz.prog 85 9 1 := ⟨Tryz.underlying85, Tryz.sizeOf9⟩
theorem un_85 : Tryz.prog.underlying 85 = some (.slice 9) := Tryz.underlying85
theorem us_85 : (Tryz.prog.underlying 85).isSome = true := by rw [un_85]; rfl
theorem ag_85 (w : World) : (isAgg 85).run Tryz.prog w = .ok false w := Tryz.isAgg85 w
theorem sz_85 (w : World) : (sizeOf 85).run Tryz.prog w = .ok 1 w := Tryz.sizeOf85 w
theorem it_85 : ITy Tryz.prog 85 [.slice none 0 0] 24 := ⟨⟨_, (show Tryz.prog.info? 85 = some Tryz.t85 by kernel_rfl), rfl, rfl, _, rfl, rfl⟩⟩
theorem us_86 : (Tryz.prog.underlying 86).isSome = true := by rw [Tryz.underlying86]; rfl
theorem ag_86 (w : World) : (isAgg 86).run Tryz.prog w = .ok true w := Tryz.isAgg86 w
theorem sz_86 (w : World) : (sizeOf 86).run Tryz.prog w = .ok 3 w := Tryz.sizeOf86 w
theorem it_86 : ITy Tryz.prog 86 [.slice none 0 0, .slice none 0 0, .int .i64 0] 56 := ⟨⟨_, (show Tryz.prog.info? 86 = some Tryz.t86 by kernel_rfl), rfl, rfl, _, rfl, rfl⟩⟩
theorem us_87 : (Tryz.prog.underlying 87).isSome = true := by rw [Tryz.underlying87]; rfl
theorem ag_87 (w : World) : (isAgg 87).run Tryz.prog w = .ok true w := Tryz.isAgg87 w
theorem sz_87 (w : World) : (sizeOf 87).run Tryz.prog w = .ok 3 w := Tryz.sizeOf87 w
theorem it_87 : ITy Tryz.prog 87 [.slice none 0 0, .slice none 0 0, .int .i64 0] 56 := ⟨⟨_, (show Tryz.prog.info? 87 = some Tryz.t87 by kernel_rfl), rfl, rfl, _, rfl, rfl⟩⟩
theorem st_89 : STy Tryz.prog 89 25 2 := ⟨Tryz.underlying89, Tryz.sizeOf25⟩
theorem un_89 : Tryz.prog.underlying 89 = some (.slice 25) := Tryz.underlying89
theorem us_89 : (Tryz.prog.underlying 89).isSome = true := by rw [un_89]; rfl
theorem ag_89 (w : World) : (isAgg 89).run Tryz.prog w = .ok false w := Tryz.isAgg89 w
theorem sz_89 (w : World) : (sizeOf 89).run Tryz.prog w = .ok 1 w := Tryz.sizeOf89 w
theorem it_89 : ITy Tryz.prog 89 [.slice none 0 0] 24 := ⟨⟨_, (show Tryz.prog.info? 89 = some Tryz.t89 by kernel_rfl), rfl, rfl, _, rfl, rfl⟩⟩
theorem us_90 : (Tryz.prog.underlying 90).isSome = true := by rw [Tryz.underlying90]; rfl
theorem ag_90 (w : World) : (isAgg 90).run Tryz.prog w = .ok true w := Tryz.isAgg90 w
theorem sz_90 (w : World) : (sizeOf 90).run Tryz.prog w = .ok 3 w := Tryz.sizeOf90 w
theorem it_90 : ITy Tryz.prog 90 [.slice none 0 0, .slice none 0 0, .int .i64 0] 56 := ⟨⟨_, (show Tryz.prog.info? 90 = some Tryz.t90 by kernel_rfl), rfl, rfl, _, rfl, rfl⟩⟩
theorem us_91 : (Tryz.prog.underlying 91).isSome = true := by rw [Tryz.underlying91]; rfl
theorem ag_91 (w : World) : (isAgg 91).run Tryz.prog w = .ok true w := Tryz.isAgg91 w
theorem sz_91 (w : World) : (sizeOf 91).run Tryz.prog w = .ok 3 w := Tryz.sizeOf91 w
theorem it_91 : ITy Tryz.prog 91 [.slice none 0 0, .slice none 0 0, .int .i64 0] 56 := ⟨⟨_, (show Tryz.prog.info? 91 = some Tryz.t91 by kernel_rfl), rfl, rfl, _, rfl, rfl⟩⟩
theorem st_93 : STy Tryz.prog 93 98 5 := ⟨Tryz.underlying93, Tryz.sizeOf98⟩
theorem un_93 : Tryz.prog.underlying 93 = some (.slice 98) := Tryz.underlying93
theorem us_93 : (Tryz.prog.underlying 93).isSome = true := by rw [un_93]; rfl
theorem ag_93 (w : World) : (isAgg 93).run Tryz.prog w = .ok false w := Tryz.isAgg93 w
theorem sz_93 (w : World) : (sizeOf 93).run Tryz.prog w = .ok 1 w := Tryz.sizeOf93 w
theorem it_93 : ITy Tryz.prog 93 [.slice none 0 0] 24 := ⟨⟨_, (show Tryz.prog.info? 93 = some Tryz.t93 by kernel_rfl), rfl, rfl, _, rfl, rfl⟩⟩
theorem us_94 : (Tryz.prog.underlying 94).isSome = true := by rw [Tryz.underlying94]; rfl
theorem ag_94 (w : World) : (isAgg 94).run Tryz.prog w = .ok true w := Tryz.isAgg94 w
theorem sz_94 (w : World) : (sizeOf 94).run Tryz.prog w = .ok 3 w := Tryz.sizeOf94 w
theorem it_94 : ITy Tryz.prog 94 [.slice none 0 0, .slice none 0 0, .int .i64 0] 56 := ⟨⟨_, (show Tryz.prog.info? 94 = some Tryz.t94 by kernel_rfl), rfl, rfl, _, rfl, rfl⟩⟩
theorem us_95 : (Tryz.prog.underlying 95).isSome = true := by rw [Tryz.underlying95]; rfl
theorem ag_95 (w : World) : (isAgg 95).run Tryz.prog w = .ok true w := Tryz.isAgg95 w
theorem sz_95 (w : World) : (sizeOf 95).run Tryz.prog w = .ok 3 w := Tryz.sizeOf95 w
theorem it_95 : ITy Tryz.prog 95 [.slice none 0 0, .slice none 0 0, .int .i64 0] 56 := ⟨⟨_, (show Tryz.prog.info? 95 = some Tryz.t95 by kernel_rfl), rfl, rfl, _, rfl, rfl⟩⟩
theorem un_96 : Tryz.prog.underlying 96 = some (.int .u8) := Tryz.underlying96
theorem us_96 : (Tryz.prog.underlying 96).isSome = true := by rw [un_96]; rfl
theorem ag_96 (w : World) : (isAgg 96).run Tryz.prog w = .ok false w := Tryz.isAgg96 w
theorem sz_96 (w : World) : (sizeOf 96).run Tryz.prog w = .ok 1 w := Tryz.sizeOf96 w
theorem it_96 : ITy Tryz.prog 96 [.int .u8 0] 1 := ⟨⟨_, (show Tryz.prog.info? 96 = some Tryz.t96 by kernel_rfl), rfl, rfl, _, rfl, rfl⟩⟩
theorem us_97 : (Tryz.prog.underlying 97).isSome = true := by rw [Tryz.underlying97]; rfl
theorem ag_97 (w : World) : (isAgg 97).run Tryz.prog w = .ok true w := Tryz.isAgg97 w
theorem sz_97 (w : World) : (sizeOf 97).run Tryz.prog w = .ok 5 w := Tryz.sizeOf97 w
theorem it_97 : ITy Tryz.prog 97 [.int .u8 0, .slice none 0 0, .slice none 0 0, .int .i64 0, .int .i64 0] 72 := ⟨⟨_, (show Tryz.prog.info? 97 = some Tryz.t97 by kernel_rfl), rfl, rfl, _, rfl, rfl⟩⟩
theorem us_98 : (Tryz.prog.underlying 98).isSome = true := by rw [Tryz.underlying98]; rfl
theorem ag_98 (w : World) : (isAgg 98).run Tryz.prog w = .ok true w := Tryz.isAgg98 w
theorem sz_98 (w : World) : (sizeOf 98).run Tryz.prog w = .ok 5 w := Tryz.sizeOf98 w
theorem it_98 : ITy Tryz.prog 98 [.int .u8 0, .slice none 0 0, .slice none 0 0, .int .i64 0, .int .i64 0] 72 := ⟨⟨_, (show Tryz.prog.info? 98 = some Tryz.t98 by kernel_rfl), rfl, rfl, _, rfl, rfl⟩⟩
theorem st_100 : STy Tryz.prog 100 105 2 := ⟨Tryz.underlying100, Tryz.sizeOf105⟩
theorem un_100 : Tryz.prog.underlying 100 = some (.slice 105) := Tryz.underlying100
theorem us_100 : (Tryz.prog.underlying 100).isSome = true := by rw [un_100]; rfl
theorem ag_100 (w : World) : (isAgg 100).run Tryz.prog w = .ok false w := Tryz.isAgg100 w
theorem sz_100 (w : World) : (sizeOf 100).run Tryz.prog w = .ok 1 w := Tryz.sizeOf100 w
theorem it_100 : ITy Tryz.prog 100 [.slice none 0 0] 24 := ⟨⟨_, (show Tryz.prog.info? 100 = some Tryz.t100 by kernel_rfl), rfl, rfl, _, rfl, rfl⟩⟩
theorem us_101 : (Tryz.prog.underlying 101).isSome = true := by rw [Tryz.underlying101]; rfl
theorem ag_101 (w : World) : (isAgg 101).run Tryz.prog w = .ok true w := Tryz.isAgg101 w
theorem sz_101 (w : World) : (sizeOf 101).run Tryz.prog w = .ok 3 w := Tryz.sizeOf101 w
theorem it_101 : ITy Tryz.prog 101 [.slice none 0 0, .slice none 0 0, .int .i64 0] 56 := ⟨⟨_, (show Tryz.prog.info? 101 = some Tryz.t101 by kernel_rfl), rfl, rfl, _, rfl, rfl⟩⟩
theorem us_102 : (Tryz.prog.underlying 102).isSome = true := by rw [Tryz.underlying102]; rfl
theorem ag_102 (w : World) : (isAgg 102).run Tryz.prog w = .ok true w := Tryz.isAgg102 w
theorem sz_102 (w : World) : (sizeOf 102).run Tryz.prog w = .ok 3 w := Tryz.sizeOf102 w
theorem it_102 : ITy Tryz.prog 102 [.slice none 0 0, .slice none 0 0, .int .i64 0] 56 := ⟨⟨_, (show Tryz.prog.info? 102 = some Tryz.t102 by kernel_rfl), rfl, rfl, _, rfl, rfl⟩⟩
theorem un_103 : Tryz.prog.underlying 103 = some (.int .u8) := Tryz.underlying103
theorem us_103 : (Tryz.prog.underlying 103).isSome = true := by rw [un_103]; rfl
theorem ag_103 (w : World) : (isAgg 103).run Tryz.prog w = .ok false w := Tryz.isAgg103 w
theorem sz_103 (w : World) : (sizeOf 103).run Tryz.prog w = .ok 1 w := Tryz.sizeOf103 w
theorem it_103 : ITy Tryz.prog 103 [.int .u8 0] 1 := ⟨⟨_, (show Tryz.prog.info? 103 = some Tryz.t103 by kernel_rfl), rfl, rfl, _, rfl, rfl⟩⟩
theorem us_104 : (Tryz.prog.underlying 104).isSome = true := by rw [Tryz.underlying104]; rfl
theorem ag_104 (w : World) : (isAgg 104).run Tryz.prog w = .ok true w := Tryz.isAgg104 w
theorem sz_104 (w : World) : (sizeOf 104).run Tryz.prog w = .ok 2 w := Tryz.sizeOf104 w
theorem it_104 : ITy Tryz.prog 104 [.int .u8 0, .int .i64 0] 16 := ⟨⟨_, (show Tryz.prog.info? 104 = some Tryz.t104 by kernel_rfl), rfl, rfl, _, rfl, rfl⟩⟩
theorem us_105 : (Tryz.prog.underlying 105).isSome = true := by rw [Tryz.underlying105]; rfl
theorem ag_105 (w : World) : (isAgg 105).run Tryz.prog w = .ok true w := Tryz.isAgg105 w
theorem sz_105 (w : World) : (sizeOf 105).run Tryz.prog w = .ok 2 w := Tryz.sizeOf105 w
theorem it_105 : ITy Tryz.prog 105 [.int .u8 0, .int .i64 0] 16 := ⟨⟨_, (show Tryz.prog.info? 105 = some Tryz.t105 by kernel_rfl), rfl, rfl, _, rfl, rfl⟩⟩
theorem st_107 : STy Tryz.prog 107 111 3 := ⟨Tryz.underlying107, Tryz.sizeOf111⟩
theorem un_107 : Tryz.prog.underlying 107 = some (.slice 111) := Tryz.underlying107
theorem us_107 : (Tryz.prog.underlying 107).isSome = true := by rw [un_107]; rfl
theorem ag_107 (w : World) : (isAgg 107).run Tryz.prog w = .ok false w := Tryz.isAgg107 w
theorem sz_107 (w : World) : (sizeOf 107).run Tryz.prog w = .ok 1 w := Tryz.sizeOf107 w
theorem it_107 : ITy Tryz.prog 107 [.slice none 0 0] 24 := ⟨⟨_, (show Tryz.prog.info? 107 = some Tryz.t107 by kernel_rfl), rfl, rfl, _, rfl, rfl⟩⟩
theorem us_108 : (Tryz.prog.underlying 108).isSome = true := by rw [Tryz.underlying108]; rfl
theorem ag_108 (w : World) : (isAgg 108).run Tryz.prog w = .ok true w := Tryz.isAgg108 w
theorem sz_108 (w : World) : (sizeOf 108).run Tryz.prog w = .ok 3 w := Tryz.sizeOf108 w
theorem it_108 : ITy Tryz.prog 108 [.slice none 0 0, .slice none 0 0, .int .i64 0] 56 := ⟨⟨_, (show Tryz.prog.info? 108 = some Tryz.t108 by kernel_rfl), rfl, rfl, _, rfl, rfl⟩⟩
theorem us_109 : (Tryz.prog.underlying 109).isSome = true := by rw [Tryz.underlying109]; rfl
theorem ag_109 (w : World) : (isAgg 109).run Tryz.prog w = .ok true w := Tryz.isAgg109 w
theorem sz_109 (w : World) : (sizeOf 109).run Tryz.prog w = .ok 3 w := Tryz.sizeOf109 w
theorem it_109 : ITy Tryz.prog 109 [.slice none 0 0, .slice none 0 0, .int .i64 0] 56 := ⟨⟨_, (show Tryz.prog.info? 109 = some Tryz.t109 by kernel_rfl), rfl, rfl, _, rfl, rfl⟩⟩
theorem us_110 : (Tryz.prog.underlying 110).isSome = true := by rw [Tryz.underlying110]; rfl
theorem ag_110 (w : World) : (isAgg 110).run Tryz.prog w = .ok true w := Tryz.isAgg110 w
theorem sz_110 (w : World) : (sizeOf 110).run Tryz.prog w = .ok 3 w := Tryz.sizeOf110 w
theorem it_110 : ITy Tryz.prog 110 [.int .i64 0, .int .i64 0, .int .i64 0] 24 := ⟨⟨_, (show Tryz.prog.info? 110 = some Tryz.t110 by kernel_rfl), rfl, rfl, _, rfl, rfl⟩⟩
theorem us_111 : (Tryz.prog.underlying 111).isSome = true := by rw [Tryz.underlying111]; rfl
theorem ag_111 (w : World) : (isAgg 111).run Tryz.prog w = .ok true w := Tryz.isAgg111 w
theorem sz_111 (w : World) : (sizeOf 111).run Tryz.prog w = .ok 3 w := Tryz.sizeOf111 w
theorem it_111 : ITy Tryz.prog 111 [.int .i64 0, .int .i64 0, .int .i64 0] 24 := ⟨⟨_, (show Tryz.prog.info? 111 = some Tryz.t111 by kernel_rfl), rfl, rfl, _, rfl, rfl⟩⟩
theorem st_113 : STy Tryz.prog 113 117 3 := ⟨Tryz.underlying113, Tryz.sizeOf117⟩
theorem un_113 : Tryz.prog.underlying 113 = some (.slice 117) := Tryz.underlying113
theorem us_113 : (Tryz.prog.underlying 113).isSome = true := by rw [un_113]; rfl
theorem ag_113 (w : World) : (isAgg 113).run Tryz.prog w = .ok false w := Tryz.isAgg113 w
theorem sz_113 (w : World) : (sizeOf 113).run Tryz.prog w = .ok 1 w := Tryz.sizeOf113 w
theorem it_113 : ITy Tryz.prog 113 [.slice none 0 0] 24 := ⟨⟨_, (show Tryz.prog.info? 113 = some Tryz.t113 by kernel_rfl), rfl, rfl, _, rfl, rfl⟩⟩
theorem us_114 : (Tryz.prog.underlying 114).isSome = true := by rw [Tryz.underlying114]; rfl
theorem ag_114 (w : World) : (isAgg 114).run Tryz.prog w = .ok true w := Tryz.isAgg114 w
theorem sz_114 (w : World) : (sizeOf 114).run Tryz.prog w = .ok 3 w := Tryz.sizeOf114 w
theorem it_114 : ITy Tryz.prog 114 [.slice none 0 0, .slice none 0 0, .int .i64 0] 56 := ⟨⟨_, (show Tryz.prog.info? 114 = some Tryz.t114 by kernel_rfl), rfl, rfl, _, rfl, rfl⟩⟩
theorem us_115 : (Tryz.prog.underlying 115).isSome = true := by rw [Tryz.underlying115]; rfl
theorem ag_115 (w : World) : (isAgg 115).run Tryz.prog w = .ok true w := Tryz.isAgg115 w
theorem sz_115 (w : World) : (sizeOf 115).run Tryz.prog w = .ok 3 w := Tryz.sizeOf115 w
theorem it_115 : ITy Tryz.prog 115 [.slice none 0 0, .slice none 0 0, .int .i64 0] 56 := ⟨⟨_, (show Tryz.prog.info? 115 = some Tryz.t115 by kernel_rfl), rfl, rfl, _, rfl, rfl⟩⟩
theorem us_116 : (Tryz.prog.underlying 116).isSome = true := by rw [Tryz.underlying116]; rfl
theorem ag_116 (w : World) : (isAgg 116).run Tryz.prog w = .ok true w := Tryz.isAgg116 w
theorem sz_116 (w : World) : (sizeOf 116).run Tryz.prog w = .ok 3 w := Tryz.sizeOf116 w
theorem it_116 : ITy Tryz.prog 116 [.int .u32 0, .slice none 0 0, .slice none 0 0] 56 := ⟨⟨_, (show Tryz.prog.info? 116 = some Tryz.t116 by kernel_rfl), rfl, rfl, _, rfl, rfl⟩⟩
theorem us_117 : (Tryz.prog.underlying 117).isSome = true := by rw [Tryz.underlying117]; rfl
theorem ag_117 (w : World) : (isAgg 117).run Tryz.prog w = .ok true w := Tryz.isAgg117 w
theorem sz_117 (w : World) : (sizeOf 117).run Tryz.prog w = .ok 3 w := Tryz.sizeOf117 w
theorem it_117 : ITy Tryz.prog 117 [.int .u32 0, .slice none 0 0, .slice none 0 0] 56 := ⟨⟨_, (show Tryz.prog.info? 117 = some Tryz.t117 by kernel_rfl), rfl, rfl, _, rfl, rfl⟩⟩
theorem st_119 : STy Tryz.prog 119 123 3 := ⟨Tryz.underlying119, Tryz.sizeOf123⟩
theorem un_119 : Tryz.prog.underlying 119 = some (.slice 123) := Tryz.underlying119
theorem us_119 : (Tryz.prog.underlying 119).isSome = true := by rw [un_119]; rfl
theorem ag_119 (w : World) : (isAgg 119).run Tryz.prog w = .ok false w := Tryz.isAgg119 w
theorem sz_119 (w : World) : (sizeOf 119).run Tryz.prog w = .ok 1 w := Tryz.sizeOf119 w
theorem it_119 : ITy Tryz.prog 119 [.slice none 0 0] 24 := ⟨⟨_, (show Tryz.prog.info? 119 = some Tryz.t119 by kernel_rfl), rfl, rfl, _, rfl, rfl⟩⟩
theorem us_120 : (Tryz.prog.underlying 120).isSome = true := by rw [Tryz.underlying120]; rfl
theorem ag_120 (w : World) : (isAgg 120).run Tryz.prog w = .ok true w := Tryz.isAgg120 w
theorem sz_120 (w : World) : (sizeOf 120).run Tryz.prog w = .ok 3 w := Tryz.sizeOf120 w
theorem it_120 : ITy Tryz.prog 120 [.slice none 0 0, .slice none 0 0, .int .i64 0] 56 := ⟨⟨_, (show Tryz.prog.info? 120 = some Tryz.t120 by kernel_rfl), rfl, rfl, _, rfl, rfl⟩⟩
theorem us_121 : (Tryz.prog.underlying 121).isSome = true := by rw [Tryz.underlying121]; rfl
theorem ag_121 (w : World) : (isAgg 121).run Tryz.prog w = .ok true w := Tryz.isAgg121 w
theorem sz_121 (w : World) : (sizeOf 121).run Tryz.prog w = .ok 3 w := Tryz.sizeOf121 w
theorem it_121 : ITy Tryz.prog 121 [.slice none 0 0, .slice none 0 0, .int .i64 0] 56 := ⟨⟨_, (show Tryz.prog.info? 121 = some Tryz.t121 by kernel_rfl), rfl, rfl, _, rfl, rfl⟩⟩
theorem us_122 : (Tryz.prog.underlying 122).isSome = true := by rw [Tryz.underlying122]; rfl
theorem ag_122 (w : World) : (isAgg 122).run Tryz.prog w = .ok true w := Tryz.isAgg122 w
theorem sz_122 (w : World) : (sizeOf 122).run Tryz.prog w = .ok 3 w := Tryz.sizeOf122 w
theorem it_122 : ITy Tryz.prog 122 [.int .u32 0, .int .u32 0, .slice none 0 0] 32 := ⟨⟨_, (show Tryz.prog.info? 122 = some Tryz.t122 by kernel_rfl), rfl, rfl, _, rfl, rfl⟩⟩
theorem us_123 : (Tryz.prog.underlying 123).isSome = true := by rw [Tryz.underlying123]; rfl
theorem ag_123 (w : World) : (isAgg 123).run Tryz.prog w = .ok true w := Tryz.isAgg123 w
theorem sz_123 (w : World) : (sizeOf 123).run Tryz.prog w = .ok 3 w := Tryz.sizeOf123 w
theorem it_123 : ITy Tryz.prog 123 [.int .u32 0, .int .u32 0, .slice none 0 0] 32 := ⟨⟨_, (show Tryz.prog.info? 123 = some Tryz.t123 by kernel_rfl), rfl, rfl, _, rfl, rfl⟩⟩
theorem st_125 : STy Tryz.prog 125 129 4 := ⟨Tryz.underlying125, Tryz.sizeOf129⟩
theorem un_125 : Tryz.prog.underlying 125 = some (.slice 129) := Tryz.underlying125
theorem us_125 : (Tryz.prog.underlying 125).isSome = true := by rw [un_125]; rfl
theorem ag_125 (w : World) : (isAgg 125).run Tryz.prog w = .ok false w := Tryz.isAgg125 w
theorem sz_125 (w : World) : (sizeOf 125).run Tryz.prog w = .ok 1 w := Tryz.sizeOf125 w
theorem it_125 : ITy Tryz.prog 125 [.slice none 0 0] 24 := ⟨⟨_, (show Tryz.prog.info? 125 = some Tryz.t125 by kernel_rfl), rfl, rfl, _, rfl, rfl⟩⟩
theorem us_126 : (Tryz.prog.underlying 126).isSome = true := by rw [Tryz.underlying126]; rfl
theorem ag_126 (w : World) : (isAgg 126).run Tryz.prog w = .ok true w := Tryz.isAgg126 w
theorem sz_126 (w : World) : (sizeOf 126).run Tryz.prog w = .ok 3 w := Tryz.sizeOf126 w
theorem it_126 : ITy Tryz.prog 126 [.slice none 0 0, .slice none 0 0, .int .i64 0] 56 := ⟨⟨_, (show Tryz.prog.info? 126 = some Tryz.t126 by kernel_rfl), rfl, rfl, _, rfl, rfl⟩⟩
theorem us_127 : (Tryz.prog.underlying 127).isSome = true := by rw [Tryz.underlying127]; rfl
theorem ag_127 (w : World) : (isAgg 127).run Tryz.prog w = .ok true w := Tryz.isAgg127 w
theorem sz_127 (w : World) : (sizeOf 127).run Tryz.prog w = .ok 3 w := Tryz.sizeOf127 w
theorem it_127 : ITy Tryz.prog 127 [.slice none 0 0, .slice none 0 0, .int .i64 0] 56 := ⟨⟨_, (show Tryz.prog.info? 127 = some Tryz.t127 by kernel_rfl), rfl, rfl, _, rfl, rfl⟩⟩
theorem us_128 : (Tryz.prog.underlying 128).isSome = true := by rw [Tryz.underlying128]; rfl
theorem ag_128 (w : World) : (isAgg 128).run Tryz.prog w = .ok true w := Tryz.isAgg128 w
theorem sz_128 (w : World) : (sizeOf 128).run Tryz.prog w = .ok 4 w := Tryz.sizeOf128 w
theorem it_128 : ITy Tryz.prog 128 [.int .u32 0, .bool false, .int .u32 0, .slice none 0 0] 40 := ⟨⟨_, (show Tryz.prog.info? 128 = some Tryz.t128 by kernel_rfl), rfl, rfl, _, rfl, rfl⟩⟩
theorem us_129 : (Tryz.prog.underlying 129).isSome = true := by rw [Tryz.underlying129]; rfl
theorem ag_129 (w : World) : (isAgg 129).run Tryz.prog w = .ok true w := Tryz.isAgg129 w
theorem sz_129 (w : World) : (sizeOf 129).run Tryz.prog w = .ok 4 w := Tryz.sizeOf129 w
theorem it_129 : ITy Tryz.prog 129 [.int .u32 0, .bool false, .int .u32 0, .slice none 0 0] 40 := ⟨⟨_, (show Tryz.prog.info? 129 = some Tryz.t129 by kernel_rfl), rfl, rfl, _, rfl, rfl⟩⟩
theorem st_131 : STy Tryz.prog 131 135 3 := ⟨Tryz.underlying131, Tryz.sizeOf135⟩
theorem un_131 : Tryz.prog.underlying 131 = some (.slice 135) := Tryz.underlying131
theorem us_131 : (Tryz.prog.underlying 131).isSome = true := by rw [un_131]; rfl
theorem ag_131 (w : World) : (isAgg 131).run Tryz.prog w = .ok false w := Tryz.isAgg131 w
theorem sz_131 (w : World) : (sizeOf 131).run Tryz.prog w = .ok 1 w := Tryz.sizeOf131 w
theorem it_131 : ITy Tryz.prog 131 [.slice none 0 0] 24 := ⟨⟨_, (show Tryz.prog.info? 131 = some Tryz.t131 by kernel_rfl), rfl, rfl, _, rfl, rfl⟩⟩
theorem us_132 : (Tryz.prog.underlying 132).isSome = true := by rw [Tryz.underlying132]; rfl
theorem ag_132 (w : World) : (isAgg 132).run Tryz.prog w = .ok true w := Tryz.isAgg132 w
theorem sz_132 (w : World) : (sizeOf 132).run Tryz.prog w = .ok 3 w := Tryz.sizeOf132 w
theorem it_132 : ITy Tryz.prog 132 [.slice none 0 0, .slice none 0 0, .int .i64 0] 56 := ⟨⟨_, (show Tryz.prog.info? 132 = some Tryz.t132 by kernel_rfl), rfl, rfl, _, rfl, rfl⟩⟩
theorem us_133 : (Tryz.prog.underlying 133).isSome = true := by rw [Tryz.underlying133]; rfl
theorem ag_133 (w : World) : (isAgg 133).run Tryz.prog w = .ok true w := Tryz.isAgg133 w
theorem sz_133 (w : World) : (sizeOf 133).run Tryz.prog w = .ok 3 w := Tryz.sizeOf133 w
theorem it_133 : ITy Tryz.prog 133 [.slice none 0 0, .slice none 0 0, .int .i64 0] 56 := ⟨⟨_, (show Tryz.prog.info? 133 = some Tryz.t133 by kernel_rfl), rfl, rfl, _, rfl, rfl⟩⟩
theorem us_134 : (Tryz.prog.underlying 134).isSome = true := by rw [Tryz.underlying134]; rfl
theorem ag_134 (w : World) : (isAgg 134).run Tryz.prog w = .ok true w := Tryz.isAgg134 w
theorem sz_134 (w : World) : (sizeOf 134).run Tryz.prog w = .ok 3 w := Tryz.sizeOf134 w
theorem it_134 : ITy Tryz.prog 134 [.int .u32 0, .int .i64 0, .slice none 0 0] 40 := ⟨⟨_, (show Tryz.prog.info? 134 = some Tryz.t134 by kernel_rfl), rfl, rfl, _, rfl, rfl⟩⟩
theorem us_135 : (Tryz.prog.underlying 135).isSome = true := by rw [Tryz.underlying135]; rfl
theorem ag_135 (w : World) : (isAgg 135).run Tryz.prog w = .ok true w := Tryz.isAgg135 w
theorem sz_135 (w : World) : (sizeOf 135).run Tryz.prog w = .ok 3 w := Tryz.sizeOf135 w
theorem it_135 : ITy Tryz.prog 135 [.int .u32 0, .int .i64 0, .slice none 0 0] 40 := ⟨⟨_, (show Tryz.prog.info? 135 = some Tryz.t135 by kernel_rfl), rfl, rfl, _, rfl, rfl⟩⟩
theorem st_137 : STy Tryz.prog 137 22 1 := ⟨Tryz.underlying137, Tryz.sizeOf22⟩
theorem un_137 : Tryz.prog.underlying 137 = some (.slice 22) := Tryz.underlying137
theorem us_137 : (Tryz.prog.underlying 137).isSome = true := by rw [un_137]; rfl
theorem ag_137 (w : World) : (isAgg 137).run Tryz.prog w = .ok false w := Tryz.isAgg137 w
theorem sz_137 (w : World) : (sizeOf 137).run Tryz.prog w = .ok 1 w := Tryz.sizeOf137 w
theorem it_137 : ITy Tryz.prog 137 [.slice none 0 0] 24 := ⟨⟨_, (show Tryz.prog.info? 137 = some Tryz.t137 by kernel_rfl), rfl, rfl, _, rfl, rfl⟩⟩
theorem us_138 : (Tryz.prog.underlying 138).isSome = true := by rw [Tryz.underlying138]; rfl
theorem ag_138 (w : World) : (isAgg 138).run Tryz.prog w = .ok true w := Tryz.isAgg138 w
theorem sz_138 (w : World) : (sizeOf 138).run Tryz.prog w = .ok 3 w := Tryz.sizeOf138 w
theorem it_138 : ITy Tryz.prog 138 [.slice none 0 0, .slice none 0 0, .int .i64 0] 56 := ⟨⟨_, (show Tryz.prog.info? 138 = some Tryz.t138 by kernel_rfl), rfl, rfl, _, rfl, rfl⟩⟩
theorem us_139 : (Tryz.prog.underlying 139).isSome = true := by rw [Tryz.underlying139]; rfl
theorem ag_139 (w : World) : (isAgg 139).run Tryz.prog w = .ok true w := Tryz.isAgg139 w
theorem sz_139 (w : World) : (sizeOf 139).run Tryz.prog w = .ok 3 w := Tryz.sizeOf139 w
theorem it_139 : ITy Tryz.prog 139 [.slice none 0 0, .slice none 0 0, .int .i64 0] 56 := ⟨⟨_, (show Tryz.prog.info? 139 = some Tryz.t139 by kernel_rfl), rfl, rfl, _, rfl, rfl⟩⟩
theorem st_141 : STy Tryz.prog 141 72 1 := ⟨Tryz.underlying141, Tryz.sizeOf72⟩
theorem un_141 : Tryz.prog.underlying 141 = some (.slice 72) := Tryz.underlying141
theorem us_141 : (Tryz.prog.underlying 141).isSome = true := by rw [un_141]; rfl
theorem ag_141 (w : World) : (isAgg 141).run Tryz.prog w = .ok false w := Tryz.isAgg141 w
theorem sz_141 (w : World) : (sizeOf 141).run Tryz.prog w = .ok 1 w := Tryz.sizeOf141 w
theorem it_141 : ITy Tryz.prog 141 [.slice none 0 0] 24 := ⟨⟨_, (show Tryz.prog.info? 141 = some Tryz.t141 by kernel_rfl), rfl, rfl, _, rfl, rfl⟩⟩
theorem us_142 : (Tryz.prog.underlying 142).isSome = true := by rw [Tryz.underlying142]; rfl
theorem ag_142 (w : World) : (isAgg 142).run Tryz.prog w = .ok true w := Tryz.isAgg142 w
theorem sz_142 (w : World) : (sizeOf 142).run Tryz.prog w = .ok 3 w := Tryz.sizeOf142 w
theorem it_142 : ITy Tryz.prog 142 [.slice none 0 0, .slice none 0 0, .int .i64 0] 56 := ⟨⟨_, (show Tryz.prog.info? 142 = some Tryz.t142 by kernel_rfl), rfl, rfl, _, rfl, rfl⟩⟩
theorem us_143 : (Tryz.prog.underlying 143).isSome = true := by rw [Tryz.underlying143]; rfl
theorem ag_143 (w : World) : (isAgg 143).run Tryz.prog w = .ok true w := Tryz.isAgg143 w
theorem sz_143 (w : World) : (sizeOf 143).run Tryz.prog w = .ok 3 w := Tryz.sizeOf143 w
theorem it_143 : ITy Tryz.prog 143 [.slice none 0 0, .slice none 0 0, .int .i64 0] 56 := ⟨⟨_, (show Tryz.prog.info? 143 = some Tryz.t143 by kernel_rfl), rfl, rfl, _, rfl, rfl⟩⟩
theorem un_162 : Tryz.prog.underlying 162 = some (.array 24 5) := Tryz.underlying162
theorem us_162 : (Tryz.prog.underlying 162).isSome = true := by rw [un_162]; rfl
theorem ag_162 (w : World) : (isAgg 162).run Tryz.prog w = .ok true w := Tryz.isAgg162 w
theorem sz_162 (w : World) : (sizeOf 162).run Tryz.prog w = .ok 24 w := Tryz.sizeOf162 w
theorem un_163 : Tryz.prog.underlying 163 = some (.int .u64) := Tryz.underlying163
theorem us_163 : (Tryz.prog.underlying 163).isSome = true := by rw [un_163]; rfl
theorem ag_163 (w : World) : (isAgg 163).run Tryz.prog w = .ok false w := Tryz.isAgg163 w
theorem sz_163 (w : World) : (sizeOf 163).run Tryz.prog w = .ok 1 w := Tryz.sizeOf163 w
theorem it_163 : ITy Tryz.prog 163 [.int .u64 0] 8 := ⟨⟨_, (show Tryz.prog.info? 163 = some Tryz.t163 by kernel_rfl), rfl, rfl, _, rfl, rfl⟩⟩
theorem un_169 : Tryz.prog.underlying 169 = some (.array 20 163) := Tryz.underlying169
theorem us_169 : (Tryz.prog.underlying 169).isSome = true := by rw [un_169]; rfl
theorem ag_169 (w : World) : (isAgg 169).run Tryz.prog w = .ok true w := Tryz.isAgg169 w
theorem sz_169 (w : World) : (sizeOf 169).run Tryz.prog w = .ok 20 w := Tryz.sizeOf169 w
theorem un_170 : Tryz.prog.underlying 170 = some (.array 65 5) := Tryz.underlying170
theorem us_170 : (Tryz.prog.underlying 170).isSome = true := by rw [un_170]; rfl
theorem ag_170 (w : World) : (isAgg 170).run Tryz.prog w = .ok true w := Tryz.isAgg170 w
theorem sz_170 (w : World) : (sizeOf 170).run Tryz.prog w = .ok 65 w := Tryz.sizeOf170 w
theorem un_172 : Tryz.prog.underlying 172 = some (.int .u64) := Tryz.underlying172
theorem us_172 : (Tryz.prog.underlying 172).isSome = true := by rw [un_172]; rfl
theorem ag_172 (w : World) : (isAgg 172).run Tryz.prog w = .ok false w := Tryz.isAgg172 w
theorem sz_172 (w : World) : (sizeOf 172).run Tryz.prog w = .ok 1 w := Tryz.sizeOf172 w
theorem it_172 : ITy Tryz.prog 172 [.int .u64 0] 8 := ⟨⟨_, (show Tryz.prog.info? 172 = some Tryz.t172 by kernel_rfl), rfl, rfl, _, rfl, rfl⟩⟩
theorem un_175 : Tryz.prog.underlying 175 = some (.array 32 5) := Tryz.underlying175
theorem us_175 : (Tryz.prog.underlying 175).isSome = true := by rw [un_175]; rfl
theorem ag_175 (w : World) : (isAgg 175).run Tryz.prog w = .ok true w := Tryz.isAgg175 w
theorem sz_175 (w : World) : (sizeOf 175).run Tryz.prog w = .ok 32 w := Tryz.sizeOf175 w
theorem un_176 : Tryz.prog.underlying 176 = some (.array 64 5) := Tryz.underlying176
theorem us_176 : (Tryz.prog.underlying 176).isSome = true := by rw [un_176]; rfl
theorem ag_176 (w : World) : (isAgg 176).run Tryz.prog w = .ok true w := Tryz.isAgg176 w
theorem sz_176 (w : World) : (sizeOf 176).run Tryz.prog w = .ok 64 w := Tryz.sizeOf176 w
theorem us_178 : (Tryz.prog.underlying 178).isSome = true := by rw [Tryz.underlying178]; rfl
theorem ag_178 (w : World) : (isAgg 178).run Tryz.prog w = .ok true w := Tryz.isAgg178 w
theorem sz_178 (w : World) : (sizeOf 178).run Tryz.prog w = .ok 4 w := Tryz.sizeOf178 w
theorem it_178 : ITy Tryz.prog 178 [.pointer none, .pointer none, .pointer none, .string ⟨#[]⟩] 40 := ⟨⟨_, (show Tryz.prog.info? 178 = some Tryz.t178 by kernel_rfl), rfl, rfl, _, rfl, rfl⟩⟩
theorem us_179 : (Tryz.prog.underlying 179).isSome = true := by rw [Tryz.underlying179]; rfl
theorem ag_179 (w : World) : (isAgg 179).run Tryz.prog w = .ok true w := Tryz.isAgg179 w
theorem sz_179 (w : World) : (sizeOf 179).run Tryz.prog w = .ok 4 w := Tryz.sizeOf179 w
theorem it_179 : ITy Tryz.prog 179 [.pointer none, .pointer none, .pointer none, .string ⟨#[]⟩] 40 := ⟨⟨_, (show Tryz.prog.info? 179 = some Tryz.t179 by kernel_rfl), rfl, rfl, _, rfl, rfl⟩⟩
theorem un_180 : Tryz.prog.underlying 180 = some (.array 0 16) := Tryz.underlying180
theorem us_180 : (Tryz.prog.underlying 180).isSome = true := by rw [un_180]; rfl
theorem ag_180 (w : World) : (isAgg 180).run Tryz.prog w = .ok true w := Tryz.isAgg180 w
theorem sz_180 (w : World) : (sizeOf 180).run Tryz.prog w = .ok 0 w := Tryz.sizeOf180 w
theorem it_180 : ITy Tryz.prog 180 [] 0 := ⟨⟨_, (show Tryz.prog.info? 180 = some Tryz.t180 by kernel_rfl), rfl, rfl, _, rfl, rfl⟩⟩
theorem us_181 : (Tryz.prog.underlying 181).isSome = true := by rw [Tryz.underlying181]; rfl
theorem ag_181 (w : World) : (isAgg 181).run Tryz.prog w = .ok true w := Tryz.isAgg181 w
theorem sz_181 (w : World) : (sizeOf 181).run Tryz.prog w = .ok 0 w := Tryz.sizeOf181 w
theorem it_181 : ITy Tryz.prog 181 [] 0 := ⟨⟨_, (show Tryz.prog.info? 181 = some Tryz.t181 by kernel_rfl), rfl, rfl, _, rfl, rfl⟩⟩
theorem us_182 : (Tryz.prog.underlying 182).isSome = true := by rw [Tryz.underlying182]; rfl
theorem ag_182 (w : World) : (isAgg 182).run Tryz.prog w = .ok true w := Tryz.isAgg182 w
theorem sz_182 (w : World) : (sizeOf 182).run Tryz.prog w = .ok 0 w := Tryz.sizeOf182 w
theorem it_182 : ITy Tryz.prog 182 [] 0 := ⟨⟨_, (show Tryz.prog.info? 182 = some Tryz.t182 by kernel_rfl), rfl, rfl, _, rfl, rfl⟩⟩
theorem un_184 : Tryz.prog.underlying 184 = some (.int .u8) := Tryz.underlying184
theorem us_184 : (Tryz.prog.underlying 184).isSome = true := by rw [un_184]; rfl
theorem ag_184 (w : World) : (isAgg 184).run Tryz.prog w = .ok false w := Tryz.isAgg184 w
theorem sz_184 (w : World) : (sizeOf 184).run Tryz.prog w = .ok 1 w := Tryz.sizeOf184 w
theorem it_184 : ITy Tryz.prog 184 [.int .u8 0] 1 := ⟨⟨_, (show Tryz.prog.info? 184 = some Tryz.t184 by kernel_rfl), rfl, rfl, _, rfl, rfl⟩⟩
theorem un_185 : Tryz.prog.underlying 185 = some (.int .u8) := Tryz.underlying185
theorem us_185 : (Tryz.prog.underlying 185).isSome = true := by rw [un_185]; rfl
theorem ag_185 (w : World) : (isAgg 185).run Tryz.prog w = .ok false w := Tryz.isAgg185 w
theorem sz_185 (w : World) : (sizeOf 185).run Tryz.prog w = .ok 1 w := Tryz.sizeOf185 w
theorem it_185 : ITy Tryz.prog 185 [.int .u8 0] 1 := ⟨⟨_, (show Tryz.prog.info? 185 = some Tryz.t185 by kernel_rfl), rfl, rfl, _, rfl, rfl⟩⟩
theorem us_186 : (Tryz.prog.underlying 186).isSome = true := by rw [Tryz.underlying186]; rfl
theorem ag_186 (w : World) : (isAgg 186).run Tryz.prog w = .ok false w := Tryz.isAgg186 w
theorem sz_186 (w : World) : (sizeOf 186).run Tryz.prog w = .ok 1 w := Tryz.sizeOf186 w
theorem it_186 : ITy Tryz.prog 186 [.nilFunc] 8 := ⟨⟨_, (show Tryz.prog.info? 186 = some Tryz.t186 by kernel_rfl), rfl, rfl, _, rfl, rfl⟩⟩
theorem un_187 : Tryz.prog.underlying 187 = some (.pointer 5) := Tryz.underlying187
theorem us_187 : (Tryz.prog.underlying 187).isSome = true := by rw [un_187]; rfl
theorem ag_187 (w : World) : (isAgg 187).run Tryz.prog w = .ok false w := Tryz.isAgg187 w
theorem sz_187 (w : World) : (sizeOf 187).run Tryz.prog w = .ok 1 w := Tryz.sizeOf187 w
theorem it_187 : ITy Tryz.prog 187 [.pointer none] 8 := ⟨⟨_, (show Tryz.prog.info? 187 = some Tryz.t187 by kernel_rfl), rfl, rfl, _, rfl, rfl⟩⟩
theorem un_188 : Tryz.prog.underlying 188 = some (.int .i32) := Tryz.underlying188
theorem us_188 : (Tryz.prog.underlying 188).isSome = true := by rw [un_188]; rfl
theorem ag_188 (w : World) : (isAgg 188).run Tryz.prog w = .ok false w := Tryz.isAgg188 w
theorem sz_188 (w : World) : (sizeOf 188).run Tryz.prog w = .ok 1 w := Tryz.sizeOf188 w
theorem it_188 : ITy Tryz.prog 188 [.int .i32 0] 4 := ⟨⟨_, (show Tryz.prog.info? 188 = some Tryz.t188 by kernel_rfl), rfl, rfl, _, rfl, rfl⟩⟩
theorem un_189 : Tryz.prog.underlying 189 = some (.int .i32) := Tryz.underlying189
theorem us_189 : (Tryz.prog.underlying 189).isSome = true := by rw [un_189]; rfl
theorem ag_189 (w : World) : (isAgg 189).run Tryz.prog w = .ok false w := Tryz.isAgg189 w
theorem sz_189 (w : World) : (sizeOf 189).run Tryz.prog w = .ok 1 w := Tryz.sizeOf189 w
theorem it_189 : ITy Tryz.prog 189 [.int .i32 0] 4 := ⟨⟨_, (show Tryz.prog.info? 189 = some Tryz.t189 by kernel_rfl), rfl, rfl, _, rfl, rfl⟩⟩
theorem us_190 : (Tryz.prog.underlying 190).isSome = true := by rw [Tryz.underlying190]; rfl
theorem ag_190 (w : World) : (isAgg 190).run Tryz.prog w = .ok true w := Tryz.isAgg190 w
theorem sz_190 (w : World) : (sizeOf 190).run Tryz.prog w = .ok 11 w := Tryz.sizeOf190 w
theorem it_190 : ITy Tryz.prog 190 [.int .u64 0, .int .u64 0, .int .u32 0, .int .u8 0, .int .u8 0, .int .u8 0, .int .u8 0, .nilFunc, .pointer none, .int .i32 0, .int .i32 0] 48 := ⟨⟨_, (show Tryz.prog.info? 190 = some Tryz.t190 by kernel_rfl), rfl, rfl, _, rfl, rfl⟩⟩
theorem us_191 : (Tryz.prog.underlying 191).isSome = true := by rw [Tryz.underlying191]; rfl
theorem ag_191 (w : World) : (isAgg 191).run Tryz.prog w = .ok true w := Tryz.isAgg191 w
theorem sz_191 (w : World) : (sizeOf 191).run Tryz.prog w = .ok 11 w := Tryz.sizeOf191 w
theorem it_191 : ITy Tryz.prog 191 [.int .u64 0, .int .u64 0, .int .u32 0, .int .u8 0, .int .u8 0, .int .u8 0, .int .u8 0, .nilFunc, .pointer none, .int .i32 0, .int .i32 0] 48 := ⟨⟨_, (show Tryz.prog.info? 191 = some Tryz.t191 by kernel_rfl), rfl, rfl, _, rfl, rfl⟩⟩
end Go.Proofs.YtdliencelkdibaaGreatDoor
