/- Closed facts on the types of this seat: printed by a program of ours. -/
import Derived.Test.YtgjpjpdmkeifeaaGreatDoorReg
import Derived.Test.YtgjpjpdmkeifeaaGreatDoorProg
namespace Go.Proofs.YtgjpjpdmkeifeaaGreatDoor
open Go Go.Dd
set_option maxRecDepth 100000

theorem mixed : Tryz.prog.follows .mixedOrders = true := by kernel_rfl
theorem us_1 : (Tryz.prog.underlying 1).isSome = true := by rw [Tryz.underlying1]; rfl
theorem ag_1 (w : World) : (isAgg 1).run Tryz.prog w = .ok false w := Tryz.isAgg1 w
theorem sz_1 (w : World) : (sizeOf 1).run Tryz.prog w = .ok 1 w := Tryz.sizeOf1 w
theorem it_1 : ITy Tryz.prog 1 [.nilFunc] 8 := ⟨⟨_, (show Tryz.prog.info? 1 = some Tryz.t1 by kernel_rfl), rfl, rfl, _, rfl, rfl⟩⟩
theorem un_2 : Tryz.prog.underlying 2 = some (.int .i64) := Tryz.underlying2
theorem us_2 : (Tryz.prog.underlying 2).isSome = true := by rw [un_2]; rfl
theorem ag_2 (w : World) : (isAgg 2).run Tryz.prog w = .ok false w := Tryz.isAgg2 w
theorem sz_2 (w : World) : (sizeOf 2).run Tryz.prog w = .ok 1 w := Tryz.sizeOf2 w
theorem it_2 : ITy Tryz.prog 2 [.int .i64 0] 8 := ⟨⟨_, (show Tryz.prog.info? 2 = some Tryz.t2 by kernel_rfl), rfl, rfl, _, rfl, rfl⟩⟩
theorem un_3 : Tryz.prog.underlying 3 = some (.int .i64) := Tryz.underlying3
theorem us_3 : (Tryz.prog.underlying 3).isSome = true := by rw [un_3]; rfl
theorem ag_3 (w : World) : (isAgg 3).run Tryz.prog w = .ok false w := Tryz.isAgg3 w
theorem sz_3 (w : World) : (sizeOf 3).run Tryz.prog w = .ok 1 w := Tryz.sizeOf3 w
theorem it_3 : ITy Tryz.prog 3 [.int .i64 0] 8 := ⟨⟨_, (show Tryz.prog.info? 3 = some Tryz.t3 by kernel_rfl), rfl, rfl, _, rfl, rfl⟩⟩
theorem un_4 : Tryz.prog.underlying 4 = some (.bool) := Tryz.underlying4
theorem us_4 : (Tryz.prog.underlying 4).isSome = true := by rw [un_4]; rfl
theorem ag_4 (w : World) : (isAgg 4).run Tryz.prog w = .ok false w := Tryz.isAgg4 w
theorem sz_4 (w : World) : (sizeOf 4).run Tryz.prog w = .ok 1 w := Tryz.sizeOf4 w
theorem it_4 : ITy Tryz.prog 4 [.bool false] 1 := ⟨⟨_, (show Tryz.prog.info? 4 = some Tryz.t4 by kernel_rfl), rfl, rfl, _, rfl, rfl⟩⟩
theorem un_5 : Tryz.prog.underlying 5 = some (.int .u8) := Tryz.underlying5
theorem us_5 : (Tryz.prog.underlying 5).isSome = true := by rw [un_5]; rfl
theorem ag_5 (w : World) : (isAgg 5).run Tryz.prog w = .ok false w := Tryz.isAgg5 w
theorem sz_5 (w : World) : (sizeOf 5).run Tryz.prog w = .ok 1 w := Tryz.sizeOf5 w
theorem it_5 : ITy Tryz.prog 5 [.int .u8 0] 1 := ⟨⟨_, (show Tryz.prog.info? 5 = some Tryz.t5 by kernel_rfl), rfl, rfl, _, rfl, rfl⟩⟩
theorem un_6 : Tryz.prog.underlying 6 = some (.int .u8) := Tryz.underlying6
theorem us_6 : (Tryz.prog.underlying 6).isSome = true := by rw [un_6]; rfl
theorem ag_6 (w : World) : (isAgg 6).run Tryz.prog w = .ok false w := Tryz.isAgg6 w
theorem sz_6 (w : World) : (sizeOf 6).run Tryz.prog w = .ok 1 w := Tryz.sizeOf6 w
theorem it_6 : ITy Tryz.prog 6 [.int .u8 0] 1 := ⟨⟨_, (show Tryz.prog.info? 6 = some Tryz.t6 by kernel_rfl), rfl, rfl, _, rfl, rfl⟩⟩
theorem us_7 : (Tryz.prog.underlying 7).isSome = true := by rw [Tryz.underlying7]; rfl
theorem ag_7 (w : World) : (isAgg 7).run Tryz.prog w = .ok true w := Tryz.isAgg7 w
theorem sz_7 (w : World) : (sizeOf 7).run Tryz.prog w = .ok 4 w := Tryz.sizeOf7 w
theorem it_7 : ITy Tryz.prog 7 [.int .i64 0, .int .i64 0, .bool false, .int .u8 0] 24 := ⟨⟨_, (show Tryz.prog.info? 7 = some Tryz.t7 by kernel_rfl), rfl, rfl, _, rfl, rfl⟩⟩
theorem us_8 : (Tryz.prog.underlying 8).isSome = true := by rw [Tryz.underlying8]; rfl
theorem ag_8 (w : World) : (isAgg 8).run Tryz.prog w = .ok true w := Tryz.isAgg8 w
theorem sz_8 (w : World) : (sizeOf 8).run Tryz.prog w = .ok 4 w := Tryz.sizeOf8 w
theorem it_8 : ITy Tryz.prog 8 [.int .i64 0, .int .i64 0, .bool false, .int .u8 0] 24 := ⟨⟨_, (show Tryz.prog.info? 8 = some Tryz.t8 by kernel_rfl), rfl, rfl, _, rfl, rfl⟩⟩
theorem un_9 : Tryz.prog.underlying 9 = some (.string) := Tryz.underlying9
theorem us_9 : (Tryz.prog.underlying 9).isSome = true := by rw [un_9]; rfl
theorem ag_9 (w : World) : (isAgg 9).run Tryz.prog w = .ok false w := Tryz.isAgg9 w
theorem sz_9 (w : World) : (sizeOf 9).run Tryz.prog w = .ok 1 w := Tryz.sizeOf9 w
theorem it_9 : ITy Tryz.prog 9 [.string ⟨#[]⟩] 16 := ⟨⟨_, (show Tryz.prog.info? 9 = some Tryz.t9 by kernel_rfl), rfl, rfl, _, rfl, rfl⟩⟩
theorem un_10 : Tryz.prog.underlying 10 = some (.string) := Tryz.underlying10
theorem us_10 : (Tryz.prog.underlying 10).isSome = true := by rw [un_10]; rfl
theorem ag_10 (w : World) : (isAgg 10).run Tryz.prog w = .ok false w := Tryz.isAgg10 w
theorem sz_10 (w : World) : (sizeOf 10).run Tryz.prog w = .ok 1 w := Tryz.sizeOf10 w
theorem it_10 : ITy Tryz.prog 10 [.string ⟨#[]⟩] 16 := ⟨⟨_, (show Tryz.prog.info? 10 = some Tryz.t10 by kernel_rfl), rfl, rfl, _, rfl, rfl⟩⟩
theorem un_11 : Tryz.prog.underlying 11 = some (.string) := Tryz.underlying11
theorem us_11 : (Tryz.prog.underlying 11).isSome = true := by rw [un_11]; rfl
theorem ag_11 (w : World) : (isAgg 11).run Tryz.prog w = .ok false w := Tryz.isAgg11 w
theorem sz_11 (w : World) : (sizeOf 11).run Tryz.prog w = .ok 1 w := Tryz.sizeOf11 w
theorem it_11 : ITy Tryz.prog 11 [.string ⟨#[]⟩] 16 := ⟨⟨_, (show Tryz.prog.info? 11 = some Tryz.t11 by kernel_rfl), rfl, rfl, _, rfl, rfl⟩⟩
theorem un_12 : Tryz.prog.underlying 12 = some (.int .u64) := Tryz.underlying12
theorem us_12 : (Tryz.prog.underlying 12).isSome = true := by rw [un_12]; rfl
theorem ag_12 (w : World) : (isAgg 12).run Tryz.prog w = .ok false w := Tryz.isAgg12 w
theorem sz_12 (w : World) : (sizeOf 12).run Tryz.prog w = .ok 1 w := Tryz.sizeOf12 w
theorem it_12 : ITy Tryz.prog 12 [.int .u64 0] 8 := ⟨⟨_, (show Tryz.prog.info? 12 = some Tryz.t12 by kernel_rfl), rfl, rfl, _, rfl, rfl⟩⟩
theorem us_13 : (Tryz.prog.underlying 13).isSome = true := by rw [Tryz.underlying13]; rfl
theorem ag_13 (w : World) : (isAgg 13).run Tryz.prog w = .ok true w := Tryz.isAgg13 w
theorem sz_13 (w : World) : (sizeOf 13).run Tryz.prog w = .ok 2 w := Tryz.sizeOf13 w
theorem it_13 : ITy Tryz.prog 13 [.string ⟨#[]⟩, .int .u64 0] 24 := ⟨⟨_, (show Tryz.prog.info? 13 = some Tryz.t13 by kernel_rfl), rfl, rfl, _, rfl, rfl⟩⟩
theorem us_14 : (Tryz.prog.underlying 14).isSome = true := by rw [Tryz.underlying14]; rfl
theorem ag_14 (w : World) : (isAgg 14).run Tryz.prog w = .ok true w := Tryz.isAgg14 w
theorem sz_14 (w : World) : (sizeOf 14).run Tryz.prog w = .ok 2 w := Tryz.sizeOf14 w
theorem it_14 : ITy Tryz.prog 14 [.string ⟨#[]⟩, .int .u64 0] 24 := ⟨⟨_, (show Tryz.prog.info? 14 = some Tryz.t14 by kernel_rfl), rfl, rfl, _, rfl, rfl⟩⟩
theorem un_15 : Tryz.prog.underlying 15 = some (.pointer 190) := Tryz.underlying15
theorem us_15 : (Tryz.prog.underlying 15).isSome = true := by rw [un_15]; rfl
theorem ag_15 (w : World) : (isAgg 15).run Tryz.prog w = .ok false w := Tryz.isAgg15 w
theorem sz_15 (w : World) : (sizeOf 15).run Tryz.prog w = .ok 1 w := Tryz.sizeOf15 w
theorem it_15 : ITy Tryz.prog 15 [.pointer none] 8 := ⟨⟨_, (show Tryz.prog.info? 15 = some Tryz.t15 by kernel_rfl), rfl, rfl, _, rfl, rfl⟩⟩
theorem un_16 : Tryz.prog.underlying 16 = some (.pointer 193) := Tryz.underlying16
theorem us_16 : (Tryz.prog.underlying 16).isSome = true := by rw [un_16]; rfl
theorem ag_16 (w : World) : (isAgg 16).run Tryz.prog w = .ok false w := Tryz.isAgg16 w
theorem sz_16 (w : World) : (sizeOf 16).run Tryz.prog w = .ok 1 w := Tryz.sizeOf16 w
theorem it_16 : ITy Tryz.prog 16 [.pointer none] 8 := ⟨⟨_, (show Tryz.prog.info? 16 = some Tryz.t16 by kernel_rfl), rfl, rfl, _, rfl, rfl⟩⟩
theorem un_17 : Tryz.prog.underlying 17 = some (.pointer 202) := Tryz.underlying17
theorem us_17 : (Tryz.prog.underlying 17).isSome = true := by rw [un_17]; rfl
theorem ag_17 (w : World) : (isAgg 17).run Tryz.prog w = .ok false w := Tryz.isAgg17 w
theorem sz_17 (w : World) : (sizeOf 17).run Tryz.prog w = .ok 1 w := Tryz.sizeOf17 w
theorem it_17 : ITy Tryz.prog 17 [.pointer none] 8 := ⟨⟨_, (show Tryz.prog.info? 17 = some Tryz.t17 by kernel_rfl), rfl, rfl, _, rfl, rfl⟩⟩
theorem us_18 : (Tryz.prog.underlying 18).isSome = true := by rw [Tryz.underlying18]; rfl
theorem ag_18 (w : World) : (isAgg 18).run Tryz.prog w = .ok true w := Tryz.isAgg18 w
theorem sz_18 (w : World) : (sizeOf 18).run Tryz.prog w = .ok 1 w := Tryz.sizeOf18 w
theorem it_18 : ITy Tryz.prog 18 [.pointer none] 8 := ⟨⟨_, (show Tryz.prog.info? 18 = some Tryz.t18 by kernel_rfl), rfl, rfl, _, rfl, rfl⟩⟩
theorem us_19 : (Tryz.prog.underlying 19).isSome = true := by rw [Tryz.underlying19]; rfl
theorem ag_19 (w : World) : (isAgg 19).run Tryz.prog w = .ok true w := Tryz.isAgg19 w
theorem sz_19 (w : World) : (sizeOf 19).run Tryz.prog w = .ok 1 w := Tryz.sizeOf19 w
theorem it_19 : ITy Tryz.prog 19 [.pointer none] 8 := ⟨⟨_, (show Tryz.prog.info? 19 = some Tryz.t19 by kernel_rfl), rfl, rfl, _, rfl, rfl⟩⟩
theorem us_20 : (Tryz.prog.underlying 20).isSome = true := by rw [Tryz.underlying20]; rfl
theorem ag_20 (w : World) : (isAgg 20).run Tryz.prog w = .ok false w := Tryz.isAgg20 w
theorem sz_20 (w : World) : (sizeOf 20).run Tryz.prog w = .ok 1 w := Tryz.sizeOf20 w
theorem it_20 : ITy Tryz.prog 20 [.nilIface] 16 := ⟨⟨_, (show Tryz.prog.info? 20 = some Tryz.t20 by kernel_rfl), rfl, rfl, _, rfl, rfl⟩⟩
theorem un_21 : Tryz.prog.underlying 21 = some (.int .i32) := Tryz.underlying21
theorem us_21 : (Tryz.prog.underlying 21).isSome = true := by rw [un_21]; rfl
theorem ag_21 (w : World) : (isAgg 21).run Tryz.prog w = .ok false w := Tryz.isAgg21 w
theorem sz_21 (w : World) : (sizeOf 21).run Tryz.prog w = .ok 1 w := Tryz.sizeOf21 w
theorem it_21 : ITy Tryz.prog 21 [.int .i32 0] 4 := ⟨⟨_, (show Tryz.prog.info? 21 = some Tryz.t21 by kernel_rfl), rfl, rfl, _, rfl, rfl⟩⟩
theorem st_22 : STy Tryz.prog 22 3 1 := ⟨Tryz.underlying22, Tryz.sizeOf3⟩
theorem un_22 : Tryz.prog.underlying 22 = some (.slice 3) := Tryz.underlying22
theorem us_22 : (Tryz.prog.underlying 22).isSome = true := by rw [un_22]; rfl
theorem ag_22 (w : World) : (isAgg 22).run Tryz.prog w = .ok false w := Tryz.isAgg22 w
theorem sz_22 (w : World) : (sizeOf 22).run Tryz.prog w = .ok 1 w := Tryz.sizeOf22 w
theorem it_22 : ITy Tryz.prog 22 [.slice none 0 0] 24 := ⟨⟨_, (show Tryz.prog.info? 22 = some Tryz.t22 by kernel_rfl), rfl, rfl, _, rfl, rfl⟩⟩
theorem st_23 : STy Tryz.prog 23 21 1 := ⟨Tryz.underlying23, Tryz.sizeOf21⟩
theorem un_23 : Tryz.prog.underlying 23 = some (.slice 21) := Tryz.underlying23
theorem us_23 : (Tryz.prog.underlying 23).isSome = true := by rw [un_23]; rfl
theorem ag_23 (w : World) : (isAgg 23).run Tryz.prog w = .ok false w := Tryz.isAgg23 w
theorem sz_23 (w : World) : (sizeOf 23).run Tryz.prog w = .ok 1 w := Tryz.sizeOf23 w
theorem it_23 : ITy Tryz.prog 23 [.slice none 0 0] 24 := ⟨⟨_, (show Tryz.prog.info? 23 = some Tryz.t23 by kernel_rfl), rfl, rfl, _, rfl, rfl⟩⟩
theorem us_24 : (Tryz.prog.underlying 24).isSome = true := by rw [Tryz.underlying24]; rfl
theorem ag_24 (w : World) : (isAgg 24).run Tryz.prog w = .ok true w := Tryz.isAgg24 w
theorem sz_24 (w : World) : (sizeOf 24).run Tryz.prog w = .ok 2 w := Tryz.sizeOf24 w
theorem it_24 : ITy Tryz.prog 24 [.slice none 0 0, .slice none 0 0] 48 := ⟨⟨_, (show Tryz.prog.info? 24 = some Tryz.t24 by kernel_rfl), rfl, rfl, _, rfl, rfl⟩⟩
theorem us_25 : (Tryz.prog.underlying 25).isSome = true := by rw [Tryz.underlying25]; rfl
theorem ag_25 (w : World) : (isAgg 25).run Tryz.prog w = .ok true w := Tryz.isAgg25 w
theorem sz_25 (w : World) : (sizeOf 25).run Tryz.prog w = .ok 2 w := Tryz.sizeOf25 w
theorem it_25 : ITy Tryz.prog 25 [.slice none 0 0, .slice none 0 0] 48 := ⟨⟨_, (show Tryz.prog.info? 25 = some Tryz.t25 by kernel_rfl), rfl, rfl, _, rfl, rfl⟩⟩
theorem us_26 : (Tryz.prog.underlying 26).isSome = true := by rw [Tryz.underlying26]; rfl
theorem ag_26 (w : World) : (isAgg 26).run Tryz.prog w = .ok true w := Tryz.isAgg26 w
theorem sz_26 (w : World) : (sizeOf 26).run Tryz.prog w = .ok 7 w := Tryz.sizeOf26 w
theorem it_26 : ITy Tryz.prog 26 [.slice none 0 0, .slice none 0 0, .slice none 0 0, .slice none 0 0, .int .i64 0, .int .i64 0, .int .i64 0] 120 := ⟨⟨_, (show Tryz.prog.info? 26 = some Tryz.t26 by kernel_rfl), rfl, rfl, _, rfl, rfl⟩⟩
theorem us_27 : (Tryz.prog.underlying 27).isSome = true := by rw [Tryz.underlying27]; rfl
theorem ag_27 (w : World) : (isAgg 27).run Tryz.prog w = .ok true w := Tryz.isAgg27 w
theorem sz_27 (w : World) : (sizeOf 27).run Tryz.prog w = .ok 7 w := Tryz.sizeOf27 w
theorem it_27 : ITy Tryz.prog 27 [.slice none 0 0, .slice none 0 0, .slice none 0 0, .slice none 0 0, .int .i64 0, .int .i64 0, .int .i64 0] 120 := ⟨⟨_, (show Tryz.prog.info? 27 = some Tryz.t27 by kernel_rfl), rfl, rfl, _, rfl, rfl⟩⟩
theorem un_30 : Tryz.prog.underlying 30 = some (.int .i64) := Tryz.underlying30
theorem us_30 : (Tryz.prog.underlying 30).isSome = true := by rw [un_30]; rfl
theorem ag_30 (w : World) : (isAgg 30).run Tryz.prog w = .ok false w := Tryz.isAgg30 w
theorem sz_30 (w : World) : (sizeOf 30).run Tryz.prog w = .ok 1 w := Tryz.sizeOf30 w
theorem it_30 : ITy Tryz.prog 30 [.int .i64 0] 8 := ⟨⟨_, (show Tryz.prog.info? 30 = some Tryz.t30 by kernel_rfl), rfl, rfl, _, rfl, rfl⟩⟩
theorem st_37 : STy Tryz.prog 37 86 3 := ⟨Tryz.underlying37, Tryz.sizeOf86⟩
theorem un_37 : Tryz.prog.underlying 37 = some (.slice 86) := Tryz.underlying37
theorem us_37 : (Tryz.prog.underlying 37).isSome = true := by rw [un_37]; rfl
theorem ag_37 (w : World) : (isAgg 37).run Tryz.prog w = .ok false w := Tryz.isAgg37 w
theorem sz_37 (w : World) : (sizeOf 37).run Tryz.prog w = .ok 1 w := Tryz.sizeOf37 w
theorem it_37 : ITy Tryz.prog 37 [.slice none 0 0] 24 := ⟨⟨_, (show Tryz.prog.info? 37 = some Tryz.t37 by kernel_rfl), rfl, rfl, _, rfl, rfl⟩⟩
theorem st_38 : STy Tryz.prog 38 83 3 := ⟨Tryz.underlying38, Tryz.sizeOf83⟩
theorem un_38 : Tryz.prog.underlying 38 = some (.slice 83) := Tryz.underlying38
theorem us_38 : (Tryz.prog.underlying 38).isSome = true := by rw [un_38]; rfl
theorem ag_38 (w : World) : (isAgg 38).run Tryz.prog w = .ok false w := Tryz.isAgg38 w
theorem sz_38 (w : World) : (sizeOf 38).run Tryz.prog w = .ok 1 w := Tryz.sizeOf38 w
theorem it_38 : ITy Tryz.prog 38 [.slice none 0 0] 24 := ⟨⟨_, (show Tryz.prog.info? 38 = some Tryz.t38 by kernel_rfl), rfl, rfl, _, rfl, rfl⟩⟩
theorem st_39 : STy Tryz.prog 39 90 3 := ⟨Tryz.underlying39, Tryz.sizeOf90⟩
theorem un_39 : Tryz.prog.underlying 39 = some (.slice 90) := Tryz.underlying39
theorem us_39 : (Tryz.prog.underlying 39).isSome = true := by rw [un_39]; rfl
theorem ag_39 (w : World) : (isAgg 39).run Tryz.prog w = .ok false w := Tryz.isAgg39 w
theorem sz_39 (w : World) : (sizeOf 39).run Tryz.prog w = .ok 1 w := Tryz.sizeOf39 w
theorem it_39 : ITy Tryz.prog 39 [.slice none 0 0] 24 := ⟨⟨_, (show Tryz.prog.info? 39 = some Tryz.t39 by kernel_rfl), rfl, rfl, _, rfl, rfl⟩⟩
theorem st_40 : STy Tryz.prog 40 94 3 := ⟨Tryz.underlying40, Tryz.sizeOf94⟩
theorem un_40 : Tryz.prog.underlying 40 = some (.slice 94) := Tryz.underlying40
theorem us_40 : (Tryz.prog.underlying 40).isSome = true := by rw [un_40]; rfl
theorem ag_40 (w : World) : (isAgg 40).run Tryz.prog w = .ok false w := Tryz.isAgg40 w
theorem sz_40 (w : World) : (sizeOf 40).run Tryz.prog w = .ok 1 w := Tryz.sizeOf40 w
theorem it_40 : ITy Tryz.prog 40 [.slice none 0 0] 24 := ⟨⟨_, (show Tryz.prog.info? 40 = some Tryz.t40 by kernel_rfl), rfl, rfl, _, rfl, rfl⟩⟩
theorem st_41 : STy Tryz.prog 41 99 3 := ⟨Tryz.underlying41, Tryz.sizeOf99⟩
theorem un_41 : Tryz.prog.underlying 41 = some (.slice 99) := Tryz.underlying41
theorem us_41 : (Tryz.prog.underlying 41).isSome = true := by rw [un_41]; rfl
theorem ag_41 (w : World) : (isAgg 41).run Tryz.prog w = .ok false w := Tryz.isAgg41 w
theorem sz_41 (w : World) : (sizeOf 41).run Tryz.prog w = .ok 1 w := Tryz.sizeOf41 w
theorem it_41 : ITy Tryz.prog 41 [.slice none 0 0] 24 := ⟨⟨_, (show Tryz.prog.info? 41 = some Tryz.t41 by kernel_rfl), rfl, rfl, _, rfl, rfl⟩⟩
theorem st_42 : STy Tryz.prog 42 103 3 := ⟨Tryz.underlying42, Tryz.sizeOf103⟩
theorem un_42 : Tryz.prog.underlying 42 = some (.slice 103) := Tryz.underlying42
theorem us_42 : (Tryz.prog.underlying 42).isSome = true := by rw [un_42]; rfl
theorem ag_42 (w : World) : (isAgg 42).run Tryz.prog w = .ok false w := Tryz.isAgg42 w
theorem sz_42 (w : World) : (sizeOf 42).run Tryz.prog w = .ok 1 w := Tryz.sizeOf42 w
theorem it_42 : ITy Tryz.prog 42 [.slice none 0 0] 24 := ⟨⟨_, (show Tryz.prog.info? 42 = some Tryz.t42 by kernel_rfl), rfl, rfl, _, rfl, rfl⟩⟩
theorem st_43 : STy Tryz.prog 43 107 3 := ⟨Tryz.underlying43, Tryz.sizeOf107⟩
theorem un_43 : Tryz.prog.underlying 43 = some (.slice 107) := Tryz.underlying43
theorem us_43 : (Tryz.prog.underlying 43).isSome = true := by rw [un_43]; rfl
theorem ag_43 (w : World) : (isAgg 43).run Tryz.prog w = .ok false w := Tryz.isAgg43 w
theorem sz_43 (w : World) : (sizeOf 43).run Tryz.prog w = .ok 1 w := Tryz.sizeOf43 w
theorem it_43 : ITy Tryz.prog 43 [.slice none 0 0] 24 := ⟨⟨_, (show Tryz.prog.info? 43 = some Tryz.t43 by kernel_rfl), rfl, rfl, _, rfl, rfl⟩⟩
theorem st_44 : STy Tryz.prog 44 114 3 := ⟨Tryz.underlying44, Tryz.sizeOf114⟩
theorem un_44 : Tryz.prog.underlying 44 = some (.slice 114) := Tryz.underlying44
theorem us_44 : (Tryz.prog.underlying 44).isSome = true := by rw [un_44]; rfl
theorem ag_44 (w : World) : (isAgg 44).run Tryz.prog w = .ok false w := Tryz.isAgg44 w
theorem sz_44 (w : World) : (sizeOf 44).run Tryz.prog w = .ok 1 w := Tryz.sizeOf44 w
theorem it_44 : ITy Tryz.prog 44 [.slice none 0 0] 24 := ⟨⟨_, (show Tryz.prog.info? 44 = some Tryz.t44 by kernel_rfl), rfl, rfl, _, rfl, rfl⟩⟩
theorem st_45 : STy Tryz.prog 45 121 3 := ⟨Tryz.underlying45, Tryz.sizeOf121⟩
theorem un_45 : Tryz.prog.underlying 45 = some (.slice 121) := Tryz.underlying45
theorem us_45 : (Tryz.prog.underlying 45).isSome = true := by rw [un_45]; rfl
theorem ag_45 (w : World) : (isAgg 45).run Tryz.prog w = .ok false w := Tryz.isAgg45 w
theorem sz_45 (w : World) : (sizeOf 45).run Tryz.prog w = .ok 1 w := Tryz.sizeOf45 w
theorem it_45 : ITy Tryz.prog 45 [.slice none 0 0] 24 := ⟨⟨_, (show Tryz.prog.info? 45 = some Tryz.t45 by kernel_rfl), rfl, rfl, _, rfl, rfl⟩⟩
theorem st_46 : STy Tryz.prog 46 127 3 := ⟨Tryz.underlying46, Tryz.sizeOf127⟩
theorem un_46 : Tryz.prog.underlying 46 = some (.slice 127) := Tryz.underlying46
theorem us_46 : (Tryz.prog.underlying 46).isSome = true := by rw [un_46]; rfl
theorem ag_46 (w : World) : (isAgg 46).run Tryz.prog w = .ok false w := Tryz.isAgg46 w
theorem sz_46 (w : World) : (sizeOf 46).run Tryz.prog w = .ok 1 w := Tryz.sizeOf46 w
theorem it_46 : ITy Tryz.prog 46 [.slice none 0 0] 24 := ⟨⟨_, (show Tryz.prog.info? 46 = some Tryz.t46 by kernel_rfl), rfl, rfl, _, rfl, rfl⟩⟩
theorem st_47 : STy Tryz.prog 47 133 3 := ⟨Tryz.underlying47, Tryz.sizeOf133⟩
theorem un_47 : Tryz.prog.underlying 47 = some (.slice 133) := Tryz.underlying47
theorem us_47 : (Tryz.prog.underlying 47).isSome = true := by rw [un_47]; rfl
theorem ag_47 (w : World) : (isAgg 47).run Tryz.prog w = .ok false w := Tryz.isAgg47 w
theorem sz_47 (w : World) : (sizeOf 47).run Tryz.prog w = .ok 1 w := Tryz.sizeOf47 w
theorem it_47 : ITy Tryz.prog 47 [.slice none 0 0] 24 := ⟨⟨_, (show Tryz.prog.info? 47 = some Tryz.t47 by kernel_rfl), rfl, rfl, _, rfl, rfl⟩⟩
theorem st_48 : STy Tryz.prog 48 139 3 := ⟨Tryz.underlying48, Tryz.sizeOf139⟩
theorem un_48 : Tryz.prog.underlying 48 = some (.slice 139) := Tryz.underlying48
theorem us_48 : (Tryz.prog.underlying 48).isSome = true := by rw [un_48]; rfl
theorem ag_48 (w : World) : (isAgg 48).run Tryz.prog w = .ok false w := Tryz.isAgg48 w
theorem sz_48 (w : World) : (sizeOf 48).run Tryz.prog w = .ok 1 w := Tryz.sizeOf48 w
theorem it_48 : ITy Tryz.prog 48 [.slice none 0 0] 24 := ⟨⟨_, (show Tryz.prog.info? 48 = some Tryz.t48 by kernel_rfl), rfl, rfl, _, rfl, rfl⟩⟩
theorem st_49 : STy Tryz.prog 49 145 3 := ⟨Tryz.underlying49, Tryz.sizeOf145⟩
theorem un_49 : Tryz.prog.underlying 49 = some (.slice 145) := Tryz.underlying49
theorem us_49 : (Tryz.prog.underlying 49).isSome = true := by rw [un_49]; rfl
theorem ag_49 (w : World) : (isAgg 49).run Tryz.prog w = .ok false w := Tryz.isAgg49 w
theorem sz_49 (w : World) : (sizeOf 49).run Tryz.prog w = .ok 1 w := Tryz.sizeOf49 w
theorem it_49 : ITy Tryz.prog 49 [.slice none 0 0] 24 := ⟨⟨_, (show Tryz.prog.info? 49 = some Tryz.t49 by kernel_rfl), rfl, rfl, _, rfl, rfl⟩⟩
theorem st_50 : STy Tryz.prog 50 151 3 := ⟨Tryz.underlying50, Tryz.sizeOf151⟩
theorem un_50 : Tryz.prog.underlying 50 = some (.slice 151) := Tryz.underlying50
theorem us_50 : (Tryz.prog.underlying 50).isSome = true := by rw [un_50]; rfl
theorem ag_50 (w : World) : (isAgg 50).run Tryz.prog w = .ok false w := Tryz.isAgg50 w
theorem sz_50 (w : World) : (sizeOf 50).run Tryz.prog w = .ok 1 w := Tryz.sizeOf50 w
theorem it_50 : ITy Tryz.prog 50 [.slice none 0 0] 24 := ⟨⟨_, (show Tryz.prog.info? 50 = some Tryz.t50 by kernel_rfl), rfl, rfl, _, rfl, rfl⟩⟩
theorem st_51 : STy Tryz.prog 51 155 3 := ⟨Tryz.underlying51, Tryz.sizeOf155⟩
theorem un_51 : Tryz.prog.underlying 51 = some (.slice 155) := Tryz.underlying51
theorem us_51 : (Tryz.prog.underlying 51).isSome = true := by rw [un_51]; rfl
theorem ag_51 (w : World) : (isAgg 51).run Tryz.prog w = .ok false w := Tryz.isAgg51 w
theorem sz_51 (w : World) : (sizeOf 51).run Tryz.prog w = .ok 1 w := Tryz.sizeOf51 w
theorem it_51 : ITy Tryz.prog 51 [.slice none 0 0] 24 := ⟨⟨_, (show Tryz.prog.info? 51 = some Tryz.t51 by kernel_rfl), rfl, rfl, _, rfl, rfl⟩⟩
theorem us_52 : (Tryz.prog.underlying 52).isSome = true := by rw [Tryz.underlying52]; rfl
theorem ag_52 (w : World) : (isAgg 52).run Tryz.prog w = .ok true w := Tryz.isAgg52 w
theorem sz_52 (w : World) : (sizeOf 52).run Tryz.prog w = .ok 16 w := Tryz.sizeOf52 w
theorem it_52 : ITy Tryz.prog 52 [.int .i64 0, .slice none 0 0, .slice none 0 0, .slice none 0 0, .slice none 0 0, .slice none 0 0, .slice none 0 0, .slice none 0 0, .slice none 0 0, .slice none 0 0, .slice none 0 0, .slice none 0 0, .slice none 0 0, .slice none 0 0, .slice none 0 0, .slice none 0 0] 368 := ⟨⟨_, (show Tryz.prog.info? 52 = some Tryz.t52 by kernel_rfl), rfl, rfl, _, rfl, rfl⟩⟩
theorem us_53 : (Tryz.prog.underlying 53).isSome = true := by rw [Tryz.underlying53]; rfl
theorem ag_53 (w : World) : (isAgg 53).run Tryz.prog w = .ok true w := Tryz.isAgg53 w
theorem sz_53 (w : World) : (sizeOf 53).run Tryz.prog w = .ok 16 w := Tryz.sizeOf53 w
theorem it_53 : ITy Tryz.prog 53 [.int .i64 0, .slice none 0 0, .slice none 0 0, .slice none 0 0, .slice none 0 0, .slice none 0 0, .slice none 0 0, .slice none 0 0, .slice none 0 0, .slice none 0 0, .slice none 0 0, .slice none 0 0, .slice none 0 0, .slice none 0 0, .slice none 0 0, .slice none 0 0] 368 := ⟨⟨_, (show Tryz.prog.info? 53 = some Tryz.t53 by kernel_rfl), rfl, rfl, _, rfl, rfl⟩⟩
theorem us_65 : (Tryz.prog.underlying 65).isSome = true := by rw [Tryz.underlying65]; rfl
theorem ag_65 (w : World) : (isAgg 65).run Tryz.prog w = .ok false w := Tryz.isAgg65 w
theorem sz_65 (w : World) : (sizeOf 65).run Tryz.prog w = .ok 1 w := Tryz.sizeOf65 w
theorem it_65 : ITy Tryz.prog 65 [.nilFunc] 8 := ⟨⟨_, (show Tryz.prog.info? 65 = some Tryz.t65 by kernel_rfl), rfl, rfl, _, rfl, rfl⟩⟩
theorem us_66 : (Tryz.prog.underlying 66).isSome = true := by rw [Tryz.underlying66]; rfl
theorem ag_66 (w : World) : (isAgg 66).run Tryz.prog w = .ok true w := Tryz.isAgg66 w
theorem sz_66 (w : World) : (sizeOf 66).run Tryz.prog w = .ok 3 w := Tryz.sizeOf66 w
theorem it_66 : ITy Tryz.prog 66 [.slice none 0 0, .int .i64 0, .int .i64 0] 40 := ⟨⟨_, (show Tryz.prog.info? 66 = some Tryz.t66 by kernel_rfl), rfl, rfl, _, rfl, rfl⟩⟩
theorem us_67 : (Tryz.prog.underlying 67).isSome = true := by rw [Tryz.underlying67]; rfl
theorem ag_67 (w : World) : (isAgg 67).run Tryz.prog w = .ok true w := Tryz.isAgg67 w
theorem sz_67 (w : World) : (sizeOf 67).run Tryz.prog w = .ok 3 w := Tryz.sizeOf67 w
theorem it_67 : ITy Tryz.prog 67 [.slice none 0 0, .int .i64 0, .int .i64 0] 40 := ⟨⟨_, (show Tryz.prog.info? 67 = some Tryz.t67 by kernel_rfl), rfl, rfl, _, rfl, rfl⟩⟩
theorem us_69 : (Tryz.prog.underlying 69).isSome = true := by rw [Tryz.underlying69]; rfl
theorem ag_69 (w : World) : (isAgg 69).run Tryz.prog w = .ok false w := Tryz.isAgg69 w
theorem sz_69 (w : World) : (sizeOf 69).run Tryz.prog w = .ok 1 w := Tryz.sizeOf69 w
theorem it_69 : ITy Tryz.prog 69 [.nilFunc] 8 := ⟨⟨_, (show Tryz.prog.info? 69 = some Tryz.t69 by kernel_rfl), rfl, rfl, _, rfl, rfl⟩⟩
theorem us_71 : (Tryz.prog.underlying 71).isSome = true := by rw [Tryz.underlying71]; rfl
theorem ag_71 (w : World) : (isAgg 71).run Tryz.prog w = .ok true w := Tryz.isAgg71 w
theorem sz_71 (w : World) : (sizeOf 71).run Tryz.prog w = .ok 3 w := Tryz.sizeOf71 w
theorem it_71 : ITy Tryz.prog 71 [.int .i64 0, .int .i64 0, .int .i64 0] 24 := ⟨⟨_, (show Tryz.prog.info? 71 = some Tryz.t71 by kernel_rfl), rfl, rfl, _, rfl, rfl⟩⟩
theorem us_72 : (Tryz.prog.underlying 72).isSome = true := by rw [Tryz.underlying72]; rfl
theorem ag_72 (w : World) : (isAgg 72).run Tryz.prog w = .ok true w := Tryz.isAgg72 w
theorem sz_72 (w : World) : (sizeOf 72).run Tryz.prog w = .ok 3 w := Tryz.sizeOf72 w
theorem it_72 : ITy Tryz.prog 72 [.int .i64 0, .int .i64 0, .int .i64 0] 24 := ⟨⟨_, (show Tryz.prog.info? 72 = some Tryz.t72 by kernel_rfl), rfl, rfl, _, rfl, rfl⟩⟩
theorem un_77 : Tryz.prog.underlying 77 = some (.pointer 53) := Tryz.underlying77
theorem us_77 : (Tryz.prog.underlying 77).isSome = true := by rw [un_77]; rfl
theorem ag_77 (w : World) : (isAgg 77).run Tryz.prog w = .ok false w := Tryz.isAgg77 w
theorem sz_77 (w : World) : (sizeOf 77).run Tryz.prog w = .ok 1 w := Tryz.sizeOf77 w
theorem it_77 : ITy Tryz.prog 77 [.pointer none] 8 := ⟨⟨_, (show Tryz.prog.info? 77 = some Tryz.t77 by kernel_rfl), rfl, rfl, _, rfl, rfl⟩⟩
theorem us_81 : (Tryz.prog.underlying 81).isSome = true := by rw [Tryz.underlying81]; rfl
theorem ag_81 (w : World) : (isAgg 81).run Tryz.prog w = .ok false w := Tryz.isAgg81 w
theorem sz_81 (w : World) : (sizeOf 81).run Tryz.prog w = .ok 1 w := Tryz.sizeOf81 w
theorem it_81 : ITy Tryz.prog 81 [.nilFunc] 8 := ⟨⟨_, (show Tryz.prog.info? 81 = some Tryz.t81 by kernel_rfl), rfl, rfl, _, rfl, rfl⟩⟩
theorem us_82 : (Tryz.prog.underlying 82).isSome = true := by rw [Tryz.underlying82]; rfl
theorem ag_82 (w : World) : (isAgg 82).run Tryz.prog w = .ok true w := Tryz.isAgg82 w
theorem sz_82 (w : World) : (sizeOf 82).run Tryz.prog w = .ok 3 w := Tryz.sizeOf82 w
theorem it_82 : ITy Tryz.prog 82 [.slice none 0 0, .slice none 0 0, .int .i64 0] 56 := ⟨⟨_, (show Tryz.prog.info? 82 = some Tryz.t82 by kernel_rfl), rfl, rfl, _, rfl, rfl⟩⟩
theorem us_83 : (Tryz.prog.underlying 83).isSome = true := by rw [Tryz.underlying83]; rfl
theorem ag_83 (w : World) : (isAgg 83).run Tryz.prog w = .ok true w := Tryz.isAgg83 w
theorem sz_83 (w : World) : (sizeOf 83).run Tryz.prog w = .ok 3 w := Tryz.sizeOf83 w
theorem it_83 : ITy Tryz.prog 83 [.slice none 0 0, .slice none 0 0, .int .i64 0] 56 := ⟨⟨_, (show Tryz.prog.info? 83 = some Tryz.t83 by kernel_rfl), rfl, rfl, _, rfl, rfl⟩⟩
theorem st_84 : STy Tryz.prog 84 5 1 := ⟨Tryz.underlying84, Tryz.sizeOf5⟩
theorem un_84 : Tryz.prog.underlying 84 = some (.slice 5) := Tryz.underlying84
theorem us_84 : (Tryz.prog.underlying 84).isSome = true := by rw [un_84]; rfl
theorem ag_84 (w : World) : (isAgg 84).run Tryz.prog w = .ok false w := Tryz.isAgg84 w
theorem sz_84 (w : World) : (sizeOf 84).run Tryz.prog w = .ok 1 w := Tryz.sizeOf84 w
theorem it_84 : ITy Tryz.prog 84 [.slice none 0 0] 24 := ⟨⟨_, (show Tryz.prog.info? 84 = some Tryz.t84 by kernel_rfl), rfl, rfl, _, rfl, rfl⟩⟩
theorem us_85 : (Tryz.prog.underlying 85).isSome = true := by rw [Tryz.underlying85]; rfl
theorem ag_85 (w : World) : (isAgg 85).run Tryz.prog w = .ok true w := Tryz.isAgg85 w
theorem sz_85 (w : World) : (sizeOf 85).run Tryz.prog w = .ok 3 w := Tryz.sizeOf85 w
theorem it_85 : ITy Tryz.prog 85 [.slice none 0 0, .slice none 0 0, .int .i64 0] 56 := ⟨⟨_, (show Tryz.prog.info? 85 = some Tryz.t85 by kernel_rfl), rfl, rfl, _, rfl, rfl⟩⟩
theorem us_86 : (Tryz.prog.underlying 86).isSome = true := by rw [Tryz.underlying86]; rfl
theorem ag_86 (w : World) : (isAgg 86).run Tryz.prog w = .ok true w := Tryz.isAgg86 w
theorem sz_86 (w : World) : (sizeOf 86).run Tryz.prog w = .ok 3 w := Tryz.sizeOf86 w
theorem it_86 : ITy Tryz.prog 86 [.slice none 0 0, .slice none 0 0, .int .i64 0] 56 := ⟨⟨_, (show Tryz.prog.info? 86 = some Tryz.t86 by kernel_rfl), rfl, rfl, _, rfl, rfl⟩⟩
theorem us_89 : (Tryz.prog.underlying 89).isSome = true := by rw [Tryz.underlying89]; rfl
theorem ag_89 (w : World) : (isAgg 89).run Tryz.prog w = .ok true w := Tryz.isAgg89 w
theorem sz_89 (w : World) : (sizeOf 89).run Tryz.prog w = .ok 3 w := Tryz.sizeOf89 w
theorem it_89 : ITy Tryz.prog 89 [.slice none 0 0, .slice none 0 0, .int .i64 0] 56 := ⟨⟨_, (show Tryz.prog.info? 89 = some Tryz.t89 by kernel_rfl), rfl, rfl, _, rfl, rfl⟩⟩
theorem us_90 : (Tryz.prog.underlying 90).isSome = true := by rw [Tryz.underlying90]; rfl
theorem ag_90 (w : World) : (isAgg 90).run Tryz.prog w = .ok true w := Tryz.isAgg90 w
theorem sz_90 (w : World) : (sizeOf 90).run Tryz.prog w = .ok 3 w := Tryz.sizeOf90 w
theorem it_90 : ITy Tryz.prog 90 [.slice none 0 0, .slice none 0 0, .int .i64 0] 56 := ⟨⟨_, (show Tryz.prog.info? 90 = some Tryz.t90 by kernel_rfl), rfl, rfl, _, rfl, rfl⟩⟩
theorem st_92 : STy Tryz.prog 92 95 1 := ⟨Tryz.underlying92, Tryz.sizeOf95⟩
theorem un_92 : Tryz.prog.underlying 92 = some (.slice 95) := Tryz.underlying92
theorem us_92 : (Tryz.prog.underlying 92).isSome = true := by rw [un_92]; rfl
theorem ag_92 (w : World) : (isAgg 92).run Tryz.prog w = .ok false w := Tryz.isAgg92 w
theorem sz_92 (w : World) : (sizeOf 92).run Tryz.prog w = .ok 1 w := Tryz.sizeOf92 w
theorem it_92 : ITy Tryz.prog 92 [.slice none 0 0] 24 := ⟨⟨_, (show Tryz.prog.info? 92 = some Tryz.t92 by kernel_rfl), rfl, rfl, _, rfl, rfl⟩⟩
theorem us_93 : (Tryz.prog.underlying 93).isSome = true := by rw [Tryz.underlying93]; rfl
theorem ag_93 (w : World) : (isAgg 93).run Tryz.prog w = .ok true w := Tryz.isAgg93 w
theorem sz_93 (w : World) : (sizeOf 93).run Tryz.prog w = .ok 3 w := Tryz.sizeOf93 w
theorem it_93 : ITy Tryz.prog 93 [.slice none 0 0, .slice none 0 0, .int .i64 0] 56 := ⟨⟨_, (show Tryz.prog.info? 93 = some Tryz.t93 by kernel_rfl), rfl, rfl, _, rfl, rfl⟩⟩
theorem us_94 : (Tryz.prog.underlying 94).isSome = true := by rw [Tryz.underlying94]; rfl
theorem ag_94 (w : World) : (isAgg 94).run Tryz.prog w = .ok true w := Tryz.isAgg94 w
theorem sz_94 (w : World) : (sizeOf 94).run Tryz.prog w = .ok 3 w := Tryz.sizeOf94 w
theorem it_94 : ITy Tryz.prog 94 [.slice none 0 0, .slice none 0 0, .int .i64 0] 56 := ⟨⟨_, (show Tryz.prog.info? 94 = some Tryz.t94 by kernel_rfl), rfl, rfl, _, rfl, rfl⟩⟩
theorem un_95 : Tryz.prog.underlying 95 = some (.int .u32) := Tryz.underlying95
theorem us_95 : (Tryz.prog.underlying 95).isSome = true := by rw [un_95]; rfl
theorem ag_95 (w : World) : (isAgg 95).run Tryz.prog w = .ok false w := Tryz.isAgg95 w
theorem sz_95 (w : World) : (sizeOf 95).run Tryz.prog w = .ok 1 w := Tryz.sizeOf95 w
theorem it_95 : ITy Tryz.prog 95 [.int .u32 0] 4 := ⟨⟨_, (show Tryz.prog.info? 95 = some Tryz.t95 by kernel_rfl), rfl, rfl, _, rfl, rfl⟩⟩
theorem st_97 : STy Tryz.prog 97 9 1 := ⟨Tryz.underlying97, Tryz.sizeOf9⟩
theorem un_97 : Tryz.prog.underlying 97 = some (.slice 9) := Tryz.underlying97
theorem us_97 : (Tryz.prog.underlying 97).isSome = true := by rw [un_97]; rfl
theorem ag_97 (w : World) : (isAgg 97).run Tryz.prog w = .ok false w := Tryz.isAgg97 w
theorem sz_97 (w : World) : (sizeOf 97).run Tryz.prog w = .ok 1 w := Tryz.sizeOf97 w
theorem it_97 : ITy Tryz.prog 97 [.slice none 0 0] 24 := ⟨⟨_, (show Tryz.prog.info? 97 = some Tryz.t97 by kernel_rfl), rfl, rfl, _, rfl, rfl⟩⟩
theorem us_98 : (Tryz.prog.underlying 98).isSome = true := by rw [Tryz.underlying98]; rfl
theorem ag_98 (w : World) : (isAgg 98).run Tryz.prog w = .ok true w := Tryz.isAgg98 w
theorem sz_98 (w : World) : (sizeOf 98).run Tryz.prog w = .ok 3 w := Tryz.sizeOf98 w
theorem it_98 : ITy Tryz.prog 98 [.slice none 0 0, .slice none 0 0, .int .i64 0] 56 := ⟨⟨_, (show Tryz.prog.info? 98 = some Tryz.t98 by kernel_rfl), rfl, rfl, _, rfl, rfl⟩⟩
theorem us_99 : (Tryz.prog.underlying 99).isSome = true := by rw [Tryz.underlying99]; rfl
theorem ag_99 (w : World) : (isAgg 99).run Tryz.prog w = .ok true w := Tryz.isAgg99 w
theorem sz_99 (w : World) : (sizeOf 99).run Tryz.prog w = .ok 3 w := Tryz.sizeOf99 w
theorem it_99 : ITy Tryz.prog 99 [.slice none 0 0, .slice none 0 0, .int .i64 0] 56 := ⟨⟨_, (show Tryz.prog.info? 99 = some Tryz.t99 by kernel_rfl), rfl, rfl, _, rfl, rfl⟩⟩
theorem st_101 : STy Tryz.prog 101 25 2 := ⟨Tryz.underlying101, Tryz.sizeOf25⟩
theorem un_101 : Tryz.prog.underlying 101 = some (.slice 25) := Tryz.underlying101
theorem us_101 : (Tryz.prog.underlying 101).isSome = true := by rw [un_101]; rfl
theorem ag_101 (w : World) : (isAgg 101).run Tryz.prog w = .ok false w := Tryz.isAgg101 w
theorem sz_101 (w : World) : (sizeOf 101).run Tryz.prog w = .ok 1 w := Tryz.sizeOf101 w
theorem it_101 : ITy Tryz.prog 101 [.slice none 0 0] 24 := ⟨⟨_, (show Tryz.prog.info? 101 = some Tryz.t101 by kernel_rfl), rfl, rfl, _, rfl, rfl⟩⟩
theorem us_102 : (Tryz.prog.underlying 102).isSome = true := by rw [Tryz.underlying102]; rfl
theorem ag_102 (w : World) : (isAgg 102).run Tryz.prog w = .ok true w := Tryz.isAgg102 w
theorem sz_102 (w : World) : (sizeOf 102).run Tryz.prog w = .ok 3 w := Tryz.sizeOf102 w
theorem it_102 : ITy Tryz.prog 102 [.slice none 0 0, .slice none 0 0, .int .i64 0] 56 := ⟨⟨_, (show Tryz.prog.info? 102 = some Tryz.t102 by kernel_rfl), rfl, rfl, _, rfl, rfl⟩⟩
theorem us_103 : (Tryz.prog.underlying 103).isSome = true := by rw [Tryz.underlying103]; rfl
theorem ag_103 (w : World) : (isAgg 103).run Tryz.prog w = .ok true w := Tryz.isAgg103 w
theorem sz_103 (w : World) : (sizeOf 103).run Tryz.prog w = .ok 3 w := Tryz.sizeOf103 w
theorem it_103 : ITy Tryz.prog 103 [.slice none 0 0, .slice none 0 0, .int .i64 0] 56 := ⟨⟨_, (show Tryz.prog.info? 103 = some Tryz.t103 by kernel_rfl), rfl, rfl, _, rfl, rfl⟩⟩
theorem st_105 : STy Tryz.prog 105 110 5 := ⟨Tryz.underlying105, Tryz.sizeOf110⟩
theorem un_105 : Tryz.prog.underlying 105 = some (.slice 110) := Tryz.underlying105
theorem us_105 : (Tryz.prog.underlying 105).isSome = true := by rw [un_105]; rfl
theorem ag_105 (w : World) : (isAgg 105).run Tryz.prog w = .ok false w := Tryz.isAgg105 w
theorem sz_105 (w : World) : (sizeOf 105).run Tryz.prog w = .ok 1 w := Tryz.sizeOf105 w
theorem it_105 : ITy Tryz.prog 105 [.slice none 0 0] 24 := ⟨⟨_, (show Tryz.prog.info? 105 = some Tryz.t105 by kernel_rfl), rfl, rfl, _, rfl, rfl⟩⟩
theorem us_106 : (Tryz.prog.underlying 106).isSome = true := by rw [Tryz.underlying106]; rfl
theorem ag_106 (w : World) : (isAgg 106).run Tryz.prog w = .ok true w := Tryz.isAgg106 w
theorem sz_106 (w : World) : (sizeOf 106).run Tryz.prog w = .ok 3 w := Tryz.sizeOf106 w
theorem it_106 : ITy Tryz.prog 106 [.slice none 0 0, .slice none 0 0, .int .i64 0] 56 := ⟨⟨_, (show Tryz.prog.info? 106 = some Tryz.t106 by kernel_rfl), rfl, rfl, _, rfl, rfl⟩⟩
theorem us_107 : (Tryz.prog.underlying 107).isSome = true := by rw [Tryz.underlying107]; rfl
theorem ag_107 (w : World) : (isAgg 107).run Tryz.prog w = .ok true w := Tryz.isAgg107 w
theorem sz_107 (w : World) : (sizeOf 107).run Tryz.prog w = .ok 3 w := Tryz.sizeOf107 w
theorem it_107 : ITy Tryz.prog 107 [.slice none 0 0, .slice none 0 0, .int .i64 0] 56 := ⟨⟨_, (show Tryz.prog.info? 107 = some Tryz.t107 by kernel_rfl), rfl, rfl, _, rfl, rfl⟩⟩
theorem un_108 : Tryz.prog.underlying 108 = some (.int .u8) := Tryz.underlying108
theorem us_108 : (Tryz.prog.underlying 108).isSome = true := by rw [un_108]; rfl
theorem ag_108 (w : World) : (isAgg 108).run Tryz.prog w = .ok false w := Tryz.isAgg108 w
theorem sz_108 (w : World) : (sizeOf 108).run Tryz.prog w = .ok 1 w := Tryz.sizeOf108 w
theorem it_108 : ITy Tryz.prog 108 [.int .u8 0] 1 := ⟨⟨_, (show Tryz.prog.info? 108 = some Tryz.t108 by kernel_rfl), rfl, rfl, _, rfl, rfl⟩⟩
theorem us_109 : (Tryz.prog.underlying 109).isSome = true := by rw [Tryz.underlying109]; rfl
theorem ag_109 (w : World) : (isAgg 109).run Tryz.prog w = .ok true w := Tryz.isAgg109 w
theorem sz_109 (w : World) : (sizeOf 109).run Tryz.prog w = .ok 5 w := Tryz.sizeOf109 w
theorem it_109 : ITy Tryz.prog 109 [.int .u8 0, .slice none 0 0, .slice none 0 0, .int .i64 0, .int .i64 0] 72 := ⟨⟨_, (show Tryz.prog.info? 109 = some Tryz.t109 by kernel_rfl), rfl, rfl, _, rfl, rfl⟩⟩
theorem us_110 : (Tryz.prog.underlying 110).isSome = true := by rw [Tryz.underlying110]; rfl
theorem ag_110 (w : World) : (isAgg 110).run Tryz.prog w = .ok true w := Tryz.isAgg110 w
theorem sz_110 (w : World) : (sizeOf 110).run Tryz.prog w = .ok 5 w := Tryz.sizeOf110 w
theorem it_110 : ITy Tryz.prog 110 [.int .u8 0, .slice none 0 0, .slice none 0 0, .int .i64 0, .int .i64 0] 72 := ⟨⟨_, (show Tryz.prog.info? 110 = some Tryz.t110 by kernel_rfl), rfl, rfl, _, rfl, rfl⟩⟩
theorem st_112 : STy Tryz.prog 112 117 2 := ⟨Tryz.underlying112, Tryz.sizeOf117⟩
theorem un_112 : Tryz.prog.underlying 112 = some (.slice 117) := Tryz.underlying112
theorem us_112 : (Tryz.prog.underlying 112).isSome = true := by rw [un_112]; rfl
theorem ag_112 (w : World) : (isAgg 112).run Tryz.prog w = .ok false w := Tryz.isAgg112 w
theorem sz_112 (w : World) : (sizeOf 112).run Tryz.prog w = .ok 1 w := Tryz.sizeOf112 w
theorem it_112 : ITy Tryz.prog 112 [.slice none 0 0] 24 := ⟨⟨_, (show Tryz.prog.info? 112 = some Tryz.t112 by kernel_rfl), rfl, rfl, _, rfl, rfl⟩⟩
theorem us_113 : (Tryz.prog.underlying 113).isSome = true := by rw [Tryz.underlying113]; rfl
theorem ag_113 (w : World) : (isAgg 113).run Tryz.prog w = .ok true w := Tryz.isAgg113 w
theorem sz_113 (w : World) : (sizeOf 113).run Tryz.prog w = .ok 3 w := Tryz.sizeOf113 w
theorem it_113 : ITy Tryz.prog 113 [.slice none 0 0, .slice none 0 0, .int .i64 0] 56 := ⟨⟨_, (show Tryz.prog.info? 113 = some Tryz.t113 by kernel_rfl), rfl, rfl, _, rfl, rfl⟩⟩
theorem us_114 : (Tryz.prog.underlying 114).isSome = true := by rw [Tryz.underlying114]; rfl
theorem ag_114 (w : World) : (isAgg 114).run Tryz.prog w = .ok true w := Tryz.isAgg114 w
theorem sz_114 (w : World) : (sizeOf 114).run Tryz.prog w = .ok 3 w := Tryz.sizeOf114 w
theorem it_114 : ITy Tryz.prog 114 [.slice none 0 0, .slice none 0 0, .int .i64 0] 56 := ⟨⟨_, (show Tryz.prog.info? 114 = some Tryz.t114 by kernel_rfl), rfl, rfl, _, rfl, rfl⟩⟩
theorem un_115 : Tryz.prog.underlying 115 = some (.int .u8) := Tryz.underlying115
theorem us_115 : (Tryz.prog.underlying 115).isSome = true := by rw [un_115]; rfl
theorem ag_115 (w : World) : (isAgg 115).run Tryz.prog w = .ok false w := Tryz.isAgg115 w
theorem sz_115 (w : World) : (sizeOf 115).run Tryz.prog w = .ok 1 w := Tryz.sizeOf115 w
theorem it_115 : ITy Tryz.prog 115 [.int .u8 0] 1 := ⟨⟨_, (show Tryz.prog.info? 115 = some Tryz.t115 by kernel_rfl), rfl, rfl, _, rfl, rfl⟩⟩
theorem us_116 : (Tryz.prog.underlying 116).isSome = true := by rw [Tryz.underlying116]; rfl
theorem ag_116 (w : World) : (isAgg 116).run Tryz.prog w = .ok true w := Tryz.isAgg116 w
theorem sz_116 (w : World) : (sizeOf 116).run Tryz.prog w = .ok 2 w := Tryz.sizeOf116 w
theorem it_116 : ITy Tryz.prog 116 [.int .u8 0, .int .i64 0] 16 := ⟨⟨_, (show Tryz.prog.info? 116 = some Tryz.t116 by kernel_rfl), rfl, rfl, _, rfl, rfl⟩⟩
theorem us_117 : (Tryz.prog.underlying 117).isSome = true := by rw [Tryz.underlying117]; rfl
theorem ag_117 (w : World) : (isAgg 117).run Tryz.prog w = .ok true w := Tryz.isAgg117 w
theorem sz_117 (w : World) : (sizeOf 117).run Tryz.prog w = .ok 2 w := Tryz.sizeOf117 w
theorem it_117 : ITy Tryz.prog 117 [.int .u8 0, .int .i64 0] 16 := ⟨⟨_, (show Tryz.prog.info? 117 = some Tryz.t117 by kernel_rfl), rfl, rfl, _, rfl, rfl⟩⟩
theorem st_119 : STy Tryz.prog 119 123 3 := ⟨Tryz.underlying119, Tryz.sizeOf123⟩
theorem un_119 : Tryz.prog.underlying 119 = some (.slice 123) := Tryz.underlying119
theorem us_119 : (Tryz.prog.underlying 119).isSome = true := by rw [un_119]; rfl
theorem ag_119 (w : World) : (isAgg 119).run Tryz.prog w = .ok false w := Tryz.isAgg119 w
theorem sz_119 (w : World) : (sizeOf 119).run Tryz.prog w = .ok 1 w := Tryz.sizeOf119 w
theorem it_119 : ITy Tryz.prog 119 [.slice none 0 0] 24 := ⟨⟨_, (show Tryz.prog.info? 119 = some Tryz.t119 by kernel_rfl), rfl, rfl, _, rfl, rfl⟩⟩
theorem us_120 : (Tryz.prog.underlying 120).isSome = true := by rw [Tryz.underlying120]; rfl
theorem ag_120 (w : World) : (isAgg 120).run Tryz.prog w = .ok true w := Tryz.isAgg120 w
theorem sz_120 (w : World) : (sizeOf 120).run Tryz.prog w = .ok 3 w := Tryz.sizeOf120 w
theorem it_120 : ITy Tryz.prog 120 [.slice none 0 0, .slice none 0 0, .int .i64 0] 56 := ⟨⟨_, (show Tryz.prog.info? 120 = some Tryz.t120 by kernel_rfl), rfl, rfl, _, rfl, rfl⟩⟩
theorem us_121 : (Tryz.prog.underlying 121).isSome = true := by rw [Tryz.underlying121]; rfl
theorem ag_121 (w : World) : (isAgg 121).run Tryz.prog w = .ok true w := Tryz.isAgg121 w
theorem sz_121 (w : World) : (sizeOf 121).run Tryz.prog w = .ok 3 w := Tryz.sizeOf121 w
theorem it_121 : ITy Tryz.prog 121 [.slice none 0 0, .slice none 0 0, .int .i64 0] 56 := ⟨⟨_, (show Tryz.prog.info? 121 = some Tryz.t121 by kernel_rfl), rfl, rfl, _, rfl, rfl⟩⟩
theorem us_122 : (Tryz.prog.underlying 122).isSome = true := by rw [Tryz.underlying122]; rfl
theorem ag_122 (w : World) : (isAgg 122).run Tryz.prog w = .ok true w := Tryz.isAgg122 w
theorem sz_122 (w : World) : (sizeOf 122).run Tryz.prog w = .ok 3 w := Tryz.sizeOf122 w
theorem it_122 : ITy Tryz.prog 122 [.int .i64 0, .int .i64 0, .int .i64 0] 24 := ⟨⟨_, (show Tryz.prog.info? 122 = some Tryz.t122 by kernel_rfl), rfl, rfl, _, rfl, rfl⟩⟩
theorem us_123 : (Tryz.prog.underlying 123).isSome = true := by rw [Tryz.underlying123]; rfl
theorem ag_123 (w : World) : (isAgg 123).run Tryz.prog w = .ok true w := Tryz.isAgg123 w
theorem sz_123 (w : World) : (sizeOf 123).run Tryz.prog w = .ok 3 w := Tryz.sizeOf123 w
theorem it_123 : ITy Tryz.prog 123 [.int .i64 0, .int .i64 0, .int .i64 0] 24 := ⟨⟨_, (show Tryz.prog.info? 123 = some Tryz.t123 by kernel_rfl), rfl, rfl, _, rfl, rfl⟩⟩
theorem st_125 : STy Tryz.prog 125 129 3 := ⟨Tryz.underlying125, Tryz.sizeOf129⟩
theorem un_125 : Tryz.prog.underlying 125 = some (.slice 129) := Tryz.underlying125
theorem us_125 : (Tryz.prog.underlying 125).isSome = true := by rw [un_125]; rfl
theorem ag_125 (w : World) : (isAgg 125).run Tryz.prog w = .ok false w := Tryz.isAgg125 w
theorem sz_125 (w : World) : (sizeOf 125).run Tryz.prog w = .ok 1 w := Tryz.sizeOf125 w
theorem it_125 : ITy Tryz.prog 125 [.slice none 0 0] 24 := ⟨⟨_, (show Tryz.prog.info? 125 = some Tryz.t125 by kernel_rfl), rfl, rfl, _, rfl, rfl⟩⟩
theorem us_126 : (Tryz.prog.underlying 126).isSome = true := by rw [Tryz.underlying126]; rfl
theorem ag_126 (w : World) : (isAgg 126).run Tryz.prog w = .ok true w := Tryz.isAgg126 w
theorem sz_126 (w : World) : (sizeOf 126).run Tryz.prog w = .ok 3 w := Tryz.sizeOf126 w
theorem it_126 : ITy Tryz.prog 126 [.slice none 0 0, .slice none 0 0, .int .i64 0] 56 := ⟨⟨_, (show Tryz.prog.info? 126 = some Tryz.t126 by kernel_rfl), rfl, rfl, _, rfl, rfl⟩⟩
theorem us_127 : (Tryz.prog.underlying 127).isSome = true := by rw [Tryz.underlying127]; rfl
theorem ag_127 (w : World) : (isAgg 127).run Tryz.prog w = .ok true w := Tryz.isAgg127 w
theorem sz_127 (w : World) : (sizeOf 127).run Tryz.prog w = .ok 3 w := Tryz.sizeOf127 w
theorem it_127 : ITy Tryz.prog 127 [.slice none 0 0, .slice none 0 0, .int .i64 0] 56 := ⟨⟨_, (show Tryz.prog.info? 127 = some Tryz.t127 by kernel_rfl), rfl, rfl, _, rfl, rfl⟩⟩
theorem us_128 : (Tryz.prog.underlying 128).isSome = true := by rw [Tryz.underlying128]; rfl
theorem ag_128 (w : World) : (isAgg 128).run Tryz.prog w = .ok true w := Tryz.isAgg128 w
theorem sz_128 (w : World) : (sizeOf 128).run Tryz.prog w = .ok 3 w := Tryz.sizeOf128 w
theorem it_128 : ITy Tryz.prog 128 [.int .u32 0, .slice none 0 0, .slice none 0 0] 56 := ⟨⟨_, (show Tryz.prog.info? 128 = some Tryz.t128 by kernel_rfl), rfl, rfl, _, rfl, rfl⟩⟩
theorem us_129 : (Tryz.prog.underlying 129).isSome = true := by rw [Tryz.underlying129]; rfl
theorem ag_129 (w : World) : (isAgg 129).run Tryz.prog w = .ok true w := Tryz.isAgg129 w
theorem sz_129 (w : World) : (sizeOf 129).run Tryz.prog w = .ok 3 w := Tryz.sizeOf129 w
theorem it_129 : ITy Tryz.prog 129 [.int .u32 0, .slice none 0 0, .slice none 0 0] 56 := ⟨⟨_, (show Tryz.prog.info? 129 = some Tryz.t129 by kernel_rfl), rfl, rfl, _, rfl, rfl⟩⟩
theorem st_131 : STy Tryz.prog 131 135 3 := ⟨Tryz.underlying131, Tryz.sizeOf135⟩
theorem un_131 : Tryz.prog.underlying 131 = some (.slice 135) := Tryz.underlying131
theorem us_131 : (Tryz.prog.underlying 131).isSome = true := by rw [un_131]; rfl
theorem ag_131 (w : World) : (isAgg 131).run Tryz.prog w = .ok false w := Tryz.isAgg131 w
theorem sz_131 (w : World) : (sizeOf 131).run Tryz.prog w = .ok 1 w := Tryz.sizeOf131 w
theorem it_131 : ITy Tryz.prog 131 [.slice none 0 0] 24 := ⟨⟨_, (show Tryz.prog.info? 131 = some Tryz.t131 by kernel_rfl), rfl, rfl, _, rfl, rfl⟩⟩
theorem us_132 : (Tryz.prog.underlying 132).isSome = true := by rw [Tryz.underlying132]; rfl
theorem ag_132 (w : World) : (isAgg 132).run Tryz.prog w = .ok true w := Tryz.isAgg132 w
theorem sz_132 (w : World) : (sizeOf 132).run Tryz.prog w = .ok 3 w := Tryz.sizeOf132 w
theorem it_132 : ITy Tryz.prog 132 [.slice none 0 0, .slice none 0 0, .int .i64 0] 56 := ⟨⟨_, (show Tryz.prog.info? 132 = some Tryz.t132 by kernel_rfl), rfl, rfl, _, rfl, rfl⟩⟩
theorem us_133 : (Tryz.prog.underlying 133).isSome = true := by rw [Tryz.underlying133]; rfl
theorem ag_133 (w : World) : (isAgg 133).run Tryz.prog w = .ok true w := Tryz.isAgg133 w
theorem sz_133 (w : World) : (sizeOf 133).run Tryz.prog w = .ok 3 w := Tryz.sizeOf133 w
theorem it_133 : ITy Tryz.prog 133 [.slice none 0 0, .slice none 0 0, .int .i64 0] 56 := ⟨⟨_, (show Tryz.prog.info? 133 = some Tryz.t133 by kernel_rfl), rfl, rfl, _, rfl, rfl⟩⟩
theorem us_134 : (Tryz.prog.underlying 134).isSome = true := by rw [Tryz.underlying134]; rfl
theorem ag_134 (w : World) : (isAgg 134).run Tryz.prog w = .ok true w := Tryz.isAgg134 w
theorem sz_134 (w : World) : (sizeOf 134).run Tryz.prog w = .ok 3 w := Tryz.sizeOf134 w
theorem it_134 : ITy Tryz.prog 134 [.int .u32 0, .int .u32 0, .slice none 0 0] 32 := ⟨⟨_, (show Tryz.prog.info? 134 = some Tryz.t134 by kernel_rfl), rfl, rfl, _, rfl, rfl⟩⟩
theorem us_135 : (Tryz.prog.underlying 135).isSome = true := by rw [Tryz.underlying135]; rfl
theorem ag_135 (w : World) : (isAgg 135).run Tryz.prog w = .ok true w := Tryz.isAgg135 w
theorem sz_135 (w : World) : (sizeOf 135).run Tryz.prog w = .ok 3 w := Tryz.sizeOf135 w
theorem it_135 : ITy Tryz.prog 135 [.int .u32 0, .int .u32 0, .slice none 0 0] 32 := ⟨⟨_, (show Tryz.prog.info? 135 = some Tryz.t135 by kernel_rfl), rfl, rfl, _, rfl, rfl⟩⟩
theorem st_137 : STy Tryz.prog 137 141 4 := ⟨Tryz.underlying137, Tryz.sizeOf141⟩
theorem un_137 : Tryz.prog.underlying 137 = some (.slice 141) := Tryz.underlying137
theorem us_137 : (Tryz.prog.underlying 137).isSome = true := by rw [un_137]; rfl
theorem ag_137 (w : World) : (isAgg 137).run Tryz.prog w = .ok false w := Tryz.isAgg137 w
theorem sz_137 (w : World) : (sizeOf 137).run Tryz.prog w = .ok 1 w := Tryz.sizeOf137 w
theorem it_137 : ITy Tryz.prog 137 [.slice none 0 0] 24 := ⟨⟨_, (show Tryz.prog.info? 137 = some Tryz.t137 by kernel_rfl), rfl, rfl, _, rfl, rfl⟩⟩
theorem us_138 : (Tryz.prog.underlying 138).isSome = true := by rw [Tryz.underlying138]; rfl
theorem ag_138 (w : World) : (isAgg 138).run Tryz.prog w = .ok true w := Tryz.isAgg138 w
theorem sz_138 (w : World) : (sizeOf 138).run Tryz.prog w = .ok 3 w := Tryz.sizeOf138 w
theorem it_138 : ITy Tryz.prog 138 [.slice none 0 0, .slice none 0 0, .int .i64 0] 56 := ⟨⟨_, (show Tryz.prog.info? 138 = some Tryz.t138 by kernel_rfl), rfl, rfl, _, rfl, rfl⟩⟩
theorem us_139 : (Tryz.prog.underlying 139).isSome = true := by rw [Tryz.underlying139]; rfl
theorem ag_139 (w : World) : (isAgg 139).run Tryz.prog w = .ok true w := Tryz.isAgg139 w
theorem sz_139 (w : World) : (sizeOf 139).run Tryz.prog w = .ok 3 w := Tryz.sizeOf139 w
theorem it_139 : ITy Tryz.prog 139 [.slice none 0 0, .slice none 0 0, .int .i64 0] 56 := ⟨⟨_, (show Tryz.prog.info? 139 = some Tryz.t139 by kernel_rfl), rfl, rfl, _, rfl, rfl⟩⟩
theorem us_140 : (Tryz.prog.underlying 140).isSome = true := by rw [Tryz.underlying140]; rfl
theorem ag_140 (w : World) : (isAgg 140).run Tryz.prog w = .ok true w := Tryz.isAgg140 w
theorem sz_140 (w : World) : (sizeOf 140).run Tryz.prog w = .ok 4 w := Tryz.sizeOf140 w
theorem it_140 : ITy Tryz.prog 140 [.int .u32 0, .bool false, .int .u32 0, .slice none 0 0] 40 := ⟨⟨_, (show Tryz.prog.info? 140 = some Tryz.t140 by kernel_rfl), rfl, rfl, _, rfl, rfl⟩⟩
theorem us_141 : (Tryz.prog.underlying 141).isSome = true := by rw [Tryz.underlying141]; rfl
theorem ag_141 (w : World) : (isAgg 141).run Tryz.prog w = .ok true w := Tryz.isAgg141 w
theorem sz_141 (w : World) : (sizeOf 141).run Tryz.prog w = .ok 4 w := Tryz.sizeOf141 w
theorem it_141 : ITy Tryz.prog 141 [.int .u32 0, .bool false, .int .u32 0, .slice none 0 0] 40 := ⟨⟨_, (show Tryz.prog.info? 141 = some Tryz.t141 by kernel_rfl), rfl, rfl, _, rfl, rfl⟩⟩
theorem st_143 : STy Tryz.prog 143 147 3 := ⟨Tryz.underlying143, Tryz.sizeOf147⟩
theorem un_143 : Tryz.prog.underlying 143 = some (.slice 147) := Tryz.underlying143
theorem us_143 : (Tryz.prog.underlying 143).isSome = true := by rw [un_143]; rfl
theorem ag_143 (w : World) : (isAgg 143).run Tryz.prog w = .ok false w := Tryz.isAgg143 w
theorem sz_143 (w : World) : (sizeOf 143).run Tryz.prog w = .ok 1 w := Tryz.sizeOf143 w
theorem it_143 : ITy Tryz.prog 143 [.slice none 0 0] 24 := ⟨⟨_, (show Tryz.prog.info? 143 = some Tryz.t143 by kernel_rfl), rfl, rfl, _, rfl, rfl⟩⟩
theorem us_144 : (Tryz.prog.underlying 144).isSome = true := by rw [Tryz.underlying144]; rfl
theorem ag_144 (w : World) : (isAgg 144).run Tryz.prog w = .ok true w := Tryz.isAgg144 w
theorem sz_144 (w : World) : (sizeOf 144).run Tryz.prog w = .ok 3 w := Tryz.sizeOf144 w
theorem it_144 : ITy Tryz.prog 144 [.slice none 0 0, .slice none 0 0, .int .i64 0] 56 := ⟨⟨_, (show Tryz.prog.info? 144 = some Tryz.t144 by kernel_rfl), rfl, rfl, _, rfl, rfl⟩⟩
theorem us_145 : (Tryz.prog.underlying 145).isSome = true := by rw [Tryz.underlying145]; rfl
theorem ag_145 (w : World) : (isAgg 145).run Tryz.prog w = .ok true w := Tryz.isAgg145 w
theorem sz_145 (w : World) : (sizeOf 145).run Tryz.prog w = .ok 3 w := Tryz.sizeOf145 w
theorem it_145 : ITy Tryz.prog 145 [.slice none 0 0, .slice none 0 0, .int .i64 0] 56 := ⟨⟨_, (show Tryz.prog.info? 145 = some Tryz.t145 by kernel_rfl), rfl, rfl, _, rfl, rfl⟩⟩
theorem us_146 : (Tryz.prog.underlying 146).isSome = true := by rw [Tryz.underlying146]; rfl
theorem ag_146 (w : World) : (isAgg 146).run Tryz.prog w = .ok true w := Tryz.isAgg146 w
theorem sz_146 (w : World) : (sizeOf 146).run Tryz.prog w = .ok 3 w := Tryz.sizeOf146 w
theorem it_146 : ITy Tryz.prog 146 [.int .u32 0, .int .i64 0, .slice none 0 0] 40 := ⟨⟨_, (show Tryz.prog.info? 146 = some Tryz.t146 by kernel_rfl), rfl, rfl, _, rfl, rfl⟩⟩
theorem us_147 : (Tryz.prog.underlying 147).isSome = true := by rw [Tryz.underlying147]; rfl
theorem ag_147 (w : World) : (isAgg 147).run Tryz.prog w = .ok true w := Tryz.isAgg147 w
theorem sz_147 (w : World) : (sizeOf 147).run Tryz.prog w = .ok 3 w := Tryz.sizeOf147 w
theorem it_147 : ITy Tryz.prog 147 [.int .u32 0, .int .i64 0, .slice none 0 0] 40 := ⟨⟨_, (show Tryz.prog.info? 147 = some Tryz.t147 by kernel_rfl), rfl, rfl, _, rfl, rfl⟩⟩
theorem st_149 : STy Tryz.prog 149 22 1 := ⟨Tryz.underlying149, Tryz.sizeOf22⟩
theorem un_149 : Tryz.prog.underlying 149 = some (.slice 22) := Tryz.underlying149
theorem us_149 : (Tryz.prog.underlying 149).isSome = true := by rw [un_149]; rfl
theorem ag_149 (w : World) : (isAgg 149).run Tryz.prog w = .ok false w := Tryz.isAgg149 w
theorem sz_149 (w : World) : (sizeOf 149).run Tryz.prog w = .ok 1 w := Tryz.sizeOf149 w
theorem it_149 : ITy Tryz.prog 149 [.slice none 0 0] 24 := ⟨⟨_, (show Tryz.prog.info? 149 = some Tryz.t149 by kernel_rfl), rfl, rfl, _, rfl, rfl⟩⟩
theorem us_150 : (Tryz.prog.underlying 150).isSome = true := by rw [Tryz.underlying150]; rfl
theorem ag_150 (w : World) : (isAgg 150).run Tryz.prog w = .ok true w := Tryz.isAgg150 w
theorem sz_150 (w : World) : (sizeOf 150).run Tryz.prog w = .ok 3 w := Tryz.sizeOf150 w
theorem it_150 : ITy Tryz.prog 150 [.slice none 0 0, .slice none 0 0, .int .i64 0] 56 := ⟨⟨_, (show Tryz.prog.info? 150 = some Tryz.t150 by kernel_rfl), rfl, rfl, _, rfl, rfl⟩⟩
theorem us_151 : (Tryz.prog.underlying 151).isSome = true := by rw [Tryz.underlying151]; rfl
theorem ag_151 (w : World) : (isAgg 151).run Tryz.prog w = .ok true w := Tryz.isAgg151 w
theorem sz_151 (w : World) : (sizeOf 151).run Tryz.prog w = .ok 3 w := Tryz.sizeOf151 w
theorem it_151 : ITy Tryz.prog 151 [.slice none 0 0, .slice none 0 0, .int .i64 0] 56 := ⟨⟨_, (show Tryz.prog.info? 151 = some Tryz.t151 by kernel_rfl), rfl, rfl, _, rfl, rfl⟩⟩
theorem st_153 : STy Tryz.prog 153 84 1 := ⟨Tryz.underlying153, Tryz.sizeOf84⟩
theorem un_153 : Tryz.prog.underlying 153 = some (.slice 84) := Tryz.underlying153
theorem us_153 : (Tryz.prog.underlying 153).isSome = true := by rw [un_153]; rfl
theorem ag_153 (w : World) : (isAgg 153).run Tryz.prog w = .ok false w := Tryz.isAgg153 w
theorem sz_153 (w : World) : (sizeOf 153).run Tryz.prog w = .ok 1 w := Tryz.sizeOf153 w
theorem it_153 : ITy Tryz.prog 153 [.slice none 0 0] 24 := ⟨⟨_, (show Tryz.prog.info? 153 = some Tryz.t153 by kernel_rfl), rfl, rfl, _, rfl, rfl⟩⟩
theorem us_154 : (Tryz.prog.underlying 154).isSome = true := by rw [Tryz.underlying154]; rfl
theorem ag_154 (w : World) : (isAgg 154).run Tryz.prog w = .ok true w := Tryz.isAgg154 w
theorem sz_154 (w : World) : (sizeOf 154).run Tryz.prog w = .ok 3 w := Tryz.sizeOf154 w
theorem it_154 : ITy Tryz.prog 154 [.slice none 0 0, .slice none 0 0, .int .i64 0] 56 := ⟨⟨_, (show Tryz.prog.info? 154 = some Tryz.t154 by kernel_rfl), rfl, rfl, _, rfl, rfl⟩⟩
theorem us_155 : (Tryz.prog.underlying 155).isSome = true := by rw [Tryz.underlying155]; rfl
theorem ag_155 (w : World) : (isAgg 155).run Tryz.prog w = .ok true w := Tryz.isAgg155 w
theorem sz_155 (w : World) : (sizeOf 155).run Tryz.prog w = .ok 3 w := Tryz.sizeOf155 w
theorem it_155 : ITy Tryz.prog 155 [.slice none 0 0, .slice none 0 0, .int .i64 0] 56 := ⟨⟨_, (show Tryz.prog.info? 155 = some Tryz.t155 by kernel_rfl), rfl, rfl, _, rfl, rfl⟩⟩
theorem un_173 : Tryz.prog.underlying 173 = some (.array 24 5) := Tryz.underlying173
theorem us_173 : (Tryz.prog.underlying 173).isSome = true := by rw [un_173]; rfl
theorem ag_173 (w : World) : (isAgg 173).run Tryz.prog w = .ok true w := Tryz.isAgg173 w
theorem sz_173 (w : World) : (sizeOf 173).run Tryz.prog w = .ok 24 w := Tryz.sizeOf173 w
theorem un_174 : Tryz.prog.underlying 174 = some (.int .u64) := Tryz.underlying174
theorem us_174 : (Tryz.prog.underlying 174).isSome = true := by rw [un_174]; rfl
theorem ag_174 (w : World) : (isAgg 174).run Tryz.prog w = .ok false w := Tryz.isAgg174 w
theorem sz_174 (w : World) : (sizeOf 174).run Tryz.prog w = .ok 1 w := Tryz.sizeOf174 w
theorem it_174 : ITy Tryz.prog 174 [.int .u64 0] 8 := ⟨⟨_, (show Tryz.prog.info? 174 = some Tryz.t174 by kernel_rfl), rfl, rfl, _, rfl, rfl⟩⟩
theorem un_180 : Tryz.prog.underlying 180 = some (.array 20 174) := Tryz.underlying180
theorem us_180 : (Tryz.prog.underlying 180).isSome = true := by rw [un_180]; rfl
theorem ag_180 (w : World) : (isAgg 180).run Tryz.prog w = .ok true w := Tryz.isAgg180 w
theorem sz_180 (w : World) : (sizeOf 180).run Tryz.prog w = .ok 20 w := Tryz.sizeOf180 w
theorem un_181 : Tryz.prog.underlying 181 = some (.array 65 5) := Tryz.underlying181
theorem us_181 : (Tryz.prog.underlying 181).isSome = true := by rw [un_181]; rfl
theorem ag_181 (w : World) : (isAgg 181).run Tryz.prog w = .ok true w := Tryz.isAgg181 w
theorem sz_181 (w : World) : (sizeOf 181).run Tryz.prog w = .ok 65 w := Tryz.sizeOf181 w
theorem un_183 : Tryz.prog.underlying 183 = some (.int .u64) := Tryz.underlying183
theorem us_183 : (Tryz.prog.underlying 183).isSome = true := by rw [un_183]; rfl
theorem ag_183 (w : World) : (isAgg 183).run Tryz.prog w = .ok false w := Tryz.isAgg183 w
theorem sz_183 (w : World) : (sizeOf 183).run Tryz.prog w = .ok 1 w := Tryz.sizeOf183 w
theorem it_183 : ITy Tryz.prog 183 [.int .u64 0] 8 := ⟨⟨_, (show Tryz.prog.info? 183 = some Tryz.t183 by kernel_rfl), rfl, rfl, _, rfl, rfl⟩⟩
theorem un_186 : Tryz.prog.underlying 186 = some (.array 32 5) := Tryz.underlying186
theorem us_186 : (Tryz.prog.underlying 186).isSome = true := by rw [un_186]; rfl
theorem ag_186 (w : World) : (isAgg 186).run Tryz.prog w = .ok true w := Tryz.isAgg186 w
theorem sz_186 (w : World) : (sizeOf 186).run Tryz.prog w = .ok 32 w := Tryz.sizeOf186 w
theorem un_187 : Tryz.prog.underlying 187 = some (.array 64 5) := Tryz.underlying187
theorem us_187 : (Tryz.prog.underlying 187).isSome = true := by rw [un_187]; rfl
theorem ag_187 (w : World) : (isAgg 187).run Tryz.prog w = .ok true w := Tryz.isAgg187 w
theorem sz_187 (w : World) : (sizeOf 187).run Tryz.prog w = .ok 64 w := Tryz.sizeOf187 w
theorem us_189 : (Tryz.prog.underlying 189).isSome = true := by rw [Tryz.underlying189]; rfl
theorem ag_189 (w : World) : (isAgg 189).run Tryz.prog w = .ok true w := Tryz.isAgg189 w
theorem sz_189 (w : World) : (sizeOf 189).run Tryz.prog w = .ok 4 w := Tryz.sizeOf189 w
theorem it_189 : ITy Tryz.prog 189 [.pointer none, .pointer none, .pointer none, .string ⟨#[]⟩] 40 := ⟨⟨_, (show Tryz.prog.info? 189 = some Tryz.t189 by kernel_rfl), rfl, rfl, _, rfl, rfl⟩⟩
theorem us_190 : (Tryz.prog.underlying 190).isSome = true := by rw [Tryz.underlying190]; rfl
theorem ag_190 (w : World) : (isAgg 190).run Tryz.prog w = .ok true w := Tryz.isAgg190 w
theorem sz_190 (w : World) : (sizeOf 190).run Tryz.prog w = .ok 4 w := Tryz.sizeOf190 w
theorem it_190 : ITy Tryz.prog 190 [.pointer none, .pointer none, .pointer none, .string ⟨#[]⟩] 40 := ⟨⟨_, (show Tryz.prog.info? 190 = some Tryz.t190 by kernel_rfl), rfl, rfl, _, rfl, rfl⟩⟩
theorem un_191 : Tryz.prog.underlying 191 = some (.array 0 16) := Tryz.underlying191
theorem us_191 : (Tryz.prog.underlying 191).isSome = true := by rw [un_191]; rfl
theorem ag_191 (w : World) : (isAgg 191).run Tryz.prog w = .ok true w := Tryz.isAgg191 w
theorem sz_191 (w : World) : (sizeOf 191).run Tryz.prog w = .ok 0 w := Tryz.sizeOf191 w
theorem it_191 : ITy Tryz.prog 191 [] 0 := ⟨⟨_, (show Tryz.prog.info? 191 = some Tryz.t191 by kernel_rfl), rfl, rfl, _, rfl, rfl⟩⟩
theorem us_192 : (Tryz.prog.underlying 192).isSome = true := by rw [Tryz.underlying192]; rfl
theorem ag_192 (w : World) : (isAgg 192).run Tryz.prog w = .ok true w := Tryz.isAgg192 w
theorem sz_192 (w : World) : (sizeOf 192).run Tryz.prog w = .ok 0 w := Tryz.sizeOf192 w
theorem it_192 : ITy Tryz.prog 192 [] 0 := ⟨⟨_, (show Tryz.prog.info? 192 = some Tryz.t192 by kernel_rfl), rfl, rfl, _, rfl, rfl⟩⟩
theorem us_193 : (Tryz.prog.underlying 193).isSome = true := by rw [Tryz.underlying193]; rfl
theorem ag_193 (w : World) : (isAgg 193).run Tryz.prog w = .ok true w := Tryz.isAgg193 w
theorem sz_193 (w : World) : (sizeOf 193).run Tryz.prog w = .ok 0 w := Tryz.sizeOf193 w
theorem it_193 : ITy Tryz.prog 193 [] 0 := ⟨⟨_, (show Tryz.prog.info? 193 = some Tryz.t193 by kernel_rfl), rfl, rfl, _, rfl, rfl⟩⟩
theorem un_195 : Tryz.prog.underlying 195 = some (.int .u8) := Tryz.underlying195
theorem us_195 : (Tryz.prog.underlying 195).isSome = true := by rw [un_195]; rfl
theorem ag_195 (w : World) : (isAgg 195).run Tryz.prog w = .ok false w := Tryz.isAgg195 w
theorem sz_195 (w : World) : (sizeOf 195).run Tryz.prog w = .ok 1 w := Tryz.sizeOf195 w
theorem it_195 : ITy Tryz.prog 195 [.int .u8 0] 1 := ⟨⟨_, (show Tryz.prog.info? 195 = some Tryz.t195 by kernel_rfl), rfl, rfl, _, rfl, rfl⟩⟩
theorem un_196 : Tryz.prog.underlying 196 = some (.int .u8) := Tryz.underlying196
theorem us_196 : (Tryz.prog.underlying 196).isSome = true := by rw [un_196]; rfl
theorem ag_196 (w : World) : (isAgg 196).run Tryz.prog w = .ok false w := Tryz.isAgg196 w
theorem sz_196 (w : World) : (sizeOf 196).run Tryz.prog w = .ok 1 w := Tryz.sizeOf196 w
theorem it_196 : ITy Tryz.prog 196 [.int .u8 0] 1 := ⟨⟨_, (show Tryz.prog.info? 196 = some Tryz.t196 by kernel_rfl), rfl, rfl, _, rfl, rfl⟩⟩
theorem us_197 : (Tryz.prog.underlying 197).isSome = true := by rw [Tryz.underlying197]; rfl
theorem ag_197 (w : World) : (isAgg 197).run Tryz.prog w = .ok false w := Tryz.isAgg197 w
theorem sz_197 (w : World) : (sizeOf 197).run Tryz.prog w = .ok 1 w := Tryz.sizeOf197 w
theorem it_197 : ITy Tryz.prog 197 [.nilFunc] 8 := ⟨⟨_, (show Tryz.prog.info? 197 = some Tryz.t197 by kernel_rfl), rfl, rfl, _, rfl, rfl⟩⟩
theorem un_198 : Tryz.prog.underlying 198 = some (.pointer 5) := Tryz.underlying198
theorem us_198 : (Tryz.prog.underlying 198).isSome = true := by rw [un_198]; rfl
theorem ag_198 (w : World) : (isAgg 198).run Tryz.prog w = .ok false w := Tryz.isAgg198 w
theorem sz_198 (w : World) : (sizeOf 198).run Tryz.prog w = .ok 1 w := Tryz.sizeOf198 w
theorem it_198 : ITy Tryz.prog 198 [.pointer none] 8 := ⟨⟨_, (show Tryz.prog.info? 198 = some Tryz.t198 by kernel_rfl), rfl, rfl, _, rfl, rfl⟩⟩
theorem un_199 : Tryz.prog.underlying 199 = some (.int .i32) := Tryz.underlying199
theorem us_199 : (Tryz.prog.underlying 199).isSome = true := by rw [un_199]; rfl
theorem ag_199 (w : World) : (isAgg 199).run Tryz.prog w = .ok false w := Tryz.isAgg199 w
theorem sz_199 (w : World) : (sizeOf 199).run Tryz.prog w = .ok 1 w := Tryz.sizeOf199 w
theorem it_199 : ITy Tryz.prog 199 [.int .i32 0] 4 := ⟨⟨_, (show Tryz.prog.info? 199 = some Tryz.t199 by kernel_rfl), rfl, rfl, _, rfl, rfl⟩⟩
theorem un_200 : Tryz.prog.underlying 200 = some (.int .i32) := Tryz.underlying200
theorem us_200 : (Tryz.prog.underlying 200).isSome = true := by rw [un_200]; rfl
theorem ag_200 (w : World) : (isAgg 200).run Tryz.prog w = .ok false w := Tryz.isAgg200 w
theorem sz_200 (w : World) : (sizeOf 200).run Tryz.prog w = .ok 1 w := Tryz.sizeOf200 w
theorem it_200 : ITy Tryz.prog 200 [.int .i32 0] 4 := ⟨⟨_, (show Tryz.prog.info? 200 = some Tryz.t200 by kernel_rfl), rfl, rfl, _, rfl, rfl⟩⟩
theorem us_201 : (Tryz.prog.underlying 201).isSome = true := by rw [Tryz.underlying201]; rfl
theorem ag_201 (w : World) : (isAgg 201).run Tryz.prog w = .ok true w := Tryz.isAgg201 w
theorem sz_201 (w : World) : (sizeOf 201).run Tryz.prog w = .ok 11 w := Tryz.sizeOf201 w
theorem it_201 : ITy Tryz.prog 201 [.int .u64 0, .int .u64 0, .int .u32 0, .int .u8 0, .int .u8 0, .int .u8 0, .int .u8 0, .nilFunc, .pointer none, .int .i32 0, .int .i32 0] 48 := ⟨⟨_, (show Tryz.prog.info? 201 = some Tryz.t201 by kernel_rfl), rfl, rfl, _, rfl, rfl⟩⟩
theorem us_202 : (Tryz.prog.underlying 202).isSome = true := by rw [Tryz.underlying202]; rfl
theorem ag_202 (w : World) : (isAgg 202).run Tryz.prog w = .ok true w := Tryz.isAgg202 w
theorem sz_202 (w : World) : (sizeOf 202).run Tryz.prog w = .ok 11 w := Tryz.sizeOf202 w
theorem it_202 : ITy Tryz.prog 202 [.int .u64 0, .int .u64 0, .int .u32 0, .int .u8 0, .int .u8 0, .int .u8 0, .int .u8 0, .nilFunc, .pointer none, .int .i32 0, .int .i32 0] 48 := ⟨⟨_, (show Tryz.prog.info? 202 = some Tryz.t202 by kernel_rfl), rfl, rfl, _, rfl, rfl⟩⟩
end Go.Proofs.YtgjpjpdmkeifeaaGreatDoor
