/- Closed facts on the types of this seat: printed by a program of ours. -/
import Derived.Test.YtkhndfaampkbnaaReg
import Derived.Test.YtkhndfaampkbnaaProg
namespace Go.Proofs.Ytkhndfaampkbnaa
open Go Go.Dd

theorem mixed : Try.prog.follows .mixedOrders = true := by kernel_rfl
theorem us_1 : (Try.prog.underlying 1).isSome = true := by rw [Try.underlying1]; rfl
theorem ag_1 (w : World) : (isAgg 1).run Try.prog w = .ok false w := Try.isAgg1 w
theorem sz_1 (w : World) : (sizeOf 1).run Try.prog w = .ok 1 w := Try.sizeOf1 w
theorem it_1 : ITy Try.prog 1 [.nilFunc] 8 := ⟨⟨_, (show Try.prog.info? 1 = some Try.t1 by kernel_rfl), rfl, rfl, _, rfl, rfl⟩⟩
theorem un_2 : Try.prog.underlying 2 = some (.int .i64) := Try.underlying2
theorem us_2 : (Try.prog.underlying 2).isSome = true := by rw [un_2]; rfl
theorem ag_2 (w : World) : (isAgg 2).run Try.prog w = .ok false w := Try.isAgg2 w
theorem sz_2 (w : World) : (sizeOf 2).run Try.prog w = .ok 1 w := Try.sizeOf2 w
theorem it_2 : ITy Try.prog 2 [.int .i64 0] 8 := ⟨⟨_, (show Try.prog.info? 2 = some Try.t2 by kernel_rfl), rfl, rfl, _, rfl, rfl⟩⟩
theorem un_3 : Try.prog.underlying 3 = some (.int .i64) := Try.underlying3
theorem us_3 : (Try.prog.underlying 3).isSome = true := by rw [un_3]; rfl
theorem ag_3 (w : World) : (isAgg 3).run Try.prog w = .ok false w := Try.isAgg3 w
theorem sz_3 (w : World) : (sizeOf 3).run Try.prog w = .ok 1 w := Try.sizeOf3 w
theorem it_3 : ITy Try.prog 3 [.int .i64 0] 8 := ⟨⟨_, (show Try.prog.info? 3 = some Try.t3 by kernel_rfl), rfl, rfl, _, rfl, rfl⟩⟩
theorem un_4 : Try.prog.underlying 4 = some (.bool) := Try.underlying4
theorem us_4 : (Try.prog.underlying 4).isSome = true := by rw [un_4]; rfl
theorem ag_4 (w : World) : (isAgg 4).run Try.prog w = .ok false w := Try.isAgg4 w
theorem sz_4 (w : World) : (sizeOf 4).run Try.prog w = .ok 1 w := Try.sizeOf4 w
theorem it_4 : ITy Try.prog 4 [.bool false] 1 := ⟨⟨_, (show Try.prog.info? 4 = some Try.t4 by kernel_rfl), rfl, rfl, _, rfl, rfl⟩⟩
theorem un_5 : Try.prog.underlying 5 = some (.int .u8) := Try.underlying5
theorem us_5 : (Try.prog.underlying 5).isSome = true := by rw [un_5]; rfl
theorem ag_5 (w : World) : (isAgg 5).run Try.prog w = .ok false w := Try.isAgg5 w
theorem sz_5 (w : World) : (sizeOf 5).run Try.prog w = .ok 1 w := Try.sizeOf5 w
theorem it_5 : ITy Try.prog 5 [.int .u8 0] 1 := ⟨⟨_, (show Try.prog.info? 5 = some Try.t5 by kernel_rfl), rfl, rfl, _, rfl, rfl⟩⟩
theorem un_6 : Try.prog.underlying 6 = some (.int .u8) := Try.underlying6
theorem us_6 : (Try.prog.underlying 6).isSome = true := by rw [un_6]; rfl
theorem ag_6 (w : World) : (isAgg 6).run Try.prog w = .ok false w := Try.isAgg6 w
theorem sz_6 (w : World) : (sizeOf 6).run Try.prog w = .ok 1 w := Try.sizeOf6 w
theorem it_6 : ITy Try.prog 6 [.int .u8 0] 1 := ⟨⟨_, (show Try.prog.info? 6 = some Try.t6 by kernel_rfl), rfl, rfl, _, rfl, rfl⟩⟩
theorem us_7 : (Try.prog.underlying 7).isSome = true := by rw [Try.underlying7]; rfl
theorem ag_7 (w : World) : (isAgg 7).run Try.prog w = .ok true w := Try.isAgg7 w
theorem sz_7 (w : World) : (sizeOf 7).run Try.prog w = .ok 4 w := Try.sizeOf7 w
theorem it_7 : ITy Try.prog 7 [.int .i64 0, .int .i64 0, .bool false, .int .u8 0] 24 := ⟨⟨_, (show Try.prog.info? 7 = some Try.t7 by kernel_rfl), rfl, rfl, _, rfl, rfl⟩⟩
theorem us_8 : (Try.prog.underlying 8).isSome = true := by rw [Try.underlying8]; rfl
theorem ag_8 (w : World) : (isAgg 8).run Try.prog w = .ok true w := Try.isAgg8 w
theorem sz_8 (w : World) : (sizeOf 8).run Try.prog w = .ok 4 w := Try.sizeOf8 w
theorem it_8 : ITy Try.prog 8 [.int .i64 0, .int .i64 0, .bool false, .int .u8 0] 24 := ⟨⟨_, (show Try.prog.info? 8 = some Try.t8 by kernel_rfl), rfl, rfl, _, rfl, rfl⟩⟩
theorem un_9 : Try.prog.underlying 9 = some (.string) := Try.underlying9
theorem us_9 : (Try.prog.underlying 9).isSome = true := by rw [un_9]; rfl
theorem ag_9 (w : World) : (isAgg 9).run Try.prog w = .ok false w := Try.isAgg9 w
theorem sz_9 (w : World) : (sizeOf 9).run Try.prog w = .ok 1 w := Try.sizeOf9 w
theorem it_9 : ITy Try.prog 9 [.string ⟨#[]⟩] 16 := ⟨⟨_, (show Try.prog.info? 9 = some Try.t9 by kernel_rfl), rfl, rfl, _, rfl, rfl⟩⟩
theorem un_10 : Try.prog.underlying 10 = some (.string) := Try.underlying10
theorem us_10 : (Try.prog.underlying 10).isSome = true := by rw [un_10]; rfl
theorem ag_10 (w : World) : (isAgg 10).run Try.prog w = .ok false w := Try.isAgg10 w
theorem sz_10 (w : World) : (sizeOf 10).run Try.prog w = .ok 1 w := Try.sizeOf10 w
theorem it_10 : ITy Try.prog 10 [.string ⟨#[]⟩] 16 := ⟨⟨_, (show Try.prog.info? 10 = some Try.t10 by kernel_rfl), rfl, rfl, _, rfl, rfl⟩⟩
theorem un_11 : Try.prog.underlying 11 = some (.string) := Try.underlying11
theorem us_11 : (Try.prog.underlying 11).isSome = true := by rw [un_11]; rfl
theorem ag_11 (w : World) : (isAgg 11).run Try.prog w = .ok false w := Try.isAgg11 w
theorem sz_11 (w : World) : (sizeOf 11).run Try.prog w = .ok 1 w := Try.sizeOf11 w
theorem it_11 : ITy Try.prog 11 [.string ⟨#[]⟩] 16 := ⟨⟨_, (show Try.prog.info? 11 = some Try.t11 by kernel_rfl), rfl, rfl, _, rfl, rfl⟩⟩
theorem un_12 : Try.prog.underlying 12 = some (.int .u64) := Try.underlying12
theorem us_12 : (Try.prog.underlying 12).isSome = true := by rw [un_12]; rfl
theorem ag_12 (w : World) : (isAgg 12).run Try.prog w = .ok false w := Try.isAgg12 w
theorem sz_12 (w : World) : (sizeOf 12).run Try.prog w = .ok 1 w := Try.sizeOf12 w
theorem it_12 : ITy Try.prog 12 [.int .u64 0] 8 := ⟨⟨_, (show Try.prog.info? 12 = some Try.t12 by kernel_rfl), rfl, rfl, _, rfl, rfl⟩⟩
theorem us_13 : (Try.prog.underlying 13).isSome = true := by rw [Try.underlying13]; rfl
theorem ag_13 (w : World) : (isAgg 13).run Try.prog w = .ok true w := Try.isAgg13 w
theorem sz_13 (w : World) : (sizeOf 13).run Try.prog w = .ok 2 w := Try.sizeOf13 w
theorem it_13 : ITy Try.prog 13 [.string ⟨#[]⟩, .int .u64 0] 24 := ⟨⟨_, (show Try.prog.info? 13 = some Try.t13 by kernel_rfl), rfl, rfl, _, rfl, rfl⟩⟩
theorem us_14 : (Try.prog.underlying 14).isSome = true := by rw [Try.underlying14]; rfl
theorem ag_14 (w : World) : (isAgg 14).run Try.prog w = .ok true w := Try.isAgg14 w
theorem sz_14 (w : World) : (sizeOf 14).run Try.prog w = .ok 2 w := Try.sizeOf14 w
theorem it_14 : ITy Try.prog 14 [.string ⟨#[]⟩, .int .u64 0] 24 := ⟨⟨_, (show Try.prog.info? 14 = some Try.t14 by kernel_rfl), rfl, rfl, _, rfl, rfl⟩⟩
theorem un_15 : Try.prog.underlying 15 = some (.pointer 82) := Try.underlying15
theorem us_15 : (Try.prog.underlying 15).isSome = true := by rw [un_15]; rfl
theorem ag_15 (w : World) : (isAgg 15).run Try.prog w = .ok false w := Try.isAgg15 w
theorem sz_15 (w : World) : (sizeOf 15).run Try.prog w = .ok 1 w := Try.sizeOf15 w
theorem it_15 : ITy Try.prog 15 [.pointer none] 8 := ⟨⟨_, (show Try.prog.info? 15 = some Try.t15 by kernel_rfl), rfl, rfl, _, rfl, rfl⟩⟩
theorem un_16 : Try.prog.underlying 16 = some (.pointer 85) := Try.underlying16
theorem us_16 : (Try.prog.underlying 16).isSome = true := by rw [un_16]; rfl
theorem ag_16 (w : World) : (isAgg 16).run Try.prog w = .ok false w := Try.isAgg16 w
theorem sz_16 (w : World) : (sizeOf 16).run Try.prog w = .ok 1 w := Try.sizeOf16 w
theorem it_16 : ITy Try.prog 16 [.pointer none] 8 := ⟨⟨_, (show Try.prog.info? 16 = some Try.t16 by kernel_rfl), rfl, rfl, _, rfl, rfl⟩⟩
theorem un_17 : Try.prog.underlying 17 = some (.pointer 94) := Try.underlying17
theorem us_17 : (Try.prog.underlying 17).isSome = true := by rw [un_17]; rfl
theorem ag_17 (w : World) : (isAgg 17).run Try.prog w = .ok false w := Try.isAgg17 w
theorem sz_17 (w : World) : (sizeOf 17).run Try.prog w = .ok 1 w := Try.sizeOf17 w
theorem it_17 : ITy Try.prog 17 [.pointer none] 8 := ⟨⟨_, (show Try.prog.info? 17 = some Try.t17 by kernel_rfl), rfl, rfl, _, rfl, rfl⟩⟩
theorem us_18 : (Try.prog.underlying 18).isSome = true := by rw [Try.underlying18]; rfl
theorem ag_18 (w : World) : (isAgg 18).run Try.prog w = .ok true w := Try.isAgg18 w
theorem sz_18 (w : World) : (sizeOf 18).run Try.prog w = .ok 1 w := Try.sizeOf18 w
theorem it_18 : ITy Try.prog 18 [.pointer none] 8 := ⟨⟨_, (show Try.prog.info? 18 = some Try.t18 by kernel_rfl), rfl, rfl, _, rfl, rfl⟩⟩
theorem us_19 : (Try.prog.underlying 19).isSome = true := by rw [Try.underlying19]; rfl
theorem ag_19 (w : World) : (isAgg 19).run Try.prog w = .ok true w := Try.isAgg19 w
theorem sz_19 (w : World) : (sizeOf 19).run Try.prog w = .ok 1 w := Try.sizeOf19 w
theorem it_19 : ITy Try.prog 19 [.pointer none] 8 := ⟨⟨_, (show Try.prog.info? 19 = some Try.t19 by kernel_rfl), rfl, rfl, _, rfl, rfl⟩⟩
theorem us_20 : (Try.prog.underlying 20).isSome = true := by rw [Try.underlying20]; rfl
theorem ag_20 (w : World) : (isAgg 20).run Try.prog w = .ok false w := Try.isAgg20 w
theorem sz_20 (w : World) : (sizeOf 20).run Try.prog w = .ok 1 w := Try.sizeOf20 w
theorem it_20 : ITy Try.prog 20 [.nilIface] 16 := ⟨⟨_, (show Try.prog.info? 20 = some Try.t20 by kernel_rfl), rfl, rfl, _, rfl, rfl⟩⟩
theorem un_21 : Try.prog.underlying 21 = some (.int .i32) := Try.underlying21
theorem us_21 : (Try.prog.underlying 21).isSome = true := by rw [un_21]; rfl
theorem ag_21 (w : World) : (isAgg 21).run Try.prog w = .ok false w := Try.isAgg21 w
theorem sz_21 (w : World) : (sizeOf 21).run Try.prog w = .ok 1 w := Try.sizeOf21 w
theorem it_21 : ITy Try.prog 21 [.int .i32 0] 4 := ⟨⟨_, (show Try.prog.info? 21 = some Try.t21 by kernel_rfl), rfl, rfl, _, rfl, rfl⟩⟩
theorem st_22 : STy Try.prog 22 3 1 := ⟨Try.underlying22, Try.sizeOf3⟩
theorem un_22 : Try.prog.underlying 22 = some (.slice 3) := Try.underlying22
theorem us_22 : (Try.prog.underlying 22).isSome = true := by rw [un_22]; rfl
theorem ag_22 (w : World) : (isAgg 22).run Try.prog w = .ok false w := Try.isAgg22 w
theorem sz_22 (w : World) : (sizeOf 22).run Try.prog w = .ok 1 w := Try.sizeOf22 w
theorem it_22 : ITy Try.prog 22 [.slice none 0 0] 24 := ⟨⟨_, (show Try.prog.info? 22 = some Try.t22 by kernel_rfl), rfl, rfl, _, rfl, rfl⟩⟩
theorem st_23 : STy Try.prog 23 21 1 := ⟨Try.underlying23, Try.sizeOf21⟩
theorem un_23 : Try.prog.underlying 23 = some (.slice 21) := Try.underlying23
theorem us_23 : (Try.prog.underlying 23).isSome = true := by rw [un_23]; rfl
theorem ag_23 (w : World) : (isAgg 23).run Try.prog w = .ok false w := Try.isAgg23 w
theorem sz_23 (w : World) : (sizeOf 23).run Try.prog w = .ok 1 w := Try.sizeOf23 w
theorem it_23 : ITy Try.prog 23 [.slice none 0 0] 24 := ⟨⟨_, (show Try.prog.info? 23 = some Try.t23 by kernel_rfl), rfl, rfl, _, rfl, rfl⟩⟩
theorem us_24 : (Try.prog.underlying 24).isSome = true := by rw [Try.underlying24]; rfl
theorem ag_24 (w : World) : (isAgg 24).run Try.prog w = .ok true w := Try.isAgg24 w
theorem sz_24 (w : World) : (sizeOf 24).run Try.prog w = .ok 2 w := Try.sizeOf24 w
theorem it_24 : ITy Try.prog 24 [.slice none 0 0, .slice none 0 0] 48 := ⟨⟨_, (show Try.prog.info? 24 = some Try.t24 by kernel_rfl), rfl, rfl, _, rfl, rfl⟩⟩
theorem us_25 : (Try.prog.underlying 25).isSome = true := by rw [Try.underlying25]; rfl
theorem ag_25 (w : World) : (isAgg 25).run Try.prog w = .ok true w := Try.isAgg25 w
theorem sz_25 (w : World) : (sizeOf 25).run Try.prog w = .ok 2 w := Try.sizeOf25 w
theorem it_25 : ITy Try.prog 25 [.slice none 0 0, .slice none 0 0] 48 := ⟨⟨_, (show Try.prog.info? 25 = some Try.t25 by kernel_rfl), rfl, rfl, _, rfl, rfl⟩⟩
theorem us_27 : (Try.prog.underlying 27).isSome = true := by rw [Try.underlying27]; rfl
theorem ag_27 (w : World) : (isAgg 27).run Try.prog w = .ok false w := Try.isAgg27 w
theorem sz_27 (w : World) : (sizeOf 27).run Try.prog w = .ok 1 w := Try.sizeOf27 w
theorem it_27 : ITy Try.prog 27 [.nilFunc] 8 := ⟨⟨_, (show Try.prog.info? 27 = some Try.t27 by kernel_rfl), rfl, rfl, _, rfl, rfl⟩⟩
theorem un_28 : Try.prog.underlying 28 = some (.int .i64) := Try.underlying28
theorem us_28 : (Try.prog.underlying 28).isSome = true := by rw [un_28]; rfl
theorem ag_28 (w : World) : (isAgg 28).run Try.prog w = .ok false w := Try.isAgg28 w
theorem sz_28 (w : World) : (sizeOf 28).run Try.prog w = .ok 1 w := Try.sizeOf28 w
theorem it_28 : ITy Try.prog 28 [.int .i64 0] 8 := ⟨⟨_, (show Try.prog.info? 28 = some Try.t28 by kernel_rfl), rfl, rfl, _, rfl, rfl⟩⟩
theorem st_35 : STy Try.prog 35 25 2 := ⟨Try.underlying35, Try.sizeOf25⟩
theorem un_35 : Try.prog.underlying 35 = some (.slice 25) := Try.underlying35
theorem us_35 : (Try.prog.underlying 35).isSome = true := by rw [un_35]; rfl
theorem ag_35 (w : World) : (isAgg 35).run Try.prog w = .ok false w := Try.isAgg35 w
theorem sz_35 (w : World) : (sizeOf 35).run Try.prog w = .ok 1 w := Try.sizeOf35 w
theorem it_35 : ITy Try.prog 35 [.slice none 0 0] 24 := ⟨⟨_, (show Try.prog.info? 35 = some Try.t35 by kernel_rfl), rfl, rfl, _, rfl, rfl⟩⟩
theorem un_38 : Try.prog.underlying 38 = some (.array 2 5) := Try.underlying38
theorem us_38 : (Try.prog.underlying 38).isSome = true := by rw [un_38]; rfl
theorem ag_38 (w : World) : (isAgg 38).run Try.prog w = .ok true w := Try.isAgg38 w
theorem sz_38 (w : World) : (sizeOf 38).run Try.prog w = .ok 2 w := Try.sizeOf38 w
theorem it_38 : ITy Try.prog 38 [.int .u8 0, .int .u8 0] 2 := ⟨⟨_, (show Try.prog.info? 38 = some Try.t38 by kernel_rfl), rfl, rfl, _, rfl, rfl⟩⟩
theorem us_55 : (Try.prog.underlying 55).isSome = true := by rw [Try.underlying55]; rfl
theorem ag_55 (w : World) : (isAgg 55).run Try.prog w = .ok false w := Try.isAgg55 w
theorem sz_55 (w : World) : (sizeOf 55).run Try.prog w = .ok 1 w := Try.sizeOf55 w
theorem it_55 : ITy Try.prog 55 [.nilFunc] 8 := ⟨⟨_, (show Try.prog.info? 55 = some Try.t55 by kernel_rfl), rfl, rfl, _, rfl, rfl⟩⟩
theorem st_57 : STy Try.prog 57 3 1 := ⟨Try.underlying57, Try.sizeOf3⟩
theorem un_57 : Try.prog.underlying 57 = some (.slice 3) := Try.underlying57
theorem us_57 : (Try.prog.underlying 57).isSome = true := by rw [un_57]; rfl
theorem ag_57 (w : World) : (isAgg 57).run Try.prog w = .ok false w := Try.isAgg57 w
theorem sz_57 (w : World) : (sizeOf 57).run Try.prog w = .ok 1 w := Try.sizeOf57 w
theorem it_57 : ITy Try.prog 57 [.slice none 0 0] 24 := ⟨⟨_, (show Try.prog.info? 57 = some Try.t57 by kernel_rfl), rfl, rfl, _, rfl, rfl⟩⟩
theorem us_60 : (Try.prog.underlying 60).isSome = true := by rw [Try.underlying60]; rfl
theorem ag_60 (w : World) : (isAgg 60).run Try.prog w = .ok true w := Try.isAgg60 w
theorem sz_60 (w : World) : (sizeOf 60).run Try.prog w = .ok 2 w := Try.sizeOf60 w
theorem it_60 : ITy Try.prog 60 [.slice none 0 0, .int .i64 0] 32 := ⟨⟨_, (show Try.prog.info? 60 = some Try.t60 by kernel_rfl), rfl, rfl, _, rfl, rfl⟩⟩
theorem us_61 : (Try.prog.underlying 61).isSome = true := by rw [Try.underlying61]; rfl
theorem ag_61 (w : World) : (isAgg 61).run Try.prog w = .ok true w := Try.isAgg61 w
theorem sz_61 (w : World) : (sizeOf 61).run Try.prog w = .ok 2 w := Try.sizeOf61 w
theorem it_61 : ITy Try.prog 61 [.slice none 0 0, .int .i64 0] 32 := ⟨⟨_, (show Try.prog.info? 61 = some Try.t61 by kernel_rfl), rfl, rfl, _, rfl, rfl⟩⟩
theorem us_64 : (Try.prog.underlying 64).isSome = true := by rw [Try.underlying64]; rfl
theorem ag_64 (w : World) : (isAgg 64).run Try.prog w = .ok false w := Try.isAgg64 w
theorem sz_64 (w : World) : (sizeOf 64).run Try.prog w = .ok 1 w := Try.sizeOf64 w
theorem it_64 : ITy Try.prog 64 [.nilFunc] 8 := ⟨⟨_, (show Try.prog.info? 64 = some Try.t64 by kernel_rfl), rfl, rfl, _, rfl, rfl⟩⟩
theorem us_65 : (Try.prog.underlying 65).isSome = true := by rw [Try.underlying65]; rfl
theorem ag_65 (w : World) : (isAgg 65).run Try.prog w = .ok true w := Try.isAgg65 w
theorem sz_65 (w : World) : (sizeOf 65).run Try.prog w = .ok 1 w := Try.sizeOf65 w
theorem it_65 : ITy Try.prog 65 [.nilFunc] 8 := ⟨⟨_, (show Try.prog.info? 65 = some Try.t65 by kernel_rfl), rfl, rfl, _, rfl, rfl⟩⟩
theorem us_66 : (Try.prog.underlying 66).isSome = true := by rw [Try.underlying66]; rfl
theorem ag_66 (w : World) : (isAgg 66).run Try.prog w = .ok true w := Try.isAgg66 w
theorem sz_66 (w : World) : (sizeOf 66).run Try.prog w = .ok 1 w := Try.sizeOf66 w
theorem it_66 : ITy Try.prog 66 [.nilFunc] 8 := ⟨⟨_, (show Try.prog.info? 66 = some Try.t66 by kernel_rfl), rfl, rfl, _, rfl, rfl⟩⟩
theorem st_76 : STy Try.prog 76 22 1 := ⟨Try.underlying76, Try.sizeOf22⟩
theorem un_76 : Try.prog.underlying 76 = some (.slice 22) := Try.underlying76
theorem us_76 : (Try.prog.underlying 76).isSome = true := by rw [un_76]; rfl
theorem ag_76 (w : World) : (isAgg 76).run Try.prog w = .ok false w := Try.isAgg76 w
theorem sz_76 (w : World) : (sizeOf 76).run Try.prog w = .ok 1 w := Try.sizeOf76 w
theorem it_76 : ITy Try.prog 76 [.slice none 0 0] 24 := ⟨⟨_, (show Try.prog.info? 76 = some Try.t76 by kernel_rfl), rfl, rfl, _, rfl, rfl⟩⟩
theorem us_79 : (Try.prog.underlying 79).isSome = true := by rw [Try.underlying79]; rfl
theorem ag_79 (w : World) : (isAgg 79).run Try.prog w = .ok false w := Try.isAgg79 w
theorem sz_79 (w : World) : (sizeOf 79).run Try.prog w = .ok 1 w := Try.sizeOf79 w
theorem it_79 : ITy Try.prog 79 [.nilFunc] 8 := ⟨⟨_, (show Try.prog.info? 79 = some Try.t79 by kernel_rfl), rfl, rfl, _, rfl, rfl⟩⟩
theorem us_81 : (Try.prog.underlying 81).isSome = true := by rw [Try.underlying81]; rfl
theorem ag_81 (w : World) : (isAgg 81).run Try.prog w = .ok true w := Try.isAgg81 w
theorem sz_81 (w : World) : (sizeOf 81).run Try.prog w = .ok 4 w := Try.sizeOf81 w
theorem it_81 : ITy Try.prog 81 [.pointer none, .pointer none, .pointer none, .string ⟨#[]⟩] 40 := ⟨⟨_, (show Try.prog.info? 81 = some Try.t81 by kernel_rfl), rfl, rfl, _, rfl, rfl⟩⟩
theorem us_82 : (Try.prog.underlying 82).isSome = true := by rw [Try.underlying82]; rfl
theorem ag_82 (w : World) : (isAgg 82).run Try.prog w = .ok true w := Try.isAgg82 w
theorem sz_82 (w : World) : (sizeOf 82).run Try.prog w = .ok 4 w := Try.sizeOf82 w
theorem it_82 : ITy Try.prog 82 [.pointer none, .pointer none, .pointer none, .string ⟨#[]⟩] 40 := ⟨⟨_, (show Try.prog.info? 82 = some Try.t82 by kernel_rfl), rfl, rfl, _, rfl, rfl⟩⟩
theorem un_83 : Try.prog.underlying 83 = some (.array 0 16) := Try.underlying83
theorem us_83 : (Try.prog.underlying 83).isSome = true := by rw [un_83]; rfl
theorem ag_83 (w : World) : (isAgg 83).run Try.prog w = .ok true w := Try.isAgg83 w
theorem sz_83 (w : World) : (sizeOf 83).run Try.prog w = .ok 0 w := Try.sizeOf83 w
theorem it_83 : ITy Try.prog 83 [] 0 := ⟨⟨_, (show Try.prog.info? 83 = some Try.t83 by kernel_rfl), rfl, rfl, _, rfl, rfl⟩⟩
theorem us_84 : (Try.prog.underlying 84).isSome = true := by rw [Try.underlying84]; rfl
theorem ag_84 (w : World) : (isAgg 84).run Try.prog w = .ok true w := Try.isAgg84 w
theorem sz_84 (w : World) : (sizeOf 84).run Try.prog w = .ok 0 w := Try.sizeOf84 w
theorem it_84 : ITy Try.prog 84 [] 0 := ⟨⟨_, (show Try.prog.info? 84 = some Try.t84 by kernel_rfl), rfl, rfl, _, rfl, rfl⟩⟩
theorem us_85 : (Try.prog.underlying 85).isSome = true := by rw [Try.underlying85]; rfl
theorem ag_85 (w : World) : (isAgg 85).run Try.prog w = .ok true w := Try.isAgg85 w
theorem sz_85 (w : World) : (sizeOf 85).run Try.prog w = .ok 0 w := Try.sizeOf85 w
theorem it_85 : ITy Try.prog 85 [] 0 := ⟨⟨_, (show Try.prog.info? 85 = some Try.t85 by kernel_rfl), rfl, rfl, _, rfl, rfl⟩⟩
theorem un_86 : Try.prog.underlying 86 = some (.int .u32) := Try.underlying86
theorem us_86 : (Try.prog.underlying 86).isSome = true := by rw [un_86]; rfl
theorem ag_86 (w : World) : (isAgg 86).run Try.prog w = .ok false w := Try.isAgg86 w
theorem sz_86 (w : World) : (sizeOf 86).run Try.prog w = .ok 1 w := Try.sizeOf86 w
theorem it_86 : ITy Try.prog 86 [.int .u32 0] 4 := ⟨⟨_, (show Try.prog.info? 86 = some Try.t86 by kernel_rfl), rfl, rfl, _, rfl, rfl⟩⟩
theorem un_87 : Try.prog.underlying 87 = some (.int .u8) := Try.underlying87
theorem us_87 : (Try.prog.underlying 87).isSome = true := by rw [un_87]; rfl
theorem ag_87 (w : World) : (isAgg 87).run Try.prog w = .ok false w := Try.isAgg87 w
theorem sz_87 (w : World) : (sizeOf 87).run Try.prog w = .ok 1 w := Try.sizeOf87 w
theorem it_87 : ITy Try.prog 87 [.int .u8 0] 1 := ⟨⟨_, (show Try.prog.info? 87 = some Try.t87 by kernel_rfl), rfl, rfl, _, rfl, rfl⟩⟩
theorem un_88 : Try.prog.underlying 88 = some (.int .u8) := Try.underlying88
theorem us_88 : (Try.prog.underlying 88).isSome = true := by rw [un_88]; rfl
theorem ag_88 (w : World) : (isAgg 88).run Try.prog w = .ok false w := Try.isAgg88 w
theorem sz_88 (w : World) : (sizeOf 88).run Try.prog w = .ok 1 w := Try.sizeOf88 w
theorem it_88 : ITy Try.prog 88 [.int .u8 0] 1 := ⟨⟨_, (show Try.prog.info? 88 = some Try.t88 by kernel_rfl), rfl, rfl, _, rfl, rfl⟩⟩
theorem us_89 : (Try.prog.underlying 89).isSome = true := by rw [Try.underlying89]; rfl
theorem ag_89 (w : World) : (isAgg 89).run Try.prog w = .ok false w := Try.isAgg89 w
theorem sz_89 (w : World) : (sizeOf 89).run Try.prog w = .ok 1 w := Try.sizeOf89 w
theorem it_89 : ITy Try.prog 89 [.nilFunc] 8 := ⟨⟨_, (show Try.prog.info? 89 = some Try.t89 by kernel_rfl), rfl, rfl, _, rfl, rfl⟩⟩
theorem un_90 : Try.prog.underlying 90 = some (.pointer 5) := Try.underlying90
theorem us_90 : (Try.prog.underlying 90).isSome = true := by rw [un_90]; rfl
theorem ag_90 (w : World) : (isAgg 90).run Try.prog w = .ok false w := Try.isAgg90 w
theorem sz_90 (w : World) : (sizeOf 90).run Try.prog w = .ok 1 w := Try.sizeOf90 w
theorem it_90 : ITy Try.prog 90 [.pointer none] 8 := ⟨⟨_, (show Try.prog.info? 90 = some Try.t90 by kernel_rfl), rfl, rfl, _, rfl, rfl⟩⟩
theorem un_91 : Try.prog.underlying 91 = some (.int .i32) := Try.underlying91
theorem us_91 : (Try.prog.underlying 91).isSome = true := by rw [un_91]; rfl
theorem ag_91 (w : World) : (isAgg 91).run Try.prog w = .ok false w := Try.isAgg91 w
theorem sz_91 (w : World) : (sizeOf 91).run Try.prog w = .ok 1 w := Try.sizeOf91 w
theorem it_91 : ITy Try.prog 91 [.int .i32 0] 4 := ⟨⟨_, (show Try.prog.info? 91 = some Try.t91 by kernel_rfl), rfl, rfl, _, rfl, rfl⟩⟩
theorem un_92 : Try.prog.underlying 92 = some (.int .i32) := Try.underlying92
theorem us_92 : (Try.prog.underlying 92).isSome = true := by rw [un_92]; rfl
theorem ag_92 (w : World) : (isAgg 92).run Try.prog w = .ok false w := Try.isAgg92 w
theorem sz_92 (w : World) : (sizeOf 92).run Try.prog w = .ok 1 w := Try.sizeOf92 w
theorem it_92 : ITy Try.prog 92 [.int .i32 0] 4 := ⟨⟨_, (show Try.prog.info? 92 = some Try.t92 by kernel_rfl), rfl, rfl, _, rfl, rfl⟩⟩
theorem us_93 : (Try.prog.underlying 93).isSome = true := by rw [Try.underlying93]; rfl
theorem ag_93 (w : World) : (isAgg 93).run Try.prog w = .ok true w := Try.isAgg93 w
theorem sz_93 (w : World) : (sizeOf 93).run Try.prog w = .ok 11 w := Try.sizeOf93 w
theorem it_93 : ITy Try.prog 93 [.int .u64 0, .int .u64 0, .int .u32 0, .int .u8 0, .int .u8 0, .int .u8 0, .int .u8 0, .nilFunc, .pointer none, .int .i32 0, .int .i32 0] 48 := ⟨⟨_, (show Try.prog.info? 93 = some Try.t93 by kernel_rfl), rfl, rfl, _, rfl, rfl⟩⟩
theorem us_94 : (Try.prog.underlying 94).isSome = true := by rw [Try.underlying94]; rfl
theorem ag_94 (w : World) : (isAgg 94).run Try.prog w = .ok true w := Try.isAgg94 w
theorem sz_94 (w : World) : (sizeOf 94).run Try.prog w = .ok 11 w := Try.sizeOf94 w
theorem it_94 : ITy Try.prog 94 [.int .u64 0, .int .u64 0, .int .u32 0, .int .u8 0, .int .u8 0, .int .u8 0, .int .u8 0, .nilFunc, .pointer none, .int .i32 0, .int .i32 0] 48 := ⟨⟨_, (show Try.prog.info? 94 = some Try.t94 by kernel_rfl), rfl, rfl, _, rfl, rfl⟩⟩
end Go.Proofs.Ytkhndfaampkbnaa
