/- Facts of the types that the functions name, each read off the table; no conditions. -/
import Derived.Test.YtgkmijnhhopacaaAbR
import Derived.Test.YtgkmijnhhopacaaProg
namespace Go.Proofs.Ytgkmijnhhopacaa
open Go
theorem hm : Try.prog.follows .mixedOrders = true := by kernel_rfl
theorem sz_3 : szB Try.prog 3 = some 1 := by kernel_rfl
theorem ag_3 : isAggB Try.prog 3 = some false := by kernel_rfl
theorem by_3 : bytesB Try.prog 3 = some 8 := by kernel_rfl
theorem ze_3 : zeroB Try.prog 3 = some ((AV.int IntKind.i64 0) :: []) := by kernel_rfl
theorem in_3 : intB Try.prog 3 = some IntKind.i64 := by kernel_rfl
theorem sh_3 : shapes Try.prog 6 3 = some (Sh.int IntKind.i64 :: []) := by kernel_rfl
theorem sz_4 : szB Try.prog 4 = some 1 := by kernel_rfl
theorem ag_4 : isAggB Try.prog 4 = some false := by kernel_rfl
theorem by_4 : bytesB Try.prog 4 = some 1 := by kernel_rfl
theorem ze_4 : zeroB Try.prog 4 = some ((AV.bool false) :: []) := by kernel_rfl
theorem bo_4 : boolB Try.prog 4 = true := by kernel_rfl
theorem sz_25 : szB Try.prog 25 = some 3 := by kernel_rfl
theorem ag_25 : isAggB Try.prog 25 = some true := by kernel_rfl
theorem by_25 : bytesB Try.prog 25 = some 24 := by kernel_rfl
theorem ze_25 : zeroB Try.prog 25 = some ((AV.int IntKind.i64 0) :: ((AV.int IntKind.i64 0) :: ((AV.int IntKind.i64 0) :: []))) := by kernel_rfl
theorem pl_25 : placesB Try.prog 25 = some ((0, 1) :: ((1, 1) :: ((2, 1) :: []))) := by kernel_rfl
theorem sh_25 : shapes Try.prog 6 25 = some (Sh.int IntKind.i64 :: (Sh.int IntKind.i64 :: (Sh.int IntKind.i64 :: []))) := by kernel_rfl
theorem nf_25 : nfieldsB Try.prog 25 = some 3 := by kernel_rfl
theorem ps_25 : plainStructB Try.prog 25 = true := by kernel_rfl
theorem fi_25_0 : fieldB Try.prog 25 0 = some (0, 1) := by kernel_rfl
theorem fi_25_1 : fieldB Try.prog 25 1 = some (1, 1) := by kernel_rfl
theorem fi_25_2 : fieldB Try.prog 25 2 = some (2, 1) := by kernel_rfl
theorem sz_27 : szB Try.prog 27 = some 3 := by kernel_rfl
theorem ag_27 : isAggB Try.prog 27 = some true := by kernel_rfl
theorem by_27 : bytesB Try.prog 27 = some 24 := by kernel_rfl
theorem ze_27 : zeroB Try.prog 27 = some ((AV.int IntKind.i64 0) :: ((AV.int IntKind.i64 0) :: ((AV.int IntKind.i64 0) :: []))) := by kernel_rfl
theorem pl_27 : placesB Try.prog 27 = some ((0, 1) :: ((1, 1) :: ((2, 1) :: []))) := by kernel_rfl
theorem sh_27 : shapes Try.prog 6 27 = some (Sh.int IntKind.i64 :: (Sh.int IntKind.i64 :: (Sh.int IntKind.i64 :: []))) := by kernel_rfl
theorem nf_27 : nfieldsB Try.prog 27 = some 3 := by kernel_rfl
theorem ps_27 : plainStructB Try.prog 27 = true := by kernel_rfl
theorem fi_27_0 : fieldB Try.prog 27 0 = some (0, 1) := by kernel_rfl
theorem fi_27_1 : fieldB Try.prog 27 1 = some (1, 1) := by kernel_rfl
theorem fi_27_2 : fieldB Try.prog 27 2 = some (2, 1) := by kernel_rfl
theorem sz_35 : szB Try.prog 35 = some 4 := by kernel_rfl
theorem ag_35 : isAggB Try.prog 35 = some true := by kernel_rfl
theorem by_35 : bytesB Try.prog 35 = some 32 := by kernel_rfl
theorem ze_35 : zeroB Try.prog 35 = some ((AV.int IntKind.i64 0) :: ((AV.int IntKind.i64 0) :: ((AV.int IntKind.i64 0) :: ((AV.int IntKind.i64 0) :: [])))) := by kernel_rfl
theorem pl_35 : placesB Try.prog 35 = some ((0, 1) :: ((1, 1) :: ((2, 1) :: ((3, 1) :: [])))) := by kernel_rfl
theorem sh_35 : shapes Try.prog 6 35 = some (Sh.int IntKind.i64 :: (Sh.int IntKind.i64 :: (Sh.int IntKind.i64 :: (Sh.int IntKind.i64 :: [])))) := by kernel_rfl
theorem nf_35 : nfieldsB Try.prog 35 = some 4 := by kernel_rfl
theorem ps_35 : plainStructB Try.prog 35 = true := by kernel_rfl
theorem fi_35_0 : fieldB Try.prog 35 0 = some (0, 1) := by kernel_rfl
theorem fi_35_1 : fieldB Try.prog 35 1 = some (1, 1) := by kernel_rfl
theorem fi_35_2 : fieldB Try.prog 35 2 = some (2, 1) := by kernel_rfl
theorem fi_35_3 : fieldB Try.prog 35 3 = some (3, 1) := by kernel_rfl
theorem sz_36 : szB Try.prog 36 = some 4 := by kernel_rfl
theorem ag_36 : isAggB Try.prog 36 = some true := by kernel_rfl
theorem by_36 : bytesB Try.prog 36 = some 32 := by kernel_rfl
theorem ze_36 : zeroB Try.prog 36 = some ((AV.int IntKind.i64 0) :: ((AV.int IntKind.i64 0) :: ((AV.int IntKind.i64 0) :: ((AV.int IntKind.i64 0) :: [])))) := by kernel_rfl
theorem pl_36 : placesB Try.prog 36 = some ((0, 1) :: ((1, 1) :: ((2, 1) :: ((3, 1) :: [])))) := by kernel_rfl
theorem sh_36 : shapes Try.prog 6 36 = some (Sh.int IntKind.i64 :: (Sh.int IntKind.i64 :: (Sh.int IntKind.i64 :: (Sh.int IntKind.i64 :: [])))) := by kernel_rfl
theorem nf_36 : nfieldsB Try.prog 36 = some 4 := by kernel_rfl
theorem ps_36 : plainStructB Try.prog 36 = true := by kernel_rfl
theorem fi_36_0 : fieldB Try.prog 36 0 = some (0, 1) := by kernel_rfl
theorem fi_36_1 : fieldB Try.prog 36 1 = some (1, 1) := by kernel_rfl
theorem fi_36_2 : fieldB Try.prog 36 2 = some (2, 1) := by kernel_rfl
theorem fi_36_3 : fieldB Try.prog 36 3 = some (3, 1) := by kernel_rfl
theorem sz_43 : szB Try.prog 43 = some 1 := by kernel_rfl
theorem ag_43 : isAggB Try.prog 43 = some false := by kernel_rfl
theorem by_43 : bytesB Try.prog 43 = some 8 := by kernel_rfl
theorem ze_43 : zeroB Try.prog 43 = some ((AV.int IntKind.u64 0) :: []) := by kernel_rfl
theorem in_43 : intB Try.prog 43 = some IntKind.u64 := by kernel_rfl
theorem sh_43 : shapes Try.prog 6 43 = some (Sh.int IntKind.u64 :: []) := by kernel_rfl
end Go.Proofs.Ytgkmijnhhopacaa
