/- Facts of the types that the functions name, each read off the table; no conditions. -/
import Derived.Test.YtkkpbjijakamhaaAbS
import Derived.Test.YtkkpbjijakamhaaProg
namespace Go.Proofs.Ytkkpbjijakamhaa
open Go
theorem hm : Try.prog.follows .mixedOrders = true := by kernel_rfl
theorem sz_3 : szB Try.prog 3 = some 1 := by kernel_rfl
theorem ag_3 : isAggB Try.prog 3 = some false := by kernel_rfl
theorem by_3 : bytesB Try.prog 3 = some 8 := by kernel_rfl
theorem ze_3 : zeroB Try.prog 3 = some ((AV.int IntKind.i64 0) :: []) := by kernel_rfl
theorem in_3 : intB Try.prog 3 = some IntKind.i64 := by kernel_rfl
theorem sh_3 : shapes Try.prog 6 3 = some (Sh.int IntKind.i64 :: []) := by kernel_rfl
theorem sz_4 : szB Try.prog 4 = some 1 := by kernel_rfl
theorem ag_4 : isAggB Try.prog 4 = some false := by kernel_rfl
theorem by_4 : bytesB Try.prog 4 = some 1 := by kernel_rfl
theorem ze_4 : zeroB Try.prog 4 = some ((AV.bool false) :: []) := by kernel_rfl
theorem bo_4 : boolB Try.prog 4 = true := by kernel_rfl
theorem sz_5 : szB Try.prog 5 = some 1 := by kernel_rfl
theorem ag_5 : isAggB Try.prog 5 = some false := by kernel_rfl
theorem by_5 : bytesB Try.prog 5 = some 1 := by kernel_rfl
theorem ze_5 : zeroB Try.prog 5 = some ((AV.int IntKind.u8 0) :: []) := by kernel_rfl
theorem in_5 : intB Try.prog 5 = some IntKind.u8 := by kernel_rfl
theorem sh_5 : shapes Try.prog 6 5 = some (Sh.int IntKind.u8 :: []) := by kernel_rfl
theorem sz_22 : szB Try.prog 22 = some 1 := by kernel_rfl
theorem ag_22 : isAggB Try.prog 22 = some false := by kernel_rfl
theorem by_22 : bytesB Try.prog 22 = some 24 := by kernel_rfl
theorem ze_22 : zeroB Try.prog 22 = some (AV.nils :: []) := by kernel_rfl
theorem el_22 : elemB Try.prog 22 = some (5, 1) := by kernel_rfl
theorem sh_22 : shapes Try.prog 6 22 = some (Sh.rows 5 1 IntKind.u8 :: []) := by kernel_rfl
theorem sz_24 : szB Try.prog 24 = some 1 := by kernel_rfl
theorem ag_24 : isAggB Try.prog 24 = some false := by kernel_rfl
theorem by_24 : bytesB Try.prog 24 = some 24 := by kernel_rfl
theorem ze_24 : zeroB Try.prog 24 = some (AV.nils :: []) := by kernel_rfl
theorem el_24 : elemB Try.prog 24 = some (45, 3) := by kernel_rfl
theorem sh_24 : shapes Try.prog 6 24 = some (Sh.rows 45 3 IntKind.i64 :: []) := by kernel_rfl
theorem sz_26 : szB Try.prog 26 = some 2 := by kernel_rfl
theorem ag_26 : isAggB Try.prog 26 = some true := by kernel_rfl
theorem by_26 : bytesB Try.prog 26 = some 32 := by kernel_rfl
theorem ze_26 : zeroB Try.prog 26 = some ((AV.int IntKind.i64 0) :: (AV.nils :: [])) := by kernel_rfl
theorem pl_26 : placesB Try.prog 26 = some ((0, 1) :: ((1, 1) :: [])) := by kernel_rfl
theorem sh_26 : shapes Try.prog 6 26 = some (Sh.int IntKind.i64 :: (Sh.rows 45 3 IntKind.i64 :: [])) := by kernel_rfl
theorem nf_26 : nfieldsB Try.prog 26 = some 2 := by kernel_rfl
theorem ps_26 : plainStructB Try.prog 26 = false := by kernel_rfl
theorem fi_26_0 : fieldB Try.prog 26 0 = some (0, 1) := by kernel_rfl
theorem fi_26_1 : fieldB Try.prog 26 1 = some (1, 1) := by kernel_rfl
theorem sz_28 : szB Try.prog 28 = some 1 := by kernel_rfl
theorem ag_28 : isAggB Try.prog 28 = some false := by kernel_rfl
theorem by_28 : bytesB Try.prog 28 = some 24 := by kernel_rfl
theorem ze_28 : zeroB Try.prog 28 = some (AV.nils :: []) := by kernel_rfl
theorem el_28 : elemB Try.prog 28 = some (3, 1) := by kernel_rfl
theorem sh_28 : shapes Try.prog 6 28 = some (Sh.rows 3 1 IntKind.i64 :: []) := by kernel_rfl
theorem sz_33 : szB Try.prog 33 = some 1 := by kernel_rfl
theorem ag_33 : isAggB Try.prog 33 = some false := by kernel_rfl
theorem by_33 : bytesB Try.prog 33 = some 8 := by kernel_rfl
theorem ze_33 : zeroB Try.prog 33 = some ((AV.int IntKind.u64 0) :: []) := by kernel_rfl
theorem in_33 : intB Try.prog 33 = some IntKind.u64 := by kernel_rfl
theorem sh_33 : shapes Try.prog 6 33 = some (Sh.int IntKind.u64 :: []) := by kernel_rfl
theorem sz_39 : szB Try.prog 39 = some 5 := by kernel_rfl
theorem ag_39 : isAggB Try.prog 39 = some true := by kernel_rfl
theorem by_39 : bytesB Try.prog 39 = some 104 := by kernel_rfl
theorem ze_39 : zeroB Try.prog 39 = some ((AV.int IntKind.i64 0) :: (AV.nils :: (AV.nils :: (AV.nils :: (AV.nils :: []))))) := by kernel_rfl
theorem pl_39 : placesB Try.prog 39 = some ((0, 2) :: ((2, 1) :: ((3, 1) :: ((4, 1) :: [])))) := by kernel_rfl
theorem sh_39 : shapes Try.prog 6 39 = some (Sh.int IntKind.i64 :: (Sh.rows 45 3 IntKind.i64 :: (Sh.rows 3 1 IntKind.i64 :: (Sh.rows 3 1 IntKind.i64 :: (Sh.rows 3 1 IntKind.i64 :: []))))) := by kernel_rfl
theorem nf_39 : nfieldsB Try.prog 39 = some 4 := by kernel_rfl
theorem ps_39 : plainStructB Try.prog 39 = false := by kernel_rfl
theorem fi_39_0 : fieldB Try.prog 39 0 = some (0, 2) := by kernel_rfl
theorem fi_39_1 : fieldB Try.prog 39 1 = some (2, 1) := by kernel_rfl
theorem fi_39_2 : fieldB Try.prog 39 2 = some (3, 1) := by kernel_rfl
theorem fi_39_3 : fieldB Try.prog 39 3 = some (4, 1) := by kernel_rfl
theorem sz_45 : szB Try.prog 45 = some 3 := by kernel_rfl
theorem ag_45 : isAggB Try.prog 45 = some true := by kernel_rfl
theorem by_45 : bytesB Try.prog 45 = some 24 := by kernel_rfl
theorem ze_45 : zeroB Try.prog 45 = some ((AV.int IntKind.i64 0) :: ((AV.int IntKind.i64 0) :: ((AV.int IntKind.i64 0) :: []))) := by kernel_rfl
theorem pl_45 : placesB Try.prog 45 = some ((0, 1) :: ((1, 1) :: ((2, 1) :: []))) := by kernel_rfl
theorem sh_45 : shapes Try.prog 6 45 = some (Sh.int IntKind.i64 :: (Sh.int IntKind.i64 :: (Sh.int IntKind.i64 :: []))) := by kernel_rfl
theorem nf_45 : nfieldsB Try.prog 45 = some 3 := by kernel_rfl
theorem ps_45 : plainStructB Try.prog 45 = true := by kernel_rfl
theorem fi_45_0 : fieldB Try.prog 45 0 = some (0, 1) := by kernel_rfl
theorem fi_45_1 : fieldB Try.prog 45 1 = some (1, 1) := by kernel_rfl
theorem fi_45_2 : fieldB Try.prog 45 2 = some (2, 1) := by kernel_rfl
theorem sz_48 : szB Try.prog 48 = some 4 := by kernel_rfl
theorem ag_48 : isAggB Try.prog 48 = some true := by kernel_rfl
theorem by_48 : bytesB Try.prog 48 = some 32 := by kernel_rfl
theorem ze_48 : zeroB Try.prog 48 = some ((AV.int IntKind.i64 0) :: ((AV.int IntKind.i64 0) :: ((AV.int IntKind.i64 0) :: ((AV.int IntKind.i64 0) :: [])))) := by kernel_rfl
theorem pl_48 : placesB Try.prog 48 = some ((0, 1) :: ((1, 1) :: ((2, 1) :: ((3, 1) :: [])))) := by kernel_rfl
theorem sh_48 : shapes Try.prog 6 48 = some (Sh.int IntKind.i64 :: (Sh.int IntKind.i64 :: (Sh.int IntKind.i64 :: (Sh.int IntKind.i64 :: [])))) := by kernel_rfl
theorem nf_48 : nfieldsB Try.prog 48 = some 4 := by kernel_rfl
theorem ps_48 : plainStructB Try.prog 48 = true := by kernel_rfl
theorem fi_48_0 : fieldB Try.prog 48 0 = some (0, 1) := by kernel_rfl
theorem fi_48_1 : fieldB Try.prog 48 1 = some (1, 1) := by kernel_rfl
theorem fi_48_2 : fieldB Try.prog 48 2 = some (2, 1) := by kernel_rfl
theorem fi_48_3 : fieldB Try.prog 48 3 = some (3, 1) := by kernel_rfl
theorem sz_52 : szB Try.prog 52 = some 3 := by kernel_rfl
theorem ag_52 : isAggB Try.prog 52 = some true := by kernel_rfl
theorem by_52 : bytesB Try.prog 52 = some 24 := by kernel_rfl
theorem ze_52 : zeroB Try.prog 52 = some ((AV.int IntKind.i64 0) :: ((AV.int IntKind.i64 0) :: ((AV.int IntKind.i64 0) :: []))) := by kernel_rfl
theorem pl_52 : placesB Try.prog 52 = some ((0, 1) :: ((1, 1) :: ((2, 1) :: []))) := by kernel_rfl
theorem sh_52 : shapes Try.prog 6 52 = some (Sh.int IntKind.i64 :: (Sh.int IntKind.i64 :: (Sh.int IntKind.i64 :: []))) := by kernel_rfl
theorem nf_52 : nfieldsB Try.prog 52 = some 3 := by kernel_rfl
theorem ps_52 : plainStructB Try.prog 52 = true := by kernel_rfl
theorem fi_52_0 : fieldB Try.prog 52 0 = some (0, 1) := by kernel_rfl
theorem fi_52_1 : fieldB Try.prog 52 1 = some (1, 1) := by kernel_rfl
theorem fi_52_2 : fieldB Try.prog 52 2 = some (2, 1) := by kernel_rfl
theorem sz_59 : szB Try.prog 59 = some 1 := by kernel_rfl
theorem ag_59 : isAggB Try.prog 59 = some false := by kernel_rfl
theorem by_59 : bytesB Try.prog 59 = some 24 := by kernel_rfl
theorem ze_59 : zeroB Try.prog 59 = some (AV.nils :: []) := by kernel_rfl
theorem el_59 : elemB Try.prog 59 = some (134, 3) := by kernel_rfl
theorem sh_59 : shapes Try.prog 6 59 = some (Sh.rows 134 3 IntKind.i64 :: []) := by kernel_rfl
theorem sz_61 : szB Try.prog 61 = some 2 := by kernel_rfl
theorem ag_61 : isAggB Try.prog 61 = some true := by kernel_rfl
theorem by_61 : bytesB Try.prog 61 = some 32 := by kernel_rfl
theorem ze_61 : zeroB Try.prog 61 = some ((AV.int IntKind.i64 0) :: (AV.nils :: [])) := by kernel_rfl
theorem pl_61 : placesB Try.prog 61 = some ((0, 1) :: ((1, 1) :: [])) := by kernel_rfl
theorem sh_61 : shapes Try.prog 6 61 = some (Sh.int IntKind.i64 :: (Sh.rows 134 3 IntKind.i64 :: [])) := by kernel_rfl
theorem nf_61 : nfieldsB Try.prog 61 = some 2 := by kernel_rfl
theorem ps_61 : plainStructB Try.prog 61 = false := by kernel_rfl
theorem fi_61_0 : fieldB Try.prog 61 0 = some (0, 1) := by kernel_rfl
theorem fi_61_1 : fieldB Try.prog 61 1 = some (1, 1) := by kernel_rfl
theorem sz_63 : szB Try.prog 63 = some 5 := by kernel_rfl
theorem ag_63 : isAggB Try.prog 63 = some true := by kernel_rfl
theorem by_63 : bytesB Try.prog 63 = some 104 := by kernel_rfl
theorem ze_63 : zeroB Try.prog 63 = some ((AV.int IntKind.i64 0) :: (AV.nils :: (AV.nils :: (AV.nils :: (AV.nils :: []))))) := by kernel_rfl
theorem pl_63 : placesB Try.prog 63 = some ((0, 2) :: ((2, 1) :: ((3, 1) :: ((4, 1) :: [])))) := by kernel_rfl
theorem sh_63 : shapes Try.prog 6 63 = some (Sh.int IntKind.i64 :: (Sh.rows 134 3 IntKind.i64 :: (Sh.rows 3 1 IntKind.i64 :: (Sh.rows 3 1 IntKind.i64 :: (Sh.rows 3 1 IntKind.i64 :: []))))) := by kernel_rfl
theorem nf_63 : nfieldsB Try.prog 63 = some 4 := by kernel_rfl
theorem ps_63 : plainStructB Try.prog 63 = false := by kernel_rfl
theorem fi_63_0 : fieldB Try.prog 63 0 = some (0, 2) := by kernel_rfl
theorem fi_63_1 : fieldB Try.prog 63 1 = some (2, 1) := by kernel_rfl
theorem fi_63_2 : fieldB Try.prog 63 2 = some (3, 1) := by kernel_rfl
theorem fi_63_3 : fieldB Try.prog 63 3 = some (4, 1) := by kernel_rfl
theorem sz_64 : szB Try.prog 64 = some 4 := by kernel_rfl
theorem ag_64 : isAggB Try.prog 64 = some true := by kernel_rfl
theorem by_64 : bytesB Try.prog 64 = some 32 := by kernel_rfl
theorem ze_64 : zeroB Try.prog 64 = some ((AV.int IntKind.i64 0) :: ((AV.int IntKind.i64 0) :: ((AV.int IntKind.i64 0) :: ((AV.int IntKind.i64 0) :: [])))) := by kernel_rfl
theorem pl_64 : placesB Try.prog 64 = some ((0, 1) :: ((1, 1) :: ((2, 1) :: ((3, 1) :: [])))) := by kernel_rfl
theorem sh_64 : shapes Try.prog 6 64 = some (Sh.int IntKind.i64 :: (Sh.int IntKind.i64 :: (Sh.int IntKind.i64 :: (Sh.int IntKind.i64 :: [])))) := by kernel_rfl
theorem nf_64 : nfieldsB Try.prog 64 = some 4 := by kernel_rfl
theorem ps_64 : plainStructB Try.prog 64 = true := by kernel_rfl
theorem fi_64_0 : fieldB Try.prog 64 0 = some (0, 1) := by kernel_rfl
theorem fi_64_1 : fieldB Try.prog 64 1 = some (1, 1) := by kernel_rfl
theorem fi_64_2 : fieldB Try.prog 64 2 = some (2, 1) := by kernel_rfl
theorem fi_64_3 : fieldB Try.prog 64 3 = some (3, 1) := by kernel_rfl
theorem sz_81 : szB Try.prog 81 = some 3 := by kernel_rfl
theorem ag_81 : isAggB Try.prog 81 = some true := by kernel_rfl
theorem by_81 : bytesB Try.prog 81 = some 24 := by kernel_rfl
theorem ze_81 : zeroB Try.prog 81 = some ((AV.int IntKind.i64 0) :: ((AV.int IntKind.i64 0) :: ((AV.int IntKind.i64 0) :: []))) := by kernel_rfl
theorem pl_81 : placesB Try.prog 81 = some ((0, 1) :: ((1, 1) :: ((2, 1) :: []))) := by kernel_rfl
theorem sh_81 : shapes Try.prog 6 81 = some (Sh.int IntKind.i64 :: (Sh.int IntKind.i64 :: (Sh.int IntKind.i64 :: []))) := by kernel_rfl
theorem nf_81 : nfieldsB Try.prog 81 = some 3 := by kernel_rfl
theorem ps_81 : plainStructB Try.prog 81 = true := by kernel_rfl
theorem fi_81_0 : fieldB Try.prog 81 0 = some (0, 1) := by kernel_rfl
theorem fi_81_1 : fieldB Try.prog 81 1 = some (1, 1) := by kernel_rfl
theorem fi_81_2 : fieldB Try.prog 81 2 = some (2, 1) := by kernel_rfl
theorem sz_85 : szB Try.prog 85 = some 1 := by kernel_rfl
theorem ag_85 : isAggB Try.prog 85 = some false := by kernel_rfl
theorem by_85 : bytesB Try.prog 85 = some 8 := by kernel_rfl
theorem sz_90 : szB Try.prog 90 = some 1 := by kernel_rfl
theorem ag_90 : isAggB Try.prog 90 = some false := by kernel_rfl
theorem by_90 : bytesB Try.prog 90 = some 8 := by kernel_rfl
theorem sz_108 : szB Try.prog 108 = some 1 := by kernel_rfl
theorem ag_108 : isAggB Try.prog 108 = some false := by kernel_rfl
theorem by_108 : bytesB Try.prog 108 = some 8 := by kernel_rfl
theorem sz_110 : szB Try.prog 110 = some 3 := by kernel_rfl
theorem ag_110 : isAggB Try.prog 110 = some true := by kernel_rfl
theorem by_110 : bytesB Try.prog 110 = some 40 := by kernel_rfl
theorem ze_110 : zeroB Try.prog 110 = some (AV.nils :: ((AV.int IntKind.i64 0) :: ((AV.int IntKind.i64 0) :: []))) := by kernel_rfl
theorem pl_110 : placesB Try.prog 110 = some ((0, 1) :: ((1, 1) :: ((2, 1) :: []))) := by kernel_rfl
theorem sh_110 : shapes Try.prog 6 110 = some (Sh.rows 5 1 IntKind.u8 :: (Sh.int IntKind.i64 :: (Sh.int IntKind.i64 :: []))) := by kernel_rfl
theorem nf_110 : nfieldsB Try.prog 110 = some 3 := by kernel_rfl
theorem ps_110 : plainStructB Try.prog 110 = false := by kernel_rfl
theorem fi_110_0 : fieldB Try.prog 110 0 = some (0, 1) := by kernel_rfl
theorem fi_110_1 : fieldB Try.prog 110 1 = some (1, 1) := by kernel_rfl
theorem fi_110_2 : fieldB Try.prog 110 2 = some (2, 1) := by kernel_rfl
theorem sz_119 : szB Try.prog 119 = some 3 := by kernel_rfl
theorem ag_119 : isAggB Try.prog 119 = some true := by kernel_rfl
theorem by_119 : bytesB Try.prog 119 = some 24 := by kernel_rfl
theorem ze_119 : zeroB Try.prog 119 = some ((AV.int IntKind.i64 0) :: ((AV.int IntKind.i64 0) :: ((AV.int IntKind.i64 0) :: []))) := by kernel_rfl
theorem pl_119 : placesB Try.prog 119 = some ((0, 1) :: ((1, 1) :: ((2, 1) :: []))) := by kernel_rfl
theorem sh_119 : shapes Try.prog 6 119 = some (Sh.int IntKind.i64 :: (Sh.int IntKind.i64 :: (Sh.int IntKind.i64 :: []))) := by kernel_rfl
theorem nf_119 : nfieldsB Try.prog 119 = some 3 := by kernel_rfl
theorem ps_119 : plainStructB Try.prog 119 = true := by kernel_rfl
theorem fi_119_0 : fieldB Try.prog 119 0 = some (0, 1) := by kernel_rfl
theorem fi_119_1 : fieldB Try.prog 119 1 = some (1, 1) := by kernel_rfl
theorem fi_119_2 : fieldB Try.prog 119 2 = some (2, 1) := by kernel_rfl
theorem sz_121 : szB Try.prog 121 = some 1 := by kernel_rfl
theorem ag_121 : isAggB Try.prog 121 = some false := by kernel_rfl
theorem by_121 : bytesB Try.prog 121 = some 8 := by kernel_rfl
theorem sz_123 : szB Try.prog 123 = some 1 := by kernel_rfl
theorem ag_123 : isAggB Try.prog 123 = some false := by kernel_rfl
theorem by_123 : bytesB Try.prog 123 = some 8 := by kernel_rfl
theorem sz_134 : szB Try.prog 134 = some 3 := by kernel_rfl
theorem ag_134 : isAggB Try.prog 134 = some true := by kernel_rfl
theorem by_134 : bytesB Try.prog 134 = some 24 := by kernel_rfl
theorem ze_134 : zeroB Try.prog 134 = some ((AV.int IntKind.i64 0) :: ((AV.int IntKind.i64 0) :: ((AV.int IntKind.i64 0) :: []))) := by kernel_rfl
theorem pl_134 : placesB Try.prog 134 = some ((0, 1) :: ((1, 1) :: ((2, 1) :: []))) := by kernel_rfl
theorem sh_134 : shapes Try.prog 6 134 = some (Sh.int IntKind.i64 :: (Sh.int IntKind.i64 :: (Sh.int IntKind.i64 :: []))) := by kernel_rfl
theorem nf_134 : nfieldsB Try.prog 134 = some 3 := by kernel_rfl
theorem ps_134 : plainStructB Try.prog 134 = true := by kernel_rfl
theorem fi_134_0 : fieldB Try.prog 134 0 = some (0, 1) := by kernel_rfl
theorem fi_134_1 : fieldB Try.prog 134 1 = some (1, 1) := by kernel_rfl
theorem fi_134_2 : fieldB Try.prog 134 2 = some (2, 1) := by kernel_rfl
end Go.Proofs.Ytkkpbjijakamhaa
