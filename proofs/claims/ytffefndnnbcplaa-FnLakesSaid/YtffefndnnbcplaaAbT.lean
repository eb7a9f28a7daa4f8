/- Facts of the types that the functions name, each read off the table; no conditions. -/
import Derived.Test.YtffefndnnbcplaaAbS
import Derived.Test.YtffefndnnbcplaaProg
namespace Go.Proofs.Ytffefndnnbcplaa
open Go
theorem hm : Try.prog.follows .mixedOrders = true := by kernel_rfl
theorem sz_3 : szB Try.prog 3 = some 1 := by kernel_rfl
theorem ag_3 : isAggB Try.prog 3 = some false := by kernel_rfl
theorem by_3 : bytesB Try.prog 3 = some 8 := by kernel_rfl
theorem ze_3 : zeroB Try.prog 3 = some ((AV.int IntKind.i64 0) :: []) := by kernel_rfl
theorem in_3 : intB Try.prog 3 = some IntKind.i64 := by kernel_rfl
theorem sh_3 : shapes Try.prog 6 3 = some (Sh.int IntKind.i64 :: []) := by kernel_rfl
theorem sz_4 : szB Try.prog 4 = some 1 := by kernel_rfl
theorem ag_4 : isAggB Try.prog 4 = some false := by kernel_rfl
theorem by_4 : bytesB Try.prog 4 = some 1 := by kernel_rfl
theorem ze_4 : zeroB Try.prog 4 = some ((AV.bool false) :: []) := by kernel_rfl
theorem bo_4 : boolB Try.prog 4 = true := by kernel_rfl
theorem sz_5 : szB Try.prog 5 = some 1 := by kernel_rfl
theorem ag_5 : isAggB Try.prog 5 = some false := by kernel_rfl
theorem by_5 : bytesB Try.prog 5 = some 1 := by kernel_rfl
theorem ze_5 : zeroB Try.prog 5 = some ((AV.int IntKind.u8 0) :: []) := by kernel_rfl
theorem in_5 : intB Try.prog 5 = some IntKind.u8 := by kernel_rfl
theorem sh_5 : shapes Try.prog 6 5 = some (Sh.int IntKind.u8 :: []) := by kernel_rfl
theorem sz_22 : szB Try.prog 22 = some 1 := by kernel_rfl
theorem ag_22 : isAggB Try.prog 22 = some false := by kernel_rfl
theorem by_22 : bytesB Try.prog 22 = some 24 := by kernel_rfl
theorem ze_22 : zeroB Try.prog 22 = some (AV.nils :: []) := by kernel_rfl
theorem el_22 : elemB Try.prog 22 = some (5, 1) := by kernel_rfl
theorem sh_22 : shapes Try.prog 6 22 = some (Sh.rows 5 1 IntKind.u8 :: []) := by kernel_rfl
theorem sz_24 : szB Try.prog 24 = some 1 := by kernel_rfl
theorem ag_24 : isAggB Try.prog 24 = some false := by kernel_rfl
theorem by_24 : bytesB Try.prog 24 = some 24 := by kernel_rfl
theorem ze_24 : zeroB Try.prog 24 = some (AV.nils :: []) := by kernel_rfl
theorem el_24 : elemB Try.prog 24 = some (45, 3) := by kernel_rfl
theorem sh_24 : shapes Try.prog 6 24 = some (Sh.rows 45 3 IntKind.i64 :: []) := by kernel_rfl
theorem sz_26 : szB Try.prog 26 = some 2 := by kernel_rfl
theorem ag_26 : isAggB Try.prog 26 = some true := by kernel_rfl
theorem by_26 : bytesB Try.prog 26 = some 32 := by kernel_rfl
theorem ze_26 : zeroB Try.prog 26 = some ((AV.int IntKind.i64 0) :: (AV.nils :: [])) := by kernel_rfl
theorem pl_26 : placesB Try.prog 26 = some ((0, 1) :: ((1, 1) :: [])) := by kernel_rfl
theorem sh_26 : shapes Try.prog 6 26 = some (Sh.int IntKind.i64 :: (Sh.rows 45 3 IntKind.i64 :: [])) := by kernel_rfl
theorem nf_26 : nfieldsB Try.prog 26 = some 2 := by kernel_rfl
theorem ps_26 : plainStructB Try.prog 26 = false := by kernel_rfl
theorem fi_26_0 : fieldB Try.prog 26 0 = some (0, 1) := by kernel_rfl
theorem fi_26_1 : fieldB Try.prog 26 1 = some (1, 1) := by kernel_rfl
theorem sz_28 : szB Try.prog 28 = some 1 := by kernel_rfl
theorem ag_28 : isAggB Try.prog 28 = some false := by kernel_rfl
theorem by_28 : bytesB Try.prog 28 = some 24 := by kernel_rfl
theorem ze_28 : zeroB Try.prog 28 = some (AV.nils :: []) := by kernel_rfl
theorem el_28 : elemB Try.prog 28 = some (3, 1) := by kernel_rfl
theorem sh_28 : shapes Try.prog 6 28 = some (Sh.rows 3 1 IntKind.i64 :: []) := by kernel_rfl
theorem sz_33 : szB Try.prog 33 = some 1 := by kernel_rfl
theorem ag_33 : isAggB Try.prog 33 = some false := by kernel_rfl
theorem by_33 : bytesB Try.prog 33 = some 8 := by kernel_rfl
theorem ze_33 : zeroB Try.prog 33 = some ((AV.int IntKind.u64 0) :: []) := by kernel_rfl
theorem in_33 : intB Try.prog 33 = some IntKind.u64 := by kernel_rfl
theorem sh_33 : shapes Try.prog 6 33 = some (Sh.int IntKind.u64 :: []) := by kernel_rfl
theorem sz_39 : szB Try.prog 39 = some 5 := by kernel_rfl
theorem ag_39 : isAggB Try.prog 39 = some true := by kernel_rfl
theorem by_39 : bytesB Try.prog 39 = some 104 := by kernel_rfl
theorem ze_39 : zeroB Try.prog 39 = some ((AV.int IntKind.i64 0) :: (AV.nils :: (AV.nils :: (AV.nils :: (AV.nils :: []))))) := by kernel_rfl
theorem pl_39 : placesB Try.prog 39 = some ((0, 2) :: ((2, 1) :: ((3, 1) :: ((4, 1) :: [])))) := by kernel_rfl
theorem sh_39 : shapes Try.prog 6 39 = some (Sh.int IntKind.i64 :: (Sh.rows 45 3 IntKind.i64 :: (Sh.rows 3 1 IntKind.i64 :: (Sh.rows 3 1 IntKind.i64 :: (Sh.rows 3 1 IntKind.i64 :: []))))) := by kernel_rfl
theorem nf_39 : nfieldsB Try.prog 39 = some 4 := by kernel_rfl
theorem ps_39 : plainStructB Try.prog 39 = false := by kernel_rfl
theorem fi_39_0 : fieldB Try.prog 39 0 = some (0, 2) := by kernel_rfl
theorem fi_39_1 : fieldB Try.prog 39 1 = some (2, 1) := by kernel_rfl
theorem fi_39_2 : fieldB Try.prog 39 2 = some (3, 1) := by kernel_rfl
theorem fi_39_3 : fieldB Try.prog 39 3 = some (4, 1) := by kernel_rfl
theorem sz_45 : szB Try.prog 45 = some 3 := by kernel_rfl
theorem ag_45 : isAggB Try.prog 45 = some true := by kernel_rfl
theorem by_45 : bytesB Try.prog 45 = some 24 := by kernel_rfl
theorem ze_45 : zeroB Try.prog 45 = some ((AV.int IntKind.i64 0) :: ((AV.int IntKind.i64 0) :: ((AV.int IntKind.i64 0) :: []))) := by kernel_rfl
theorem pl_45 : placesB Try.prog 45 = some ((0, 1) :: ((1, 1) :: ((2, 1) :: []))) := by kernel_rfl
theorem sh_45 : shapes Try.prog 6 45 = some (Sh.int IntKind.i64 :: (Sh.int IntKind.i64 :: (Sh.int IntKind.i64 :: []))) := by kernel_rfl
theorem nf_45 : nfieldsB Try.prog 45 = some 3 := by kernel_rfl
theorem ps_45 : plainStructB Try.prog 45 = true := by kernel_rfl
theorem fi_45_0 : fieldB Try.prog 45 0 = some (0, 1) := by kernel_rfl
theorem fi_45_1 : fieldB Try.prog 45 1 = some (1, 1) := by kernel_rfl
theorem fi_45_2 : fieldB Try.prog 45 2 = some (2, 1) := by kernel_rfl
theorem sz_48 : szB Try.prog 48 = some 4 := by kernel_rfl
theorem ag_48 : isAggB Try.prog 48 = some true := by kernel_rfl
theorem by_48 : bytesB Try.prog 48 = some 32 := by kernel_rfl
theorem ze_48 : zeroB Try.prog 48 = some ((AV.int IntKind.i64 0) :: ((AV.int IntKind.i64 0) :: ((AV.int IntKind.i64 0) :: ((AV.int IntKind.i64 0) :: [])))) := by kernel_rfl
theorem pl_48 : placesB Try.prog 48 = some ((0, 1) :: ((1, 1) :: ((2, 1) :: ((3, 1) :: [])))) := by kernel_rfl
theorem sh_48 : shapes Try.prog 6 48 = some (Sh.int IntKind.i64 :: (Sh.int IntKind.i64 :: (Sh.int IntKind.i64 :: (Sh.int IntKind.i64 :: [])))) := by kernel_rfl
theorem nf_48 : nfieldsB Try.prog 48 = some 4 := by kernel_rfl
theorem ps_48 : plainStructB Try.prog 48 = true := by kernel_rfl
theorem fi_48_0 : fieldB Try.prog 48 0 = some (0, 1) := by kernel_rfl
theorem fi_48_1 : fieldB Try.prog 48 1 = some (1, 1) := by kernel_rfl
theorem fi_48_2 : fieldB Try.prog 48 2 = some (2, 1) := by kernel_rfl
theorem fi_48_3 : fieldB Try.prog 48 3 = some (3, 1) := by kernel_rfl
theorem sz_52 : szB Try.prog 52 = some 3 := by kernel_rfl
theorem ag_52 : isAggB Try.prog 52 = some true := by kernel_rfl
theorem by_52 : bytesB Try.prog 52 = some 24 := by kernel_rfl
theorem ze_52 : zeroB Try.prog 52 = some ((AV.int IntKind.i64 0) :: ((AV.int IntKind.i64 0) :: ((AV.int IntKind.i64 0) :: []))) := by kernel_rfl
theorem pl_52 : placesB Try.prog 52 = some ((0, 1) :: ((1, 1) :: ((2, 1) :: []))) := by kernel_rfl
theorem sh_52 : shapes Try.prog 6 52 = some (Sh.int IntKind.i64 :: (Sh.int IntKind.i64 :: (Sh.int IntKind.i64 :: []))) := by kernel_rfl
theorem nf_52 : nfieldsB Try.prog 52 = some 3 := by kernel_rfl
theorem ps_52 : plainStructB Try.prog 52 = true := by kernel_rfl
theorem fi_52_0 : fieldB Try.prog 52 0 = some (0, 1) := by kernel_rfl
theorem fi_52_1 : fieldB Try.prog 52 1 = some (1, 1) := by kernel_rfl
theorem fi_52_2 : fieldB Try.prog 52 2 = some (2, 1) := by kernel_rfl
theorem sz_72 : szB Try.prog 72 = some 1 := by kernel_rfl
theorem ag_72 : isAggB Try.prog 72 = some false := by kernel_rfl
theorem by_72 : bytesB Try.prog 72 = some 24 := by kernel_rfl
theorem ze_72 : zeroB Try.prog 72 = some (AV.nils :: []) := by kernel_rfl
theorem el_72 : elemB Try.prog 72 = some (154, 3) := by kernel_rfl
theorem sh_72 : shapes Try.prog 6 72 = some (Sh.rows 154 3 IntKind.i64 :: []) := by kernel_rfl
theorem sz_74 : szB Try.prog 74 = some 2 := by kernel_rfl
theorem ag_74 : isAggB Try.prog 74 = some true := by kernel_rfl
theorem by_74 : bytesB Try.prog 74 = some 32 := by kernel_rfl
theorem ze_74 : zeroB Try.prog 74 = some ((AV.int IntKind.i64 0) :: (AV.nils :: [])) := by kernel_rfl
theorem pl_74 : placesB Try.prog 74 = some ((0, 1) :: ((1, 1) :: [])) := by kernel_rfl
theorem sh_74 : shapes Try.prog 6 74 = some (Sh.int IntKind.i64 :: (Sh.rows 154 3 IntKind.i64 :: [])) := by kernel_rfl
theorem nf_74 : nfieldsB Try.prog 74 = some 2 := by kernel_rfl
theorem ps_74 : plainStructB Try.prog 74 = false := by kernel_rfl
theorem fi_74_0 : fieldB Try.prog 74 0 = some (0, 1) := by kernel_rfl
theorem fi_74_1 : fieldB Try.prog 74 1 = some (1, 1) := by kernel_rfl
theorem sz_76 : szB Try.prog 76 = some 5 := by kernel_rfl
theorem ag_76 : isAggB Try.prog 76 = some true := by kernel_rfl
theorem by_76 : bytesB Try.prog 76 = some 104 := by kernel_rfl
theorem ze_76 : zeroB Try.prog 76 = some ((AV.int IntKind.i64 0) :: (AV.nils :: (AV.nils :: (AV.nils :: (AV.nils :: []))))) := by kernel_rfl
theorem pl_76 : placesB Try.prog 76 = some ((0, 2) :: ((2, 1) :: ((3, 1) :: ((4, 1) :: [])))) := by kernel_rfl
theorem sh_76 : shapes Try.prog 6 76 = some (Sh.int IntKind.i64 :: (Sh.rows 154 3 IntKind.i64 :: (Sh.rows 3 1 IntKind.i64 :: (Sh.rows 3 1 IntKind.i64 :: (Sh.rows 3 1 IntKind.i64 :: []))))) := by kernel_rfl
theorem nf_76 : nfieldsB Try.prog 76 = some 4 := by kernel_rfl
theorem ps_76 : plainStructB Try.prog 76 = false := by kernel_rfl
theorem fi_76_0 : fieldB Try.prog 76 0 = some (0, 2) := by kernel_rfl
theorem fi_76_1 : fieldB Try.prog 76 1 = some (2, 1) := by kernel_rfl
theorem fi_76_2 : fieldB Try.prog 76 2 = some (3, 1) := by kernel_rfl
theorem fi_76_3 : fieldB Try.prog 76 3 = some (4, 1) := by kernel_rfl
theorem sz_82 : szB Try.prog 82 = some 1 := by kernel_rfl
theorem ag_82 : isAggB Try.prog 82 = some false := by kernel_rfl
theorem by_82 : bytesB Try.prog 82 = some 24 := by kernel_rfl
theorem ze_82 : zeroB Try.prog 82 = some (AV.nils :: []) := by kernel_rfl
theorem el_82 : elemB Try.prog 82 = some (117, 2) := by kernel_rfl
theorem sh_82 : shapes Try.prog 6 82 = some (Sh.rows 117 2 IntKind.i64 :: []) := by kernel_rfl
theorem sz_85 : szB Try.prog 85 = some 1 := by kernel_rfl
theorem ag_85 : isAggB Try.prog 85 = some false := by kernel_rfl
theorem by_85 : bytesB Try.prog 85 = some 24 := by kernel_rfl
theorem ze_85 : zeroB Try.prog 85 = some (AV.nils :: []) := by kernel_rfl
theorem el_85 : elemB Try.prog 85 = some (114, 2) := by kernel_rfl
theorem sh_85 : shapes Try.prog 6 85 = some (Sh.rows 114 2 IntKind.i64 :: []) := by kernel_rfl
theorem sz_91 : szB Try.prog 91 = some 1 := by kernel_rfl
theorem ag_91 : isAggB Try.prog 91 = some false := by kernel_rfl
theorem by_91 : bytesB Try.prog 91 = some 8 := by kernel_rfl
theorem sz_96 : szB Try.prog 96 = some 1 := by kernel_rfl
theorem ag_96 : isAggB Try.prog 96 = some false := by kernel_rfl
theorem by_96 : bytesB Try.prog 96 = some 8 := by kernel_rfl
theorem sz_112 : szB Try.prog 112 = some 1 := by kernel_rfl
theorem ag_112 : isAggB Try.prog 112 = some false := by kernel_rfl
theorem by_112 : bytesB Try.prog 112 = some 24 := by kernel_rfl
theorem ze_112 : zeroB Try.prog 112 = some (AV.nils :: []) := by kernel_rfl
theorem el_112 : elemB Try.prog 112 = some (4, 1) := by kernel_rfl
theorem sz_114 : szB Try.prog 114 = some 2 := by kernel_rfl
theorem ag_114 : isAggB Try.prog 114 = some true := by kernel_rfl
theorem by_114 : bytesB Try.prog 114 = some 16 := by kernel_rfl
theorem ze_114 : zeroB Try.prog 114 = some ((AV.int IntKind.i64 0) :: ((AV.int IntKind.i64 0) :: [])) := by kernel_rfl
theorem pl_114 : placesB Try.prog 114 = some ((0, 1) :: ((1, 1) :: [])) := by kernel_rfl
theorem sh_114 : shapes Try.prog 6 114 = some (Sh.int IntKind.i64 :: (Sh.int IntKind.i64 :: [])) := by kernel_rfl
theorem nf_114 : nfieldsB Try.prog 114 = some 2 := by kernel_rfl
theorem ps_114 : plainStructB Try.prog 114 = true := by kernel_rfl
theorem fi_114_0 : fieldB Try.prog 114 0 = some (0, 1) := by kernel_rfl
theorem fi_114_1 : fieldB Try.prog 114 1 = some (1, 1) := by kernel_rfl
theorem sz_117 : szB Try.prog 117 = some 2 := by kernel_rfl
theorem ag_117 : isAggB Try.prog 117 = some true := by kernel_rfl
theorem by_117 : bytesB Try.prog 117 = some 16 := by kernel_rfl
theorem ze_117 : zeroB Try.prog 117 = some ((AV.int IntKind.i64 0) :: ((AV.int IntKind.i64 0) :: [])) := by kernel_rfl
theorem pl_117 : placesB Try.prog 117 = some ((0, 1) :: ((1, 1) :: [])) := by kernel_rfl
theorem sh_117 : shapes Try.prog 6 117 = some (Sh.int IntKind.i64 :: (Sh.int IntKind.i64 :: [])) := by kernel_rfl
theorem nf_117 : nfieldsB Try.prog 117 = some 2 := by kernel_rfl
theorem ps_117 : plainStructB Try.prog 117 = true := by kernel_rfl
theorem fi_117_0 : fieldB Try.prog 117 0 = some (0, 1) := by kernel_rfl
theorem fi_117_1 : fieldB Try.prog 117 1 = some (1, 1) := by kernel_rfl
theorem sz_118 : szB Try.prog 118 = some 1 := by kernel_rfl
theorem ag_118 : isAggB Try.prog 118 = some false := by kernel_rfl
theorem by_118 : bytesB Try.prog 118 = some 24 := by kernel_rfl
theorem ze_118 : zeroB Try.prog 118 = some (AV.nils :: []) := by kernel_rfl
theorem el_118 : elemB Try.prog 118 = some (28, 1) := by kernel_rfl
theorem sz_123 : szB Try.prog 123 = some 1 := by kernel_rfl
theorem ag_123 : isAggB Try.prog 123 = some false := by kernel_rfl
theorem by_123 : bytesB Try.prog 123 = some 8 := by kernel_rfl
theorem sz_125 : szB Try.prog 125 = some 3 := by kernel_rfl
theorem ag_125 : isAggB Try.prog 125 = some true := by kernel_rfl
theorem by_125 : bytesB Try.prog 125 = some 40 := by kernel_rfl
theorem ze_125 : zeroB Try.prog 125 = some (AV.nils :: ((AV.int IntKind.i64 0) :: ((AV.int IntKind.i64 0) :: []))) := by kernel_rfl
theorem pl_125 : placesB Try.prog 125 = some ((0, 1) :: ((1, 1) :: ((2, 1) :: []))) := by kernel_rfl
theorem sh_125 : shapes Try.prog 6 125 = some (Sh.rows 5 1 IntKind.u8 :: (Sh.int IntKind.i64 :: (Sh.int IntKind.i64 :: []))) := by kernel_rfl
theorem nf_125 : nfieldsB Try.prog 125 = some 3 := by kernel_rfl
theorem ps_125 : plainStructB Try.prog 125 = false := by kernel_rfl
theorem fi_125_0 : fieldB Try.prog 125 0 = some (0, 1) := by kernel_rfl
theorem fi_125_1 : fieldB Try.prog 125 1 = some (1, 1) := by kernel_rfl
theorem fi_125_2 : fieldB Try.prog 125 2 = some (2, 1) := by kernel_rfl
theorem sz_135 : szB Try.prog 135 = some 3 := by kernel_rfl
theorem ag_135 : isAggB Try.prog 135 = some true := by kernel_rfl
theorem by_135 : bytesB Try.prog 135 = some 24 := by kernel_rfl
theorem ze_135 : zeroB Try.prog 135 = some ((AV.int IntKind.i64 0) :: ((AV.int IntKind.i64 0) :: ((AV.int IntKind.i64 0) :: []))) := by kernel_rfl
theorem pl_135 : placesB Try.prog 135 = some ((0, 1) :: ((1, 1) :: ((2, 1) :: []))) := by kernel_rfl
theorem sh_135 : shapes Try.prog 6 135 = some (Sh.int IntKind.i64 :: (Sh.int IntKind.i64 :: (Sh.int IntKind.i64 :: []))) := by kernel_rfl
theorem nf_135 : nfieldsB Try.prog 135 = some 3 := by kernel_rfl
theorem ps_135 : plainStructB Try.prog 135 = true := by kernel_rfl
theorem fi_135_0 : fieldB Try.prog 135 0 = some (0, 1) := by kernel_rfl
theorem fi_135_1 : fieldB Try.prog 135 1 = some (1, 1) := by kernel_rfl
theorem fi_135_2 : fieldB Try.prog 135 2 = some (2, 1) := by kernel_rfl
theorem sz_137 : szB Try.prog 137 = some 1 := by kernel_rfl
theorem ag_137 : isAggB Try.prog 137 = some false := by kernel_rfl
theorem by_137 : bytesB Try.prog 137 = some 8 := by kernel_rfl
theorem sz_139 : szB Try.prog 139 = some 1 := by kernel_rfl
theorem ag_139 : isAggB Try.prog 139 = some false := by kernel_rfl
theorem by_139 : bytesB Try.prog 139 = some 8 := by kernel_rfl
theorem sz_154 : szB Try.prog 154 = some 3 := by kernel_rfl
theorem ag_154 : isAggB Try.prog 154 = some true := by kernel_rfl
theorem by_154 : bytesB Try.prog 154 = some 24 := by kernel_rfl
theorem ze_154 : zeroB Try.prog 154 = some ((AV.int IntKind.i64 0) :: ((AV.int IntKind.i64 0) :: ((AV.int IntKind.i64 0) :: []))) := by kernel_rfl
theorem pl_154 : placesB Try.prog 154 = some ((0, 1) :: ((1, 1) :: ((2, 1) :: []))) := by kernel_rfl
theorem sh_154 : shapes Try.prog 6 154 = some (Sh.int IntKind.i64 :: (Sh.int IntKind.i64 :: (Sh.int IntKind.i64 :: []))) := by kernel_rfl
theorem nf_154 : nfieldsB Try.prog 154 = some 3 := by kernel_rfl
theorem ps_154 : plainStructB Try.prog 154 = true := by kernel_rfl
theorem fi_154_0 : fieldB Try.prog 154 0 = some (0, 1) := by kernel_rfl
theorem fi_154_1 : fieldB Try.prog 154 1 = some (1, 1) := by kernel_rfl
theorem fi_154_2 : fieldB Try.prog 154 2 = some (2, 1) := by kernel_rfl
end Go.Proofs.Ytffefndnnbcplaa
