/- Facts of the types that the functions name, each read off the table; no conditions. -/
import Derived.Test.YtaalpmbopkbdiaaGreatAbS
import Derived.Test.YtaalpmbopkbdiaaGreatProg
namespace Go.Proofs.YtaalpmbopkbdiaaGreat
open Go
theorem hm : Tryz.prog.follows .mixedOrders = true := by kernel_rfl
theorem sz_3 : szB Tryz.prog 3 = some 1 := by kernel_rfl
theorem ag_3 : isAggB Tryz.prog 3 = some false := by kernel_rfl
theorem by_3 : bytesB Tryz.prog 3 = some 8 := by kernel_rfl
theorem ze_3 : zeroB Tryz.prog 3 = some ((AV.int IntKind.i64 0) :: []) := by kernel_rfl
theorem in_3 : intB Tryz.prog 3 = some IntKind.i64 := by kernel_rfl
theorem en_3 : elemB Tryz.prog 3 = none := by kernel_rfl
theorem sh_3 : shapes Tryz.prog 6 3 = some (Sh.int IntKind.i64 :: []) := by kernel_rfl
theorem sz_4 : szB Tryz.prog 4 = some 1 := by kernel_rfl
theorem ag_4 : isAggB Tryz.prog 4 = some false := by kernel_rfl
theorem by_4 : bytesB Tryz.prog 4 = some 1 := by kernel_rfl
theorem ze_4 : zeroB Tryz.prog 4 = some ((AV.bool false) :: []) := by kernel_rfl
theorem bo_4 : boolB Tryz.prog 4 = true := by kernel_rfl
theorem sz_22 : szB Tryz.prog 22 = some 1 := by kernel_rfl
theorem ag_22 : isAggB Tryz.prog 22 = some false := by kernel_rfl
theorem by_22 : bytesB Tryz.prog 22 = some 24 := by kernel_rfl
theorem ze_22 : zeroB Tryz.prog 22 = some (AV.nils :: []) := by kernel_rfl
theorem el_22 : elemB Tryz.prog 22 = some (97, 3) := by kernel_rfl
theorem sh_22 : shapes Tryz.prog 6 22 = some (Sh.rows 97 3 IntKind.i64 :: []) := by kernel_rfl
theorem sz_24 : szB Tryz.prog 24 = some 2 := by kernel_rfl
theorem ag_24 : isAggB Tryz.prog 24 = some true := by kernel_rfl
theorem by_24 : bytesB Tryz.prog 24 = some 32 := by kernel_rfl
theorem ze_24 : zeroB Tryz.prog 24 = some ((AV.int IntKind.i64 0) :: (AV.nils :: [])) := by kernel_rfl
theorem pl_24 : placesB Tryz.prog 24 = some ((0, 1) :: ((1, 1) :: [])) := by kernel_rfl
theorem sh_24 : shapes Tryz.prog 6 24 = some (Sh.int IntKind.i64 :: (Sh.rows 97 3 IntKind.i64 :: [])) := by kernel_rfl
theorem nf_24 : nfieldsB Tryz.prog 24 = some 2 := by kernel_rfl
theorem ps_24 : plainStructB Tryz.prog 24 = false := by kernel_rfl
theorem fi_24_0 : fieldB Tryz.prog 24 0 = some (0, 1) := by kernel_rfl
theorem fi_24_1 : fieldB Tryz.prog 24 1 = some (1, 1) := by kernel_rfl
theorem sz_25 : szB Tryz.prog 25 = some 1 := by kernel_rfl
theorem ag_25 : isAggB Tryz.prog 25 = some false := by kernel_rfl
theorem by_25 : bytesB Tryz.prog 25 = some 24 := by kernel_rfl
theorem ze_25 : zeroB Tryz.prog 25 = some (AV.nils :: []) := by kernel_rfl
theorem el_25 : elemB Tryz.prog 25 = some (3, 1) := by kernel_rfl
theorem sh_25 : shapes Tryz.prog 6 25 = some (Sh.rows 3 1 IntKind.i64 :: []) := by kernel_rfl
theorem sz_27 : szB Tryz.prog 27 = some 5 := by kernel_rfl
theorem ag_27 : isAggB Tryz.prog 27 = some true := by kernel_rfl
theorem by_27 : bytesB Tryz.prog 27 = some 104 := by kernel_rfl
theorem ze_27 : zeroB Tryz.prog 27 = some ((AV.int IntKind.i64 0) :: (AV.nils :: (AV.nils :: (AV.nils :: (AV.nils :: []))))) := by kernel_rfl
theorem pl_27 : placesB Tryz.prog 27 = some ((0, 2) :: ((2, 1) :: ((3, 1) :: ((4, 1) :: [])))) := by kernel_rfl
theorem sh_27 : shapes Tryz.prog 6 27 = some (Sh.int IntKind.i64 :: (Sh.rows 97 3 IntKind.i64 :: (Sh.rows 3 1 IntKind.i64 :: (Sh.rows 3 1 IntKind.i64 :: (Sh.rows 3 1 IntKind.i64 :: []))))) := by kernel_rfl
theorem nf_27 : nfieldsB Tryz.prog 27 = some 4 := by kernel_rfl
theorem ps_27 : plainStructB Tryz.prog 27 = false := by kernel_rfl
theorem fi_27_0 : fieldB Tryz.prog 27 0 = some (0, 2) := by kernel_rfl
theorem fi_27_1 : fieldB Tryz.prog 27 1 = some (2, 1) := by kernel_rfl
theorem fi_27_2 : fieldB Tryz.prog 27 2 = some (3, 1) := by kernel_rfl
theorem fi_27_3 : fieldB Tryz.prog 27 3 = some (4, 1) := by kernel_rfl
theorem sz_30 : szB Tryz.prog 30 = some 1 := by kernel_rfl
theorem ag_30 : isAggB Tryz.prog 30 = some false := by kernel_rfl
theorem by_30 : bytesB Tryz.prog 30 = some 24 := by kernel_rfl
theorem ze_30 : zeroB Tryz.prog 30 = some (AV.nils :: []) := by kernel_rfl
theorem el_30 : elemB Tryz.prog 30 = some (69, 3) := by kernel_rfl
theorem sh_30 : shapes Tryz.prog 6 30 = some (Sh.rows 69 3 IntKind.i64 :: []) := by kernel_rfl
theorem sz_32 : szB Tryz.prog 32 = some 2 := by kernel_rfl
theorem ag_32 : isAggB Tryz.prog 32 = some true := by kernel_rfl
theorem by_32 : bytesB Tryz.prog 32 = some 32 := by kernel_rfl
theorem ze_32 : zeroB Tryz.prog 32 = some ((AV.int IntKind.i64 0) :: (AV.nils :: [])) := by kernel_rfl
theorem pl_32 : placesB Tryz.prog 32 = some ((0, 1) :: ((1, 1) :: [])) := by kernel_rfl
theorem sh_32 : shapes Tryz.prog 6 32 = some (Sh.int IntKind.i64 :: (Sh.rows 69 3 IntKind.i64 :: [])) := by kernel_rfl
theorem nf_32 : nfieldsB Tryz.prog 32 = some 2 := by kernel_rfl
theorem ps_32 : plainStructB Tryz.prog 32 = false := by kernel_rfl
theorem fi_32_0 : fieldB Tryz.prog 32 0 = some (0, 1) := by kernel_rfl
theorem fi_32_1 : fieldB Tryz.prog 32 1 = some (1, 1) := by kernel_rfl
theorem sz_34 : szB Tryz.prog 34 = some 5 := by kernel_rfl
theorem ag_34 : isAggB Tryz.prog 34 = some true := by kernel_rfl
theorem by_34 : bytesB Tryz.prog 34 = some 104 := by kernel_rfl
theorem ze_34 : zeroB Tryz.prog 34 = some ((AV.int IntKind.i64 0) :: (AV.nils :: (AV.nils :: (AV.nils :: (AV.nils :: []))))) := by kernel_rfl
theorem pl_34 : placesB Tryz.prog 34 = some ((0, 2) :: ((2, 1) :: ((3, 1) :: ((4, 1) :: [])))) := by kernel_rfl
theorem sh_34 : shapes Tryz.prog 6 34 = some (Sh.int IntKind.i64 :: (Sh.rows 69 3 IntKind.i64 :: (Sh.rows 3 1 IntKind.i64 :: (Sh.rows 3 1 IntKind.i64 :: (Sh.rows 3 1 IntKind.i64 :: []))))) := by kernel_rfl
theorem nf_34 : nfieldsB Tryz.prog 34 = some 4 := by kernel_rfl
theorem ps_34 : plainStructB Tryz.prog 34 = false := by kernel_rfl
theorem fi_34_0 : fieldB Tryz.prog 34 0 = some (0, 2) := by kernel_rfl
theorem fi_34_1 : fieldB Tryz.prog 34 1 = some (2, 1) := by kernel_rfl
theorem fi_34_2 : fieldB Tryz.prog 34 2 = some (3, 1) := by kernel_rfl
theorem fi_34_3 : fieldB Tryz.prog 34 3 = some (4, 1) := by kernel_rfl
theorem sz_47 : szB Tryz.prog 47 = some 3 := by kernel_rfl
theorem ag_47 : isAggB Tryz.prog 47 = some true := by kernel_rfl
theorem by_47 : bytesB Tryz.prog 47 = some 24 := by kernel_rfl
theorem ze_47 : zeroB Tryz.prog 47 = some ((AV.int IntKind.i64 0) :: ((AV.int IntKind.i64 0) :: ((AV.int IntKind.i64 0) :: []))) := by kernel_rfl
theorem pl_47 : placesB Tryz.prog 47 = some ((0, 1) :: ((1, 1) :: ((2, 1) :: []))) := by kernel_rfl
theorem sh_47 : shapes Tryz.prog 6 47 = some (Sh.int IntKind.i64 :: (Sh.int IntKind.i64 :: (Sh.int IntKind.i64 :: []))) := by kernel_rfl
theorem nf_47 : nfieldsB Tryz.prog 47 = some 3 := by kernel_rfl
theorem ps_47 : plainStructB Tryz.prog 47 = true := by kernel_rfl
theorem fi_47_0 : fieldB Tryz.prog 47 0 = some (0, 1) := by kernel_rfl
theorem fi_47_1 : fieldB Tryz.prog 47 1 = some (1, 1) := by kernel_rfl
theorem fi_47_2 : fieldB Tryz.prog 47 2 = some (2, 1) := by kernel_rfl
theorem sz_49 : szB Tryz.prog 49 = some 9 := by kernel_rfl
theorem ag_49 : isAggB Tryz.prog 49 = some true := by kernel_rfl
theorem by_49 : bytesB Tryz.prog 49 = some 72 := by kernel_rfl
theorem ze_49 : zeroB Tryz.prog 49 = some ((AV.int IntKind.i64 0) :: ((AV.int IntKind.i64 0) :: ((AV.int IntKind.i64 0) :: ((AV.int IntKind.i64 0) :: ((AV.int IntKind.i64 0) :: ((AV.int IntKind.i64 0) :: ((AV.int IntKind.i64 0) :: ((AV.int IntKind.i64 0) :: ((AV.int IntKind.i64 0) :: []))))))))) := by kernel_rfl
theorem pl_49 : placesB Tryz.prog 49 = some ((0, 3) :: ((3, 1) :: ((4, 1) :: ((5, 1) :: ((6, 1) :: ((7, 1) :: ((8, 1) :: []))))))) := by kernel_rfl
theorem sh_49 : shapes Tryz.prog 6 49 = some (Sh.int IntKind.i64 :: (Sh.int IntKind.i64 :: (Sh.int IntKind.i64 :: (Sh.int IntKind.i64 :: (Sh.int IntKind.i64 :: (Sh.int IntKind.i64 :: (Sh.int IntKind.i64 :: (Sh.int IntKind.i64 :: (Sh.int IntKind.i64 :: []))))))))) := by kernel_rfl
theorem nf_49 : nfieldsB Tryz.prog 49 = some 7 := by kernel_rfl
theorem ps_49 : plainStructB Tryz.prog 49 = false := by kernel_rfl
theorem fi_49_0 : fieldB Tryz.prog 49 0 = some (0, 3) := by kernel_rfl
theorem fi_49_1 : fieldB Tryz.prog 49 1 = some (3, 1) := by kernel_rfl
theorem fi_49_2 : fieldB Tryz.prog 49 2 = some (4, 1) := by kernel_rfl
theorem fi_49_3 : fieldB Tryz.prog 49 3 = some (5, 1) := by kernel_rfl
theorem fi_49_4 : fieldB Tryz.prog 49 4 = some (6, 1) := by kernel_rfl
theorem fi_49_5 : fieldB Tryz.prog 49 5 = some (7, 1) := by kernel_rfl
theorem fi_49_6 : fieldB Tryz.prog 49 6 = some (8, 1) := by kernel_rfl
theorem sz_51 : szB Tryz.prog 51 = some 4 := by kernel_rfl
theorem ag_51 : isAggB Tryz.prog 51 = some true := by kernel_rfl
theorem by_51 : bytesB Tryz.prog 51 = some 32 := by kernel_rfl
theorem ze_51 : zeroB Tryz.prog 51 = some ((AV.int IntKind.i64 0) :: ((AV.int IntKind.i64 0) :: ((AV.int IntKind.i64 0) :: ((AV.int IntKind.i64 0) :: [])))) := by kernel_rfl
theorem pl_51 : placesB Tryz.prog 51 = some ((0, 1) :: ((1, 1) :: ((2, 1) :: ((3, 1) :: [])))) := by kernel_rfl
theorem sh_51 : shapes Tryz.prog 6 51 = some (Sh.int IntKind.i64 :: (Sh.int IntKind.i64 :: (Sh.int IntKind.i64 :: (Sh.int IntKind.i64 :: [])))) := by kernel_rfl
theorem nf_51 : nfieldsB Tryz.prog 51 = some 4 := by kernel_rfl
theorem ps_51 : plainStructB Tryz.prog 51 = true := by kernel_rfl
theorem fi_51_0 : fieldB Tryz.prog 51 0 = some (0, 1) := by kernel_rfl
theorem fi_51_1 : fieldB Tryz.prog 51 1 = some (1, 1) := by kernel_rfl
theorem fi_51_2 : fieldB Tryz.prog 51 2 = some (2, 1) := by kernel_rfl
theorem fi_51_3 : fieldB Tryz.prog 51 3 = some (3, 1) := by kernel_rfl
theorem sz_54 : szB Tryz.prog 54 = some 3 := by kernel_rfl
theorem ag_54 : isAggB Tryz.prog 54 = some true := by kernel_rfl
theorem by_54 : bytesB Tryz.prog 54 = some 24 := by kernel_rfl
theorem ze_54 : zeroB Tryz.prog 54 = some ((AV.int IntKind.i64 0) :: ((AV.int IntKind.i64 0) :: ((AV.int IntKind.i64 0) :: []))) := by kernel_rfl
theorem pl_54 : placesB Tryz.prog 54 = some ((0, 1) :: ((1, 1) :: ((2, 1) :: []))) := by kernel_rfl
theorem sh_54 : shapes Tryz.prog 6 54 = some (Sh.int IntKind.i64 :: (Sh.int IntKind.i64 :: (Sh.int IntKind.i64 :: []))) := by kernel_rfl
theorem nf_54 : nfieldsB Tryz.prog 54 = some 3 := by kernel_rfl
theorem ps_54 : plainStructB Tryz.prog 54 = true := by kernel_rfl
theorem fi_54_0 : fieldB Tryz.prog 54 0 = some (0, 1) := by kernel_rfl
theorem fi_54_1 : fieldB Tryz.prog 54 1 = some (1, 1) := by kernel_rfl
theorem fi_54_2 : fieldB Tryz.prog 54 2 = some (2, 1) := by kernel_rfl
theorem sz_56 : szB Tryz.prog 56 = some 9 := by kernel_rfl
theorem ag_56 : isAggB Tryz.prog 56 = some true := by kernel_rfl
theorem by_56 : bytesB Tryz.prog 56 = some 72 := by kernel_rfl
theorem ze_56 : zeroB Tryz.prog 56 = some ((AV.int IntKind.i64 0) :: ((AV.int IntKind.i64 0) :: ((AV.int IntKind.i64 0) :: ((AV.int IntKind.i64 0) :: ((AV.int IntKind.i64 0) :: ((AV.int IntKind.i64 0) :: ((AV.int IntKind.i64 0) :: ((AV.int IntKind.i64 0) :: ((AV.int IntKind.i64 0) :: []))))))))) := by kernel_rfl
theorem pl_56 : placesB Tryz.prog 56 = some ((0, 3) :: ((3, 1) :: ((4, 1) :: ((5, 1) :: ((6, 1) :: ((7, 1) :: ((8, 1) :: []))))))) := by kernel_rfl
theorem sh_56 : shapes Tryz.prog 6 56 = some (Sh.int IntKind.i64 :: (Sh.int IntKind.i64 :: (Sh.int IntKind.i64 :: (Sh.int IntKind.i64 :: (Sh.int IntKind.i64 :: (Sh.int IntKind.i64 :: (Sh.int IntKind.i64 :: (Sh.int IntKind.i64 :: (Sh.int IntKind.i64 :: []))))))))) := by kernel_rfl
theorem nf_56 : nfieldsB Tryz.prog 56 = some 7 := by kernel_rfl
theorem ps_56 : plainStructB Tryz.prog 56 = false := by kernel_rfl
theorem fi_56_0 : fieldB Tryz.prog 56 0 = some (0, 3) := by kernel_rfl
theorem fi_56_1 : fieldB Tryz.prog 56 1 = some (3, 1) := by kernel_rfl
theorem fi_56_2 : fieldB Tryz.prog 56 2 = some (4, 1) := by kernel_rfl
theorem fi_56_3 : fieldB Tryz.prog 56 3 = some (5, 1) := by kernel_rfl
theorem fi_56_4 : fieldB Tryz.prog 56 4 = some (6, 1) := by kernel_rfl
theorem fi_56_5 : fieldB Tryz.prog 56 5 = some (7, 1) := by kernel_rfl
theorem fi_56_6 : fieldB Tryz.prog 56 6 = some (8, 1) := by kernel_rfl
theorem sz_69 : szB Tryz.prog 69 = some 3 := by kernel_rfl
theorem ag_69 : isAggB Tryz.prog 69 = some true := by kernel_rfl
theorem by_69 : bytesB Tryz.prog 69 = some 24 := by kernel_rfl
theorem ze_69 : zeroB Tryz.prog 69 = some ((AV.int IntKind.i64 0) :: ((AV.int IntKind.i64 0) :: ((AV.int IntKind.i64 0) :: []))) := by kernel_rfl
theorem pl_69 : placesB Tryz.prog 69 = some ((0, 1) :: ((1, 1) :: ((2, 1) :: []))) := by kernel_rfl
theorem sh_69 : shapes Tryz.prog 6 69 = some (Sh.int IntKind.i64 :: (Sh.int IntKind.i64 :: (Sh.int IntKind.i64 :: []))) := by kernel_rfl
theorem nf_69 : nfieldsB Tryz.prog 69 = some 3 := by kernel_rfl
theorem ps_69 : plainStructB Tryz.prog 69 = true := by kernel_rfl
theorem fi_69_0 : fieldB Tryz.prog 69 0 = some (0, 1) := by kernel_rfl
theorem fi_69_1 : fieldB Tryz.prog 69 1 = some (1, 1) := by kernel_rfl
theorem fi_69_2 : fieldB Tryz.prog 69 2 = some (2, 1) := by kernel_rfl
theorem sz_76 : szB Tryz.prog 76 = some 1 := by kernel_rfl
theorem ag_76 : isAggB Tryz.prog 76 = some false := by kernel_rfl
theorem by_76 : bytesB Tryz.prog 76 = some 8 := by kernel_rfl
theorem sz_87 : szB Tryz.prog 87 = some 1 := by kernel_rfl
theorem ag_87 : isAggB Tryz.prog 87 = some false := by kernel_rfl
theorem by_87 : bytesB Tryz.prog 87 = some 8 := by kernel_rfl
theorem sz_97 : szB Tryz.prog 97 = some 3 := by kernel_rfl
theorem ag_97 : isAggB Tryz.prog 97 = some true := by kernel_rfl
theorem by_97 : bytesB Tryz.prog 97 = some 24 := by kernel_rfl
theorem ze_97 : zeroB Tryz.prog 97 = some ((AV.int IntKind.i64 0) :: ((AV.int IntKind.i64 0) :: ((AV.int IntKind.i64 0) :: []))) := by kernel_rfl
theorem pl_97 : placesB Tryz.prog 97 = some ((0, 1) :: ((1, 1) :: ((2, 1) :: []))) := by kernel_rfl
theorem sh_97 : shapes Tryz.prog 6 97 = some (Sh.int IntKind.i64 :: (Sh.int IntKind.i64 :: (Sh.int IntKind.i64 :: []))) := by kernel_rfl
theorem nf_97 : nfieldsB Tryz.prog 97 = some 3 := by kernel_rfl
theorem ps_97 : plainStructB Tryz.prog 97 = true := by kernel_rfl
theorem fi_97_0 : fieldB Tryz.prog 97 0 = some (0, 1) := by kernel_rfl
theorem fi_97_1 : fieldB Tryz.prog 97 1 = some (1, 1) := by kernel_rfl
theorem fi_97_2 : fieldB Tryz.prog 97 2 = some (2, 1) := by kernel_rfl
theorem sz_101 : szB Tryz.prog 101 = some 1 := by kernel_rfl
theorem ag_101 : isAggB Tryz.prog 101 = some false := by kernel_rfl
theorem by_101 : bytesB Tryz.prog 101 = some 8 := by kernel_rfl
theorem sz_105 : szB Tryz.prog 105 = some 1 := by kernel_rfl
theorem ag_105 : isAggB Tryz.prog 105 = some false := by kernel_rfl
theorem by_105 : bytesB Tryz.prog 105 = some 8 := by kernel_rfl
theorem mb_105 : mapB Tryz.prog 105 = some (69, 3) := by kernel_rfl
theorem sz_112 : szB Tryz.prog 112 = some 1 := by kernel_rfl
theorem ag_112 : isAggB Tryz.prog 112 = some false := by kernel_rfl
theorem by_112 : bytesB Tryz.prog 112 = some 8 := by kernel_rfl
theorem ze_112 : zeroB Tryz.prog 112 = some ((AV.int IntKind.u64 0) :: []) := by kernel_rfl
theorem in_112 : intB Tryz.prog 112 = some IntKind.u64 := by kernel_rfl
theorem en_112 : elemB Tryz.prog 112 = none := by kernel_rfl
theorem sh_112 : shapes Tryz.prog 6 112 = some (Sh.int IntKind.u64 :: []) := by kernel_rfl
theorem sz_124 : szB Tryz.prog 124 = some 1 := by kernel_rfl
theorem ag_124 : isAggB Tryz.prog 124 = some false := by kernel_rfl
theorem by_124 : bytesB Tryz.prog 124 = some 8 := by kernel_rfl
theorem sz_139 : szB Tryz.prog 139 = some 1 := by kernel_rfl
theorem ag_139 : isAggB Tryz.prog 139 = some false := by kernel_rfl
theorem by_139 : bytesB Tryz.prog 139 = some 8 := by kernel_rfl
theorem sz_142 : szB Tryz.prog 142 = some 3 := by kernel_rfl
theorem ag_142 : isAggB Tryz.prog 142 = some true := by kernel_rfl
theorem by_142 : bytesB Tryz.prog 142 = some 24 := by kernel_rfl
theorem ze_142 : zeroB Tryz.prog 142 = some ((AV.int IntKind.i64 0) :: ((AV.int IntKind.i64 0) :: ((AV.int IntKind.i64 0) :: []))) := by kernel_rfl
theorem pl_142 : placesB Tryz.prog 142 = some ((0, 1) :: ((1, 1) :: ((2, 1) :: []))) := by kernel_rfl
theorem sh_142 : shapes Tryz.prog 6 142 = some (Sh.int IntKind.i64 :: (Sh.int IntKind.i64 :: (Sh.int IntKind.i64 :: []))) := by kernel_rfl
theorem nf_142 : nfieldsB Tryz.prog 142 = some 3 := by kernel_rfl
theorem ps_142 : plainStructB Tryz.prog 142 = true := by kernel_rfl
theorem fi_142_0 : fieldB Tryz.prog 142 0 = some (0, 1) := by kernel_rfl
theorem fi_142_1 : fieldB Tryz.prog 142 1 = some (1, 1) := by kernel_rfl
theorem fi_142_2 : fieldB Tryz.prog 142 2 = some (2, 1) := by kernel_rfl
theorem sz_144 : szB Tryz.prog 144 = some 1 := by kernel_rfl
theorem ag_144 : isAggB Tryz.prog 144 = some false := by kernel_rfl
theorem by_144 : bytesB Tryz.prog 144 = some 8 := by kernel_rfl
end Go.Proofs.YtaalpmbopkbdiaaGreat
