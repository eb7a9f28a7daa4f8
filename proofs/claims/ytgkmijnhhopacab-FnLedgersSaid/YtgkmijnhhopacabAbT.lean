/- Facts of the types that the functions name, each read off the table; no conditions. -/
import Derived.Test.YtgkmijnhhopacabAbS
import Derived.Test.YtgkmijnhhopacabProg
namespace Go.Proofs.Ytgkmijnhhopacab
open Go
theorem hm : Try.prog.follows .mixedOrders = true := by kernel_rfl
theorem sz_3 : szB Try.prog 3 = some 1 := by kernel_rfl
theorem ag_3 : isAggB Try.prog 3 = some false := by kernel_rfl
theorem by_3 : bytesB Try.prog 3 = some 8 := by kernel_rfl
theorem ze_3 : zeroB Try.prog 3 = some ((AV.int IntKind.i64 0) :: []) := by kernel_rfl
theorem in_3 : intB Try.prog 3 = some IntKind.i64 := by kernel_rfl
theorem sh_3 : shapes Try.prog 6 3 = some (Sh.int IntKind.i64 :: []) := by kernel_rfl
theorem sz_4 : szB Try.prog 4 = some 1 := by kernel_rfl
theorem ag_4 : isAggB Try.prog 4 = some false := by kernel_rfl
theorem by_4 : bytesB Try.prog 4 = some 1 := by kernel_rfl
theorem ze_4 : zeroB Try.prog 4 = some ((AV.bool false) :: []) := by kernel_rfl
theorem bo_4 : boolB Try.prog 4 = true := by kernel_rfl
theorem sz_5 : szB Try.prog 5 = some 1 := by kernel_rfl
theorem ag_5 : isAggB Try.prog 5 = some false := by kernel_rfl
theorem by_5 : bytesB Try.prog 5 = some 1 := by kernel_rfl
theorem ze_5 : zeroB Try.prog 5 = some ((AV.int IntKind.u8 0) :: []) := by kernel_rfl
theorem in_5 : intB Try.prog 5 = some IntKind.u8 := by kernel_rfl
theorem sh_5 : shapes Try.prog 6 5 = some (Sh.int IntKind.u8 :: []) := by kernel_rfl
theorem sz_23 : szB Try.prog 23 = some 3 := by kernel_rfl
theorem ag_23 : isAggB Try.prog 23 = some true := by kernel_rfl
theorem by_23 : bytesB Try.prog 23 = some 24 := by kernel_rfl
theorem ze_23 : zeroB Try.prog 23 = some ((AV.int IntKind.i64 0) :: ((AV.int IntKind.i64 0) :: ((AV.int IntKind.i64 0) :: []))) := by kernel_rfl
theorem pl_23 : placesB Try.prog 23 = some ((0, 1) :: ((1, 1) :: ((2, 1) :: []))) := by kernel_rfl
theorem sh_23 : shapes Try.prog 6 23 = some (Sh.int IntKind.i64 :: (Sh.int IntKind.i64 :: (Sh.int IntKind.i64 :: []))) := by kernel_rfl
theorem nf_23 : nfieldsB Try.prog 23 = some 3 := by kernel_rfl
theorem ps_23 : plainStructB Try.prog 23 = true := by kernel_rfl
theorem fi_23_0 : fieldB Try.prog 23 0 = some (0, 1) := by kernel_rfl
theorem fi_23_1 : fieldB Try.prog 23 1 = some (1, 1) := by kernel_rfl
theorem fi_23_2 : fieldB Try.prog 23 2 = some (2, 1) := by kernel_rfl
theorem sz_25 : szB Try.prog 25 = some 9 := by kernel_rfl
theorem ag_25 : isAggB Try.prog 25 = some true := by kernel_rfl
theorem by_25 : bytesB Try.prog 25 = some 72 := by kernel_rfl
theorem ze_25 : zeroB Try.prog 25 = some ((AV.int IntKind.i64 0) :: ((AV.int IntKind.i64 0) :: ((AV.int IntKind.i64 0) :: ((AV.int IntKind.i64 0) :: ((AV.int IntKind.i64 0) :: ((AV.int IntKind.i64 0) :: ((AV.int IntKind.i64 0) :: ((AV.int IntKind.i64 0) :: ((AV.int IntKind.i64 0) :: []))))))))) := by kernel_rfl
theorem pl_25 : placesB Try.prog 25 = some ((0, 3) :: ((3, 1) :: ((4, 1) :: ((5, 1) :: ((6, 1) :: ((7, 1) :: ((8, 1) :: []))))))) := by kernel_rfl
theorem sh_25 : shapes Try.prog 6 25 = some (Sh.int IntKind.i64 :: (Sh.int IntKind.i64 :: (Sh.int IntKind.i64 :: (Sh.int IntKind.i64 :: (Sh.int IntKind.i64 :: (Sh.int IntKind.i64 :: (Sh.int IntKind.i64 :: (Sh.int IntKind.i64 :: (Sh.int IntKind.i64 :: []))))))))) := by kernel_rfl
theorem nf_25 : nfieldsB Try.prog 25 = some 7 := by kernel_rfl
theorem ps_25 : plainStructB Try.prog 25 = false := by kernel_rfl
theorem fi_25_0 : fieldB Try.prog 25 0 = some (0, 3) := by kernel_rfl
theorem fi_25_1 : fieldB Try.prog 25 1 = some (3, 1) := by kernel_rfl
theorem fi_25_2 : fieldB Try.prog 25 2 = some (4, 1) := by kernel_rfl
theorem fi_25_3 : fieldB Try.prog 25 3 = some (5, 1) := by kernel_rfl
theorem fi_25_4 : fieldB Try.prog 25 4 = some (6, 1) := by kernel_rfl
theorem fi_25_5 : fieldB Try.prog 25 5 = some (7, 1) := by kernel_rfl
theorem fi_25_6 : fieldB Try.prog 25 6 = some (8, 1) := by kernel_rfl
theorem sz_27 : szB Try.prog 27 = some 3 := by kernel_rfl
theorem ag_27 : isAggB Try.prog 27 = some true := by kernel_rfl
theorem by_27 : bytesB Try.prog 27 = some 24 := by kernel_rfl
theorem ze_27 : zeroB Try.prog 27 = some ((AV.int IntKind.i64 0) :: ((AV.int IntKind.i64 0) :: ((AV.int IntKind.i64 0) :: []))) := by kernel_rfl
theorem pl_27 : placesB Try.prog 27 = some ((0, 1) :: ((1, 1) :: ((2, 1) :: []))) := by kernel_rfl
theorem sh_27 : shapes Try.prog 6 27 = some (Sh.int IntKind.i64 :: (Sh.int IntKind.i64 :: (Sh.int IntKind.i64 :: []))) := by kernel_rfl
theorem nf_27 : nfieldsB Try.prog 27 = some 3 := by kernel_rfl
theorem ps_27 : plainStructB Try.prog 27 = true := by kernel_rfl
theorem fi_27_0 : fieldB Try.prog 27 0 = some (0, 1) := by kernel_rfl
theorem fi_27_1 : fieldB Try.prog 27 1 = some (1, 1) := by kernel_rfl
theorem fi_27_2 : fieldB Try.prog 27 2 = some (2, 1) := by kernel_rfl
theorem sz_29 : szB Try.prog 29 = some 9 := by kernel_rfl
theorem ag_29 : isAggB Try.prog 29 = some true := by kernel_rfl
theorem by_29 : bytesB Try.prog 29 = some 72 := by kernel_rfl
theorem ze_29 : zeroB Try.prog 29 = some ((AV.int IntKind.i64 0) :: ((AV.int IntKind.i64 0) :: ((AV.int IntKind.i64 0) :: ((AV.int IntKind.i64 0) :: ((AV.int IntKind.i64 0) :: ((AV.int IntKind.i64 0) :: ((AV.int IntKind.i64 0) :: ((AV.int IntKind.i64 0) :: ((AV.int IntKind.i64 0) :: []))))))))) := by kernel_rfl
theorem pl_29 : placesB Try.prog 29 = some ((0, 3) :: ((3, 1) :: ((4, 1) :: ((5, 1) :: ((6, 1) :: ((7, 1) :: ((8, 1) :: []))))))) := by kernel_rfl
theorem sh_29 : shapes Try.prog 6 29 = some (Sh.int IntKind.i64 :: (Sh.int IntKind.i64 :: (Sh.int IntKind.i64 :: (Sh.int IntKind.i64 :: (Sh.int IntKind.i64 :: (Sh.int IntKind.i64 :: (Sh.int IntKind.i64 :: (Sh.int IntKind.i64 :: (Sh.int IntKind.i64 :: []))))))))) := by kernel_rfl
theorem nf_29 : nfieldsB Try.prog 29 = some 7 := by kernel_rfl
theorem ps_29 : plainStructB Try.prog 29 = false := by kernel_rfl
theorem fi_29_0 : fieldB Try.prog 29 0 = some (0, 3) := by kernel_rfl
theorem fi_29_1 : fieldB Try.prog 29 1 = some (3, 1) := by kernel_rfl
theorem fi_29_2 : fieldB Try.prog 29 2 = some (4, 1) := by kernel_rfl
theorem fi_29_3 : fieldB Try.prog 29 3 = some (5, 1) := by kernel_rfl
theorem fi_29_4 : fieldB Try.prog 29 4 = some (6, 1) := by kernel_rfl
theorem fi_29_5 : fieldB Try.prog 29 5 = some (7, 1) := by kernel_rfl
theorem fi_29_6 : fieldB Try.prog 29 6 = some (8, 1) := by kernel_rfl
theorem sz_32 : szB Try.prog 32 = some 1 := by kernel_rfl
theorem ag_32 : isAggB Try.prog 32 = some false := by kernel_rfl
theorem by_32 : bytesB Try.prog 32 = some 24 := by kernel_rfl
theorem ze_32 : zeroB Try.prog 32 = some (AV.nils :: []) := by kernel_rfl
theorem el_32 : elemB Try.prog 32 = some (5, 1) := by kernel_rfl
theorem sh_32 : shapes Try.prog 6 32 = some (Sh.rows 5 1 IntKind.u8 :: []) := by kernel_rfl
theorem sz_34 : szB Try.prog 34 = some 1 := by kernel_rfl
theorem ag_34 : isAggB Try.prog 34 = some false := by kernel_rfl
theorem by_34 : bytesB Try.prog 34 = some 24 := by kernel_rfl
theorem ze_34 : zeroB Try.prog 34 = some (AV.nils :: []) := by kernel_rfl
theorem el_34 : elemB Try.prog 34 = some (96, 3) := by kernel_rfl
theorem sh_34 : shapes Try.prog 6 34 = some (Sh.rows 96 3 IntKind.i64 :: []) := by kernel_rfl
theorem sz_36 : szB Try.prog 36 = some 2 := by kernel_rfl
theorem ag_36 : isAggB Try.prog 36 = some true := by kernel_rfl
theorem by_36 : bytesB Try.prog 36 = some 32 := by kernel_rfl
theorem ze_36 : zeroB Try.prog 36 = some ((AV.int IntKind.i64 0) :: (AV.nils :: [])) := by kernel_rfl
theorem pl_36 : placesB Try.prog 36 = some ((0, 1) :: ((1, 1) :: [])) := by kernel_rfl
theorem sh_36 : shapes Try.prog 6 36 = some (Sh.int IntKind.i64 :: (Sh.rows 96 3 IntKind.i64 :: [])) := by kernel_rfl
theorem nf_36 : nfieldsB Try.prog 36 = some 2 := by kernel_rfl
theorem ps_36 : plainStructB Try.prog 36 = false := by kernel_rfl
theorem fi_36_0 : fieldB Try.prog 36 0 = some (0, 1) := by kernel_rfl
theorem fi_36_1 : fieldB Try.prog 36 1 = some (1, 1) := by kernel_rfl
theorem sz_37 : szB Try.prog 37 = some 1 := by kernel_rfl
theorem ag_37 : isAggB Try.prog 37 = some false := by kernel_rfl
theorem by_37 : bytesB Try.prog 37 = some 24 := by kernel_rfl
theorem ze_37 : zeroB Try.prog 37 = some (AV.nils :: []) := by kernel_rfl
theorem el_37 : elemB Try.prog 37 = some (3, 1) := by kernel_rfl
theorem sh_37 : shapes Try.prog 6 37 = some (Sh.rows 3 1 IntKind.i64 :: []) := by kernel_rfl
theorem sz_39 : szB Try.prog 39 = some 5 := by kernel_rfl
theorem ag_39 : isAggB Try.prog 39 = some true := by kernel_rfl
theorem by_39 : bytesB Try.prog 39 = some 104 := by kernel_rfl
theorem ze_39 : zeroB Try.prog 39 = some ((AV.int IntKind.i64 0) :: (AV.nils :: (AV.nils :: (AV.nils :: (AV.nils :: []))))) := by kernel_rfl
theorem pl_39 : placesB Try.prog 39 = some ((0, 2) :: ((2, 1) :: ((3, 1) :: ((4, 1) :: [])))) := by kernel_rfl
theorem sh_39 : shapes Try.prog 6 39 = some (Sh.int IntKind.i64 :: (Sh.rows 96 3 IntKind.i64 :: (Sh.rows 3 1 IntKind.i64 :: (Sh.rows 3 1 IntKind.i64 :: (Sh.rows 3 1 IntKind.i64 :: []))))) := by kernel_rfl
theorem nf_39 : nfieldsB Try.prog 39 = some 4 := by kernel_rfl
theorem ps_39 : plainStructB Try.prog 39 = false := by kernel_rfl
theorem fi_39_0 : fieldB Try.prog 39 0 = some (0, 2) := by kernel_rfl
theorem fi_39_1 : fieldB Try.prog 39 1 = some (2, 1) := by kernel_rfl
theorem fi_39_2 : fieldB Try.prog 39 2 = some (3, 1) := by kernel_rfl
theorem fi_39_3 : fieldB Try.prog 39 3 = some (4, 1) := by kernel_rfl
theorem sz_50 : szB Try.prog 50 = some 4 := by kernel_rfl
theorem ag_50 : isAggB Try.prog 50 = some true := by kernel_rfl
theorem by_50 : bytesB Try.prog 50 = some 32 := by kernel_rfl
theorem ze_50 : zeroB Try.prog 50 = some ((AV.int IntKind.i64 0) :: ((AV.int IntKind.i64 0) :: ((AV.int IntKind.i64 0) :: ((AV.int IntKind.i64 0) :: [])))) := by kernel_rfl
theorem pl_50 : placesB Try.prog 50 = some ((0, 1) :: ((1, 1) :: ((2, 1) :: ((3, 1) :: [])))) := by kernel_rfl
theorem sh_50 : shapes Try.prog 6 50 = some (Sh.int IntKind.i64 :: (Sh.int IntKind.i64 :: (Sh.int IntKind.i64 :: (Sh.int IntKind.i64 :: [])))) := by kernel_rfl
theorem nf_50 : nfieldsB Try.prog 50 = some 4 := by kernel_rfl
theorem ps_50 : plainStructB Try.prog 50 = true := by kernel_rfl
theorem fi_50_0 : fieldB Try.prog 50 0 = some (0, 1) := by kernel_rfl
theorem fi_50_1 : fieldB Try.prog 50 1 = some (1, 1) := by kernel_rfl
theorem fi_50_2 : fieldB Try.prog 50 2 = some (2, 1) := by kernel_rfl
theorem fi_50_3 : fieldB Try.prog 50 3 = some (3, 1) := by kernel_rfl
theorem sz_53 : szB Try.prog 53 = some 1 := by kernel_rfl
theorem ag_53 : isAggB Try.prog 53 = some false := by kernel_rfl
theorem by_53 : bytesB Try.prog 53 = some 24 := by kernel_rfl
theorem ze_53 : zeroB Try.prog 53 = some (AV.nils :: []) := by kernel_rfl
theorem el_53 : elemB Try.prog 53 = some (76, 2) := by kernel_rfl
theorem sh_53 : shapes Try.prog 6 53 = some (Sh.rows 76 2 IntKind.i64 :: []) := by kernel_rfl
theorem sz_56 : szB Try.prog 56 = some 1 := by kernel_rfl
theorem ag_56 : isAggB Try.prog 56 = some false := by kernel_rfl
theorem by_56 : bytesB Try.prog 56 = some 24 := by kernel_rfl
theorem ze_56 : zeroB Try.prog 56 = some (AV.nils :: []) := by kernel_rfl
theorem el_56 : elemB Try.prog 56 = some (74, 2) := by kernel_rfl
theorem sh_56 : shapes Try.prog 6 56 = some (Sh.rows 74 2 IntKind.i64 :: []) := by kernel_rfl
theorem sz_63 : szB Try.prog 63 = some 1 := by kernel_rfl
theorem ag_63 : isAggB Try.prog 63 = some false := by kernel_rfl
theorem by_63 : bytesB Try.prog 63 = some 8 := by kernel_rfl
theorem sz_65 : szB Try.prog 65 = some 1 := by kernel_rfl
theorem ag_65 : isAggB Try.prog 65 = some false := by kernel_rfl
theorem by_65 : bytesB Try.prog 65 = some 8 := by kernel_rfl
theorem sz_74 : szB Try.prog 74 = some 2 := by kernel_rfl
theorem ag_74 : isAggB Try.prog 74 = some true := by kernel_rfl
theorem by_74 : bytesB Try.prog 74 = some 16 := by kernel_rfl
theorem ze_74 : zeroB Try.prog 74 = some ((AV.int IntKind.i64 0) :: ((AV.int IntKind.i64 0) :: [])) := by kernel_rfl
theorem pl_74 : placesB Try.prog 74 = some ((0, 1) :: ((1, 1) :: [])) := by kernel_rfl
theorem sh_74 : shapes Try.prog 6 74 = some (Sh.int IntKind.i64 :: (Sh.int IntKind.i64 :: [])) := by kernel_rfl
theorem nf_74 : nfieldsB Try.prog 74 = some 2 := by kernel_rfl
theorem ps_74 : plainStructB Try.prog 74 = true := by kernel_rfl
theorem fi_74_0 : fieldB Try.prog 74 0 = some (0, 1) := by kernel_rfl
theorem fi_74_1 : fieldB Try.prog 74 1 = some (1, 1) := by kernel_rfl
theorem sz_76 : szB Try.prog 76 = some 2 := by kernel_rfl
theorem ag_76 : isAggB Try.prog 76 = some true := by kernel_rfl
theorem by_76 : bytesB Try.prog 76 = some 16 := by kernel_rfl
theorem ze_76 : zeroB Try.prog 76 = some ((AV.int IntKind.i64 0) :: ((AV.int IntKind.i64 0) :: [])) := by kernel_rfl
theorem pl_76 : placesB Try.prog 76 = some ((0, 1) :: ((1, 1) :: [])) := by kernel_rfl
theorem sh_76 : shapes Try.prog 6 76 = some (Sh.int IntKind.i64 :: (Sh.int IntKind.i64 :: [])) := by kernel_rfl
theorem nf_76 : nfieldsB Try.prog 76 = some 2 := by kernel_rfl
theorem ps_76 : plainStructB Try.prog 76 = true := by kernel_rfl
theorem fi_76_0 : fieldB Try.prog 76 0 = some (0, 1) := by kernel_rfl
theorem fi_76_1 : fieldB Try.prog 76 1 = some (1, 1) := by kernel_rfl
theorem sz_81 : szB Try.prog 81 = some 3 := by kernel_rfl
theorem ag_81 : isAggB Try.prog 81 = some true := by kernel_rfl
theorem by_81 : bytesB Try.prog 81 = some 40 := by kernel_rfl
theorem ze_81 : zeroB Try.prog 81 = some (AV.nils :: ((AV.int IntKind.i64 0) :: ((AV.int IntKind.i64 0) :: []))) := by kernel_rfl
theorem pl_81 : placesB Try.prog 81 = some ((0, 1) :: ((1, 1) :: ((2, 1) :: []))) := by kernel_rfl
theorem sh_81 : shapes Try.prog 6 81 = some (Sh.rows 5 1 IntKind.u8 :: (Sh.int IntKind.i64 :: (Sh.int IntKind.i64 :: []))) := by kernel_rfl
theorem nf_81 : nfieldsB Try.prog 81 = some 3 := by kernel_rfl
theorem ps_81 : plainStructB Try.prog 81 = false := by kernel_rfl
theorem fi_81_0 : fieldB Try.prog 81 0 = some (0, 1) := by kernel_rfl
theorem fi_81_1 : fieldB Try.prog 81 1 = some (1, 1) := by kernel_rfl
theorem fi_81_2 : fieldB Try.prog 81 2 = some (2, 1) := by kernel_rfl
theorem sz_85 : szB Try.prog 85 = some 1 := by kernel_rfl
theorem ag_85 : isAggB Try.prog 85 = some false := by kernel_rfl
theorem by_85 : bytesB Try.prog 85 = some 8 := by kernel_rfl
theorem sz_93 : szB Try.prog 93 = some 1 := by kernel_rfl
theorem ag_93 : isAggB Try.prog 93 = some false := by kernel_rfl
theorem by_93 : bytesB Try.prog 93 = some 8 := by kernel_rfl
theorem ze_93 : zeroB Try.prog 93 = some ((AV.int IntKind.u64 0) :: []) := by kernel_rfl
theorem in_93 : intB Try.prog 93 = some IntKind.u64 := by kernel_rfl
theorem sh_93 : shapes Try.prog 6 93 = some (Sh.int IntKind.u64 :: []) := by kernel_rfl
theorem sz_96 : szB Try.prog 96 = some 3 := by kernel_rfl
theorem ag_96 : isAggB Try.prog 96 = some true := by kernel_rfl
theorem by_96 : bytesB Try.prog 96 = some 24 := by kernel_rfl
theorem ze_96 : zeroB Try.prog 96 = some ((AV.int IntKind.i64 0) :: ((AV.int IntKind.i64 0) :: ((AV.int IntKind.i64 0) :: []))) := by kernel_rfl
theorem pl_96 : placesB Try.prog 96 = some ((0, 1) :: ((1, 1) :: ((2, 1) :: []))) := by kernel_rfl
theorem sh_96 : shapes Try.prog 6 96 = some (Sh.int IntKind.i64 :: (Sh.int IntKind.i64 :: (Sh.int IntKind.i64 :: []))) := by kernel_rfl
theorem nf_96 : nfieldsB Try.prog 96 = some 3 := by kernel_rfl
theorem ps_96 : plainStructB Try.prog 96 = true := by kernel_rfl
theorem fi_96_0 : fieldB Try.prog 96 0 = some (0, 1) := by kernel_rfl
theorem fi_96_1 : fieldB Try.prog 96 1 = some (1, 1) := by kernel_rfl
theorem fi_96_2 : fieldB Try.prog 96 2 = some (2, 1) := by kernel_rfl
theorem sz_100 : szB Try.prog 100 = some 3 := by kernel_rfl
theorem ag_100 : isAggB Try.prog 100 = some true := by kernel_rfl
theorem by_100 : bytesB Try.prog 100 = some 24 := by kernel_rfl
theorem ze_100 : zeroB Try.prog 100 = some ((AV.int IntKind.i64 0) :: ((AV.int IntKind.i64 0) :: ((AV.int IntKind.i64 0) :: []))) := by kernel_rfl
theorem pl_100 : placesB Try.prog 100 = some ((0, 1) :: ((1, 1) :: ((2, 1) :: []))) := by kernel_rfl
theorem sh_100 : shapes Try.prog 6 100 = some (Sh.int IntKind.i64 :: (Sh.int IntKind.i64 :: (Sh.int IntKind.i64 :: []))) := by kernel_rfl
theorem nf_100 : nfieldsB Try.prog 100 = some 3 := by kernel_rfl
theorem ps_100 : plainStructB Try.prog 100 = true := by kernel_rfl
theorem fi_100_0 : fieldB Try.prog 100 0 = some (0, 1) := by kernel_rfl
theorem fi_100_1 : fieldB Try.prog 100 1 = some (1, 1) := by kernel_rfl
theorem fi_100_2 : fieldB Try.prog 100 2 = some (2, 1) := by kernel_rfl
theorem sz_109 : szB Try.prog 109 = some 1 := by kernel_rfl
theorem ag_109 : isAggB Try.prog 109 = some false := by kernel_rfl
theorem by_109 : bytesB Try.prog 109 = some 8 := by kernel_rfl
end Go.Proofs.Ytgkmijnhhopacab
