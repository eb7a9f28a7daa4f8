/- Facts of the types that the functions name, each read off the table; no conditions. -/
import Derived.Test.YtaalpmbopkbdiaaAbS
import Derived.Test.YtaalpmbopkbdiaaProg
namespace Go.Proofs.Ytaalpmbopkbdiaa
open Go
theorem hm : Try.prog.follows .mixedOrders = true := by kernel_rfl
theorem sz_3 : szB Try.prog 3 = some 1 := by kernel_rfl
theorem ag_3 : isAggB Try.prog 3 = some false := by kernel_rfl
theorem by_3 : bytesB Try.prog 3 = some 8 := by kernel_rfl
theorem ze_3 : zeroB Try.prog 3 = some ((AV.int IntKind.i64 0) :: []) := by kernel_rfl
theorem in_3 : intB Try.prog 3 = some IntKind.i64 := by kernel_rfl
theorem en_3 : elemB Try.prog 3 = none := by kernel_rfl
theorem sh_3 : shapes Try.prog 6 3 = some (Sh.int IntKind.i64 :: []) := by kernel_rfl
theorem sz_4 : szB Try.prog 4 = some 1 := by kernel_rfl
theorem ag_4 : isAggB Try.prog 4 = some false := by kernel_rfl
theorem by_4 : bytesB Try.prog 4 = some 1 := by kernel_rfl
theorem ze_4 : zeroB Try.prog 4 = some ((AV.bool false) :: []) := by kernel_rfl
theorem bo_4 : boolB Try.prog 4 = true := by kernel_rfl
theorem sz_5 : szB Try.prog 5 = some 1 := by kernel_rfl
theorem ag_5 : isAggB Try.prog 5 = some false := by kernel_rfl
theorem by_5 : bytesB Try.prog 5 = some 1 := by kernel_rfl
theorem ze_5 : zeroB Try.prog 5 = some ((AV.int IntKind.u8 0) :: []) := by kernel_rfl
theorem in_5 : intB Try.prog 5 = some IntKind.u8 := by kernel_rfl
theorem en_5 : elemB Try.prog 5 = none := by kernel_rfl
theorem sh_5 : shapes Try.prog 6 5 = some (Sh.int IntKind.u8 :: []) := by kernel_rfl
theorem sz_22 : szB Try.prog 22 = some 1 := by kernel_rfl
theorem ag_22 : isAggB Try.prog 22 = some false := by kernel_rfl
theorem by_22 : bytesB Try.prog 22 = some 24 := by kernel_rfl
theorem ze_22 : zeroB Try.prog 22 = some (AV.nils :: []) := by kernel_rfl
theorem el_22 : elemB Try.prog 22 = some (5, 1) := by kernel_rfl
theorem sh_22 : shapes Try.prog 6 22 = some (Sh.rows 5 1 IntKind.u8 :: []) := by kernel_rfl
theorem sz_24 : szB Try.prog 24 = some 1 := by kernel_rfl
theorem ag_24 : isAggB Try.prog 24 = some false := by kernel_rfl
theorem by_24 : bytesB Try.prog 24 = some 24 := by kernel_rfl
theorem ze_24 : zeroB Try.prog 24 = some (AV.nils :: []) := by kernel_rfl
theorem el_24 : elemB Try.prog 24 = some (63, 3) := by kernel_rfl
theorem sh_24 : shapes Try.prog 6 24 = some (Sh.rows 63 3 IntKind.i64 :: []) := by kernel_rfl
theorem sz_26 : szB Try.prog 26 = some 2 := by kernel_rfl
theorem ag_26 : isAggB Try.prog 26 = some true := by kernel_rfl
theorem by_26 : bytesB Try.prog 26 = some 32 := by kernel_rfl
theorem ze_26 : zeroB Try.prog 26 = some ((AV.int IntKind.i64 0) :: (AV.nils :: [])) := by kernel_rfl
theorem pl_26 : placesB Try.prog 26 = some ((0, 1) :: ((1, 1) :: [])) := by kernel_rfl
theorem sh_26 : shapes Try.prog 6 26 = some (Sh.int IntKind.i64 :: (Sh.rows 63 3 IntKind.i64 :: [])) := by kernel_rfl
theorem nf_26 : nfieldsB Try.prog 26 = some 2 := by kernel_rfl
theorem ps_26 : plainStructB Try.prog 26 = false := by kernel_rfl
theorem fi_26_0 : fieldB Try.prog 26 0 = some (0, 1) := by kernel_rfl
theorem fi_26_1 : fieldB Try.prog 26 1 = some (1, 1) := by kernel_rfl
theorem sz_27 : szB Try.prog 27 = some 1 := by kernel_rfl
theorem ag_27 : isAggB Try.prog 27 = some false := by kernel_rfl
theorem by_27 : bytesB Try.prog 27 = some 24 := by kernel_rfl
theorem ze_27 : zeroB Try.prog 27 = some (AV.nils :: []) := by kernel_rfl
theorem el_27 : elemB Try.prog 27 = some (3, 1) := by kernel_rfl
theorem sh_27 : shapes Try.prog 6 27 = some (Sh.rows 3 1 IntKind.i64 :: []) := by kernel_rfl
theorem sz_29 : szB Try.prog 29 = some 5 := by kernel_rfl
theorem ag_29 : isAggB Try.prog 29 = some true := by kernel_rfl
theorem by_29 : bytesB Try.prog 29 = some 104 := by kernel_rfl
theorem ze_29 : zeroB Try.prog 29 = some ((AV.int IntKind.i64 0) :: (AV.nils :: (AV.nils :: (AV.nils :: (AV.nils :: []))))) := by kernel_rfl
theorem pl_29 : placesB Try.prog 29 = some ((0, 2) :: ((2, 1) :: ((3, 1) :: ((4, 1) :: [])))) := by kernel_rfl
theorem sh_29 : shapes Try.prog 6 29 = some (Sh.int IntKind.i64 :: (Sh.rows 63 3 IntKind.i64 :: (Sh.rows 3 1 IntKind.i64 :: (Sh.rows 3 1 IntKind.i64 :: (Sh.rows 3 1 IntKind.i64 :: []))))) := by kernel_rfl
theorem nf_29 : nfieldsB Try.prog 29 = some 4 := by kernel_rfl
theorem ps_29 : plainStructB Try.prog 29 = false := by kernel_rfl
theorem fi_29_0 : fieldB Try.prog 29 0 = some (0, 2) := by kernel_rfl
theorem fi_29_1 : fieldB Try.prog 29 1 = some (2, 1) := by kernel_rfl
theorem fi_29_2 : fieldB Try.prog 29 2 = some (3, 1) := by kernel_rfl
theorem fi_29_3 : fieldB Try.prog 29 3 = some (4, 1) := by kernel_rfl
theorem sz_35 : szB Try.prog 35 = some 1 := by kernel_rfl
theorem ag_35 : isAggB Try.prog 35 = some false := by kernel_rfl
theorem by_35 : bytesB Try.prog 35 = some 24 := by kernel_rfl
theorem ze_35 : zeroB Try.prog 35 = some (AV.nils :: []) := by kernel_rfl
theorem el_35 : elemB Try.prog 35 = some (121, 3) := by kernel_rfl
theorem sh_35 : shapes Try.prog 6 35 = some (Sh.rows 121 3 IntKind.i64 :: []) := by kernel_rfl
theorem sz_37 : szB Try.prog 37 = some 2 := by kernel_rfl
theorem ag_37 : isAggB Try.prog 37 = some true := by kernel_rfl
theorem by_37 : bytesB Try.prog 37 = some 32 := by kernel_rfl
theorem ze_37 : zeroB Try.prog 37 = some ((AV.int IntKind.i64 0) :: (AV.nils :: [])) := by kernel_rfl
theorem pl_37 : placesB Try.prog 37 = some ((0, 1) :: ((1, 1) :: [])) := by kernel_rfl
theorem sh_37 : shapes Try.prog 6 37 = some (Sh.int IntKind.i64 :: (Sh.rows 121 3 IntKind.i64 :: [])) := by kernel_rfl
theorem nf_37 : nfieldsB Try.prog 37 = some 2 := by kernel_rfl
theorem ps_37 : plainStructB Try.prog 37 = false := by kernel_rfl
theorem fi_37_0 : fieldB Try.prog 37 0 = some (0, 1) := by kernel_rfl
theorem fi_37_1 : fieldB Try.prog 37 1 = some (1, 1) := by kernel_rfl
theorem sz_39 : szB Try.prog 39 = some 5 := by kernel_rfl
theorem ag_39 : isAggB Try.prog 39 = some true := by kernel_rfl
theorem by_39 : bytesB Try.prog 39 = some 104 := by kernel_rfl
theorem ze_39 : zeroB Try.prog 39 = some ((AV.int IntKind.i64 0) :: (AV.nils :: (AV.nils :: (AV.nils :: (AV.nils :: []))))) := by kernel_rfl
theorem pl_39 : placesB Try.prog 39 = some ((0, 2) :: ((2, 1) :: ((3, 1) :: ((4, 1) :: [])))) := by kernel_rfl
theorem sh_39 : shapes Try.prog 6 39 = some (Sh.int IntKind.i64 :: (Sh.rows 121 3 IntKind.i64 :: (Sh.rows 3 1 IntKind.i64 :: (Sh.rows 3 1 IntKind.i64 :: (Sh.rows 3 1 IntKind.i64 :: []))))) := by kernel_rfl
theorem nf_39 : nfieldsB Try.prog 39 = some 4 := by kernel_rfl
theorem ps_39 : plainStructB Try.prog 39 = false := by kernel_rfl
theorem fi_39_0 : fieldB Try.prog 39 0 = some (0, 2) := by kernel_rfl
theorem fi_39_1 : fieldB Try.prog 39 1 = some (2, 1) := by kernel_rfl
theorem fi_39_2 : fieldB Try.prog 39 2 = some (3, 1) := by kernel_rfl
theorem fi_39_3 : fieldB Try.prog 39 3 = some (4, 1) := by kernel_rfl
theorem sz_40 : szB Try.prog 40 = some 1 := by kernel_rfl
theorem ag_40 : isAggB Try.prog 40 = some false := by kernel_rfl
theorem by_40 : bytesB Try.prog 40 = some 24 := by kernel_rfl
theorem ze_40 : zeroB Try.prog 40 = some (AV.nils :: []) := by kernel_rfl
theorem el_40 : elemB Try.prog 40 = some (80, 2) := by kernel_rfl
theorem sh_40 : shapes Try.prog 6 40 = some (Sh.rows 80 2 IntKind.i64 :: []) := by kernel_rfl
theorem sz_45 : szB Try.prog 45 = some 1 := by kernel_rfl
theorem ag_45 : isAggB Try.prog 45 = some false := by kernel_rfl
theorem by_45 : bytesB Try.prog 45 = some 24 := by kernel_rfl
theorem ze_45 : zeroB Try.prog 45 = some (AV.nils :: []) := by kernel_rfl
theorem el_45 : elemB Try.prog 45 = some (76, 2) := by kernel_rfl
theorem sh_45 : shapes Try.prog 6 45 = some (Sh.rows 76 2 IntKind.i64 :: []) := by kernel_rfl
theorem sz_63 : szB Try.prog 63 = some 3 := by kernel_rfl
theorem ag_63 : isAggB Try.prog 63 = some true := by kernel_rfl
theorem by_63 : bytesB Try.prog 63 = some 24 := by kernel_rfl
theorem ze_63 : zeroB Try.prog 63 = some ((AV.int IntKind.i64 0) :: ((AV.int IntKind.i64 0) :: ((AV.int IntKind.i64 0) :: []))) := by kernel_rfl
theorem pl_63 : placesB Try.prog 63 = some ((0, 1) :: ((1, 1) :: ((2, 1) :: []))) := by kernel_rfl
theorem sh_63 : shapes Try.prog 6 63 = some (Sh.int IntKind.i64 :: (Sh.int IntKind.i64 :: (Sh.int IntKind.i64 :: []))) := by kernel_rfl
theorem nf_63 : nfieldsB Try.prog 63 = some 3 := by kernel_rfl
theorem ps_63 : plainStructB Try.prog 63 = true := by kernel_rfl
theorem fi_63_0 : fieldB Try.prog 63 0 = some (0, 1) := by kernel_rfl
theorem fi_63_1 : fieldB Try.prog 63 1 = some (1, 1) := by kernel_rfl
theorem fi_63_2 : fieldB Try.prog 63 2 = some (2, 1) := by kernel_rfl
theorem sz_66 : szB Try.prog 66 = some 1 := by kernel_rfl
theorem ag_66 : isAggB Try.prog 66 = some false := by kernel_rfl
theorem by_66 : bytesB Try.prog 66 = some 8 := by kernel_rfl
theorem sz_74 : szB Try.prog 74 = some 1 := by kernel_rfl
theorem ag_74 : isAggB Try.prog 74 = some false := by kernel_rfl
theorem by_74 : bytesB Try.prog 74 = some 24 := by kernel_rfl
theorem ze_74 : zeroB Try.prog 74 = some (AV.nils :: []) := by kernel_rfl
theorem el_74 : elemB Try.prog 74 = some (4, 1) := by kernel_rfl
theorem sz_76 : szB Try.prog 76 = some 2 := by kernel_rfl
theorem ag_76 : isAggB Try.prog 76 = some true := by kernel_rfl
theorem by_76 : bytesB Try.prog 76 = some 16 := by kernel_rfl
theorem ze_76 : zeroB Try.prog 76 = some ((AV.int IntKind.i64 0) :: ((AV.int IntKind.i64 0) :: [])) := by kernel_rfl
theorem pl_76 : placesB Try.prog 76 = some ((0, 1) :: ((1, 1) :: [])) := by kernel_rfl
theorem sh_76 : shapes Try.prog 6 76 = some (Sh.int IntKind.i64 :: (Sh.int IntKind.i64 :: [])) := by kernel_rfl
theorem nf_76 : nfieldsB Try.prog 76 = some 2 := by kernel_rfl
theorem ps_76 : plainStructB Try.prog 76 = true := by kernel_rfl
theorem fi_76_0 : fieldB Try.prog 76 0 = some (0, 1) := by kernel_rfl
theorem fi_76_1 : fieldB Try.prog 76 1 = some (1, 1) := by kernel_rfl
theorem sz_80 : szB Try.prog 80 = some 2 := by kernel_rfl
theorem ag_80 : isAggB Try.prog 80 = some true := by kernel_rfl
theorem by_80 : bytesB Try.prog 80 = some 16 := by kernel_rfl
theorem ze_80 : zeroB Try.prog 80 = some ((AV.int IntKind.i64 0) :: ((AV.int IntKind.i64 0) :: [])) := by kernel_rfl
theorem pl_80 : placesB Try.prog 80 = some ((0, 1) :: ((1, 1) :: [])) := by kernel_rfl
theorem sh_80 : shapes Try.prog 6 80 = some (Sh.int IntKind.i64 :: (Sh.int IntKind.i64 :: [])) := by kernel_rfl
theorem nf_80 : nfieldsB Try.prog 80 = some 2 := by kernel_rfl
theorem ps_80 : plainStructB Try.prog 80 = true := by kernel_rfl
theorem fi_80_0 : fieldB Try.prog 80 0 = some (0, 1) := by kernel_rfl
theorem fi_80_1 : fieldB Try.prog 80 1 = some (1, 1) := by kernel_rfl
theorem sz_81 : szB Try.prog 81 = some 1 := by kernel_rfl
theorem ag_81 : isAggB Try.prog 81 = some false := by kernel_rfl
theorem by_81 : bytesB Try.prog 81 = some 24 := by kernel_rfl
theorem ze_81 : zeroB Try.prog 81 = some (AV.nils :: []) := by kernel_rfl
theorem el_81 : elemB Try.prog 81 = some (27, 1) := by kernel_rfl
theorem sz_93 : szB Try.prog 93 = some 1 := by kernel_rfl
theorem ag_93 : isAggB Try.prog 93 = some false := by kernel_rfl
theorem by_93 : bytesB Try.prog 93 = some 8 := by kernel_rfl
theorem sz_100 : szB Try.prog 100 = some 1 := by kernel_rfl
theorem ag_100 : isAggB Try.prog 100 = some false := by kernel_rfl
theorem by_100 : bytesB Try.prog 100 = some 8 := by kernel_rfl
theorem sz_105 : szB Try.prog 105 = some 3 := by kernel_rfl
theorem ag_105 : isAggB Try.prog 105 = some true := by kernel_rfl
theorem by_105 : bytesB Try.prog 105 = some 40 := by kernel_rfl
theorem ze_105 : zeroB Try.prog 105 = some (AV.nils :: ((AV.int IntKind.i64 0) :: ((AV.int IntKind.i64 0) :: []))) := by kernel_rfl
theorem pl_105 : placesB Try.prog 105 = some ((0, 1) :: ((1, 1) :: ((2, 1) :: []))) := by kernel_rfl
theorem sh_105 : shapes Try.prog 6 105 = some (Sh.rows 5 1 IntKind.u8 :: (Sh.int IntKind.i64 :: (Sh.int IntKind.i64 :: []))) := by kernel_rfl
theorem nf_105 : nfieldsB Try.prog 105 = some 3 := by kernel_rfl
theorem ps_105 : plainStructB Try.prog 105 = false := by kernel_rfl
theorem fi_105_0 : fieldB Try.prog 105 0 = some (0, 1) := by kernel_rfl
theorem fi_105_1 : fieldB Try.prog 105 1 = some (1, 1) := by kernel_rfl
theorem fi_105_2 : fieldB Try.prog 105 2 = some (2, 1) := by kernel_rfl
theorem sz_116 : szB Try.prog 116 = some 1 := by kernel_rfl
theorem ag_116 : isAggB Try.prog 116 = some false := by kernel_rfl
theorem by_116 : bytesB Try.prog 116 = some 8 := by kernel_rfl
theorem sz_121 : szB Try.prog 121 = some 3 := by kernel_rfl
theorem ag_121 : isAggB Try.prog 121 = some true := by kernel_rfl
theorem by_121 : bytesB Try.prog 121 = some 24 := by kernel_rfl
theorem ze_121 : zeroB Try.prog 121 = some ((AV.int IntKind.i64 0) :: ((AV.int IntKind.i64 0) :: ((AV.int IntKind.i64 0) :: []))) := by kernel_rfl
theorem pl_121 : placesB Try.prog 121 = some ((0, 1) :: ((1, 1) :: ((2, 1) :: []))) := by kernel_rfl
theorem sh_121 : shapes Try.prog 6 121 = some (Sh.int IntKind.i64 :: (Sh.int IntKind.i64 :: (Sh.int IntKind.i64 :: []))) := by kernel_rfl
theorem nf_121 : nfieldsB Try.prog 121 = some 3 := by kernel_rfl
theorem ps_121 : plainStructB Try.prog 121 = true := by kernel_rfl
theorem fi_121_0 : fieldB Try.prog 121 0 = some (0, 1) := by kernel_rfl
theorem fi_121_1 : fieldB Try.prog 121 1 = some (1, 1) := by kernel_rfl
theorem fi_121_2 : fieldB Try.prog 121 2 = some (2, 1) := by kernel_rfl
theorem sz_123 : szB Try.prog 123 = some 1 := by kernel_rfl
theorem ag_123 : isAggB Try.prog 123 = some false := by kernel_rfl
theorem by_123 : bytesB Try.prog 123 = some 8 := by kernel_rfl
theorem sz_126 : szB Try.prog 126 = some 1 := by kernel_rfl
theorem ag_126 : isAggB Try.prog 126 = some false := by kernel_rfl
theorem by_126 : bytesB Try.prog 126 = some 8 := by kernel_rfl
theorem mb_126 : mapB Try.prog 126 = some (63, 3) := by kernel_rfl
theorem sz_128 : szB Try.prog 128 = some 1 := by kernel_rfl
theorem ag_128 : isAggB Try.prog 128 = some false := by kernel_rfl
theorem by_128 : bytesB Try.prog 128 = some 8 := by kernel_rfl
theorem ze_128 : zeroB Try.prog 128 = some ((AV.int IntKind.u64 0) :: []) := by kernel_rfl
theorem in_128 : intB Try.prog 128 = some IntKind.u64 := by kernel_rfl
theorem en_128 : elemB Try.prog 128 = none := by kernel_rfl
theorem sh_128 : shapes Try.prog 6 128 = some (Sh.int IntKind.u64 :: []) := by kernel_rfl
theorem sz_136 : szB Try.prog 136 = some 3 := by kernel_rfl
theorem ag_136 : isAggB Try.prog 136 = some true := by kernel_rfl
theorem by_136 : bytesB Try.prog 136 = some 24 := by kernel_rfl
theorem ze_136 : zeroB Try.prog 136 = some ((AV.int IntKind.i64 0) :: ((AV.int IntKind.i64 0) :: ((AV.int IntKind.i64 0) :: []))) := by kernel_rfl
theorem pl_136 : placesB Try.prog 136 = some ((0, 1) :: ((1, 1) :: ((2, 1) :: []))) := by kernel_rfl
theorem sh_136 : shapes Try.prog 6 136 = some (Sh.int IntKind.i64 :: (Sh.int IntKind.i64 :: (Sh.int IntKind.i64 :: []))) := by kernel_rfl
theorem nf_136 : nfieldsB Try.prog 136 = some 3 := by kernel_rfl
theorem ps_136 : plainStructB Try.prog 136 = true := by kernel_rfl
theorem fi_136_0 : fieldB Try.prog 136 0 = some (0, 1) := by kernel_rfl
theorem fi_136_1 : fieldB Try.prog 136 1 = some (1, 1) := by kernel_rfl
theorem fi_136_2 : fieldB Try.prog 136 2 = some (2, 1) := by kernel_rfl
theorem sz_146 : szB Try.prog 146 = some 1 := by kernel_rfl
theorem ag_146 : isAggB Try.prog 146 = some false := by kernel_rfl
theorem by_146 : bytesB Try.prog 146 = some 8 := by kernel_rfl
theorem sz_151 : szB Try.prog 151 = some 1 := by kernel_rfl
theorem ag_151 : isAggB Try.prog 151 = some false := by kernel_rfl
theorem by_151 : bytesB Try.prog 151 = some 8 := by kernel_rfl
theorem sz_154 : szB Try.prog 154 = some 1 := by kernel_rfl
theorem ag_154 : isAggB Try.prog 154 = some false := by kernel_rfl
theorem by_154 : bytesB Try.prog 154 = some 8 := by kernel_rfl
end Go.Proofs.Ytaalpmbopkbdiaa
