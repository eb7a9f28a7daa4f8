/- Facts of the types that the functions name, each read off the table; no conditions. -/
import Derived.Test.YtdcecoddecghdaaAbS
import Derived.Test.YtdcecoddecghdaaProg
namespace Go.Proofs.Ytdcecoddecghdaa
open Go
theorem hm : Try.prog.follows .mixedOrders = true := by kernel_rfl
theorem sz_3 : szB Try.prog 3 = some 1 := by kernel_rfl
theorem ag_3 : isAggB Try.prog 3 = some false := by kernel_rfl
theorem by_3 : bytesB Try.prog 3 = some 8 := by kernel_rfl
theorem ze_3 : zeroB Try.prog 3 = some ((AV.int IntKind.i64 0) :: []) := by kernel_rfl
theorem in_3 : intB Try.prog 3 = some IntKind.i64 := by kernel_rfl
theorem sh_3 : shapes Try.prog 6 3 = some (Sh.int IntKind.i64 :: []) := by kernel_rfl
theorem sz_4 : szB Try.prog 4 = some 1 := by kernel_rfl
theorem ag_4 : isAggB Try.prog 4 = some false := by kernel_rfl
theorem by_4 : bytesB Try.prog 4 = some 1 := by kernel_rfl
theorem ze_4 : zeroB Try.prog 4 = some ((AV.bool false) :: []) := by kernel_rfl
theorem bo_4 : boolB Try.prog 4 = true := by kernel_rfl
theorem sz_5 : szB Try.prog 5 = some 1 := by kernel_rfl
theorem ag_5 : isAggB Try.prog 5 = some false := by kernel_rfl
theorem by_5 : bytesB Try.prog 5 = some 1 := by kernel_rfl
theorem ze_5 : zeroB Try.prog 5 = some ((AV.int IntKind.u8 0) :: []) := by kernel_rfl
theorem in_5 : intB Try.prog 5 = some IntKind.u8 := by kernel_rfl
theorem sh_5 : shapes Try.prog 6 5 = some (Sh.int IntKind.u8 :: []) := by kernel_rfl
theorem sz_22 : szB Try.prog 22 = some 1 := by kernel_rfl
theorem ag_22 : isAggB Try.prog 22 = some false := by kernel_rfl
theorem by_22 : bytesB Try.prog 22 = some 24 := by kernel_rfl
theorem ze_22 : zeroB Try.prog 22 = some (AV.nils :: []) := by kernel_rfl
theorem el_22 : elemB Try.prog 22 = some (5, 1) := by kernel_rfl
theorem sh_22 : shapes Try.prog 6 22 = some (Sh.rows 5 1 IntKind.u8 :: []) := by kernel_rfl
theorem sz_24 : szB Try.prog 24 = some 1 := by kernel_rfl
theorem ag_24 : isAggB Try.prog 24 = some false := by kernel_rfl
theorem by_24 : bytesB Try.prog 24 = some 24 := by kernel_rfl
theorem ze_24 : zeroB Try.prog 24 = some (AV.nils :: []) := by kernel_rfl
theorem el_24 : elemB Try.prog 24 = some (3, 1) := by kernel_rfl
theorem sh_24 : shapes Try.prog 6 24 = some (Sh.rows 3 1 IntKind.i64 :: []) := by kernel_rfl
theorem sz_29 : szB Try.prog 29 = some 1 := by kernel_rfl
theorem ag_29 : isAggB Try.prog 29 = some false := by kernel_rfl
theorem by_29 : bytesB Try.prog 29 = some 24 := by kernel_rfl
theorem ze_29 : zeroB Try.prog 29 = some (AV.nils :: []) := by kernel_rfl
theorem el_29 : elemB Try.prog 29 = some (104, 3) := by kernel_rfl
theorem sh_29 : shapes Try.prog 6 29 = some (Sh.rows 104 3 IntKind.i64 :: []) := by kernel_rfl
theorem sz_31 : szB Try.prog 31 = some 2 := by kernel_rfl
theorem ag_31 : isAggB Try.prog 31 = some true := by kernel_rfl
theorem by_31 : bytesB Try.prog 31 = some 32 := by kernel_rfl
theorem ze_31 : zeroB Try.prog 31 = some ((AV.int IntKind.i64 0) :: (AV.nils :: [])) := by kernel_rfl
theorem pl_31 : placesB Try.prog 31 = some ((0, 1) :: ((1, 1) :: [])) := by kernel_rfl
theorem sh_31 : shapes Try.prog 6 31 = some (Sh.int IntKind.i64 :: (Sh.rows 104 3 IntKind.i64 :: [])) := by kernel_rfl
theorem nf_31 : nfieldsB Try.prog 31 = some 2 := by kernel_rfl
theorem ps_31 : plainStructB Try.prog 31 = false := by kernel_rfl
theorem fi_31_0 : fieldB Try.prog 31 0 = some (0, 1) := by kernel_rfl
theorem fi_31_1 : fieldB Try.prog 31 1 = some (1, 1) := by kernel_rfl
theorem sz_34 : szB Try.prog 34 = some 1 := by kernel_rfl
theorem ag_34 : isAggB Try.prog 34 = some false := by kernel_rfl
theorem by_34 : bytesB Try.prog 34 = some 24 := by kernel_rfl
theorem ze_34 : zeroB Try.prog 34 = some (AV.nils :: []) := by kernel_rfl
theorem el_34 : elemB Try.prog 34 = some (77, 3) := by kernel_rfl
theorem sh_34 : shapes Try.prog 6 34 = some (Sh.rows 77 3 IntKind.i64 :: []) := by kernel_rfl
theorem sz_36 : szB Try.prog 36 = some 2 := by kernel_rfl
theorem ag_36 : isAggB Try.prog 36 = some true := by kernel_rfl
theorem by_36 : bytesB Try.prog 36 = some 32 := by kernel_rfl
theorem ze_36 : zeroB Try.prog 36 = some ((AV.int IntKind.i64 0) :: (AV.nils :: [])) := by kernel_rfl
theorem pl_36 : placesB Try.prog 36 = some ((0, 1) :: ((1, 1) :: [])) := by kernel_rfl
theorem sh_36 : shapes Try.prog 6 36 = some (Sh.int IntKind.i64 :: (Sh.rows 77 3 IntKind.i64 :: [])) := by kernel_rfl
theorem nf_36 : nfieldsB Try.prog 36 = some 2 := by kernel_rfl
theorem ps_36 : plainStructB Try.prog 36 = false := by kernel_rfl
theorem fi_36_0 : fieldB Try.prog 36 0 = some (0, 1) := by kernel_rfl
theorem fi_36_1 : fieldB Try.prog 36 1 = some (1, 1) := by kernel_rfl
theorem sz_46 : szB Try.prog 46 = some 1 := by kernel_rfl
theorem ag_46 : isAggB Try.prog 46 = some false := by kernel_rfl
theorem by_46 : bytesB Try.prog 46 = some 24 := by kernel_rfl
theorem ze_46 : zeroB Try.prog 46 = some (AV.nils :: []) := by kernel_rfl
theorem el_46 : elemB Try.prog 46 = some (87, 2) := by kernel_rfl
theorem sh_46 : shapes Try.prog 6 46 = some (Sh.rows 87 2 IntKind.i64 :: []) := by kernel_rfl
theorem sz_50 : szB Try.prog 50 = some 1 := by kernel_rfl
theorem ag_50 : isAggB Try.prog 50 = some false := by kernel_rfl
theorem by_50 : bytesB Try.prog 50 = some 24 := by kernel_rfl
theorem ze_50 : zeroB Try.prog 50 = some (AV.nils :: []) := by kernel_rfl
theorem el_50 : elemB Try.prog 50 = some (90, 2) := by kernel_rfl
theorem sh_50 : shapes Try.prog 6 50 = some (Sh.rows 90 2 IntKind.i64 :: []) := by kernel_rfl
theorem sz_56 : szB Try.prog 56 = some 5 := by kernel_rfl
theorem ag_56 : isAggB Try.prog 56 = some true := by kernel_rfl
theorem by_56 : bytesB Try.prog 56 = some 104 := by kernel_rfl
theorem ze_56 : zeroB Try.prog 56 = some ((AV.int IntKind.i64 0) :: (AV.nils :: (AV.nils :: (AV.nils :: (AV.nils :: []))))) := by kernel_rfl
theorem pl_56 : placesB Try.prog 56 = some ((0, 2) :: ((2, 1) :: ((3, 1) :: ((4, 1) :: [])))) := by kernel_rfl
theorem sh_56 : shapes Try.prog 6 56 = some (Sh.int IntKind.i64 :: (Sh.rows 104 3 IntKind.i64 :: (Sh.rows 3 1 IntKind.i64 :: (Sh.rows 3 1 IntKind.i64 :: (Sh.rows 3 1 IntKind.i64 :: []))))) := by kernel_rfl
theorem nf_56 : nfieldsB Try.prog 56 = some 4 := by kernel_rfl
theorem ps_56 : plainStructB Try.prog 56 = false := by kernel_rfl
theorem fi_56_0 : fieldB Try.prog 56 0 = some (0, 2) := by kernel_rfl
theorem fi_56_1 : fieldB Try.prog 56 1 = some (2, 1) := by kernel_rfl
theorem fi_56_2 : fieldB Try.prog 56 2 = some (3, 1) := by kernel_rfl
theorem fi_56_3 : fieldB Try.prog 56 3 = some (4, 1) := by kernel_rfl
theorem sz_60 : szB Try.prog 60 = some 5 := by kernel_rfl
theorem ag_60 : isAggB Try.prog 60 = some true := by kernel_rfl
theorem by_60 : bytesB Try.prog 60 = some 104 := by kernel_rfl
theorem ze_60 : zeroB Try.prog 60 = some ((AV.int IntKind.i64 0) :: (AV.nils :: (AV.nils :: (AV.nils :: (AV.nils :: []))))) := by kernel_rfl
theorem pl_60 : placesB Try.prog 60 = some ((0, 2) :: ((2, 1) :: ((3, 1) :: ((4, 1) :: [])))) := by kernel_rfl
theorem sh_60 : shapes Try.prog 6 60 = some (Sh.int IntKind.i64 :: (Sh.rows 77 3 IntKind.i64 :: (Sh.rows 3 1 IntKind.i64 :: (Sh.rows 3 1 IntKind.i64 :: (Sh.rows 3 1 IntKind.i64 :: []))))) := by kernel_rfl
theorem nf_60 : nfieldsB Try.prog 60 = some 4 := by kernel_rfl
theorem ps_60 : plainStructB Try.prog 60 = false := by kernel_rfl
theorem fi_60_0 : fieldB Try.prog 60 0 = some (0, 2) := by kernel_rfl
theorem fi_60_1 : fieldB Try.prog 60 1 = some (2, 1) := by kernel_rfl
theorem fi_60_2 : fieldB Try.prog 60 2 = some (3, 1) := by kernel_rfl
theorem fi_60_3 : fieldB Try.prog 60 3 = some (4, 1) := by kernel_rfl
theorem sz_66 : szB Try.prog 66 = some 1 := by kernel_rfl
theorem ag_66 : isAggB Try.prog 66 = some false := by kernel_rfl
theorem by_66 : bytesB Try.prog 66 = some 8 := by kernel_rfl
theorem sz_77 : szB Try.prog 77 = some 3 := by kernel_rfl
theorem ag_77 : isAggB Try.prog 77 = some true := by kernel_rfl
theorem by_77 : bytesB Try.prog 77 = some 24 := by kernel_rfl
theorem ze_77 : zeroB Try.prog 77 = some ((AV.int IntKind.i64 0) :: ((AV.int IntKind.i64 0) :: ((AV.int IntKind.i64 0) :: []))) := by kernel_rfl
theorem pl_77 : placesB Try.prog 77 = some ((0, 1) :: ((1, 1) :: ((2, 1) :: []))) := by kernel_rfl
theorem sh_77 : shapes Try.prog 6 77 = some (Sh.int IntKind.i64 :: (Sh.int IntKind.i64 :: (Sh.int IntKind.i64 :: []))) := by kernel_rfl
theorem nf_77 : nfieldsB Try.prog 77 = some 3 := by kernel_rfl
theorem ps_77 : plainStructB Try.prog 77 = true := by kernel_rfl
theorem fi_77_0 : fieldB Try.prog 77 0 = some (0, 1) := by kernel_rfl
theorem fi_77_1 : fieldB Try.prog 77 1 = some (1, 1) := by kernel_rfl
theorem fi_77_2 : fieldB Try.prog 77 2 = some (2, 1) := by kernel_rfl
theorem sz_80 : szB Try.prog 80 = some 1 := by kernel_rfl
theorem ag_80 : isAggB Try.prog 80 = some false := by kernel_rfl
theorem by_80 : bytesB Try.prog 80 = some 8 := by kernel_rfl
theorem sz_87 : szB Try.prog 87 = some 2 := by kernel_rfl
theorem ag_87 : isAggB Try.prog 87 = some true := by kernel_rfl
theorem by_87 : bytesB Try.prog 87 = some 16 := by kernel_rfl
theorem ze_87 : zeroB Try.prog 87 = some ((AV.int IntKind.i64 0) :: ((AV.int IntKind.i64 0) :: [])) := by kernel_rfl
theorem pl_87 : placesB Try.prog 87 = some ((0, 1) :: ((1, 1) :: [])) := by kernel_rfl
theorem sh_87 : shapes Try.prog 6 87 = some (Sh.int IntKind.i64 :: (Sh.int IntKind.i64 :: [])) := by kernel_rfl
theorem nf_87 : nfieldsB Try.prog 87 = some 2 := by kernel_rfl
theorem ps_87 : plainStructB Try.prog 87 = true := by kernel_rfl
theorem fi_87_0 : fieldB Try.prog 87 0 = some (0, 1) := by kernel_rfl
theorem fi_87_1 : fieldB Try.prog 87 1 = some (1, 1) := by kernel_rfl
theorem sz_90 : szB Try.prog 90 = some 2 := by kernel_rfl
theorem ag_90 : isAggB Try.prog 90 = some true := by kernel_rfl
theorem by_90 : bytesB Try.prog 90 = some 16 := by kernel_rfl
theorem ze_90 : zeroB Try.prog 90 = some ((AV.int IntKind.i64 0) :: ((AV.int IntKind.i64 0) :: [])) := by kernel_rfl
theorem pl_90 : placesB Try.prog 90 = some ((0, 1) :: ((1, 1) :: [])) := by kernel_rfl
theorem sh_90 : shapes Try.prog 6 90 = some (Sh.int IntKind.i64 :: (Sh.int IntKind.i64 :: [])) := by kernel_rfl
theorem nf_90 : nfieldsB Try.prog 90 = some 2 := by kernel_rfl
theorem ps_90 : plainStructB Try.prog 90 = true := by kernel_rfl
theorem fi_90_0 : fieldB Try.prog 90 0 = some (0, 1) := by kernel_rfl
theorem fi_90_1 : fieldB Try.prog 90 1 = some (1, 1) := by kernel_rfl
theorem sz_93 : szB Try.prog 93 = some 1 := by kernel_rfl
theorem ag_93 : isAggB Try.prog 93 = some false := by kernel_rfl
theorem by_93 : bytesB Try.prog 93 = some 8 := by kernel_rfl
theorem sz_96 : szB Try.prog 96 = some 1 := by kernel_rfl
theorem ag_96 : isAggB Try.prog 96 = some false := by kernel_rfl
theorem by_96 : bytesB Try.prog 96 = some 8 := by kernel_rfl
theorem sz_99 : szB Try.prog 99 = some 3 := by kernel_rfl
theorem ag_99 : isAggB Try.prog 99 = some true := by kernel_rfl
theorem by_99 : bytesB Try.prog 99 = some 40 := by kernel_rfl
theorem ze_99 : zeroB Try.prog 99 = some (AV.nils :: ((AV.int IntKind.i64 0) :: ((AV.int IntKind.i64 0) :: []))) := by kernel_rfl
theorem pl_99 : placesB Try.prog 99 = some ((0, 1) :: ((1, 1) :: ((2, 1) :: []))) := by kernel_rfl
theorem sh_99 : shapes Try.prog 6 99 = some (Sh.rows 5 1 IntKind.u8 :: (Sh.int IntKind.i64 :: (Sh.int IntKind.i64 :: []))) := by kernel_rfl
theorem nf_99 : nfieldsB Try.prog 99 = some 3 := by kernel_rfl
theorem ps_99 : plainStructB Try.prog 99 = false := by kernel_rfl
theorem fi_99_0 : fieldB Try.prog 99 0 = some (0, 1) := by kernel_rfl
theorem fi_99_1 : fieldB Try.prog 99 1 = some (1, 1) := by kernel_rfl
theorem fi_99_2 : fieldB Try.prog 99 2 = some (2, 1) := by kernel_rfl
theorem sz_102 : szB Try.prog 102 = some 1 := by kernel_rfl
theorem ag_102 : isAggB Try.prog 102 = some false := by kernel_rfl
theorem by_102 : bytesB Try.prog 102 = some 8 := by kernel_rfl
theorem ze_102 : zeroB Try.prog 102 = some ((AV.int IntKind.u64 0) :: []) := by kernel_rfl
theorem in_102 : intB Try.prog 102 = some IntKind.u64 := by kernel_rfl
theorem sh_102 : shapes Try.prog 6 102 = some (Sh.int IntKind.u64 :: []) := by kernel_rfl
theorem sz_104 : szB Try.prog 104 = some 3 := by kernel_rfl
theorem ag_104 : isAggB Try.prog 104 = some true := by kernel_rfl
theorem by_104 : bytesB Try.prog 104 = some 24 := by kernel_rfl
theorem ze_104 : zeroB Try.prog 104 = some ((AV.int IntKind.i64 0) :: ((AV.int IntKind.i64 0) :: ((AV.int IntKind.i64 0) :: []))) := by kernel_rfl
theorem pl_104 : placesB Try.prog 104 = some ((0, 1) :: ((1, 1) :: ((2, 1) :: []))) := by kernel_rfl
theorem sh_104 : shapes Try.prog 6 104 = some (Sh.int IntKind.i64 :: (Sh.int IntKind.i64 :: (Sh.int IntKind.i64 :: []))) := by kernel_rfl
theorem nf_104 : nfieldsB Try.prog 104 = some 3 := by kernel_rfl
theorem ps_104 : plainStructB Try.prog 104 = true := by kernel_rfl
theorem fi_104_0 : fieldB Try.prog 104 0 = some (0, 1) := by kernel_rfl
theorem fi_104_1 : fieldB Try.prog 104 1 = some (1, 1) := by kernel_rfl
theorem fi_104_2 : fieldB Try.prog 104 2 = some (2, 1) := by kernel_rfl
end Go.Proofs.Ytdcecoddecghdaa
