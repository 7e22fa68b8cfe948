/-
  Sums of archives of a package, by the kernel.
-/
import Derived.Test.YtoafcnecjgnbmaaGreatDoorVBb
set_option linter.unusedVariables false
set_option linter.unusedSimpArgs false
namespace Go.Proofs.YtoafcnecjgnbmaaGreatDoor.E
open Go
set_option maxRecDepth 100000
noncomputable def d1_0 : List Nat := sumN 20477337363384090433591812843692620700673543841976630730759470675043844436200
theorem sa1_0 (b : Bool) : sumA1 (ar0 98, d1_0) b = b := by kernel_rfl
theorem so1_0 (b : Bool) : sumO1 (ar0 98, d1_0) b = b := by kernel_rfl
noncomputable def d1_1 : List Nat := sumN 9444287743364348277422627503458086540240070612375790774546533553532748829401
theorem sa1_1 (b : Bool) : sumA1 (ar1 98, d1_1) b = b := by kernel_rfl
theorem so1_1 (b : Bool) : sumO1 (ar1 98, d1_1) b = b := by kernel_rfl
noncomputable def d1_2 : List Nat := sumN 88550290719530426485596457044420733049294606075192275784660871305711301338256
theorem sa1_2 (b : Bool) : sumA1 (ar2 98, d1_2) b = b := by kernel_rfl
theorem so1_2 (b : Bool) : sumO1 (ar2 98, d1_2) b = b := by kernel_rfl
noncomputable def d1_3 : List Nat := sumN 52652447763966271560434327331465575572232808487400971904433434461628202810082
theorem sa1_3 (b : Bool) : sumA1 (ar3 98, d1_3) b = b := by kernel_rfl
theorem so1_3 (b : Bool) : sumO1 (ar3 98, d1_3) b = b := by kernel_rfl
noncomputable def d1_4 : List Nat := sumN 110114822475924272593092399701288371612626943253011189349215664408636474950650
theorem sa1_4 (b : Bool) : sumA1 (ar4 98, d1_4) b = b := by kernel_rfl
theorem so1_4 (b : Bool) : sumO1 (ar4 98, d1_4) b = b := by kernel_rfl
noncomputable def d1_5 : List Nat := sumN 40657638843117746559432754215365501175639077581646853682595901877828689655834
theorem sa1_5 (b : Bool) : sumA1 (ar5 98, d1_5) b = b := by kernel_rfl
theorem so1_5 (b : Bool) : sumO1 (ar5 98, d1_5) b = b := by kernel_rfl
noncomputable def d1_6 : List Nat := sumN 43396681947956379419174854190192795574332281159929616023837501689426547534765
theorem sa1_6 (b : Bool) : sumA1 (ar6 98, d1_6) b = b := by kernel_rfl
theorem so1_6 (b : Bool) : sumO1 (ar6 98, d1_6) b = b := by kernel_rfl
noncomputable def d1_7 : List Nat := sumN 109998485473112679761059369688805681809257523751334835915947691660308564859473
theorem sa1_7 (b : Bool) : sumA1 (ar7 98, d1_7) b = b := by kernel_rfl
theorem so1_7 (b : Bool) : sumO1 (ar7 98, d1_7) b = b := by kernel_rfl
noncomputable def d1_8 : List Nat := sumN 40218595319432174307169496756290759535202534823399781860596032855317076955228
theorem sa1_8 (b : Bool) : sumA1 (ar8 98, d1_8) b = b := by kernel_rfl
theorem so1_8 (b : Bool) : sumO1 (ar8 98, d1_8) b = b := by kernel_rfl
noncomputable def d1_9 : List Nat := sumN 91536826299226069050385352344171602859711397801610748714226049213047115891002
theorem sa1_9 (b : Bool) : sumA1 (ar9 98, d1_9) b = b := by kernel_rfl
theorem so1_9 (b : Bool) : sumO1 (ar9 98, d1_9) b = b := by kernel_rfl
end Go.Proofs.YtoafcnecjgnbmaaGreatDoor.E
