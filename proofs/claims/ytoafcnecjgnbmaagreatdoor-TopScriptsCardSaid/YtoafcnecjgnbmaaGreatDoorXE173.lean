/-
  Sums of archives of a package, by the kernel.
-/
import Derived.Test.YtoafcnecjgnbmaaGreatDoorVBb
set_option linter.unusedVariables false
set_option linter.unusedSimpArgs false
namespace Go.Proofs.YtoafcnecjgnbmaaGreatDoor.E
open Go
set_option maxRecDepth 100000
noncomputable def d2_0 : List Nat := sumN 61485032910999195950409519374745345058230176360044611791644773117316938120408
theorem sa2_0 (b : Bool) : sumA1 (ar0 99, d2_0) b = b := by kernel_rfl
theorem so2_0 (b : Bool) : sumO1 (ar0 99, d2_0) b = b := by kernel_rfl
noncomputable def d2_1 : List Nat := sumN 12648377060204608780712884096682278997466571080360954549404125932313529125109
theorem sa2_1 (b : Bool) : sumA1 (ar1 99, d2_1) b = b := by kernel_rfl
theorem so2_1 (b : Bool) : sumO1 (ar1 99, d2_1) b = b := by kernel_rfl
noncomputable def d2_2 : List Nat := sumN 29799421390374065749996367505757646924704928564593586380437168289207317064268
theorem sa2_2 (b : Bool) : sumA1 (ar2 99, d2_2) b = b := by kernel_rfl
theorem so2_2 (b : Bool) : sumO1 (ar2 99, d2_2) b = b := by kernel_rfl
noncomputable def d2_3 : List Nat := sumN 29374498252333376601589101240815283447464141231139538049554511437233778169447
theorem sa2_3 (b : Bool) : sumA1 (ar3 99, d2_3) b = b := by kernel_rfl
theorem so2_3 (b : Bool) : sumO1 (ar3 99, d2_3) b = b := by kernel_rfl
noncomputable def d2_4 : List Nat := sumN 85574553233834690053613599393870788336062694603800349478956799802412353084503
theorem sa2_4 (b : Bool) : sumA1 (ar4 99, d2_4) b = b := by kernel_rfl
theorem so2_4 (b : Bool) : sumO1 (ar4 99, d2_4) b = b := by kernel_rfl
noncomputable def d2_5 : List Nat := sumN 27257090876957280984244511875131177777941158890971569461080330419157157063992
theorem sa2_5 (b : Bool) : sumA1 (ar5 99, d2_5) b = b := by kernel_rfl
theorem so2_5 (b : Bool) : sumO1 (ar5 99, d2_5) b = b := by kernel_rfl
noncomputable def d2_6 : List Nat := sumN 66984095023383883934345875638498469620865369503811677324667725957508353287545
theorem sa2_6 (b : Bool) : sumA1 (ar6 99, d2_6) b = b := by kernel_rfl
theorem so2_6 (b : Bool) : sumO1 (ar6 99, d2_6) b = b := by kernel_rfl
noncomputable def d2_7 : List Nat := sumN 23266501751787665648485975885641937078350235976481235340754439519091175358434
theorem sa2_7 (b : Bool) : sumA1 (ar7 99, d2_7) b = b := by kernel_rfl
theorem so2_7 (b : Bool) : sumO1 (ar7 99, d2_7) b = b := by kernel_rfl
noncomputable def d2_8 : List Nat := sumN 77411501821503922946795846185258691536167472342438168876304234295754388196289
theorem sa2_8 (b : Bool) : sumA1 (ar8 99, d2_8) b = b := by kernel_rfl
theorem so2_8 (b : Bool) : sumO1 (ar8 99, d2_8) b = b := by kernel_rfl
noncomputable def d2_9 : List Nat := sumN 5626413397263019634285205167124245710585126918373584966102658008650007153760
theorem sa2_9 (b : Bool) : sumA1 (ar9 99, d2_9) b = b := by kernel_rfl
theorem so2_9 (b : Bool) : sumO1 (ar9 99, d2_9) b = b := by kernel_rfl
end Go.Proofs.YtoafcnecjgnbmaaGreatDoor.E
