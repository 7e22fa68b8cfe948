/-
  Sums of archives of a package, by the kernel.
-/
import Derived.Test.YtoafcnecjgnbmaaGreatDoorVBb
set_option linter.unusedVariables false
set_option linter.unusedSimpArgs false
namespace Go.Proofs.YtoafcnecjgnbmaaGreatDoor.E
open Go
set_option maxRecDepth 100000
noncomputable def d4_0 : List Nat := sumN 101533922587593489800377502750015632510909216072191039587224885583844387341090
theorem sa4_0 (b : Bool) : sumA1 (ar0 101, d4_0) b = b := by kernel_rfl
theorem so4_0 (b : Bool) : sumO1 (ar0 101, d4_0) b = b := by kernel_rfl
noncomputable def d4_1 : List Nat := sumN 15519296377173759934977106628076908561753192916140397186557237750035503217218
theorem sa4_1 (b : Bool) : sumA1 (ar1 101, d4_1) b = b := by kernel_rfl
theorem so4_1 (b : Bool) : sumO1 (ar1 101, d4_1) b = b := by kernel_rfl
noncomputable def d4_2 : List Nat := sumN 33950199234977232690339860470235708352132068490084558301631079076889530378259
theorem sa4_2 (b : Bool) : sumA1 (ar2 101, d4_2) b = b := by kernel_rfl
theorem so4_2 (b : Bool) : sumO1 (ar2 101, d4_2) b = b := by kernel_rfl
noncomputable def d4_3 : List Nat := sumN 101836730468416410912223062352162113926787232119256676897240824205298779932673
theorem sa4_3 (b : Bool) : sumA1 (ar3 101, d4_3) b = b := by kernel_rfl
theorem so4_3 (b : Bool) : sumO1 (ar3 101, d4_3) b = b := by kernel_rfl
noncomputable def d4_4 : List Nat := sumN 32320140998934723894222862522455169449380659788020969456902336112013741633617
theorem sa4_4 (b : Bool) : sumA1 (ar4 101, d4_4) b = b := by kernel_rfl
theorem so4_4 (b : Bool) : sumO1 (ar4 101, d4_4) b = b := by kernel_rfl
noncomputable def d4_5 : List Nat := sumN 41461746822248289708949710588794221953406626975399832584213612735908802941765
theorem sa4_5 (b : Bool) : sumA1 (ar5 101, d4_5) b = b := by kernel_rfl
theorem so4_5 (b : Bool) : sumO1 (ar5 101, d4_5) b = b := by kernel_rfl
noncomputable def d4_6 : List Nat := sumN 96856740702395650494284409915955773983616476030641667101670664425425890594379
theorem sa4_6 (b : Bool) : sumA1 (ar6 101, d4_6) b = b := by kernel_rfl
theorem so4_6 (b : Bool) : sumO1 (ar6 101, d4_6) b = b := by kernel_rfl
noncomputable def d4_7 : List Nat := sumN 59448810141525158126099706361027634210343370478504569530876916546503472348646
theorem sa4_7 (b : Bool) : sumA1 (ar7 101, d4_7) b = b := by kernel_rfl
theorem so4_7 (b : Bool) : sumO1 (ar7 101, d4_7) b = b := by kernel_rfl
noncomputable def d4_8 : List Nat := sumN 100628138934035586705081541494862915734603068372267339894511660808756261892245
theorem sa4_8 (b : Bool) : sumA1 (ar8 101, d4_8) b = b := by kernel_rfl
theorem so4_8 (b : Bool) : sumO1 (ar8 101, d4_8) b = b := by kernel_rfl
noncomputable def d4_9 : List Nat := sumN 5945845056715311429192863051170337715722486801745220223753549232672143403156
theorem sa4_9 (b : Bool) : sumA1 (ar9 101, d4_9) b = b := by kernel_rfl
theorem so4_9 (b : Bool) : sumO1 (ar9 101, d4_9) b = b := by kernel_rfl
end Go.Proofs.YtoafcnecjgnbmaaGreatDoor.E
