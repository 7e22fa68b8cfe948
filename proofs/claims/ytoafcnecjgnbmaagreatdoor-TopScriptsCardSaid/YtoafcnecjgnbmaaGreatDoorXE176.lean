/-
  Sums of archives of a package, by the kernel.
-/
import Derived.Test.YtoafcnecjgnbmaaGreatDoorVBb
set_option linter.unusedVariables false
set_option linter.unusedSimpArgs false
namespace Go.Proofs.YtoafcnecjgnbmaaGreatDoor.E
open Go
set_option maxRecDepth 100000
noncomputable def d5_0 : List Nat := sumN 69556015274358334523084474043001277281568577092093107279662395010197278401521
theorem sa5_0 (b : Bool) : sumA1 (ar0 102, d5_0) b = b := by kernel_rfl
theorem so5_0 (b : Bool) : sumO1 (ar0 102, d5_0) b = b := by kernel_rfl
noncomputable def d5_1 : List Nat := sumN 53194091347949814299774321776169946482034361128578667066940977119760361632680
theorem sa5_1 (b : Bool) : sumA1 (ar1 102, d5_1) b = b := by kernel_rfl
theorem so5_1 (b : Bool) : sumO1 (ar1 102, d5_1) b = b := by kernel_rfl
noncomputable def d5_2 : List Nat := sumN 83582840540070373009358515783071544267193933443216034839966844875834930506754
theorem sa5_2 (b : Bool) : sumA1 (ar2 102, d5_2) b = b := by kernel_rfl
theorem so5_2 (b : Bool) : sumO1 (ar2 102, d5_2) b = b := by kernel_rfl
noncomputable def d5_3 : List Nat := sumN 4398097902196757140446530926357133538324717437996983663560323541268282640762
theorem sa5_3 (b : Bool) : sumA1 (ar3 102, d5_3) b = b := by kernel_rfl
theorem so5_3 (b : Bool) : sumO1 (ar3 102, d5_3) b = b := by kernel_rfl
noncomputable def d5_4 : List Nat := sumN 64833909695412661413139747005932673017871976712903363238755298203539899754862
theorem sa5_4 (b : Bool) : sumA1 (ar4 102, d5_4) b = b := by kernel_rfl
theorem so5_4 (b : Bool) : sumO1 (ar4 102, d5_4) b = b := by kernel_rfl
noncomputable def d5_5 : List Nat := sumN 12279077576134859144704146102473278565926841060713661143927105465149697507543
theorem sa5_5 (b : Bool) : sumA1 (ar5 102, d5_5) b = b := by kernel_rfl
theorem so5_5 (b : Bool) : sumO1 (ar5 102, d5_5) b = b := by kernel_rfl
noncomputable def d5_6 : List Nat := sumN 95782703186039523898005982844332004755162615303477774383962324450882476264636
theorem sa5_6 (b : Bool) : sumA1 (ar6 102, d5_6) b = b := by kernel_rfl
theorem so5_6 (b : Bool) : sumO1 (ar6 102, d5_6) b = b := by kernel_rfl
noncomputable def d5_7 : List Nat := sumN 18328770107664278768352257439485662589830921423080301174857374784081639613839
theorem sa5_7 (b : Bool) : sumA1 (ar7 102, d5_7) b = b := by kernel_rfl
theorem so5_7 (b : Bool) : sumO1 (ar7 102, d5_7) b = b := by kernel_rfl
noncomputable def d5_8 : List Nat := sumN 65713949818746965239902712198141912797254289382398929743770970560476636121965
theorem sa5_8 (b : Bool) : sumA1 (ar8 102, d5_8) b = b := by kernel_rfl
theorem so5_8 (b : Bool) : sumO1 (ar8 102, d5_8) b = b := by kernel_rfl
noncomputable def d5_9 : List Nat := sumN 109201668153615026974888606280971351687304366362832722562014841434693700596934
theorem sa5_9 (b : Bool) : sumA1 (ar9 102, d5_9) b = b := by kernel_rfl
theorem so5_9 (b : Bool) : sumO1 (ar9 102, d5_9) b = b := by kernel_rfl
end Go.Proofs.YtoafcnecjgnbmaaGreatDoor.E
