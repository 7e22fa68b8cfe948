/-
  Sums of archives of a package, by the kernel.
-/
import Derived.Test.YtoafcnecjgnbmaaGreatDoorVBb
set_option linter.unusedVariables false
set_option linter.unusedSimpArgs false
namespace Go.Proofs.YtoafcnecjgnbmaaGreatDoor.E
open Go
set_option maxRecDepth 100000
noncomputable def d0_0 : List Nat := sumN 111854986721175224128432607056649712443619256512451246627174942561276729606694
theorem sa0_0 (b : Bool) : sumA1 (ar0 97, d0_0) b = b := by kernel_rfl
theorem so0_0 (b : Bool) : sumO1 (ar0 97, d0_0) b = b := by kernel_rfl
noncomputable def d0_1 : List Nat := sumN 23915033136899534301524135321187875857705781462756445550202426239428491645730
theorem sa0_1 (b : Bool) : sumA1 (ar1 97, d0_1) b = b := by kernel_rfl
theorem so0_1 (b : Bool) : sumO1 (ar1 97, d0_1) b = b := by kernel_rfl
noncomputable def d0_2 : List Nat := sumN 13324431032549517976976499911241062142717320585689293234045820929224467443020
theorem sa0_2 (b : Bool) : sumA1 (ar2 97, d0_2) b = b := by kernel_rfl
theorem so0_2 (b : Bool) : sumO1 (ar2 97, d0_2) b = b := by kernel_rfl
noncomputable def d0_3 : List Nat := sumN 51169656929010879405778596594771112977775370241200899075993851817858304153471
theorem sa0_3 (b : Bool) : sumA1 (ar3 97, d0_3) b = b := by kernel_rfl
theorem so0_3 (b : Bool) : sumO1 (ar3 97, d0_3) b = b := by kernel_rfl
noncomputable def d0_4 : List Nat := sumN 15152602871724378762677106998978603375096646802562638344597429120672482044598
theorem sa0_4 (b : Bool) : sumA1 (ar4 97, d0_4) b = b := by kernel_rfl
theorem so0_4 (b : Bool) : sumO1 (ar4 97, d0_4) b = b := by kernel_rfl
noncomputable def d0_5 : List Nat := sumN 40220107231573468800025304046410894238641637357430774112745626181230658313422
theorem sa0_5 (b : Bool) : sumA1 (ar5 97, d0_5) b = b := by kernel_rfl
theorem so0_5 (b : Bool) : sumO1 (ar5 97, d0_5) b = b := by kernel_rfl
noncomputable def d0_6 : List Nat := sumN 33105910753066442683128676162023105405331193922820133148973679045954576933053
theorem sa0_6 (b : Bool) : sumA1 (ar6 97, d0_6) b = b := by kernel_rfl
theorem so0_6 (b : Bool) : sumO1 (ar6 97, d0_6) b = b := by kernel_rfl
noncomputable def d0_7 : List Nat := sumN 5146050951435619037396935143556887019755508026298273250386150565596826217721
theorem sa0_7 (b : Bool) : sumA1 (ar7 97, d0_7) b = b := by kernel_rfl
theorem so0_7 (b : Bool) : sumO1 (ar7 97, d0_7) b = b := by kernel_rfl
noncomputable def d0_8 : List Nat := sumN 26836104048346827300876073600834164236421746456927184564227357055860419021424
theorem sa0_8 (b : Bool) : sumA1 (ar8 97, d0_8) b = b := by kernel_rfl
theorem so0_8 (b : Bool) : sumO1 (ar8 97, d0_8) b = b := by kernel_rfl
noncomputable def d0_9 : List Nat := sumN 85276325154978589850410870860468268057343342343288926944544560577910496374843
theorem sa0_9 (b : Bool) : sumA1 (ar9 97, d0_9) b = b := by kernel_rfl
theorem so0_9 (b : Bool) : sumO1 (ar9 97, d0_9) b = b := by kernel_rfl
end Go.Proofs.YtoafcnecjgnbmaaGreatDoor.E
