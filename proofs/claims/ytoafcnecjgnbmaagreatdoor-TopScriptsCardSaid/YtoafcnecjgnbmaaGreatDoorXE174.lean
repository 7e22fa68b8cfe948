/-
  Sums of archives of a package, by the kernel.
-/
import Derived.Test.YtoafcnecjgnbmaaGreatDoorVBb
set_option linter.unusedVariables false
set_option linter.unusedSimpArgs false
namespace Go.Proofs.YtoafcnecjgnbmaaGreatDoor.E
open Go
set_option maxRecDepth 100000
noncomputable def d3_0 : List Nat := sumN 26380606871046730919521288614084843107315141791103572891860525773513595066524
theorem sa3_0 (b : Bool) : sumA1 (ar0 100, d3_0) b = b := by kernel_rfl
theorem so3_0 (b : Bool) : sumO1 (ar0 100, d3_0) b = b := by kernel_rfl
noncomputable def d3_1 : List Nat := sumN 63931764721358270823640742291283000035526907948323436723794720543143658813058
theorem sa3_1 (b : Bool) : sumA1 (ar1 100, d3_1) b = b := by kernel_rfl
theorem so3_1 (b : Bool) : sumO1 (ar1 100, d3_1) b = b := by kernel_rfl
noncomputable def d3_2 : List Nat := sumN 12481193263585926163815173873059284520869187425433447187065256445509971030050
theorem sa3_2 (b : Bool) : sumA1 (ar2 100, d3_2) b = b := by kernel_rfl
theorem so3_2 (b : Bool) : sumO1 (ar2 100, d3_2) b = b := by kernel_rfl
noncomputable def d3_3 : List Nat := sumN 37042706281428753388432100508151779067683390781667383430777844257106071577959
theorem sa3_3 (b : Bool) : sumA1 (ar3 100, d3_3) b = b := by kernel_rfl
theorem so3_3 (b : Bool) : sumO1 (ar3 100, d3_3) b = b := by kernel_rfl
noncomputable def d3_4 : List Nat := sumN 109485843603032839189485149244075244197824680432902141370511748613891162162715
theorem sa3_4 (b : Bool) : sumA1 (ar4 100, d3_4) b = b := by kernel_rfl
theorem so3_4 (b : Bool) : sumO1 (ar4 100, d3_4) b = b := by kernel_rfl
noncomputable def d3_5 : List Nat := sumN 85028388188768762359195855947321014677848899493829319329735007786248863568446
theorem sa3_5 (b : Bool) : sumA1 (ar5 100, d3_5) b = b := by kernel_rfl
theorem so3_5 (b : Bool) : sumO1 (ar5 100, d3_5) b = b := by kernel_rfl
noncomputable def d3_6 : List Nat := sumN 113446515113976088135047027857017916184432638301107868306531161388831135760475
theorem sa3_6 (b : Bool) : sumA1 (ar6 100, d3_6) b = b := by kernel_rfl
theorem so3_6 (b : Bool) : sumO1 (ar6 100, d3_6) b = b := by kernel_rfl
noncomputable def d3_7 : List Nat := sumN 54437663370022608888042501970810621385781744019583283061457025398259897152914
theorem sa3_7 (b : Bool) : sumA1 (ar7 100, d3_7) b = b := by kernel_rfl
theorem so3_7 (b : Bool) : sumO1 (ar7 100, d3_7) b = b := by kernel_rfl
noncomputable def d3_8 : List Nat := sumN 50902824854491317749824934176583534779325359214072595324658108150423813359380
theorem sa3_8 (b : Bool) : sumA1 (ar8 100, d3_8) b = b := by kernel_rfl
theorem so3_8 (b : Bool) : sumO1 (ar8 100, d3_8) b = b := by kernel_rfl
noncomputable def d3_9 : List Nat := sumN 59891692119303964259576971276284487138015580539188909039201759796052285326653
theorem sa3_9 (b : Bool) : sumA1 (ar9 100, d3_9) b = b := by kernel_rfl
theorem so3_9 (b : Bool) : sumO1 (ar9 100, d3_9) b = b := by kernel_rfl
end Go.Proofs.YtoafcnecjgnbmaaGreatDoor.E
