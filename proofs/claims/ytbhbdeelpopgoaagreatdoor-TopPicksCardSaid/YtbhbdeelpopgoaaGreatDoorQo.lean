/-
  The sums of the archives that come.
-/
import Derived.Test.YtbhbdeelpopgoaaGreatDoorQi
import Derived.Test.YtbhbdeelpopgoaaGreatDoorQk
import Derived.Test.YtbhbdeelpopgoaaGreatDoorQl
import Derived.Test.YtbhbdeelpopgoaaGreatDoorQm
import Derived.Test.YtbhbdeelpopgoaaGreatDoorQn
set_option linter.unusedVariables false
set_option linter.unusedSimpArgs false
namespace Go.Proofs.YtbhbdeelpopgoaaGreatDoor.E
open Go
theorem sumsOk:SumsOk:=by
 unfold SumsOk shaT
 exact⟨List.forall_mem_cons.2 ⟨sumB_ok (by kernel_rfl) (sum1080_0 true),List.forall_mem_cons.2 ⟨sumB_ok (by kernel_rfl) (sum1080_1 true),List.forall_mem_cons.2 ⟨sumB_ok (by kernel_rfl) (sum1080_2 true),List.forall_mem_cons.2 ⟨sumB_ok (by kernel_rfl) (sum1080_3 true),List.forall_mem_cons.2 ⟨sumB_ok (by kernel_rfl) (sum1080_4 true),List.forall_mem_cons.2 ⟨sumB_ok (by kernel_rfl) (sum1080_5 true),List.forall_mem_cons.2 ⟨sumB_ok (by kernel_rfl) (sum1080_6 true),fun x hx=>by cases hx⟩⟩⟩⟩⟩⟩⟩,List.forall_mem_cons.2 ⟨sumB_ok (by kernel_rfl) (sum320_0 true),List.forall_mem_cons.2 ⟨sumB_ok (by kernel_rfl) (sum320_1 true),List.forall_mem_cons.2 ⟨sumB_ok (by kernel_rfl) (sum320_2 true),List.forall_mem_cons.2 ⟨sumB_ok (by kernel_rfl) (sum320_3 true),List.forall_mem_cons.2 ⟨sumB_ok (by kernel_rfl) (sum320_4 true),List.forall_mem_cons.2 ⟨sumB_ok (by kernel_rfl) (sum320_5 true),List.forall_mem_cons.2 ⟨sumB_ok (by kernel_rfl) (sum320_6 true),fun x hx=>by cases hx⟩⟩⟩⟩⟩⟩⟩⟩
end Go.Proofs.YtbhbdeelpopgoaaGreatDoor.E

