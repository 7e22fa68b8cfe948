/-
  The law's first words, evaluated: a life that is played by hand.
-/
import Derived.Test.YtbhbdeelpopgoaaGreatDoorQi
import Derived.Test.YtbhbdeelpopgoaaGreatDoorQp
import Derived.Test.YtbhbdeelpopgoaaGreatDoorQr
set_option linter.unusedVariables false
set_option linter.unusedSimpArgs false
namespace Go.Proofs.YtbhbdeelpopgoaaGreatDoor.E
open Go Go.RowKit H
set_option maxRecDepth 100000
noncomputable def tbX:List (FuncId×Prim):=(226,fun _ vs h kr _=>bldP 5 bT vs h kr)::(105,fun _ vs h kr _=>valP hxT vs h fun v=>kr v h)::(78,fun _ vs h kr _=>valP paT vs h fun v=>kr v h)::tb1 100
theorem tbX_ok: ∀x∈tbX,Pr1 P0 100 x.1 x.2:=
 List.forall_mem_cons.2 ⟨bldP_ok bT_ok,List.forall_mem_cons.2 ⟨valP_ok hxT_ok,List.forall_mem_cons.2 ⟨valP_ok paT_ok,tb1_ok sumsOk 100⟩⟩⟩
theorem knRun(b:Bool):callK P0 100 FU (tab tbX) (dr0 100) 200 4 [] h00 (fun v _=>qBool v fun x=>ask x b) (fun _ _=>false)=b:=by kernel_rfl
theorem knOk:KnOk:=fun w h0 h1 h9=>law_of tbX_ok (knRun true) ⟨h0,h1,h9⟩ (sg:=sg0) reals_nil
end Go.Proofs.YtbhbdeelpopgoaaGreatDoor.E

