/-
  All that is run by the evaluator.
-/
import Derived.Test.YtbhbdeelpopgoaaGreatDoorWE230
import Derived.Test.YtbhbdeelpopgoaaGreatDoorWE231
import Derived.Test.YtbhbdeelpopgoaaGreatDoorWE232
import Derived.Test.YtbhbdeelpopgoaaGreatDoorWE233
import Derived.Test.YtbhbdeelpopgoaaGreatDoorWE234
import Derived.Test.YtbhbdeelpopgoaaGreatDoorWE235
import Derived.Test.YtbhbdeelpopgoaaGreatDoorWE236
import Derived.Test.YtbhbdeelpopgoaaGreatDoorWE237
import Derived.Test.YtbhbdeelpopgoaaGreatDoorWE238
import Derived.Test.YtbhbdeelpopgoaaGreatDoorWE239
set_option linter.unusedVariables false
set_option linter.unusedSimpArgs false
set_option linter.unusedVariables false
namespace Go.Proofs.YtbhbdeelpopgoaaGreatDoor.E
open Go Go.RowKit H
set_option maxRecDepth 100000
theorem tlN0 : ∀ c ∈ bmask 0 none, ∀ w a t, Begun w c a t → TailN 0 w a t := fun c hc w a t hb => by
  have e : bmask 0 none = [3008] := by decide +kernel
  rw [e] at hc
  obtain rfl := List.mem_singleton.1 hc
  exact tailN_ok (k := 0) (tbT_ok (by decide)) (by decide) (pN0 true) hb
theorem tlS0_0 : ∀ c ∈ bmask 0 (some 0), ∀ w a t, Begun w c a t → TailS 0 0 w a t := fun c hc w a t hb => by
  have e : bmask 0 (some 0) = [2433] := by decide +kernel
  rw [e] at hc
  obtain rfl := List.mem_singleton.1 hc
  exact tailS_ok (k := 0) (tbT_ok (by decide)) (by decide) (by decide) (pS0_0_0 true) hb
theorem tlS0_1 : ∀ c ∈ bmask 0 (some 1), ∀ w a t, Begun w c a t → TailS 0 1 w a t := fun c hc w a t hb => by
  have e : bmask 0 (some 1) = [2306] := by decide +kernel
  rw [e] at hc
  obtain rfl := List.mem_singleton.1 hc
  exact tailS_ok (k := 0) (tbT_ok (by decide)) (by decide) (by decide) (pS0_1_0 true) hb
theorem tlS0_2 : ∀ c ∈ bmask 0 (some 2), ∀ w a t, Begun w c a t → TailS 0 2 w a t := fun c hc w a t hb => by
  have e : bmask 0 (some 2) = [4] := by decide +kernel
  rw [e] at hc
  obtain rfl := List.mem_singleton.1 hc
  exact tailS_ok (k := 0) (tbT_ok (by decide)) (by decide) (by decide) (pS0_2_0 true) hb
theorem tlS0_3 : ∀ c ∈ bmask 0 (some 3), ∀ w a t, Begun w c a t → TailS 0 3 w a t := fun c hc w a t hb => by
  have e : bmask 0 (some 3) = [2504] := by decide +kernel
  rw [e] at hc
  obtain rfl := List.mem_singleton.1 hc
  exact tailS_ok (k := 0) (tbT_ok (by decide)) (by decide) (by decide) (pS0_3_0 true) hb
theorem tlS0_5 : ∀ c ∈ bmask 0 (some 5), ∀ w a t, Begun w c a t → TailS 0 5 w a t := fun c hc w a t hb => by
  have e : bmask 0 (some 5) = [288] := by decide +kernel
  rw [e] at hc
  obtain rfl := List.mem_singleton.1 hc
  exact tailS_ok (k := 0) (tbT_ok (by decide)) (by decide) (by decide) (pS0_5_0 true) hb
theorem tlN1 : ∀ c ∈ bmask 1 none, ∀ w a t, Begun w c a t → TailN 1 w a t := fun c hc w a t hb => by
  have e : bmask 1 none = [2240] := by decide +kernel
  rw [e] at hc
  obtain rfl := List.mem_singleton.1 hc
  exact tailN_ok (k := 1) (tbT_ok (by decide)) (by decide) (pN1 true) hb
theorem tlS1_0 : ∀ c ∈ bmask 1 (some 0), ∀ w a t, Begun w c a t → TailS 1 0 w a t := fun c hc w a t hb => by
  have e : bmask 1 (some 0) = [2177] := by decide +kernel
  rw [e] at hc
  obtain rfl := List.mem_singleton.1 hc
  exact tailS_ok (k := 1) (tbT_ok (by decide)) (by decide) (by decide) (pS1_0_0 true) hb
theorem tlS1_1 : ∀ c ∈ bmask 1 (some 1), ∀ w a t, Begun w c a t → TailS 1 1 w a t := fun c hc w a t hb => by
  have e : bmask 1 (some 1) = [2050] := by decide +kernel
  rw [e] at hc
  obtain rfl := List.mem_singleton.1 hc
  exact tailS_ok (k := 1) (tbT_ok (by decide)) (by decide) (by decide) (pS1_1_0 true) hb
theorem tlS1_5 : ∀ c ∈ bmask 1 (some 5), ∀ w a t, Begun w c a t → TailS 1 5 w a t := fun c hc w a t hb => by
  have e : bmask 1 (some 5) = [32] := by decide +kernel
  rw [e] at hc
  obtain rfl := List.mem_singleton.1 hc
  exact tailS_ok (k := 1) (tbT_ok (by decide)) (by decide) (by decide) (pS1_5_0 true) hb
theorem tlN2 : ∀ c ∈ bmask 2 none, ∀ w a t, Begun w c a t → TailN 2 w a t := fun c hc w a t hb => by
  have e : bmask 2 none = [64] := by decide +kernel
  rw [e] at hc
  obtain rfl := List.mem_singleton.1 hc
  exact tailN_ok (k := 2) (tbT_ok (by decide)) (by decide) (pN2 true) hb
theorem tlS2_0 : ∀ c ∈ bmask 2 (some 0), ∀ w a t, Begun w c a t → TailS 2 0 w a t := fun c hc w a t hb => by
  have e : bmask 2 (some 0) = [1] := by decide +kernel
  rw [e] at hc
  obtain rfl := List.mem_singleton.1 hc
  exact tailS_ok (k := 2) (tbT_ok (by decide)) (by decide) (by decide) (pS2_0_0 true) hb
theorem tlN3 : ∀ c ∈ bmask 3 none, ∀ w a t, Begun w c a t → TailN 3 w a t := fun c hc w a t hb => by
  have e : bmask 3 none = [2432] := by decide +kernel
  rw [e] at hc
  obtain rfl := List.mem_singleton.1 hc
  exact tailN_ok (k := 3) (tbT_ok (by decide)) (by decide) (pN3 true) hb
theorem tlS3_1 : ∀ c ∈ bmask 3 (some 1), ∀ w a t, Begun w c a t → TailS 3 1 w a t := fun c hc w a t hb => by
  have e : bmask 3 (some 1) = [2306] := by decide +kernel
  rw [e] at hc
  obtain rfl := List.mem_singleton.1 hc
  exact tailS_ok (k := 3) (tbT_ok (by decide)) (by decide) (by decide) (pS3_1_0 true) hb
theorem tlS3_2 : ∀ c ∈ bmask 3 (some 2), ∀ w a t, Begun w c a t → TailS 3 2 w a t := fun c hc w a t hb => by
  have e : bmask 3 (some 2) = [4] := by decide +kernel
  rw [e] at hc
  obtain rfl := List.mem_singleton.1 hc
  exact tailS_ok (k := 3) (tbT_ok (by decide)) (by decide) (by decide) (pS3_2_0 true) hb
theorem tlS3_5 : ∀ c ∈ bmask 3 (some 5), ∀ w a t, Begun w c a t → TailS 3 5 w a t := fun c hc w a t hb => by
  have e : bmask 3 (some 5) = [288] := by decide +kernel
  rw [e] at hc
  obtain rfl := List.mem_singleton.1 hc
  exact tailS_ok (k := 3) (tbT_ok (by decide)) (by decide) (by decide) (pS3_5_0 true) hb
theorem tlN4 : ∀ c ∈ bmask 4 none, ∀ w a t, Begun w c a t → TailN 4 w a t := fun c hc w a t hb => by
  have e : bmask 4 none = [256] := by decide +kernel
  rw [e] at hc
  obtain rfl := List.mem_singleton.1 hc
  exact tailN_ok (k := 4) (tbT_ok (by decide)) (by decide) (pN4 true) hb
theorem tlS4_2 : ∀ c ∈ bmask 4 (some 2), ∀ w a t, Begun w c a t → TailS 4 2 w a t := fun c hc w a t hb => by
  have e : bmask 4 (some 2) = [4] := by decide +kernel
  rw [e] at hc
  obtain rfl := List.mem_singleton.1 hc
  exact tailS_ok (k := 4) (tbT_ok (by decide)) (by decide) (by decide) (pS4_2_0 true) hb
theorem tlN5 : ∀ c ∈ bmask 5 none, ∀ w a t, Begun w c a t → TailN 5 w a t := fun c hc w a t hb => by
  have e : bmask 5 none = [2752] := by decide +kernel
  rw [e] at hc
  obtain rfl := List.mem_singleton.1 hc
  exact tailN_ok (k := 5) (tbT_ok (by decide)) (by decide) (pN5 true) hb
theorem tlS5_0 : ∀ c ∈ bmask 5 (some 0), ∀ w a t, Begun w c a t → TailS 5 0 w a t := fun c hc w a t hb => by
  have e : bmask 5 (some 0) = [2177] := by decide +kernel
  rw [e] at hc
  obtain rfl := List.mem_singleton.1 hc
  exact tailS_ok (k := 5) (tbT_ok (by decide)) (by decide) (by decide) (pS5_0_0 true) hb
theorem tlS5_1 : ∀ c ∈ bmask 5 (some 1), ∀ w a t, Begun w c a t → TailS 5 1 w a t := fun c hc w a t hb => by
  have e : bmask 5 (some 1) = [2050] := by decide +kernel
  rw [e] at hc
  obtain rfl := List.mem_singleton.1 hc
  exact tailS_ok (k := 5) (tbT_ok (by decide)) (by decide) (by decide) (pS5_1_0 true) hb
theorem tlS5_3 : ∀ c ∈ bmask 5 (some 3), ∀ w a t, Begun w c a t → TailS 5 3 w a t := fun c hc w a t hb => by
  have e : bmask 5 (some 3) = [2248] := by decide +kernel
  rw [e] at hc
  obtain rfl := List.mem_singleton.1 hc
  exact tailS_ok (k := 5) (tbT_ok (by decide)) (by decide) (by decide) (pS5_3_0 true) hb
theorem tlS5_5 : ∀ c ∈ bmask 5 (some 5), ∀ w a t, Begun w c a t → TailS 5 5 w a t := fun c hc w a t hb => by
  have e : bmask 5 (some 5) = [32] := by decide +kernel
  rw [e] at hc
  obtain rfl := List.mem_singleton.1 hc
  exact tailS_ok (k := 5) (tbT_ok (by decide)) (by decide) (by decide) (pS5_5_0 true) hb
theorem tlN6 : ∀ c ∈ bmask 6 none, ∀ w a t, Begun w c a t → TailN 6 w a t := fun c hc w a t hb => by
  have e : bmask 6 none = [512] := by decide +kernel
  rw [e] at hc
  obtain rfl := List.mem_singleton.1 hc
  exact tailN_ok (k := 6) (tbT_ok (by decide)) (by decide) (pN6 true) hb
theorem tlS6_3 : ∀ c ∈ bmask 6 (some 3), ∀ w a t, Begun w c a t → TailS 6 3 w a t := fun c hc w a t hb => by
  have e : bmask 6 (some 3) = [8] := by decide +kernel
  rw [e] at hc
  obtain rfl := List.mem_singleton.1 hc
  exact tailS_ok (k := 6) (tbT_ok (by decide)) (by decide) (by decide) (pS6_3_0 true) hb
theorem tlN7 : ∀ c ∈ bmask 7 none, ∀ w a t, Begun w c a t → TailN 7 w a t := fun c hc w a t hb => by
  have e : bmask 7 none = [1280] := by decide +kernel
  rw [e] at hc
  obtain rfl := List.mem_singleton.1 hc
  exact tailN_ok (k := 7) (tbT_ok (by decide)) (by decide) (pN7 true) hb
theorem tlS7_2 : ∀ c ∈ bmask 7 (some 2), ∀ w a t, Begun w c a t → TailS 7 2 w a t := fun c hc w a t hb => by
  have e : bmask 7 (some 2) = [20, 1028] := by decide +kernel
  rw [e] at hc
  simp only [List.mem_cons, List.not_mem_nil, or_false] at hc
  rcases hc with rfl | rfl
  · exact tailS_ok (k := 7) (tbT_ok (by decide)) (by decide) (by decide) (pS7_2_0 true) hb
  · exact tailS_ok (k := 7) (tbT_ok (by decide)) (by decide) (by decide) (pS7_2_1 true) hb
theorem tlS7_4 : ∀ c ∈ bmask 7 (some 4), ∀ w a t, Begun w c a t → TailS 7 4 w a t := fun c hc w a t hb => by
  have e : bmask 7 (some 4) = [272] := by decide +kernel
  rw [e] at hc
  obtain rfl := List.mem_singleton.1 hc
  exact tailS_ok (k := 7) tbW_ok (by decide) (by decide) (pS7_4_0 true) hb
theorem tlN8 : ∀ c ∈ bmask 8 none, ∀ w a t, Begun w c a t → TailN 8 w a t := fun c hc w a t hb => by
  have e : bmask 8 none = [1024] := by decide +kernel
  rw [e] at hc
  obtain rfl := List.mem_singleton.1 hc
  exact tailN_ok (k := 8) (tbT_ok (by decide)) (by decide) (pN8 true) hb
theorem tlS8_4 : ∀ c ∈ bmask 8 (some 4), ∀ w a t, Begun w c a t → TailS 8 4 w a t := fun c hc w a t hb => by
  have e : bmask 8 (some 4) = [16] := by decide +kernel
  rw [e] at hc
  obtain rfl := List.mem_singleton.1 hc
  exact tailS_ok (k := 8) tbW_ok (by decide) (by decide) (pS8_4_0 true) hb
theorem tlN9 : ∀ c ∈ bmask 9 none, ∀ w a t, Begun w c a t → TailN 9 w a t := fun c hc w a t hb => by
  have e : bmask 9 none = [3008] := by decide +kernel
  rw [e] at hc
  obtain rfl := List.mem_singleton.1 hc
  exact tailN_ok (k := 0) (tbT_ok (by decide)) (by decide) (pN0 true) hb
theorem tlS9_0 : ∀ c ∈ bmask 9 (some 0), ∀ w a t, Begun w c a t → TailS 9 0 w a t := fun c hc w a t hb => by
  have e : bmask 9 (some 0) = [2433] := by decide +kernel
  rw [e] at hc
  obtain rfl := List.mem_singleton.1 hc
  exact tailS_ok (k := 0) (tbT_ok (by decide)) (by decide) (by decide) (pS0_0_0 true) hb
theorem tlS9_1 : ∀ c ∈ bmask 9 (some 1), ∀ w a t, Begun w c a t → TailS 9 1 w a t := fun c hc w a t hb => by
  have e : bmask 9 (some 1) = [2306] := by decide +kernel
  rw [e] at hc
  obtain rfl := List.mem_singleton.1 hc
  exact tailS_ok (k := 0) (tbT_ok (by decide)) (by decide) (by decide) (pS0_1_0 true) hb
theorem tlS9_2 : ∀ c ∈ bmask 9 (some 2), ∀ w a t, Begun w c a t → TailS 9 2 w a t := fun c hc w a t hb => by
  have e : bmask 9 (some 2) = [4] := by decide +kernel
  rw [e] at hc
  obtain rfl := List.mem_singleton.1 hc
  exact tailS_ok (k := 0) (tbT_ok (by decide)) (by decide) (by decide) (pS0_2_0 true) hb
theorem tlS9_3 : ∀ c ∈ bmask 9 (some 3), ∀ w a t, Begun w c a t → TailS 9 3 w a t := fun c hc w a t hb => by
  have e : bmask 9 (some 3) = [2504] := by decide +kernel
  rw [e] at hc
  obtain rfl := List.mem_singleton.1 hc
  exact tailS_ok (k := 0) (tbT_ok (by decide)) (by decide) (by decide) (pS0_3_0 true) hb
theorem tlS9_5 : ∀ c ∈ bmask 9 (some 5), ∀ w a t, Begun w c a t → TailS 9 5 w a t := fun c hc w a t hb => by
  have e : bmask 9 (some 5) = [288] := by decide +kernel
  rw [e] at hc
  obtain rfl := List.mem_singleton.1 hc
  exact tailS_ok (k := 0) (tbT_ok (by decide)) (by decide) (by decide) (pS0_5_0 true) hb
theorem tails : TailsOk where
  fitN := fun k hk c hc w a t hb => by
    match k, hk with
    | 0, _ => exact tlN0 c hc w a t hb
    | 1, _ => exact tlN1 c hc w a t hb
    | 2, _ => exact tlN2 c hc w a t hb
    | 3, _ => exact tlN3 c hc w a t hb
    | 4, _ => exact tlN4 c hc w a t hb
    | 5, _ => exact tlN5 c hc w a t hb
    | 6, _ => exact tlN6 c hc w a t hb
    | 7, _ => exact tlN7 c hc w a t hb
    | 8, _ => exact tlN8 c hc w a t hb
    | 9, _ => exact tlN9 c hc w a t hb
    | k + 10, hk => omega
  fitS := fun k hk s hs hf c hc w a t hb => by
    match k, hk, s, hs with
    | 0, _, 0, _ => exact tlS0_0 c hc w a t hb
    | 0, _, 1, _ => exact tlS0_1 c hc w a t hb
    | 0, _, 2, _ => exact tlS0_2 c hc w a t hb
    | 0, _, 3, _ => exact tlS0_3 c hc w a t hb
    | 0, _, 4, _ => exact absurd hf (by decide +kernel)
    | 0, _, 5, _ => exact tlS0_5 c hc w a t hb
    | 0, _, s + 6, hs => omega
    | 1, _, 0, _ => exact tlS1_0 c hc w a t hb
    | 1, _, 1, _ => exact tlS1_1 c hc w a t hb
    | 1, _, 2, _ => exact absurd hf (by decide +kernel)
    | 1, _, 3, _ => exact absurd hf (by decide +kernel)
    | 1, _, 4, _ => exact absurd hf (by decide +kernel)
    | 1, _, 5, _ => exact tlS1_5 c hc w a t hb
    | 1, _, s + 6, hs => omega
    | 2, _, 0, _ => exact tlS2_0 c hc w a t hb
    | 2, _, 1, _ => exact absurd hf (by decide +kernel)
    | 2, _, 2, _ => exact absurd hf (by decide +kernel)
    | 2, _, 3, _ => exact absurd hf (by decide +kernel)
    | 2, _, 4, _ => exact absurd hf (by decide +kernel)
    | 2, _, 5, _ => exact absurd hf (by decide +kernel)
    | 2, _, s + 6, hs => omega
    | 3, _, 0, _ => exact absurd hf (by decide +kernel)
    | 3, _, 1, _ => exact tlS3_1 c hc w a t hb
    | 3, _, 2, _ => exact tlS3_2 c hc w a t hb
    | 3, _, 3, _ => exact absurd hf (by decide +kernel)
    | 3, _, 4, _ => exact absurd hf (by decide +kernel)
    | 3, _, 5, _ => exact tlS3_5 c hc w a t hb
    | 3, _, s + 6, hs => omega
    | 4, _, 0, _ => exact absurd hf (by decide +kernel)
    | 4, _, 1, _ => exact absurd hf (by decide +kernel)
    | 4, _, 2, _ => exact tlS4_2 c hc w a t hb
    | 4, _, 3, _ => exact absurd hf (by decide +kernel)
    | 4, _, 4, _ => exact absurd hf (by decide +kernel)
    | 4, _, 5, _ => exact absurd hf (by decide +kernel)
    | 4, _, s + 6, hs => omega
    | 5, _, 0, _ => exact tlS5_0 c hc w a t hb
    | 5, _, 1, _ => exact tlS5_1 c hc w a t hb
    | 5, _, 2, _ => exact absurd hf (by decide +kernel)
    | 5, _, 3, _ => exact tlS5_3 c hc w a t hb
    | 5, _, 4, _ => exact absurd hf (by decide +kernel)
    | 5, _, 5, _ => exact tlS5_5 c hc w a t hb
    | 5, _, s + 6, hs => omega
    | 6, _, 0, _ => exact absurd hf (by decide +kernel)
    | 6, _, 1, _ => exact absurd hf (by decide +kernel)
    | 6, _, 2, _ => exact absurd hf (by decide +kernel)
    | 6, _, 3, _ => exact tlS6_3 c hc w a t hb
    | 6, _, 4, _ => exact absurd hf (by decide +kernel)
    | 6, _, 5, _ => exact absurd hf (by decide +kernel)
    | 6, _, s + 6, hs => omega
    | 7, _, 0, _ => exact absurd hf (by decide +kernel)
    | 7, _, 1, _ => exact absurd hf (by decide +kernel)
    | 7, _, 2, _ => exact tlS7_2 c hc w a t hb
    | 7, _, 3, _ => exact absurd hf (by decide +kernel)
    | 7, _, 4, _ => exact tlS7_4 c hc w a t hb
    | 7, _, 5, _ => exact absurd hf (by decide +kernel)
    | 7, _, s + 6, hs => omega
    | 8, _, 0, _ => exact absurd hf (by decide +kernel)
    | 8, _, 1, _ => exact absurd hf (by decide +kernel)
    | 8, _, 2, _ => exact absurd hf (by decide +kernel)
    | 8, _, 3, _ => exact absurd hf (by decide +kernel)
    | 8, _, 4, _ => exact tlS8_4 c hc w a t hb
    | 8, _, 5, _ => exact absurd hf (by decide +kernel)
    | 8, _, s + 6, hs => omega
    | 9, _, 0, _ => exact tlS9_0 c hc w a t hb
    | 9, _, 1, _ => exact tlS9_1 c hc w a t hb
    | 9, _, 2, _ => exact tlS9_2 c hc w a t hb
    | 9, _, 3, _ => exact tlS9_3 c hc w a t hb
    | 9, _, 4, _ => exact absurd hf (by decide +kernel)
    | 9, _, 5, _ => exact tlS9_5 c hc w a t hb
    | 9, _, s + 6, hs => omega
    | k + 10, hk, _, _ => omega
  nil := fun k hk w hw => by
    match k, hk with
    | 0, _ => exact nilR_ok (k := 0) (by decide) (pn0 true) hw
    | 1, _ => exact nilR_ok (k := 1) (by decide) (pn1 true) hw
    | 2, _ => exact nilR_ok (k := 2) (by decide) (pn2 true) hw
    | 3, _ => exact nilR_ok (k := 3) (by decide) (pn3 true) hw
    | 4, _ => exact nilR_ok (k := 4) (by decide) (pn4 true) hw
    | 5, _ => exact nilR_ok (k := 5) (by decide) (pn5 true) hw
    | 6, _ => exact nilR_ok (k := 6) (by decide) (pn6 true) hw
    | 7, _ => exact nilR_ok (k := 7) (by decide) (pn7 true) hw
    | 8, _ => exact nilR_ok (k := 8) (by decide) (pn8 true) hw
    | 9, _ => exact nilR_ok (k := 0) (by decide) (pn0 true) hw
    | k + 10, hk => omega
end Go.Proofs.YtbhbdeelpopgoaaGreatDoor.E
