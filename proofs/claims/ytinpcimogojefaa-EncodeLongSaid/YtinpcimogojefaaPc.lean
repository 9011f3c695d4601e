/- EncodeLong, plain. -/
import Derived.Test.YtinpcimogojefaaKg
import Derived.Test.YtinpcimogojefaaKb
namespace Go.Proofs.Ytinpcimogojefaa
open Go Go.Cx Go.RowKit
set_option linter.unusedVariables false
set_option linter.unusedSimpArgs false
set_option maxHeartbeats 4000000
attribute [local irreducible] J JC thenK blockK loopK roundK drawK retK QW Qt pel List.set Calls
def sA : PS := (List.replicate 16 1, litsF 16, 8)
def sB : PS := (List.replicate 16 1 ++ List.replicate 16 1, litsF 32, 12)
theorem long_a : (stR sA).1 = 0 := by decide +kernel
theorem long_b : (stR sB).1 = 2 := by decide +kernel
theorem long_c : (encR 32 [sB]).1 = 2 := by decide +kernel
theorem long_d : (encR 16 [sA, sA]).1 = 2 := by decide +kernel
theorem long_e {l : List PS} (h : l.length = 4097) : (encR 1 l).1 = 2 := by
  unfold encR
  rw [if_neg (by omega), if_pos (by omega)]
theorem rep_check (k : Int) (h : k = 0 ∨ k = 1) (m : Nat) : ∀ s, s ∈ List.replicate m (([], [], k) : PS) → checkS s.1 s.2.1 s.2.2 128 = 0 := fun s hs => by
  rw [(List.mem_replicate.1 hs).2]
  exact check0 (least := k) (by omega) (by omega)
theorem rows_nil (k : Int) : totF (rowsP (([], [], k) : PS)) = 0 := rfl
theorem long_f0 (N : Int) (T : List (List Int)) (hN : N ≤ 128) (hT : T.length ≤ 4096) : ∀ m, runE (List.replicate m (([], [], 0) : PS)) N T = some (N, T)
  | 0 => rfl
  | m + 1 => by
    have hnf : nfP (([], [], 0) : PS) = ([], [], 0) := by
      show normS [] [] 0 = _
      rw [normS_nil, if_pos (by omega)]
    have hone : ∀ d, oneP T (([], [], 0) : PS) d = T := fun d => rfl
    have g := runE_cons ([], [], 0) (List.replicate m (([], [], 0) : PS)) N T
    rw [hnf, rows_nil, hone, if_neg (by omega), if_neg (by omega)] at g
    have e : N + ((0 : Nat) : Int) = N := by omega
    rw [e] at g
    exact g.trans (long_f0 N T hN hT m)
theorem long_f : encR 128 (List.replicate 4096 (([], [], 0) : PS)) = (0, 128, []) := by
  unfold encR
  rw [if_neg (by omega), if_neg (by rw [List.length_replicate]; omega), if_neg (fun hb => hb (badE_zero (rep_check 0 (.inl rfl) 4096))), long_f0 128 [] (by omega) (by simp)]
  rfl
theorem long_g0 (N : Int) (hN : N ≤ 128) : ∀ (m : Nat) (T : List (List Int)), T.length + m ≤ 4096 → runE (List.replicate m (([], [], 1) : PS)) N T = some (N, T ++ List.replicate m [])
  | 0, T, _ => by
    show some (N, T) = some (N, T ++ [])
    rw [List.append_nil]
  | m + 1, T, hT => by
    have hnf : nfP (([], [], 1) : PS) = ([], [], 1) := by
      show normS [] [] 1 = _
      rw [normS_nil, if_neg (by omega)]
    have hone : ∀ d, oneP T (([], [], 1) : PS) d = T ++ [[]] := fun d => rfl
    have g := runE_cons ([], [], 1) (List.replicate m (([], [], 1) : PS)) N T
    rw [hnf, rows_nil, hone, if_neg (by omega), if_neg (by rw [List.length_append, List.length_singleton]; omega)] at g
    have e : N + ((0 : Nat) : Int) = N := by omega
    rw [e] at g
    have ih := long_g0 N hN m (T ++ [[]]) (by rw [List.length_append, List.length_singleton]; omega)
    rw [List.append_assoc] at ih
    exact g.trans ih
theorem long_g : encR 128 (List.replicate 4096 (([], [], 1) : PS)) = (0, 128, List.replicate 4096 []) := by
  unfold encR
  rw [if_neg (by omega), if_neg (by rw [List.length_replicate]; omega), if_neg (fun hb => hb (badE_zero (rep_check 1 (.inr rfl) 4096))), long_g0 128 (by omega) 4096 [] (by simp), List.nil_append]
  rfl
end Go.Proofs.Ytinpcimogojefaa
