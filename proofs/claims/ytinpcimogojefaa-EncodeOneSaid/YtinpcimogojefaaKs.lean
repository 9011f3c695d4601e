/- What Encode hands back, as lists; copies. -/
import Derived.Test.YtinpcimogojefaaKb
namespace Go.Proofs.Ytinpcimogojefaa
open Go Go.Cx Go.RowKit
set_option linter.unusedVariables false
set_option linter.unusedSimpArgs false
set_option maxHeartbeats 4000000
attribute [local irreducible] J JC thenK blockK loopK roundK drawK retK QW Qt pel List.set Calls
def small3 (T : List (List Int)) : Prop := ∀ r, r ∈ T → r.length ≤ 3
theorem small3.nil : small3 [] := fun r h => by cases h
theorem small3.app {T : List (List Int)} {r : List Int} (h : small3 T) (hr : r.length ≤ 3) : small3 (T ++ [r]) := fun x hx => by
  rcases List.mem_append.1 hx with hx | hx
  · exact h x hx
  · rw [List.mem_singleton.1 hx]; exact hr
theorem small3.cl {T : List (List Int)} {l : List Int} (h : small3 T) (hl : l.length ≤ 3) : small3 (clF T l) := by
  unfold clF
  split
  · exact h
  · exact h.app (Nat.le_trans (List.length_filter_le _ _) hl)
theorem small3.step {T : List (List Int)} (v d h l : Int) (hT : small3 T) : small3 (stepP T v d h l) := small3.cl (small3.cl (small3.cl (small3.cl hT (Nat.le_refl _)) (Nat.le_refl _)) (Nat.le_refl _)) (Nat.le_refl _)
theorem small3.row (least v c : Int) (nx : Int → Option Int) : ∀ (row : List Int) (d : Int) (T : List (List Int)), small3 T → small3 (rowF least v c nx row d T)
  | [], _, _, h => h
  | _ :: row, d, _, h => small3.row least v c nx row (d + 1) _ (h.step _ _ _ _)
theorem small3.sums (least : Int) : ∀ (cs ls : List Int) (rows : List (List Int)) (d : Int) (T : List (List Int)), small3 T → small3 (sumsF least cs ls rows d T)
  | [], _, _, _, _, h => by simpa [sumsF] using h
  | _ :: _, [], _, _, _, h => by simpa [sumsF] using h
  | _ :: _, _ :: _, [], _, _, h => by simpa [sumsF] using h
  | c :: cs, l :: ls, r :: rows, d, T, h => by
    rw [sumsF]
    exact small3.sums least cs ls rows _ _ (small3.row _ _ _ _ _ _ _ h)
theorem small3.one {T : List (List Int)} (cs ls : List Int) (least : Int) (rows : List (List Int)) (d : Int) (h : small3 T) : small3 (oneF T cs ls least rows d) := by
  unfold oneF
  split
  · split
    · exact h.app (by simp)
    · exact h
  · exact small3.sums _ _ _ _ _ _ (h.app (by simp))
theorem runE_small : ∀ (l : List PS) (N : Int) (T : List (List Int)) (r : Int × List (List Int)), small3 T → T.length ≤ 4096 → runE l N T = some r → small3 r.2 ∧ r.2.length ≤ 4096
  | [], N, T, r, h, hl, e => by
    simp only [runE, Option.some.injEq] at e
    subst e
    exact ⟨h, hl⟩
  | s :: l, N, T, r, h, hl, e => by
    rw [runE] at e
    split at e
    · cases e
    · split at e
      · cases e
      · rename_i h1 h2
        exact runE_small l _ _ r (h.one _ _ _ _ _) (Nat.not_lt.1 h2) e
theorem encR_small (n : Int) (l : List PS) : small3 (encR n l).2.2 ∧ (encR n l).2.2.length ≤ 4096 := by
  unfold encR
  split
  · exact ⟨small3.nil, by simp⟩
  split
  · exact ⟨small3.nil, by simp⟩
  split
  · exact ⟨small3.nil, by simp⟩
  cases h : runE l n [] with
  | none => exact ⟨small3.nil, by simp [finE]⟩
  | some r => exact runE_small l n [] r small3.nil (by simp) h
theorem encR_lls {n : Int} {l : List PS} {tv : Value} {g0 g1 : Heap} (h : ThV (encR n l).2.1 (encR n l).2.2 tv g0 g1) : ∃ a cap vs, tv = .agg ⟨[.int .i64 (encR n l).2.1, .slice a vs.length cap]⟩ ∧ LLS a vs (g0 ++ g1) ∧ vs.map (·.l) = (encR n l).2.2 := by
  obtain ⟨aa, ka, vs, h9, oo, oi, hvs⟩ := h
  have hs := encR_small n l
  refine ⟨aa, ka, vs, h9, LLS.of ⟨oo.sl.sub (fun _ hx => List.mem_append_left _ hx), fun v hv => (oi v hv).sub (fun _ hx => List.mem_append_right _ hx)⟩ (by rw [hvs]; omega) (fun r hr => by rw [hvs] at hr; have := hs.1 r hr; omega), hvs⟩
theorem copy_small {ss ts : List SV} (hps : ts.map psV = ss.map psV) (h : ∀ s, s ∈ ss → s.cs.length ≤ 100 ∧ s.ls.length ≤ 100) : ∀ s, s ∈ ts → s.cs.length ≤ 1000000 ∧ s.ls.length ≤ 1000000 := fun s hs => by
  have hm : psV s ∈ ss.map psV := hps ▸ List.mem_map_of_mem hs
  obtain ⟨t, ht, e⟩ := List.mem_map.1 hm
  have h1 : t.cs = s.cs := congrArg (fun x : PS => x.1) e
  have h2 : t.ls = s.ls := congrArg (fun x : PS => x.2.1) e
  have := h t ht
  rw [h1, h2] at this
  omega
end Go.Proofs.Ytinpcimogojefaa
