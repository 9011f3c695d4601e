/- EncodeMakes' walk. -/
import Derived.Test.YtinpcimogojefaaKb
import Derived.Test.YtinpcimogojefaaEy
namespace Go.Proofs.Ytinpcimogojefaa
open Go Go.Cx Go.RowKit
set_option linter.unusedVariables false
set_option linter.unusedSimpArgs false
set_option maxHeartbeats 4000000
attribute [local irreducible] J JC thenK blockK loopK roundK drawK retK QW Qt pel List.set Calls
attribute [local irreducible] JE Br eK0 eK2 eK3 brK
def small3 (T : List (List Int)) : Prop := ∀ r, r ∈ T → r.length ≤ 3
theorem small3.nil : small3 [] := fun r h => by cases h
theorem small3.app {T : List (List Int)} {r : List Int} (h : small3 T) (hr : r.length ≤ 3) : small3 (T ++ [r]) := fun x hx => by
  rcases List.mem_append.1 hx with hx | hx
  · exact h x hx
  · rw [List.mem_singleton.1 hx]; exact hr
theorem small3.cl {T : List (List Int)} {l : List Int} (h : small3 T) (hl : l.length ≤ 3) : small3 (clF T l) := by
  unfold clF
  split
  · exact h
  · exact h.app (Nat.le_trans (List.length_filter_le _ _) hl)
theorem small3.step {T : List (List Int)} (v d h l : Int) (hT : small3 T) : small3 (stepP T v d h l) := small3.cl (small3.cl (small3.cl (small3.cl hT (Nat.le_refl _)) (Nat.le_refl _)) (Nat.le_refl _)) (Nat.le_refl _)
theorem small3.row (least v c : Int) (nx : Int → Option Int) : ∀ (row : List Int) (d : Int) (T : List (List Int)), small3 T → small3 (rowF least v c nx row d T)
  | [], _, _, h => h
  | _ :: row, d, _, h => small3.row least v c nx row (d + 1) _ (h.step _ _ _ _)
theorem small3.sums (least : Int) : ∀ (cs ls : List Int) (rows : List (List Int)) (d : Int) (T : List (List Int)), small3 T → small3 (sumsF least cs ls rows d T)
  | [], _, _, _, _, h => by simpa [sumsF] using h
  | _ :: _, [], _, _, _, h => by simpa [sumsF] using h
  | _ :: _, _ :: _, [], _, _, h => by simpa [sumsF] using h
  | c :: cs, l :: ls, r :: rows, d, T, h => by
    rw [sumsF]
    exact small3.sums least cs ls rows _ _ (small3.row _ _ _ _ _ _ _ h)
theorem small3.one {T : List (List Int)} (cs ls : List Int) (least : Int) (rows : List (List Int)) (d : Int) (h : small3 T) : small3 (oneF T cs ls least rows d) := by
  unfold oneF
  split
  · split
    · exact h.app (by simp)
    · exact h
  · exact small3.sums _ _ _ _ _ _ (h.app (by simp))
theorem runE_small : ∀ (l : List PS) (N : Int) (T : List (List Int)) (r : Int × List (List Int)), small3 T → T.length ≤ 4096 → runE l N T = some r → small3 r.2 ∧ r.2.length ≤ 4096
  | [], N, T, r, h, hl, e => by
    simp only [runE, Option.some.injEq] at e
    subst e
    exact ⟨h, hl⟩
  | s :: l, N, T, r, h, hl, e => by
    rw [runE] at e
    split at e
    · cases e
    · split at e
      · cases e
      · rename_i h1 h2
        exact runE_small l _ _ r (h.one _ _ _ _ _) (Nat.not_lt.1 h2) e
theorem encR_small (n : Int) (l : List PS) : small3 (encR n l).2.2 ∧ (encR n l).2.2.length ≤ 4096 := by
  unfold encR
  split
  · exact ⟨small3.nil, by simp⟩
  split
  · exact ⟨small3.nil, by simp⟩
  split
  · exact ⟨small3.nil, by simp⟩
  cases h : runE l n [] with
  | none => exact ⟨small3.nil, by simp [finE]⟩
  | some r => exact runE_small l n [] r small3.nil (by simp) h
theorem encR_lls {n : Int} {l : List PS} {tv : Value} {g0 g1 : Heap} (h : ThV (encR n l).2.1 (encR n l).2.2 tv g0 g1) : ∃ a cap vs, tv = .agg ⟨[.int .i64 (encR n l).2.1, .slice a vs.length cap]⟩ ∧ LLS a vs (g0 ++ g1) ∧ vs.map (·.l) = (encR n l).2.2 := by
  obtain ⟨aa, ka, vs, h9, oo, oi, hvs⟩ := h
  have hs := encR_small n l
  refine ⟨aa, ka, vs, h9, LLS.of ⟨oo.sl.sub (fun _ hx => List.mem_append_left _ hx), fun v hv => (oi v hv).sub (fun _ hx => List.mem_append_right _ hx)⟩ (by rw [hvs]; omega) (fun r hr => by rw [hvs] at hr; have := hs.1 r hr; omega), hvs⟩
theorem copy_small {ss ts : List SV} (hps : ts.map psV = ss.map psV) (h : ∀ s, s ∈ ss → s.cs.length ≤ 100 ∧ s.ls.length ≤ 100) : ∀ s, s ∈ ts → s.cs.length ≤ 1000000 ∧ s.ls.length ≤ 1000000 := fun s hs => by
  have hm : psV s ∈ ss.map psV := hps ▸ List.mem_map_of_mem hs
  obtain ⟨t, ht, e⟩ := List.mem_map.1 hm
  have h1 : t.cs = s.cs := congrArg (fun x : PS => x.1) e
  have h2 : t.ls = s.ls := congrArg (fun x : PS => x.2.1) e
  have := h t ht
  rw [h1, h2] at this
  omega
theorem beq_tr (e : Int) : (some (Value.bool (e == e)) : Option Value) = some (.bool true) := by simp
set_option maxHeartbeats 8000000 in
theorem makes_walk (n : Int) (a : Option Addr) (cap : Nat) (ss : List SV) (h : Heap) (hs : SumsIn a ss h) (hl : ss.length ≤ 9223372036854775807) (w : World) (hw : Holds h w) :
    Calls Try.prog 4 #[.int .i64 n, .slice a ss.length cap] w fun e w' => e = .returned (.bool true) ∧ Below w.heap.size w w' := by
  have q0 : ∀ L, RdH h L h := fun L => RdH.old fun _ hh => hh
  have cL := fun w hw => light_any a cap ss h hs hl w hw
  refine calls_of_JC (R := h) Try.func4 Try.ntmps4 rfl rfl (hw) ?_
  cases hlt : lightP ss with
  | false =>
    rw [hlt] at cL
    repeat' first
      | (refine J.isJ ?_; first | (first | (refine J.fc 13 ?_; refine J.call0 eLight rfl rfl (fun w hw => cL w (hw.rdH (q0 _))) ?_) | (refine J.fc 14 ?_; refine J.call0 eWorks rfl rfl (fun w hw => works_any w) ?_)) | (first | (refine J.o 0 ?_; refine J.ev' hΓ ?_) | refine J.nil ?_ | refine J.kd ?_ | (refine J.o 4 ?_; first | refine J.e0 hΓ ?_ | refine J.lT default hΓ ?_ | refine J.e1 hΓ ?_ | refine J.e2 hΓ ?_ | refine J.lR hΓ ?_) | (refine J.o 3 ?_; first | refine J.iA hΓ ?_ | refine J.iJ hΓ ?_ | refine J.fP hΓ ?_ | refine J.iC hΓ ?_ | refine J.ev' hΓ ?_) | (refine J.o 1 ?_; first | refine J.ad ?_ | refine J.sb ?_ | refine J.ng ?_ | refine J.mu ?_) | (refine J.o 5 ?_; first | refine J.t0 hΓ ?_ | refine J.t1 hΓ ?_ | refine J.t2 hΓ ?_) | (refine J.o 6 ?_; refine J.bx (fun _ => ?_)) | (refine J.o 7 ?_; refine J.al hΓ (fun _ => ?_)) | (refine J.o 8 ?_; refine J.bd hΓ ?_) | (refine J.o 9 ?_; refine J.bl hΓ (fun _ => ?_)) | (refine J.o 10 ?_; first | refine J.ls hΓ ?_ | refine J.ev' hΓ ?_) | (refine J.o 11 ?_; refine J.ev' hΓ ?_) | refine J.kn ?_) | ((fail_if_success refine J.wt ?_); refine J.gc rfl rfl (fun hc => ?_) (fun hc => ?_) <;> ((try simp only [decide_eq_true_eq, decide_eq_false_iff_not, beq_iff_eq, beq_eq_false_iff_ne, bne_iff_ne, bne_eq_false_iff_eq, Bool.not_eq_true', Bool.not_eq_false', Bool.not_eq_true, Bool.not_eq_false] at hc) <;> first | (first | (exact absurd rfl hc) | (exfalso; omega) | (exact absurd (hc.symm.trans (by assumption : _ = false)) (by decide)) | (exact absurd (hc.symm.trans (by assumption : _ = true)) (by decide))) | skip)))
      | (first | refine JC.seq ?_ | refine JC.region ?_ | refine JC.block ?_ | refine JC.ret ?_ | refine JC.exit ?_ | refine JC.skip ?_ | refine thenK.nn ?_ | refine thenK.r ?_ | refine thenK.x ?_ | refine blockK.nn ?_ | refine blockK.r ?_ | refine blockK.hit rfl ?_ | refine blockK.miss rfl ?_ | refine JC.condT rfl ?_ | refine JC.condF rfl ?_ | (refine JC.cond rfl (fun hc => ?_) (fun hc => ?_) <;> ((try simp only [decide_eq_true_eq, decide_eq_false_iff_not, beq_iff_eq, beq_eq_false_iff_ne, bne_iff_ne, bne_eq_false_iff_eq, Bool.not_eq_true', Bool.not_eq_false', Bool.not_eq_true, Bool.not_eq_false] at hc) <;> first | (first | (exact absurd rfl hc) | (exfalso; omega) | (exact absurd (hc.symm.trans (by assumption : _ = false)) (by decide)) | (exact absurd (hc.symm.trans (by assumption : _ = true)) (by decide))) | skip)) | (refine JC.drawA [] (by kernel_rfl) (by kernel_rfl) ?_) | refine drawK.nn ?_ | refine roundK.nn ?_ | refine roundK.r ?_ | refine roundK.x ?_ | refine loopK.r ?_ | refine loopK.x ?_)
      | (fail)
      | fail
    all_goals first | (exfalso; omega) | exact ret1f rfl rfl rfl (fun w1 hw => ⟨rfl, hw.below⟩)
  | true =>
    rw [hlt] at cL
    have hlt2 := hlt
    unfold lightP at hlt2
    simp only [Bool.and_eq_true, List.all_eq_true, decide_eq_true_eq] at hlt2
    obtain ⟨hsz, h40⟩ := hlt2
    have cC := fun w hw => copied_any a cap ss h hs hlt w hw
    have cR : ∀ w, Holds h w → Calls Try.prog 21 #[.int .i64 n, .slice a ss.length cap] w (Gives (fun v g => ∃ a cap vs, v = .tuple #[.agg ⟨[.int .i64 (encR n (ss.map psV)).2.1, .slice a vs.length cap]⟩, .int .i64 (encR n (ss.map psV)).1] ∧ LLS a vs g ∧ vs.map (·.l) = (encR n (ss.map psV)).2.2) w) := fun w hw => by
      refine (encodeR_any n a cap ss h hs (by omega) w hw).mono ?_
      rintro e w' ⟨v, g, h1, h2, h3, h4, h5, tv, g0, g1, h6, rfl, h8⟩
      obtain ⟨aa, ka, vs, rfl, lls, hvs⟩ := encR_lls h8
      exact ⟨v, _, h1, h2, h3, h4, h5, aa, ka, vs, h6, lls, hvs⟩
    have cE : ∀ (a' : Option Addr) (cap' : Nat) (ts : List SV) (g : Heap), SumsIn a' ts g → ts.map psV = ss.map psV → ∀ w, Holds g w → Calls Try.prog 20 #[.int .i64 n, .slice a' ts.length cap'] w (Gives (fun v g => ∃ a cap vs, v = .tuple #[.agg ⟨[.int .i64 (encR n (ss.map psV)).2.1, .slice a vs.length cap]⟩, .int .i64 (encR n (ss.map psV)).1] ∧ LLS a vs g ∧ vs.map (·.l) = (encR n (ss.map psV)).2.2) w) := fun a' cap' ts g hts hps w hw => by
      have hlen : ts.length = ss.length := by simpa using congrArg List.length hps
      refine (encode_any n a' cap' ts g hts (by omega) w hw).mono ?_
      rw [hps]
      rintro e w' ⟨v, g, h1, h2, h3, h4, h5, tv, g0, g1, h6, rfl, h8⟩
      obtain ⟨aa, ka, vs, rfl, lls, hvs⟩ := encR_lls h8
      exact ⟨v, _, h1, h2, h3, h4, h5, aa, ka, vs, h6, lls, hvs⟩
    have hbt := beq_tr (encR n (ss.map psV)).1
    generalize (encR n (ss.map psV)).1 = ec at *
    generalize (encR n (ss.map psV)).2.1 = eN at *
    generalize (encR n (ss.map psV)).2.2 = eT at *
    have cS : ∀ (a b : Option Addr) (ca cb : Nat) (vs ws : List HV) (hx hy : Heap), LLS a vs hx → LLS b ws hy → vs.map (·.l) = eT → ws.map (·.l) = eT → ∀ w, Holds hx w → Holds hy w → Calls Try.prog 22 #[.agg ⟨[.int .i64 eN, .slice a vs.length ca]⟩, .agg ⟨[.int .i64 eN, .slice b ws.length cb]⟩] w fun e w' => e = .returned (.bool true) ∧ Below w.heap.size w w' := fun a b ca cb vs ws hx hy sx sy e1 e2 w h1 h2 => by
      have c := same05_any eN eN a b ca cb vs ws hx hy sx sy w h1 h2
      rw [e1, e2, decide_eq_true ⟨rfl, rfl⟩] at c
      exact c
    repeat' first
      | (refine J.isJ ?_; first | (first | (refine J.fc 13 ?_; refine J.call0 eLight rfl rfl (fun w hw => cL w (hw.rdH (q0 _))) ?_) | (refine J.fc 14 ?_; refine J.call0 eWorks rfl rfl (fun w hw => works_any w) ?_) | (refine J.fc 15 ?_; refine J.call1 eCopied rfl rfl (fun w hw => cC w (hw.rdH (q0 _))) ?_; rintro _ hcp ⟨ac, kc, ts, rfl, hin, hps⟩; have htl : ts.length = ss.length := (by simpa using congrArg List.length hps); have htn := copy_small hps hsz) | (refine J.fc 20 ?_; refine J.call1 eEncode rfl rfl (fun w hw => cE _ _ _ _ hin hps w (hw.rdH (by first | exact RdH.hd | exact RdH.hd.tl | exact RdH.hd.tl.tl | exact RdH.hd.tl.tl.tl | exact RdH.hd.tl.tl.tl.tl | exact RdH.hd.tl.tl.tl.tl.tl | exact RdH.hd.tl.tl.tl.tl.tl.tl | exact RdH.hd.tl.tl.tl.tl.tl.tl.tl | exact RdH.old (fun _ hh => hh) | assumption))) ?_; rintro _ hgA ⟨aA, kA, vA, rfl, llA, hvA⟩) | (refine J.fc 21 ?_; refine J.call1 eEncodeR rfl rfl (fun w hw => cR w (hw.rdH (q0 _))) ?_; rintro _ hgB ⟨aB, kB, vB, rfl, llB, hvB⟩) | (refine J.o 11 ?_; refine J.ev' (v := .bool true) hΓ ?_ (h := hbt)) | (refine J.fc 22 ?_; refine J.call0 eSame05 rfl rfl (fun w hw => cS _ _ _ _ _ _ _ _ llA llB hvA hvB w (hw.rdH (by first | exact RdH.hd | exact RdH.hd.tl | exact RdH.hd.tl.tl | exact RdH.hd.tl.tl.tl | exact RdH.hd.tl.tl.tl.tl | exact RdH.hd.tl.tl.tl.tl.tl | exact RdH.hd.tl.tl.tl.tl.tl.tl | exact RdH.hd.tl.tl.tl.tl.tl.tl.tl | exact RdH.old (fun _ hh => hh) | assumption)) (hw.rdH (by first | exact RdH.hd | exact RdH.hd.tl | exact RdH.hd.tl.tl | exact RdH.hd.tl.tl.tl | exact RdH.hd.tl.tl.tl.tl | exact RdH.hd.tl.tl.tl.tl.tl | exact RdH.hd.tl.tl.tl.tl.tl.tl | exact RdH.hd.tl.tl.tl.tl.tl.tl.tl | exact RdH.old (fun _ hh => hh) | assumption))) ?_) | (refine J.fc 19 ?_; refine J.call0 eSameL rfl rfl (fun w hw => sameL_any _ _ _ _ ts ss _ h hin hs hps (by omega) htn w (hw.rdH (by first | exact RdH.hd | exact RdH.hd.tl | exact RdH.hd.tl.tl | exact RdH.hd.tl.tl.tl | exact RdH.hd.tl.tl.tl.tl | exact RdH.hd.tl.tl.tl.tl.tl | exact RdH.hd.tl.tl.tl.tl.tl.tl | exact RdH.hd.tl.tl.tl.tl.tl.tl.tl | exact RdH.old (fun _ hh => hh) | assumption)) (hw.rdH (q0 _))) ?_) | (refine J.o 4 ?_; first | refine J.e0 hΓ ?_ | refine J.e1 hΓ ?_ | refine J.e2 hΓ ?_ | refine J.e3 hΓ ?_ | refine J.e4 hΓ ?_)) | (first | (refine J.o 0 ?_; refine J.ev' hΓ ?_) | refine J.nil ?_ | refine J.kd ?_ | (refine J.o 4 ?_; first | refine J.e0 hΓ ?_ | refine J.lT default hΓ ?_ | refine J.e1 hΓ ?_ | refine J.e2 hΓ ?_ | refine J.lR hΓ ?_) | (refine J.o 3 ?_; first | refine J.iA hΓ ?_ | refine J.iJ hΓ ?_ | refine J.fP hΓ ?_ | refine J.iC hΓ ?_ | refine J.ev' hΓ ?_) | (refine J.o 1 ?_; first | refine J.ad ?_ | refine J.sb ?_ | refine J.ng ?_ | refine J.mu ?_) | (refine J.o 5 ?_; first | refine J.t0 hΓ ?_ | refine J.t1 hΓ ?_ | refine J.t2 hΓ ?_) | (refine J.o 6 ?_; refine J.bx (fun _ => ?_)) | (refine J.o 7 ?_; refine J.al hΓ (fun _ => ?_)) | (refine J.o 8 ?_; refine J.bd hΓ ?_) | (refine J.o 9 ?_; refine J.bl hΓ (fun _ => ?_)) | (refine J.o 10 ?_; first | refine J.ls hΓ ?_ | refine J.ev' hΓ ?_) | (refine J.o 11 ?_; refine J.ev' hΓ ?_) | refine J.kn ?_) | ((fail_if_success refine J.wt ?_); refine J.gc rfl rfl (fun hc => ?_) (fun hc => ?_) <;> ((try simp only [decide_eq_true_eq, decide_eq_false_iff_not, beq_iff_eq, beq_eq_false_iff_ne, bne_iff_ne, bne_eq_false_iff_eq, Bool.not_eq_true', Bool.not_eq_false', Bool.not_eq_true, Bool.not_eq_false] at hc) <;> first | (first | (exact absurd rfl hc) | (exfalso; omega) | (exact absurd (hc.symm.trans (by assumption : _ = false)) (by decide)) | (exact absurd (hc.symm.trans (by assumption : _ = true)) (by decide))) | skip)))
      | (first | refine JC.seq ?_ | refine JC.region ?_ | refine JC.block ?_ | refine JC.ret ?_ | refine JC.exit ?_ | refine JC.skip ?_ | refine thenK.nn ?_ | refine thenK.r ?_ | refine thenK.x ?_ | refine blockK.nn ?_ | refine blockK.r ?_ | refine blockK.hit rfl ?_ | refine blockK.miss rfl ?_ | refine JC.condT rfl ?_ | refine JC.condF rfl ?_ | (refine JC.cond rfl (fun hc => ?_) (fun hc => ?_) <;> ((try simp only [decide_eq_true_eq, decide_eq_false_iff_not, beq_iff_eq, beq_eq_false_iff_ne, bne_iff_ne, bne_eq_false_iff_eq, Bool.not_eq_true', Bool.not_eq_false', Bool.not_eq_true, Bool.not_eq_false] at hc) <;> first | (first | (exact absurd rfl hc) | (exfalso; omega) | (exact absurd (hc.symm.trans (by assumption : _ = false)) (by decide)) | (exact absurd (hc.symm.trans (by assumption : _ = true)) (by decide))) | skip)) | (refine JC.drawA [] (by kernel_rfl) (by kernel_rfl) ?_) | refine drawK.nn ?_ | refine roundK.nn ?_ | refine roundK.r ?_ | refine roundK.x ?_ | refine loopK.r ?_ | refine loopK.x ?_)
      | (fail)
      | fail
    all_goals first | (exfalso; omega) | exact ret1f rfl rfl rfl (fun w1 hw => ⟨rfl, hw.below⟩)
end Go.Proofs.Ytinpcimogojefaa
