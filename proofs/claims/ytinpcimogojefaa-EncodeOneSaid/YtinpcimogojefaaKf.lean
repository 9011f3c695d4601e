/- EncodeValid: plain law, theory.Check, walk. -/
import Derived.Test.YtinpcimogojefaaKe
namespace Go.Proofs.Ytinpcimogojefaa
open Go Go.Cx Go.RowKit
set_option linter.unusedVariables false
set_option linter.unusedSimpArgs false
set_option maxHeartbeats 4000000
attribute [local irreducible] J JC thenK blockK loopK roundK drawK retK QW Qt pel List.set Calls
attribute [local irreducible] JE Br eK0 eK2 eK3 brK
def absI (x : Int) : Int := max x (-x)
/-- a clause: at most three literals, sorted by variable -/
structure OkC (N : Int) (r : List Int) : Prop where
  n : r.length ≤ 3
  up : r.Pairwise fun a b => absI a < absI b
  v : ∀ x, x ∈ r → x ≠ 0 ∧ -N ≤ x ∧ x ≤ N
def OkT (N : Int) (T : List (List Int)) : Prop := ∀ r, r ∈ T → OkC N r
theorem OkT.nil (N : Int) : OkT N [] := fun r h => by cases h
theorem OkT.mono {N M : Int} {T : List (List Int)} (h : OkT N T) (hN : N ≤ M) : OkT M T := fun r hr => by
  obtain ⟨a, b, c⟩ := h r hr
  exact ⟨a, b, fun x hx => by have := c x hx; omega⟩
theorem OkT.app {N : Int} {T : List (List Int)} {r : List Int} (h : OkT N T) (hr : OkC N r) : OkT N (T ++ [r]) := fun x hx => by
  rcases List.mem_append.1 hx with hx | hx
  · exact h x hx
  · rw [List.mem_singleton.1 hx]; exact hr
theorem OkT.cl {N : Int} {T : List (List Int)} (h : OkT N T) (hN : N ≤ 128) (a b e : Int) (ha : 1 ≤ absI a ∧ absI a < absI b) (hb : absI b ≤ N) (he : e = 1048576 ∨ e = -1048576 ∨ absI b < absI e ∧ absI e ≤ N) : OkT N (clF T [a, b, e]) := by
  unfold absI at ha hb he
  unfold clF
  split
  · exact h
  · rename_i ht
    have ha1 : ¬ a = -1048576 := by omega
    have hb1 : ¬ b = -1048576 := by omega
    refine h.app ?_
    by_cases hel : e = -1048576
    · have hk : keepF [a, b, e] = [a, b] := by simp [keepF, ha1, hb1, hel]
      rw [hk]
      refine ⟨by simp, by simp [absI]; omega, fun x hx => ?_⟩
      simp only [List.mem_cons, List.not_mem_nil, or_false] at hx
      rcases hx with rfl | rfl <;> omega
    · have hk : keepF [a, b, e] = [a, b, e] := by simp [keepF, ha1, hb1, hel]
      rw [hk]
      have het : e ≠ 1048576 := fun h => ht (by simp [h])
      refine ⟨by simp, by simp [absI]; omega, fun x hx => ?_⟩
      simp only [List.mem_cons, List.not_mem_nil, or_false] at hx
      rcases hx with rfl | rfl | rfl <;> omega
theorem OkT.step {N : Int} {T : List (List Int)} (h : OkT N T) (hN : N ≤ 128) (v d hh low : Int) (hv : 1 ≤ absI v ∧ absI v < d) (hd : d ≤ N) (h1 : hh = 1048576 ∨ hh = -1048576 ∨ d < hh ∧ hh ≤ N) (h2 : low = 1048576 ∨ low = -1048576 ∨ d < low ∧ low ≤ N) : OkT N (stepP T v d hh low) := by
  unfold absI at hv
  unfold stepP
  refine OkT.cl (OkT.cl (OkT.cl (OkT.cl h hN _ _ _ ?_ ?_ ?_) hN _ _ _ ?_ ?_ ?_) hN _ _ _ ?_ ?_ ?_) hN _ _ _ ?_ ?_ ?_
  all_goals (unfold absI; omega)
theorem becF_ok {least N d : Int} {nx : Int → Option Int} (h : ∀ p e, nx p = some e → d < e ∧ e ≤ N) (p : Int) : becF least nx p = 1048576 ∨ becF least nx p = -1048576 ∨ d < becF least nx p ∧ becF least nx p ≤ N := by
  unfold becF
  cases hn : nx p with
  | some e => exact .inr (.inr (h p e hn))
  | none =>
    dsimp only
    split
    · exact .inl rfl
    · exact .inr (.inl rfl)
theorem OkT.row {N least v c : Int} {nx : Int → Option Int} (hN : N ≤ 128) : ∀ (row : List Int) (d : Int) (T : List (List Int)), OkT N T → 1 ≤ absI v ∧ absI v < d → d + row.length ≤ N + 1 → (∀ p e, nx p = some e → d + row.length ≤ e ∧ e ≤ N) → OkT N (rowF least v c nx row d T)
  | [], _, _, h, _, _, _ => h
  | p :: row, d, T, h, hv, hd, hx => by
    rw [rowF]
    simp only [List.length_cons] at hd hx
    have hx' : ∀ p e, nx p = some e → d < e ∧ e ≤ N := fun p e he => by have := hx p e he; omega
    exact OkT.row hN row (d + 1) _ (h.step hN v d _ _ hv (by omega) (becF_ok hx' _) (becF_ok hx' _)) (by omega) (by omega) (fun p e he => by have := hx p e he; omega)
theorem OkT.sums {N least : Int} (hN : N ≤ 128) : ∀ (cs ls : List Int) (rows : List (List Int)) (d : Int) (T : List (List Int)), OkT N T → (∀ l, l ∈ ls → 1 ≤ absI l ∧ absI l < d) → d + totF rows ≤ N + 1 → OkT N (sumsF least cs ls rows d T)
  | [], _, _, _, _, h, _, _ => by simpa [sumsF] using h
  | _ :: _, [], _, _, _, h, _, _ => by simpa [sumsF] using h
  | _ :: _, _ :: _, [], _, _, h, _, _ => by simpa [sumsF] using h
  | c :: cs, l :: ls, r :: rows, d, T, h, hl, hd => by
    rw [sumsF]
    rw [totF_cons] at hd
    refine OkT.sums hN cs ls rows _ _ (OkT.row hN r d T h (hl l List.mem_cons_self) (by omega) (fun p e he => ?_)) (fun x hx => by have := hl x (List.mem_cons_of_mem _ hx); omega) (by omega)
    cases rows with
    | nil => cases he
    | cons r2 rows =>
      have h1 := plc_bd _ _ _ _ he
      rw [totF_cons] at hd
      omega
theorem OkT.one {N N0 : Int} {T : List (List Int)} {cs ls : List Int} {least : Int} {rows : List (List Int)} (hN : N ≤ 128) (h0 : 0 ≤ N0) (h : OkT N0 T) (hl : ∀ l, l ∈ ls → 1 ≤ absI l ∧ absI l ≤ N0) (hd : N0 + totF rows = N) (hr : cs.length ≠ 0 → 0 < totF rows) : OkT N (oneF T cs ls least rows (N0 + 1)) := by
  unfold oneF
  have hm := h.mono (M := N) (by omega)
  split
  · split
    · exact hm.app ⟨by simp, List.Pairwise.nil, by simp⟩
    · exact hm
  · rename_i hc
    have := hr hc
    refine OkT.sums hN cs ls rows _ _ (hm.app ⟨by simp, by simp, fun x hx => ?_⟩) (fun l hx => by have := hl l hx; omega) (by omega)
    rw [List.mem_singleton.1 hx]; omega
theorem norm_lits {s : PS} {n : Int} (h : checkS s.1 s.2.1 s.2.2 n = 0) : ∀ l, l ∈ (nfP s).2.1 → 1 ≤ absI l ∧ absI l ≤ n := by
  have hr := norm_ref h
  obtain ⟨hn, hlen, h64, hlit, habs, hl1, hl2⟩ := check_ok h
  have hP0 : pairF s.1 s.2.1 0 = (0, 0) := by
    unfold pairF
    rw [ofS_zero s.1 s.2.1 0 (fun l hm e => by have := hlit l hm; omega)]
    rw [show (-0 : Int) = 0 from rfl, ofS_zero s.1 s.2.1 0 (fun l hm e => by have := hlit l hm; omega)]
  have hf := (foldN_ok s.1 s.2.1 s.2.2 hP0 habs (n.toNat + 1)).2
  unfold nfP normS
  rw [hr]
  generalize foldN (pairF s.1 s.2.1) s.2.2 (n.toNat + 1) = S at *
  dsimp only
  intro l hl
  by_cases h1 : S.least ≤ 0
  · rw [if_pos h1] at hl; cases hl
  rw [if_neg h1] at hl
  by_cases h2 : S.total < S.least
  · rw [if_pos h2] at hl; cases hl
  rw [if_neg h2] at hl
  have := hf l hl
  unfold absI
  omega
theorem rows_tot {s : PS} {n : Int} (h : checkS s.1 s.2.1 s.2.2 n = 0) (hc : (nfP s).1.length ≠ 0) : 0 < totF (rowsP (nfP s)) := by
  have hf := norm_first h (fun e => hc (by rw [e]; rfl))
  unfold rowsP
  cases hcs : (nfP s).1 with
  | nil => rw [hcs] at hc; exact absurd rfl hc
  | cons c cs =>
    rw [rowsF, ← hcs, totF_cons]
    have e : undec (nfP s).2.2 (sumI (nfP s).1) [0] = [0] := by
      unfold undec
      rw [List.filter_cons, List.filter_nil]
      have a1 : decide ((0 : Int) < (nfP s).2.2) = true := decide_eq_true hf.1
      have a2 : decide ((nfP s).2.2 ≤ 0 + sumI (nfP s).1) = true := decide_eq_true (by omega)
      rw [a1, a2]
      rfl
    rw [e]
    show 0 < 1 + _
    omega
theorem runE_ok {n : Int} (h0 : 0 ≤ n) : ∀ (l : List PS) (N : Int) (T : List (List Int)) (r : Int × List (List Int)), (∀ s, s ∈ l → checkS s.1 s.2.1 s.2.2 n = 0) → n ≤ N → N ≤ 128 → T.length ≤ 4096 → OkT N T → runE l N T = some r → OkT r.1 r.2 ∧ n ≤ r.1 ∧ r.1 ≤ 128 ∧ r.2.length ≤ 4096
  | [], N, T, r, _, h1, h2, hl, h3, e => by
    simp only [runE, Option.some.injEq] at e
    subst e
    exact ⟨h3, h1, h2, hl⟩
  | s :: l, N, T, r, hs, h1, h2, hl, h3, e => by
    rw [runE] at e
    split at e
    · cases e
    · rename_i h4
      split at e
      · cases e
      · rename_i h5
        have hck := hs s List.mem_cons_self
        refine runE_ok h0 l _ _ r (fun x hx => hs x (List.mem_cons_of_mem _ hx)) (by omega) (by omega) (Nat.not_lt.1 h5) ?_ e
        exact OkT.one (by omega) (by omega) h3 (fun x hx => by have := norm_lits hck x hx; omega) rfl (rows_tot hck)
structure ValidOk (n N : Int) (T : List (List Int)) : Prop where
  t : OkT N T
  n0 : 0 ≤ n
  lo : n ≤ N
  hi : N ≤ 128
  len : T.length ≤ 4096
theorem valid_ok {n : Int} {l : List PS} (h : (encR n l).1 = 0) : ValidOk n (encR n l).2.1 (encR n l).2.2 := by
  unfold encR at h ⊢
  by_cases h1 : n < 0 ∨ 128 < n
  · rw [if_pos h1] at h; cases h
  rw [if_neg h1] at h ⊢
  by_cases h2 : 4096 < l.length
  · rw [if_pos h2] at h; cases h
  rw [if_neg h2] at h ⊢
  by_cases h3 : badE n l ≠ 0
  · rw [if_pos h3] at h; exact absurd h h3
  rw [if_neg h3] at h ⊢
  have hb : badE n l = 0 := Classical.byContradiction h3
  cases hr : runE l n [] with
  | none => rw [hr] at h; cases h
  | some r =>
    have := runE_ok (n := n) (by omega) l n [] r (badE_mem hb) (by omega) (by omega) (by simp) (OkT.nil n) hr
    exact ⟨this.1, by omega, this.2.1, this.2.2.1, this.2.2.2⟩
theorem eTCheck : Entr Try.prog 25 := Entr.of Try.func25 rfl rfl
theorem validB_ok {x N : Int} (h : x ≠ 0 ∧ -N ≤ x ∧ x ≤ N) : validB x N = true := by unfold validB; simp [h]
theorem tcheck_any (N : Int) (a : Option Addr) (cap : Nat) (vs : List HV) (h : Heap) (hr : LLR a vs h) (hok : OkT N (vs.map (·.l))) (hN : 0 ≤ N ∧ N ≤ 128) (hl : vs.length ≤ 4096) (w : World) (hw : Holds h w) :
    Calls Try.prog 25 #[.agg ⟨[.int .i64 N, .slice a vs.length cap]⟩] w fun e w' => e = .returned (.int .i64 0) ∧ Below w.heap.size w w' := by
  have q0 : ∀ L, RdH h L h := fun L => RdH.old fun _ hh => hh
  obtain ⟨ho, hi⟩ := hr
  refine calls_of_JC (R := h) Try.func25 Try.ntmps25 rfl rfl (hw) ?_
  repeat' first
    | (refine J.isJ ?_; (first | (first | (refine J.o 0 ?_; refine J.ev' hΓ ?_) | refine J.nil ?_ | refine J.kd ?_ | (refine J.o 4 ?_; first | refine J.e0 hΓ ?_ | refine J.lT default hΓ ?_ | refine J.e1 hΓ ?_ | refine J.e2 hΓ ?_ | refine J.lR hΓ ?_) | (refine J.o 3 ?_; first | refine J.iA hΓ ?_ | refine J.iJ hΓ ?_ | refine J.fP hΓ ?_ | refine J.iC hΓ ?_ | refine J.ev' hΓ ?_) | (refine J.o 1 ?_; first | refine J.ad ?_ | refine J.sb ?_ | refine J.ng ?_ | refine J.mu ?_) | (refine J.o 5 ?_; first | refine J.t0 hΓ ?_ | refine J.t1 hΓ ?_ | refine J.t2 hΓ ?_) | (refine J.o 6 ?_; refine J.bx (fun _ => ?_)) | (refine J.o 7 ?_; refine J.al hΓ (fun _ => ?_)) | (refine J.o 8 ?_; refine J.bd hΓ ?_) | (refine J.o 9 ?_; refine J.bl hΓ (fun _ => ?_)) | (refine J.o 10 ?_; first | refine J.ls hΓ ?_ | refine J.ev' hΓ ?_) | (refine J.o 11 ?_; refine J.ev' hΓ ?_) | refine J.kn ?_) | ((fail_if_success refine J.wt ?_); refine J.gc rfl rfl (fun hc => ?_) (fun hc => ?_) <;> ((try simp only [decide_eq_true_eq, decide_eq_false_iff_not, beq_iff_eq, beq_eq_false_iff_ne, bne_iff_ne, bne_eq_false_iff_eq, Bool.not_eq_true', Bool.not_eq_false', Bool.not_eq_true, Bool.not_eq_false] at hc) <;> first | (first | (exact absurd rfl hc) | (exfalso; omega) | (exact absurd (hc.symm.trans (by assumption : _ = false)) (by decide)) | (exact absurd (hc.symm.trans (by assumption : _ = true)) (by decide))) | skip))))
    | (first | refine JC.seq ?_ | refine JC.region ?_ | refine JC.block ?_ | refine JC.ret ?_ | refine JC.exit ?_ | refine JC.skip ?_ | refine thenK.nn ?_ | refine thenK.r ?_ | refine thenK.x ?_ | refine blockK.nn ?_ | refine blockK.r ?_ | refine blockK.hit rfl ?_ | refine blockK.miss rfl ?_ | refine JC.condT rfl ?_ | refine JC.condF rfl ?_ | (refine JC.cond rfl (fun hc => ?_) (fun hc => ?_) <;> ((try simp only [decide_eq_true_eq, decide_eq_false_iff_not, beq_iff_eq, beq_eq_false_iff_ne, bne_iff_ne, bne_eq_false_iff_eq, Bool.not_eq_true', Bool.not_eq_false', Bool.not_eq_true, Bool.not_eq_false] at hc) <;> first | (first | (exact absurd rfl hc) | (exfalso; omega) | (exact absurd (hc.symm.trans (by assumption : _ = false)) (by decide)) | (exact absurd (hc.symm.trans (by assumption : _ = true)) (by decide))) | skip)) | (refine JC.drawA [] (by kernel_rfl) (by kernel_rfl) ?_) | refine drawK.nn ?_ | refine roundK.nn ?_ | refine roundK.r ?_ | refine roundK.x ?_ | refine loopK.r ?_ | refine loopK.x ?_)
    | fail
  all_goals first | (exfalso; omega) | skip
  rename_i b1 _ _
  refine JC.gen [(1, .pointer (some ⟨b1, 0, none⟩)), (20, .slice a vs.length cap), (21, .int .i64 vs.length), (22, .int .i64 0)] ⟨rfl, rfl, rfl, rfl, trivial⟩ (fun F => ?_)
  refine JC.loop (fun i => i == 2 || i == 4 || i == 6 || Nat.ble 22 i) (fun m g L => ∃ (k : Nat), g 22 = .int .i64 (k : Int) ∧ k + m = vs.length ∧ L = _) vs.length ⟨0, rfl, by omega, rfl⟩ ?_
  rintro m g L ⟨k, e22, hkm, rfl⟩
  refine JC.pin 22 e22 ?_
  clear e22
  rcases Nat.lt_or_ge k vs.length with hk | hk
  case inr =>
    repeat' first
      | (refine J.isJ ?_; (first | (first | (refine J.o 0 ?_; refine J.ev' hΓ ?_) | refine J.nil ?_ | refine J.kd ?_ | (refine J.o 4 ?_; first | refine J.e0 hΓ ?_ | refine J.lT default hΓ ?_ | refine J.e1 hΓ ?_ | refine J.e2 hΓ ?_ | refine J.lR hΓ ?_) | (refine J.o 3 ?_; first | refine J.iA hΓ ?_ | refine J.iJ hΓ ?_ | refine J.fP hΓ ?_ | refine J.iC hΓ ?_ | refine J.ev' hΓ ?_) | (refine J.o 1 ?_; first | refine J.ad ?_ | refine J.sb ?_ | refine J.ng ?_ | refine J.mu ?_) | (refine J.o 5 ?_; first | refine J.t0 hΓ ?_ | refine J.t1 hΓ ?_ | refine J.t2 hΓ ?_) | (refine J.o 6 ?_; refine J.bx (fun _ => ?_)) | (refine J.o 7 ?_; refine J.al hΓ (fun _ => ?_)) | (refine J.o 8 ?_; refine J.bd hΓ ?_) | (refine J.o 9 ?_; refine J.bl hΓ (fun _ => ?_)) | (refine J.o 10 ?_; first | refine J.ls hΓ ?_ | refine J.ev' hΓ ?_) | (refine J.o 11 ?_; refine J.ev' hΓ ?_) | refine J.kn ?_) | ((fail_if_success refine J.wt ?_); refine J.gc rfl rfl (fun hc => ?_) (fun hc => ?_) <;> ((try simp only [decide_eq_true_eq, decide_eq_false_iff_not, beq_iff_eq, beq_eq_false_iff_ne, bne_iff_ne, bne_eq_false_iff_eq, Bool.not_eq_true', Bool.not_eq_false', Bool.not_eq_true, Bool.not_eq_false] at hc) <;> first | (first | (exact absurd rfl hc) | (exfalso; omega) | (exact absurd (hc.symm.trans (by assumption : _ = false)) (by decide)) | (exact absurd (hc.symm.trans (by assumption : _ = true)) (by decide))) | skip))))
      | (first | refine JC.seq ?_ | refine JC.region ?_ | refine JC.block ?_ | refine JC.ret ?_ | refine JC.exit ?_ | refine JC.skip ?_ | refine thenK.nn ?_ | refine thenK.r ?_ | refine thenK.x ?_ | refine blockK.nn ?_ | refine blockK.r ?_ | refine blockK.hit rfl ?_ | refine blockK.miss rfl ?_ | refine JC.condT rfl ?_ | refine JC.condF rfl ?_ | (refine JC.cond rfl (fun hc => ?_) (fun hc => ?_) <;> ((try simp only [decide_eq_true_eq, decide_eq_false_iff_not, beq_iff_eq, beq_eq_false_iff_ne, bne_iff_ne, bne_eq_false_iff_eq, Bool.not_eq_true', Bool.not_eq_false', Bool.not_eq_true, Bool.not_eq_false] at hc) <;> first | (first | (exact absurd rfl hc) | (exfalso; omega) | (exact absurd (hc.symm.trans (by assumption : _ = false)) (by decide)) | (exact absurd (hc.symm.trans (by assumption : _ = true)) (by decide))) | skip)) | (refine JC.drawA [] (by kernel_rfl) (by kernel_rfl) ?_) | refine drawK.nn ?_ | refine roundK.nn ?_ | refine roundK.r ?_ | refine roundK.x ?_ | refine loopK.r ?_ | refine loopK.x ?_)
      | fail
    all_goals first | (exfalso; omega) | exact ret1f rfl rfl rfl (fun w1 hw => ⟨rfl, hw.below⟩)
  have hm := mem_g vs k hk
  have hik := hi _ hm
  have hck := hok _ (List.mem_map_of_mem (f := (·.l)) hm)
  have hcn := hck.n
  repeat' first
    | (refine J.isJ ?_; (first | (first | (refine J.o 0 ?_; refine J.ev' hΓ ?_) | refine J.nil ?_ | refine J.kd ?_ | (refine J.o 4 ?_; first | refine J.e0 hΓ ?_ | refine J.lT default hΓ ?_ | refine J.e1 hΓ ?_ | refine J.e2 hΓ ?_ | refine J.lR hΓ ?_) | (refine J.o 3 ?_; first | refine J.iA hΓ ?_ | refine J.iJ hΓ ?_ | refine J.fP hΓ ?_ | refine J.iC hΓ ?_ | refine J.ev' hΓ ?_) | (refine J.o 1 ?_; first | refine J.ad ?_ | refine J.sb ?_ | refine J.ng ?_ | refine J.mu ?_) | (refine J.o 5 ?_; first | refine J.t0 hΓ ?_ | refine J.t1 hΓ ?_ | refine J.t2 hΓ ?_) | (refine J.o 6 ?_; refine J.bx (fun _ => ?_)) | (refine J.o 7 ?_; refine J.al hΓ (fun _ => ?_)) | (refine J.o 8 ?_; refine J.bd hΓ ?_) | (refine J.o 9 ?_; refine J.bl hΓ (fun _ => ?_)) | (refine J.o 10 ?_; first | refine J.ls hΓ ?_ | refine J.ev' hΓ ?_) | (refine J.o 11 ?_; refine J.ev' hΓ ?_) | refine J.kn ?_) | ((fail_if_success refine J.wt ?_); refine J.gc rfl rfl (fun hc => ?_) (fun hc => ?_) <;> ((try simp only [decide_eq_true_eq, decide_eq_false_iff_not, beq_iff_eq, beq_eq_false_iff_ne, bne_iff_ne, bne_eq_false_iff_eq, Bool.not_eq_true', Bool.not_eq_false', Bool.not_eq_true, Bool.not_eq_false] at hc) <;> first | (first | (exact absurd rfl hc) | (exfalso; omega) | (exact absurd (hc.symm.trans (by assumption : _ = false)) (by decide)) | (exact absurd (hc.symm.trans (by assumption : _ = true)) (by decide))) | skip))))
    | (first | refine JC.seq ?_ | refine JC.region ?_ | refine JC.block ?_ | refine JC.ret ?_ | refine JC.exit ?_ | refine JC.skip ?_ | refine thenK.nn ?_ | refine thenK.r ?_ | refine thenK.x ?_ | refine blockK.nn ?_ | refine blockK.r ?_ | refine blockK.hit rfl ?_ | refine blockK.miss rfl ?_ | refine JC.condT rfl ?_ | refine JC.condF rfl ?_ | (refine JC.cond rfl (fun hc => ?_) (fun hc => ?_) <;> ((try simp only [decide_eq_true_eq, decide_eq_false_iff_not, beq_iff_eq, beq_eq_false_iff_ne, bne_iff_ne, bne_eq_false_iff_eq, Bool.not_eq_true', Bool.not_eq_false', Bool.not_eq_true, Bool.not_eq_false] at hc) <;> first | (first | (exact absurd rfl hc) | (exfalso; omega) | (exact absurd (hc.symm.trans (by assumption : _ = false)) (by decide)) | (exact absurd (hc.symm.trans (by assumption : _ = true)) (by decide))) | skip)) | (refine JC.drawA [] (by kernel_rfl) (by kernel_rfl) ?_) | refine drawK.nn ?_ | refine roundK.nn ?_ | refine roundK.r ?_ | refine roundK.x ?_ | refine loopK.r ?_ | refine loopK.x ?_)
    | fail
  all_goals first | (exfalso; omega) | skip
  refine JC.loop (fun i => i == 2 || i == 6 || (Nat.ble 31 i && Nat.ble i 40)) (fun m g L => ∃ (j : Nat), g 31 = .int .i64 (j : Int) ∧ j + m = (vs.getD k default).l.length ∧ L = _) (vs.getD k default).l.length ⟨0, rfl, by omega, rfl⟩ ?_
  rintro m3 g3 L3 ⟨j, e31, hjm, rfl⟩
  refine JC.pin 31 e31 ?_
  clear e31
  rcases Nat.lt_or_ge j (vs.getD k default).l.length with hj | hj
  case inl =>
    have hv := validB_ok (hck.v _ (getD_mem (vs.getD k default).l j hj))
    have cV := fun w => valid_any ((vs.getD k default).l.getD j default) N hN w
    rw [hv] at cV
    repeat' first
      | (refine J.isJ ?_; first | (first | (refine J.o 0 ?_; refine J.ev' hΓ ?_) | refine J.nil ?_ | refine J.kd ?_ | (refine J.o 4 ?_; first | refine J.e0 hΓ ?_ | refine J.lT default hΓ ?_ | refine J.e1 hΓ ?_ | refine J.e2 hΓ ?_ | refine J.lR hΓ ?_) | (refine J.o 3 ?_; first | refine J.iA hΓ ?_ | refine J.iJ hΓ ?_ | refine J.fP hΓ ?_ | refine J.iC hΓ ?_ | refine J.ev' hΓ ?_) | (refine J.o 1 ?_; first | refine J.ad ?_ | refine J.sb ?_ | refine J.ng ?_ | refine J.mu ?_) | (refine J.o 5 ?_; first | refine J.t0 hΓ ?_ | refine J.t1 hΓ ?_ | refine J.t2 hΓ ?_) | (refine J.o 6 ?_; refine J.bx (fun _ => ?_)) | (refine J.o 7 ?_; refine J.al hΓ (fun _ => ?_)) | (refine J.o 8 ?_; refine J.bd hΓ ?_) | (refine J.o 9 ?_; refine J.bl hΓ (fun _ => ?_)) | (refine J.o 10 ?_; first | refine J.ls hΓ ?_ | refine J.ev' hΓ ?_) | (refine J.o 11 ?_; refine J.ev' hΓ ?_) | refine J.kn ?_) | ((refine J.fc 44 ?_; refine J.call0 eValid rfl rfl (fun w hw => cV w) ?_)) | ((fail_if_success refine J.wt ?_); refine J.gc rfl rfl (fun hc => ?_) (fun hc => ?_) <;> ((try simp only [decide_eq_true_eq, decide_eq_false_iff_not, beq_iff_eq, beq_eq_false_iff_ne, bne_iff_ne, bne_eq_false_iff_eq, Bool.not_eq_true', Bool.not_eq_false', Bool.not_eq_true, Bool.not_eq_false] at hc) <;> first | (first | (exact absurd rfl hc) | (exfalso; omega) | (exact absurd (hc.symm.trans (by assumption : _ = false)) (by decide)) | (exact absurd (hc.symm.trans (by assumption : _ = true)) (by decide))) | skip)))
      | (first | refine JC.seq ?_ | refine JC.region ?_ | refine JC.block ?_ | refine JC.ret ?_ | refine JC.exit ?_ | refine JC.skip ?_ | refine thenK.nn ?_ | refine thenK.r ?_ | refine thenK.x ?_ | refine blockK.nn ?_ | refine blockK.r ?_ | refine blockK.hit rfl ?_ | refine blockK.miss rfl ?_ | refine JC.condT rfl ?_ | refine JC.condF rfl ?_ | (refine JC.cond rfl (fun hc => ?_) (fun hc => ?_) <;> ((try simp only [decide_eq_true_eq, decide_eq_false_iff_not, beq_iff_eq, beq_eq_false_iff_ne, bne_iff_ne, bne_eq_false_iff_eq, Bool.not_eq_true', Bool.not_eq_false', Bool.not_eq_true, Bool.not_eq_false] at hc) <;> first | (first | (exact absurd rfl hc) | (exfalso; omega) | (exact absurd (hc.symm.trans (by assumption : _ = false)) (by decide)) | (exact absurd (hc.symm.trans (by assumption : _ = true)) (by decide))) | skip)) | (refine JC.drawA [] (by kernel_rfl) (by kernel_rfl) ?_) | refine drawK.nn ?_ | refine roundK.nn ?_ | refine roundK.r ?_ | refine roundK.x ?_ | refine loopK.r ?_ | refine loopK.x ?_)
      | fail
    all_goals first | (exfalso; omega) | skip
    all_goals refine loopK.nn (m3 - 1) (by omega) (by repeat (first | refine Ag.upd rfl ?_ | exact Ag.hv)) ⟨j + 1, ?_, by omega, rfl⟩
    all_goals (show Value.int .i64 _ = _; congr 1)
  repeat' first
    | (refine J.isJ ?_; (first | (first | (refine J.o 0 ?_; refine J.ev' hΓ ?_) | refine J.nil ?_ | refine J.kd ?_ | (refine J.o 4 ?_; first | refine J.e0 hΓ ?_ | refine J.lT default hΓ ?_ | refine J.e1 hΓ ?_ | refine J.e2 hΓ ?_ | refine J.lR hΓ ?_) | (refine J.o 3 ?_; first | refine J.iA hΓ ?_ | refine J.iJ hΓ ?_ | refine J.fP hΓ ?_ | refine J.iC hΓ ?_ | refine J.ev' hΓ ?_) | (refine J.o 1 ?_; first | refine J.ad ?_ | refine J.sb ?_ | refine J.ng ?_ | refine J.mu ?_) | (refine J.o 5 ?_; first | refine J.t0 hΓ ?_ | refine J.t1 hΓ ?_ | refine J.t2 hΓ ?_) | (refine J.o 6 ?_; refine J.bx (fun _ => ?_)) | (refine J.o 7 ?_; refine J.al hΓ (fun _ => ?_)) | (refine J.o 8 ?_; refine J.bd hΓ ?_) | (refine J.o 9 ?_; refine J.bl hΓ (fun _ => ?_)) | (refine J.o 10 ?_; first | refine J.ls hΓ ?_ | refine J.ev' hΓ ?_) | (refine J.o 11 ?_; refine J.ev' hΓ ?_) | refine J.kn ?_) | ((fail_if_success refine J.wt ?_); refine J.gc rfl rfl (fun hc => ?_) (fun hc => ?_) <;> ((try simp only [decide_eq_true_eq, decide_eq_false_iff_not, beq_iff_eq, beq_eq_false_iff_ne, bne_iff_ne, bne_eq_false_iff_eq, Bool.not_eq_true', Bool.not_eq_false', Bool.not_eq_true, Bool.not_eq_false] at hc) <;> first | (first | (exact absurd rfl hc) | (exfalso; omega) | (exact absurd (hc.symm.trans (by assumption : _ = false)) (by decide)) | (exact absurd (hc.symm.trans (by assumption : _ = true)) (by decide))) | skip))))
    | (first | refine JC.seq ?_ | refine JC.region ?_ | refine JC.block ?_ | refine JC.ret ?_ | refine JC.exit ?_ | refine JC.skip ?_ | refine thenK.nn ?_ | refine thenK.r ?_ | refine thenK.x ?_ | refine blockK.nn ?_ | refine blockK.r ?_ | refine blockK.hit rfl ?_ | refine blockK.miss rfl ?_ | refine JC.condT rfl ?_ | refine JC.condF rfl ?_ | (refine JC.cond rfl (fun hc => ?_) (fun hc => ?_) <;> ((try simp only [decide_eq_true_eq, decide_eq_false_iff_not, beq_iff_eq, beq_eq_false_iff_ne, bne_iff_ne, bne_eq_false_iff_eq, Bool.not_eq_true', Bool.not_eq_false', Bool.not_eq_true, Bool.not_eq_false] at hc) <;> first | (first | (exact absurd rfl hc) | (exfalso; omega) | (exact absurd (hc.symm.trans (by assumption : _ = false)) (by decide)) | (exact absurd (hc.symm.trans (by assumption : _ = true)) (by decide))) | skip)) | (refine JC.drawA [] (by kernel_rfl) (by kernel_rfl) ?_) | refine drawK.nn ?_ | refine roundK.nn ?_ | refine roundK.r ?_ | refine roundK.x ?_ | refine loopK.r ?_ | refine loopK.x ?_)
    | fail
  all_goals first | (exfalso; omega) | skip
  all_goals refine loopK.nn (m - 1) (by omega) (by repeat (first | refine Ag.upd rfl ?_ | exact Ag.hv | refine Ag.hv2 (fun i hi => by simp at hi ⊢; omega) ?_)) ⟨k + 1, ?_, by omega, rfl⟩
  all_goals (show Value.int .i64 _ = _; congr 1)
theorem okC_up {N : Int} {r : List Int} (h : OkC N r) (j : Nat) (hj : j < r.length) (h1 : 1 ≤ j) : max (r.getD ((j : Int) - 1).toNat default) (-(r.getD ((j : Int) - 1).toNat default)) < max (r.getD j default) (-(r.getD j default)) := by
  have e : ((j : Int) - 1).toNat = j - 1 := by omega
  rw [e]
  have := List.pairwise_iff_getElem.1 h.up (j - 1) j (by omega) hj (by omega)
  rw [List.getD_eq_getElem?_getD, List.getD_eq_getElem?_getD, List.getElem?_eq_getElem hj, List.getElem?_eq_getElem (by omega)]
  exact this
set_option maxHeartbeats 8000000 in
theorem valid_walk (n : Int) (a : Option Addr) (cap : Nat) (ss : List SV) (h : Heap) (hs : SumsIn a ss h) (hl : ss.length ≤ 9223372036854775807) (w : World) (hw : Holds h w) :
    Calls Try.prog 10 #[.int .i64 n, .slice a ss.length cap] w fun e w' => e = .returned (.bool true) ∧ Below w.heap.size w w' := by
  have q0 : ∀ L, RdH h L h := fun L => RdH.old fun _ hh => hh
  have cL := fun w hw => light_any a cap ss h hs hl w hw
  refine calls_of_JC (R := h) Try.func10 Try.ntmps10 rfl rfl (hw) ?_
  cases hlt : lightP ss with
  | false =>
    rw [hlt] at cL
    repeat' first
      | (refine J.isJ ?_; first | (first | (refine J.fc 13 ?_; refine J.call0 eLight rfl rfl (fun w hw => cL w (hw.rdH (q0 _))) ?_) | (refine J.fc 14 ?_; refine J.call0 eWorks rfl rfl (fun w hw => works_any w) ?_)) | (first | (refine J.o 0 ?_; refine J.ev' hΓ ?_) | refine J.nil ?_ | refine J.kd ?_ | (refine J.o 4 ?_; first | refine J.e0 hΓ ?_ | refine J.lT default hΓ ?_ | refine J.e1 hΓ ?_ | refine J.e2 hΓ ?_ | refine J.lR hΓ ?_) | (refine J.o 3 ?_; first | refine J.iA hΓ ?_ | refine J.iJ hΓ ?_ | refine J.fP hΓ ?_ | refine J.iC hΓ ?_ | refine J.ev' hΓ ?_) | (refine J.o 1 ?_; first | refine J.ad ?_ | refine J.sb ?_ | refine J.ng ?_ | refine J.mu ?_) | (refine J.o 5 ?_; first | refine J.t0 hΓ ?_ | refine J.t1 hΓ ?_ | refine J.t2 hΓ ?_) | (refine J.o 6 ?_; refine J.bx (fun _ => ?_)) | (refine J.o 7 ?_; refine J.al hΓ (fun _ => ?_)) | (refine J.o 8 ?_; refine J.bd hΓ ?_) | (refine J.o 9 ?_; refine J.bl hΓ (fun _ => ?_)) | (refine J.o 10 ?_; first | refine J.ls hΓ ?_ | refine J.ev' hΓ ?_) | (refine J.o 11 ?_; refine J.ev' hΓ ?_) | refine J.kn ?_) | ((fail_if_success refine J.wt ?_); refine J.gc rfl rfl (fun hc => ?_) (fun hc => ?_) <;> ((try simp only [decide_eq_true_eq, decide_eq_false_iff_not, beq_iff_eq, beq_eq_false_iff_ne, bne_iff_ne, bne_eq_false_iff_eq, Bool.not_eq_true', Bool.not_eq_false', Bool.not_eq_true, Bool.not_eq_false] at hc) <;> first | (first | (exact absurd rfl hc) | (exfalso; omega) | (exact absurd (hc.symm.trans (by assumption : _ = false)) (by decide)) | (exact absurd (hc.symm.trans (by assumption : _ = true)) (by decide))) | skip)))
      | (first | refine JC.seq ?_ | refine JC.region ?_ | refine JC.block ?_ | refine JC.ret ?_ | refine JC.exit ?_ | refine JC.skip ?_ | refine thenK.nn ?_ | refine thenK.r ?_ | refine thenK.x ?_ | refine blockK.nn ?_ | refine blockK.r ?_ | refine blockK.hit rfl ?_ | refine blockK.miss rfl ?_ | refine JC.condT rfl ?_ | refine JC.condF rfl ?_ | (refine JC.cond rfl (fun hc => ?_) (fun hc => ?_) <;> ((try simp only [decide_eq_true_eq, decide_eq_false_iff_not, beq_iff_eq, beq_eq_false_iff_ne, bne_iff_ne, bne_eq_false_iff_eq, Bool.not_eq_true', Bool.not_eq_false', Bool.not_eq_true, Bool.not_eq_false] at hc) <;> first | (first | (exact absurd rfl hc) | (exfalso; omega) | (exact absurd (hc.symm.trans (by assumption : _ = false)) (by decide)) | (exact absurd (hc.symm.trans (by assumption : _ = true)) (by decide))) | skip)) | (refine JC.drawA [] (by kernel_rfl) (by kernel_rfl) ?_) | refine drawK.nn ?_ | refine roundK.nn ?_ | refine roundK.r ?_ | refine roundK.x ?_ | refine loopK.r ?_ | refine loopK.x ?_)
      | (fail)
      | fail
    all_goals first | (exfalso; omega) | exact ret1f rfl rfl rfl (fun w1 hw => ⟨rfl, hw.below⟩)
  | true =>
    rw [hlt] at cL
    have hlt2 := hlt
    unfold lightP at hlt2
    simp only [Bool.and_eq_true, List.all_eq_true, decide_eq_true_eq] at hlt2
    have h40 := hlt2.2
    have cE : ∀ w, Holds h w → Calls Try.prog 20 #[.int .i64 n, .slice a ss.length cap] w (Gives (fun v g => ∃ a cap vs, v = .tuple #[.agg ⟨[.int .i64 (encR n (ss.map psV)).2.1, .slice a vs.length cap]⟩, .int .i64 (encR n (ss.map psV)).1] ∧ LLR a vs g ∧ vs.map (·.l) = (encR n (ss.map psV)).2.2) w) := fun w hw => by
      refine (encode_any n a cap ss h hs (by omega) w hw).mono ?_
      rintro e w' ⟨v, g, h1, h2, h3, h4, h5, tv, g0, g1, h6, rfl, aa, ka, vs, h9, oo, oi, hvs⟩
      exact ⟨v, _, h1, h2, h3, h4, h5, aa, ka, vs, by rw [h6, h9], ⟨oo.sl.sub (fun _ hx => List.mem_append_left _ hx), fun v hv => (oi v hv).sub (fun _ hx => List.mem_append_right _ hx)⟩, hvs⟩
    have hvo : (encR n (ss.map psV)).1 = 0 → ValidOk n (encR n (ss.map psV)).2.1 (encR n (ss.map psV)).2.2 := valid_ok
    generalize (encR n (ss.map psV)).1 = ec at *
    generalize (encR n (ss.map psV)).2.1 = eN at *
    generalize (encR n (ss.map psV)).2.2 = eT at *
    by_cases he : ec = 0
    case neg =>
      repeat' first
        | (refine J.isJ ?_; first | (first | (refine J.fc 13 ?_; refine J.call0 eLight rfl rfl (fun w hw => cL w (hw.rdH (q0 _))) ?_) | (refine J.fc 20 ?_; refine J.call1 eEncode rfl rfl (fun w hw => cE w (hw.rdH (q0 _))) ?_; rintro _ hgA ⟨aA, kA, vA, rfl, llA, hvA⟩) | (refine J.fc 14 ?_; refine J.call0 eWorks rfl rfl (fun w hw => works_any w) ?_)) | (first | (refine J.o 0 ?_; refine J.ev' hΓ ?_) | refine J.nil ?_ | refine J.kd ?_ | (refine J.o 4 ?_; first | refine J.e0 hΓ ?_ | refine J.lT default hΓ ?_ | refine J.e1 hΓ ?_ | refine J.e2 hΓ ?_ | refine J.lR hΓ ?_) | (refine J.o 3 ?_; first | refine J.iA hΓ ?_ | refine J.iJ hΓ ?_ | refine J.fP hΓ ?_ | refine J.iC hΓ ?_ | refine J.ev' hΓ ?_) | (refine J.o 1 ?_; first | refine J.ad ?_ | refine J.sb ?_ | refine J.ng ?_ | refine J.mu ?_) | (refine J.o 5 ?_; first | refine J.t0 hΓ ?_ | refine J.t1 hΓ ?_ | refine J.t2 hΓ ?_) | (refine J.o 6 ?_; refine J.bx (fun _ => ?_)) | (refine J.o 7 ?_; refine J.al hΓ (fun _ => ?_)) | (refine J.o 8 ?_; refine J.bd hΓ ?_) | (refine J.o 9 ?_; refine J.bl hΓ (fun _ => ?_)) | (refine J.o 10 ?_; first | refine J.ls hΓ ?_ | refine J.ev' hΓ ?_) | (refine J.o 11 ?_; refine J.ev' hΓ ?_) | refine J.kn ?_) | ((fail_if_success refine J.wt ?_); refine J.gc rfl rfl (fun hc => ?_) (fun hc => ?_) <;> ((try simp only [decide_eq_true_eq, decide_eq_false_iff_not, beq_iff_eq, beq_eq_false_iff_ne, bne_iff_ne, bne_eq_false_iff_eq, Bool.not_eq_true', Bool.not_eq_false', Bool.not_eq_true, Bool.not_eq_false] at hc) <;> first | (first | (exact absurd rfl hc) | (exfalso; omega) | (exact absurd (hc.symm.trans (by assumption : _ = false)) (by decide)) | (exact absurd (hc.symm.trans (by assumption : _ = true)) (by decide))) | skip)))
        | (first | refine JC.seq ?_ | refine JC.region ?_ | refine JC.block ?_ | refine JC.ret ?_ | refine JC.exit ?_ | refine JC.skip ?_ | refine thenK.nn ?_ | refine thenK.r ?_ | refine thenK.x ?_ | refine blockK.nn ?_ | refine blockK.r ?_ | refine blockK.hit rfl ?_ | refine blockK.miss rfl ?_ | refine JC.condT rfl ?_ | refine JC.condF rfl ?_ | (refine JC.cond rfl (fun hc => ?_) (fun hc => ?_) <;> ((try simp only [decide_eq_true_eq, decide_eq_false_iff_not, beq_iff_eq, beq_eq_false_iff_ne, bne_iff_ne, bne_eq_false_iff_eq, Bool.not_eq_true', Bool.not_eq_false', Bool.not_eq_true, Bool.not_eq_false] at hc) <;> first | (first | (exact absurd rfl hc) | (exfalso; omega) | (exact absurd (hc.symm.trans (by assumption : _ = false)) (by decide)) | (exact absurd (hc.symm.trans (by assumption : _ = true)) (by decide))) | skip)) | (refine JC.drawA [] (by kernel_rfl) (by kernel_rfl) ?_) | refine drawK.nn ?_ | refine roundK.nn ?_ | refine roundK.r ?_ | refine roundK.x ?_ | refine loopK.r ?_ | refine loopK.x ?_)
        | (fail)
        | fail
      all_goals first | (exfalso; omega) | exact ret1f rfl rfl rfl (fun w1 hw => ⟨rfl, hw.below⟩)
    obtain ⟨ht, hn0, hlo, hhi, hlen⟩ := hvo he
    clear hvo
    subst he
    repeat' first
      | (refine J.isJ ?_; first | (first | (refine J.fc 13 ?_; refine J.call0 eLight rfl rfl (fun w hw => cL w (hw.rdH (q0 _))) ?_) | (refine J.fc 20 ?_; refine J.call1 eEncode rfl rfl (fun w hw => cE w (hw.rdH (q0 _))) ?_; rintro _ hgA ⟨aA, kA, vA, rfl, llA, hvA⟩) | (refine J.fc 14 ?_; refine J.call0 eWorks rfl rfl (fun w hw => works_any w) ?_)) | (first | (refine J.o 0 ?_; refine J.ev' hΓ ?_) | refine J.nil ?_ | refine J.kd ?_ | (refine J.o 4 ?_; first | refine J.e0 hΓ ?_ | refine J.lT default hΓ ?_ | refine J.e1 hΓ ?_ | refine J.e2 hΓ ?_ | refine J.lR hΓ ?_) | (refine J.o 3 ?_; first | refine J.iA hΓ ?_ | refine J.iJ hΓ ?_ | refine J.fP hΓ ?_ | refine J.iC hΓ ?_ | refine J.ev' hΓ ?_) | (refine J.o 1 ?_; first | refine J.ad ?_ | refine J.sb ?_ | refine J.ng ?_ | refine J.mu ?_) | (refine J.o 5 ?_; first | refine J.t0 hΓ ?_ | refine J.t1 hΓ ?_ | refine J.t2 hΓ ?_) | (refine J.o 6 ?_; refine J.bx (fun _ => ?_)) | (refine J.o 7 ?_; refine J.al hΓ (fun _ => ?_)) | (refine J.o 8 ?_; refine J.bd hΓ ?_) | (refine J.o 9 ?_; refine J.bl hΓ (fun _ => ?_)) | (refine J.o 10 ?_; first | refine J.ls hΓ ?_ | refine J.ev' hΓ ?_) | (refine J.o 11 ?_; refine J.ev' hΓ ?_) | refine J.kn ?_) | ((fail_if_success refine J.wt ?_); refine J.gc rfl rfl (fun hc => ?_) (fun hc => ?_) <;> ((try simp only [decide_eq_true_eq, decide_eq_false_iff_not, beq_iff_eq, beq_eq_false_iff_ne, bne_iff_ne, bne_eq_false_iff_eq, Bool.not_eq_true', Bool.not_eq_false', Bool.not_eq_true, Bool.not_eq_false] at hc) <;> first | (first | (exact absurd rfl hc) | (exfalso; omega) | (exact absurd (hc.symm.trans (by assumption : _ = false)) (by decide)) | (exact absurd (hc.symm.trans (by assumption : _ = true)) (by decide))) | skip)))
      | (first | refine JC.seq ?_ | refine JC.region ?_ | refine JC.block ?_ | refine JC.ret ?_ | refine JC.exit ?_ | refine JC.skip ?_ | refine thenK.nn ?_ | refine thenK.r ?_ | refine thenK.x ?_ | refine blockK.nn ?_ | refine blockK.r ?_ | refine blockK.hit rfl ?_ | refine blockK.miss rfl ?_ | refine JC.condT rfl ?_ | refine JC.condF rfl ?_ | (refine JC.cond rfl (fun hc => ?_) (fun hc => ?_) <;> ((try simp only [decide_eq_true_eq, decide_eq_false_iff_not, beq_iff_eq, beq_eq_false_iff_ne, bne_iff_ne, bne_eq_false_iff_eq, Bool.not_eq_true', Bool.not_eq_false', Bool.not_eq_true, Bool.not_eq_false] at hc) <;> first | (first | (exact absurd rfl hc) | (exfalso; omega) | (exact absurd (hc.symm.trans (by assumption : _ = false)) (by decide)) | (exact absurd (hc.symm.trans (by assumption : _ = true)) (by decide))) | skip)) | (refine JC.drawA [] (by kernel_rfl) (by kernel_rfl) ?_) | refine drawK.nn ?_ | refine roundK.nn ?_ | refine roundK.r ?_ | refine roundK.x ?_ | refine loopK.r ?_ | refine loopK.x ?_)
      | (fail)
      | fail
    all_goals first | (exfalso; omega) | skip
    rename_i b5
    subst hvA
    have hvl : vA.length ≤ 4096 := by rw [List.length_map] at hlen; exact hlen
    have hio := llA.o
    have hri := llA.i
    have cT := fun w hw => tcheck_any eN aA kA vA hgA llA ht (by omega) hvl w hw
    refine JC.gen [(0, .int .i64 n), (5, .pointer (some ⟨b5, 0, none⟩)), (24, .slice aA vA.length kA), (25, .int .i64 vA.length), (26, .int .i64 0)] ⟨rfl, rfl, rfl, rfl, rfl, trivial⟩ (fun F => ?_)
    refine JC.loop (fun i => i == 4 || i == 8 || i == 9 || Nat.ble 26 i) (fun m g L => ∃ (k : Nat), g 26 = .int .i64 (k : Int) ∧ k + m = vA.length ∧ L = _) vA.length ⟨0, rfl, by omega, rfl⟩ ?_
    rintro m g L ⟨k, e26, hkm, rfl⟩
    refine JC.pin 26 e26 ?_
    clear e26
    rcases Nat.lt_or_ge k vA.length with hk | hk
    case inr =>
      repeat' first
        | (refine J.isJ ?_; first | (first | (refine J.fc 25 ?_; refine J.call0 eTCheck rfl rfl (fun w hw => cT w (hw.rdH RdH.hd.tl)) ?_) | (refine J.fc 14 ?_; refine J.call0 eWorks rfl rfl (fun w hw => works_any w) ?_)) | (first | (refine J.o 0 ?_; refine J.ev' hΓ ?_) | refine J.nil ?_ | refine J.kd ?_ | (refine J.o 4 ?_; first | refine J.e0 hΓ ?_ | refine J.lT default hΓ ?_ | refine J.e1 hΓ ?_ | refine J.e2 hΓ ?_ | refine J.lR hΓ ?_) | (refine J.o 3 ?_; first | refine J.iA hΓ ?_ | refine J.iJ hΓ ?_ | refine J.fP hΓ ?_ | refine J.iC hΓ ?_ | refine J.ev' hΓ ?_) | (refine J.o 1 ?_; first | refine J.ad ?_ | refine J.sb ?_ | refine J.ng ?_ | refine J.mu ?_) | (refine J.o 5 ?_; first | refine J.t0 hΓ ?_ | refine J.t1 hΓ ?_ | refine J.t2 hΓ ?_) | (refine J.o 6 ?_; refine J.bx (fun _ => ?_)) | (refine J.o 7 ?_; refine J.al hΓ (fun _ => ?_)) | (refine J.o 8 ?_; refine J.bd hΓ ?_) | (refine J.o 9 ?_; refine J.bl hΓ (fun _ => ?_)) | (refine J.o 10 ?_; first | refine J.ls hΓ ?_ | refine J.ev' hΓ ?_) | (refine J.o 11 ?_; refine J.ev' hΓ ?_) | refine J.kn ?_) | ((fail_if_success refine J.wt ?_); refine J.gc rfl rfl (fun hc => ?_) (fun hc => ?_) <;> ((try simp only [decide_eq_true_eq, decide_eq_false_iff_not, beq_iff_eq, beq_eq_false_iff_ne, bne_iff_ne, bne_eq_false_iff_eq, Bool.not_eq_true', Bool.not_eq_false', Bool.not_eq_true, Bool.not_eq_false] at hc) <;> first | (first | (exact absurd rfl hc) | (exfalso; omega) | (exact absurd (hc.symm.trans (by assumption : _ = false)) (by decide)) | (exact absurd (hc.symm.trans (by assumption : _ = true)) (by decide))) | skip)))
        | (first | refine JC.seq ?_ | refine JC.region ?_ | refine JC.block ?_ | refine JC.ret ?_ | refine JC.exit ?_ | refine JC.skip ?_ | refine thenK.nn ?_ | refine thenK.r ?_ | refine thenK.x ?_ | refine blockK.nn ?_ | refine blockK.r ?_ | refine blockK.hit rfl ?_ | refine blockK.miss rfl ?_ | refine JC.condT rfl ?_ | refine JC.condF rfl ?_ | (refine JC.cond rfl (fun hc => ?_) (fun hc => ?_) <;> ((try simp only [decide_eq_true_eq, decide_eq_false_iff_not, beq_iff_eq, beq_eq_false_iff_ne, bne_iff_ne, bne_eq_false_iff_eq, Bool.not_eq_true', Bool.not_eq_false', Bool.not_eq_true, Bool.not_eq_false] at hc) <;> first | (first | (exact absurd rfl hc) | (exfalso; omega) | (exact absurd (hc.symm.trans (by assumption : _ = false)) (by decide)) | (exact absurd (hc.symm.trans (by assumption : _ = true)) (by decide))) | skip)) | (refine JC.drawA [] (by kernel_rfl) (by kernel_rfl) ?_) | refine drawK.nn ?_ | refine roundK.nn ?_ | refine roundK.r ?_ | refine roundK.x ?_ | refine loopK.r ?_ | refine loopK.x ?_)
        | (fail)
        | fail
      all_goals first | (exfalso; omega) | exact ret1f rfl rfl rfl (fun w1 hw => ⟨rfl, hw.below⟩)
    have hm := mem_g vA k hk
    have hik := hri _ hm
    have hck := ht _ (List.mem_map_of_mem (f := (·.l)) hm)
    have hcn := hck.n
    repeat' first
      | (refine J.isJ ?_; first | ((refine J.o 4 ?_; first | refine J.e0 hΓ ?_ | refine J.lT default hΓ ?_ (hs := hio) (hr := RdH.hd.tl) | refine J.lT default hΓ ?_ (hs := hik) (hr := RdH.hd.tl))) | (first | (refine J.o 0 ?_; refine J.ev' hΓ ?_) | refine J.nil ?_ | refine J.kd ?_ | (refine J.o 4 ?_; first | refine J.e0 hΓ ?_ | refine J.lT default hΓ ?_ | refine J.e1 hΓ ?_ | refine J.e2 hΓ ?_ | refine J.lR hΓ ?_) | (refine J.o 3 ?_; first | refine J.iA hΓ ?_ | refine J.iJ hΓ ?_ | refine J.fP hΓ ?_ | refine J.iC hΓ ?_ | refine J.ev' hΓ ?_) | (refine J.o 1 ?_; first | refine J.ad ?_ | refine J.sb ?_ | refine J.ng ?_ | refine J.mu ?_) | (refine J.o 5 ?_; first | refine J.t0 hΓ ?_ | refine J.t1 hΓ ?_ | refine J.t2 hΓ ?_) | (refine J.o 6 ?_; refine J.bx (fun _ => ?_)) | (refine J.o 7 ?_; refine J.al hΓ (fun _ => ?_)) | (refine J.o 8 ?_; refine J.bd hΓ ?_) | (refine J.o 9 ?_; refine J.bl hΓ (fun _ => ?_)) | (refine J.o 10 ?_; first | refine J.ls hΓ ?_ | refine J.ev' hΓ ?_) | (refine J.o 11 ?_; refine J.ev' hΓ ?_) | refine J.kn ?_) | ((fail_if_success refine J.wt ?_); refine J.gc rfl rfl (fun hc => ?_) (fun hc => ?_) <;> ((try simp only [decide_eq_true_eq, decide_eq_false_iff_not, beq_iff_eq, beq_eq_false_iff_ne, bne_iff_ne, bne_eq_false_iff_eq, Bool.not_eq_true', Bool.not_eq_false', Bool.not_eq_true, Bool.not_eq_false] at hc) <;> first | (first | (exact absurd rfl hc) | (exfalso; omega) | (exact absurd (hc.symm.trans (by assumption : _ = false)) (by decide)) | (exact absurd (hc.symm.trans (by assumption : _ = true)) (by decide))) | skip)))
      | (first | refine JC.seq ?_ | refine JC.region ?_ | refine JC.block ?_ | refine JC.ret ?_ | refine JC.exit ?_ | refine JC.skip ?_ | refine thenK.nn ?_ | refine thenK.r ?_ | refine thenK.x ?_ | refine blockK.nn ?_ | refine blockK.r ?_ | refine blockK.hit rfl ?_ | refine blockK.miss rfl ?_ | refine JC.condT rfl ?_ | refine JC.condF rfl ?_ | (refine JC.cond rfl (fun hc => ?_) (fun hc => ?_) <;> ((try simp only [decide_eq_true_eq, decide_eq_false_iff_not, beq_iff_eq, beq_eq_false_iff_ne, bne_iff_ne, bne_eq_false_iff_eq, Bool.not_eq_true', Bool.not_eq_false', Bool.not_eq_true, Bool.not_eq_false] at hc) <;> first | (first | (exact absurd rfl hc) | (exfalso; omega) | (exact absurd (hc.symm.trans (by assumption : _ = false)) (by decide)) | (exact absurd (hc.symm.trans (by assumption : _ = true)) (by decide))) | skip)) | (refine JC.drawA [] (by kernel_rfl) (by kernel_rfl) ?_) | refine drawK.nn ?_ | refine roundK.nn ?_ | refine roundK.r ?_ | refine roundK.x ?_ | refine loopK.r ?_ | refine loopK.x ?_)
      | (fail)
      | fail
    all_goals first | (exfalso; omega) | skip
    refine JC.loop (fun i => i == 4 || i == 9 || (Nat.ble 30 i && Nat.ble i 58)) (fun m g L => ∃ (j : Nat), g 9 = .int .i64 (j : Int) ∧ j + m = (vA.getD k default).l.length + 1 ∧ 1 ≤ j ∧ L = _) (vA.getD k default).l.length ⟨1, rfl, by omega, by omega, rfl⟩ ?_
    rintro m3 g3 L3 ⟨j, e9, hjm, hj1, rfl⟩
    refine JC.pin 9 e9 ?_
    clear e9
    rcases Nat.lt_or_ge j (vA.getD k default).l.length with hj | hj
    case inl =>
      have hup := okC_up hck j hj hj1
      have hx1 := hck.v _ (getD_mem (vA.getD k default).l j hj)
      have hx2 := hck.v _ (getD_mem (vA.getD k default).l ((j : Int) - 1).toNat (by omega))
      repeat' first
        | (refine J.isJ ?_; first | ((refine J.o 4 ?_; first | refine J.e0 hΓ ?_ | refine J.lT default hΓ ?_ (hs := hio) (hr := RdH.hd.tl) | refine J.lT default hΓ ?_ (hs := hik) (hr := RdH.hd.tl))) | (first | (refine J.o 0 ?_; refine J.ev' hΓ ?_) | refine J.nil ?_ | refine J.kd ?_ | (refine J.o 4 ?_; first | refine J.e0 hΓ ?_ | refine J.lT default hΓ ?_ | refine J.e1 hΓ ?_ | refine J.e2 hΓ ?_ | refine J.lR hΓ ?_) | (refine J.o 3 ?_; first | refine J.iA hΓ ?_ | refine J.iJ hΓ ?_ | refine J.fP hΓ ?_ | refine J.iC hΓ ?_ | refine J.ev' hΓ ?_) | (refine J.o 1 ?_; first | refine J.ad ?_ | refine J.sb ?_ | refine J.ng ?_ | refine J.mu ?_) | (refine J.o 5 ?_; first | refine J.t0 hΓ ?_ | refine J.t1 hΓ ?_ | refine J.t2 hΓ ?_) | (refine J.o 6 ?_; refine J.bx (fun _ => ?_)) | (refine J.o 7 ?_; refine J.al hΓ (fun _ => ?_)) | (refine J.o 8 ?_; refine J.bd hΓ ?_) | (refine J.o 9 ?_; refine J.bl hΓ (fun _ => ?_)) | (refine J.o 10 ?_; first | refine J.ls hΓ ?_ | refine J.ev' hΓ ?_) | (refine J.o 11 ?_; refine J.ev' hΓ ?_) | refine J.kn ?_) | ((fail_if_success refine J.wt ?_); refine J.gc rfl rfl (fun hc => ?_) (fun hc => ?_) <;> ((try simp only [decide_eq_true_eq, decide_eq_false_iff_not, beq_iff_eq, beq_eq_false_iff_ne, bne_iff_ne, bne_eq_false_iff_eq, Bool.not_eq_true', Bool.not_eq_false', Bool.not_eq_true, Bool.not_eq_false] at hc) <;> first | (first | (exact absurd rfl hc) | (exfalso; omega) | (exact absurd (hc.symm.trans (by assumption : _ = false)) (by decide)) | (exact absurd (hc.symm.trans (by assumption : _ = true)) (by decide))) | skip)))
        | (first | refine JC.seq ?_ | refine JC.region ?_ | refine JC.block ?_ | refine JC.ret ?_ | refine JC.exit ?_ | refine JC.skip ?_ | refine thenK.nn ?_ | refine thenK.r ?_ | refine thenK.x ?_ | refine blockK.nn ?_ | refine blockK.r ?_ | refine blockK.hit rfl ?_ | refine blockK.miss rfl ?_ | refine JC.condT rfl ?_ | refine JC.condF rfl ?_ | (refine JC.cond rfl (fun hc => ?_) (fun hc => ?_) <;> ((try simp only [decide_eq_true_eq, decide_eq_false_iff_not, beq_iff_eq, beq_eq_false_iff_ne, bne_iff_ne, bne_eq_false_iff_eq, Bool.not_eq_true', Bool.not_eq_false', Bool.not_eq_true, Bool.not_eq_false] at hc) <;> first | (first | (exact absurd rfl hc) | (exfalso; omega) | (exact absurd (hc.symm.trans (by assumption : _ = false)) (by decide)) | (exact absurd (hc.symm.trans (by assumption : _ = true)) (by decide))) | skip)) | (refine JC.drawA [] (by kernel_rfl) (by kernel_rfl) ?_) | refine drawK.nn ?_ | refine roundK.nn ?_ | refine roundK.r ?_ | refine roundK.x ?_ | refine loopK.r ?_ | refine loopK.x ?_)
        | (fail)
        | fail
      all_goals first | (exfalso; omega) | skip
      all_goals refine loopK.nn (m3 - 1) (by omega) (by repeat (first | refine Ag.upd rfl ?_ | exact Ag.hv)) ⟨j + 1, ?_, by omega, by omega, rfl⟩
      all_goals (show Value.int .i64 _ = _; congr 1)
    repeat' first
      | (refine J.isJ ?_; first | ((refine J.o 4 ?_; first | refine J.e0 hΓ ?_ | refine J.lT default hΓ ?_ (hs := hio) (hr := RdH.hd.tl) | refine J.lT default hΓ ?_ (hs := hik) (hr := RdH.hd.tl))) | (first | (refine J.o 0 ?_; refine J.ev' hΓ ?_) | refine J.nil ?_ | refine J.kd ?_ | (refine J.o 4 ?_; first | refine J.e0 hΓ ?_ | refine J.lT default hΓ ?_ | refine J.e1 hΓ ?_ | refine J.e2 hΓ ?_ | refine J.lR hΓ ?_) | (refine J.o 3 ?_; first | refine J.iA hΓ ?_ | refine J.iJ hΓ ?_ | refine J.fP hΓ ?_ | refine J.iC hΓ ?_ | refine J.ev' hΓ ?_) | (refine J.o 1 ?_; first | refine J.ad ?_ | refine J.sb ?_ | refine J.ng ?_ | refine J.mu ?_) | (refine J.o 5 ?_; first | refine J.t0 hΓ ?_ | refine J.t1 hΓ ?_ | refine J.t2 hΓ ?_) | (refine J.o 6 ?_; refine J.bx (fun _ => ?_)) | (refine J.o 7 ?_; refine J.al hΓ (fun _ => ?_)) | (refine J.o 8 ?_; refine J.bd hΓ ?_) | (refine J.o 9 ?_; refine J.bl hΓ (fun _ => ?_)) | (refine J.o 10 ?_; first | refine J.ls hΓ ?_ | refine J.ev' hΓ ?_) | (refine J.o 11 ?_; refine J.ev' hΓ ?_) | refine J.kn ?_) | ((fail_if_success refine J.wt ?_); refine J.gc rfl rfl (fun hc => ?_) (fun hc => ?_) <;> ((try simp only [decide_eq_true_eq, decide_eq_false_iff_not, beq_iff_eq, beq_eq_false_iff_ne, bne_iff_ne, bne_eq_false_iff_eq, Bool.not_eq_true', Bool.not_eq_false', Bool.not_eq_true, Bool.not_eq_false] at hc) <;> first | (first | (exact absurd rfl hc) | (exfalso; omega) | (exact absurd (hc.symm.trans (by assumption : _ = false)) (by decide)) | (exact absurd (hc.symm.trans (by assumption : _ = true)) (by decide))) | skip)))
      | (first | refine JC.seq ?_ | refine JC.region ?_ | refine JC.block ?_ | refine JC.ret ?_ | refine JC.exit ?_ | refine JC.skip ?_ | refine thenK.nn ?_ | refine thenK.r ?_ | refine thenK.x ?_ | refine blockK.nn ?_ | refine blockK.r ?_ | refine blockK.hit rfl ?_ | refine blockK.miss rfl ?_ | refine JC.condT rfl ?_ | refine JC.condF rfl ?_ | (refine JC.cond rfl (fun hc => ?_) (fun hc => ?_) <;> ((try simp only [decide_eq_true_eq, decide_eq_false_iff_not, beq_iff_eq, beq_eq_false_iff_ne, bne_iff_ne, bne_eq_false_iff_eq, Bool.not_eq_true', Bool.not_eq_false', Bool.not_eq_true, Bool.not_eq_false] at hc) <;> first | (first | (exact absurd rfl hc) | (exfalso; omega) | (exact absurd (hc.symm.trans (by assumption : _ = false)) (by decide)) | (exact absurd (hc.symm.trans (by assumption : _ = true)) (by decide))) | skip)) | (refine JC.drawA [] (by kernel_rfl) (by kernel_rfl) ?_) | refine drawK.nn ?_ | refine roundK.nn ?_ | refine roundK.r ?_ | refine roundK.x ?_ | refine loopK.r ?_ | refine loopK.x ?_)
      | (fail)
      | fail
    all_goals first | (exfalso; omega) | skip
    all_goals refine loopK.nn (m - 1) (by omega) (by repeat (first | refine Ag.upd rfl ?_ | exact Ag.hv | refine Ag.hv2 (fun i hi => by simp at hi ⊢; omega) ?_)) ⟨k + 1, ?_, by omega, rfl⟩
    all_goals (show Value.int .i64 _ = _; congr 1)
end Go.Proofs.Ytinpcimogojefaa
