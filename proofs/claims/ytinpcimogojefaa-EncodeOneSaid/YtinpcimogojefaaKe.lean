/- EncodeCounts: plain law and walk. -/
import Derived.Test.YtinpcimogojefaaKb
namespace Go.Proofs.Ytinpcimogojefaa
open Go Go.Cx Go.RowKit
set_option linter.unusedVariables false
set_option linter.unusedSimpArgs false
set_option maxHeartbeats 4000000
attribute [local irreducible] J JC thenK blockK loopK roundK drawK retK QW Qt pel List.set Calls
attribute [local irreducible] JE Br eK0 eK2 eK3 brK
theorem foldN_total (P : Int → Int × Int) (least : Int) : ∀ k : Nat, (foldN P least k).total = sumI (foldN P least k).cs
  | 0 => rfl
  | k + 1 => by
    have ih := foldN_total P least k
    show (stepN P (foldN P least k) k).total = sumI (stepN P (foldN P least k) k).cs
    unfold stepN
    dsimp only
    rw [sumI_app, ← ih]
    congr 1
    split
    · rw [sumI_one]; omega
    · split
      · rw [sumI_one]; omega
      · simp [sumI]; omega
theorem sum_min (least : Int) (h0 : 0 ≤ least) : ∀ cs : List Int, (∀ c, c ∈ cs → 0 ≤ c) → (sumI cs ≤ sumI (cs.map fun c => min c least) ∨ least ≤ sumI (cs.map fun c => min c least)) ∧ 0 ≤ sumI (cs.map fun c => min c least)
  | [], _ => by simp [sumI]
  | c :: cs, h => by
    have ih := sum_min least h0 cs fun x hx => h x (List.mem_cons_of_mem _ hx)
    have hc := h c List.mem_cons_self
    rw [List.map_cons, sumI_cons, sumI_cons]
    omega
theorem norm_first {s : PS} {n : Int} (h : checkS s.1 s.2.1 s.2.2 n = 0) (hc : (nfP s).1 ≠ []) : 0 < (nfP s).2.2 ∧ (nfP s).2.2 ≤ sumI (nfP s).1 := by
  obtain ⟨hn, hlen, h64, hlit, habs, hl1, hl2⟩ := check_ok h
  have hP0 : pairF s.1 s.2.1 0 = (0, 0) := by
    unfold pairF
    rw [ofS_zero s.1 s.2.1 0 (fun l hm e => by have := hlit l hm; omega)]
    rw [show (-0 : Int) = 0 from rfl, ofS_zero s.1 s.2.1 0 (fun l hm e => by have := hlit l hm; omega)]
  have hf := foldN_ok s.1 s.2.1 s.2.2 hP0 habs 129
  have ht := foldN_total (pairF s.1 s.2.1) s.2.2 129
  unfold nfP normS at hc ⊢
  generalize foldN (pairF s.1 s.2.1) s.2.2 129 = S at *
  dsimp only at hc ⊢
  by_cases h1 : S.least ≤ 0
  · rw [if_pos h1] at hc; simp at hc
  rw [if_neg h1] at hc ⊢
  by_cases h2 : S.total < S.least
  · rw [if_pos h2] at hc; simp at hc
  rw [if_neg h2]
  have := sum_min S.least (by omega) S.cs fun c hc => by have := (hf.1 c hc).1; omega
  dsimp only
  omega
theorem rows_first {s : PS} {n : Int} (h : checkS s.1 s.2.1 s.2.2 n = 0) (he : nfP s = s) (hc : s.1 ≠ []) : ∃ rest, rowsP s = [0] :: rest := by
  have hf := norm_first h (by rw [he]; exact hc)
  rw [he] at hf
  unfold rowsP
  cases hcs : s.1 with
  | nil => exact absurd hcs hc
  | cons c cs =>
    rw [rowsF, ← hcs]
    refine ⟨rowsF s.2.2 cs (nextF [0] c), ?_⟩
    have e : undec s.2.2 (sumI s.1) [0] = [0] := by
      unfold undec
      rw [List.filter_cons, List.filter_nil]
      have a1 : decide ((0 : Int) < s.2.2) = true := decide_eq_true hf.1
      have a2 : decide (s.2.2 ≤ 0 + sumI s.1) = true := decide_eq_true (by omega)
      rw [a1, a2]
      rfl
    rw [e]
/-- what the law asks of a sum whose states and encoding there are -/
structure CountsOk (s : PS) (N : Int) (rows : List (List Int)) : Prop where
  len : rows.length = s.1.length
  tot : N = 64 + totF rows
  ok : ∀ r, r ∈ rows → asc r ∧ ∀ x, x ∈ r → 0 ≤ x ∧ x < s.2.2
  first : s.1 ≠ [] → ∃ rest, rows = [0] :: rest
  small : totF rows ≤ 128
set_option maxRecDepth 20000 in
theorem counts_ok {s : PS} (h1 : (stR s).1 = 0) (h2 : (encR 64 [s]).1 = 0) : CountsOk s (encR 64 [s]).2.1 (stR s).2 := by
  unfold stR at h1 ⊢
  by_cases hc : checkS s.1 s.2.1 s.2.2 128 ≠ 0 ∨ nfP s ≠ s
  · rw [if_pos hc] at h1; cases h1
  rw [if_neg hc] at h1 ⊢
  by_cases hf : 128 < totF (rowsP s)
  · rw [if_pos hf] at h1; cases h1
  rw [if_neg hf]
  have hc1 : checkS s.1 s.2.1 s.2.2 128 = 0 := Classical.byContradiction fun e => hc (.inl e)
  have hc2 : nfP s = s := Classical.byContradiction fun e => hc (.inr e)
  have hk := norm_ok hc1
  change NOK (nfP s).1 (nfP s).2.1 (nfP s).2.2 at hk
  rw [hc2] at hk
  refine ⟨rowsF_len _ _ _, ?_, rowsF_ok s.2.2 s.1 [0] (fun c hc => (hk.c c hc).1) (by simp [asc]) (fun p hp => by simp at hp; omega), fun hne => rows_first hc1 hc2 hne, Nat.not_lt.1 hf⟩
  unfold encR at h2 ⊢
  rw [if_neg (by omega), if_neg (by simp)] at h2 ⊢
  by_cases hb : badE 64 [s] ≠ 0
  · rw [if_pos hb] at h2; exact absurd h2 hb
  rw [if_neg hb] at h2 ⊢
  rw [runE, hc2] at h2 ⊢
  by_cases h3 : 128 < 64 + ((totF (rowsP s) : Nat) : Int)
  · rw [if_pos h3] at h2; cases h2
  rw [if_neg h3] at h2 ⊢
  by_cases h4 : 4096 < (oneP [] s (64 + 1)).length
  · rw [if_pos h4] at h2; cases h2
  rw [if_neg h4, runE]
  rfl
theorem asc_prev (l : List Int) (j : Nat) (hj : j < l.length) (ha : asc l) : 0 < j → l.getD ((j : Int) - 1).toNat default < l.getD j default := fun h0 => by
  have e : ((j : Int) - 1).toNat = j - 1 := by omega
  rw [e]
  have := List.pairwise_iff_getElem.1 ha (j - 1) j (by omega) hj (by omega)
  rw [List.getD_eq_getElem?_getD, List.getD_eq_getElem?_getD, List.getElem?_eq_getElem hj, List.getElem?_eq_getElem (by omega)]
  exact this
theorem oneSvC {n2 : Nat} {s : SV} {hS : Heap} (hs : SIn s hS) : SumsIn (some ⟨n2, 0, none⟩) [s] ((n2, .cells ⟨encSV s⟩ 24 (0, 0)) :: hS) := by
  refine ⟨?_, fun x hx => ?_⟩
  · have : SlT encSV 3 (some ⟨n2, 0, none⟩) [s] [(n2, .cells ⟨encSV s⟩ 24 (0, 0))] := OwT.sl (e := 24) (cap := 1) ⟨fun _ => rfl, .inr ⟨n2, _, rfl, rfl, rfl, Nat.le_refl _, rfl⟩⟩
    exact this.sub (fun x hx => by rw [List.mem_singleton.1 hx]; exact List.mem_cons_self)
  · rw [List.mem_singleton.1 hx]
    exact ⟨hs.c.sub (fun _ hx => List.mem_cons_of_mem _ hx), hs.l.sub (fun _ hx => List.mem_cons_of_mem _ hx)⟩
theorem lightOneC {s : SV} {h : Heap} (hs : SIn s h) {w0 w : World} {R : Heap} {L : List Heap} (hw : H w0 R L w) (rh : RdH R L h) {n : Nat} (r2 : Rd R L n (.cells ⟨encSV s⟩ 24 (0, 0))) :
    Calls Try.prog 13 #[.slice (some ⟨n, 0, none⟩) 1 1] w fun e w' => e = .returned (.bool (lightP [s])) ∧ Below w.heap.size w w' :=
  light_any (some ⟨n, 0, none⟩) 1 [s] _ (oneSvC hs) (by show 1 ≤ 9223372036854775807; omega) w (fun x h => hw.rd (rdc r2 rh x h))
theorem encOne (n : Int) {s : SV} {h : Heap} (hs : SIn s h) {w0 w : World} {R : Heap} {L : List Heap} (hw : H w0 R L w) (rh : RdH R L h) {n2 : Nat} (r2 : Rd R L n2 (.cells ⟨encSV s⟩ 24 (0, 0))) :
    Calls Try.prog 20 #[.int .i64 n, .slice (some ⟨n2, 0, none⟩) 1 1] w (Gives (fun v g => ∃ a cap len, v = .tuple #[.agg ⟨[.int .i64 (encR n [psV s]).2.1, .slice a len cap]⟩, .int .i64 (encR n [psV s]).1]) w) := by
  refine (encode_any n (some ⟨n2, 0, none⟩) 1 [s] _ (oneSvC hs) (by show 1 ≤ 1000000; omega) w (fun x h => hw.rd (rdc r2 rh x h))).mono ?_
  rintro e w' ⟨v, g, h1, h2, h3, h4, h5, tv, g0, g1, h6, _, aa, ka, vs, h9, _⟩
  exact ⟨v, g, h1, h2, h3, h4, h5, aa, ka, vs.length, by rw [h6, h9]; rfl⟩
set_option maxHeartbeats 8000000 in
theorem counts_walk (s : SV) (h : Heap) (hs : SIn s h) (w : World) (hw : Holds h w) :
    Calls Try.prog 7 #[.agg ⟨encSV s⟩] w fun e w' => e = .returned (.bool true) ∧ Below w.heap.size w w' := by
  have q0 : ∀ L, RdH h L h := fun L => RdH.old fun _ hh => hh
  refine calls_of_JC (R := h) Try.func7 Try.ntmps7 rfl rfl (hw) ?_
  cases hlt : lightP [s] with
  | false =>
    repeat' first
      | (refine J.isJ ?_; first | (first | (refine J.fc 13 ?_; refine J.call0 eLight rfl rfl (fun w hw => hlt ▸ lightOneC hs hw (q0 _) (by first | exact Rd.hd | exact Rd.hd.tl)) ?_) | (refine J.fc 14 ?_; refine J.call0 eWorks rfl rfl (fun w hw => works_any w) ?_)) | (first | (refine J.o 0 ?_; refine J.ev' hΓ ?_) | refine J.nil ?_ | refine J.kd ?_ | (refine J.o 4 ?_; first | refine J.e0 hΓ ?_ | refine J.lT default hΓ ?_ | refine J.e1 hΓ ?_ | refine J.e2 hΓ ?_ | refine J.lR hΓ ?_) | (refine J.o 3 ?_; first | refine J.iA hΓ ?_ | refine J.iJ hΓ ?_ | refine J.fP hΓ ?_ | refine J.iC hΓ ?_ | refine J.ev' hΓ ?_) | (refine J.o 1 ?_; first | refine J.ad ?_ | refine J.sb ?_ | refine J.ng ?_ | refine J.mu ?_) | (refine J.o 5 ?_; first | refine J.t0 hΓ ?_ | refine J.t1 hΓ ?_ | refine J.t2 hΓ ?_) | (refine J.o 6 ?_; refine J.bx (fun _ => ?_)) | (refine J.o 7 ?_; refine J.al hΓ (fun _ => ?_)) | (refine J.o 8 ?_; refine J.bd hΓ ?_) | (refine J.o 9 ?_; refine J.bl hΓ (fun _ => ?_)) | (refine J.o 10 ?_; first | refine J.ls hΓ ?_ | refine J.ev' hΓ ?_) | (refine J.o 11 ?_; refine J.ev' hΓ ?_) | refine J.kn ?_) | ((fail_if_success refine J.wt ?_); refine J.gc rfl rfl (fun hc => ?_) (fun hc => ?_) <;> ((try simp only [decide_eq_true_eq, decide_eq_false_iff_not, beq_iff_eq, beq_eq_false_iff_ne, bne_iff_ne, bne_eq_false_iff_eq, Bool.not_eq_true', Bool.not_eq_false', Bool.not_eq_true, Bool.not_eq_false] at hc) <;> first | (first | (exact absurd rfl hc) | (exfalso; omega) | (exact absurd (hc.symm.trans (by assumption : _ = false)) (by decide)) | (exact absurd (hc.symm.trans (by assumption : _ = true)) (by decide))) | skip)))
      | (first | refine JC.seq ?_ | refine JC.region ?_ | refine JC.block ?_ | refine JC.ret ?_ | refine JC.exit ?_ | refine JC.skip ?_ | refine thenK.nn ?_ | refine thenK.r ?_ | refine thenK.x ?_ | refine blockK.nn ?_ | refine blockK.r ?_ | refine blockK.hit rfl ?_ | refine blockK.miss rfl ?_ | refine JC.condT rfl ?_ | refine JC.condF rfl ?_ | (refine JC.cond rfl (fun hc => ?_) (fun hc => ?_) <;> ((try simp only [decide_eq_true_eq, decide_eq_false_iff_not, beq_iff_eq, beq_eq_false_iff_ne, bne_iff_ne, bne_eq_false_iff_eq, Bool.not_eq_true', Bool.not_eq_false', Bool.not_eq_true, Bool.not_eq_false] at hc) <;> first | (first | (exact absurd rfl hc) | (exfalso; omega) | (exact absurd (hc.symm.trans (by assumption : _ = false)) (by decide)) | (exact absurd (hc.symm.trans (by assumption : _ = true)) (by decide))) | skip)) | (refine JC.drawA [] (by kernel_rfl) (by kernel_rfl) ?_) | refine drawK.nn ?_ | refine roundK.nn ?_ | refine roundK.r ?_ | refine roundK.x ?_ | refine loopK.r ?_ | refine loopK.x ?_)
      | (fail)
      | fail
    all_goals first | (exfalso; omega) | exact ret1f rfl rfl rfl (fun w1 hw => ⟨rfl, hw.below⟩)
  | true =>
    have hlt2 := hlt
    unfold lightP at hlt2
    simp only [Bool.and_eq_true, List.all_eq_true, decide_eq_true_eq] at hlt2
    have hsz := hlt2.1 s (List.mem_singleton.2 rfl)
    have cSt := fun w hw => states_any s h hs (by omega) (by omega) w hw
    have cEn : ∀ {w w0 : World} {R : Heap} {L : List Heap} {n2 : Nat}, H w0 R L w → RdH R L h → Rd R L n2 (.cells ⟨encSV s⟩ 24 (0, 0)) → Calls Try.prog 20 #[.int .i64 64, .slice (some ⟨n2, 0, none⟩) 1 1] w (Gives (fun v g => ∃ a cap len, v = .tuple #[.agg ⟨[.int .i64 (encR 64 [psV s]).2.1, .slice a len cap]⟩, .int .i64 (encR 64 [psV s]).1]) w) := fun hw rh r2 => encOne 64 hs hw rh r2
    have hco : (stR (psV s)).1 = 0 → (encR 64 [psV s]).1 = 0 → CountsOk (psV s) (encR 64 [psV s]).2.1 (stR (psV s)).2 := counts_ok
    generalize (stR (psV s)).1 = ec at *
    generalize (stR (psV s)).2 = eT at *
    generalize (encR 64 [psV s]).1 = fc at *
    generalize (encR 64 [psV s]).2.1 = fN at *
    by_cases hef : ec ≠ 0 ∨ fc ≠ 0
    ·
      repeat' first
        | (refine J.isJ ?_; first | (first | (refine J.fc 13 ?_; refine J.call0 eLight rfl rfl (fun w hw => hlt ▸ lightOneC hs hw (q0 _) (by first | exact Rd.hd | exact Rd.hd.tl)) ?_) | (refine J.fc 16 ?_; refine J.call1 eStates rfl rfl (fun w hw => cSt w (hw.rdH (q0 _))) ?_; rintro _ hgA ⟨aA, kA, vA, rfl, llA, hvA⟩) | (refine J.fc 20 ?_; refine J.call1 eEncode rfl rfl (fun w hw => cEn hw (q0 _) Rd.hd) ?_; rintro _ hgB ⟨aB, kB, nB, rfl⟩) | (refine J.o 4 ?_; refine J.e3 hΓ ?_) | (refine J.fc 14 ?_; refine J.call0 eWorks rfl rfl (fun w hw => works_any w) ?_)) | (first | (refine J.o 0 ?_; refine J.ev' hΓ ?_) | refine J.nil ?_ | refine J.kd ?_ | (refine J.o 4 ?_; first | refine J.e0 hΓ ?_ | refine J.lT default hΓ ?_ | refine J.e1 hΓ ?_ | refine J.e2 hΓ ?_ | refine J.lR hΓ ?_) | (refine J.o 3 ?_; first | refine J.iA hΓ ?_ | refine J.iJ hΓ ?_ | refine J.fP hΓ ?_ | refine J.iC hΓ ?_ | refine J.ev' hΓ ?_) | (refine J.o 1 ?_; first | refine J.ad ?_ | refine J.sb ?_ | refine J.ng ?_ | refine J.mu ?_) | (refine J.o 5 ?_; first | refine J.t0 hΓ ?_ | refine J.t1 hΓ ?_ | refine J.t2 hΓ ?_) | (refine J.o 6 ?_; refine J.bx (fun _ => ?_)) | (refine J.o 7 ?_; refine J.al hΓ (fun _ => ?_)) | (refine J.o 8 ?_; refine J.bd hΓ ?_) | (refine J.o 9 ?_; refine J.bl hΓ (fun _ => ?_)) | (refine J.o 10 ?_; first | refine J.ls hΓ ?_ | refine J.ev' hΓ ?_) | (refine J.o 11 ?_; refine J.ev' hΓ ?_) | refine J.kn ?_) | ((fail_if_success refine J.wt ?_); refine J.gc rfl rfl (fun hc => ?_) (fun hc => ?_) <;> ((try simp only [decide_eq_true_eq, decide_eq_false_iff_not, beq_iff_eq, beq_eq_false_iff_ne, bne_iff_ne, bne_eq_false_iff_eq, Bool.not_eq_true', Bool.not_eq_false', Bool.not_eq_true, Bool.not_eq_false] at hc) <;> first | (first | (exact absurd rfl hc) | (exfalso; omega) | (exact absurd (hc.symm.trans (by assumption : _ = false)) (by decide)) | (exact absurd (hc.symm.trans (by assumption : _ = true)) (by decide))) | skip)))
        | (first | refine JC.seq ?_ | refine JC.region ?_ | refine JC.block ?_ | refine JC.ret ?_ | refine JC.exit ?_ | refine JC.skip ?_ | refine thenK.nn ?_ | refine thenK.r ?_ | refine thenK.x ?_ | refine blockK.nn ?_ | refine blockK.r ?_ | refine blockK.hit rfl ?_ | refine blockK.miss rfl ?_ | refine JC.condT rfl ?_ | refine JC.condF rfl ?_ | (refine JC.cond rfl (fun hc => ?_) (fun hc => ?_) <;> ((try simp only [decide_eq_true_eq, decide_eq_false_iff_not, beq_iff_eq, beq_eq_false_iff_ne, bne_iff_ne, bne_eq_false_iff_eq, Bool.not_eq_true', Bool.not_eq_false', Bool.not_eq_true, Bool.not_eq_false] at hc) <;> first | (first | (exact absurd rfl hc) | (exfalso; omega) | (exact absurd (hc.symm.trans (by assumption : _ = false)) (by decide)) | (exact absurd (hc.symm.trans (by assumption : _ = true)) (by decide))) | skip)) | (refine JC.drawA [] (by kernel_rfl) (by kernel_rfl) ?_) | refine drawK.nn ?_ | refine roundK.nn ?_ | refine roundK.r ?_ | refine roundK.x ?_ | refine loopK.r ?_ | refine loopK.x ?_)
        | (fail)
        | fail
      all_goals first | (exfalso; omega) | exact ret1f rfl rfl rfl (fun w1 hw => ⟨rfl, hw.below⟩)
    have he0 : ec = 0 := Classical.byContradiction fun e => hef (.inl e)
    have hf0 : fc = 0 := Classical.byContradiction fun e => hef (.inr e)
    have hok := hco he0 hf0
    clear hco hef
    subst he0
    subst hf0
    repeat' first
      | (refine J.isJ ?_; first | (first | (refine J.fc 13 ?_; refine J.call0 eLight rfl rfl (fun w hw => hlt ▸ lightOneC hs hw (q0 _) (by first | exact Rd.hd | exact Rd.hd.tl)) ?_) | (refine J.fc 16 ?_; refine J.call1 eStates rfl rfl (fun w hw => cSt w (hw.rdH (q0 _))) ?_; rintro _ hgA ⟨aA, kA, vA, rfl, llA, hvA⟩) | (refine J.fc 20 ?_; refine J.call1 eEncode rfl rfl (fun w hw => cEn hw (q0 _) Rd.hd) ?_; rintro _ hgB ⟨aB, kB, nB, rfl⟩) | (refine J.o 4 ?_; refine J.e3 hΓ ?_) | (refine J.fc 14 ?_; refine J.call0 eWorks rfl rfl (fun w hw => works_any w) ?_)) | (first | (refine J.o 0 ?_; refine J.ev' hΓ ?_) | refine J.nil ?_ | refine J.kd ?_ | (refine J.o 4 ?_; first | refine J.e0 hΓ ?_ | refine J.lT default hΓ ?_ | refine J.e1 hΓ ?_ | refine J.e2 hΓ ?_ | refine J.lR hΓ ?_) | (refine J.o 3 ?_; first | refine J.iA hΓ ?_ | refine J.iJ hΓ ?_ | refine J.fP hΓ ?_ | refine J.iC hΓ ?_ | refine J.ev' hΓ ?_) | (refine J.o 1 ?_; first | refine J.ad ?_ | refine J.sb ?_ | refine J.ng ?_ | refine J.mu ?_) | (refine J.o 5 ?_; first | refine J.t0 hΓ ?_ | refine J.t1 hΓ ?_ | refine J.t2 hΓ ?_) | (refine J.o 6 ?_; refine J.bx (fun _ => ?_)) | (refine J.o 7 ?_; refine J.al hΓ (fun _ => ?_)) | (refine J.o 8 ?_; refine J.bd hΓ ?_) | (refine J.o 9 ?_; refine J.bl hΓ (fun _ => ?_)) | (refine J.o 10 ?_; first | refine J.ls hΓ ?_ | refine J.ev' hΓ ?_) | (refine J.o 11 ?_; refine J.ev' hΓ ?_) | refine J.kn ?_) | ((fail_if_success refine J.wt ?_); refine J.gc rfl rfl (fun hc => ?_) (fun hc => ?_) <;> ((try simp only [decide_eq_true_eq, decide_eq_false_iff_not, beq_iff_eq, beq_eq_false_iff_ne, bne_iff_ne, bne_eq_false_iff_eq, Bool.not_eq_true', Bool.not_eq_false', Bool.not_eq_true, Bool.not_eq_false] at hc) <;> first | (first | (exact absurd rfl hc) | (exfalso; omega) | (exact absurd (hc.symm.trans (by assumption : _ = false)) (by decide)) | (exact absurd (hc.symm.trans (by assumption : _ = true)) (by decide))) | skip)))
      | (first | refine JC.seq ?_ | refine JC.region ?_ | refine JC.block ?_ | refine JC.ret ?_ | refine JC.exit ?_ | refine JC.skip ?_ | refine thenK.nn ?_ | refine thenK.r ?_ | refine thenK.x ?_ | refine blockK.nn ?_ | refine blockK.r ?_ | refine blockK.hit rfl ?_ | refine blockK.miss rfl ?_ | refine JC.condT rfl ?_ | refine JC.condF rfl ?_ | (refine JC.cond rfl (fun hc => ?_) (fun hc => ?_) <;> ((try simp only [decide_eq_true_eq, decide_eq_false_iff_not, beq_iff_eq, beq_eq_false_iff_ne, bne_iff_ne, bne_eq_false_iff_eq, Bool.not_eq_true', Bool.not_eq_false', Bool.not_eq_true, Bool.not_eq_false] at hc) <;> first | (first | (exact absurd rfl hc) | (exfalso; omega) | (exact absurd (hc.symm.trans (by assumption : _ = false)) (by decide)) | (exact absurd (hc.symm.trans (by assumption : _ = true)) (by decide))) | skip)) | (refine JC.drawA [] (by kernel_rfl) (by kernel_rfl) ?_) | refine drawK.nn ?_ | refine roundK.nn ?_ | refine roundK.r ?_ | refine roundK.x ?_ | refine loopK.r ?_ | refine loopK.x ?_)
      | (fail)
      | fail
    all_goals first | (exfalso; omega) | skip
    rename_i b1 n12 n24 b5
    obtain ⟨hlen, htt, hok2, hfirst, hsmall⟩ := hok
    have hvl : vA.length = s.cs.length := by
      have := congrArg List.length hvA
      rw [List.length_map] at this
      rw [this]; exact hlen
    rw [← hvA] at hok2 hfirst hsmall htt
    have hro := llA.r.o
    have hri := llA.r.i
    refine JC.weak (L' := [[(b1, .cells ⟨encSV s⟩ 24 (0, 0))], [(b5, .cells ⟨[.int .i64 fN, .slice aB nB kB]⟩ 37 (0, 0))], hgA]) (fun w hw => H.sel (l := [_, _, _, _, _, _]) (M := []) hw [5, 0, 3]) ?_
    refine JC.gen [(1, .pointer (some ⟨b1, 0, none⟩)), (3, .slice aA vA.length kA), (5, .pointer (some ⟨b5, 0, none⟩)), (7, .int .i64 0), (35, .slice aA vA.length kA), (36, .int .i64 vA.length), (37, .int .i64 0)] ⟨rfl, rfl, rfl, rfl, rfl, rfl, rfl, trivial⟩ (fun F => ?_)
    refine JC.loop (fun i => i == 2 || (Nat.ble 7 i && Nat.ble i 11) || Nat.ble 37 i) (fun m g L => ∃ (k : Nat), g 37 = .int .i64 (k : Int) ∧ g 7 = .int .i64 ((totF ((vA.map (·.l)).take k) : Nat) : Int) ∧ k + m = vA.length ∧ L = _) vA.length ⟨0, rfl, rfl, by omega, rfl⟩ ?_
    rintro m g L ⟨k, e37, e7, hkm, rfl⟩
    refine JC.pin 37 e37 (JC.pin 7 e7 ?_)
    clear e37 e7
    have htk := totF_take (vA.map (·.l)) k
    rcases Nat.lt_or_ge k vA.length with hk | hk
    case inr =>
      rw [List.take_of_length_le (by simpa using hk)] at htk ⊢
      repeat' first
        | (refine J.isJ ?_; first | (first | (refine J.fc 14 ?_; refine J.call0 eWorks rfl rfl (fun w hw => works_any w) ?_)) | (first | (refine J.o 0 ?_; refine J.ev' hΓ ?_) | refine J.nil ?_ | refine J.kd ?_ | (refine J.o 4 ?_; first | refine J.e0 hΓ ?_ | refine J.lT default hΓ ?_ | refine J.e1 hΓ ?_ | refine J.e2 hΓ ?_ | refine J.lR hΓ ?_) | (refine J.o 3 ?_; first | refine J.iA hΓ ?_ | refine J.iJ hΓ ?_ | refine J.fP hΓ ?_ | refine J.iC hΓ ?_ | refine J.ev' hΓ ?_) | (refine J.o 1 ?_; first | refine J.ad ?_ | refine J.sb ?_ | refine J.ng ?_ | refine J.mu ?_) | (refine J.o 5 ?_; first | refine J.t0 hΓ ?_ | refine J.t1 hΓ ?_ | refine J.t2 hΓ ?_) | (refine J.o 6 ?_; refine J.bx (fun _ => ?_)) | (refine J.o 7 ?_; refine J.al hΓ (fun _ => ?_)) | (refine J.o 8 ?_; refine J.bd hΓ ?_) | (refine J.o 9 ?_; refine J.bl hΓ (fun _ => ?_)) | (refine J.o 10 ?_; first | refine J.ls hΓ ?_ | refine J.ev' hΓ ?_) | (refine J.o 11 ?_; refine J.ev' hΓ ?_) | refine J.kn ?_) | ((fail_if_success refine J.wt ?_); refine J.gc rfl rfl (fun hc => ?_) (fun hc => ?_) <;> ((try simp only [decide_eq_true_eq, decide_eq_false_iff_not, beq_iff_eq, beq_eq_false_iff_ne, bne_iff_ne, bne_eq_false_iff_eq, Bool.not_eq_true', Bool.not_eq_false', Bool.not_eq_true, Bool.not_eq_false] at hc) <;> first | (first | (exact absurd rfl hc) | (exfalso; omega) | (exact absurd (hc.symm.trans (by assumption : _ = false)) (by decide)) | (exact absurd (hc.symm.trans (by assumption : _ = true)) (by decide))) | skip)))
        | (first | refine JC.seq ?_ | refine JC.region ?_ | refine JC.block ?_ | refine JC.ret ?_ | refine JC.exit ?_ | refine JC.skip ?_ | refine thenK.nn ?_ | refine thenK.r ?_ | refine thenK.x ?_ | refine blockK.nn ?_ | refine blockK.r ?_ | refine blockK.hit rfl ?_ | refine blockK.miss rfl ?_ | refine JC.condT rfl ?_ | refine JC.condF rfl ?_ | (refine JC.cond rfl (fun hc => ?_) (fun hc => ?_) <;> ((try simp only [decide_eq_true_eq, decide_eq_false_iff_not, beq_iff_eq, beq_eq_false_iff_ne, bne_iff_ne, bne_eq_false_iff_eq, Bool.not_eq_true', Bool.not_eq_false', Bool.not_eq_true, Bool.not_eq_false] at hc) <;> first | (first | (exact absurd rfl hc) | (exfalso; omega) | (exact absurd (hc.symm.trans (by assumption : _ = false)) (by decide)) | (exact absurd (hc.symm.trans (by assumption : _ = true)) (by decide))) | skip)) | (refine JC.drawA [] (by kernel_rfl) (by kernel_rfl) ?_) | refine drawK.nn ?_ | refine roundK.nn ?_ | refine roundK.r ?_ | refine roundK.x ?_ | refine loopK.r ?_ | refine loopK.x ?_)
        | (fail)
        | fail
      all_goals first | (exfalso; omega) | exact ret1f rfl rfl rfl (fun w1 hw => ⟨rfl, hw.below⟩)
    have hm := mem_g vA k hk
    have hrik := hri _ hm
    have hrow := hok2 _ (List.mem_map_of_mem (f := (·.l)) hm)
    have htake : totF ((vA.map (·.l)).take (k + 1)) = totF ((vA.map (·.l)).take k) + (vA.getD k default).l.length := by
      rw [← List.map_take, take_g vA k hk, List.map_append, totF_app, List.map_take, List.map_singleton, totF_one]
    have htk1 := totF_take (vA.map (·.l)) (k + 1)
    have hf0 : k = 0 → (vA.getD k default).l.length = 1 ∧ (vA.getD k default).l.getD 0 default = 0 := fun h0 => by
      subst h0
      obtain ⟨rest, hr⟩ := hfirst (fun e => by
        have : s.cs = [] := e
        rw [this] at hvl
        have h0 : vA.length = 0 := hvl
        omega)
      cases vA with
      | nil => simp at hk
      | cons v vs =>
        have : v.l = [0] := (List.cons.inj (show v.l :: vs.map (·.l) = [0] :: rest from hr)).1
        show v.l.length = 1 ∧ v.l.getD 0 default = 0
        rw [this]
        exact ⟨rfl, rfl⟩
    repeat' first
      | (refine J.isJ ?_; first | ((refine J.o 4 ?_; first | refine J.e0 hΓ ?_ | refine J.e1 hΓ ?_ | refine J.lT default hΓ ?_ (hs := hro) (hr := RdH.hd.tl.tl) | refine J.lT default hΓ ?_ (hs := hrik) (hr := RdH.hd.tl.tl))) | (first | (refine J.o 0 ?_; refine J.ev' hΓ ?_) | refine J.nil ?_ | refine J.kd ?_ | (refine J.o 4 ?_; first | refine J.e0 hΓ ?_ | refine J.lT default hΓ ?_ | refine J.e1 hΓ ?_ | refine J.e2 hΓ ?_ | refine J.lR hΓ ?_) | (refine J.o 3 ?_; first | refine J.iA hΓ ?_ | refine J.iJ hΓ ?_ | refine J.fP hΓ ?_ | refine J.iC hΓ ?_ | refine J.ev' hΓ ?_) | (refine J.o 1 ?_; first | refine J.ad ?_ | refine J.sb ?_ | refine J.ng ?_ | refine J.mu ?_) | (refine J.o 5 ?_; first | refine J.t0 hΓ ?_ | refine J.t1 hΓ ?_ | refine J.t2 hΓ ?_) | (refine J.o 6 ?_; refine J.bx (fun _ => ?_)) | (refine J.o 7 ?_; refine J.al hΓ (fun _ => ?_)) | (refine J.o 8 ?_; refine J.bd hΓ ?_) | (refine J.o 9 ?_; refine J.bl hΓ (fun _ => ?_)) | (refine J.o 10 ?_; first | refine J.ls hΓ ?_ | refine J.ev' hΓ ?_) | (refine J.o 11 ?_; refine J.ev' hΓ ?_) | refine J.kn ?_) | ((fail_if_success refine J.wt ?_); refine J.gc rfl rfl (fun hc => ?_) (fun hc => ?_) <;> ((try simp only [decide_eq_true_eq, decide_eq_false_iff_not, beq_iff_eq, beq_eq_false_iff_ne, bne_iff_ne, bne_eq_false_iff_eq, Bool.not_eq_true', Bool.not_eq_false', Bool.not_eq_true, Bool.not_eq_false] at hc) <;> first | (first | (exact absurd rfl hc) | (exfalso; omega) | (exact absurd (hc.symm.trans (by assumption : _ = false)) (by decide)) | (exact absurd (hc.symm.trans (by assumption : _ = true)) (by decide))) | skip)))
      | (first | refine JC.seq ?_ | refine JC.region ?_ | refine JC.block ?_ | refine JC.ret ?_ | refine JC.exit ?_ | refine JC.skip ?_ | refine thenK.nn ?_ | refine thenK.r ?_ | refine thenK.x ?_ | refine blockK.nn ?_ | refine blockK.r ?_ | refine blockK.hit rfl ?_ | refine blockK.miss rfl ?_ | refine JC.condT rfl ?_ | refine JC.condF rfl ?_ | (refine JC.cond rfl (fun hc => ?_) (fun hc => ?_) <;> ((try simp only [decide_eq_true_eq, decide_eq_false_iff_not, beq_iff_eq, beq_eq_false_iff_ne, bne_iff_ne, bne_eq_false_iff_eq, Bool.not_eq_true', Bool.not_eq_false', Bool.not_eq_true, Bool.not_eq_false] at hc) <;> first | (first | (exact absurd rfl hc) | (exfalso; omega) | (exact absurd (hc.symm.trans (by assumption : _ = false)) (by decide)) | (exact absurd (hc.symm.trans (by assumption : _ = true)) (by decide))) | skip)) | (refine JC.drawA [] (by kernel_rfl) (by kernel_rfl) ?_) | refine drawK.nn ?_ | refine roundK.nn ?_ | refine roundK.r ?_ | refine roundK.x ?_ | refine loopK.r ?_ | refine loopK.x ?_)
      | (fail)
      | fail
    all_goals first | (exfalso; omega) | skip
    refine JC.loop (fun i => i == 2 || i == 10 || i == 11 || (Nat.ble 44 i && Nat.ble i 70)) (fun m g L => ∃ (j : Nat), g 44 = .int .i64 (j : Int) ∧ j + m = (vA.getD k default).l.length ∧ L = _) (vA.getD k default).l.length ⟨0, rfl, by omega, rfl⟩ ?_
    rintro m3 g3 L3 ⟨j, e44, hjm, rfl⟩
    refine JC.pin 44 e44 ?_
    clear e44
    rcases Nat.lt_or_ge j (vA.getD k default).l.length with hj | hj
    case inl =>
      have hp := hrow.2 _ (getD_mem (vA.getD k default).l j hj)
      have hpp : 0 ≤ (vA.getD k default).l.getD j default ∧ (vA.getD k default).l.getD j default < s.least := hp
      have hpr := asc_prev (vA.getD k default).l j hj hrow.1
      repeat' first
        | (refine J.isJ ?_; first | ((refine J.o 4 ?_; first | refine J.e0 hΓ ?_ | refine J.e1 hΓ ?_ | refine J.lT default hΓ ?_ (hs := hro) (hr := RdH.hd.tl.tl) | refine J.lT default hΓ ?_ (hs := hrik) (hr := RdH.hd.tl.tl))) | (first | (refine J.o 0 ?_; refine J.ev' hΓ ?_) | refine J.nil ?_ | refine J.kd ?_ | (refine J.o 4 ?_; first | refine J.e0 hΓ ?_ | refine J.lT default hΓ ?_ | refine J.e1 hΓ ?_ | refine J.e2 hΓ ?_ | refine J.lR hΓ ?_) | (refine J.o 3 ?_; first | refine J.iA hΓ ?_ | refine J.iJ hΓ ?_ | refine J.fP hΓ ?_ | refine J.iC hΓ ?_ | refine J.ev' hΓ ?_) | (refine J.o 1 ?_; first | refine J.ad ?_ | refine J.sb ?_ | refine J.ng ?_ | refine J.mu ?_) | (refine J.o 5 ?_; first | refine J.t0 hΓ ?_ | refine J.t1 hΓ ?_ | refine J.t2 hΓ ?_) | (refine J.o 6 ?_; refine J.bx (fun _ => ?_)) | (refine J.o 7 ?_; refine J.al hΓ (fun _ => ?_)) | (refine J.o 8 ?_; refine J.bd hΓ ?_) | (refine J.o 9 ?_; refine J.bl hΓ (fun _ => ?_)) | (refine J.o 10 ?_; first | refine J.ls hΓ ?_ | refine J.ev' hΓ ?_) | (refine J.o 11 ?_; refine J.ev' hΓ ?_) | refine J.kn ?_) | ((fail_if_success refine J.wt ?_); refine J.gc rfl rfl (fun hc => ?_) (fun hc => ?_) <;> ((try simp only [decide_eq_true_eq, decide_eq_false_iff_not, beq_iff_eq, beq_eq_false_iff_ne, bne_iff_ne, bne_eq_false_iff_eq, Bool.not_eq_true', Bool.not_eq_false', Bool.not_eq_true, Bool.not_eq_false] at hc) <;> first | (first | (exact absurd rfl hc) | (exfalso; omega) | (exact absurd (hc.symm.trans (by assumption : _ = false)) (by decide)) | (exact absurd (hc.symm.trans (by assumption : _ = true)) (by decide))) | skip)))
        | (first | refine JC.seq ?_ | refine JC.region ?_ | refine JC.block ?_ | refine JC.ret ?_ | refine JC.exit ?_ | refine JC.skip ?_ | refine thenK.nn ?_ | refine thenK.r ?_ | refine thenK.x ?_ | refine blockK.nn ?_ | refine blockK.r ?_ | refine blockK.hit rfl ?_ | refine blockK.miss rfl ?_ | refine JC.condT rfl ?_ | refine JC.condF rfl ?_ | (refine JC.cond rfl (fun hc => ?_) (fun hc => ?_) <;> ((try simp only [decide_eq_true_eq, decide_eq_false_iff_not, beq_iff_eq, beq_eq_false_iff_ne, bne_iff_ne, bne_eq_false_iff_eq, Bool.not_eq_true', Bool.not_eq_false', Bool.not_eq_true, Bool.not_eq_false] at hc) <;> first | (first | (exact absurd rfl hc) | (exfalso; omega) | (exact absurd (hc.symm.trans (by assumption : _ = false)) (by decide)) | (exact absurd (hc.symm.trans (by assumption : _ = true)) (by decide))) | skip)) | (refine JC.drawA [] (by kernel_rfl) (by kernel_rfl) ?_) | refine drawK.nn ?_ | refine roundK.nn ?_ | refine roundK.r ?_ | refine roundK.x ?_ | refine loopK.r ?_ | refine loopK.x ?_)
        | (fail)
        | fail
      all_goals first | (exfalso; omega) | skip
      all_goals refine loopK.nn (m3 - 1) (by omega) (by repeat (first | refine Ag.upd rfl ?_ | exact Ag.hv)) ⟨j + 1, ?_, by omega, rfl⟩
      all_goals (show Value.int .i64 _ = _; congr 1)
    repeat' first
      | (refine J.isJ ?_; first | ((refine J.o 4 ?_; first | refine J.e0 hΓ ?_ | refine J.e1 hΓ ?_ | refine J.lT default hΓ ?_ (hs := hro) (hr := RdH.hd.tl.tl) | refine J.lT default hΓ ?_ (hs := hrik) (hr := RdH.hd.tl.tl))) | (first | (refine J.o 0 ?_; refine J.ev' hΓ ?_) | refine J.nil ?_ | refine J.kd ?_ | (refine J.o 4 ?_; first | refine J.e0 hΓ ?_ | refine J.lT default hΓ ?_ | refine J.e1 hΓ ?_ | refine J.e2 hΓ ?_ | refine J.lR hΓ ?_) | (refine J.o 3 ?_; first | refine J.iA hΓ ?_ | refine J.iJ hΓ ?_ | refine J.fP hΓ ?_ | refine J.iC hΓ ?_ | refine J.ev' hΓ ?_) | (refine J.o 1 ?_; first | refine J.ad ?_ | refine J.sb ?_ | refine J.ng ?_ | refine J.mu ?_) | (refine J.o 5 ?_; first | refine J.t0 hΓ ?_ | refine J.t1 hΓ ?_ | refine J.t2 hΓ ?_) | (refine J.o 6 ?_; refine J.bx (fun _ => ?_)) | (refine J.o 7 ?_; refine J.al hΓ (fun _ => ?_)) | (refine J.o 8 ?_; refine J.bd hΓ ?_) | (refine J.o 9 ?_; refine J.bl hΓ (fun _ => ?_)) | (refine J.o 10 ?_; first | refine J.ls hΓ ?_ | refine J.ev' hΓ ?_) | (refine J.o 11 ?_; refine J.ev' hΓ ?_) | refine J.kn ?_) | ((fail_if_success refine J.wt ?_); refine J.gc rfl rfl (fun hc => ?_) (fun hc => ?_) <;> ((try simp only [decide_eq_true_eq, decide_eq_false_iff_not, beq_iff_eq, beq_eq_false_iff_ne, bne_iff_ne, bne_eq_false_iff_eq, Bool.not_eq_true', Bool.not_eq_false', Bool.not_eq_true, Bool.not_eq_false] at hc) <;> first | (first | (exact absurd rfl hc) | (exfalso; omega) | (exact absurd (hc.symm.trans (by assumption : _ = false)) (by decide)) | (exact absurd (hc.symm.trans (by assumption : _ = true)) (by decide))) | skip)))
      | (first | refine JC.seq ?_ | refine JC.region ?_ | refine JC.block ?_ | refine JC.ret ?_ | refine JC.exit ?_ | refine JC.skip ?_ | refine thenK.nn ?_ | refine thenK.r ?_ | refine thenK.x ?_ | refine blockK.nn ?_ | refine blockK.r ?_ | refine blockK.hit rfl ?_ | refine blockK.miss rfl ?_ | refine JC.condT rfl ?_ | refine JC.condF rfl ?_ | (refine JC.cond rfl (fun hc => ?_) (fun hc => ?_) <;> ((try simp only [decide_eq_true_eq, decide_eq_false_iff_not, beq_iff_eq, beq_eq_false_iff_ne, bne_iff_ne, bne_eq_false_iff_eq, Bool.not_eq_true', Bool.not_eq_false', Bool.not_eq_true, Bool.not_eq_false] at hc) <;> first | (first | (exact absurd rfl hc) | (exfalso; omega) | (exact absurd (hc.symm.trans (by assumption : _ = false)) (by decide)) | (exact absurd (hc.symm.trans (by assumption : _ = true)) (by decide))) | skip)) | (refine JC.drawA [] (by kernel_rfl) (by kernel_rfl) ?_) | refine drawK.nn ?_ | refine roundK.nn ?_ | refine roundK.r ?_ | refine roundK.x ?_ | refine loopK.r ?_ | refine loopK.x ?_)
      | (fail)
      | fail
    all_goals first | (exfalso; omega) | skip
    all_goals refine loopK.nn (m - 1) (by omega) (by repeat (first | refine Ag.upd rfl ?_ | exact Ag.hv | refine Ag.hv2 (fun i hi => by simp at hi ⊢; omega) ?_)) ⟨k + 1, ?_, ?_, by omega, rfl⟩
    all_goals (show Value.int .i64 _ = _; congr 1; try omega)
end Go.Proofs.Ytinpcimogojefaa
