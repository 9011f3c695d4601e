/- The law's propagate. -/
import Derived.Test.YtinpcimogojefaaMd
import Derived.Test.YtinpcimogojefaaKs
namespace Go.Proofs.Ytinpcimogojefaa
open Go Go.Cx Go.RowKit
set_option linter.unusedVariables false
set_option linter.unusedSimpArgs false
set_option maxHeartbeats 4000000
section
variable {P : Program} {fn : Func} {n : Nat} {w0 : World} {R : Heap} {Post : Ending → World → Prop} {f : Fr} {L : List Heap} {Γ : List (Nat × TI)}
/-- Three results: the first lies in a variable of its own. -/
theorem retC3 {t ty b u s : Nat} {cs : List Value} {e : TypeId} {fr : Nat × Nat} {v x y : Value} (hΓ : Fits P Γ) (hr : fn.results = #[.cell t ty, .tmp u, .tmp s]) (ht : Nat.blt t n = true) (hu : Nat.blt u n = true) (hs : Nat.blt s n = true) (hv : f t = .pointer (some ⟨b, 0, none⟩)) (hb : Rd R L b (.cells ⟨cs⟩ e fr)) (hl : ldEv Γ ty cs 0 = some v) (hx : frc (f u) = some x) (hy : frc (f s) = some y)
    (h : ∀ w, H w0 R L w → Post (.returned (.tuple #[v, x, y])) w) : retK P fn n w0 R Post .ret f L := fun a w ha hw => by
  refine ⟨.tuple #[v, x, y], ?_, h w hw⟩
  have h1 := ldEv_ok (P := P) hΓ (hw.rd hb) hl
  unfold Instr.loadAt Instr.sureAddr at h1
  simp only [Sem.run_bind, Sem.run_pure, Result.andThen_ok] at h1
  have h2 := ha.getD ht
  rw [hv] at h2
  have h3 : a.tmps[t]?.getD undef = .pointer (some ⟨b, 0, none⟩) := by rw [← h2]; simp [Array.getD_eq_getD_getElem?]
  have h4 := ha.getD hu
  have h5 : a.tmps[u]?.getD undef = x := by rw [← frc_eq hx, ← h4]; simp [Array.getD_eq_getD_getElem?]
  have h6 := ha.getD hs
  have h7 : a.tmps[s]?.getD undef = y := by rw [← frc_eq hy, ← h6]; simp [Array.getD_eq_getD_getElem?]
  simp only [results, hr]
  simp [h3, h5, h7, asAddr, Sem.run_bind]
  rw [h1]
  rfl
end
attribute [local irreducible] J JC thenK blockK loopK roundK drawK retK QW Qt pel List.set Calls
attribute [local irreducible] JE Br eK0 eK2 eK3 brK
theorem ePropagate : Entr Try.prog 31 := Entr.of Try.func31 rfl rfl
def kf (ks : List Int) (v : Int) : Int := ks.getD v.toNat default
theorem kf_set {ks : List Int} {v x : Int} (hv : 1 ≤ v) (hl : v < ks.length) (u : Int) : kf (ks.set v.toNat x) u = if u = v then x else kf ks u := by
  unfold kf
  rw [List.getD_eq_getElem?_getD, List.getElem?_set, List.getD_eq_getElem?_getD]
  by_cases h : u = v
  · subst h
    rw [if_pos rfl, if_pos (by omega), if_pos rfl]
    rfl
  · rw [if_neg h]
    by_cases h2 : v.toNat = u.toNat
    · omega
    · rw [if_neg h2]
def zc (ks : List Int) : Nat := (ks.filter fun x => decide (x = 0)).length
theorem zc_set : ∀ (ks : List Int) (i : Nat) (x : Int), i < ks.length → ks.getD i default = 0 → x ≠ 0 → zc (ks.set i x) + 1 = zc ks
  | [], _, _, h, _, _ => by simp at h
  | y :: ks, 0, x, _, h, hx => by
    have hy : y = 0 := by simpa using h
    have h1 : decide (x = 0) = false := decide_eq_false hx
    have h2 : decide (y = 0) = true := decide_eq_true hy
    unfold zc
    rw [List.set_cons_zero, List.filter_cons, h1, List.filter_cons, h2]
    rfl
  | y :: ks, i + 1, x, hl, h, hx => by
    have ih := zc_set ks i x (by simpa using hl) (by simpa using h) hx
    unfold zc at ih ⊢
    rw [List.set_cons_succ, List.filter_cons, List.filter_cons]
    split
    · rw [List.length_cons, List.length_cons]; omega
    · exact ih
/-- what is known, as it lies in memory -/
structure KI (ks : List Int) (M : Nat) (n : Int) (b e : Int → Bool) (Q : Prop) : Prop where
  len : ks.length = M + 1
  tri : ∀ v, kf ks v = 0 ∨ kf ks v = 1 ∨ kf ks v = -1
  fst : ∀ v, 1 ≤ v → v ≤ n → kf ks v ≠ 0
  ag : agreeK (kf ks) b n
  snd : Q → agreeK (kf ks) e M
theorem KI.set {ks : List Int} {M : Nat} {n : Int} {b e : Int → Bool} {Q : Prop} (h : KI ks M n b e Q) {v x : Int} (hv : 1 ≤ v ∧ v ≤ M) (h0 : kf ks v = 0) (hx : x = 1 ∨ x = -1) (hq : Q → decide (0 < x) = e v) : KI (ks.set v.toNat x) M n b e Q := by
  have hs := fun u => kf_set (ks := ks) (x := x) hv.1 (by rw [h.len]; omega) u
  have hvn : ¬ v ≤ n := fun hle => h.fst v hv.1 hle h0
  refine ⟨by rw [List.length_set]; exact h.len, fun u => ?_, fun u h1 h2 => ?_, fun u h1 h2 => ?_, fun q u h1 h2 => ?_⟩
  · rw [hs u]
    split
    · exact .inr hx
    · exact h.tri u
  · rw [hs u, if_neg (by omega)]
    exact h.fst u h1 h2
  · rw [hs u, if_neg (by omega)]
    exact h.ag u h1 h2
  · rw [hs u]
    split
    · rename_i e; intro _; rw [e]; exact hq q
    · exact h.snd q u h1 h2
set_option maxHeartbeats 16000000 in
theorem propagate_any {q : Nat} {l : List PS} (hE : (encR q l).1 = 0) (M : Nat) (hM : (encR q l).2.1 = M) (a : Option Addr) (cap : Nat) (vs : List HV) (h : Heap) (hr : LLR a vs h) (hvs : vs.map (·.l) = (encR q l).2.2) (hok : OkT M (vs.map (·.l))) (hl : vs.length ≤ 4096) (s : Nat × Nat) (hs : okS s) (hsn : ∀ u, hasB s u = true → u ≤ q) (w : World) (hw : Holds h w) :
    Calls Try.prog 31 #[.agg ⟨[.int .i64 (M : Int), .slice a vs.length cap]⟩, sv s, .int .i64 (q : Int)] w (Gives (fun v g => ∃ s' ok, v = .tuple #[sv s', .int .i64 0, .bool ok] ∧ (ok = true → (∀ x, x ∈ l → holdP (hasB s) x) ∧ okS s' ∧ ∀ u, hasB s' u = (decide (1 ≤ u ∧ u ≤ M) && extB (hasB s) q l u)) ∧ (ok = false → ¬ ∀ x, x ∈ l → holdP (hasB s) x)) w) := by
  have q0 : ∀ L, RdH h L h := fun L => RdH.old fun _ hh => hh
  obtain ⟨ho, hi⟩ := hr
  have hem := enc_mod hE (hasB s)
  have hqM : q ≤ M := by have := hem.2.1; omega
  have hM128 : M ≤ 128 := by have := hem.2.2.2; omega
  have hext := enc_ext hE (hasB s)
  have hdone := fun (k : Int → Int) (h1 : ∀ v, 1 ≤ v → v ≤ (q : Int) → k v ≠ 0) (h2 : agreeK k (hasB s) q) (h3 : fixT k (vs.map (·.l))) => prop_done hE h1 h2 (by rw [← hvs]; exact h3) (by rw [← hvs, hM]; exact hok)
  rw [hM] at hdone
  rw [← hvs] at hext
  generalize hQ : (∀ x, x ∈ l → holdP (hasB s) x) = Q at *
  have hee : ∀ v, v ≤ (q : Int) → extB (hasB s) q l v = hasB s v := fun v hv => if_pos hv
  generalize extB (hasB s) q l = e at *
  clear hem
  obtain ⟨hs1, hs2⟩ := hs
  refine calls_of_JC (R := h) Try.func31 Try.ntmps31 rfl rfl (hw) ?_
  repeat' first
    | (refine J.isJ ?_; first | ((refine J.o 9 ?_; refine J.make (enc := encI) (m := M + 1) (0 : Int) hΓ rfl rfl rfl rfl rfl rfl (fun _ => rfl) (by omega) (by omega) (fun bk hk ok => ?_))) | (first | (refine J.o 0 ?_; refine J.ev' hΓ ?_) | refine J.nil ?_ | refine J.kd ?_ | (refine J.o 4 ?_; first | refine J.e0 hΓ ?_ | refine J.lT default hΓ ?_ | refine J.e1 hΓ ?_ | refine J.e2 hΓ ?_ | refine J.lR hΓ ?_) | (refine J.o 3 ?_; first | refine J.iA hΓ ?_ | refine J.iJ hΓ ?_ | refine J.fP hΓ ?_ | refine J.iC hΓ ?_ | refine J.ev' hΓ ?_) | (refine J.o 1 ?_; first | refine J.ad ?_ | refine J.sb ?_ | refine J.ng ?_ | refine J.mu ?_) | (refine J.o 5 ?_; first | refine J.t0 hΓ ?_ | refine J.t1 hΓ ?_ | refine J.t2 hΓ ?_) | (refine J.o 6 ?_; refine J.bx (fun _ => ?_)) | (refine J.o 7 ?_; refine J.al hΓ (fun _ => ?_)) | (refine J.o 8 ?_; refine J.bd hΓ ?_) | (refine J.o 9 ?_; refine J.bl hΓ (fun _ => ?_)) | (refine J.o 10 ?_; first | refine J.ls hΓ ?_ | refine J.ev' hΓ ?_) | (refine J.o 11 ?_; refine J.ev' hΓ ?_) | refine J.kn ?_) | ((fail_if_success refine J.wt ?_); refine J.gc rfl rfl (fun hc => ?_) (fun hc => ?_) <;> ((try simp only [decide_eq_true_eq, decide_eq_false_iff_not, beq_iff_eq, beq_eq_false_iff_ne, bne_iff_ne, bne_eq_false_iff_eq, Bool.not_eq_true', Bool.not_eq_false', Bool.not_eq_true, Bool.not_eq_false] at hc) <;> first | (first | (exact absurd rfl hc) | (exfalso; omega) | (exact absurd (hc.symm.trans (by assumption : _ = false)) (by decide)) | (exact absurd (hc.symm.trans (by assumption : _ = true)) (by decide))) | skip)))
    | (first | refine JC.seq ?_ | refine JC.region ?_ | refine JC.block ?_ | refine JC.ret ?_ | refine JC.exit ?_ | refine JC.skip ?_ | refine thenK.nn ?_ | refine thenK.r ?_ | refine thenK.x ?_ | refine blockK.nn ?_ | refine blockK.r ?_ | refine blockK.hit rfl ?_ | refine blockK.miss rfl ?_ | refine JC.condT rfl ?_ | refine JC.condF rfl ?_ | (refine JC.cond rfl (fun hc => ?_) (fun hc => ?_) <;> ((try simp only [decide_eq_true_eq, decide_eq_false_iff_not, beq_iff_eq, beq_eq_false_iff_ne, bne_iff_ne, bne_eq_false_iff_eq, Bool.not_eq_true', Bool.not_eq_false', Bool.not_eq_true, Bool.not_eq_false] at hc) <;> first | (first | (exact absurd rfl hc) | (exfalso; omega) | (exact absurd (hc.symm.trans (by assumption : _ = false)) (by decide)) | (exact absurd (hc.symm.trans (by assumption : _ = true)) (by decide))) | skip)) | (refine JC.drawA [] (by kernel_rfl) (by kernel_rfl) ?_) | refine drawK.nn ?_ | refine roundK.nn ?_ | refine roundK.r ?_ | refine roundK.x ?_ | refine loopK.r ?_ | refine loopK.x ?_)
    | (fail)
    | fail
  all_goals first | (exfalso; omega) | skip
  rename_i b3 b4 b6
  have hks0 : ∀ v, kf (List.replicate (M + 1) (0 : Int)) v = 0 := fun v => by
    unfold kf
    rw [List.getD_eq_getElem?_getD, List.getElem?_replicate]
    split <;> rfl
  refine JC.gen [(2, .int .i64 (q : Int)), (3, .pointer (some ⟨b3, 0, none⟩)), (4, .pointer (some ⟨b4, 0, none⟩)), (6, .pointer (some ⟨b6, 0, none⟩)), (7, .int .i64 0), (8, .bool false), (9, .slice (some ⟨bk, 0, none⟩) (M + 1) (M + 1)), (10, .int .i64 1)] ⟨rfl, rfl, rfl, rfl, rfl, rfl, rfl, rfl, trivial⟩ (fun F => ?_)
  refine JC.loop (fun i => i == 10 || Nat.ble 26 i) (fun m g L => ∃ (k : Nat) (ks : List Int) (hk : Heap), g 10 = .int .i64 ((k : Int) + 1) ∧ k + m = q ∧ OwT encI 1 3 (some ⟨bk, 0, none⟩) (M + 1) ks hk ∧ ks.length = M + 1 ∧ (∀ v, kf ks v = 0 ∨ kf ks v = 1 ∨ kf ks v = -1) ∧ (∀ v, 1 ≤ v → v ≤ (k : Int) → kf ks v ≠ 0 ∧ decide (0 < kf ks v) = hasB s v) ∧ (∀ v, (k : Int) < v → kf ks v = 0) ∧ L = [hk, [(b6, .cells ⟨[.int .u64 0, .int .u64 0]⟩ 52 (0, 0))], [(b4, setO s)], [(b3, .cells ⟨[.int .i64 (M : Int), .slice a vs.length cap]⟩ 37 (0, 0))]]) q
    ⟨0, _, hk, rfl, by omega, ok, List.length_replicate, fun v => .inl (hks0 v), fun v h1 h2 => by omega, fun v _ => hks0 v, rfl⟩ ?_
  clear ok hk hks0
  rintro m g L ⟨k, ks, hk, e10, hkm, ok, hkl, htri, hkn, hkz, rfl⟩
  refine JC.pin 10 e10 ?_
  clear e10
  rcases Nat.lt_or_ge k q with hkq | hkq
  case inl =>
    have cH := fun w => has_any s ⟨hs1, hs2⟩ ((k : Int) + 1) w
    have hst := fun x => kf_set (ks := ks) (v := (k : Int) + 1) (x := x) (by omega) (by omega)
    have hset : ∀ x : Int, (ks.set ((k : Int) + 1).toNat (-1)).length = M + 1 := fun x => by rw [List.length_set]; exact hkl
    cases hb : hasB s ((k : Int) + 1) with
    | false =>
      rw [hb] at cH
      repeat' first
        | (refine J.isJ ?_; first | (first | (refine J.o 3 ?_; refine J.iJ hΓ ?_ (hlen := by omega)) | (refine J.o 5 ?_; refine J.tT (-1 : Int) 0 hΓ (fun h4 o4 => ?_) (hi := by omega)) | (refine J.fc 50 ?_; refine J.call0 eHas rfl rfl (fun w hw => cH w) ?_)) | (first | (refine J.o 0 ?_; refine J.ev' hΓ ?_) | refine J.nil ?_ | refine J.kd ?_ | (refine J.o 4 ?_; first | refine J.e0 hΓ ?_ | refine J.lT default hΓ ?_ | refine J.e1 hΓ ?_ | refine J.e2 hΓ ?_ | refine J.lR hΓ ?_) | (refine J.o 3 ?_; first | refine J.iA hΓ ?_ | refine J.iJ hΓ ?_ | refine J.fP hΓ ?_ | refine J.iC hΓ ?_ | refine J.ev' hΓ ?_) | (refine J.o 1 ?_; first | refine J.ad ?_ | refine J.sb ?_ | refine J.ng ?_ | refine J.mu ?_) | (refine J.o 5 ?_; first | refine J.t0 hΓ ?_ | refine J.t1 hΓ ?_ | refine J.t2 hΓ ?_) | (refine J.o 6 ?_; refine J.bx (fun _ => ?_)) | (refine J.o 7 ?_; refine J.al hΓ (fun _ => ?_)) | (refine J.o 8 ?_; refine J.bd hΓ ?_) | (refine J.o 9 ?_; refine J.bl hΓ (fun _ => ?_)) | (refine J.o 10 ?_; first | refine J.ls hΓ ?_ | refine J.ev' hΓ ?_) | (refine J.o 11 ?_; refine J.ev' hΓ ?_) | refine J.kn ?_) | ((fail_if_success refine J.wt ?_); refine J.gc rfl rfl (fun hc => ?_) (fun hc => ?_) <;> ((try simp only [decide_eq_true_eq, decide_eq_false_iff_not, beq_iff_eq, beq_eq_false_iff_ne, bne_iff_ne, bne_eq_false_iff_eq, Bool.not_eq_true', Bool.not_eq_false', Bool.not_eq_true, Bool.not_eq_false] at hc) <;> first | (first | (exact absurd rfl hc) | (exfalso; omega) | (exact absurd (hc.symm.trans (by assumption : _ = false)) (by decide)) | (exact absurd (hc.symm.trans (by assumption : _ = true)) (by decide))) | skip)))
        | (first | refine JC.seq ?_ | refine JC.region ?_ | refine JC.block ?_ | refine JC.ret ?_ | refine JC.exit ?_ | refine JC.skip ?_ | refine thenK.nn ?_ | refine thenK.r ?_ | refine thenK.x ?_ | refine blockK.nn ?_ | refine blockK.r ?_ | refine blockK.hit rfl ?_ | refine blockK.miss rfl ?_ | refine JC.condT rfl ?_ | refine JC.condF rfl ?_ | (refine JC.cond rfl (fun hc => ?_) (fun hc => ?_) <;> ((try simp only [decide_eq_true_eq, decide_eq_false_iff_not, beq_iff_eq, beq_eq_false_iff_ne, bne_iff_ne, bne_eq_false_iff_eq, Bool.not_eq_true', Bool.not_eq_false', Bool.not_eq_true, Bool.not_eq_false] at hc) <;> first | (first | (exact absurd rfl hc) | (exfalso; omega) | (exact absurd (hc.symm.trans (by assumption : _ = false)) (by decide)) | (exact absurd (hc.symm.trans (by assumption : _ = true)) (by decide))) | skip)) | refine drawK.nn ?_ | refine roundK.nn ?_ | refine roundK.r ?_ | refine roundK.x ?_ | refine loopK.r ?_ | refine loopK.x ?_)
        | (fail)
        | fail
      all_goals first | (exfalso; omega) | skip
      all_goals refine loopK.nn (m - 1) (by omega) (by repeat (first | refine Ag.upd rfl ?_ | exact Ag.hv)) ⟨k + 1, _, _, ?_, by omega, o4, by rw [List.length_set]; exact hkl, fun v => ?_, fun v h1 h2 => ?_, fun v h1 => ?_, rfl⟩
      · show Value.int .i64 _ = _; congr 1
      · rw [hst]; split
        · exact .inr (.inr rfl)
        · exact htri v
      · rw [hst]; split
        · rename_i e; rw [e, hb]; exact ⟨by decide, rfl⟩
        · exact hkn v h1 (by omega)
      · rw [hst, if_neg (by omega)]; exact hkz v (by omega)
    | true =>
      rw [hb] at cH
      have hst2 := fun x => kf_set (ks := ks.set ((k : Int) + 1).toNat (-1)) (v := (k : Int) + 1) (x := x) (by omega) (by rw [hset 0]; omega)
      repeat' first
        | (refine J.isJ ?_; first | (first | (refine J.o 3 ?_; refine J.iJ hΓ ?_ (hlen := by first | omega | exact hset 0)) | (refine J.o 5 ?_; first | refine J.tT (-1 : Int) 0 hΓ (fun h4 o4 => ?_) (hi := by omega) | refine J.tT (1 : Int) 0 hΓ (fun h5 o5 => ?_) (hi := by rw [hset 0]; omega)) | (refine J.fc 50 ?_; refine J.call0 eHas rfl rfl (fun w hw => cH w) ?_)) | (first | (refine J.o 0 ?_; refine J.ev' hΓ ?_) | refine J.nil ?_ | refine J.kd ?_ | (refine J.o 4 ?_; first | refine J.e0 hΓ ?_ | refine J.lT default hΓ ?_ | refine J.e1 hΓ ?_ | refine J.e2 hΓ ?_ | refine J.lR hΓ ?_) | (refine J.o 3 ?_; first | refine J.iA hΓ ?_ | refine J.iJ hΓ ?_ | refine J.fP hΓ ?_ | refine J.iC hΓ ?_ | refine J.ev' hΓ ?_) | (refine J.o 1 ?_; first | refine J.ad ?_ | refine J.sb ?_ | refine J.ng ?_ | refine J.mu ?_) | (refine J.o 5 ?_; first | refine J.t0 hΓ ?_ | refine J.t1 hΓ ?_ | refine J.t2 hΓ ?_) | (refine J.o 6 ?_; refine J.bx (fun _ => ?_)) | (refine J.o 7 ?_; refine J.al hΓ (fun _ => ?_)) | (refine J.o 8 ?_; refine J.bd hΓ ?_) | (refine J.o 9 ?_; refine J.bl hΓ (fun _ => ?_)) | (refine J.o 10 ?_; first | refine J.ls hΓ ?_ | refine J.ev' hΓ ?_) | (refine J.o 11 ?_; refine J.ev' hΓ ?_) | refine J.kn ?_) | ((fail_if_success refine J.wt ?_); refine J.gc rfl rfl (fun hc => ?_) (fun hc => ?_) <;> ((try simp only [decide_eq_true_eq, decide_eq_false_iff_not, beq_iff_eq, beq_eq_false_iff_ne, bne_iff_ne, bne_eq_false_iff_eq, Bool.not_eq_true', Bool.not_eq_false', Bool.not_eq_true, Bool.not_eq_false] at hc) <;> first | (first | (exact absurd rfl hc) | (exfalso; omega) | (exact absurd (hc.symm.trans (by assumption : _ = false)) (by decide)) | (exact absurd (hc.symm.trans (by assumption : _ = true)) (by decide))) | skip)))
        | (first | refine JC.seq ?_ | refine JC.region ?_ | refine JC.block ?_ | refine JC.ret ?_ | refine JC.exit ?_ | refine JC.skip ?_ | refine thenK.nn ?_ | refine thenK.r ?_ | refine thenK.x ?_ | refine blockK.nn ?_ | refine blockK.r ?_ | refine blockK.hit rfl ?_ | refine blockK.miss rfl ?_ | refine JC.condT rfl ?_ | refine JC.condF rfl ?_ | (refine JC.cond rfl (fun hc => ?_) (fun hc => ?_) <;> ((try simp only [decide_eq_true_eq, decide_eq_false_iff_not, beq_iff_eq, beq_eq_false_iff_ne, bne_iff_ne, bne_eq_false_iff_eq, Bool.not_eq_true', Bool.not_eq_false', Bool.not_eq_true, Bool.not_eq_false] at hc) <;> first | (first | (exact absurd rfl hc) | (exfalso; omega) | (exact absurd (hc.symm.trans (by assumption : _ = false)) (by decide)) | (exact absurd (hc.symm.trans (by assumption : _ = true)) (by decide))) | skip)) | refine drawK.nn ?_ | refine roundK.nn ?_ | refine roundK.r ?_ | refine roundK.x ?_ | refine loopK.r ?_ | refine loopK.x ?_)
        | (fail)
        | fail
      all_goals first | (exfalso; omega) | skip
      all_goals refine loopK.nn (m - 1) (by omega) (by repeat (first | refine Ag.upd rfl ?_ | exact Ag.hv)) ⟨k + 1, _, _, ?_, by omega, o5, by rw [List.length_set]; exact hset 0, fun v => ?_, fun v h1 h2 => ?_, fun v h1 => ?_, rfl⟩
      · show Value.int .i64 _ = _; congr 1
      · rw [hst2]; split
        · exact .inr (.inl rfl)
        · rw [hst, if_neg (by assumption)]; exact htri v
      · rw [hst2]; split
        · rename_i e; rw [e, hb]; exact ⟨by decide, rfl⟩
        · rw [hst, if_neg (by assumption)]; exact hkn v h1 (by omega)
      · rw [hst2, if_neg (by omega), hst, if_neg (by omega)]; exact hkz v (by omega)
  obtain rfl : q = k := by omega
  have hKI : KI ks M q (hasB s) e Q := ⟨hkl, htri, fun v h1 h2 => (hkn v h1 h2).1, fun v h1 h2 _ => (hkn v h1 h2).2, fun hq v h1 h2 h3 => by
    by_cases h4 : v ≤ q
    · rw [hee v h4]; exact (hkn v h1 h4).2
    · exact absurd (hkz v (by omega)) h3⟩
  clear hkl htri hkn hkz hkm
  repeat' first
    | (refine J.isJ ?_; first | (fail) | (first | (refine J.o 0 ?_; refine J.ev' hΓ ?_) | refine J.nil ?_ | refine J.kd ?_ | (refine J.o 4 ?_; first | refine J.e0 hΓ ?_ | refine J.lT default hΓ ?_ | refine J.e1 hΓ ?_ | refine J.e2 hΓ ?_ | refine J.lR hΓ ?_) | (refine J.o 3 ?_; first | refine J.iA hΓ ?_ | refine J.iJ hΓ ?_ | refine J.fP hΓ ?_ | refine J.iC hΓ ?_ | refine J.ev' hΓ ?_) | (refine J.o 1 ?_; first | refine J.ad ?_ | refine J.sb ?_ | refine J.ng ?_ | refine J.mu ?_) | (refine J.o 5 ?_; first | refine J.t0 hΓ ?_ | refine J.t1 hΓ ?_ | refine J.t2 hΓ ?_) | (refine J.o 6 ?_; refine J.bx (fun _ => ?_)) | (refine J.o 7 ?_; refine J.al hΓ (fun _ => ?_)) | (refine J.o 8 ?_; refine J.bd hΓ ?_) | (refine J.o 9 ?_; refine J.bl hΓ (fun _ => ?_)) | (refine J.o 10 ?_; first | refine J.ls hΓ ?_ | refine J.ev' hΓ ?_) | (refine J.o 11 ?_; refine J.ev' hΓ ?_) | refine J.kn ?_) | ((fail_if_success refine J.wt ?_); refine J.gc rfl rfl (fun hc => ?_) (fun hc => ?_) <;> ((try simp only [decide_eq_true_eq, decide_eq_false_iff_not, beq_iff_eq, beq_eq_false_iff_ne, bne_iff_ne, bne_eq_false_iff_eq, Bool.not_eq_true', Bool.not_eq_false', Bool.not_eq_true, Bool.not_eq_false] at hc) <;> first | (first | (exact absurd rfl hc) | (exfalso; omega) | (exact absurd (hc.symm.trans (by assumption : _ = false)) (by decide)) | (exact absurd (hc.symm.trans (by assumption : _ = true)) (by decide))) | skip)))
    | (first | refine JC.seq ?_ | refine JC.region ?_ | refine JC.block ?_ | refine JC.ret ?_ | refine JC.exit ?_ | refine JC.skip ?_ | refine thenK.nn ?_ | refine thenK.r ?_ | refine thenK.x ?_ | refine blockK.nn ?_ | refine blockK.r ?_ | refine blockK.hit rfl ?_ | refine blockK.miss rfl ?_ | refine JC.condT rfl ?_ | refine JC.condF rfl ?_ | (refine JC.cond rfl (fun hc => ?_) (fun hc => ?_) <;> ((try simp only [decide_eq_true_eq, decide_eq_false_iff_not, beq_iff_eq, beq_eq_false_iff_ne, bne_iff_ne, bne_eq_false_iff_eq, Bool.not_eq_true', Bool.not_eq_false', Bool.not_eq_true, Bool.not_eq_false] at hc) <;> first | (first | (exact absurd rfl hc) | (exfalso; omega) | (exact absurd (hc.symm.trans (by assumption : _ = false)) (by decide)) | (exact absurd (hc.symm.trans (by assumption : _ = true)) (by decide))) | skip)) | refine drawK.nn ?_ | refine roundK.nn ?_ | refine roundK.r ?_ | refine roundK.x ?_ | refine loopK.r ?_ | refine loopK.x ?_)
    | (fail)
    | fail
  all_goals first | (exfalso; omega) | skip
  clear hc
  refine JC.gen [(2, .int .i64 (q : Int)), (3, .pointer (some ⟨b3, 0, none⟩)), (4, .pointer (some ⟨b4, 0, none⟩)), (6, .pointer (some ⟨b6, 0, none⟩)), (7, .int .i64 0), (8, .bool false), (9, .slice (some ⟨bk, 0, none⟩) (M + 1) (M + 1)), (11, .bool true)] ⟨rfl, rfl, rfl, rfl, rfl, rfl, rfl, rfl, trivial⟩ (fun F => ?_)
  refine JC.loop (fun i => i == 11 || (Nat.ble 13 i && Nat.ble i 19) || (Nat.ble 40 i && Nat.ble i 94)) (fun m g L => ∃ (ag : Bool) (ks : List Int) (hk : Heap), g 11 = .bool ag ∧ zc ks + (if ag then 1 else 0) = m ∧ OwT encI 1 3 (some ⟨bk, 0, none⟩) (M + 1) ks hk ∧ KI ks M q (hasB s) e Q ∧ (ag = false → fixT (kf ks) (vs.map (·.l))) ∧ L = [hk, [(b6, .cells ⟨[.int .u64 0, .int .u64 0]⟩ 52 (0, 0))], [(b4, setO s)], [(b3, .cells ⟨[.int .i64 (M : Int), .slice a vs.length cap]⟩ 37 (0, 0))]]) (zc ks + 1)
    ⟨true, ks, hk, rfl, rfl, ok, hKI, (fun h => absurd h (by decide)), rfl⟩ ?_
  clear ok hKI hk ks
  rintro m g L ⟨ag, ks, hk, e11, hzm, ok, hKI, hfx, rfl⟩
  refine JC.pin 11 e11 ?_
  clear e11
  cases ag with
  | false =>
    have hfx := hfx rfl
    obtain ⟨hQt, hfin⟩ := hdone (kf ks) hKI.fst hKI.ag hfx
    repeat' first
      | (refine J.isJ ?_; first | (fail) | (first | (refine J.o 0 ?_; refine J.ev' hΓ ?_) | refine J.nil ?_ | refine J.kd ?_ | (refine J.o 4 ?_; first | refine J.e0 hΓ ?_ | refine J.lT default hΓ ?_ | refine J.e1 hΓ ?_ | refine J.e2 hΓ ?_ | refine J.lR hΓ ?_) | (refine J.o 3 ?_; first | refine J.iA hΓ ?_ | refine J.iJ hΓ ?_ | refine J.fP hΓ ?_ | refine J.iC hΓ ?_ | refine J.ev' hΓ ?_) | (refine J.o 1 ?_; first | refine J.ad ?_ | refine J.sb ?_ | refine J.ng ?_ | refine J.mu ?_) | (refine J.o 5 ?_; first | refine J.t0 hΓ ?_ | refine J.t1 hΓ ?_ | refine J.t2 hΓ ?_) | (refine J.o 6 ?_; refine J.bx (fun _ => ?_)) | (refine J.o 7 ?_; refine J.al hΓ (fun _ => ?_)) | (refine J.o 8 ?_; refine J.bd hΓ ?_) | (refine J.o 9 ?_; refine J.bl hΓ (fun _ => ?_)) | (refine J.o 10 ?_; first | refine J.ls hΓ ?_ | refine J.ev' hΓ ?_) | (refine J.o 11 ?_; refine J.ev' hΓ ?_) | refine J.kn ?_) | ((fail_if_success refine J.wt ?_); refine J.gc rfl rfl (fun hc => ?_) (fun hc => ?_) <;> ((try simp only [decide_eq_true_eq, decide_eq_false_iff_not, beq_iff_eq, beq_eq_false_iff_ne, bne_iff_ne, bne_eq_false_iff_eq, Bool.not_eq_true', Bool.not_eq_false', Bool.not_eq_true, Bool.not_eq_false] at hc) <;> first | (first | (exact absurd rfl hc) | (exfalso; omega) | (exact absurd (hc.symm.trans (by assumption : _ = false)) (by decide)) | (exact absurd (hc.symm.trans (by assumption : _ = true)) (by decide))) | skip)))
      | (first | refine JC.seq ?_ | refine JC.region ?_ | refine JC.block ?_ | refine JC.ret ?_ | refine JC.exit ?_ | refine JC.skip ?_ | refine thenK.nn ?_ | refine thenK.r ?_ | refine thenK.x ?_ | refine blockK.nn ?_ | refine blockK.r ?_ | refine blockK.hit rfl ?_ | refine blockK.miss rfl ?_ | refine JC.condT rfl ?_ | refine JC.condF rfl ?_ | (refine JC.cond rfl (fun hc => ?_) (fun hc => ?_) <;> ((try simp only [decide_eq_true_eq, decide_eq_false_iff_not, beq_iff_eq, beq_eq_false_iff_ne, bne_iff_ne, bne_eq_false_iff_eq, Bool.not_eq_true', Bool.not_eq_false', Bool.not_eq_true, Bool.not_eq_false] at hc) <;> first | (first | (exact absurd rfl hc) | (exfalso; omega) | (exact absurd (hc.symm.trans (by assumption : _ = false)) (by decide)) | (exact absurd (hc.symm.trans (by assumption : _ = true)) (by decide))) | skip)) | refine drawK.nn ?_ | refine roundK.nn ?_ | refine roundK.r ?_ | refine roundK.x ?_ | refine loopK.r ?_ | refine loopK.x ?_)
      | (fail)
      | fail
    all_goals first | (exfalso; omega) | skip
    clear hfx hdone
    refine JC.loop (fun i => i == 20 || i == 21 || (Nat.ble 97 i && Nat.ble i 115)) (fun m g L => ∃ (k : Nat) (st : Nat × Nat), g 21 = .int .i64 ((q : Int) + k + 1) ∧ g 20 = .int .i64 0 ∧ q + k + m = M ∧ okS st ∧ (∀ u, hasB st u = (decide (1 ≤ u ∧ u ≤ (q : Int) + k) && e u)) ∧ L = [hk, [(b6, .cells ⟨[.int .u64 0, .int .u64 0]⟩ 52 (0, 0))], [(b4, setO st)], [(b3, .cells ⟨[.int .i64 (M : Int), .slice a vs.length cap]⟩ 37 (0, 0))]]) (M - q)
      ⟨0, s, rfl, rfl, by omega, ⟨hs1, hs2⟩, fun u => by
        cases hb : hasB s u with
        | true =>
          have h1 := hsn u hb
          have h2 := (has_rng hb).1
          rw [decide_eq_true ⟨h2, by omega⟩, hee u h1, hb]
          rfl
        | false =>
          by_cases h1 : 1 ≤ u ∧ u ≤ (q : Int) + (0 : Nat)
          · rw [decide_eq_true h1, hee u (by omega), hb]
            rfl
          · rw [decide_eq_false h1]
            rfl, rfl⟩ ?_
    rintro m5 g5 L5 ⟨k, st, e21, e20, hkm, hst, hsu, rfl⟩
    refine JC.pin 21 e21 (JC.pin 20 e20 ?_)
    clear e21 e20
    obtain ⟨hst1, hst2⟩ := hst
    have hsk := ok.sl
    have hkl := hKI.len
    rcases Nat.lt_or_ge (q + k) M with hkM | hkM
    case inr =>
      have hkM2 : ((q : Int) + k) = M := by omega
      rw [hkM2] at hsu
      repeat' first
        | (refine J.isJ ?_; first | ((refine J.o 4 ?_; first | refine J.e3 hΓ ?_ | refine J.e4 hΓ ?_)) | (first | (refine J.o 0 ?_; refine J.ev' hΓ ?_) | refine J.nil ?_ | refine J.kd ?_ | (refine J.o 4 ?_; first | refine J.e0 hΓ ?_ | refine J.lT default hΓ ?_ | refine J.e1 hΓ ?_ | refine J.e2 hΓ ?_ | refine J.lR hΓ ?_) | (refine J.o 3 ?_; first | refine J.iA hΓ ?_ | refine J.iJ hΓ ?_ | refine J.fP hΓ ?_ | refine J.iC hΓ ?_ | refine J.ev' hΓ ?_) | (refine J.o 1 ?_; first | refine J.ad ?_ | refine J.sb ?_ | refine J.ng ?_ | refine J.mu ?_) | (refine J.o 5 ?_; first | refine J.t0 hΓ ?_ | refine J.t1 hΓ ?_ | refine J.t2 hΓ ?_) | (refine J.o 6 ?_; refine J.bx (fun _ => ?_)) | (refine J.o 7 ?_; refine J.al hΓ (fun _ => ?_)) | (refine J.o 8 ?_; refine J.bd hΓ ?_) | (refine J.o 9 ?_; refine J.bl hΓ (fun _ => ?_)) | (refine J.o 10 ?_; first | refine J.ls hΓ ?_ | refine J.ev' hΓ ?_) | (refine J.o 11 ?_; refine J.ev' hΓ ?_) | refine J.kn ?_) | ((fail_if_success refine J.wt ?_); refine J.gc rfl rfl (fun hc => ?_) (fun hc => ?_) <;> ((try simp only [decide_eq_true_eq, decide_eq_false_iff_not, beq_iff_eq, beq_eq_false_iff_ne, bne_iff_ne, bne_eq_false_iff_eq, Bool.not_eq_true', Bool.not_eq_false', Bool.not_eq_true, Bool.not_eq_false] at hc) <;> first | (first | (exact absurd rfl hc) | (exfalso; omega) | (exact absurd (hc.symm.trans (by assumption : _ = false)) (by decide)) | (exact absurd (hc.symm.trans (by assumption : _ = true)) (by decide))) | skip)))
        | (first | refine JC.seq ?_ | refine JC.region ?_ | refine JC.block ?_ | refine JC.ret ?_ | refine JC.exit ?_ | refine JC.skip ?_ | refine thenK.nn ?_ | refine thenK.r ?_ | refine thenK.x ?_ | refine blockK.nn ?_ | refine blockK.r ?_ | refine blockK.hit rfl ?_ | refine blockK.miss rfl ?_ | refine JC.condT rfl ?_ | refine JC.condF rfl ?_ | (refine JC.cond rfl (fun hc => ?_) (fun hc => ?_) <;> ((try simp only [decide_eq_true_eq, decide_eq_false_iff_not, beq_iff_eq, beq_eq_false_iff_ne, bne_iff_ne, bne_eq_false_iff_eq, Bool.not_eq_true', Bool.not_eq_false', Bool.not_eq_true, Bool.not_eq_false] at hc) <;> first | (first | (exact absurd rfl hc) | (exfalso; omega) | (exact absurd (hc.symm.trans (by assumption : _ = false)) (by decide)) | (exact absurd (hc.symm.trans (by assumption : _ = true)) (by decide))) | skip)) | refine drawK.nn ?_ | refine roundK.nn ?_ | refine roundK.r ?_ | refine roundK.x ?_ | refine loopK.r ?_ | refine loopK.x ?_)
        | (fail)
        | fail
      all_goals first | (exfalso; omega) | skip
      all_goals exact retC3 hΓ rfl rfl rfl rfl rfl Rd.hd.tl rfl rfl rfl (fun w1 hw => Gives.of hw.nilF ⟨st, true, rfl, fun _ => ⟨hQt, ⟨hst1, hst2⟩, hsu⟩, (fun h => absurd h (by decide))⟩)
    have hf := hfin ((q : Int) + k + 1) (by omega) (by omega)
    have htri := hKI.tri ((q : Int) + k + 1)
    have cW := fun w => with_any st ⟨hst1, hst2⟩ ((q : Int) + k + 1) w
    have hww := fun u => has_with st ((q : Int) + k + 1) u (by omega)
    have hkf : kf ks ((q : Int) + k + 1) = ks.getD ((q : Int) + k + 1).toNat default := rfl
    rw [hkf] at hf htri
    by_cases h1 : ks.getD ((q : Int) + k + 1).toNat default = 1
    · rw [h1] at hf
      have he1 : e ((q : Int) + k + 1) = true := hf.2.symm
      repeat' first
        | (refine J.isJ ?_; first | (first | (refine J.o 3 ?_; refine J.iJ hΓ ?_ (hs := hsk) (hlen := hkl) (h0 := by omega) (h1 := by omega)) | (refine J.o 4 ?_; first | refine J.e3 hΓ ?_ | refine J.lT default hΓ ?_ (hs := hsk) (hr := RdH.hd) (hk := by omega)) | (refine J.fc 47 ?_; refine J.call0 eWith rfl rfl (fun w hw => cW w) ?_)) | (first | (refine J.o 0 ?_; refine J.ev' hΓ ?_) | refine J.nil ?_ | refine J.kd ?_ | (refine J.o 4 ?_; first | refine J.e0 hΓ ?_ | refine J.lT default hΓ ?_ | refine J.e1 hΓ ?_ | refine J.e2 hΓ ?_ | refine J.lR hΓ ?_) | (refine J.o 3 ?_; first | refine J.iA hΓ ?_ | refine J.iJ hΓ ?_ | refine J.fP hΓ ?_ | refine J.iC hΓ ?_ | refine J.ev' hΓ ?_) | (refine J.o 1 ?_; first | refine J.ad ?_ | refine J.sb ?_ | refine J.ng ?_ | refine J.mu ?_) | (refine J.o 5 ?_; first | refine J.t0 hΓ ?_ | refine J.t1 hΓ ?_ | refine J.t2 hΓ ?_) | (refine J.o 6 ?_; refine J.bx (fun _ => ?_)) | (refine J.o 7 ?_; refine J.al hΓ (fun _ => ?_)) | (refine J.o 8 ?_; refine J.bd hΓ ?_) | (refine J.o 9 ?_; refine J.bl hΓ (fun _ => ?_)) | (refine J.o 10 ?_; first | refine J.ls hΓ ?_ | refine J.ev' hΓ ?_) | (refine J.o 11 ?_; refine J.ev' hΓ ?_) | refine J.kn ?_) | ((fail_if_success refine J.wt ?_); refine J.gc rfl rfl (fun hc => ?_) (fun hc => ?_) <;> ((try simp only [decide_eq_true_eq, decide_eq_false_iff_not, beq_iff_eq, beq_eq_false_iff_ne, bne_iff_ne, bne_eq_false_iff_eq, Bool.not_eq_true', Bool.not_eq_false', Bool.not_eq_true, Bool.not_eq_false] at hc) <;> first | (first | (exact absurd rfl hc) | (exfalso; omega) | (exact absurd (hc.symm.trans (by assumption : _ = false)) (by decide)) | (exact absurd (hc.symm.trans (by assumption : _ = true)) (by decide))) | skip)))
        | (first | refine JC.seq ?_ | refine JC.region ?_ | refine JC.block ?_ | refine JC.ret ?_ | refine JC.exit ?_ | refine JC.skip ?_ | refine thenK.nn ?_ | refine thenK.r ?_ | refine thenK.x ?_ | refine blockK.nn ?_ | refine blockK.r ?_ | refine blockK.hit rfl ?_ | refine blockK.miss rfl ?_ | refine JC.condT rfl ?_ | refine JC.condF rfl ?_ | (refine JC.cond rfl (fun hc => ?_) (fun hc => ?_) <;> ((try simp only [decide_eq_true_eq, decide_eq_false_iff_not, beq_iff_eq, beq_eq_false_iff_ne, bne_iff_ne, bne_eq_false_iff_eq, Bool.not_eq_true', Bool.not_eq_false', Bool.not_eq_true, Bool.not_eq_false] at hc) <;> first | (first | (exact absurd rfl hc) | (exfalso; omega) | (exact absurd (hc.symm.trans (by assumption : _ = false)) (by decide)) | (exact absurd (hc.symm.trans (by assumption : _ = true)) (by decide))) | skip)) | refine drawK.nn ?_ | refine roundK.nn ?_ | refine roundK.r ?_ | refine roundK.x ?_ | refine loopK.r ?_ | refine loopK.x ?_)
        | (fail)
        | fail
      all_goals first | (exfalso; omega) | skip
      all_goals refine loopK.nn (m5 - 1) (by omega) (by repeat (first | refine Ag.upd rfl ?_ | exact Ag.hv | refine Ag.hv2 (fun i hi => by simp at hi ⊢; omega) ?_)) ⟨k + 1, withS st ((q : Int) + k + 1), ?_, rfl, by omega, okS_with ⟨hst1, hst2⟩ _, fun u => ?_, rfl⟩
      · show Value.int .i64 _ = _; congr 1
      · have hu := hww u
        rw [hsu u] at hu
        by_cases h2 : u = (q : Int) + k + 1
        · rw [hu.2 (.inr h2), h2, he1, decide_eq_true (by omega)]
          rfl
        · cases hb : hasB (withS st ((q : Int) + k + 1)) u with
          | true =>
            rcases hu.1 hb with h3 | h3
            · have h4 : (decide (1 ≤ u ∧ u ≤ (q : Int) + k) = true) ∧ e u = true := by simpa using h3
              have h5 := of_decide_eq_true h4.1
              rw [h4.2, decide_eq_true (by omega)]
              rfl
            · exact absurd h3 h2
          | false =>
            cases he : e u with
            | false => rw [Bool.and_false]
            | true =>
              rw [Bool.and_true]
              refine (decide_eq_false fun h3 => ?_).symm
              have : (decide (1 ≤ u ∧ u ≤ (q : Int) + k) && e u) = true := by rw [he, decide_eq_true (by omega)]; rfl
              rw [hu.2 (.inl this)] at hb
              cases hb
    · have h2 : ks.getD ((q : Int) + k + 1).toNat default = -1 := by omega
      rw [h2] at hf
      have he1 : e ((q : Int) + k + 1) = false := hf.2.symm
      repeat' first
        | (refine J.isJ ?_; first | (first | (refine J.o 3 ?_; refine J.iJ hΓ ?_ (hs := hsk) (hlen := hkl) (h0 := by omega) (h1 := by omega)) | (refine J.o 4 ?_; first | refine J.e3 hΓ ?_ | refine J.lT default hΓ ?_ (hs := hsk) (hr := RdH.hd) (hk := by omega)) | (refine J.fc 47 ?_; refine J.call0 eWith rfl rfl (fun w hw => cW w) ?_)) | (first | (refine J.o 0 ?_; refine J.ev' hΓ ?_) | refine J.nil ?_ | refine J.kd ?_ | (refine J.o 4 ?_; first | refine J.e0 hΓ ?_ | refine J.lT default hΓ ?_ | refine J.e1 hΓ ?_ | refine J.e2 hΓ ?_ | refine J.lR hΓ ?_) | (refine J.o 3 ?_; first | refine J.iA hΓ ?_ | refine J.iJ hΓ ?_ | refine J.fP hΓ ?_ | refine J.iC hΓ ?_ | refine J.ev' hΓ ?_) | (refine J.o 1 ?_; first | refine J.ad ?_ | refine J.sb ?_ | refine J.ng ?_ | refine J.mu ?_) | (refine J.o 5 ?_; first | refine J.t0 hΓ ?_ | refine J.t1 hΓ ?_ | refine J.t2 hΓ ?_) | (refine J.o 6 ?_; refine J.bx (fun _ => ?_)) | (refine J.o 7 ?_; refine J.al hΓ (fun _ => ?_)) | (refine J.o 8 ?_; refine J.bd hΓ ?_) | (refine J.o 9 ?_; refine J.bl hΓ (fun _ => ?_)) | (refine J.o 10 ?_; first | refine J.ls hΓ ?_ | refine J.ev' hΓ ?_) | (refine J.o 11 ?_; refine J.ev' hΓ ?_) | refine J.kn ?_) | ((fail_if_success refine J.wt ?_); refine J.gc rfl rfl (fun hc => ?_) (fun hc => ?_) <;> ((try simp only [decide_eq_true_eq, decide_eq_false_iff_not, beq_iff_eq, beq_eq_false_iff_ne, bne_iff_ne, bne_eq_false_iff_eq, Bool.not_eq_true', Bool.not_eq_false', Bool.not_eq_true, Bool.not_eq_false] at hc) <;> first | (first | (exact absurd rfl hc) | (exfalso; omega) | (exact absurd (hc.symm.trans (by assumption : _ = false)) (by decide)) | (exact absurd (hc.symm.trans (by assumption : _ = true)) (by decide))) | skip)))
        | (first | refine JC.seq ?_ | refine JC.region ?_ | refine JC.block ?_ | refine JC.ret ?_ | refine JC.exit ?_ | refine JC.skip ?_ | refine thenK.nn ?_ | refine thenK.r ?_ | refine thenK.x ?_ | refine blockK.nn ?_ | refine blockK.r ?_ | refine blockK.hit rfl ?_ | refine blockK.miss rfl ?_ | refine JC.condT rfl ?_ | refine JC.condF rfl ?_ | (refine JC.cond rfl (fun hc => ?_) (fun hc => ?_) <;> ((try simp only [decide_eq_true_eq, decide_eq_false_iff_not, beq_iff_eq, beq_eq_false_iff_ne, bne_iff_ne, bne_eq_false_iff_eq, Bool.not_eq_true', Bool.not_eq_false', Bool.not_eq_true, Bool.not_eq_false] at hc) <;> first | (first | (exact absurd rfl hc) | (exfalso; omega) | (exact absurd (hc.symm.trans (by assumption : _ = false)) (by decide)) | (exact absurd (hc.symm.trans (by assumption : _ = true)) (by decide))) | skip)) | refine drawK.nn ?_ | refine roundK.nn ?_ | refine roundK.r ?_ | refine roundK.x ?_ | refine loopK.r ?_ | refine loopK.x ?_)
        | (fail)
        | fail
      all_goals first | (exfalso; omega) | skip
      all_goals refine loopK.nn (m5 - 1) (by omega) (by repeat (first | refine Ag.upd rfl ?_ | exact Ag.hv | refine Ag.hv2 (fun i hi => by simp at hi ⊢; omega) ?_)) ⟨k + 1, st, ?_, rfl, by omega, ⟨hst1, hst2⟩, fun u => ?_, rfl⟩
      · show Value.int .i64 _ = _; congr 1
      · rw [hsu u]
        by_cases h3 : u = (q : Int) + k + 1
        · rw [h3, he1, Bool.and_false, Bool.and_false]
        · congr 1
          rw [decide_eq_decide]
          omega
  | true =>
    clear hfx
    simp only [if_true] at hzm
    repeat' first
      | (refine J.isJ ?_; first | ((refine J.o 4 ?_; first | refine J.e3 hΓ ?_ | refine J.e4 hΓ ?_)) | (first | (refine J.o 0 ?_; refine J.ev' hΓ ?_) | refine J.nil ?_ | refine J.kd ?_ | (refine J.o 4 ?_; first | refine J.e0 hΓ ?_ | refine J.lT default hΓ ?_ | refine J.e1 hΓ ?_ | refine J.e2 hΓ ?_ | refine J.lR hΓ ?_) | (refine J.o 3 ?_; first | refine J.iA hΓ ?_ | refine J.iJ hΓ ?_ | refine J.fP hΓ ?_ | refine J.iC hΓ ?_ | refine J.ev' hΓ ?_) | (refine J.o 1 ?_; first | refine J.ad ?_ | refine J.sb ?_ | refine J.ng ?_ | refine J.mu ?_) | (refine J.o 5 ?_; first | refine J.t0 hΓ ?_ | refine J.t1 hΓ ?_ | refine J.t2 hΓ ?_) | (refine J.o 6 ?_; refine J.bx (fun _ => ?_)) | (refine J.o 7 ?_; refine J.al hΓ (fun _ => ?_)) | (refine J.o 8 ?_; refine J.bd hΓ ?_) | (refine J.o 9 ?_; refine J.bl hΓ (fun _ => ?_)) | (refine J.o 10 ?_; first | refine J.ls hΓ ?_ | refine J.ev' hΓ ?_) | (refine J.o 11 ?_; refine J.ev' hΓ ?_) | refine J.kn ?_) | ((fail_if_success refine J.wt ?_); refine J.gc rfl rfl (fun hc => ?_) (fun hc => ?_) <;> ((try simp only [decide_eq_true_eq, decide_eq_false_iff_not, beq_iff_eq, beq_eq_false_iff_ne, bne_iff_ne, bne_eq_false_iff_eq, Bool.not_eq_true', Bool.not_eq_false', Bool.not_eq_true, Bool.not_eq_false] at hc) <;> first | (first | (exact absurd rfl hc) | (exfalso; omega) | (exact absurd (hc.symm.trans (by assumption : _ = false)) (by decide)) | (exact absurd (hc.symm.trans (by assumption : _ = true)) (by decide))) | skip)))
      | (first | refine JC.seq ?_ | refine JC.region ?_ | refine JC.block ?_ | refine JC.ret ?_ | refine JC.exit ?_ | refine JC.skip ?_ | refine thenK.nn ?_ | refine thenK.r ?_ | refine thenK.x ?_ | refine blockK.nn ?_ | refine blockK.r ?_ | refine blockK.hit rfl ?_ | refine blockK.miss rfl ?_ | refine JC.condT rfl ?_ | refine JC.condF rfl ?_ | (refine JC.cond rfl (fun hc => ?_) (fun hc => ?_) <;> ((try simp only [decide_eq_true_eq, decide_eq_false_iff_not, beq_iff_eq, beq_eq_false_iff_ne, bne_iff_ne, bne_eq_false_iff_eq, Bool.not_eq_true', Bool.not_eq_false', Bool.not_eq_true, Bool.not_eq_false] at hc) <;> first | (first | (exact absurd rfl hc) | (exfalso; omega) | (exact absurd (hc.symm.trans (by assumption : _ = false)) (by decide)) | (exact absurd (hc.symm.trans (by assumption : _ = true)) (by decide))) | skip)) | refine drawK.nn ?_ | refine roundK.nn ?_ | refine roundK.r ?_ | refine roundK.x ?_ | refine loopK.r ?_ | refine loopK.x ?_)
      | (fail)
      | fail
    all_goals first | (exfalso; omega) | skip
    refine JC.loop (fun i => i == 11 || (Nat.ble 13 i && Nat.ble i 19) || (Nat.ble 44 i && Nat.ble i 94)) (fun m g L => ∃ (k : Nat) (ag : Bool) (ks2 : List Int) (hk : Heap), g 44 = .int .i64 (k : Int) ∧ g 11 = .bool ag ∧ k + m = vs.length ∧ OwT encI 1 3 (some ⟨bk, 0, none⟩) (M + 1) ks2 hk ∧ KI ks2 M q (hasB s) e Q ∧ zc ks2 + (if ag then 1 else 0) ≤ zc ks ∧ (ag = false → ∀ c, c ∈ (vs.map (·.l)).take k → fixC (kf ks2) c) ∧ L = [hk, [(b6, .cells ⟨[.int .u64 0, .int .u64 0]⟩ 52 (0, 0))], [(b4, setO s)], [(b3, .cells ⟨[.int .i64 (M : Int), .slice a vs.length cap]⟩ 37 (0, 0))]]) vs.length
      ⟨0, false, ks, hk, rfl, rfl, by omega, ok, hKI, Nat.le_refl _, fun _ c hc => by simp at hc, rfl⟩ ?_
    clear ok hKI hk
    rintro m3 g3 L3 ⟨k, ag, ks2, hk, e44, e11, hkm, ok, hKI, hz, hfx, rfl⟩
    refine JC.pin 44 e44 (JC.pin 11 e11 ?_)
    clear e44 e11
    rcases Nat.lt_or_ge k vs.length with hkv | hkv
    case inr =>
      rw [List.take_of_length_le (by rw [List.length_map]; exact hkv)] at hfx
      repeat' first
        | (refine J.isJ ?_; first | (fail) | (first | (refine J.o 0 ?_; refine J.ev' hΓ ?_) | refine J.nil ?_ | refine J.kd ?_ | (refine J.o 4 ?_; first | refine J.e0 hΓ ?_ | refine J.lT default hΓ ?_ | refine J.e1 hΓ ?_ | refine J.e2 hΓ ?_ | refine J.lR hΓ ?_) | (refine J.o 3 ?_; first | refine J.iA hΓ ?_ | refine J.iJ hΓ ?_ | refine J.fP hΓ ?_ | refine J.iC hΓ ?_ | refine J.ev' hΓ ?_) | (refine J.o 1 ?_; first | refine J.ad ?_ | refine J.sb ?_ | refine J.ng ?_ | refine J.mu ?_) | (refine J.o 5 ?_; first | refine J.t0 hΓ ?_ | refine J.t1 hΓ ?_ | refine J.t2 hΓ ?_) | (refine J.o 6 ?_; refine J.bx (fun _ => ?_)) | (refine J.o 7 ?_; refine J.al hΓ (fun _ => ?_)) | (refine J.o 8 ?_; refine J.bd hΓ ?_) | (refine J.o 9 ?_; refine J.bl hΓ (fun _ => ?_)) | (refine J.o 10 ?_; first | refine J.ls hΓ ?_ | refine J.ev' hΓ ?_) | (refine J.o 11 ?_; refine J.ev' hΓ ?_) | refine J.kn ?_) | ((fail_if_success refine J.wt ?_); refine J.gc rfl rfl (fun hc => ?_) (fun hc => ?_) <;> ((try simp only [decide_eq_true_eq, decide_eq_false_iff_not, beq_iff_eq, beq_eq_false_iff_ne, bne_iff_ne, bne_eq_false_iff_eq, Bool.not_eq_true', Bool.not_eq_false', Bool.not_eq_true, Bool.not_eq_false] at hc) <;> first | (first | (exact absurd rfl hc) | (exfalso; omega) | (exact absurd (hc.symm.trans (by assumption : _ = false)) (by decide)) | (exact absurd (hc.symm.trans (by assumption : _ = true)) (by decide))) | skip)))
        | (first | refine JC.seq ?_ | refine JC.region ?_ | refine JC.block ?_ | refine JC.ret ?_ | refine JC.exit ?_ | refine JC.skip ?_ | refine thenK.nn ?_ | refine thenK.r ?_ | refine thenK.x ?_ | refine blockK.nn ?_ | refine blockK.r ?_ | refine blockK.hit rfl ?_ | refine blockK.miss rfl ?_ | refine JC.condT rfl ?_ | refine JC.condF rfl ?_ | (refine JC.cond rfl (fun hc => ?_) (fun hc => ?_) <;> ((try simp only [decide_eq_true_eq, decide_eq_false_iff_not, beq_iff_eq, beq_eq_false_iff_ne, bne_iff_ne, bne_eq_false_iff_eq, Bool.not_eq_true', Bool.not_eq_false', Bool.not_eq_true, Bool.not_eq_false] at hc) <;> first | (first | (exact absurd rfl hc) | (exfalso; omega) | (exact absurd (hc.symm.trans (by assumption : _ = false)) (by decide)) | (exact absurd (hc.symm.trans (by assumption : _ = true)) (by decide))) | skip)) | refine drawK.nn ?_ | refine roundK.nn ?_ | refine roundK.r ?_ | refine roundK.x ?_ | refine loopK.r ?_ | refine loopK.x ?_)
        | (fail)
        | fail
      all_goals first | (exfalso; omega) | skip
      all_goals refine loopK.nn (zc ks2 + (if ag then 1 else 0)) (by omega) (by repeat (first | refine Ag.upd rfl ?_ | exact Ag.hv | refine Ag.hv2 (fun i hi => by simp at hi ⊢; omega) ?_)) ⟨ag, ks2, hk, rfl, rfl, ok, hKI, hfx, rfl⟩
    have hmm := mem_g vs k hkv
    have hml : (vs.getD k default).l ∈ vs.map (·.l) := List.mem_map_of_mem (f := (·.l)) hmm
    have hik := hi _ hmm
    have hck := hok _ hml
    have hcn := hck.n
    repeat' first
      | (refine J.isJ ?_; first | (fail) | (first | (refine J.o 0 ?_; refine J.ev' hΓ ?_) | refine J.nil ?_ | refine J.kd ?_ | (refine J.o 4 ?_; first | refine J.e0 hΓ ?_ | refine J.lT default hΓ ?_ | refine J.e1 hΓ ?_ | refine J.e2 hΓ ?_ | refine J.lR hΓ ?_) | (refine J.o 3 ?_; first | refine J.iA hΓ ?_ | refine J.iJ hΓ ?_ | refine J.fP hΓ ?_ | refine J.iC hΓ ?_ | refine J.ev' hΓ ?_) | (refine J.o 1 ?_; first | refine J.ad ?_ | refine J.sb ?_ | refine J.ng ?_ | refine J.mu ?_) | (refine J.o 5 ?_; first | refine J.t0 hΓ ?_ | refine J.t1 hΓ ?_ | refine J.t2 hΓ ?_) | (refine J.o 6 ?_; refine J.bx (fun _ => ?_)) | (refine J.o 7 ?_; refine J.al hΓ (fun _ => ?_)) | (refine J.o 8 ?_; refine J.bd hΓ ?_) | (refine J.o 9 ?_; refine J.bl hΓ (fun _ => ?_)) | (refine J.o 10 ?_; first | refine J.ls hΓ ?_ | refine J.ev' hΓ ?_) | (refine J.o 11 ?_; refine J.ev' hΓ ?_) | refine J.kn ?_) | ((fail_if_success refine J.wt ?_); refine J.gc rfl rfl (fun hc => ?_) (fun hc => ?_) <;> ((try simp only [decide_eq_true_eq, decide_eq_false_iff_not, beq_iff_eq, beq_eq_false_iff_ne, bne_iff_ne, bne_eq_false_iff_eq, Bool.not_eq_true', Bool.not_eq_false', Bool.not_eq_true, Bool.not_eq_false] at hc) <;> first | (first | (exact absurd rfl hc) | (exfalso; omega) | (exact absurd (hc.symm.trans (by assumption : _ = false)) (by decide)) | (exact absurd (hc.symm.trans (by assumption : _ = true)) (by decide))) | skip)))
      | (first | refine JC.seq ?_ | refine JC.region ?_ | refine JC.block ?_ | refine JC.ret ?_ | refine JC.exit ?_ | refine JC.skip ?_ | refine thenK.nn ?_ | refine thenK.r ?_ | refine thenK.x ?_ | refine blockK.nn ?_ | refine blockK.r ?_ | refine blockK.hit rfl ?_ | refine blockK.miss rfl ?_ | refine JC.condT rfl ?_ | refine JC.condF rfl ?_ | (refine JC.cond rfl (fun hc => ?_) (fun hc => ?_) <;> ((try simp only [decide_eq_true_eq, decide_eq_false_iff_not, beq_iff_eq, beq_eq_false_iff_ne, bne_iff_ne, bne_eq_false_iff_eq, Bool.not_eq_true', Bool.not_eq_false', Bool.not_eq_true, Bool.not_eq_false] at hc) <;> first | (first | (exact absurd rfl hc) | (exfalso; omega) | (exact absurd (hc.symm.trans (by assumption : _ = false)) (by decide)) | (exact absurd (hc.symm.trans (by assumption : _ = true)) (by decide))) | skip)) | refine drawK.nn ?_ | refine roundK.nn ?_ | refine roundK.r ?_ | refine roundK.x ?_ | refine loopK.r ?_ | refine loopK.x ?_)
      | (fail)
      | fail
    all_goals first | (exfalso; omega) | skip
    refine JC.loop (fun i => i == 14 || i == 15 || i == 16 || i == 18 || i == 19 || (Nat.ble 50 i && Nat.ble i 73)) (fun m g L => ∃ (j : Nat), g 50 = .int .i64 (j : Int) ∧ g 14 = .int .i64 (scan (kf ks2) ((vs.getD k default).l.take j)).1 ∧ g 15 = .int .i64 (scan (kf ks2) ((vs.getD k default).l.take j)).2.1 ∧ g 16 = .bool (scan (kf ks2) ((vs.getD k default).l.take j)).2.2 ∧ j + m = (vs.getD k default).l.length ∧ L = [hk, [(b6, .cells ⟨[.int .u64 0, .int .u64 0]⟩ 52 (0, 0))], [(b4, setO s)], [(b3, .cells ⟨[.int .i64 (M : Int), .slice a vs.length cap]⟩ 37 (0, 0))]]) (vs.getD k default).l.length
      ⟨0, rfl, rfl, rfl, rfl, by omega, rfl⟩ ?_
    rintro m4 g4 L4 ⟨j, e50, e14, e15, e16, hjm, rfl⟩
    refine JC.pin 50 e50 (JC.pin 14 e14 (JC.pin 15 e15 (JC.pin 16 e16 ?_)))
    clear e50 e14 e15 e16
    have hsc := scan_ok (kf ks2) ((vs.getD k default).l.take j)
    have hnn := hsc.nn
    rw [List.length_take] at hnn
    rcases Nat.lt_or_ge j (vs.getD k default).l.length with hj | hj
    case inl =>
      have hx := hck.v _ (getD_mem (vs.getD k default).l j hj)
      have hsn2 := scan_snoc (kf ks2) ((vs.getD k default).l.take j) ((vs.getD k default).l.getD j default)
      rw [← take_g _ j hj] at hsn2
      have hab : 1 ≤ absI ((vs.getD k default).l.getD j default) ∧ absI ((vs.getD k default).l.getD j default) ≤ M := by unfold absI; omega
      have hkl := hKI.len
      have hsk := ok.sl
      repeat' first
        | (refine J.isJ ?_; first | (first | (refine J.o 4 ?_; first | refine J.lT default hΓ ?_ (hs := hik) (hr := q0 _) | refine J.lT default hΓ ?_ (hs := hsk) (hr := RdH.hd) (hk := by omega)) | (refine J.o 3 ?_; refine J.iJ hΓ ?_ (hs := hsk) (hlen := hkl) (h0 := by omega) (h1 := by omega))) | (first | (refine J.o 0 ?_; refine J.ev' hΓ ?_) | refine J.nil ?_ | refine J.kd ?_ | (refine J.o 4 ?_; first | refine J.e0 hΓ ?_ | refine J.lT default hΓ ?_ | refine J.e1 hΓ ?_ | refine J.e2 hΓ ?_ | refine J.lR hΓ ?_) | (refine J.o 3 ?_; first | refine J.iA hΓ ?_ | refine J.iJ hΓ ?_ | refine J.fP hΓ ?_ | refine J.iC hΓ ?_ | refine J.ev' hΓ ?_) | (refine J.o 1 ?_; first | refine J.ad ?_ | refine J.sb ?_ | refine J.ng ?_ | refine J.mu ?_) | (refine J.o 5 ?_; first | refine J.t0 hΓ ?_ | refine J.t1 hΓ ?_ | refine J.t2 hΓ ?_) | (refine J.o 6 ?_; refine J.bx (fun _ => ?_)) | (refine J.o 7 ?_; refine J.al hΓ (fun _ => ?_)) | (refine J.o 8 ?_; refine J.bd hΓ ?_) | (refine J.o 9 ?_; refine J.bl hΓ (fun _ => ?_)) | (refine J.o 10 ?_; first | refine J.ls hΓ ?_ | refine J.ev' hΓ ?_) | (refine J.o 11 ?_; refine J.ev' hΓ ?_) | refine J.kn ?_) | ((fail_if_success refine J.wt ?_); refine J.gc rfl rfl (fun hc => ?_) (fun hc => ?_) <;> ((try simp only [decide_eq_true_eq, decide_eq_false_iff_not, beq_iff_eq, beq_eq_false_iff_ne, bne_iff_ne, bne_eq_false_iff_eq, Bool.not_eq_true', Bool.not_eq_false', Bool.not_eq_true, Bool.not_eq_false] at hc) <;> first | (first | (exact absurd rfl hc) | (exfalso; omega) | (exact absurd (hc.symm.trans (by assumption : _ = false)) (by decide)) | (exact absurd (hc.symm.trans (by assumption : _ = true)) (by decide))) | skip)))
        | (first | refine JC.seq ?_ | refine JC.region ?_ | refine JC.block ?_ | refine JC.ret ?_ | refine JC.exit ?_ | refine JC.skip ?_ | refine thenK.nn ?_ | refine thenK.r ?_ | refine thenK.x ?_ | refine blockK.nn ?_ | refine blockK.r ?_ | refine blockK.hit rfl ?_ | refine blockK.miss rfl ?_ | refine JC.condT rfl ?_ | refine JC.condF rfl ?_ | (refine JC.cond rfl (fun hc => ?_) (fun hc => ?_) <;> ((try simp only [decide_eq_true_eq, decide_eq_false_iff_not, beq_iff_eq, beq_eq_false_iff_ne, bne_iff_ne, bne_eq_false_iff_eq, Bool.not_eq_true', Bool.not_eq_false', Bool.not_eq_true, Bool.not_eq_false] at hc) <;> first | (first | (exact absurd rfl hc) | (exfalso; omega) | (exact absurd (hc.symm.trans (by assumption : _ = false)) (by decide)) | (exact absurd (hc.symm.trans (by assumption : _ = true)) (by decide))) | skip)) | refine drawK.nn ?_ | refine roundK.nn ?_ | refine roundK.r ?_ | refine roundK.x ?_ | refine loopK.r ?_ | refine loopK.x ?_)
        | (fail)
        | fail
      all_goals first | (exfalso; omega) | skip
      · have hS : scan (kf ks2) ((vs.getD k default).l.take (j + 1)) = ((scan (kf ks2) ((vs.getD k default).l.take j)).1 + 1, (vs.getD k default).l.getD j default, (scan (kf ks2) ((vs.getD k default).l.take j)).2.2) := by
          rw [hsn2]; unfold scS; exact if_pos hc
        refine loopK.nn (m4 - 1) (by omega) (by repeat (first | refine Ag.upd rfl ?_ | exact Ag.hv)) ⟨j + 1, ?_, ?_, ?_, ?_, by omega, rfl⟩
        · show Value.int .i64 _ = _; congr 1
        · rw [hS]; rfl
        · rw [hS]; rfl
        · rw [hS]; rfl
      · have hc0 : ¬ kf ks2 (absI ((vs.getD k default).l.getD j default)) = 0 := by assumption
        have hS : scan (kf ks2) ((vs.getD k default).l.take (j + 1)) = ((scan (kf ks2) ((vs.getD k default).l.take j)).1, (scan (kf ks2) ((vs.getD k default).l.take j)).2.1, true) := by
          rw [hsn2]; unfold scS; rw [if_neg hc0]; exact if_pos hc
        refine loopK.nn (m4 - 1) (by omega) (by repeat (first | refine Ag.upd rfl ?_ | exact Ag.hv)) ⟨j + 1, ?_, ?_, ?_, ?_, by omega, rfl⟩
        · show Value.int .i64 _ = _; congr 1
        · rw [hS]; rfl
        · rw [hS]; rfl
        · rw [hS]; rfl
      · have hc0 : ¬ kf ks2 (absI ((vs.getD k default).l.getD j default)) = 0 := by assumption
        have hS : scan (kf ks2) ((vs.getD k default).l.take (j + 1)) = scan (kf ks2) ((vs.getD k default).l.take j) := by
          rw [hsn2]; unfold scS; rw [if_neg hc0]; exact if_neg hc
        refine loopK.nn (m4 - 1) (by omega) (by repeat (first | refine Ag.upd rfl ?_ | exact Ag.hv)) ⟨j + 1, ?_, ?_, ?_, ?_, by omega, rfl⟩
        · show Value.int .i64 _ = _; congr 1
        · rw [hS]; rfl
        · rw [hS]; rfl
        · rw [hS]; rfl
    rw [List.take_of_length_le hj] at hsc ⊢
    clear hnn
    have hnn := hsc.nn
    have hmk : ∀ c, c ∈ (vs.map (·.l)).take (k + 1) → c ∈ (vs.map (·.l)).take k ∨ c = (vs.getD k default).l := fun c hc => by
      rw [← List.map_take, take_g vs k hkv, List.map_append] at hc
      rcases List.mem_append.1 hc with hc | hc
      · left; rw [← List.map_take]; exact hc
      · right; simpa using hc
    have hfix : ∀ c, (scan (kf ks2) (vs.getD k default).l).2.2 = true ∨ 1 < (scan (kf ks2) (vs.getD k default).l).1 → ag = false → c ∈ (vs.map (·.l)).take (k + 1) → fixC (kf ks2) c := fun c hd ha hc => by
      rcases hmk c hc with hc | hc
      · exact hfx ha c hc
      · rw [hc]; exact hd
    have hsnd : Q → (scan (kf ks2) (vs.getD k default).l).2.2 = false → 1 ≤ (scan (kf ks2) (vs.getD k default).l).1 ∧ ((scan (kf ks2) (vs.getD k default).l).1 = 1 → litT e (scan (kf ks2) (vs.getD k default).l).2.1 = true) := fun hq hy => scan_sound (hKI.snd hq) (hext hq _ hml) hck.v hy
    generalize scan (kf ks2) (vs.getD k default).l = sc at *
    obtain ⟨op, la, yes⟩ := sc
    dsimp only at hsc hnn hfix hsnd ⊢
    have hsk := ok.sl
    have hkl := hKI.len
    cases yes with
    | true =>
      repeat' first
        | (refine J.isJ ?_; first | (fail) | (first | (refine J.o 0 ?_; refine J.ev' hΓ ?_) | refine J.nil ?_ | refine J.kd ?_ | (refine J.o 4 ?_; first | refine J.e0 hΓ ?_ | refine J.lT default hΓ ?_ | refine J.e1 hΓ ?_ | refine J.e2 hΓ ?_ | refine J.lR hΓ ?_) | (refine J.o 3 ?_; first | refine J.iA hΓ ?_ | refine J.iJ hΓ ?_ | refine J.fP hΓ ?_ | refine J.iC hΓ ?_ | refine J.ev' hΓ ?_) | (refine J.o 1 ?_; first | refine J.ad ?_ | refine J.sb ?_ | refine J.ng ?_ | refine J.mu ?_) | (refine J.o 5 ?_; first | refine J.t0 hΓ ?_ | refine J.t1 hΓ ?_ | refine J.t2 hΓ ?_) | (refine J.o 6 ?_; refine J.bx (fun _ => ?_)) | (refine J.o 7 ?_; refine J.al hΓ (fun _ => ?_)) | (refine J.o 8 ?_; refine J.bd hΓ ?_) | (refine J.o 9 ?_; refine J.bl hΓ (fun _ => ?_)) | (refine J.o 10 ?_; first | refine J.ls hΓ ?_ | refine J.ev' hΓ ?_) | (refine J.o 11 ?_; refine J.ev' hΓ ?_) | refine J.kn ?_) | ((fail_if_success refine J.wt ?_); refine J.gc rfl rfl (fun hc => ?_) (fun hc => ?_) <;> ((try simp only [decide_eq_true_eq, decide_eq_false_iff_not, beq_iff_eq, beq_eq_false_iff_ne, bne_iff_ne, bne_eq_false_iff_eq, Bool.not_eq_true', Bool.not_eq_false', Bool.not_eq_true, Bool.not_eq_false] at hc) <;> first | (first | (exact absurd rfl hc) | (exfalso; omega) | (exact absurd (hc.symm.trans (by assumption : _ = false)) (by decide)) | (exact absurd (hc.symm.trans (by assumption : _ = true)) (by decide))) | skip)))
        | (first | refine JC.seq ?_ | refine JC.region ?_ | refine JC.block ?_ | refine JC.ret ?_ | refine JC.exit ?_ | refine JC.skip ?_ | refine thenK.nn ?_ | refine thenK.r ?_ | refine thenK.x ?_ | refine blockK.nn ?_ | refine blockK.r ?_ | refine blockK.hit rfl ?_ | refine blockK.miss rfl ?_ | refine JC.condT rfl ?_ | refine JC.condF rfl ?_ | (refine JC.cond rfl (fun hc => ?_) (fun hc => ?_) <;> ((try simp only [decide_eq_true_eq, decide_eq_false_iff_not, beq_iff_eq, beq_eq_false_iff_ne, bne_iff_ne, bne_eq_false_iff_eq, Bool.not_eq_true', Bool.not_eq_false', Bool.not_eq_true, Bool.not_eq_false] at hc) <;> first | (first | (exact absurd rfl hc) | (exfalso; omega) | (exact absurd (hc.symm.trans (by assumption : _ = false)) (by decide)) | (exact absurd (hc.symm.trans (by assumption : _ = true)) (by decide))) | skip)) | refine drawK.nn ?_ | refine roundK.nn ?_ | refine roundK.r ?_ | refine roundK.x ?_ | refine loopK.r ?_ | refine loopK.x ?_)
        | (fail)
        | fail
      all_goals first | (exfalso; omega) | skip
      all_goals refine loopK.nn (m3 - 1) (by omega) (by repeat (first | refine Ag.upd rfl ?_ | exact Ag.hv | refine Ag.hv2 (fun i hi => by simp at hi ⊢; omega) ?_)) ⟨k + 1, ag, ks2, hk, ?_, rfl, by omega, ok, hKI, hz, fun ha c hc => hfix c (.inl rfl) ha hc, rfl⟩
      all_goals (show Value.int .i64 _ = _; congr 1)
    | false =>
      have hsnd := fun hq => hsnd hq rfl
      rcases Int.lt_or_le 1 op with hop | hop
      · 
        repeat' first
          | (refine J.isJ ?_; first | (fail) | (first | (refine J.o 0 ?_; refine J.ev' hΓ ?_) | refine J.nil ?_ | refine J.kd ?_ | (refine J.o 4 ?_; first | refine J.e0 hΓ ?_ | refine J.lT default hΓ ?_ | refine J.e1 hΓ ?_ | refine J.e2 hΓ ?_ | refine J.lR hΓ ?_) | (refine J.o 3 ?_; first | refine J.iA hΓ ?_ | refine J.iJ hΓ ?_ | refine J.fP hΓ ?_ | refine J.iC hΓ ?_ | refine J.ev' hΓ ?_) | (refine J.o 1 ?_; first | refine J.ad ?_ | refine J.sb ?_ | refine J.ng ?_ | refine J.mu ?_) | (refine J.o 5 ?_; first | refine J.t0 hΓ ?_ | refine J.t1 hΓ ?_ | refine J.t2 hΓ ?_) | (refine J.o 6 ?_; refine J.bx (fun _ => ?_)) | (refine J.o 7 ?_; refine J.al hΓ (fun _ => ?_)) | (refine J.o 8 ?_; refine J.bd hΓ ?_) | (refine J.o 9 ?_; refine J.bl hΓ (fun _ => ?_)) | (refine J.o 10 ?_; first | refine J.ls hΓ ?_ | refine J.ev' hΓ ?_) | (refine J.o 11 ?_; refine J.ev' hΓ ?_) | refine J.kn ?_) | ((fail_if_success refine J.wt ?_); refine J.gc rfl rfl (fun hc => ?_) (fun hc => ?_) <;> ((try simp only [decide_eq_true_eq, decide_eq_false_iff_not, beq_iff_eq, beq_eq_false_iff_ne, bne_iff_ne, bne_eq_false_iff_eq, Bool.not_eq_true', Bool.not_eq_false', Bool.not_eq_true, Bool.not_eq_false] at hc) <;> first | (first | (exact absurd rfl hc) | (exfalso; omega) | (exact absurd (hc.symm.trans (by assumption : _ = false)) (by decide)) | (exact absurd (hc.symm.trans (by assumption : _ = true)) (by decide))) | skip)))
          | (first | refine JC.seq ?_ | refine JC.region ?_ | refine JC.block ?_ | refine JC.ret ?_ | refine JC.exit ?_ | refine JC.skip ?_ | refine thenK.nn ?_ | refine thenK.r ?_ | refine thenK.x ?_ | refine blockK.nn ?_ | refine blockK.r ?_ | refine blockK.hit rfl ?_ | refine blockK.miss rfl ?_ | refine JC.condT rfl ?_ | refine JC.condF rfl ?_ | (refine JC.cond rfl (fun hc => ?_) (fun hc => ?_) <;> ((try simp only [decide_eq_true_eq, decide_eq_false_iff_not, beq_iff_eq, beq_eq_false_iff_ne, bne_iff_ne, bne_eq_false_iff_eq, Bool.not_eq_true', Bool.not_eq_false', Bool.not_eq_true, Bool.not_eq_false] at hc) <;> first | (first | (exact absurd rfl hc) | (exfalso; omega) | (exact absurd (hc.symm.trans (by assumption : _ = false)) (by decide)) | (exact absurd (hc.symm.trans (by assumption : _ = true)) (by decide))) | skip)) | refine drawK.nn ?_ | refine roundK.nn ?_ | refine roundK.r ?_ | refine roundK.x ?_ | refine loopK.r ?_ | refine loopK.x ?_)
          | (fail)
          | fail
        all_goals first | (exfalso; omega) | skip
        all_goals refine loopK.nn (m3 - 1) (by omega) (by repeat (first | refine Ag.upd rfl ?_ | exact Ag.hv | refine Ag.hv2 (fun i hi => by simp at hi ⊢; omega) ?_)) ⟨k + 1, ag, ks2, hk, ?_, rfl, by omega, ok, hKI, hz, fun ha c hc => hfix c (.inr hop) ha hc, rfl⟩
        all_goals (show Value.int .i64 _ = _; congr 1)
      rcases Int.lt_or_le 0 op with hop2 | hop2
      case inr =>
        repeat' first
          | (refine J.isJ ?_; first | (fail) | (first | (refine J.o 0 ?_; refine J.ev' hΓ ?_) | refine J.nil ?_ | refine J.kd ?_ | (refine J.o 4 ?_; first | refine J.e0 hΓ ?_ | refine J.lT default hΓ ?_ | refine J.e1 hΓ ?_ | refine J.e2 hΓ ?_ | refine J.lR hΓ ?_) | (refine J.o 3 ?_; first | refine J.iA hΓ ?_ | refine J.iJ hΓ ?_ | refine J.fP hΓ ?_ | refine J.iC hΓ ?_ | refine J.ev' hΓ ?_) | (refine J.o 1 ?_; first | refine J.ad ?_ | refine J.sb ?_ | refine J.ng ?_ | refine J.mu ?_) | (refine J.o 5 ?_; first | refine J.t0 hΓ ?_ | refine J.t1 hΓ ?_ | refine J.t2 hΓ ?_) | (refine J.o 6 ?_; refine J.bx (fun _ => ?_)) | (refine J.o 7 ?_; refine J.al hΓ (fun _ => ?_)) | (refine J.o 8 ?_; refine J.bd hΓ ?_) | (refine J.o 9 ?_; refine J.bl hΓ (fun _ => ?_)) | (refine J.o 10 ?_; first | refine J.ls hΓ ?_ | refine J.ev' hΓ ?_) | (refine J.o 11 ?_; refine J.ev' hΓ ?_) | refine J.kn ?_) | ((fail_if_success refine J.wt ?_); refine J.gc rfl rfl (fun hc => ?_) (fun hc => ?_) <;> ((try simp only [decide_eq_true_eq, decide_eq_false_iff_not, beq_iff_eq, beq_eq_false_iff_ne, bne_iff_ne, bne_eq_false_iff_eq, Bool.not_eq_true', Bool.not_eq_false', Bool.not_eq_true, Bool.not_eq_false] at hc) <;> first | (first | (exact absurd rfl hc) | (exfalso; omega) | (exact absurd (hc.symm.trans (by assumption : _ = false)) (by decide)) | (exact absurd (hc.symm.trans (by assumption : _ = true)) (by decide))) | skip)))
          | (first | refine JC.seq ?_ | refine JC.region ?_ | refine JC.block ?_ | refine JC.ret ?_ | refine JC.exit ?_ | refine JC.skip ?_ | refine thenK.nn ?_ | refine thenK.r ?_ | refine thenK.x ?_ | refine blockK.nn ?_ | refine blockK.r ?_ | refine blockK.hit rfl ?_ | refine blockK.miss rfl ?_ | refine JC.condT rfl ?_ | refine JC.condF rfl ?_ | (refine JC.cond rfl (fun hc => ?_) (fun hc => ?_) <;> ((try simp only [decide_eq_true_eq, decide_eq_false_iff_not, beq_iff_eq, beq_eq_false_iff_ne, bne_iff_ne, bne_eq_false_iff_eq, Bool.not_eq_true', Bool.not_eq_false', Bool.not_eq_true, Bool.not_eq_false] at hc) <;> first | (first | (exact absurd rfl hc) | (exfalso; omega) | (exact absurd (hc.symm.trans (by assumption : _ = false)) (by decide)) | (exact absurd (hc.symm.trans (by assumption : _ = true)) (by decide))) | skip)) | refine drawK.nn ?_ | refine roundK.nn ?_ | refine roundK.r ?_ | refine roundK.x ?_ | refine loopK.r ?_ | refine loopK.x ?_)
          | (fail)
          | fail
        all_goals first | (exfalso; omega) | skip
        all_goals exact retC3 hΓ rfl rfl rfl rfl rfl Rd.hd.tl rfl rfl rfl (fun w1 hw => Gives.of hw.nilF ⟨s, false, rfl, (fun h => absurd h (by decide)), fun _ hq => by have := (hsnd hq).1; omega⟩)
      obtain rfl : op = 1 := by omega
      have hlast := hsc.last (by omega)
      dsimp only at hlast
      have hla := hck.v _ hlast.1
      have hlit := fun hq => (hsnd hq).2 rfl
      rcases Int.lt_or_le 0 la with hpos | hpos
      · have habs : absI la = la := absI_pos (by omega)
        rw [habs] at hlast
        have hzs := zc_set ks2 la.toNat 1 (by omega) hlast.2 (by decide)
        have hKI2 := hKI.set (v := la) (x := 1) ⟨by omega, by omega⟩ hlast.2 (.inl rfl) (fun hq => by have := hlit hq; unfold litT at this; rw [if_pos hpos] at this; rw [this]; rfl)
        repeat' first
          | (refine J.isJ ?_; first | (first | (refine J.o 3 ?_; refine J.iJ hΓ ?_ (hs := hsk) (hlen := hkl) (h0 := by omega) (h1 := by omega)) | (refine J.o 5 ?_; refine J.tT (1 : Int) 0 hΓ (fun h4 o4 => ?_) (hi := by omega))) | (first | (refine J.o 0 ?_; refine J.ev' hΓ ?_) | refine J.nil ?_ | refine J.kd ?_ | (refine J.o 4 ?_; first | refine J.e0 hΓ ?_ | refine J.lT default hΓ ?_ | refine J.e1 hΓ ?_ | refine J.e2 hΓ ?_ | refine J.lR hΓ ?_) | (refine J.o 3 ?_; first | refine J.iA hΓ ?_ | refine J.iJ hΓ ?_ | refine J.fP hΓ ?_ | refine J.iC hΓ ?_ | refine J.ev' hΓ ?_) | (refine J.o 1 ?_; first | refine J.ad ?_ | refine J.sb ?_ | refine J.ng ?_ | refine J.mu ?_) | (refine J.o 5 ?_; first | refine J.t0 hΓ ?_ | refine J.t1 hΓ ?_ | refine J.t2 hΓ ?_) | (refine J.o 6 ?_; refine J.bx (fun _ => ?_)) | (refine J.o 7 ?_; refine J.al hΓ (fun _ => ?_)) | (refine J.o 8 ?_; refine J.bd hΓ ?_) | (refine J.o 9 ?_; refine J.bl hΓ (fun _ => ?_)) | (refine J.o 10 ?_; first | refine J.ls hΓ ?_ | refine J.ev' hΓ ?_) | (refine J.o 11 ?_; refine J.ev' hΓ ?_) | refine J.kn ?_) | ((fail_if_success refine J.wt ?_); refine J.gc rfl rfl (fun hc => ?_) (fun hc => ?_) <;> ((try simp only [decide_eq_true_eq, decide_eq_false_iff_not, beq_iff_eq, beq_eq_false_iff_ne, bne_iff_ne, bne_eq_false_iff_eq, Bool.not_eq_true', Bool.not_eq_false', Bool.not_eq_true, Bool.not_eq_false] at hc) <;> first | (first | (exact absurd rfl hc) | (exfalso; omega) | (exact absurd (hc.symm.trans (by assumption : _ = false)) (by decide)) | (exact absurd (hc.symm.trans (by assumption : _ = true)) (by decide))) | skip)))
          | (first | refine JC.seq ?_ | refine JC.region ?_ | refine JC.block ?_ | refine JC.ret ?_ | refine JC.exit ?_ | refine JC.skip ?_ | refine thenK.nn ?_ | refine thenK.r ?_ | refine thenK.x ?_ | refine blockK.nn ?_ | refine blockK.r ?_ | refine blockK.hit rfl ?_ | refine blockK.miss rfl ?_ | refine JC.condT rfl ?_ | refine JC.condF rfl ?_ | (refine JC.cond rfl (fun hc => ?_) (fun hc => ?_) <;> ((try simp only [decide_eq_true_eq, decide_eq_false_iff_not, beq_iff_eq, beq_eq_false_iff_ne, bne_iff_ne, bne_eq_false_iff_eq, Bool.not_eq_true', Bool.not_eq_false', Bool.not_eq_true, Bool.not_eq_false] at hc) <;> first | (first | (exact absurd rfl hc) | (exfalso; omega) | (exact absurd (hc.symm.trans (by assumption : _ = false)) (by decide)) | (exact absurd (hc.symm.trans (by assumption : _ = true)) (by decide))) | skip)) | refine drawK.nn ?_ | refine roundK.nn ?_ | refine roundK.r ?_ | refine roundK.x ?_ | refine loopK.r ?_ | refine loopK.x ?_)
          | (fail)
          | fail
        all_goals first | (exfalso; omega) | skip
        all_goals refine loopK.nn (m3 - 1) (by omega) (by repeat (first | refine Ag.upd rfl ?_ | exact Ag.hv | refine Ag.hv2 (fun i hi => by simp at hi ⊢; omega) ?_)) ⟨k + 1, true, _, _, ?_, rfl, by omega, o4, hKI2, ?_, (fun h => absurd h (by decide)), rfl⟩
        all_goals first | (show Value.int .i64 _ = _; congr 1; done) | (simp only [if_true]; omega)
      · have habs : absI la = -la := by unfold absI; omega
        rw [habs] at hlast
        have hzs := zc_set ks2 (-la).toNat (-1) (by omega) hlast.2 (by decide)
        have hKI2 := hKI.set (v := -la) (x := -1) ⟨by omega, by omega⟩ hlast.2 (.inr rfl) (fun hq => by have := hlit hq; unfold litT at this; rw [if_neg (by omega)] at this; rw [show e (-la) = false by simpa using this]; rfl)
        repeat' first
          | (refine J.isJ ?_; first | (first | (refine J.o 3 ?_; refine J.iJ hΓ ?_ (hs := hsk) (hlen := hkl) (h0 := by omega) (h1 := by omega)) | (refine J.o 5 ?_; refine J.tT (-1 : Int) 0 hΓ (fun h4 o4 => ?_) (hi := by omega))) | (first | (refine J.o 0 ?_; refine J.ev' hΓ ?_) | refine J.nil ?_ | refine J.kd ?_ | (refine J.o 4 ?_; first | refine J.e0 hΓ ?_ | refine J.lT default hΓ ?_ | refine J.e1 hΓ ?_ | refine J.e2 hΓ ?_ | refine J.lR hΓ ?_) | (refine J.o 3 ?_; first | refine J.iA hΓ ?_ | refine J.iJ hΓ ?_ | refine J.fP hΓ ?_ | refine J.iC hΓ ?_ | refine J.ev' hΓ ?_) | (refine J.o 1 ?_; first | refine J.ad ?_ | refine J.sb ?_ | refine J.ng ?_ | refine J.mu ?_) | (refine J.o 5 ?_; first | refine J.t0 hΓ ?_ | refine J.t1 hΓ ?_ | refine J.t2 hΓ ?_) | (refine J.o 6 ?_; refine J.bx (fun _ => ?_)) | (refine J.o 7 ?_; refine J.al hΓ (fun _ => ?_)) | (refine J.o 8 ?_; refine J.bd hΓ ?_) | (refine J.o 9 ?_; refine J.bl hΓ (fun _ => ?_)) | (refine J.o 10 ?_; first | refine J.ls hΓ ?_ | refine J.ev' hΓ ?_) | (refine J.o 11 ?_; refine J.ev' hΓ ?_) | refine J.kn ?_) | ((fail_if_success refine J.wt ?_); refine J.gc rfl rfl (fun hc => ?_) (fun hc => ?_) <;> ((try simp only [decide_eq_true_eq, decide_eq_false_iff_not, beq_iff_eq, beq_eq_false_iff_ne, bne_iff_ne, bne_eq_false_iff_eq, Bool.not_eq_true', Bool.not_eq_false', Bool.not_eq_true, Bool.not_eq_false] at hc) <;> first | (first | (exact absurd rfl hc) | (exfalso; omega) | (exact absurd (hc.symm.trans (by assumption : _ = false)) (by decide)) | (exact absurd (hc.symm.trans (by assumption : _ = true)) (by decide))) | skip)))
          | (first | refine JC.seq ?_ | refine JC.region ?_ | refine JC.block ?_ | refine JC.ret ?_ | refine JC.exit ?_ | refine JC.skip ?_ | refine thenK.nn ?_ | refine thenK.r ?_ | refine thenK.x ?_ | refine blockK.nn ?_ | refine blockK.r ?_ | refine blockK.hit rfl ?_ | refine blockK.miss rfl ?_ | refine JC.condT rfl ?_ | refine JC.condF rfl ?_ | (refine JC.cond rfl (fun hc => ?_) (fun hc => ?_) <;> ((try simp only [decide_eq_true_eq, decide_eq_false_iff_not, beq_iff_eq, beq_eq_false_iff_ne, bne_iff_ne, bne_eq_false_iff_eq, Bool.not_eq_true', Bool.not_eq_false', Bool.not_eq_true, Bool.not_eq_false] at hc) <;> first | (first | (exact absurd rfl hc) | (exfalso; omega) | (exact absurd (hc.symm.trans (by assumption : _ = false)) (by decide)) | (exact absurd (hc.symm.trans (by assumption : _ = true)) (by decide))) | skip)) | refine drawK.nn ?_ | refine roundK.nn ?_ | refine roundK.r ?_ | refine roundK.x ?_ | refine loopK.r ?_ | refine loopK.x ?_)
          | (fail)
          | fail
        all_goals first | (exfalso; omega) | skip
        all_goals refine loopK.nn (m3 - 1) (by omega) (by repeat (first | refine Ag.upd rfl ?_ | exact Ag.hv | refine Ag.hv2 (fun i hi => by simp at hi ⊢; omega) ?_)) ⟨k + 1, true, _, _, ?_, rfl, by omega, o4, hKI2, ?_, (fun h => absurd h (by decide)), rfl⟩
        all_goals first | (show Value.int .i64 _ = _; congr 1; done) | (simp only [if_true]; omega)
theorem enc_err {n : Int} {l : List PS} (h : (encR n l).1 ≠ 0) : (encR n l).2.1 = 0 ∧ (encR n l).2.2 = [] := by
  unfold encR at h ⊢
  split
  · exact ⟨rfl, rfl⟩
  rw [if_neg (by assumption)] at h
  split
  · exact ⟨rfl, rfl⟩
  rw [if_neg (by assumption)] at h
  split
  · exact ⟨rfl, rfl⟩
  rw [if_neg (by assumption)] at h
  cases hr : runE l n [] with
  | none => exact ⟨rfl, rfl⟩
  | some r => rw [hr] at h; exact absurd rfl h
theorem modT_congr {b b' : Int → Bool} {N : Int} {T : List (List Int)} (hok : OkT N T) (h : ∀ v, 1 ≤ v → v ≤ N → b v = b' v) (hm : modT b T) : modT b' T := fun c hc => by
  obtain ⟨x, hx, ht⟩ := hm c hc
  exact ⟨x, hx, by rw [← litT_congr h ((hok c hc).v x hx)]; exact ht⟩
theorem light40 {l : List SV} (h : lightP l = true) : (∀ s, s ∈ l → s.cs.length ≤ 100 ∧ s.ls.length ≤ 100) ∧ l.length ≤ 40 := by
  unfold lightP at h
  simpa only [Bool.and_eq_true, List.all_eq_true, decide_eq_true_eq] using h
set_option maxRecDepth 20000 in
theorem check_128 {cs ls : List Int} {least n : Int} (h : checkS cs ls least n = 0) : checkS cs ls least 128 = 0 := by
  obtain ⟨hn, hlen, h64, hlit, habs, hl1, hl2⟩ := check_ok h
  unfold checkS
  rw [if_neg (by omega), if_neg (by omega), if_neg (by omega), if_neg ?_, if_neg (by omega)]
  rw [Bool.not_eq_true, List.any_eq_false]
  intro x hx
  have := hlit x hx
  rw [validB_ok (by omega)]
  decide
theorem all_holds {st : Nat × Nat} {ss : List SV} : ss.all (evS st) = true ↔ ∀ x, x ∈ ss.map psV → holdP (hasB st) x := by
  rw [List.all_eq_true]
  constructor
  · intro h x hx
    obtain ⟨s, hs, rfl⟩ := List.mem_map.1 hx
    have h1 : s.least ≤ valS (hasB st) s.cs s.ls := of_decide_eq_true (h s hs)
    exact h1
  · intro h s hs
    have h1 : (psV s).2.2 ≤ valS (hasB st) (psV s).1 (psV s).2.1 := h _ (List.mem_map_of_mem hs)
    exact decide_eq_true h1
set_option maxHeartbeats 16000000 in
theorem extends_walk (n : Int) (a : Option Addr) (cap : Nat) (ss : List SV) (s : Nat × Nat) (hst : okS s) (h : Heap) (hs : SumsIn a ss h) (hl : ss.length ≤ 9223372036854775807) (w : World) (hw : Holds h w) :
    Calls Try.prog 12 #[.int .i64 n, .slice a ss.length cap, sv s] w fun e w' => e = .returned (.bool true) ∧ Below w.heap.size w w' := by
  have q0 : ∀ L, RdH h L h := fun L => RdH.old fun _ hh => hh
  have cL := fun w hw => light_any a cap ss h hs hl w hw
  refine calls_of_JC (R := h) Try.func12 Try.ntmps12 rfl rfl (hw) ?_
  cases hlt : lightP ss with
  | false =>
    rw [hlt] at cL
    repeat' first
      | (refine J.isJ ?_; first | (first | (refine J.fc 13 ?_; refine J.call0 eLight rfl rfl (fun w hw => cL w (hw.rdH (q0 _))) ?_) | (refine J.fc 14 ?_; refine J.call0 eWorks rfl rfl (fun w hw => works_any w) ?_)) | (first | (refine J.o 0 ?_; refine J.ev' hΓ ?_) | refine J.nil ?_ | refine J.kd ?_ | (refine J.o 4 ?_; first | refine J.e0 hΓ ?_ | refine J.lT default hΓ ?_ | refine J.e1 hΓ ?_ | refine J.e2 hΓ ?_ | refine J.lR hΓ ?_) | (refine J.o 3 ?_; first | refine J.iA hΓ ?_ | refine J.iJ hΓ ?_ | refine J.fP hΓ ?_ | refine J.iC hΓ ?_ | refine J.ev' hΓ ?_) | (refine J.o 1 ?_; first | refine J.ad ?_ | refine J.sb ?_ | refine J.ng ?_ | refine J.mu ?_) | (refine J.o 5 ?_; first | refine J.t0 hΓ ?_ | refine J.t1 hΓ ?_ | refine J.t2 hΓ ?_) | (refine J.o 6 ?_; refine J.bx (fun _ => ?_)) | (refine J.o 7 ?_; refine J.al hΓ (fun _ => ?_)) | (refine J.o 8 ?_; refine J.bd hΓ ?_) | (refine J.o 9 ?_; refine J.bl hΓ (fun _ => ?_)) | (refine J.o 10 ?_; first | refine J.ls hΓ ?_ | refine J.ev' hΓ ?_) | (refine J.o 11 ?_; refine J.ev' hΓ ?_) | refine J.kn ?_) | ((fail_if_success refine J.wt ?_); refine J.gc rfl rfl (fun hc => ?_) (fun hc => ?_) <;> ((try simp only [decide_eq_true_eq, decide_eq_false_iff_not, beq_iff_eq, beq_eq_false_iff_ne, bne_iff_ne, bne_eq_false_iff_eq, Bool.not_eq_true', Bool.not_eq_false', Bool.not_eq_true, Bool.not_eq_false] at hc) <;> first | (first | (exact absurd rfl hc) | (exfalso; omega) | (exact absurd (hc.symm.trans (by assumption : _ = false)) (by decide)) | (exact absurd (hc.symm.trans (by assumption : _ = true)) (by decide))) | skip)))
      | (first | refine JC.seq ?_ | refine JC.region ?_ | refine JC.block ?_ | refine JC.ret ?_ | refine JC.exit ?_ | refine JC.skip ?_ | refine thenK.nn ?_ | refine thenK.r ?_ | refine thenK.x ?_ | refine blockK.nn ?_ | refine blockK.r ?_ | refine blockK.hit rfl ?_ | refine blockK.miss rfl ?_ | refine JC.condT rfl ?_ | refine JC.condF rfl ?_ | (refine JC.cond rfl (fun hc => ?_) (fun hc => ?_) <;> ((try simp only [decide_eq_true_eq, decide_eq_false_iff_not, beq_iff_eq, beq_eq_false_iff_ne, bne_iff_ne, bne_eq_false_iff_eq, Bool.not_eq_true', Bool.not_eq_false', Bool.not_eq_true, Bool.not_eq_false] at hc) <;> first | (first | (exact absurd rfl hc) | (exfalso; omega) | (exact absurd (hc.symm.trans (by assumption : _ = false)) (by decide)) | (exact absurd (hc.symm.trans (by assumption : _ = true)) (by decide))) | skip)) | (refine JC.drawA [] (by kernel_rfl) (by kernel_rfl) ?_) | refine drawK.nn ?_ | refine roundK.nn ?_ | refine roundK.r ?_ | refine roundK.x ?_ | refine loopK.r ?_ | refine loopK.x ?_)
      | (fail)
      | fail
    all_goals first | (exfalso; omega) | exact ret1f rfl rfl rfl (fun w1 hw => ⟨rfl, hw.below⟩)
  | true =>
    rw [hlt] at cL
    obtain ⟨hsz, h40⟩ := light40 hlt
    have cE : ∀ w, Holds h w → Calls Try.prog 20 #[.int .i64 n, .slice a ss.length cap] w (Gives (fun v g => ∃ a cap vs, v = .tuple #[.agg ⟨[.int .i64 (encR n (ss.map psV)).2.1, .slice a vs.length cap]⟩, .int .i64 (encR n (ss.map psV)).1] ∧ LLS a vs g ∧ vs.map (·.l) = (encR n (ss.map psV)).2.2) w) := fun w hw => by
      refine (encode_any n a cap ss h hs (by omega) w hw).mono ?_
      rintro e w' ⟨v, g, h1, h2, h3, h4, h5, tv, g0, g1, h6, rfl, h8⟩
      obtain ⟨aa, ka, vs, rfl, lls, hvs⟩ := encR_lls h8
      exact ⟨v, _, h1, h2, h3, h4, h5, aa, ka, vs, h6, lls, hvs⟩
    by_cases he : (encR n (ss.map psV)).1 = 0
    case neg =>
      have hee := enc_err he
      rw [hee.1, hee.2] at cE
      generalize (encR n (ss.map psV)).1 = ec at *
      repeat' first
        | (refine J.isJ ?_; first | (first | (refine J.fc 13 ?_; refine J.call0 eLight rfl rfl (fun w hw => cL w (hw.rdH (q0 _))) ?_) | (refine J.fc 20 ?_; refine J.call1 eEncode rfl rfl (fun w hw => cE w (hw.rdH (q0 _))) ?_; rintro _ hgA ⟨aA, kA, vA, rfl, llA, hvA⟩; obtain rfl : vA = [] := List.map_eq_nil_iff.1 hvA) | (refine J.fc 14 ?_; refine J.call0 eWorks rfl rfl (fun w hw => works_any w) ?_)) | (first | (refine J.o 0 ?_; refine J.ev' hΓ ?_) | refine J.nil ?_ | refine J.kd ?_ | (refine J.o 4 ?_; first | refine J.e0 hΓ ?_ | refine J.lT default hΓ ?_ | refine J.e1 hΓ ?_ | refine J.e2 hΓ ?_ | refine J.lR hΓ ?_) | (refine J.o 3 ?_; first | refine J.iA hΓ ?_ | refine J.iJ hΓ ?_ | refine J.fP hΓ ?_ | refine J.iC hΓ ?_ | refine J.ev' hΓ ?_) | (refine J.o 1 ?_; first | refine J.ad ?_ | refine J.sb ?_ | refine J.ng ?_ | refine J.mu ?_) | (refine J.o 5 ?_; first | refine J.t0 hΓ ?_ | refine J.t1 hΓ ?_ | refine J.t2 hΓ ?_) | (refine J.o 6 ?_; refine J.bx (fun _ => ?_)) | (refine J.o 7 ?_; refine J.al hΓ (fun _ => ?_)) | (refine J.o 8 ?_; refine J.bd hΓ ?_) | (refine J.o 9 ?_; refine J.bl hΓ (fun _ => ?_)) | (refine J.o 10 ?_; first | refine J.ls hΓ ?_ | refine J.ev' hΓ ?_) | (refine J.o 11 ?_; refine J.ev' hΓ ?_) | refine J.kn ?_) | ((fail_if_success refine J.wt ?_); refine J.gc rfl rfl (fun hc => ?_) (fun hc => ?_) <;> ((try simp only [decide_eq_true_eq, decide_eq_false_iff_not, beq_iff_eq, beq_eq_false_iff_ne, bne_iff_ne, bne_eq_false_iff_eq, Bool.not_eq_true', Bool.not_eq_false', Bool.not_eq_true, Bool.not_eq_false] at hc) <;> first | (first | (exact absurd rfl hc) | (exfalso; omega) | (exact absurd (hc.symm.trans (by assumption : _ = false)) (by decide)) | (exact absurd (hc.symm.trans (by assumption : _ = true)) (by decide))) | skip)))
        | (first | refine JC.seq ?_ | refine JC.region ?_ | refine JC.block ?_ | refine JC.ret ?_ | refine JC.exit ?_ | refine JC.skip ?_ | refine thenK.nn ?_ | refine thenK.r ?_ | refine thenK.x ?_ | refine blockK.nn ?_ | refine blockK.r ?_ | refine blockK.hit rfl ?_ | refine blockK.miss rfl ?_ | refine JC.condT rfl ?_ | refine JC.condF rfl ?_ | (refine JC.cond rfl (fun hc => ?_) (fun hc => ?_) <;> ((try simp only [decide_eq_true_eq, decide_eq_false_iff_not, beq_iff_eq, beq_eq_false_iff_ne, bne_iff_ne, bne_eq_false_iff_eq, Bool.not_eq_true', Bool.not_eq_false', Bool.not_eq_true, Bool.not_eq_false] at hc) <;> first | (first | (exact absurd rfl hc) | (exfalso; omega) | (exact absurd (hc.symm.trans (by assumption : _ = false)) (by decide)) | (exact absurd (hc.symm.trans (by assumption : _ = true)) (by decide))) | skip)) | (refine JC.drawA [] (by kernel_rfl) (by kernel_rfl) ?_) | refine drawK.nn ?_ | refine roundK.nn ?_ | refine roundK.r ?_ | refine roundK.x ?_ | refine loopK.r ?_ | refine loopK.x ?_)
        | (fail)
        | fail
      all_goals first | (exfalso; omega) | exact ret1f rfl rfl rfl (fun w1 hw => ⟨rfl, hw.below⟩)
    obtain ⟨hn, hl4, hc, _⟩ := enc_zero he
    have hval := valid_ok he
    have hem := fun b => enc_mod he b
    obtain ⟨q, rfl⟩ : ∃ q : Nat, n = (q : Int) := ⟨n.toNat, by omega⟩
    obtain ⟨M, hM⟩ : ∃ M : Nat, (encR (q : Int) (ss.map psV)).2.1 = (M : Int) := ⟨_, (hem (hasB s)).2.1.trans (by rw [← Int.natCast_add])⟩
    have hMb : q ≤ M ∧ M ≤ 128 := by have := (hem (hasB s)).2; omega
    have hcs : ∀ x, x ∈ ss → checkS x.cs x.ls x.least 128 = 0 := fun x hx => check_128 (hc _ (List.mem_map_of_mem hx))
    have hst' : okS (cutS s (allS q)) := okS_cut hst
    have hsn : ∀ u, hasB (cutS s (allS q)) u = true → 1 ≤ u ∧ u ≤ q := fun u hu => by
      rw [has_cut, Bool.and_eq_true] at hu
      exact (has_all q u (by omega)).1 hu.2
    have cA := fun w => all_any q (by omega) w
    have cC := fun w => cut_any s (allS q) hst (okS_all q) w
    generalize cutS s (allS q) = st at *
    have hext := enc_ext he (hasB st)
    have hee : ∀ v, v ≤ (q : Int) → extB (hasB st) q (ss.map psV) v = hasB st v := fun v hv => if_pos hv
    have cH := fun w hw => holdsLaw_any a cap ss st hst' h hs (by omega) hcs w hw
    have hah := all_holds (st := st) (ss := ss)
    have cP := fun (aA : Option Addr) (kA : Nat) (vA : List HV) (hgA : Heap) (llA : LLS aA vA hgA) (hvA : vA.map (·.l) = (encR (q : Int) (ss.map psV)).2.2) w hw => propagate_any he M hM aA kA vA hgA llA.r hvA (by rw [hvA, ← hM]; exact hval.t) (by have := congrArg List.length hvA; rw [List.length_map] at this; have := hval.len; omega) st hst' (fun u hu => (hsn u hu).2) w hw
    have hcl : ∀ (aA : Option Addr) (kA : Nat) (vA : List HV) (hgA : Heap), LLS aA vA hgA → vA.map (·.l) = (encR (q : Int) (ss.map psV)).2.2 → LLR aA vA hgA ∧ OkT (M : Int) (vA.map (·.l)) ∧ vA.length ≤ 4096 := fun aA kA vA hgA llA hvA => ⟨llA.r, by rw [hvA, ← hM]; exact hval.t, by have := congrArg List.length hvA; rw [List.length_map] at this; have := hval.len; omega⟩
    rw [he, hM] at cE
    have hvT := hval.t
    rw [hM] at hvT
    by_cases hQ : ∀ x, x ∈ ss.map psV → holdP (hasB st) x
    case neg =>
      rw [show ss.all (evS st) = false by cases hb : ss.all (evS st) with
        | false => rfl
        | true => exact absurd (hah.1 hb) hQ] at cH
      repeat' first
        | (refine J.isJ ?_; first | (first | (refine J.fc 13 ?_; refine J.call0 eLight rfl rfl (fun w hw => cL w (hw.rdH (q0 _))) ?_) | (refine J.fc 20 ?_; refine J.call1 eEncode rfl rfl (fun w hw => cE w (hw.rdH (q0 _))) ?_; rintro _ hgA ⟨aA, kA, vA, rfl, llA, hvA⟩; have hcp := hcl aA kA vA hgA llA hvA) | (refine J.fc 14 ?_; refine J.call0 eWorks rfl rfl (fun w hw => works_any w) ?_) | (refine J.fc 30 ?_; refine J.call0 eCheck05 rfl rfl (fun w hw => check05_any M aA kA vA hgA hcp.1 hcp.2.1 (by omega) hcp.2.2 w (hw.rdH (by first | exact RdH.hd | exact RdH.hd.tl | exact RdH.hd.tl.tl | exact RdH.hd.tl.tl.tl | exact RdH.hd.tl.tl.tl.tl | exact RdH.hd.tl.tl.tl.tl.tl | exact RdH.hd.tl.tl.tl.tl.tl.tl | exact RdH.hd.tl.tl.tl.tl.tl.tl.tl | exact RdH.old (fun _ hh => hh) | assumption))) ?_) | (refine J.fc 28 ?_; refine J.call0 eAll rfl rfl (fun w hw => cA w) ?_) | (refine J.fc 27 ?_; refine J.call0 eCut rfl rfl (fun w hw => cC w) ?_) | (refine J.fc 31 ?_; refine J.call1 ePropagate rfl rfl (fun w hw => cP aA kA vA hgA llA hvA w (hw.rdH (by first | exact RdH.hd | exact RdH.hd.tl | exact RdH.hd.tl.tl | exact RdH.hd.tl.tl.tl | exact RdH.hd.tl.tl.tl.tl | exact RdH.hd.tl.tl.tl.tl.tl | exact RdH.hd.tl.tl.tl.tl.tl.tl | exact RdH.hd.tl.tl.tl.tl.tl.tl.tl | exact RdH.old (fun _ hh => hh) | assumption))) ?_; rintro _ gP ⟨st2, okb, rfl, hT, hF⟩; obtain rfl : okb = false := by cases okb; rfl; exact absurd (hT rfl).1 hQ) | (refine J.o 4 ?_; first | refine J.e3 hΓ ?_ | refine J.e4 hΓ ?_) | (refine J.fc 29 ?_; refine J.call0 eHoldsLaw rfl rfl (fun w hw => cH w (hw.rdH (q0 _))) ?_)) | (first | (refine J.o 0 ?_; refine J.ev' hΓ ?_) | refine J.nil ?_ | refine J.kd ?_ | (refine J.o 4 ?_; first | refine J.e0 hΓ ?_ | refine J.lT default hΓ ?_ | refine J.e1 hΓ ?_ | refine J.e2 hΓ ?_ | refine J.lR hΓ ?_) | (refine J.o 3 ?_; first | refine J.iA hΓ ?_ | refine J.iJ hΓ ?_ | refine J.fP hΓ ?_ | refine J.iC hΓ ?_ | refine J.ev' hΓ ?_) | (refine J.o 1 ?_; first | refine J.ad ?_ | refine J.sb ?_ | refine J.ng ?_ | refine J.mu ?_) | (refine J.o 5 ?_; first | refine J.t0 hΓ ?_ | refine J.t1 hΓ ?_ | refine J.t2 hΓ ?_) | (refine J.o 6 ?_; refine J.bx (fun _ => ?_)) | (refine J.o 7 ?_; refine J.al hΓ (fun _ => ?_)) | (refine J.o 8 ?_; refine J.bd hΓ ?_) | (refine J.o 9 ?_; refine J.bl hΓ (fun _ => ?_)) | (refine J.o 10 ?_; first | refine J.ls hΓ ?_ | refine J.ev' hΓ ?_) | (refine J.o 11 ?_; refine J.ev' hΓ ?_) | refine J.kn ?_) | ((fail_if_success refine J.wt ?_); refine J.gc rfl rfl (fun hc => ?_) (fun hc => ?_) <;> ((try simp only [decide_eq_true_eq, decide_eq_false_iff_not, beq_iff_eq, beq_eq_false_iff_ne, bne_iff_ne, bne_eq_false_iff_eq, Bool.not_eq_true', Bool.not_eq_false', Bool.not_eq_true, Bool.not_eq_false] at hc) <;> first | (first | (exact absurd rfl hc) | (exfalso; omega) | (exact absurd (hc.symm.trans (by assumption : _ = false)) (by decide)) | (exact absurd (hc.symm.trans (by assumption : _ = true)) (by decide))) | skip)))
        | (first | refine JC.seq ?_ | refine JC.region ?_ | refine JC.block ?_ | refine JC.ret ?_ | refine JC.exit ?_ | refine JC.skip ?_ | refine thenK.nn ?_ | refine thenK.r ?_ | refine thenK.x ?_ | refine blockK.nn ?_ | refine blockK.r ?_ | refine blockK.hit rfl ?_ | refine blockK.miss rfl ?_ | refine JC.condT rfl ?_ | refine JC.condF rfl ?_ | (refine JC.cond rfl (fun hc => ?_) (fun hc => ?_) <;> ((try simp only [decide_eq_true_eq, decide_eq_false_iff_not, beq_iff_eq, beq_eq_false_iff_ne, bne_iff_ne, bne_eq_false_iff_eq, Bool.not_eq_true', Bool.not_eq_false', Bool.not_eq_true, Bool.not_eq_false] at hc) <;> first | (first | (exact absurd rfl hc) | (exfalso; omega) | (exact absurd (hc.symm.trans (by assumption : _ = false)) (by decide)) | (exact absurd (hc.symm.trans (by assumption : _ = true)) (by decide))) | skip)) | (refine JC.drawA [] (by kernel_rfl) (by kernel_rfl) ?_) | refine drawK.nn ?_ | refine roundK.nn ?_ | refine roundK.r ?_ | refine roundK.x ?_ | refine loopK.r ?_ | refine loopK.x ?_)
        | (fail)
        | fail
      all_goals first | (exfalso; omega) | skip
      all_goals exact ret1f rfl rfl rfl (fun w1 hw => ⟨rfl, hw.below⟩)
    rw [hah.2 hQ] at cH
    have hmod := hext hQ
    have hT2 : ∀ st2 : Nat × Nat, ((∀ x, x ∈ ss.map psV → holdP (hasB st) x) ∧ okS st2 ∧ ∀ u, hasB st2 u = (decide (1 ≤ u ∧ u ≤ (M : Int)) && extB (hasB st) q (ss.map psV) u)) → okS st2 ∧ (∀ u, hasB st2 u = true → u ≤ M) ∧ modT (hasB st2) (encR (q : Int) (ss.map psV)).2.2 ∧ cutS st2 (allS q) = st := fun st2 ⟨_, ho2, hu2⟩ => by
      refine ⟨ho2, fun u hu => ?_, modT_congr hvT (fun v h1 h2 => ?_) hmod, okS_ext (okS_cut ho2) hst' fun u => ?_⟩
      · rw [hu2 u, Bool.and_eq_true] at hu
        exact (of_decide_eq_true hu.1).2
      · rw [hu2 v, decide_eq_true ⟨h1, h2⟩]
        rfl
      · rw [has_cut, hu2 u]
        cases ha : hasB (allS q) u with
        | true =>
          have hq := (has_all q u (by omega)).1 ha
          rw [decide_eq_true ⟨hq.1, by omega⟩, hee u hq.2, Bool.and_true, Bool.true_and]
        | false =>
          rw [Bool.and_false]
          cases hu : hasB st u with
          | false => rfl
          | true =>
            rw [(has_all q u (by omega)).2 (hsn u hu)] at ha
            cases ha
    repeat' first
      | (refine J.isJ ?_; first | (first | (refine J.fc 13 ?_; refine J.call0 eLight rfl rfl (fun w hw => cL w (hw.rdH (q0 _))) ?_) | (refine J.fc 20 ?_; refine J.call1 eEncode rfl rfl (fun w hw => cE w (hw.rdH (q0 _))) ?_; rintro _ hgA ⟨aA, kA, vA, rfl, llA, hvA⟩; have hcp := hcl aA kA vA hgA llA hvA) | (refine J.fc 14 ?_; refine J.call0 eWorks rfl rfl (fun w hw => works_any w) ?_) | (refine J.fc 30 ?_; refine J.call0 eCheck05 rfl rfl (fun w hw => check05_any M aA kA vA hgA hcp.1 hcp.2.1 (by omega) hcp.2.2 w (hw.rdH (by first | exact RdH.hd | exact RdH.hd.tl | exact RdH.hd.tl.tl | exact RdH.hd.tl.tl.tl | exact RdH.hd.tl.tl.tl.tl | exact RdH.hd.tl.tl.tl.tl.tl | exact RdH.hd.tl.tl.tl.tl.tl.tl | exact RdH.hd.tl.tl.tl.tl.tl.tl.tl | exact RdH.old (fun _ hh => hh) | assumption))) ?_) | (refine J.fc 28 ?_; refine J.call0 eAll rfl rfl (fun w hw => cA w) ?_) | (refine J.fc 27 ?_; refine J.call0 eCut rfl rfl (fun w hw => cC w) ?_) | (refine J.fc 31 ?_; refine J.call1 ePropagate rfl rfl (fun w hw => cP aA kA vA hgA llA hvA w (hw.rdH (by first | exact RdH.hd | exact RdH.hd.tl | exact RdH.hd.tl.tl | exact RdH.hd.tl.tl.tl | exact RdH.hd.tl.tl.tl.tl | exact RdH.hd.tl.tl.tl.tl.tl | exact RdH.hd.tl.tl.tl.tl.tl.tl | exact RdH.hd.tl.tl.tl.tl.tl.tl.tl | exact RdH.old (fun _ hh => hh) | assumption))) ?_; rintro _ gP ⟨st2, okb, rfl, hT, hF⟩; obtain rfl : okb = true := by cases okb; exact absurd hQ (hF rfl); rfl) | (refine J.o 4 ?_; first | refine J.e3 hΓ ?_ | refine J.e4 hΓ ?_) | (refine J.fc 29 ?_; refine J.call0 eHoldsLaw rfl rfl (fun w hw => cH w (hw.rdH (q0 _))) ?_)) | (first | (refine J.o 0 ?_; refine J.ev' hΓ ?_) | refine J.nil ?_ | refine J.kd ?_ | (refine J.o 4 ?_; first | refine J.e0 hΓ ?_ | refine J.lT default hΓ ?_ | refine J.e1 hΓ ?_ | refine J.e2 hΓ ?_ | refine J.lR hΓ ?_) | (refine J.o 3 ?_; first | refine J.iA hΓ ?_ | refine J.iJ hΓ ?_ | refine J.fP hΓ ?_ | refine J.iC hΓ ?_ | refine J.ev' hΓ ?_) | (refine J.o 1 ?_; first | refine J.ad ?_ | refine J.sb ?_ | refine J.ng ?_ | refine J.mu ?_) | (refine J.o 5 ?_; first | refine J.t0 hΓ ?_ | refine J.t1 hΓ ?_ | refine J.t2 hΓ ?_) | (refine J.o 6 ?_; refine J.bx (fun _ => ?_)) | (refine J.o 7 ?_; refine J.al hΓ (fun _ => ?_)) | (refine J.o 8 ?_; refine J.bd hΓ ?_) | (refine J.o 9 ?_; refine J.bl hΓ (fun _ => ?_)) | (refine J.o 10 ?_; first | refine J.ls hΓ ?_ | refine J.ev' hΓ ?_) | (refine J.o 11 ?_; refine J.ev' hΓ ?_) | refine J.kn ?_) | ((fail_if_success refine J.wt ?_); refine J.gc rfl rfl (fun hc => ?_) (fun hc => ?_) <;> ((try simp only [decide_eq_true_eq, decide_eq_false_iff_not, beq_iff_eq, beq_eq_false_iff_ne, bne_iff_ne, bne_eq_false_iff_eq, Bool.not_eq_true', Bool.not_eq_false', Bool.not_eq_true, Bool.not_eq_false] at hc) <;> first | (first | (exact absurd rfl hc) | (exfalso; omega) | (exact absurd (hc.symm.trans (by assumption : _ = false)) (by decide)) | (exact absurd (hc.symm.trans (by assumption : _ = true)) (by decide))) | skip)))
      | (first | refine JC.seq ?_ | refine JC.region ?_ | refine JC.block ?_ | refine JC.ret ?_ | refine JC.exit ?_ | refine JC.skip ?_ | refine thenK.nn ?_ | refine thenK.r ?_ | refine thenK.x ?_ | refine blockK.nn ?_ | refine blockK.r ?_ | refine blockK.hit rfl ?_ | refine blockK.miss rfl ?_ | refine JC.condT rfl ?_ | refine JC.condF rfl ?_ | (refine JC.cond rfl (fun hc => ?_) (fun hc => ?_) <;> ((try simp only [decide_eq_true_eq, decide_eq_false_iff_not, beq_iff_eq, beq_eq_false_iff_ne, bne_iff_ne, bne_eq_false_iff_eq, Bool.not_eq_true', Bool.not_eq_false', Bool.not_eq_true, Bool.not_eq_false] at hc) <;> first | (first | (exact absurd rfl hc) | (exfalso; omega) | (exact absurd (hc.symm.trans (by assumption : _ = false)) (by decide)) | (exact absurd (hc.symm.trans (by assumption : _ = true)) (by decide))) | skip)) | (refine JC.drawA [] (by kernel_rfl) (by kernel_rfl) ?_) | refine drawK.nn ?_ | refine roundK.nn ?_ | refine roundK.r ?_ | refine roundK.x ?_ | refine loopK.r ?_ | refine loopK.x ?_)
      | (fail)
      | fail
    all_goals first | (exfalso; omega) | skip
    obtain ⟨ho2, hu2, hm2, hcut2⟩ := hT2 st2 (hT rfl)
    have cC2 := fun w => cut_any st2 (allS q) ho2 (okS_all q) w
    rw [hcut2] at cC2
    have cV := fun w hw => evalT_any M aA kA vA st2 ho2 hgA hcp.1 hcp.2.1 hMb.2 hcp.2.2 hu2 (by rw [hvA]; exact hm2) w hw
    repeat' first
      | (refine J.isJ ?_; first | (first | (refine J.fc 32 ?_; refine J.call0 eEvalT rfl rfl (fun w hw => cV w (hw.rdH (by first | exact RdH.hd | exact RdH.hd.tl | exact RdH.hd.tl.tl | exact RdH.hd.tl.tl.tl | exact RdH.hd.tl.tl.tl.tl | exact RdH.hd.tl.tl.tl.tl.tl | exact RdH.hd.tl.tl.tl.tl.tl.tl | exact RdH.hd.tl.tl.tl.tl.tl.tl.tl | exact RdH.old (fun _ hh => hh) | assumption))) ?_) | (refine J.fc 28 ?_; refine J.call0 eAll rfl rfl (fun w hw => cA w) ?_) | (refine J.fc 27 ?_; refine J.call0 eCut rfl rfl (fun w hw => cC2 w) ?_) | (refine J.o 11 ?_; refine J.eA (a := st) (b := st) hΓ ?_) | (refine J.o 4 ?_; first | refine J.e3 hΓ ?_ | refine J.e4 hΓ ?_) | (refine J.fc 14 ?_; refine J.call0 eWorks rfl rfl (fun w hw => works_any w) ?_)) | (first | (refine J.o 0 ?_; refine J.ev' hΓ ?_) | refine J.nil ?_ | refine J.kd ?_ | (refine J.o 4 ?_; first | refine J.e0 hΓ ?_ | refine J.lT default hΓ ?_ | refine J.e1 hΓ ?_ | refine J.e2 hΓ ?_ | refine J.lR hΓ ?_) | (refine J.o 3 ?_; first | refine J.iA hΓ ?_ | refine J.iJ hΓ ?_ | refine J.fP hΓ ?_ | refine J.iC hΓ ?_ | refine J.ev' hΓ ?_) | (refine J.o 1 ?_; first | refine J.ad ?_ | refine J.sb ?_ | refine J.ng ?_ | refine J.mu ?_) | (refine J.o 5 ?_; first | refine J.t0 hΓ ?_ | refine J.t1 hΓ ?_ | refine J.t2 hΓ ?_) | (refine J.o 6 ?_; refine J.bx (fun _ => ?_)) | (refine J.o 7 ?_; refine J.al hΓ (fun _ => ?_)) | (refine J.o 8 ?_; refine J.bd hΓ ?_) | (refine J.o 9 ?_; refine J.bl hΓ (fun _ => ?_)) | (refine J.o 10 ?_; first | refine J.ls hΓ ?_ | refine J.ev' hΓ ?_) | (refine J.o 11 ?_; refine J.ev' hΓ ?_) | refine J.kn ?_) | ((fail_if_success refine J.wt ?_); refine J.gc rfl rfl (fun hc => ?_) (fun hc => ?_) <;> ((try simp only [decide_eq_true_eq, decide_eq_false_iff_not, beq_iff_eq, beq_eq_false_iff_ne, bne_iff_ne, bne_eq_false_iff_eq, Bool.not_eq_true', Bool.not_eq_false', Bool.not_eq_true, Bool.not_eq_false] at hc) <;> first | (first | (exact absurd rfl hc) | (exfalso; omega) | (exact absurd (hc.symm.trans (by assumption : _ = false)) (by decide)) | (exact absurd (hc.symm.trans (by assumption : _ = true)) (by decide))) | skip)))
      | (first | refine JC.seq ?_ | refine JC.region ?_ | refine JC.block ?_ | refine JC.ret ?_ | refine JC.exit ?_ | refine JC.skip ?_ | refine thenK.nn ?_ | refine thenK.r ?_ | refine thenK.x ?_ | refine blockK.nn ?_ | refine blockK.r ?_ | refine blockK.hit rfl ?_ | refine blockK.miss rfl ?_ | refine JC.condT rfl ?_ | refine JC.condF rfl ?_ | (refine JC.cond rfl (fun hc => ?_) (fun hc => ?_) <;> ((try simp only [decide_eq_true_eq, decide_eq_false_iff_not, beq_iff_eq, beq_eq_false_iff_ne, bne_iff_ne, bne_eq_false_iff_eq, Bool.not_eq_true', Bool.not_eq_false', Bool.not_eq_true, Bool.not_eq_false] at hc) <;> first | (first | (exact absurd rfl hc) | (exfalso; omega) | (exact absurd (hc.symm.trans (by assumption : _ = false)) (by decide)) | (exact absurd (hc.symm.trans (by assumption : _ = true)) (by decide))) | skip)) | (refine JC.drawA [] (by kernel_rfl) (by kernel_rfl) ?_) | refine drawK.nn ?_ | refine roundK.nn ?_ | refine roundK.r ?_ | refine roundK.x ?_ | refine loopK.r ?_ | refine loopK.x ?_)
      | (fail)
      | fail
    all_goals first | (exfalso; omega) | skip
    all_goals first | (exact absurd trivial hc) | skip
    all_goals exact ret1f rfl rfl rfl (fun w1 hw => ⟨rfl, hw.below⟩)
end Go.Proofs.Ytinpcimogojefaa
