/- tree.Forest of trees that are valid. -/
import Derived.Test.YtdiciemlbhkilaaDoorZg
namespace Go.Proofs.YtdiciemlbhkilaaDoor
open Go Go.Cx Go.RowKit
set_option linter.unusedVariables false
set_option linter.unusedSimpArgs false
set_option maxHeartbeats 4000000
attribute [local irreducible] J JC thenK blockK loopK roundK drawK retK QW Qt pel List.set Calls

theorem firstE_zero {n : Int} : ∀ {l : List TV}, firstE n l = 0 → (0 ≤ n ∧ n ≤ 128) ∧ ∀ t, t ∈ l → checkT t.ts n = 0
  | [], h => by
    rw [firstE_nil] at h
    by_cases hn : n < 0 ∨ 128 < n
    · rw [if_pos hn] at h; cases h
    · exact ⟨by omega, fun t ht => by cases ht⟩
  | t :: l, h => by
    have h' := firstE_drop n (t :: l) 0 (by simp)
    rw [List.drop_zero, h] at h'
    by_cases hc : checkT ((t :: l).getD 0 default).ts n = 0
    · rw [if_pos hc] at h'
      obtain ⟨h1, h2⟩ := firstE_zero (l := l) h'.symm
      refine ⟨h1, fun x hx => ?_⟩
      rcases List.mem_cons.1 hx with rfl | hx
      · exact hc
      · exact h2 x hx
    · rw [if_neg hc] at h'
      exact absurd h'.symm hc
/-- the trees that say true -/
def vt (s : Nat × Nat) (l : List TV) : Nat := votesOf (fun ts s => clsAt ts s 0) s l
theorem vt_take (s : Nat × Nat) (l : List TV) (k : Nat) (hk : k < l.length) : vt s (l.take (k + 1)) = vt s (l.take k) + if clsAt (l.getD k default).ts s 0 then 1 else 0 := by
  unfold vt; rw [← take_one l k hk, votes_app]
theorem vt_le (s : Nat × Nat) (l : List TV) (k : Nat) : vt s (l.take k) ≤ k := by
  have := votes_le (fun ts s => clsAt ts s 0) s (l.take k)
  rw [List.length_take] at this
  unfold vt; omega
theorem vt_nil (s : Nat × Nat) (l : List TV) : vt s (l.take 0) = 0 := rfl
attribute [local irreducible] vt
theorem step_vt (c : Bool) (q v : Nat) : (if c then decide (q ≤ v) else decide (q + 1 ≤ v)) = decide (q + 1 ≤ v + if c then 1 else 0) := by
  cases c <;> simp
theorem _root_.Go.Cx.H.mg2 {w0 w : World} {R a b : Heap} {L : List Heap} (h : H w0 R (a :: b :: L) w) : H w0 R ((a ++ b) :: L) w := by
  have e : ((a ++ b) :: L).flatten = (a :: b :: L).flatten := by simp
  exact ⟨h.below, h.old, by rw [e]; exact h.own, by rw [e]; exact h.new, by rw [e]; exact h.nodup⟩
theorem fin_cir {n : Int} {gs : List Gt} {hI hl3 : Heap} {aL : Option Addr} {capL x : Nat} {root : Int} (n0 : 0 ≤ n) (n1 : n ≤ 128) (st : St n gs hI) (hlen : gs.length + 1 ≤ 4096) (hr : 0 ≤ root ∧ root < gs.length) (ol : OwT encG 3 59 aL capL (gs ++ [(⟨4, 0, some ⟨x, 0, none⟩, 1, [root]⟩ : Gt)]) hl3) :
    Cir n aL (gs ++ [(⟨4, 0, some ⟨x, 0, none⟩, 1, [root]⟩ : Gt)]) (hl3 ++ ([(x, .cells ⟨[.int .i64 root]⟩ 3 (0, 0))] ++ hI)) := by
  have hok : OkG n gs.length (⟨4, 0, some ⟨x, 0, none⟩, 1, [root]⟩ : Gt) := ⟨.inr (.inr ⟨rfl, rfl⟩), .inr ⟨(by decide : (4 : Int) ≠ 2), rfl⟩, fun j hj => by
    match j, hj with
    | 0, _ => exact hr⟩
  have hsl : SlT encI 1 (some ⟨x, 0, none⟩) [root] [(x, .cells ⟨[.int .i64 root]⟩ 3 (0, 0))] := OwT.sl (e := 3) (cap := 1) ⟨fun _ => rfl, .inr ⟨x, _, rfl, rfl, rfl, Nat.le_refl _, rfl⟩⟩
  have st2 := st.snoc _ hok (hI' := hl3 ++ ([(x, .cells ⟨[.int .i64 root]⟩ 3 (0, 0))] ++ hI)) (slm hsl fun y hy => List.mem_append_right _ (List.mem_append_left _ hy)) (fun y hy => List.mem_append_right _ (List.mem_append_right _ hy))
  have hlx : (gs ++ [(⟨4, 0, some ⟨x, 0, none⟩, 1, [root]⟩ : Gt)]).length = gs.length + 1 := by simp
  exact ⟨n0, n1, by omega, by omega, slm ol.sl fun y hy => List.mem_append_left _ hy, st2.ins, st2.ok⟩
theorem fin_val (s : Nat × Nat) (gs : List Gt) (x : Nat) (root : Int) (b : Bool) (h : val s gs root = b) : (vals s (gs ++ [(⟨4, 0, some ⟨x, 0, none⟩, 1, [root]⟩ : Gt)])).getD ((gs ++ [(⟨4, 0, some ⟨x, 0, none⟩, 1, [root]⟩ : Gt)]).length - 1) default = b := by
  have h1 := val_last s gs (⟨4, 0, some ⟨x, 0, none⟩, 1, [root]⟩ : Gt)
  unfold val at h1
  rw [Int.toNat_natCast] at h1
  have hlx : (gs ++ [(⟨4, 0, some ⟨x, 0, none⟩, 1, [root]⟩ : Gt)]).length - 1 = gs.length := by simp
  rw [hlx, h1, ← h]
  simp [valueP, val]
theorem _root_.Go.Cx.H.fin {w0 w : World} {R a b c d e f : Heap} {L : List Heap} (h : H w0 R (a :: b :: c :: d :: e :: f :: L) w) : H w0 R ((c ++ (d ++ f)) :: a :: b :: e :: L) w :=
  ((((h.perm (bring_perm 5 _)).perm (bring_perm 4 _)).mg2).perm (bring_perm 3 _)).mg2
def g01 : List Gt := [⟨0, 0, none, 0, []⟩, ⟨1, 0, none, 0, []⟩]
theorem st01 (n : Int) : St n g01 [] := by
  refine ⟨fun i hi => ?_, fun i hi => ?_⟩
  · match i, hi with
    | 0, _ => exact ⟨.inl ⟨.inl rfl, rfl⟩, .inr ⟨(by decide : (0 : Int) ≠ 2), rfl⟩, fun j hj => by cases hj⟩
    | 1, _ => exact ⟨.inl ⟨.inr (.inl rfl), rfl⟩, .inr ⟨(by decide : (1 : Int) ≠ 2), rfl⟩, fun j hj => by cases hj⟩
  · match i, hi with
    | 0, _ => exact ⟨fun _ => rfl, fun i hi => by cases hi⟩
    | 1, _ => exact ⟨fun _ => rfl, fun i hi => by cases hi⟩
theorem base01 : Base g01 := ⟨Nat.le_refl _, fun s => by
  have e : g01 = [⟨0, 0, none, 0, []⟩] ++ [⟨1, 0, none, 0, []⟩] := rfl
  have e0 : ([⟨0, 0, none, 0, []⟩] : List Gt) = [] ++ [⟨0, 0, none, 0, []⟩] := rfl
  constructor
  · rw [e, val_left s _ _ 0 (by decide) (by decide), e0]
    have := val_last s [] ⟨0, 0, none, 0, []⟩
    rw [show (([] : List Gt).length : Int) = 0 from rfl] at this
    rw [this]; rfl
  · rw [e]
    have := val_last s [⟨0, 0, none, 0, []⟩] ⟨1, 0, none, 0, []⟩
    rw [show (([⟨0, 0, none, 0, []⟩] : List Gt).length : Int) = 1 from rfl] at this
    rw [this]; rfl⟩

set_option maxRecDepth 20000 in
theorem forest_ok (a : Option Addr) (cap : Nat) (l : List TV) (n : Int) (h : Heap) (hs : SlT encTV 1 a l h) (ht : ∀ t, t ∈ l → SlT encN 4 t.a t.ts h) (hl : l.length ≤ 9) (hsz : ∀ t, t ∈ l → t.ts.length ≤ 80) (he : firstE n l = 0) (w : World) (hw : Holds h w) :
    Calls Tryd.prog 10 #[.slice a l.length cap, .int .i64 n] w (Gives (fun v hc => ∃ (ac : Option Addr) (gs : List Gt) (cc : Nat), v = .tuple #[cv n ac gs.length cc, .int .i64 0] ∧ Cir n ac gs hc ∧ ∀ s, (vals s gs).getD (gs.length - 1) default = decide (l.length < 2 * vt s l)) w) := by
  obtain ⟨⟨n0, n1⟩, hch⟩ := firstE_zero he
  refine calls_of_JC (R := h) Tryd.func10 Tryd.ntmps10 rfl rfl (hw) ?_
  repeat' first
    | (refine J.isJ ?_; (first | (first | (refine J.o 0 ?_; refine J.ev' hΓ ?_) | refine J.nil ?_ | refine J.kd ?_ | (refine J.o 4 ?_; first | refine J.e0 hΓ ?_ | refine J.lT default hΓ ?_ | refine J.e1 hΓ ?_ | refine J.e2 hΓ ?_ | refine J.lR hΓ ?_) | (refine J.o 3 ?_; first | refine J.iA hΓ ?_ | refine J.iJ hΓ ?_ | refine J.fP hΓ ?_ | refine J.iC hΓ ?_ | refine J.ev' hΓ ?_) | (refine J.o 1 ?_; first | refine J.ad ?_ | refine J.ct ?_ | refine J.sb ?_ | refine J.mu ?_ | refine J.ng ?_ | refine J.qu ?_ | refine J.rm ?_ | refine J.s1 ?_ | refine J.sr ?_ | refine J.aW ?_ | refine J.oW ?_ | refine J.nW ?_) | (refine J.o 2 ?_; refine J.cv _ hΓ ?_) | (refine J.o 5 ?_; first | refine J.t0 hΓ ?_ | refine J.t1 hΓ ?_ | refine J.t2 hΓ ?_ | refine J.tT _ default hΓ (fun _ _ => ?_) | refine J.tT1 _ default hΓ (fun _ _ => ?_) | refine J.tT2 _ default hΓ (fun _ _ => ?_) | refine J.tT3 _ default hΓ (fun _ _ => ?_)) | (refine J.o 6 ?_; refine J.bx (fun _ => ?_)) | (refine J.o 7 ?_; refine J.al hΓ (fun _ => ?_)) | (refine J.o 8 ?_; refine J.bd hΓ ?_) | (refine J.o 9 ?_; refine J.bl hΓ (fun _ => ?_)) | (refine J.o 10 ?_; first | refine J.ls hΓ ?_ | refine J.ev' hΓ ?_) | (refine J.o 11 ?_; first | refine J.eS ?_ | refine J.xS ?_ | refine J.ev' hΓ ?_ | refine J.nT hΓ ?_) | (refine J.o 12 ?_; refine J.ix hΓ ?_) | (refine J.o 13 ?_; first | refine J.sL hΓ ?_ | refine J.sH hΓ ?_) | (refine J.o 14 ?_; refine J.mf hΓ ?_) | refine J.kn ?_) | ((fail_if_success refine J.wt ?_); refine J.gc rfl rfl (fun hc => ?_) (fun hc => ?_) <;> ((try simp only [decide_eq_true_eq, decide_eq_false_iff_not, beq_iff_eq, beq_eq_false_iff_ne, bne_iff_ne, bne_eq_false_iff_eq, Bool.not_eq_true', Bool.not_eq_false', Bool.not_eq_true, Bool.not_eq_false] at hc) <;> first | (first | (exact absurd rfl hc) | (exfalso; omega) | (exact absurd (hc.symm.trans (by assumption : _ = false)) (by decide)) | (exact absurd (hc.symm.trans (by assumption : _ = true)) (by decide))) | skip))))
    | (first | refine JC.seq ?_ | refine JC.region ?_ | refine JC.block ?_ | refine JC.ret ?_ | refine JC.exit ?_ | refine JC.skip ?_ | refine thenK.nn ?_ | refine thenK.r ?_ | refine thenK.x ?_ | refine blockK.nn ?_ | refine blockK.r ?_ | refine blockK.hit rfl ?_ | refine blockK.miss rfl ?_ | refine JC.condT rfl ?_ | refine JC.condF rfl ?_ | (refine JC.cond rfl (fun hc => ?_) (fun hc => ?_) <;> ((try simp only [decide_eq_true_eq, decide_eq_false_iff_not, beq_iff_eq, beq_eq_false_iff_ne, bne_iff_ne, bne_eq_false_iff_eq, Bool.not_eq_true', Bool.not_eq_false', Bool.not_eq_true, Bool.not_eq_false] at hc) <;> first | (first | (exact absurd rfl hc) | (exfalso; omega) | (exact absurd (hc.symm.trans (by assumption : _ = false)) (by decide)) | (exact absurd (hc.symm.trans (by assumption : _ = true)) (by decide))) | skip)) | (refine JC.drawA [] (by kernel_rfl) (by kernel_rfl) ?_) | refine drawK.nn ?_ | refine roundK.nn ?_ | refine roundK.r ?_ | refine roundK.x ?_ | refine loopK.r ?_ | refine loopK.x ?_)
    | fail
  refine JC.loop (fun i => i == 7 || i == 8 || Nat.ble 21 i) (fun m g L' => ∃ (k : Nat), g 21 = .int .i64 (k : Int) ∧ k + m = l.length ∧ L' = _) l.length ⟨0, rfl, by omega, rfl⟩ ?_
  rintro m g L' ⟨k, e21, hkm, rfl⟩
  refine JC.pin 21 e21 ?_
  clear e21
  rcases Nat.lt_or_ge k l.length with hk | hk
  case inl =>
    have hmem : l.getD k default ∈ l := by
      rw [List.getD_eq_getElem?_getD, List.getElem?_eq_getElem hk]
      exact List.getElem_mem hk
    have hst := ht _ hmem
    have cC := fun w hw => check_any (l.getD k default).a (l.getD k default).cap (l.getD k default).ts n h hst w hw
    rw [hch _ hmem] at cC
    repeat' first
      | (refine J.isJ ?_; first | (first | (refine J.o 0 ?_; refine J.ev' hΓ ?_) | refine J.nil ?_ | refine J.kd ?_ | (refine J.o 4 ?_; first | refine J.e0 hΓ ?_ | refine J.lT default hΓ ?_ | refine J.e1 hΓ ?_ | refine J.e2 hΓ ?_ | refine J.lR hΓ ?_) | (refine J.o 3 ?_; first | refine J.iA hΓ ?_ | refine J.iJ hΓ ?_ | refine J.fP hΓ ?_ | refine J.iC hΓ ?_ | refine J.ev' hΓ ?_) | (refine J.o 1 ?_; first | refine J.ad ?_ | refine J.ct ?_ | refine J.sb ?_ | refine J.mu ?_ | refine J.ng ?_ | refine J.qu ?_ | refine J.rm ?_ | refine J.s1 ?_ | refine J.sr ?_ | refine J.aW ?_ | refine J.oW ?_ | refine J.nW ?_) | (refine J.o 2 ?_; refine J.cv _ hΓ ?_) | (refine J.o 5 ?_; first | refine J.t0 hΓ ?_ | refine J.t1 hΓ ?_ | refine J.t2 hΓ ?_ | refine J.tT _ default hΓ (fun _ _ => ?_) | refine J.tT1 _ default hΓ (fun _ _ => ?_) | refine J.tT2 _ default hΓ (fun _ _ => ?_) | refine J.tT3 _ default hΓ (fun _ _ => ?_)) | (refine J.o 6 ?_; refine J.bx (fun _ => ?_)) | (refine J.o 7 ?_; refine J.al hΓ (fun _ => ?_)) | (refine J.o 8 ?_; refine J.bd hΓ ?_) | (refine J.o 9 ?_; refine J.bl hΓ (fun _ => ?_)) | (refine J.o 10 ?_; first | refine J.ls hΓ ?_ | refine J.ev' hΓ ?_) | (refine J.o 11 ?_; first | refine J.eS ?_ | refine J.xS ?_ | refine J.ev' hΓ ?_ | refine J.nT hΓ ?_) | (refine J.o 12 ?_; refine J.ix hΓ ?_) | (refine J.o 13 ?_; first | refine J.sL hΓ ?_ | refine J.sH hΓ ?_) | (refine J.o 14 ?_; refine J.mf hΓ ?_) | refine J.kn ?_) | ((refine J.fc 18 ?_; refine J.call0 eCheck rfl rfl (fun w hw => cC w (hw.rdH (by first | exact RdH.hd | exact RdH.hd.tl | exact RdH.hd.tl.tl | exact RdH.hd.tl.tl.tl | exact RdH.hd.tl.tl.tl.tl | exact RdH.hd.tl.tl.tl.tl.tl | exact RdH.hd.tl.tl.tl.tl.tl.tl | exact RdH.hd.tl.tl.tl.tl.tl.tl.tl | exact RdH.old (fun _ hh => hh) | assumption))) ?_)) | ((fail_if_success refine J.wt ?_); refine J.gc rfl rfl (fun hc => ?_) (fun hc => ?_) <;> ((try simp only [decide_eq_true_eq, decide_eq_false_iff_not, beq_iff_eq, beq_eq_false_iff_ne, bne_iff_ne, bne_eq_false_iff_eq, Bool.not_eq_true', Bool.not_eq_false', Bool.not_eq_true, Bool.not_eq_false] at hc) <;> first | (first | (exact absurd rfl hc) | (exfalso; omega) | (exact absurd (hc.symm.trans (by assumption : _ = false)) (by decide)) | (exact absurd (hc.symm.trans (by assumption : _ = true)) (by decide))) | skip)))
      | (first | refine JC.seq ?_ | refine JC.region ?_ | refine JC.block ?_ | refine JC.ret ?_ | refine JC.exit ?_ | refine JC.skip ?_ | refine thenK.nn ?_ | refine thenK.r ?_ | refine thenK.x ?_ | refine blockK.nn ?_ | refine blockK.r ?_ | refine blockK.hit rfl ?_ | refine blockK.miss rfl ?_ | refine JC.condT rfl ?_ | refine JC.condF rfl ?_ | (refine JC.cond rfl (fun hc => ?_) (fun hc => ?_) <;> ((try simp only [decide_eq_true_eq, decide_eq_false_iff_not, beq_iff_eq, beq_eq_false_iff_ne, bne_iff_ne, bne_eq_false_iff_eq, Bool.not_eq_true', Bool.not_eq_false', Bool.not_eq_true, Bool.not_eq_false] at hc) <;> first | (first | (exact absurd rfl hc) | (exfalso; omega) | (exact absurd (hc.symm.trans (by assumption : _ = false)) (by decide)) | (exact absurd (hc.symm.trans (by assumption : _ = true)) (by decide))) | skip)) | (refine JC.drawA [] (by kernel_rfl) (by kernel_rfl) ?_) | refine drawK.nn ?_ | refine roundK.nn ?_ | refine roundK.r ?_ | refine roundK.x ?_ | refine loopK.r ?_ | refine loopK.x ?_)
      | fail
    all_goals first | (exfalso; omega) | skip
    all_goals refine loopK.nn (m - 1) (by omega) (by repeat (first | refine Ag.upd rfl ?_ | exact Ag.hv)) ⟨k + 1, ?_, by omega, rfl⟩
    · show Value.int .i64 _ = _; congr 1
  case inr =>
    repeat' first
      | (refine J.isJ ?_; first | (first | (refine J.o 0 ?_; refine J.ev' hΓ ?_) | refine J.nil ?_ | refine J.kd ?_ | (refine J.o 4 ?_; first | refine J.e0 hΓ ?_ | refine J.lT default hΓ ?_ | refine J.e1 hΓ ?_ | refine J.e2 hΓ ?_ | refine J.lR hΓ ?_) | (refine J.o 3 ?_; first | refine J.iA hΓ ?_ | refine J.iJ hΓ ?_ | refine J.fP hΓ ?_ | refine J.iC hΓ ?_ | refine J.ev' hΓ ?_) | (refine J.o 1 ?_; first | refine J.ad ?_ | refine J.ct ?_ | refine J.sb ?_ | refine J.mu ?_ | refine J.ng ?_ | refine J.qu ?_ | refine J.rm ?_ | refine J.s1 ?_ | refine J.sr ?_ | refine J.aW ?_ | refine J.oW ?_ | refine J.nW ?_) | (refine J.o 2 ?_; refine J.cv _ hΓ ?_) | (refine J.o 5 ?_; first | refine J.t0 hΓ ?_ | refine J.t1 hΓ ?_ | refine J.t2 hΓ ?_ | refine J.tT _ default hΓ (fun _ _ => ?_) | refine J.tT1 _ default hΓ (fun _ _ => ?_) | refine J.tT2 _ default hΓ (fun _ _ => ?_) | refine J.tT3 _ default hΓ (fun _ _ => ?_)) | (refine J.o 6 ?_; refine J.bx (fun _ => ?_)) | (refine J.o 7 ?_; refine J.al hΓ (fun _ => ?_)) | (refine J.o 8 ?_; refine J.bd hΓ ?_) | (refine J.o 9 ?_; refine J.bl hΓ (fun _ => ?_)) | (refine J.o 10 ?_; first | refine J.ls hΓ ?_ | refine J.ev' hΓ ?_) | (refine J.o 11 ?_; first | refine J.eS ?_ | refine J.xS ?_ | refine J.ev' hΓ ?_ | refine J.nT hΓ ?_) | (refine J.o 12 ?_; refine J.ix hΓ ?_) | (refine J.o 13 ?_; first | refine J.sL hΓ ?_ | refine J.sH hΓ ?_) | (refine J.o 14 ?_; refine J.mf hΓ ?_) | refine J.kn ?_) | (first | (refine J.al hΓ2 (fun _ => ?_)) | (refine J.t0 hΓ2 ?_)) | ((fail_if_success refine J.wt ?_); refine J.gc rfl rfl (fun hc => ?_) (fun hc => ?_) <;> ((try simp only [decide_eq_true_eq, decide_eq_false_iff_not, beq_iff_eq, beq_eq_false_iff_ne, bne_iff_ne, bne_eq_false_iff_eq, Bool.not_eq_true', Bool.not_eq_false', Bool.not_eq_true, Bool.not_eq_false] at hc) <;> first | (first | (exact absurd rfl hc) | (exfalso; omega) | (exact absurd (hc.symm.trans (by assumption : _ = false)) (by decide)) | (exact absurd (hc.symm.trans (by assumption : _ = true)) (by decide))) | skip)))
      | (first | refine JC.seq ?_ | refine JC.region ?_ | refine JC.block ?_ | refine JC.ret ?_ | refine JC.exit ?_ | refine JC.skip ?_ | refine thenK.nn ?_ | refine thenK.r ?_ | refine thenK.x ?_ | refine blockK.nn ?_ | refine blockK.r ?_ | refine blockK.hit rfl ?_ | refine blockK.miss rfl ?_ | refine JC.condT rfl ?_ | refine JC.condF rfl ?_ | (refine JC.cond rfl (fun hc => ?_) (fun hc => ?_) <;> ((try simp only [decide_eq_true_eq, decide_eq_false_iff_not, beq_iff_eq, beq_eq_false_iff_ne, bne_iff_ne, bne_eq_false_iff_eq, Bool.not_eq_true', Bool.not_eq_false', Bool.not_eq_true, Bool.not_eq_false] at hc) <;> first | (first | (exact absurd rfl hc) | (exfalso; omega) | (exact absurd (hc.symm.trans (by assumption : _ = false)) (by decide)) | (exact absurd (hc.symm.trans (by assumption : _ = true)) (by decide))) | skip)) | (refine JC.drawA [] (by kernel_rfl) (by kernel_rfl) ?_) | refine drawK.nn ?_ | refine roundK.nn ?_ | refine roundK.r ?_ | refine roundK.x ?_ | refine loopK.r ?_ | refine loopK.x ?_)
      | fail
    all_goals first | (exfalso; omega) | skip
    rename_i t4b hc1 hc2 bg bc ba bh ble
    refine JC.nilF ?_
    refine JC.perm (L' := [[(ble, .cells ⟨[.int .i64 1]⟩ 3 (0, 0))], cF bc 38 n (some ⟨bg, 0, none⟩) g01.length 2, [(bg, .cells ⟨g01.flatMap encG⟩ 59 (0, 0))], [], [(bh, .cells ⟨[.func (.func 23) ⟨[]⟩ ⟨[.pointer (some ⟨ba, 0, none⟩)]⟩]⟩ 61 (0, 0))], [(ba, .cells ⟨[.func (.func 22) ⟨[]⟩ ⟨[.pointer (some ⟨bc, 0, none⟩)]⟩]⟩ 60 (0, 0))], [(t4b, .cells ⟨[.int .i64 0, .slice none 0 0]⟩ 38 (0, 0))]]) ((bring_perm 5 _).trans ((bring_perm 5 _).trans (bring_perm 3 _))) ?_
    have hrA : Rd h [[(bh, .cells ⟨[.func (.func 23) ⟨[]⟩ ⟨[.pointer (some ⟨ba, 0, none⟩)]⟩]⟩ 61 (0, 0))], [(ba, .cells ⟨[.func (.func 22) ⟨[]⟩ ⟨[.pointer (some ⟨bc, 0, none⟩)]⟩]⟩ 60 (0, 0))], [(t4b, .cells ⟨[.int .i64 0, .slice none 0 0]⟩ 38 (0, 0))]] ba (.cells ⟨[.func (.func 22) ⟨[]⟩ ⟨[.pointer (some ⟨bc, 0, none⟩)]⟩]⟩ 60 (0, 0)) := Rd.hd.tl
    have hrH : Rd h [[(bh, .cells ⟨[.func (.func 23) ⟨[]⟩ ⟨[.pointer (some ⟨ba, 0, none⟩)]⟩]⟩ 61 (0, 0))], [(ba, .cells ⟨[.func (.func 22) ⟨[]⟩ ⟨[.pointer (some ⟨bc, 0, none⟩)]⟩]⟩ 60 (0, 0))], [(t4b, .cells ⟨[.int .i64 0, .slice none 0 0]⟩ 38 (0, 0))]] bh (.cells ⟨[.func (.func 23) ⟨[]⟩ ⟨[.pointer (some ⟨ba, 0, none⟩)]⟩]⟩ 61 (0, 0)) := Rd.hd
    have og0 : OwT encG 3 59 (some ⟨bg, 0, none⟩) 2 g01 [(bg, .cells ⟨g01.flatMap encG⟩ 59 (0, 0))] := ⟨fun _ => rfl, .inr ⟨bg, _, rfl, rfl, rfl, Nat.le_refl _, rfl⟩⟩
    have oe0 : OwT encI 1 3 (some ⟨ble, 0, none⟩) 1 [(1 : Int)] [(ble, .cells ⟨[.int .i64 1]⟩ 3 (0, 0))] := ⟨fun _ => rfl, .inr ⟨ble, _, rfl, rfl, rfl, Nat.le_refl _, rfl⟩⟩
    refine JC.loop (fun i => i == 12 || i == 14 || i == 15 || i == 16 || Nat.ble 50 i) (fun m g L' => ∃ (k : Nat) (le : List Int) (aE : Option Addr) (capE : Nat) (gs1 : List Gt) (aL1 : Option Addr) (capL1 : Nat) (hl1 hI1 hE : Heap), g 50 = .int .i64 (k : Int) ∧ g 12 = .slice aE (k + 1) capE ∧ k + m = l.length ∧ OwT encI 1 3 aE capE le hE ∧ le.length = k + 1 ∧ OwT encG 3 59 aL1 capL1 gs1 hl1 ∧ St n gs1 hI1 ∧ Base gs1 ∧ gs1.length ≤ 2 + 180 * k ∧
        (∀ j, j ≤ k → 0 ≤ le.getD j default ∧ le.getD j default < gs1.length ∧ ∀ s, val s gs1 (le.getD j default) = decide (j ≤ vt s (l.take k))) ∧ L' = hE :: cF bc 38 n aL1 gs1.length capL1 :: hl1 :: hI1 :: _) l.length
      ⟨0, [1], _, _, g01, _, _, _, _, _, rfl, rfl, by omega, oe0, rfl, og0, st01 n, base01, Nat.le_refl _, fun j hj => ?_, rfl⟩ ?_
    · obtain rfl : j = 0 := by omega
      exact ⟨by decide, by decide, fun s => by rw [show ([(1 : Int)].getD 0 default) = 1 from rfl, (base01.2 s).2]; simp⟩
    clear oe0 og0
    rintro m g L' ⟨k2, le, aE, capE, gs1, aL1, capL1, hl1, hI1, hE, e50, e12, hkm2, oE, hleE, ol1, st1, hb1, hgl, hval, rfl⟩
    refine JC.pin 50 e50 (JC.pin 12 e12 ?_)
    clear e50 e12
    rcases Nat.lt_or_ge k2 l.length with hk2 | hk2
    case inr =>
      have hkl : l.take k2 = l := List.take_of_length_le hk2
      obtain rfl : k2 = l.length := by omega
      rw [hkl] at hval
      by_cases hl0 : l.length = 0
      ·
        have hroot0 : 0 ≤ (0 : Int) ∧ (0 : Int) < gs1.length := by
          obtain ⟨b1, b2⟩ := hb1
          omega
        have hroot : ∀ s, val s gs1 0 = decide (l.length < 2 * vt s l) := fun s => by
          have := vt_le s l l.length
          rw [List.take_length] at this
          rw [(hb1.2 s).1]
          simp; omega
        repeat' first
          | (refine J.isJ ?_; first | (first | (refine J.o 0 ?_; refine J.ev' hΓ ?_) | refine J.nil ?_ | refine J.kd ?_ | (refine J.o 4 ?_; first | refine J.e0 hΓ ?_ | refine J.lT default hΓ ?_ | refine J.e1 hΓ ?_ | refine J.e2 hΓ ?_ | refine J.lR hΓ ?_) | (refine J.o 3 ?_; first | refine J.iA hΓ ?_ | refine J.iJ hΓ ?_ | refine J.fP hΓ ?_ | refine J.iC hΓ ?_ | refine J.ev' hΓ ?_) | (refine J.o 1 ?_; first | refine J.ad ?_ | refine J.ct ?_ | refine J.sb ?_ | refine J.mu ?_ | refine J.ng ?_ | refine J.qu ?_ | refine J.rm ?_ | refine J.s1 ?_ | refine J.sr ?_ | refine J.aW ?_ | refine J.oW ?_ | refine J.nW ?_) | (refine J.o 2 ?_; refine J.cv _ hΓ ?_) | (refine J.o 5 ?_; first | refine J.t0 hΓ ?_ | refine J.t1 hΓ ?_ | refine J.t2 hΓ ?_ | refine J.tT _ default hΓ (fun _ _ => ?_) | refine J.tT1 _ default hΓ (fun _ _ => ?_) | refine J.tT2 _ default hΓ (fun _ _ => ?_) | refine J.tT3 _ default hΓ (fun _ _ => ?_)) | (refine J.o 6 ?_; refine J.bx (fun _ => ?_)) | (refine J.o 7 ?_; refine J.al hΓ (fun _ => ?_)) | (refine J.o 8 ?_; refine J.bd hΓ ?_) | (refine J.o 9 ?_; refine J.bl hΓ (fun _ => ?_)) | (refine J.o 10 ?_; first | refine J.ls hΓ ?_ | refine J.ev' hΓ ?_) | (refine J.o 11 ?_; first | refine J.eS ?_ | refine J.xS ?_ | refine J.ev' hΓ ?_ | refine J.nT hΓ ?_) | (refine J.o 12 ?_; refine J.ix hΓ ?_) | (refine J.o 13 ?_; first | refine J.sL hΓ ?_ | refine J.sH hΓ ?_) | (refine J.o 14 ?_; refine J.mf hΓ ?_) | refine J.kn ?_) | (first | (refine J.lR hΓ2 ?_ (hr := hrA.tl.tl.tl.tl)) | (refine J.callvx eAdd rfl rfl rfl (fun w hw => add_any (⟨4, 0, some ⟨_, 0, none⟩, 1, [0]⟩ : Gt) ol1 (by omega) (hw.perm ((bring_perm 3 _).trans (bring_perm 3 _)))) ?_; rintro _ _ ⟨rfl, aL3, capL3, hl3, ol3, rfl⟩; refine J.perm (bring_perm 7 _) ?_)) | ((fail_if_success refine J.wt ?_); refine J.gc rfl rfl (fun hc => ?_) (fun hc => ?_) <;> ((try simp only [decide_eq_true_eq, decide_eq_false_iff_not, beq_iff_eq, beq_eq_false_iff_ne, bne_iff_ne, bne_eq_false_iff_eq, Bool.not_eq_true', Bool.not_eq_false', Bool.not_eq_true, Bool.not_eq_false] at hc) <;> first | (first | (exact absurd rfl hc) | (exfalso; omega) | (exact absurd (hc.symm.trans (by assumption : _ = false)) (by decide)) | (exact absurd (hc.symm.trans (by assumption : _ = true)) (by decide))) | skip)))
          | (first | refine JC.seq ?_ | refine JC.region ?_ | refine JC.block ?_ | refine JC.ret ?_ | refine JC.exit ?_ | refine JC.skip ?_ | refine thenK.nn ?_ | refine thenK.r ?_ | refine thenK.x ?_ | refine blockK.nn ?_ | refine blockK.r ?_ | refine blockK.hit rfl ?_ | refine blockK.miss rfl ?_ | refine JC.condT rfl ?_ | refine JC.condF rfl ?_ | (refine JC.cond rfl (fun hc => ?_) (fun hc => ?_) <;> ((try simp only [decide_eq_true_eq, decide_eq_false_iff_not, beq_iff_eq, beq_eq_false_iff_ne, bne_iff_ne, bne_eq_false_iff_eq, Bool.not_eq_true', Bool.not_eq_false', Bool.not_eq_true, Bool.not_eq_false] at hc) <;> first | (first | (exact absurd rfl hc) | (exfalso; omega) | (exact absurd (hc.symm.trans (by assumption : _ = false)) (by decide)) | (exact absurd (hc.symm.trans (by assumption : _ = true)) (by decide))) | skip)) | refine drawK.nn ?_ | refine roundK.nn ?_ | refine roundK.r ?_ | refine roundK.x ?_ | refine loopK.r ?_ | refine loopK.x ?_)
          | ((refine JC.drawA [] (by kernel_rfl) (by kernel_rfl) ?_))
          | fail
        all_goals first | (exfalso; omega) | skip
        rename_i x
        have hlx : (gs1 ++ [(⟨4, 0, some ⟨x, 0, none⟩, 1, [0]⟩ : Gt)]).length = gs1.length + 1 := by simp
        refine retCS hΓ rfl rfl rfl rfl Rd.hd rfl rfl (fun w1 hw => Gives.of hw.fin ⟨aL3, _, capL3, ?_, fin_cir n0 n1 st1 (by omega) hroot0 ol3, fun s => fin_val s gs1 x _ _ (hroot s)⟩)
        rw [hlx]; rfl
      ·
        have eq1 : ((l.length : Int) / 2 + 1).toNat = l.length / 2 + 1 := by omega
        obtain ⟨q0, q1, q2⟩ := hval (l.length / 2 + 1) (by omega)
        have hroot0 : 0 ≤ le.getD ((l.length : Int) / 2 + 1).toNat default ∧ le.getD ((l.length : Int) / 2 + 1).toNat default < gs1.length := by rw [eq1]; exact ⟨q0, q1⟩
        have hroot : ∀ s, val s gs1 (le.getD ((l.length : Int) / 2 + 1).toNat default) = decide (l.length < 2 * vt s l) := fun s => by
          rw [eq1, q2 s]
          congr 1
          apply propext
          omega
        repeat' first
          | (refine J.isJ ?_; first | (first | (refine J.o 0 ?_; refine J.ev' hΓ ?_) | refine J.nil ?_ | refine J.kd ?_ | (refine J.o 4 ?_; first | refine J.e0 hΓ ?_ | refine J.lT default hΓ ?_ | refine J.e1 hΓ ?_ | refine J.e2 hΓ ?_ | refine J.lR hΓ ?_) | (refine J.o 3 ?_; first | refine J.iA hΓ ?_ | refine J.iJ hΓ ?_ | refine J.fP hΓ ?_ | refine J.iC hΓ ?_ | refine J.ev' hΓ ?_) | (refine J.o 1 ?_; first | refine J.ad ?_ | refine J.ct ?_ | refine J.sb ?_ | refine J.mu ?_ | refine J.ng ?_ | refine J.qu ?_ | refine J.rm ?_ | refine J.s1 ?_ | refine J.sr ?_ | refine J.aW ?_ | refine J.oW ?_ | refine J.nW ?_) | (refine J.o 2 ?_; refine J.cv _ hΓ ?_) | (refine J.o 5 ?_; first | refine J.t0 hΓ ?_ | refine J.t1 hΓ ?_ | refine J.t2 hΓ ?_ | refine J.tT _ default hΓ (fun _ _ => ?_) | refine J.tT1 _ default hΓ (fun _ _ => ?_) | refine J.tT2 _ default hΓ (fun _ _ => ?_) | refine J.tT3 _ default hΓ (fun _ _ => ?_)) | (refine J.o 6 ?_; refine J.bx (fun _ => ?_)) | (refine J.o 7 ?_; refine J.al hΓ (fun _ => ?_)) | (refine J.o 8 ?_; refine J.bd hΓ ?_) | (refine J.o 9 ?_; refine J.bl hΓ (fun _ => ?_)) | (refine J.o 10 ?_; first | refine J.ls hΓ ?_ | refine J.ev' hΓ ?_) | (refine J.o 11 ?_; first | refine J.eS ?_ | refine J.xS ?_ | refine J.ev' hΓ ?_ | refine J.nT hΓ ?_) | (refine J.o 12 ?_; refine J.ix hΓ ?_) | (refine J.o 13 ?_; first | refine J.sL hΓ ?_ | refine J.sH hΓ ?_) | (refine J.o 14 ?_; refine J.mf hΓ ?_) | refine J.kn ?_) | (first | (refine J.lR hΓ2 ?_ (hr := hrA.tl.tl.tl.tl)) | (refine J.callvx eAdd rfl rfl rfl (fun w hw => add_any (⟨4, 0, some ⟨_, 0, none⟩, 1, [le.getD ((l.length : Int) / 2 + 1).toNat default]⟩ : Gt) ol1 (by omega) (hw.perm ((bring_perm 3 _).trans (bring_perm 3 _)))) ?_; rintro _ _ ⟨rfl, aL3, capL3, hl3, ol3, rfl⟩; refine J.perm (bring_perm 7 _) ?_)) | ((fail_if_success refine J.wt ?_); refine J.gc rfl rfl (fun hc => ?_) (fun hc => ?_) <;> ((try simp only [decide_eq_true_eq, decide_eq_false_iff_not, beq_iff_eq, beq_eq_false_iff_ne, bne_iff_ne, bne_eq_false_iff_eq, Bool.not_eq_true', Bool.not_eq_false', Bool.not_eq_true, Bool.not_eq_false] at hc) <;> first | (first | (exact absurd rfl hc) | (exfalso; omega) | (exact absurd (hc.symm.trans (by assumption : _ = false)) (by decide)) | (exact absurd (hc.symm.trans (by assumption : _ = true)) (by decide))) | skip)))
          | (first | refine JC.seq ?_ | refine JC.region ?_ | refine JC.block ?_ | refine JC.ret ?_ | refine JC.exit ?_ | refine JC.skip ?_ | refine thenK.nn ?_ | refine thenK.r ?_ | refine thenK.x ?_ | refine blockK.nn ?_ | refine blockK.r ?_ | refine blockK.hit rfl ?_ | refine blockK.miss rfl ?_ | refine JC.condT rfl ?_ | refine JC.condF rfl ?_ | (refine JC.cond rfl (fun hc => ?_) (fun hc => ?_) <;> ((try simp only [decide_eq_true_eq, decide_eq_false_iff_not, beq_iff_eq, beq_eq_false_iff_ne, bne_iff_ne, bne_eq_false_iff_eq, Bool.not_eq_true', Bool.not_eq_false', Bool.not_eq_true, Bool.not_eq_false] at hc) <;> first | (first | (exact absurd rfl hc) | (exfalso; omega) | (exact absurd (hc.symm.trans (by assumption : _ = false)) (by decide)) | (exact absurd (hc.symm.trans (by assumption : _ = true)) (by decide))) | skip)) | refine drawK.nn ?_ | refine roundK.nn ?_ | refine roundK.r ?_ | refine roundK.x ?_ | refine loopK.r ?_ | refine loopK.x ?_)
          | ((refine JC.drawA [] (by kernel_rfl) (by kernel_rfl) ?_))
          | fail
        all_goals first | (exfalso; omega) | skip
        rename_i x
        have hlx : (gs1 ++ [(⟨4, 0, some ⟨x, 0, none⟩, 1, [le.getD ((l.length : Int) / 2 + 1).toNat default]⟩ : Gt)]).length = gs1.length + 1 := by simp
        refine retCS hΓ rfl rfl rfl rfl Rd.hd rfl rfl (fun w1 hw => Gives.of hw.fin ⟨aL3, _, capL3, ?_, fin_cir n0 n1 st1 (by omega) hroot0 ol3, fun s => fin_val s gs1 x _ _ (hroot s)⟩)
        rw [hlx]; rfl
    case inl =>
      have hmem : l.getD k2 default ∈ l := by
        rw [List.getD_eq_getElem?_getD, List.getElem?_eq_getElem hk2]
        exact List.getElem_mem hk2
      have hst := ht _ hmem
      have hsz1 := hsz _ hmem
      obtain ⟨hp1, hf1⟩ := fmd_of_checkT (hch _ hmem)
      have hleL : (le ++ [(0 : Int)]).length = k2 + 2 := by rw [List.length_append, hleE]; rfl
      repeat' first
        | (refine J.isJ ?_; first | (first | (refine J.o 0 ?_; refine J.ev' hΓ ?_) | refine J.nil ?_ | refine J.kd ?_ | (refine J.o 4 ?_; first | refine J.e0 hΓ ?_ | refine J.lT default hΓ ?_ | refine J.e1 hΓ ?_ | refine J.e2 hΓ ?_ | refine J.lR hΓ ?_) | (refine J.o 3 ?_; first | refine J.iA hΓ ?_ | refine J.iJ hΓ ?_ | refine J.fP hΓ ?_ | refine J.iC hΓ ?_ | refine J.ev' hΓ ?_) | (refine J.o 1 ?_; first | refine J.ad ?_ | refine J.ct ?_ | refine J.sb ?_ | refine J.mu ?_ | refine J.ng ?_ | refine J.qu ?_ | refine J.rm ?_ | refine J.s1 ?_ | refine J.sr ?_ | refine J.aW ?_ | refine J.oW ?_ | refine J.nW ?_) | (refine J.o 2 ?_; refine J.cv _ hΓ ?_) | (refine J.o 5 ?_; first | refine J.t0 hΓ ?_ | refine J.t1 hΓ ?_ | refine J.t2 hΓ ?_ | refine J.tT _ default hΓ (fun _ _ => ?_) | refine J.tT1 _ default hΓ (fun _ _ => ?_) | refine J.tT2 _ default hΓ (fun _ _ => ?_) | refine J.tT3 _ default hΓ (fun _ _ => ?_)) | (refine J.o 6 ?_; refine J.bx (fun _ => ?_)) | (refine J.o 7 ?_; refine J.al hΓ (fun _ => ?_)) | (refine J.o 8 ?_; refine J.bd hΓ ?_) | (refine J.o 9 ?_; refine J.bl hΓ (fun _ => ?_)) | (refine J.o 10 ?_; first | refine J.ls hΓ ?_ | refine J.ev' hΓ ?_) | (refine J.o 11 ?_; first | refine J.eS ?_ | refine J.xS ?_ | refine J.ev' hΓ ?_ | refine J.nT hΓ ?_) | (refine J.o 12 ?_; refine J.ix hΓ ?_) | (refine J.o 13 ?_; first | refine J.sL hΓ ?_ | refine J.sH hΓ ?_) | (refine J.o 14 ?_; refine J.mf hΓ ?_) | refine J.kn ?_) | (first | (refine J.fc 24 ?_; refine J.callx eFold rfl rfl (fun w hw => fold_any (L := hE :: _) (l.getD k2 default).a (l.getD k2 default).cap (l.getD k2 default).ts hst hp1 hf1 ol1 st1 hb1 (by omega) hrA.tl hrH.tl (hw.perm ((bring_perm 3 _).trans ((bring_perm 3 _).trans (bring_perm 3 _))))) ?_; rintro _ _ ⟨r, gs2, aL2, capL2, hl2, hI2, rfl, ol2, st2, rfl, r0, r1, g0, g1, hold, hroot⟩; refine J.perm (bring_perm 3 _) ?_) | (refine J.app1 (enc := encI) [(0 : Int)] hΓ rfl rfl rfl rfl rfl rfl rfl oE hleE rfl rfl rfl (by omega) (by omega) (by omega) (fun aE2 capE2 hE2 oE2 => ?_))) | ((fail_if_success refine J.wt ?_); refine J.gc rfl rfl (fun hc => ?_) (fun hc => ?_) <;> ((try simp only [decide_eq_true_eq, decide_eq_false_iff_not, beq_iff_eq, beq_eq_false_iff_ne, bne_iff_ne, bne_eq_false_iff_eq, Bool.not_eq_true', Bool.not_eq_false', Bool.not_eq_true, Bool.not_eq_false] at hc) <;> first | (first | (exact absurd rfl hc) | (exfalso; omega) | (exact absurd (hc.symm.trans (by assumption : _ = false)) (by decide)) | (exact absurd (hc.symm.trans (by assumption : _ = true)) (by decide))) | skip)))
        | (first | refine JC.seq ?_ | refine JC.region ?_ | refine JC.block ?_ | refine JC.ret ?_ | refine JC.exit ?_ | refine JC.skip ?_ | refine thenK.nn ?_ | refine thenK.r ?_ | refine thenK.x ?_ | refine blockK.nn ?_ | refine blockK.r ?_ | refine blockK.hit rfl ?_ | refine blockK.miss rfl ?_ | refine JC.condT rfl ?_ | refine JC.condF rfl ?_ | (refine JC.cond rfl (fun hc => ?_) (fun hc => ?_) <;> ((try simp only [decide_eq_true_eq, decide_eq_false_iff_not, beq_iff_eq, beq_eq_false_iff_ne, bne_iff_ne, bne_eq_false_iff_eq, Bool.not_eq_true', Bool.not_eq_false', Bool.not_eq_true, Bool.not_eq_false] at hc) <;> first | (first | (exact absurd rfl hc) | (exfalso; omega) | (exact absurd (hc.symm.trans (by assumption : _ = false)) (by decide)) | (exact absurd (hc.symm.trans (by assumption : _ = true)) (by decide))) | skip)) | refine drawK.nn ?_ | refine roundK.nn ?_ | refine roundK.r ?_ | refine roundK.x ?_ | refine loopK.r ?_ | refine loopK.x ?_)
        | (fail)
        | fail
      all_goals first | (exfalso; omega) | skip
      refine JC.loop (fun i => i == 16 || Nat.ble 63 i) (fun m2 g2 L' => ∃ (le2 : List Int) (gs3 : List Gt) (aL3 : Option Addr) (capL3 : Nat) (hl3 hI3 hE3 : Heap), g2 16 = .int .i64 (m2 : Int) ∧ m2 ≤ k2 + 1 ∧ le2.length = k2 + 2 ∧ OwT encI 1 3 aE2 capE2 le2 hE3 ∧ OwT encG 3 59 aL3 capL3 gs3 hl3 ∧ St n gs3 hI3 ∧ Base gs3 ∧ gs3.length + m2 ≤ 2 + 180 * k2 + 160 + (k2 + 1) ∧ (0 ≤ r ∧ r < gs3.length ∧ ∀ s, val s gs3 r = clsAt (l.getD k2 default).ts s 0) ∧
          (∀ j, j ≤ k2 + 1 → 0 ≤ le2.getD j default ∧ le2.getD j default < gs3.length ∧ ∀ s, val s gs3 (le2.getD j default) = decide (j ≤ vt s (l.take (if m2 < j then k2 + 1 else k2)))) ∧ L' = hE3 :: cF bc 38 n aL3 gs3.length capL3 :: hl3 :: hI3 :: _) (k2 + 1)
        ⟨le ++ [0], gs2, aL2, capL2, hl2, hI2, hE2, by show Value.int .i64 _ = _; congr 1; omega, Nat.le_refl _, hleL, oE2, ol2, st2, hb1.grow g0 hold, by omega, ⟨r0, r1, hroot⟩, fun j hj => ?_, rfl⟩ ?_
      · rw [if_neg (by omega)]
        by_cases hjk : j ≤ k2
        · rw [getD_left _ _ _ (by omega)]
          obtain ⟨q0, q1, q2⟩ := hval j hjk
          exact ⟨q0, by omega, fun s => by rw [hold s _ q0 q1]; exact q2 s⟩
        · obtain rfl : j = k2 + 1 := by omega
          have := getD_last le (0 : Int)
          rw [hleE] at this
          rw [this]
          obtain ⟨b1, b2⟩ := hb1
          refine ⟨by omega, by omega, fun s => ?_⟩
          rw [hold s 0 (by omega) (by omega), (b2 s).1]
          have := vt_le s l k2
          simp; omega
      clear oE2
      rintro m2 g2 L' ⟨le2, gs3, aL3, capL3, hl3, hI3, hE3, e16, hm2, hle2, oE3, ol3, st3, hb3, hg3, ⟨r0', r1', hroot'⟩, hv2, rfl⟩
      refine JC.pin 16 e16 ?_
      clear e16 hval hold hroot r0 r1 st2 ol2
      cases m2 with
      | zero =>
        repeat' first
          | (refine J.isJ ?_; (first | (first | (refine J.o 0 ?_; refine J.ev' hΓ ?_) | refine J.nil ?_ | refine J.kd ?_ | (refine J.o 4 ?_; first | refine J.e0 hΓ ?_ | refine J.lT default hΓ ?_ | refine J.e1 hΓ ?_ | refine J.e2 hΓ ?_ | refine J.lR hΓ ?_) | (refine J.o 3 ?_; first | refine J.iA hΓ ?_ | refine J.iJ hΓ ?_ | refine J.fP hΓ ?_ | refine J.iC hΓ ?_ | refine J.ev' hΓ ?_) | (refine J.o 1 ?_; first | refine J.ad ?_ | refine J.ct ?_ | refine J.sb ?_ | refine J.mu ?_ | refine J.ng ?_ | refine J.qu ?_ | refine J.rm ?_ | refine J.s1 ?_ | refine J.sr ?_ | refine J.aW ?_ | refine J.oW ?_ | refine J.nW ?_) | (refine J.o 2 ?_; refine J.cv _ hΓ ?_) | (refine J.o 5 ?_; first | refine J.t0 hΓ ?_ | refine J.t1 hΓ ?_ | refine J.t2 hΓ ?_ | refine J.tT _ default hΓ (fun _ _ => ?_) | refine J.tT1 _ default hΓ (fun _ _ => ?_) | refine J.tT2 _ default hΓ (fun _ _ => ?_) | refine J.tT3 _ default hΓ (fun _ _ => ?_)) | (refine J.o 6 ?_; refine J.bx (fun _ => ?_)) | (refine J.o 7 ?_; refine J.al hΓ (fun _ => ?_)) | (refine J.o 8 ?_; refine J.bd hΓ ?_) | (refine J.o 9 ?_; refine J.bl hΓ (fun _ => ?_)) | (refine J.o 10 ?_; first | refine J.ls hΓ ?_ | refine J.ev' hΓ ?_) | (refine J.o 11 ?_; first | refine J.eS ?_ | refine J.xS ?_ | refine J.ev' hΓ ?_ | refine J.nT hΓ ?_) | (refine J.o 12 ?_; refine J.ix hΓ ?_) | (refine J.o 13 ?_; first | refine J.sL hΓ ?_ | refine J.sH hΓ ?_) | (refine J.o 14 ?_; refine J.mf hΓ ?_) | refine J.kn ?_) | ((fail_if_success refine J.wt ?_); refine J.gc rfl rfl (fun hc => ?_) (fun hc => ?_) <;> ((try simp only [decide_eq_true_eq, decide_eq_false_iff_not, beq_iff_eq, beq_eq_false_iff_ne, bne_iff_ne, bne_eq_false_iff_eq, Bool.not_eq_true', Bool.not_eq_false', Bool.not_eq_true, Bool.not_eq_false] at hc) <;> first | (first | (exact absurd rfl hc) | (exfalso; omega) | (exact absurd (hc.symm.trans (by assumption : _ = false)) (by decide)) | (exact absurd (hc.symm.trans (by assumption : _ = true)) (by decide))) | skip))))
          | (first | refine JC.seq ?_ | refine JC.region ?_ | refine JC.block ?_ | refine JC.ret ?_ | refine JC.exit ?_ | refine JC.skip ?_ | refine thenK.nn ?_ | refine thenK.r ?_ | refine thenK.x ?_ | refine blockK.nn ?_ | refine blockK.r ?_ | refine blockK.hit rfl ?_ | refine blockK.miss rfl ?_ | refine JC.condT rfl ?_ | refine JC.condF rfl ?_ | (refine JC.cond rfl (fun hc => ?_) (fun hc => ?_) <;> ((try simp only [decide_eq_true_eq, decide_eq_false_iff_not, beq_iff_eq, beq_eq_false_iff_ne, bne_iff_ne, bne_eq_false_iff_eq, Bool.not_eq_true', Bool.not_eq_false', Bool.not_eq_true, Bool.not_eq_false] at hc) <;> first | (first | (exact absurd rfl hc) | (exfalso; omega) | (exact absurd (hc.symm.trans (by assumption : _ = false)) (by decide)) | (exact absurd (hc.symm.trans (by assumption : _ = true)) (by decide))) | skip)) | (refine JC.drawA [] (by kernel_rfl) (by kernel_rfl) ?_) | refine drawK.nn ?_ | refine roundK.nn ?_ | refine roundK.r ?_ | refine roundK.x ?_ | refine loopK.r ?_ | refine loopK.x ?_)
          | fail
        all_goals first | (exfalso; omega) | skip
        all_goals refine loopK.nn (m - 1) (by omega) (by repeat (first | refine Ag.upd rfl ?_ | exact Ag.hv | refine Ag.hv2 (fun i hi => by simp at hi ⊢; omega) ?_)) ⟨k2 + 1, le2, aE2, capE2, gs3, aL3, capL3, hl3, hI3, hE3, ?_, ?_, by omega, oE3, hle2, ol3, st3, hb3, by omega, ?_, rfl⟩
        · show Value.int .i64 _ = _; congr 1
        · rfl
        · intro j hj
          obtain ⟨q0, q1, q2⟩ := hv2 j hj
          refine ⟨q0, q1, fun s => ?_⟩
          rw [q2 s]
          by_cases hj0 : 0 < j
          · rw [if_pos hj0]
          · obtain rfl : j = 0 := by omega
            simp
      | succ p =>
        have eb : (((p + 1 : Nat) : Int) - 1).toNat = p := by omega
        have ec : ((p + 1 : Nat) : Int).toNat = p + 1 := by omega
        obtain ⟨b0, b1, b2⟩ := hv2 p (by omega)
        obtain ⟨c0, c1, c2⟩ := hv2 (p + 1) (by omega)
        have b' : 0 ≤ le2.getD (((p + 1 : Nat) : Int) - 1).toNat default ∧ le2.getD (((p + 1 : Nat) : Int) - 1).toNat default < (gs3.length : Int) := by rw [eb]; exact ⟨b0, b1⟩
        repeat' first
          | (refine J.isJ ?_; first | (first | (refine J.o 0 ?_; refine J.ev' hΓ ?_) | refine J.nil ?_ | refine J.kd ?_ | (refine J.o 4 ?_; first | refine J.e0 hΓ ?_ | refine J.lT default hΓ ?_ | refine J.e1 hΓ ?_ | refine J.e2 hΓ ?_ | refine J.lR hΓ ?_) | (refine J.o 3 ?_; first | refine J.iA hΓ ?_ | refine J.iJ hΓ ?_ | refine J.fP hΓ ?_ | refine J.iC hΓ ?_ | refine J.ev' hΓ ?_) | (refine J.o 1 ?_; first | refine J.ad ?_ | refine J.ct ?_ | refine J.sb ?_ | refine J.mu ?_ | refine J.ng ?_ | refine J.qu ?_ | refine J.rm ?_ | refine J.s1 ?_ | refine J.sr ?_ | refine J.aW ?_ | refine J.oW ?_ | refine J.nW ?_) | (refine J.o 2 ?_; refine J.cv _ hΓ ?_) | (refine J.o 5 ?_; first | refine J.t0 hΓ ?_ | refine J.t1 hΓ ?_ | refine J.t2 hΓ ?_ | refine J.tT _ default hΓ (fun _ _ => ?_) | refine J.tT1 _ default hΓ (fun _ _ => ?_) | refine J.tT2 _ default hΓ (fun _ _ => ?_) | refine J.tT3 _ default hΓ (fun _ _ => ?_)) | (refine J.o 6 ?_; refine J.bx (fun _ => ?_)) | (refine J.o 7 ?_; refine J.al hΓ (fun _ => ?_)) | (refine J.o 8 ?_; refine J.bd hΓ ?_) | (refine J.o 9 ?_; refine J.bl hΓ (fun _ => ?_)) | (refine J.o 10 ?_; first | refine J.ls hΓ ?_ | refine J.ev' hΓ ?_) | (refine J.o 11 ?_; first | refine J.eS ?_ | refine J.xS ?_ | refine J.ev' hΓ ?_ | refine J.nT hΓ ?_) | (refine J.o 12 ?_; refine J.ix hΓ ?_) | (refine J.o 13 ?_; first | refine J.sL hΓ ?_ | refine J.sH hΓ ?_) | (refine J.o 14 ?_; refine J.mf hΓ ?_) | refine J.kn ?_) | (first | (refine J.lR hΓ2 ?_ (hr := hrH.tl.tl.tl.tl)) | (refine J.callvx eChoose rfl rfl rfl (fun w hw => choose_any (L := hE3 :: _) r _ _ ol3 st3 (by omega) (by omega) b' ⟨c0, c1⟩ hrA.tl (hw.perm ((bring_perm 3 _).trans ((bring_perm 3 _).trans (bring_perm 3 _))))) ?_; rintro _ _ ⟨r4, gs4, aL4, capL4, hl4, hI4, rfl, ol4, st4, rfl, r40, r41, g40, g41, hold4, hval4⟩; refine J.perm (bring_perm 3 _) ?_)) | ((fail_if_success refine J.wt ?_); refine J.gc rfl rfl (fun hc => ?_) (fun hc => ?_) <;> ((try simp only [decide_eq_true_eq, decide_eq_false_iff_not, beq_iff_eq, beq_eq_false_iff_ne, bne_iff_ne, bne_eq_false_iff_eq, Bool.not_eq_true', Bool.not_eq_false', Bool.not_eq_true, Bool.not_eq_false] at hc) <;> first | (first | (exact absurd rfl hc) | (exfalso; omega) | (exact absurd (hc.symm.trans (by assumption : _ = false)) (by decide)) | (exact absurd (hc.symm.trans (by assumption : _ = true)) (by decide))) | skip)))
          | (first | refine JC.seq ?_ | refine JC.region ?_ | refine JC.block ?_ | refine JC.ret ?_ | refine JC.exit ?_ | refine JC.skip ?_ | refine thenK.nn ?_ | refine thenK.r ?_ | refine thenK.x ?_ | refine blockK.nn ?_ | refine blockK.r ?_ | refine blockK.hit rfl ?_ | refine blockK.miss rfl ?_ | refine JC.condT rfl ?_ | refine JC.condF rfl ?_ | (refine JC.cond rfl (fun hc => ?_) (fun hc => ?_) <;> ((try simp only [decide_eq_true_eq, decide_eq_false_iff_not, beq_iff_eq, beq_eq_false_iff_ne, bne_iff_ne, bne_eq_false_iff_eq, Bool.not_eq_true', Bool.not_eq_false', Bool.not_eq_true, Bool.not_eq_false] at hc) <;> first | (first | (exact absurd rfl hc) | (exfalso; omega) | (exact absurd (hc.symm.trans (by assumption : _ = false)) (by decide)) | (exact absurd (hc.symm.trans (by assumption : _ = true)) (by decide))) | skip)) | refine drawK.nn ?_ | refine roundK.nn ?_ | refine roundK.r ?_ | refine roundK.x ?_ | refine loopK.r ?_ | refine loopK.x ?_)
          | ((refine JC.drawW [] [13] (by kernel_rfl) (by kernel_rfl) ?_))
          | fail
        all_goals first | (exfalso; omega) | skip
        all_goals refine loopK.nn p (by omega) (by repeat (first | refine Ag.upd rfl ?_ | exact Ag.hv)) ⟨le2.set (p + 1) r4, gs4, aL4, capL4, hl4, hI4, _, ?_, by omega, by rw [List.length_set]; exact hle2, by assumption, ol4, st4, hb3.grow g40 hold4, by omega, ⟨r0', by omega, fun s => by rw [hold4 s r r0' r1']; exact hroot' s⟩, ?_, rfl⟩
        · show Value.int .i64 _ = _; congr 1; omega
        · intro j hj
          rw [getD_set]
          by_cases hjp : p + 1 = j
          · subst hjp
            rw [if_pos ⟨rfl, by omega⟩]
            refine ⟨r40, r41, fun s => ?_⟩
            rw [hval4 s, hroot' s, eb, b2 s, c2 s, if_neg (show ¬ p + 1 < p by omega), if_neg (show ¬ p + 1 < p + 1 by omega), if_pos (show p < p + 1 by omega), vt_take s l k2 hk2]
            exact step_vt _ _ _
          · rw [if_neg (fun h => hjp h.1)]
            obtain ⟨q0, q1, q2⟩ := hv2 j hj
            refine ⟨q0, by omega, fun s => ?_⟩
            rw [hold4 s _ q0 q1, q2 s]
            by_cases hlt : p < j
            · rw [if_pos hlt, if_pos (by omega)]
            · rw [if_neg hlt, if_neg (by omega)]
end Go.Proofs.YtdiciemlbhkilaaDoor
