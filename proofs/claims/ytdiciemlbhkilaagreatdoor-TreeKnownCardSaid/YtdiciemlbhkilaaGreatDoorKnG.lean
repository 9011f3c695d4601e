/- TreeKnown: part 7. -/
import Derived.Test.YtdiciemlbhkilaaGreatDoorKnF
namespace Go.Proofs.YtdiciemlbhkilaaGreatDoor
open Go Go.Cx Go.RowKit
set_option linter.unusedVariables false
set_option linter.unusedSimpArgs false
set_option maxHeartbeats 4000000
attribute [local irreducible] J JC thenK blockK loopK roundK drawK retK QW Qt pel List.set Calls
attribute [local irreducible] JE Br eK0 eK3 brK
def formedP (x : PN) (n bf : Int) : Bool := !(x.2.2.any (badI bf)) &&
  (if x.1 = 0 ∨ x.1 = 1 then decide (x.2.1 = 0) && decide (x.2.2.length = 0) else if x.1 = 2 then validB x.2.1 n && decide (x.2.2.length = 0) else if x.1 = 3 ∨ x.1 = 4 then decide (x.2.1 = 0) else false)
theorem eForm1 : Entr Tryz.prog 117 := Entr.of Tryz.func117 rfl rfl
theorem eForm : Entr Tryz.prog 81 := Entr.of Tryz.func81 rfl rfl
theorem form1_any (bf i : Int) (b : Nat) (w : World) (hw : Holds [(b, intO bf)] w) :
    Calls Tryz.prog 117 #[.int .i64 i, .pointer (some ⟨b, 0, none⟩)] w fun e w' => e = .returned (.bool (badI bf i)) ∧ Below w.heap.size w w' := by
  have rb : ∀ L, Rd [(b, intO bf)] L b (intO bf) := fun L => Rd.old List.mem_cons_self
  unfold intO at rb
  refine calls_of_JC (R := [(b, intO bf)]) Tryz.func117 Tryz.ntmps117 rfl rfl (hw) ?_
  repeat' first
    | (refine J.isJ ?_; first | (first | (refine J.o 4 ?_; refine J.lR hΓ ?_ (hr := rb _))) | (first | (refine J.o 0 ?_; refine J.ev' hΓ ?_) | refine J.nil ?_ | refine J.kd ?_ | (refine J.o 4 ?_; first | refine J.lR hΓ ?_) | (refine J.o 3 ?_; first | refine J.ev' hΓ ?_) | (refine J.o 10 ?_; refine J.ev' hΓ ?_) | (refine J.o 11 ?_; refine J.ev' hΓ ?_)) | ((fail_if_success refine J.wt ?_); refine J.gc rfl rfl (fun hc => ?_) (fun hc => ?_) <;> ((try simp only [tcS] at hc) <;> first | (first | (exact absurd rfl hc) | (exfalso; omega) | (exact (tF hc (by assumption)).elim) | (exact (fT hc (by assumption)).elim)) | skip)))
    | (first | refine JC.seq ?_ | refine JC.region ?_ | refine JC.ret ?_ | refine thenK.nn ?_)
    | (fail)
    | fail
  all_goals first | (exfalso; omega) | skip
  all_goals (refine ret1f rfl rfl rfl (fun w1 hw => ⟨retB ?_, hw.below⟩))
  all_goals (clear hw; unfold badI; grind)
theorem formedN_any (v : NV) (h : Heap) (hs : SlT encI 1 v.a v.l h) (hl : v.l.length ≤ 1000000) (n bf : Int) (hn : 0 ≤ n ∧ n ≤ 128) (w : World) (hw : Holds h w) :
    Calls Tryz.prog 81 #[.agg ⟨encNV v⟩, .int .i64 n, .int .i64 bf] w fun e w' => e = .returned (.bool (formedP (pnV v) n bf)) ∧ Below w.heap.size w w' := by
  have q0 : ∀ L, RdH h L h := fun L => RdH.old fun _ hh => hh
  have cV := fun w => valid_any v.lit n hn w
  have hz : ((v.l.length : Int) == 0) = decide (v.l.length = 0) := by rw [Bool.eq_iff_iff]; simp
  have hF : formedP (pnV v) n bf = (!(v.l.any (badI bf)) &&
    (if v.kind = 0 ∨ v.kind = 1 then decide (v.lit = 0) && decide (v.l.length = 0) else if v.kind = 2 then validB v.lit n && decide (v.l.length = 0) else if v.kind = 3 ∨ v.kind = 4 then decide (v.lit = 0) else false)) := rfl
  refine calls_of_JC (R := h) Tryz.func81 Tryz.ntmps81 rfl rfl (hw) ?_
  repeat' first
    | (refine J.isJ ?_; first | (first | (refine J.o 14 ?_; refine J.mf hΓ ?_) | (refine J.fc 62 ?_; refine J.call0 eConF rfl rfl (fun w hw => conG_any eForm1 _ (badI bf) v.a v.c v.l h ((_, intO bf) :: h) hs (fun x hx => List.mem_cons_of_mem _ hx) hl (fun x hx w hw => form1_any bf x _ w (fun y hy => hw y (by rw [List.mem_singleton.1 hy]; exact List.mem_cons_self))) w (fun x hx => hw.rd (rdc Rd.hd (RdH.old fun _ hh => hh) x hx))) ?_) | (refine J.fc 118 ?_; refine J.call0 eValid rfl rfl (fun w hw => cV w) ?_)) | (first | (refine J.o 0 ?_; refine J.ev' hΓ ?_) | refine J.nil ?_ | refine J.kd ?_ | (refine J.o 4 ?_; first | refine J.e1 hΓ ?_) | (refine J.o 3 ?_; first | refine J.ev' hΓ ?_) | (refine J.o 6 ?_; refine J.bx (fun _ => ?_)) | (refine J.o 10 ?_; refine J.ev' hΓ ?_) | (refine J.o 11 ?_; refine J.ev' hΓ ?_)) | ((fail_if_success refine J.wt ?_); refine J.gc rfl rfl (fun hc => ?_) (fun hc => ?_) <;> ((try simp only [tcS] at hc) <;> first | (first | (exact absurd rfl hc) | (exfalso; omega) | (exact (tF hc (by assumption)).elim) | (exact (fT hc (by assumption)).elim)) | skip)))
    | (first | refine JC.seq ?_ | refine JC.region ?_ | refine JC.block ?_ | refine JC.ret ?_ | refine JC.skip ?_ | refine thenK.nn ?_ | refine thenK.r ?_ | refine blockK.nn ?_ | refine blockK.r ?_ | (refine JC.cond rfl (fun hc => ?_) (fun hc => ?_) <;> ((try simp only [tcS] at hc) <;> first | (first | (exact absurd rfl hc) | (exfalso; omega) | (exact (tF hc (by assumption)).elim) | (exact (fT hc (by assumption)).elim)) | skip)))
    | (fail)
    | fail
  all_goals first | (exfalso; omega) | skip
  all_goals (refine ret1f rfl rfl rfl (fun w1 hw => ⟨retB ?_, hw.below⟩))
  all_goals (rw [hF]; clear hw)
  all_goals (try rw [hz]); all_goals (generalize v.l.any (badI bf) = b1 at *; generalize validB v.lit n = b2 at *; cases b1 <;> cases b2 <;> grind)
end Go.Proofs.YtdiciemlbhkilaaGreatDoor
namespace Go.Proofs.YtdiciemlbhkilaaGreatDoor
open Go Go.Cx Go.RowKit
set_option linter.unusedVariables false
set_option linter.unusedSimpArgs false
set_option maxHeartbeats 4000000
attribute [local irreducible] J JC thenK blockK loopK roundK drawK retK QW Qt pel List.set Calls
attribute [local irreducible] JE Br eK0 eK3 brK
def formAll (n : Int) : List PN → Int → Bool
  | [], _ => true
  | x :: B, k => formedP x n k && formAll n B (k + 1)
def checkP (N : Int) (B : List PN) : Bool := decide (0 ≤ N ∧ N ≤ 128) && (decide (1 ≤ B.length ∧ B.length ≤ 65536) && formAll N B 0)
structure NetIn (a : Option Addr) (vs : List NV) (h : Heap) : Prop where
  so : SlT encNV 3 a vs h
  si : ∀ v, v ∈ vs → SlT encI 1 v.a v.l h
  sl : ∀ v, v ∈ vs → v.l.length ≤ 1000000
  hl : vs.length ≤ 1000000
theorem eCheckN : Entr Tryz.prog 60 := Entr.of Tryz.func60 rfl rfl
theorem getD_map (vs : List NV) (k : Nat) : (vs.map pnV).getD k default = pnV (vs.getD k default) := by
  rw [List.getD_eq_getElem?_getD, List.getD_eq_getElem?_getD, List.getElem?_map]
  cases vs[k]? with
  | none => rfl
  | some v => rfl
theorem form_drop (N : Int) (vs : List NV) (k : Nat) (hk : k < vs.length) : formAll N ((vs.drop k).map pnV) k = (formedP (pnV (vs.getD k default)) N k && formAll N ((vs.drop (k + 1)).map pnV) ((k + 1 : Nat) : Int)) := by
  rw [drop_g vs k hk]; rfl
set_option maxRecDepth 20000 in
theorem checkN_any (N : Int) (a : Option Addr) (cap : Nat) (vs : List NV) (h : Heap) (hr : NetIn a vs h) (w : World) (hw : Holds h w) :
    Calls Tryz.prog 60 #[.agg ⟨[.int .i64 N, .slice a vs.length cap]⟩] w fun e w' => e = .returned (.int .i64 (if checkP N (vs.map pnV) = true then 0 else 1)) ∧ Below w.heap.size w w' := by
  have q0 : ∀ L, RdH h L h := fun L => RdH.old fun _ hh => hh
  obtain ⟨so, si, sl, hl⟩ := hr
  have hC : checkP N (vs.map pnV) = (decide (0 ≤ N ∧ N ≤ 128) && (decide (1 ≤ vs.length ∧ vs.length ≤ 65536) && formAll N (vs.map pnV) 0)) := by unfold checkP; rw [List.length_map]
  by_cases hN : 0 ≤ N ∧ N ≤ 128
  case neg =>
    rw [decide_eq_false hN, Bool.false_and] at hC
    rw [hC]
    refine calls_of_JC (R := h) Tryz.func60 Tryz.ntmps60 rfl rfl (hw) ?_
    repeat' first
      | (refine J.isJ ?_; (first | (first | (refine J.o 0 ?_; refine J.ev' hΓ ?_) | refine J.nil ?_ | refine J.kd ?_ | (refine J.o 4 ?_; first | refine J.e0 hΓ ?_ | refine J.e1 hΓ ?_ | refine J.lT default hΓ ?_) | (refine J.o 3 ?_; first | refine J.iJ hΓ ?_ | refine J.ev' hΓ ?_) | (refine J.o 1 ?_; first | refine J.ad ?_) | (refine J.o 5 ?_; first | refine J.t0 hΓ ?_) | (refine J.o 6 ?_; refine J.bx (fun _ => ?_)) | (refine J.o 7 ?_; refine J.al hΓ (fun _ => ?_)) | (refine J.o 10 ?_; refine J.ev' hΓ ?_) | (refine J.o 11 ?_; refine J.ev' hΓ ?_)) | ((fail_if_success refine J.wt ?_); refine J.gc rfl rfl (fun hc => ?_) (fun hc => ?_) <;> ((try simp only [tcS] at hc) <;> first | (first | (exact absurd rfl hc) | (exfalso; omega) | (exact (tF hc (by assumption)).elim) | (exact (fT hc (by assumption)).elim)) | skip))))
      | (first | refine JC.seq ?_ | refine JC.region ?_ | refine JC.block ?_ | refine JC.ret ?_ | refine JC.exit ?_ | refine JC.skip ?_ | refine thenK.nn ?_ | refine thenK.r ?_ | refine thenK.x ?_ | refine blockK.nn ?_ | refine blockK.r ?_ | refine blockK.hit rfl ?_ | refine JC.condT rfl ?_ | refine JC.condF rfl ?_ | (refine JC.cond rfl (fun hc => ?_) (fun hc => ?_) <;> ((try simp only [tcS] at hc) <;> first | (first | (exact absurd rfl hc) | (exfalso; omega) | (exact (tF hc (by assumption)).elim) | (exact (fT hc (by assumption)).elim)) | skip)) | refine loopK.r ?_ | refine loopK.x ?_)
      | fail
    all_goals first | (exfalso; omega) | exact ret1f rfl rfl rfl (fun w1 hw => ⟨rfl, hw.below⟩)
  by_cases hM : 1 ≤ vs.length ∧ vs.length ≤ 65536
  case neg =>
    rw [decide_eq_false hM, Bool.false_and, Bool.and_false] at hC
    rw [hC]
    refine calls_of_JC (R := h) Tryz.func60 Tryz.ntmps60 rfl rfl (hw) ?_
    repeat' first
      | (refine J.isJ ?_; (first | (first | (refine J.o 0 ?_; refine J.ev' hΓ ?_) | refine J.nil ?_ | refine J.kd ?_ | (refine J.o 4 ?_; first | refine J.e0 hΓ ?_ | refine J.e1 hΓ ?_ | refine J.lT default hΓ ?_) | (refine J.o 3 ?_; first | refine J.iJ hΓ ?_ | refine J.ev' hΓ ?_) | (refine J.o 1 ?_; first | refine J.ad ?_) | (refine J.o 5 ?_; first | refine J.t0 hΓ ?_) | (refine J.o 6 ?_; refine J.bx (fun _ => ?_)) | (refine J.o 7 ?_; refine J.al hΓ (fun _ => ?_)) | (refine J.o 10 ?_; refine J.ev' hΓ ?_) | (refine J.o 11 ?_; refine J.ev' hΓ ?_)) | ((fail_if_success refine J.wt ?_); refine J.gc rfl rfl (fun hc => ?_) (fun hc => ?_) <;> ((try simp only [tcS] at hc) <;> first | (first | (exact absurd rfl hc) | (exfalso; omega) | (exact (tF hc (by assumption)).elim) | (exact (fT hc (by assumption)).elim)) | skip))))
      | (first | refine JC.seq ?_ | refine JC.region ?_ | refine JC.block ?_ | refine JC.ret ?_ | refine JC.exit ?_ | refine JC.skip ?_ | refine thenK.nn ?_ | refine thenK.r ?_ | refine thenK.x ?_ | refine blockK.nn ?_ | refine blockK.r ?_ | refine blockK.hit rfl ?_ | refine JC.condT rfl ?_ | refine JC.condF rfl ?_ | (refine JC.cond rfl (fun hc => ?_) (fun hc => ?_) <;> ((try simp only [tcS] at hc) <;> first | (first | (exact absurd rfl hc) | (exfalso; omega) | (exact (tF hc (by assumption)).elim) | (exact (fT hc (by assumption)).elim)) | skip)) | refine loopK.r ?_ | refine loopK.x ?_)
      | fail
    all_goals first | (exfalso; omega) | exact ret1f rfl rfl rfl (fun w1 hw => ⟨rfl, hw.below⟩)
  rw [decide_eq_true hN, decide_eq_true hM, Bool.true_and, Bool.true_and] at hC
  rw [hC]
  refine calls_of_JC (R := h) Tryz.func60 Tryz.ntmps60 rfl rfl (hw) ?_
  repeat' first
    | (refine J.isJ ?_; (first | (first | (refine J.o 0 ?_; refine J.ev' hΓ ?_) | refine J.nil ?_ | refine J.kd ?_ | (refine J.o 4 ?_; first | refine J.e0 hΓ ?_ | refine J.e1 hΓ ?_ | refine J.lT default hΓ ?_) | (refine J.o 3 ?_; first | refine J.iJ hΓ ?_ | refine J.ev' hΓ ?_) | (refine J.o 1 ?_; first | refine J.ad ?_) | (refine J.o 5 ?_; first | refine J.t0 hΓ ?_) | (refine J.o 6 ?_; refine J.bx (fun _ => ?_)) | (refine J.o 7 ?_; refine J.al hΓ (fun _ => ?_)) | (refine J.o 10 ?_; refine J.ev' hΓ ?_) | (refine J.o 11 ?_; refine J.ev' hΓ ?_)) | ((fail_if_success refine J.wt ?_); refine J.gc rfl rfl (fun hc => ?_) (fun hc => ?_) <;> ((try simp only [tcS] at hc) <;> first | (first | (exact absurd rfl hc) | (exfalso; omega) | (exact (tF hc (by assumption)).elim) | (exact (fT hc (by assumption)).elim)) | skip))))
    | (first | refine JC.seq ?_ | refine JC.region ?_ | refine JC.block ?_ | refine JC.ret ?_ | refine JC.exit ?_ | refine JC.skip ?_ | refine thenK.nn ?_ | refine thenK.r ?_ | refine thenK.x ?_ | refine blockK.nn ?_ | refine blockK.r ?_ | refine blockK.hit rfl ?_ | refine JC.condT rfl ?_ | refine JC.condF rfl ?_ | (refine JC.cond rfl (fun hc => ?_) (fun hc => ?_) <;> ((try simp only [tcS] at hc) <;> first | (first | (exact absurd rfl hc) | (exfalso; omega) | (exact (tF hc (by assumption)).elim) | (exact (fT hc (by assumption)).elim)) | skip)) | refine loopK.r ?_ | refine loopK.x ?_)
    | fail
  all_goals first | (exfalso; omega) | skip
  rename_i b1 _ _ _
  refine JC.gen [(1, .pointer (some ⟨b1, 0, none⟩)), (26, .slice a vs.length cap), (27, .int .i64 vs.length), (28, .int .i64 0)] ⟨rfl, rfl, rfl, rfl, trivial⟩ (fun F => ?_)
  refine JC.loopG (fun i => i == 2 || i == 3 || i == 4 || Nat.ble 28 i) (fun m g L => ∃ (k : Nat), g 28 = .int .i64 (k : Int) ∧ k + m = vs.length ∧ formAll N (vs.map pnV) 0 = formAll N ((vs.drop k).map pnV) k ∧ L = [[(b1, .cells ⟨[.int .i64 N, .slice a vs.length cap]⟩ 31 (0, 0))]]) vs.length ⟨0, rfl, by omega, rfl, rfl⟩ ?_
  rintro m g L ⟨k, e28, hkm, hi, rfl⟩
  refine JC.pin 28 e28 ?_
  clear e28
  rcases Nat.lt_or_ge k vs.length with hk | hk
  case inr =>
    rw [List.drop_eq_nil_of_le hk] at hi
    repeat' first
      | (refine J.isJ ?_; (first | (first | (refine J.o 0 ?_; refine J.ev' hΓ ?_) | refine J.nil ?_ | refine J.kd ?_ | (refine J.o 4 ?_; first | refine J.e0 hΓ ?_ | refine J.e1 hΓ ?_ | refine J.lT default hΓ ?_) | (refine J.o 3 ?_; first | refine J.iJ hΓ ?_ | refine J.ev' hΓ ?_) | (refine J.o 1 ?_; first | refine J.ad ?_) | (refine J.o 5 ?_; first | refine J.t0 hΓ ?_) | (refine J.o 6 ?_; refine J.bx (fun _ => ?_)) | (refine J.o 7 ?_; refine J.al hΓ (fun _ => ?_)) | (refine J.o 10 ?_; refine J.ev' hΓ ?_) | (refine J.o 11 ?_; refine J.ev' hΓ ?_)) | ((fail_if_success refine J.wt ?_); refine J.gc rfl rfl (fun hc => ?_) (fun hc => ?_) <;> ((try simp only [tcS] at hc) <;> first | (first | (exact absurd rfl hc) | (exfalso; omega) | (exact (tF hc (by assumption)).elim) | (exact (fT hc (by assumption)).elim)) | skip))))
      | (first | refine JC.seq ?_ | refine JC.region ?_ | refine JC.block ?_ | refine JC.ret ?_ | refine JC.exit ?_ | refine JC.skip ?_ | refine thenK.nn ?_ | refine thenK.r ?_ | refine thenK.x ?_ | refine blockK.nn ?_ | refine blockK.r ?_ | refine blockK.hit rfl ?_ | refine JC.condT rfl ?_ | refine JC.condF rfl ?_ | (refine JC.cond rfl (fun hc => ?_) (fun hc => ?_) <;> ((try simp only [tcS] at hc) <;> first | (first | (exact absurd rfl hc) | (exfalso; omega) | (exact (tF hc (by assumption)).elim) | (exact (fT hc (by assumption)).elim)) | skip)) | refine loopK.r ?_ | refine loopK.x ?_)
      | fail
    all_goals first | (exfalso; omega) | exact ret1f rfl rfl rfl (fun w1 hw => ⟨by rw [hi]; rfl, hw.below⟩)
  have hmm := mem_g vs k hk
  have cF := fun w hw => formedN_any (vs.getD k default) h (si _ hmm) (sl _ hmm) N k hN w hw
  rw [form_drop N vs k hk] at hi
  cases hb : formedP (pnV (vs.getD k default)) N k with
  | false =>
    rw [hb] at cF hi
    repeat' first
      | (refine J.isJ ?_; first | (first | (refine J.o 4 ?_; refine J.lT default hΓ ?_ (hs := so) (hr := q0 _)) | (refine J.fc 81 ?_; refine J.call0 eForm rfl rfl (fun w hw => cF w (hw.rdH (q0 _))) ?_)) | (first | (refine J.o 0 ?_; refine J.ev' hΓ ?_) | refine J.nil ?_ | refine J.kd ?_ | (refine J.o 4 ?_; first | refine J.e0 hΓ ?_ | refine J.e1 hΓ ?_ | refine J.lT default hΓ ?_) | (refine J.o 3 ?_; first | refine J.iJ hΓ ?_ | refine J.ev' hΓ ?_) | (refine J.o 1 ?_; first | refine J.ad ?_) | (refine J.o 5 ?_; first | refine J.t0 hΓ ?_) | (refine J.o 6 ?_; refine J.bx (fun _ => ?_)) | (refine J.o 7 ?_; refine J.al hΓ (fun _ => ?_)) | (refine J.o 10 ?_; refine J.ev' hΓ ?_) | (refine J.o 11 ?_; refine J.ev' hΓ ?_)) | ((fail_if_success refine J.wt ?_); refine J.gc rfl rfl (fun hc => ?_) (fun hc => ?_) <;> ((try simp only [tcS] at hc) <;> first | (first | (exact absurd rfl hc) | (exfalso; omega) | (exact (tF hc (by assumption)).elim) | (exact (fT hc (by assumption)).elim)) | skip)))
      | (first | refine JC.seq ?_ | refine JC.region ?_ | refine JC.block ?_ | refine JC.ret ?_ | refine JC.exit ?_ | refine JC.skip ?_ | refine thenK.nn ?_ | refine thenK.r ?_ | refine thenK.x ?_ | refine blockK.nn ?_ | refine blockK.r ?_ | refine blockK.hit rfl ?_ | refine JC.condT rfl ?_ | refine JC.condF rfl ?_ | (refine JC.cond rfl (fun hc => ?_) (fun hc => ?_) <;> ((try simp only [tcS] at hc) <;> first | (first | (exact absurd rfl hc) | (exfalso; omega) | (exact (tF hc (by assumption)).elim) | (exact (fT hc (by assumption)).elim)) | skip)) | refine loopK.r ?_ | refine loopK.x ?_)
      | (fail)
      | fail
    all_goals first | (exfalso; omega) | exact ret1f rfl rfl rfl (fun w1 hw => ⟨by rw [hi]; rfl, hw.below⟩)
  | true =>
    rw [hb] at cF hi
    repeat' first
      | (refine J.isJ ?_; first | (first | (refine J.o 4 ?_; refine J.lT default hΓ ?_ (hs := so) (hr := q0 _)) | (refine J.fc 81 ?_; refine J.call0 eForm rfl rfl (fun w hw => cF w (hw.rdH (q0 _))) ?_)) | (first | (refine J.o 0 ?_; refine J.ev' hΓ ?_) | refine J.nil ?_ | refine J.kd ?_ | (refine J.o 4 ?_; first | refine J.e0 hΓ ?_ | refine J.e1 hΓ ?_ | refine J.lT default hΓ ?_) | (refine J.o 3 ?_; first | refine J.iJ hΓ ?_ | refine J.ev' hΓ ?_) | (refine J.o 1 ?_; first | refine J.ad ?_) | (refine J.o 5 ?_; first | refine J.t0 hΓ ?_) | (refine J.o 6 ?_; refine J.bx (fun _ => ?_)) | (refine J.o 7 ?_; refine J.al hΓ (fun _ => ?_)) | (refine J.o 10 ?_; refine J.ev' hΓ ?_) | (refine J.o 11 ?_; refine J.ev' hΓ ?_)) | ((fail_if_success refine J.wt ?_); refine J.gc rfl rfl (fun hc => ?_) (fun hc => ?_) <;> ((try simp only [tcS] at hc) <;> first | (first | (exact absurd rfl hc) | (exfalso; omega) | (exact (tF hc (by assumption)).elim) | (exact (fT hc (by assumption)).elim)) | skip)))
      | (first | refine JC.seq ?_ | refine JC.region ?_ | refine JC.block ?_ | refine JC.ret ?_ | refine JC.exit ?_ | refine JC.skip ?_ | refine thenK.nn ?_ | refine thenK.r ?_ | refine thenK.x ?_ | refine blockK.nn ?_ | refine blockK.r ?_ | refine blockK.hit rfl ?_ | refine JC.condT rfl ?_ | refine JC.condF rfl ?_ | (refine JC.cond rfl (fun hc => ?_) (fun hc => ?_) <;> ((try simp only [tcS] at hc) <;> first | (first | (exact absurd rfl hc) | (exfalso; omega) | (exact (tF hc (by assumption)).elim) | (exact (fT hc (by assumption)).elim)) | skip)) | refine loopK.r ?_ | refine loopK.x ?_)
      | (fail)
      | fail
    all_goals first | (exfalso; omega) | skip
    all_goals refine loopK.nn (m - 1) (by omega) (by repeat (first | refine Ag.upd rfl ?_ | exact Ag.hv)) ⟨[[(b1, .cells ⟨[.int .i64 N, .slice a vs.length cap]⟩ 31 (0, 0))]], ⟨k + 1, ?_, by omega, hi, rfl⟩, fun w hw => H.sel (l := [_, _]) (M := []) hw [1]⟩
    all_goals (show Value.int .i64 _ = _; congr 1)
theorem eNew : Entr Tryz.prog 37 := Entr.of Tryz.func37 rfl rfl
theorem new_any (N : Int) (hN : 0 ≤ N ∧ N ≤ 128) {w0 w : World} {R : Heap} {L : List Heap} (hw : H w0 R L w) :
    Calls Tryz.prog 37 #[.int .i64 N] w fun e w' => ∃ v' L', e = .returned v' ∧ H w0 R L' w' ∧ ∃ b bm, v' = .tuple #[.pointer (some ⟨b, 0, none⟩), .int .i64 0] ∧ L' = bL N b none [] 0 bm [] [] [(bm, .map ⟨[]⟩ 0)] ++ L ∧ BS [] none 0 bm [] [] [(bm, .map ⟨[]⟩ 0)] := by
  refine calls_in Tryz.func37 Tryz.ntmps37 rfl rfl (hw) ?_
  repeat' first
    | (refine J.isJ ?_; first | ((refine J.o 9 ?_; refine J.mkm (fun bm => ?_))) | (first | (refine J.o 0 ?_; refine J.ev' hΓ ?_) | refine J.nil ?_ | (refine J.o 3 ?_; first | refine J.ev' hΓ ?_) | (refine J.o 6 ?_; refine J.bx (fun _ => ?_)) | (refine J.o 8 ?_; refine J.bd hΓ ?_) | (refine J.o 10 ?_; refine J.ev' hΓ ?_) | (refine J.o 11 ?_; refine J.ev' hΓ ?_)) | ((fail_if_success refine J.wt ?_); refine J.gc rfl rfl (fun hc => ?_) (fun hc => ?_) <;> ((try simp only [tcS] at hc) <;> first | (first | (exact absurd rfl hc) | (exfalso; omega) | (exact (tF hc (by assumption)).elim) | (exact (fT hc (by assumption)).elim)) | skip)))
    | (first | refine JC.seq ?_ | refine JC.region ?_ | refine JC.ret ?_ | refine JC.skip ?_ | refine thenK.nn ?_ | (refine JC.cond rfl (fun hc => ?_) (fun hc => ?_) <;> ((try simp only [tcS] at hc) <;> first | (first | (exact absurd rfl hc) | (exfalso; omega) | (exact (tF hc (by assumption)).elim) | (exact (fT hc (by assumption)).elim)) | skip)))
    | (fail)
    | fail
  all_goals first | (exfalso; omega) | skip
  exact ret2f rfl rfl rfl rfl rfl (fun w1 hw => ⟨_, _, rfl, H.sel (l := [_, _, _, _]) (M := L) hw.nilF.nilF [2, 0, 1, 3], _, bm, rfl, rfl, ⟨OwT.nil (fun _ => rfl), (fun v hv => absurd hv List.not_mem_nil), MapT.nil bm⟩⟩)
end Go.Proofs.YtdiciemlbhkilaaGreatDoor
namespace Go.Proofs.YtdiciemlbhkilaaGreatDoor
open Go Go.Cx Go.RowKit
set_option linter.unusedVariables false
set_option linter.unusedSimpArgs false
set_option maxHeartbeats 4000000
attribute [local irreducible] J JC thenK blockK loopK roundK drawK retK QW Qt pel List.set Calls
attribute [local irreducible] JE Br eK0 eK3 brK
open Go.Maps in
theorem keyedI : Keyed Tryz.prog 3 := int_keyed Tryz.underlying3
def evB (b : Bool) : Value := .bool b
def ekI (x : Int) : Value := .int .i64 x
theorem ekI_inj (x y : Int) (h : ekI x = ekI y) : x = y := by simpa [ekI] using h
theorem keyI (x : Int) (h : -9223372036854775808 ≤ x ∧ x ≤ 9223372036854775807) : ∃ l, keyOf Tryz.prog 3 (ekI x) = some l := ⟨_, Go.Maps.keyOf_int_mk (q := .i64) (a := x) Tryz.underlying3 (by
  show (decide ((-9223372036854775808 : Int) ≤ x) && decide (x ≤ (9223372036854775807 : Int))) = true
  simp [h])⟩
theorem mget_mput {κ β : Type} [DecidableEq κ] (m : List (κ × β)) (x z : κ) (y : β) : mget (mput m x y) z = if z = x then some y else mget m z := by
  unfold mput
  by_cases hc : (m.map (·.1)).contains x = true
  · rw [if_pos hc]
    have hf : ∀ l : List (κ × β), (l.map (fun p => if p.1 = x then (x, y) else p)).find? (fun p => decide (p.1 = z)) = (l.find? (fun p => decide (p.1 = z))).map (fun p => if p.1 = x then (x, y) else p) := by
      intro l
      induction l with
      | nil => rfl
      | cons q l ih =>
        rw [List.map_cons, List.find?_cons, List.find?_cons]
        have hk : (if q.1 = x then (x, y) else q).1 = q.1 := by split <;> simp_all
        rw [hk]
        by_cases hq : q.1 = z
        · rw [decide_eq_true hq]; rfl
        · rw [decide_eq_false hq]; exact ih
    unfold mget
    rw [hf]
    by_cases hz : z = x
    · subst hz
      rw [if_pos rfl]
      have hm : z ∈ m.map (·.1) := by simpa using hc
      obtain ⟨q, hq, hq1⟩ := List.mem_map.1 hm
      cases hfd : m.find? (fun p => decide (p.1 = z)) with
      | none =>
        have := List.find?_eq_none.1 hfd q hq
        simp [hq1] at this
      | some q' =>
        have := List.find?_some hfd
        simp only [decide_eq_true_eq] at this
        simp [this]
    · rw [if_neg hz]
      cases hfd : m.find? (fun p => decide (p.1 = z)) with
      | none => rfl
      | some q' =>
        have := List.find?_some hfd
        simp only [decide_eq_true_eq] at this
        simp [this, hz]
  · rw [if_neg hc]
    unfold mget
    rw [List.find?_append]
    by_cases hz : z = x
    · subst hz
      rw [if_pos rfl]
      have hn : m.find? (fun p => decide (p.1 = z)) = none := by
        rw [List.find?_eq_none]
        intro p hp he
        simp only [decide_eq_true_eq] at he
        exact hc (by simp only [List.contains_eq_mem, decide_eq_true_eq]; exact he ▸ List.mem_map_of_mem hp)
      rw [hn]
      simp
    · rw [if_neg hz]
      have : [(x, y)].find? (fun p : κ × β => decide (p.1 = z)) = none := by
        rw [List.find?_eq_none]
        intro p hp
        rw [List.mem_singleton.1 hp]
        simp [Ne.symm hz]
      rw [this, Option.or_none]
theorem eIndex : Entr Tryz.prog 140 := Entr.of Tryz.func140 rfl rfl
theorem eContains : Entr Tryz.prog 121 := Entr.of Tryz.func121 rfl rfl
def idxR : List Int → Int → Int → Int
  | [], _, _ => -1
  | y :: l, x, k => if x = y then k else idxR l x (k + 1)
theorem idxR_nn (x : Int) : ∀ (l : List Int) (k : Int), 0 ≤ k → (0 ≤ idxR l x k ↔ x ∈ l)
  | [], k, hk => by simp [idxR]
  | y :: l, k, hk => by
    unfold idxR
    by_cases h : x = y
    · rw [if_pos h]; simp [h, hk]
    · rw [if_neg h, idxR_nn x l (k + 1) (by omega)]; simp [h]
theorem index_any (a : Option Addr) (cap : Nat) (l : List Int) (x : Int) (h : Heap) (hs : SlT encI 1 a l h) (hl : l.length ≤ 10000000000000) (w : World) (hw : Holds h w) :
    Calls Tryz.prog 140 #[.slice a l.length cap, .int .i64 x] w fun e w' => e = .returned (.int .i64 (idxR l x 0)) ∧ Below w.heap.size w w' := by
  refine calls_of_JC (R := h) Tryz.func140 Tryz.ntmps140 rfl rfl (hw) ?_
  repeat' first
    | (refine J.isJ ?_; (first | (first | (refine J.o 0 ?_; refine J.ev' hΓ ?_) | refine J.nil ?_ | (refine J.o 4 ?_; first | refine J.lT default hΓ ?_) | (refine J.o 3 ?_; first | refine J.iJ hΓ ?_ | refine J.ev' hΓ ?_) | (refine J.o 1 ?_; first | refine J.ad ?_) | (refine J.o 10 ?_; refine J.ev' hΓ ?_) | (refine J.o 11 ?_; refine J.ev' hΓ ?_))))
    | (first | refine JC.seq ?_ | refine JC.region ?_ | refine JC.block ?_ | refine JC.ret ?_ | refine JC.exit ?_ | refine JC.skip ?_ | refine thenK.nn ?_ | refine thenK.r ?_ | refine thenK.x ?_ | refine blockK.nn ?_ | refine blockK.r ?_ | refine blockK.hit rfl ?_ | (refine JC.cond rfl (fun hc => ?_) (fun hc => ?_) <;> ((try simp only [tcS] at hc) <;> first | (first | (exact absurd rfl hc) | (exfalso; omega) | (exact (tF hc (by assumption)).elim) | (exact (fT hc (by assumption)).elim)) | skip)) | refine loopK.r ?_ | refine loopK.x ?_)
    | fail
  all_goals first | (exfalso; omega) | skip
  refine JC.loop (fun i => Nat.ble 4 i) (fun m g L => ∃ (k : Nat), g 6 = .slice a l.length cap ∧ g 7 = .int .i64 (l.length : Int) ∧ g 8 = .int .i64 (k : Int) ∧ k + m = l.length ∧ idxR (l.drop k) x k = idxR l x 0 ∧ L = _) l.length ⟨0, rfl, rfl, rfl, by omega, rfl, rfl⟩ ?_
  rintro m g L ⟨k, e6, e7, e8, hkm, hany, rfl⟩
  refine JC.pin 6 e6 (JC.pin 7 e7 (JC.pin 8 e8 ?_))
  clear e6 e7 e8
  rcases Nat.lt_or_ge k l.length with hk | hk
  · rw [drop_g l k hk, idxR] at hany
    by_cases hx : x = l.getD k default
    · rw [if_pos hx] at hany
      repeat' first
        | (refine J.isJ ?_; (first | (first | (refine J.o 0 ?_; refine J.ev' hΓ ?_) | refine J.nil ?_ | (refine J.o 4 ?_; first | refine J.lT default hΓ ?_) | (refine J.o 3 ?_; first | refine J.iJ hΓ ?_ | refine J.ev' hΓ ?_) | (refine J.o 1 ?_; first | refine J.ad ?_) | (refine J.o 10 ?_; refine J.ev' hΓ ?_) | (refine J.o 11 ?_; refine J.ev' hΓ ?_))))
        | (first | refine JC.seq ?_ | refine JC.region ?_ | refine JC.block ?_ | refine JC.ret ?_ | refine JC.exit ?_ | refine JC.skip ?_ | refine thenK.nn ?_ | refine thenK.r ?_ | refine thenK.x ?_ | refine blockK.nn ?_ | refine blockK.r ?_ | refine blockK.hit rfl ?_ | (refine JC.cond rfl (fun hc => ?_) (fun hc => ?_) <;> ((try simp only [tcS] at hc) <;> first | (first | (exact absurd rfl hc) | (exfalso; omega) | (exact (tF hc (by assumption)).elim) | (exact (fT hc (by assumption)).elim)) | skip)) | refine loopK.r ?_ | refine loopK.x ?_)
        | fail
      all_goals first | (exfalso; omega) | exact ret1f rfl rfl rfl (fun w1 hw => ⟨by rw [← hany], hw.below⟩)
    · rw [if_neg hx] at hany
      repeat' first
        | (refine J.isJ ?_; (first | (first | (refine J.o 0 ?_; refine J.ev' hΓ ?_) | refine J.nil ?_ | (refine J.o 4 ?_; first | refine J.lT default hΓ ?_) | (refine J.o 3 ?_; first | refine J.iJ hΓ ?_ | refine J.ev' hΓ ?_) | (refine J.o 1 ?_; first | refine J.ad ?_) | (refine J.o 10 ?_; refine J.ev' hΓ ?_) | (refine J.o 11 ?_; refine J.ev' hΓ ?_))))
        | (first | refine JC.seq ?_ | refine JC.region ?_ | refine JC.block ?_ | refine JC.ret ?_ | refine JC.exit ?_ | refine JC.skip ?_ | refine thenK.nn ?_ | refine thenK.r ?_ | refine thenK.x ?_ | refine blockK.nn ?_ | refine blockK.r ?_ | refine blockK.hit rfl ?_ | (refine JC.cond rfl (fun hc => ?_) (fun hc => ?_) <;> ((try simp only [tcS] at hc) <;> first | (first | (exact absurd rfl hc) | (exfalso; omega) | (exact (tF hc (by assumption)).elim) | (exact (fT hc (by assumption)).elim)) | skip)) | refine loopK.r ?_ | refine loopK.x ?_)
        | fail
      all_goals first | (exfalso; omega) | skip
      all_goals refine loopK.nn (m - 1) (by omega) (by repeat (first | refine Ag.upd rfl ?_ | exact Ag.hv)) ⟨k + 1, rfl, rfl, ?_, by omega, by rw [← hany]; congr 1, rfl⟩
      all_goals (show Value.int .i64 _ = _; congr 1)
  rw [List.drop_eq_nil_of_le hk, idxR] at hany
  repeat' first
    | (refine J.isJ ?_; (first | (first | (refine J.o 0 ?_; refine J.ev' hΓ ?_) | refine J.nil ?_ | (refine J.o 4 ?_; first | refine J.lT default hΓ ?_) | (refine J.o 3 ?_; first | refine J.iJ hΓ ?_ | refine J.ev' hΓ ?_) | (refine J.o 1 ?_; first | refine J.ad ?_) | (refine J.o 10 ?_; refine J.ev' hΓ ?_) | (refine J.o 11 ?_; refine J.ev' hΓ ?_))))
    | (first | refine JC.seq ?_ | refine JC.region ?_ | refine JC.block ?_ | refine JC.ret ?_ | refine JC.exit ?_ | refine JC.skip ?_ | refine thenK.nn ?_ | refine thenK.r ?_ | refine thenK.x ?_ | refine blockK.nn ?_ | refine blockK.r ?_ | refine blockK.hit rfl ?_ | (refine JC.cond rfl (fun hc => ?_) (fun hc => ?_) <;> ((try simp only [tcS] at hc) <;> first | (first | (exact absurd rfl hc) | (exfalso; omega) | (exact (tF hc (by assumption)).elim) | (exact (fT hc (by assumption)).elim)) | skip)) | refine loopK.r ?_ | refine loopK.x ?_)
    | fail
  all_goals first | (exfalso; omega) | exact ret1f rfl rfl rfl (fun w1 hw => ⟨by rw [← hany], hw.below⟩)
theorem contains_any (a : Option Addr) (cap : Nat) (l : List Int) (x : Int) (h : Heap) (hs : SlT encI 1 a l h) (hl : l.length ≤ 10000000000000) (w : World) (hw : Holds h w) :
    Calls Tryz.prog 121 #[.slice a l.length cap, .int .i64 x] w fun e w' => e = .returned (.bool (decide (x ∈ l))) ∧ Below w.heap.size w w' := by
  have hn := idxR_nn x l 0 (by omega)
  refine calls_of_JC (R := h) Tryz.func121 Tryz.ntmps121 rfl rfl (hw) ?_
  repeat' first
    | (refine J.isJ ?_; first | (first | (refine J.o 0 ?_; refine J.ev' hΓ ?_) | refine J.nil ?_ | (refine J.o 3 ?_; first | refine J.ev' hΓ ?_) | (refine J.o 10 ?_; refine J.ev' hΓ ?_) | (refine J.o 11 ?_; refine J.ev' hΓ ?_)) | ((refine J.fc 140 ?_; refine J.call0 eIndex rfl rfl (fun w hw => index_any a cap l x h hs hl w (hw.rdH (RdH.old fun _ hh => hh))) ?_)))
    | (first | refine JC.seq ?_ | refine JC.region ?_ | refine JC.ret ?_ | refine thenK.nn ?_)
    | fail
  all_goals first | (exfalso; omega) | skip
  all_goals exact ret1f rfl rfl rfl (fun w1 hw => ⟨retB (by rw [decide_eq_decide]; exact hn), hw.below⟩)
def LM (lits : List Int) (lm : List (Int × Bool)) : Prop := ∀ x, mget lm x = if x ∈ lits then some true else none
theorem LM.put {lits : List Int} {lm : List (Int × Bool)} (h : LM lits lm) (y : Int) : LM (y :: lits) (mput lm y true) := fun x => by
  rw [mget_mput, h x]
  by_cases e : x = y
  · rw [if_pos e, if_pos (by rw [e]; exact List.mem_cons_self)]
  · rw [if_neg e]
    by_cases hx : x ∈ lits
    · rw [if_pos hx, if_pos (List.mem_cons_of_mem _ hx)]
    · rw [if_neg hx, if_neg (fun hm => (List.mem_cons.1 hm).elim e hx)]
section
variable {P : Program} {n : Nat} {w0 : World} {R : Heap} {K0 : Exit → Fr → List Heap → Prop} {f : Fr} {L : List Heap} {l0 : List Oper} {rest : List (Nat × Oper)} {q : Nat}
variable {Γ : List (Nat × Go.Cx.TI)} {d : Nat} {ty : TypeId} {pos : String} {aft : Array Edge} {g : Option (Nat × Bool)} {kt e : TypeId}
theorem J.lkB {t : TypeId} {m x : Operand} {mm : List (Int × Bool)} {lits : List Int} {b : Nat} {h : Heap} {a : Int} {s1 s2 b1 b2 : Nat} {z1 : Option Value} {de : TypeDesc} (K : Go.Maps.Keyed P kt) (hml : LM lits mm) (mt : MapT P kt ekI evB mm b h) (hr : RdH R L h) (hkey : ∃ l, keyOf P kt (ekI a) = some l) (hΓ : Fits P Γ)
    (k : J P n w0 R l0 K0 rest (upd f d (.bool (lits.contains a))) L)
    (hg : wantB n f l0 ⟨some d, .lookup t m x false, ty, pos, aft, g⟩ = true := by exact rfl) (hm : Cx.ev n f m = .map (some b) := by exact rfl) (hx : Cx.ev n f x = ekI a := by exact rfl) (ht : Go.Cx.look Γ t = some ⟨.map kt e, s1, z1, b1⟩ := by exact rfl) (he : Go.Cx.look Γ e = some ⟨de, s2, some (.bool false), b2⟩ := by exact rfl) :
    J P n w0 R l0 K0 ((q + 1, ⟨some d, .lookup t m x false, ty, pos, aft, g⟩) :: rest) f L := by
  refine J.lk K ekI_inj mt hr hkey hΓ ?_ hg hm hx ht he
  rw [hml a]
  by_cases h : a ∈ lits
  · rw [if_pos h]
    rw [List.contains_iff_mem.2 h] at k
    exact k
  · rw [if_neg h]
    rw [show lits.contains a = false by simpa using h] at k
    exact k
end
theorem addS_end {B : List PN} {drop end_ i : Int} {s : StN} (he : kindP B i = end_) : addS B drop end_ s i = ⟨s.out, if kindP B i = 2 then litP B i :: s.lits else s.lits, false⟩ := by
  unfold addS
  simp [he]
theorem addS_opp {B : List PN} {drop end_ i : Int} {s : StN} (h2 : kindP B i = 2) (hc : s.lits.contains (-(litP B i)) = true) : addS B drop end_ s i = ⟨s.out, if kindP B i = 2 then litP B i :: s.lits else s.lits, false⟩ := by
  unfold addS
  simp only [h2, hc, decide_true, Bool.true_and, Bool.or_true, Bool.not_true, Bool.and_false]
  simp
theorem addS_bad {B : List PN} {end_ i : Int} {s : StN} (he : kindP B i ≠ end_) (h2 : kindP B i ≠ 2 ∨ s.lits.contains (-(litP B i)) = false) : (decide (kindP B i = end_) || (decide (kindP B i = 2) && s.lits.contains (-(litP B i)))) = false := by
  rw [decide_eq_false he, Bool.false_or]
  rcases h2 with h2 | h2
  · rw [decide_eq_false h2]; rfl
  · rw [h2, Bool.and_false]
theorem addS_add {B : List PN} {drop end_ i : Int} {s : StN} (he : kindP B i ≠ end_) (h2 : kindP B i ≠ 2 ∨ s.lits.contains (-(litP B i)) = false) (hd : kindP B i ≠ drop) (hm : i ∉ s.out) : addS B drop end_ s i = ⟨s.out ++ [i], if kindP B i = 2 then litP B i :: s.lits else s.lits, s.open_⟩ := by
  unfold addS
  simp only [addS_bad he h2, Bool.not_false, Bool.and_true, true_and]
  rw [if_pos ⟨hd, hm⟩]
theorem addS_drop {B : List PN} {drop end_ i : Int} {s : StN} (he : kindP B i ≠ end_) (h2 : kindP B i ≠ 2 ∨ s.lits.contains (-(litP B i)) = false) (hd : kindP B i = drop ∨ i ∈ s.out) : addS B drop end_ s i = ⟨s.out, if kindP B i = 2 then litP B i :: s.lits else s.lits, s.open_⟩ := by
  unfold addS
  have : ¬ (kindP B i ≠ drop ∧ i ∉ s.out) := fun h => hd.elim h.1 h.2
  simp only [addS_bad he h2, Bool.not_false, Bool.and_true, true_and]
  rw [if_neg this]
theorem eAdd1 : Entr Tryz.prog 120 := Entr.of Tryz.func120 rfl rfl
def ptrO (b : Nat) : Obj := .cells ⟨[.pointer (some ⟨b, 0, none⟩)]⟩ 77 (0, 0)
def slO (a : Option Addr) (len cap : Nat) : Obj := .cells ⟨[.slice a len cap]⟩ 80 (0, 0)
def mapO (b : Nat) : Obj := .cells ⟨[.map (some b)]⟩ 160 (0, 0)
def boolO (b : Bool) : Obj := .cells ⟨[.bool b]⟩ 4 (0, 0)
structure AddR (R : Heap) (L : List Heap) (n5 n8 n9 : Nat) (n : Int) (b : Nat) (a : Option Addr) (vs : List NV) (cap bm : Nat) (ho : Heap) (drop end_ : Int) : Prop where
  rb : Rd R L n5 (ptrO b)
  rd : Rd R L n8 (intO drop)
  re : Rd R L n9 (intO end_)
  rB : Rd R L b (bO n a vs.length cap bm)
  rN : RdH R L ho
structure AddW (s : StN) (ao : Option Addr) (co : Nat) (hO : Heap) (lm : List (Int × Bool)) (bl : Nat) (hM : Heap) : Prop where
  oo : OwT encI 1 3 ao co s.out hO
  mt : MapT Tryz.prog 3 ekI evB lm bl hM
  ml : LM s.lits lm
def addL (s : StN) (n12 n13 n14 : Nat) (ao : Option Addr) (co : Nat) (hO : Heap) (bl : Nat) (hM : Heap) : List Heap := [[(n12, slO ao s.out.length co)], hO, [(n13, mapO bl)], hM, [(n14, boolO s.open_)]]
theorem add1_any (i : Int) {w0 w : World} {R : Heap} {L : List Heap} {n5 n8 n9 n12 n13 n14 b cap bm co bl : Nat} {n drop end_ : Int} {a ao : Option Addr} {vs : List NV} {s : StN} {ho hO hM : Heap} {lm : List (Int × Bool)} (rd : AddR R L n5 n8 n9 n b a vs cap bm ho drop end_) (ow : OwT encNV 3 82 a cap vs ho) (hi : 0 ≤ i ∧ i < vs.length) (hvl : vs.length ≤ 1000000) (hlit : ∀ v, v ∈ vs → -128 ≤ v.lit ∧ v.lit ≤ 128) (aw : AddW s ao co hO lm bl hM) (hol : s.out.length ≤ 10000000000000) (hw : H w0 R (addL s n12 n13 n14 ao co hO bl hM ++ L) w) :
    Calls Tryz.prog 120 #[.int .i64 i, .pointer (some ⟨n5, 0, none⟩), .pointer (some ⟨n9, 0, none⟩), .pointer (some ⟨n13, 0, none⟩), .pointer (some ⟨n14, 0, none⟩), .pointer (some ⟨n8, 0, none⟩), .pointer (some ⟨n12, 0, none⟩)] w fun e w' => ∃ v' L', e = .returned v' ∧ H w0 R L' w' ∧ ∃ ao' co' hO' lm' hM', v' = .tuple #[] ∧ L' = addL (addS (vs.map pnV) drop end_ s i) n12 n13 n14 ao' co' hO' bl hM' ++ L ∧ AddW (addS (vs.map pnV) drop end_ s i) ao' co' hO' lm' bl hM' := by
  obtain ⟨rb, rdd, re, rB, rN⟩ := rd
  obtain ⟨oo, mt, ml⟩ := aw
  obtain ⟨k, rfl⟩ : ∃ k : Nat, i = (k : Int) := ⟨i.toNat, by omega⟩
  have hk : k < vs.length := by omega
  have hv := hlit _ (mem_g vs k hk)
  have hkind : kindP (vs.map pnV) k = (vs.getD k default).kind := by unfold kindP; rw [Int.toNat_natCast, getD_map]; rfl
  have hlitP : litP (vs.map pnV) k = (vs.getD k default).lit := by unfold litP; rw [Int.toNat_natCast, getD_map]; rfl
  unfold ptrO at rb
  unfold intO at rdd re
  unfold bO at rB
  unfold addL at hw ⊢
  simp only [List.cons_append, List.nil_append] at hw ⊢
  refine calls_in Tryz.func120 Tryz.ntmps120 rfl rfl (hw) ?_
  unfold slO mapO boolO
  repeat' first
    | (refine J.isJ ?_; first | (first | (refine J.o 4 ?_; first | refine J.lR hΓ ?_ (hr := rb.tl.tl.tl.tl.tl) | refine J.lR hΓ ?_ (hr := rB.tl.tl.tl.tl.tl) | refine J.lT default hΓ ?_ (hs := ow.sl) (hr := rN.tl.tl.tl.tl.tl) | refine J.lR hΓ ?_ (hr := re.tl.tl.tl.tl.tl.tl) | refine J.lR hΓ ?_ (hr := rdd.tl.tl.tl.tl.tl.tl)) | (refine J.o 4 ?_; first | refine J.e3 hΓ ?_ | refine J.e4 hΓ ?_) | (refine J.o 9 ?_; refine J.lkB keyedI ml mt (RdH.hd.tl.tl.tl.tl) (keyI (-(vs.getD k default).lit) (by omega)) hΓ ?_) | (refine J.fc 121 ?_; refine J.call0 eContains rfl rfl (fun w hw => contains_any ao co s.out k hO oo.sl hol w (hw.rdH RdH.hd.tl.tl)) ?_) | (refine J.o 9 ?_; first | (first | (refine J.ap1 (enc := encI) [(k : Int)] hΓ (fun a2 c2 h2 o2 => ?_)) | (refine J.perm (br1.cons _) ?_; refine J.ap1 (enc := encI) [(k : Int)] hΓ (fun a2 c2 h2 o2 => ?_)) | (refine J.perm (br2.cons _) ?_; refine J.ap1 (enc := encI) [(k : Int)] hΓ (fun a2 c2 h2 o2 => ?_)) | (refine J.perm (br3.cons _) ?_; refine J.ap1 (enc := encI) [(k : Int)] hΓ (fun a2 c2 h2 o2 => ?_)) | (refine J.perm (br4.cons _) ?_; refine J.ap1 (enc := encI) [(k : Int)] hΓ (fun a2 c2 h2 o2 => ?_)) | (refine J.perm (br5.cons _) ?_; refine J.ap1 (enc := encI) [(k : Int)] hΓ (fun a2 c2 h2 o2 => ?_))) | (refine J.perm br1 ?_; first | (refine J.ap1 (enc := encI) [(k : Int)] hΓ (fun a2 c2 h2 o2 => ?_)) | (refine J.perm (br1.cons _) ?_; refine J.ap1 (enc := encI) [(k : Int)] hΓ (fun a2 c2 h2 o2 => ?_)) | (refine J.perm (br2.cons _) ?_; refine J.ap1 (enc := encI) [(k : Int)] hΓ (fun a2 c2 h2 o2 => ?_)) | (refine J.perm (br3.cons _) ?_; refine J.ap1 (enc := encI) [(k : Int)] hΓ (fun a2 c2 h2 o2 => ?_)) | (refine J.perm (br4.cons _) ?_; refine J.ap1 (enc := encI) [(k : Int)] hΓ (fun a2 c2 h2 o2 => ?_)) | (refine J.perm (br5.cons _) ?_; refine J.ap1 (enc := encI) [(k : Int)] hΓ (fun a2 c2 h2 o2 => ?_))) | (refine J.perm br2 ?_; first | (refine J.ap1 (enc := encI) [(k : Int)] hΓ (fun a2 c2 h2 o2 => ?_)) | (refine J.perm (br1.cons _) ?_; refine J.ap1 (enc := encI) [(k : Int)] hΓ (fun a2 c2 h2 o2 => ?_)) | (refine J.perm (br2.cons _) ?_; refine J.ap1 (enc := encI) [(k : Int)] hΓ (fun a2 c2 h2 o2 => ?_)) | (refine J.perm (br3.cons _) ?_; refine J.ap1 (enc := encI) [(k : Int)] hΓ (fun a2 c2 h2 o2 => ?_)) | (refine J.perm (br4.cons _) ?_; refine J.ap1 (enc := encI) [(k : Int)] hΓ (fun a2 c2 h2 o2 => ?_)) | (refine J.perm (br5.cons _) ?_; refine J.ap1 (enc := encI) [(k : Int)] hΓ (fun a2 c2 h2 o2 => ?_)))) | (refine J.o 5 ?_; first | (refine J.perm br3 ?_; refine J.t0 hΓ ?_) | (refine J.perm br4 ?_; refine J.t0 hΓ ?_) | (refine J.perm br5 ?_; refine J.t0 hΓ ?_) | (refine J.perm br6 ?_; refine J.t0 hΓ ?_) | (refine J.perm br7 ?_; refine J.t0 hΓ ?_)) | (refine J.o 9 ?_; first | refine J.perm br4 (J.mup (ev := evB) true keyedI ekI_inj mt (keyI (vs.getD k default).lit (by omega)) hΓ (fun h3 mt3 => ?_)) | refine J.perm br5 (J.mup (ev := evB) true keyedI ekI_inj mt (keyI (vs.getD k default).lit (by omega)) hΓ (fun h3 mt3 => ?_)))) | (first | (refine J.o 0 ?_; refine J.ev' hΓ ?_) | refine J.nil ?_ | refine J.kd ?_ | (refine J.o 4 ?_; first | refine J.e0 hΓ ?_ | refine J.e1 hΓ ?_ | refine J.lT default hΓ ?_ | refine J.lR hΓ ?_) | (refine J.o 3 ?_; first | refine J.iJ hΓ ?_ | refine J.ev' hΓ ?_) | (refine J.o 1 ?_; first | refine J.ng ?_) | (refine J.o 5 ?_; first | refine J.t0 hΓ ?_ | refine J.t2 hΓ ?_) | (refine J.o 7 ?_; refine J.al hΓ (fun _ => ?_)) | (refine J.o 9 ?_; refine J.bl hΓ (fun _ => ?_)) | (refine J.o 10 ?_; refine J.ev' hΓ ?_) | (refine J.o 11 ?_; refine J.ev' hΓ ?_)) | ((fail_if_success refine J.wt ?_); refine J.gc rfl rfl (fun hc => ?_) (fun hc => ?_) <;> ((try simp only [tcS] at hc) <;> first | (first | (exact absurd rfl hc) | (exfalso; omega) | (exact (tF hc (by assumption)).elim) | (exact (fT hc (by assumption)).elim)) | skip)))
    | (first | refine JC.seq ?_ | refine JC.region ?_ | refine JC.block ?_ | refine JC.skip ?_ | refine thenK.nn ?_ | refine blockK.nn ?_ | refine JC.condT rfl ?_ | refine JC.condF rfl ?_ | (refine JC.cond rfl (fun hc => ?_) (fun hc => ?_) <;> ((try simp only [tcS] at hc) <;> first | (first | (exact absurd rfl hc) | (exfalso; omega) | (exact (tF hc (by assumption)).elim) | (exact (fT hc (by assumption)).elim)) | skip)))
    | fail
  all_goals first
    | rw [addS_end (hkind.trans (by assumption))]
    | rw [addS_opp (hkind.trans (by assumption)) (by rw [hlitP]; assumption)]
    | rw [addS_add (by rw [hkind]; assumption) (.inl (by rw [hkind]; assumption)) (by rw [hkind]; assumption) (by assumption)]
    | rw [addS_add (by rw [hkind]; assumption) (.inr (by rw [hlitP]; assumption)) (by rw [hkind]; assumption) (by assumption)]
    | rw [addS_drop (by rw [hkind]; assumption) (.inl (by rw [hkind]; assumption)) (.inl (by rw [hkind]; assumption))]
    | rw [addS_drop (by rw [hkind]; assumption) (.inl (by rw [hkind]; assumption)) (.inr (by assumption))]
    | rw [addS_drop (by rw [hkind]; assumption) (.inr (by rw [hlitP]; assumption)) (.inl (by rw [hkind]; assumption))]
    | rw [addS_drop (by rw [hkind]; assumption) (.inr (by rw [hlitP]; assumption)) (.inr (by assumption))]
  all_goals first | rw [if_pos (hkind.trans (by assumption)), hlitP] | rw [if_neg (by rw [hkind]; assumption)]
  all_goals first
    | exact ret0n rfl (fun w1 hw => ⟨_, _, rfl, H.sel (l := [_, _, _, _, _, _]) (M := L) hw [3, 4, 5, 0, 1], _, _, _, _, _, rfl, rfl, ⟨oo, mt3, ml.put _⟩⟩)
    | exact ret0n rfl (fun w1 hw => ⟨_, _, rfl, H.sel (l := [_, _, _, _, _, _]) (M := L) hw [2, 3, 4, 5, 0], _, _, _, _, _, rfl, rfl, ⟨oo, mt, ml⟩⟩)
    | exact ret0n rfl (fun w1 hw => ⟨_, _, rfl, H.sel (l := [_, _, _, _, _, _]) (M := L) hw [3, 1, 4, 0, 5], _, _, _, _, _, rfl, rfl, ⟨o2, mt3, ml.put _⟩⟩)
    | exact ret0n rfl (fun w1 hw => ⟨_, _, rfl, H.sel (l := [_, _, _, _, _, _]) (M := L) hw [2, 0, 3, 4, 5], _, _, _, _, _, rfl, rfl, ⟨o2, mt, ml⟩⟩)
    | exact ret0n rfl (fun w1 hw => ⟨_, _, rfl, H.sel (l := [_, _, _, _, _, _]) (M := L) hw [2, 3, 4, 0, 5], _, _, _, _, _, rfl, rfl, ⟨oo, mt3, ml.put _⟩⟩)
    | exact ret0n rfl (fun w1 hw => ⟨_, _, rfl, H.sel (l := [_, _, _, _, _, _]) (M := L) hw [1, 2, 3, 4, 5], _, _, _, _, _, rfl, rfl, ⟨oo, mt, ml⟩⟩)
    | trace_state
end Go.Proofs.YtdiciemlbhkilaaGreatDoor
namespace Go.Proofs.YtdiciemlbhkilaaGreatDoor
open Go Go.Cx Go.RowKit
set_option linter.unusedVariables false
set_option linter.unusedSimpArgs false
set_option maxHeartbeats 4000000
attribute [local irreducible] J JC thenK blockK loopK roundK drawK retK QW Qt pel List.set Calls
attribute [local irreducible] JE Br eK0 eK3 brK
open Go.Lib
theorem insS_perm : ∀ (l : List Int) (x : Int), (insS l x).Perm (x :: l)
  | [], x => .refl _
  | y :: l, x => by
    unfold insS
    split
    · exact .refl _
    · exact ((insS_perm l x).cons y).trans (.swap _ _ _)
theorem insS_sorted : ∀ (l : List Int) (x : Int), l.Pairwise (· ≤ ·) → (insS l x).Pairwise (· ≤ ·)
  | [], x, _ => by simp [insS]
  | y :: l, x, h => by
    unfold insS
    rw [List.pairwise_cons] at h
    split
    · rename_i hxy
      refine List.pairwise_cons.2 ⟨fun z hz => ?_, List.pairwise_cons.2 h⟩
      rcases List.mem_cons.1 hz with rfl | hz
      · omega
      · have := h.1 z hz; omega
    · rename_i hxy
      refine List.pairwise_cons.2 ⟨fun z hz => ?_, insS_sorted l x h.2⟩
      have := (insS_perm l x).mem_iff.1 hz
      rcases List.mem_cons.1 this with rfl | hz
      · omega
      · exact h.1 z hz
theorem sortS_go : ∀ (l acc : List Int), acc.Pairwise (· ≤ ·) → (l.foldl insS acc).Perm (acc ++ l) ∧ (l.foldl insS acc).Pairwise (· ≤ ·)
  | [], acc, h => ⟨by simp, h⟩
  | x :: l, acc, h => by
    have ih := sortS_go l (insS acc x) (insS_sorted acc x h)
    refine ⟨ih.1.trans ?_, ih.2⟩
    refine ((insS_perm acc x).append_right l).trans ?_
    exact (List.perm_middle).symm
theorem sortS_perm (l : List Int) : (sortS l).Perm l := by simpa [sortS] using (sortS_go l [] List.Pairwise.nil).1
theorem sortS_sorted (l : List Int) : (sortS l).Pairwise (· ≤ ·) := (sortS_go l [] List.Pairwise.nil).2
theorem sort_eq : ∀ (a b : List Int), a.Perm b → a.Pairwise (· ≤ ·) → b.Pairwise (· ≤ ·) → a = b
  | [], b, h, _, _ => (List.Perm.nil_eq h)
  | x :: a, [], h, _, _ => absurd h.length_eq (by simp)
  | x :: a, y :: b, h, h1, h2 => by
    rw [List.pairwise_cons] at h1 h2
    have e : x = y := by
      have hx := h.mem_iff.1 (List.mem_cons_self (a := x) (l := a))
      have hy := h.mem_iff.2 (List.mem_cons_self (a := y) (l := b))
      rcases List.mem_cons.1 hx with hx | hx
      · exact hx
      · rcases List.mem_cons.1 hy with hy | hy
        · exact hy.symm
        · have := h1.1 y hy; have := h2.1 x hx; omega
    subst e
    rw [sort_eq a b (List.Perm.cons_inv h) h1.2 h2.2]
theorem sort_ms (l : List Int) : l.mergeSort (fun x y => decide (x ≤ y)) = sortS l := by
  refine sort_eq _ _ ((List.mergeSort_perm l _).trans (sortS_perm l).symm) ?_ (sortS_sorted l)
  have := List.pairwise_mergeSort (le := fun x y : Int => decide (x ≤ y)) (fun a b c h1 h2 => by simp only [decide_eq_true_eq] at *; omega) (fun a b => by simp only [Bool.or_eq_true, decide_eq_true_eq]; omega) l
  exact this.imp (fun h => by simpa using h)
theorem sortS_len (l : List Int) : (sortS l).length = l.length := (sortS_perm l).length_eq
theorem eSort : Entr Tryz.prog 122 := Entr.of Tryz.func122 rfl rfl
theorem intsFlat (l : List Int) : l.flatMap encI = l.map (Value.int .i64) := by
  induction l with
  | nil => rfl
  | cons x l ih => rw [List.flatMap_cons, ih]; rfl
theorem sort_own {ao : Option Addr} {co : Nat} {l : List Int} {hO : Heap} (oo : OwT encI 1 3 ao co l hO) (hl : l.length ≤ 10000000000000) {w0 w : World} {R : Heap} {L : List Heap} (hw : H w0 R (hO :: L) w) :
    Calls Tryz.prog 122 #[.slice ao l.length co] w fun e w' => ∃ v' L', e = .returned v' ∧ H w0 R L' w' ∧ ∃ hO', v' = .tuple #[] ∧ L' = hO' :: L ∧ OwT encI 1 3 ao co (sortS l) hO' := by
  by_cases h0 : l.length = 0
  · have hn : l = [] := List.eq_nil_of_length_eq_zero h0
    subst hn
    refine (Tryz.slices_Sort_int_none ao co w).mono ?_
    rintro e w' ⟨rfl, rfl⟩
    exact ⟨_, _, rfl, hw, hO, rfl, rfl, oo⟩
  rcases oo.row with ⟨rfl, rfl, rfl, rfl⟩ | ⟨g, cs, rfl, rfl, h1, h2, h3⟩
  · exact absurd rfl h0
  have hb : w.heap[g]? = some (.cells ⟨cs⟩ 3 (0, 0)) := hw.rd Rd.hd
  have hgl : g < w.heap.size := (Array.getElem?_eq_some_iff.1 hb).1
  rw [intsFlat, Nat.mul_one] at h3
  have hcell : ∀ j (hj : j < l.length), cs[j]? = some (.int .i64 l[j]) := fun j hj => by
    have : (cs.take l.length)[j]? = (l.map (Value.int .i64))[j]? := by rw [h3]
    rw [List.getElem?_take_of_lt hj, List.getElem?_map, List.getElem?_eq_getElem hj] at this
    exact this
  have hH : Sort.Holds (Value.int .i64) w g 0 l.toArray := fun j hj => by
    have hj' : j < l.length := by simpa using hj
    constructor
    · simp [World.cell?, hb, hcell j hj', hj']
    · simp [World.frozen?, hb]
  refine (Tryz.slices_Sort_int g 0 co l w hH hgl (by omega)).mono ?_
  rintro e w' ⟨rfl, n, os, rfl⟩
  rw [sort_ms]
  have hsl := sortS_len l
  have hnew : Sort.putCells (Value.int .i64) 0 (sortS l).toArray ⟨cs⟩ = ⟨(sortS l).map (Value.int .i64) ++ cs.drop l.length⟩ := by
    unfold Sort.putCells
    apply Array.ext
    · simp; omega
    · intro i hi1 hi2
      simp only [Array.getElem_mapIdx, Nat.zero_le, true_and, Nat.zero_add, List.size_toArray, Nat.sub_zero]
      by_cases hi : i < (sortS l).length
      · rw [if_pos hi]
        simp [hi]
      · rw [if_neg hi]
        simp only [List.getElem_toArray]
        rw [List.getElem_append_right (by simpa using hi)]
        simp only [List.length_map, List.getElem_drop]
        congr 1
        omega
  refine ⟨_, [(g, .cells ⟨(sortS l).map (Value.int .i64) ++ cs.drop l.length⟩ 3 (0, 0))] :: L, rfl, ?_, _, rfl, rfl, ⟨oo.len, .inr ⟨g, _, rfl, rfl, ?_, by omega, ?_⟩⟩⟩
  · have h5 : H w0 R ([(g, .cells ⟨(sortS l).map (Value.int .i64) ++ cs.drop l.length⟩ 3 (0, 0))] :: L) (Sort.putRow (Value.int .i64) (Sort.ahead w n) g 0 (sortS l).toArray) := by
      refine hw.write (o' := .cells ⟨(sortS l).map (Value.int .i64) ++ cs.drop l.length⟩ 3 (0, 0)) rfl rfl rfl ?_ ?_ ?_
      · simp [Sort.putRow, Sort.mapBlock, Sort.ahead]
      · show (w.heap.modify g _)[g]? = _
        rw [Array.getElem?_modify, if_pos rfl, hb]
        show some (Obj.cells (Sort.putCells _ _ _ _) _ _) = _
        rw [hnew]
      · intro k hk
        show (w.heap.modify g _)[k]? = _
        rw [Array.getElem?_modify, if_neg (Ne.symm hk)]
    exact h5.grow (Lib.below_grow _ _ (Nat.le_refl _) 0 os)
  · simp; omega
  · rw [intsFlat, Nat.mul_one, List.take_left' (by simp)]
end Go.Proofs.YtdiciemlbhkilaaGreatDoor
namespace Go.Proofs.YtdiciemlbhkilaaGreatDoor
open Go Go.Cx Go.RowKit
set_option linter.unusedVariables false
set_option linter.unusedSimpArgs false
set_option maxHeartbeats 4000000
attribute [local irreducible] J JC thenK blockK loopK roundK drawK retK QW Qt pel List.set Calls
attribute [local irreducible] JE Br eK0 eK3 brK
theorem eInp : Entr Tryz.prog 83 := Entr.of Tryz.func83 rfl rfl
structure OkB (vs : List NV) : Prop where
  ok : ∀ v, v ∈ vs → OkV v
  rng : ∀ v, v ∈ vs → ∀ i, i ∈ v.l → 0 ≤ i ∧ i < vs.length
theorem addS_out (B : List PN) (drop end_ : Int) (s : StN) (i : Int) : (addS B drop end_ s i).out.length ≤ s.out.length + 1 := by
  show (if _ then s.out ++ [i] else s.out).length ≤ _
  split
  · rw [List.length_append]; exact Nat.le_refl _
  · omega
theorem foldS_out (B : List PN) (drop end_ : Int) : ∀ (l : List Int) (s : StN), (l.foldl (addS B drop end_) s).out.length ≤ s.out.length + l.length
  | [], s => Nat.le_refl _
  | x :: l, s => by
    have h1 := foldS_out B drop end_ l (addS B drop end_ s x)
    have h2 := addS_out B drop end_ s x
    rw [List.foldl_cons, List.length_cons]
    omega
theorem inP_of (vs : List NV) (k : Nat) : inP (vs.map pnV) (k : Int) = (vs.getD k default).l := by
  unfold inP; rw [Int.toNat_natCast, getD_map]; rfl
theorem kindP_of (vs : List NV) (k : Nat) : kindP (vs.map pnV) (k : Int) = (vs.getD k default).kind := by
  unfold kindP; rw [Int.toNat_natCast, getD_map]; rfl
theorem litP_of (vs : List NV) (k : Nat) : litP (vs.map pnV) (k : Int) = (vs.getD k default).lit := by
  unfold litP; rw [Int.toNat_natCast, getD_map]; rfl
def stW (vs : List NV) (kind drop end_ : Int) (l : List Int) : StN := (flatP (vs.map pnV) kind l).foldl (addS (vs.map pnV) drop end_) ⟨[], [], true⟩
theorem flat_len (vs : List NV) (kind : Int) (hv : ∀ v, v ∈ vs → v.l.length ≤ 1000000) : ∀ (l : List Int), (∀ i, i ∈ l → 0 ≤ i ∧ i < vs.length) → (flatP (vs.map pnV) kind l).length ≤ 1000000 * l.length
  | [], _ => by simp [flatP]
  | x :: l, h => by
    have ih := flat_len vs kind hv l fun i hi => h i (List.mem_cons_of_mem _ hi)
    have hx := h x List.mem_cons_self
    obtain ⟨k, rfl⟩ : ∃ k : Nat, x = (k : Int) := ⟨x.toNat, by omega⟩
    have hm := hv _ (mem_g vs k (by omega))
    unfold flatP at ih ⊢
    rw [List.flatMap_cons, List.length_append, List.length_cons]
    split
    · rw [inP_of]; omega
    · simp only [List.length_cons, List.length_nil]; omega
theorem flat_snoc (B : List PN) (kind : Int) (l : List Int) (k : Nat) (hk : k < l.length) : flatP B kind (l.take (k + 1)) = flatP B kind (l.take k) ++ (if kindP B (l.getD k default) = kind then inP B (l.getD k default) else [l.getD k default]) := by
  unfold flatP
  rw [take_g l k hk, List.flatMap_append, List.flatMap_cons, List.flatMap_nil, List.append_nil]
set_option maxHeartbeats 16000000 in
theorem inputs_any (kind drop end_ : Int) (l : List Int) (al : Option Addr) (cl : Nat) {w0 w : World} {R : Heap} {L : List Heap} {n : Int} {b cap bm : Nat} {a : Option Addr} {vs : List NV} {ho hi hm hl : Heap} (hsl : SlT encI 1 al l hl) (rl : RdH R L hl) (ow : OwT encNV 3 82 a cap vs ho) (ins : ∀ v, v ∈ vs → SlT encI 1 v.a v.l hi) (ob : OkB vs) (hvl : vs.length ≤ 65536) (hll : l.length ≤ 1000000) (hlr : ∀ i, i ∈ l → 0 ≤ i ∧ i < vs.length) (hw : H w0 R (bL n b a vs cap bm ho hi hm ++ L) w) :
    Calls Tryz.prog 83 #[.pointer (some ⟨b, 0, none⟩), .slice al l.length cl, .int .i64 kind, .int .i64 drop, .int .i64 end_] w fun e w' => ∃ v' L', e = .returned v' ∧ H w0 R L' w' ∧ ∃ ao co hO, v' = .tuple #[.slice ao (sortS (stW vs kind drop end_ l).out).length co, .bool (stW vs kind drop end_ l).open_] ∧ L' = hO :: (bL n b a vs cap bm ho hi hm ++ L) ∧ OwT encI 1 3 ao co (sortS (stW vs kind drop end_ l).out) hO := by
  obtain ⟨okv, rng⟩ := ob
  unfold bL at hw ⊢
  simp only [List.cons_append, List.nil_append] at hw ⊢
  have hvl1 : ∀ v, v ∈ vs → v.l.length ≤ 1000000 := fun v hv => (okv v hv).n
  have hlit : ∀ v, v ∈ vs → -128 ≤ v.lit ∧ v.lit ≤ 128 := fun v hv => (okv v hv).t
  refine calls_in Tryz.func83 Tryz.ntmps83 rfl rfl (hw) ?_
  unfold bO
  repeat' first
    | (refine J.isJ ?_; first | ((refine J.o 9 ?_; refine J.mkm (fun bl => ?_))) | (first | (refine J.o 0 ?_; refine J.ev' hΓ ?_) | refine J.nil ?_ | (refine J.o 4 ?_; first | refine J.e0 hΓ ?_ | refine J.lT default hΓ ?_ | refine J.e1 hΓ ?_ | refine J.lR hΓ ?_) | (refine J.o 3 ?_; first | refine J.iJ hΓ ?_ | refine J.fP hΓ ?_ | refine J.ev' hΓ ?_) | (refine J.o 1 ?_; first | refine J.ad ?_) | (refine J.o 5 ?_; first | refine J.t0 hΓ ?_) | (refine J.o 6 ?_; refine J.bx (fun _ => ?_)) | (refine J.o 7 ?_; refine J.al hΓ (fun _ => ?_)) | (refine J.o 10 ?_; first | refine J.ev' hΓ ?_) | (refine J.o 11 ?_; first | refine J.ev' hΓ ?_) | (refine J.o 14 ?_; refine J.mf hΓ ?_)))
    | (first | refine JC.seq ?_ | refine JC.region ?_ | refine JC.block ?_ | refine JC.ret ?_ | refine JC.exit ?_ | refine JC.skip ?_ | refine thenK.nn ?_ | refine thenK.x ?_ | refine blockK.nn ?_ | refine blockK.hit rfl ?_ | (refine JC.cond rfl (fun hc => ?_) (fun hc => ?_) <;> ((try simp only [tcS] at hc) <;> first | (first | (exact absurd rfl hc) | (exfalso; omega) | (exact (tF hc (by assumption)).elim) | (exact (fT hc (by assumption)).elim)) | skip)) | refine drawK.nn ?_ | refine loopK.x ?_)
    | (fail)
    | fail
  all_goals first | (exfalso; omega) | skip
  rename_i n5 n8 n9 n12 n13 n14
  have rdd : AddR R ([(n9, intO end_)] :: [(n8, intO drop)] :: [(n5, ptrO b)] :: [(b, bO n a vs.length cap bm)] :: ho :: hi :: hm :: L) n5 n8 n9 n b a vs cap bm ho drop end_ := ⟨Rd.hd.tl.tl, Rd.hd.tl, Rd.hd, Rd.hd.tl.tl.tl, RdH.hd.tl.tl.tl.tl⟩
  refine JC.weak (L' := addL ⟨[], [], true⟩ n12 n13 n14 none 0 [] bl [(bl, .map ⟨[]⟩ 0)] ++ ([(n9, intO end_)] :: [(n8, intO drop)] :: [(n5, ptrO b)] :: [(b, bO n a vs.length cap bm)] :: ho :: hi :: hm :: L)) (fun w hw => H.sel (l := [_, _, _, _, _]) (M := [(n9, intO end_)] :: [(n8, intO drop)] :: [(n5, ptrO b)] :: [(b, bO n a vs.length cap bm)] :: ho :: hi :: hm :: L) hw.nilF [4, 0, 2, 3, 1]) ?_
  refine JC.gen [(2, .int .i64 kind), (5, .pointer (some ⟨n5, 0, none⟩)), (12, .pointer (some ⟨n12, 0, none⟩)), (14, .pointer (some ⟨n14, 0, none⟩)), (15, .func (.func 120) ⟨[]⟩ ⟨[.pointer (some ⟨n5, 0, none⟩), .pointer (some ⟨n9, 0, none⟩), .pointer (some ⟨n13, 0, none⟩), .pointer (some ⟨n14, 0, none⟩), .pointer (some ⟨n8, 0, none⟩), .pointer (some ⟨n12, 0, none⟩)]⟩), (22, .slice al l.length cl), (23, .int .i64 l.length), (24, .int .i64 0)] ⟨rfl, rfl, rfl, rfl, rfl, rfl, rfl, rfl, trivial⟩ (fun F => ?_)
  refine JC.loop (fun i => i == 10 || i == 11 || i == 17 || i == 19 || Nat.ble 24 i) (fun m g L' => ∃ (k : Nat) (ao : Option Addr) (co : Nat) (hO : Heap) (lm : List (Int × Bool)) (hM : Heap), g 24 = .int .i64 (k : Int) ∧ k + m = l.length ∧ AddW (stW vs kind drop end_ (l.take k)) ao co hO lm bl hM ∧ L' = addL (stW vs kind drop end_ (l.take k)) n12 n13 n14 ao co hO bl hM ++ ([(n9, intO end_)] :: [(n8, intO drop)] :: [(n5, ptrO b)] :: [(b, bO n a vs.length cap bm)] :: ho :: hi :: hm :: L)) l.length ⟨0, none, 0, [], [], [(bl, .map ⟨[]⟩ 0)], rfl, by omega, ⟨OwT.nil (fun _ => rfl), MapT.nil bl, fun x => rfl⟩, rfl⟩ ?_
  rintro m g L' ⟨k, ao, co, hO, lm, hM, e24, hkm, aw, rfl⟩
  refine JC.pin 24 e24 ?_
  clear e24
  have hflk := flat_len vs kind hvl1 (l.take k) fun i hi => hlr i (List.mem_of_mem_take hi)
  rw [List.length_take] at hflk
  have hout : (stW vs kind drop end_ (l.take k)).out.length ≤ 1000000000000 := by
    have := foldS_out (vs.map pnV) drop end_ (flatP (vs.map pnV) kind (l.take k)) ⟨[], [], true⟩
    simp only [List.length_nil] at this
    unfold stW
    omega
  unfold addL intO ptrO bO
  simp only [List.cons_append, List.nil_append]
  unfold slO mapO boolO
  rcases Nat.lt_or_ge k l.length with hk | hk
  case inr =>
    rw [List.take_of_length_le hk] at aw hout ⊢
    obtain ⟨oo, mt, ml⟩ := aw
    repeat' first
      | (refine J.isJ ?_; first | (first | (refine J.o 4 ?_; first | refine J.e4 hΓ ?_) | (refine J.fc 122 ?_; refine J.perm br1 ?_; refine J.callx eSort rfl rfl (fun w hw => sort_own oo (by omega) hw) ?_; rintro _ _ ⟨hO2, rfl, rfl, oo2⟩)) | (first | (refine J.o 0 ?_; refine J.ev' hΓ ?_) | refine J.nil ?_ | (refine J.o 4 ?_; first | refine J.e0 hΓ ?_ | refine J.lT default hΓ ?_ | refine J.e1 hΓ ?_ | refine J.lR hΓ ?_) | (refine J.o 3 ?_; first | refine J.iJ hΓ ?_ | refine J.fP hΓ ?_ | refine J.ev' hΓ ?_) | (refine J.o 1 ?_; first | refine J.ad ?_) | (refine J.o 5 ?_; first | refine J.t0 hΓ ?_) | (refine J.o 6 ?_; refine J.bx (fun _ => ?_)) | (refine J.o 7 ?_; refine J.al hΓ (fun _ => ?_)) | (refine J.o 10 ?_; first | refine J.ev' hΓ ?_) | (refine J.o 11 ?_; first | refine J.ev' hΓ ?_) | (refine J.o 14 ?_; refine J.mf hΓ ?_)))
      | (first | refine JC.seq ?_ | refine JC.region ?_ | refine JC.block ?_ | refine JC.ret ?_ | refine JC.exit ?_ | refine JC.skip ?_ | refine thenK.nn ?_ | refine thenK.x ?_ | refine blockK.nn ?_ | refine blockK.hit rfl ?_ | (refine JC.cond rfl (fun hc => ?_) (fun hc => ?_) <;> ((try simp only [tcS] at hc) <;> first | (first | (exact absurd rfl hc) | (exfalso; omega) | (exact (tF hc (by assumption)).elim) | (exact (fT hc (by assumption)).elim)) | skip)) | refine drawK.nn ?_ | refine loopK.x ?_)
      | ((refine JC.drawN [] [] (by kernel_rfl) (by kernel_rfl) ?_))
      | fail
    refine ret2f rfl rfl rfl rfl rfl (fun w1 hw => ⟨_, _, rfl, H.sel (l := [_, _, _, _, _, _, _, _, _, _, _, _]) (M := L) hw [0, 8, 9, 10, 11], ao, co, hO2, ?_, rfl, oo2⟩)
    rw [sortS_len]
  have hx := hlr _ (mem_g l k hk)
  have hj : l.getD k default = (((l.getD k default).toNat : Nat) : Int) := by omega
  have hjl : (l.getD k default).toNat < vs.length := by omega
  have hmj := mem_g vs _ hjl
  have rdl : RdH R ([(n9, intO end_)] :: [(n8, intO drop)] :: [(n5, ptrO b)] :: [(b, bO n a vs.length cap bm)] :: ho :: hi :: hm :: L) hl := rl.tl.tl.tl.tl.tl.tl.tl
  have rdh : RdH R ([(n9, intO end_)] :: [(n8, intO drop)] :: [(n5, ptrO b)] :: [(b, bO n a vs.length cap bm)] :: ho :: hi :: hm :: L) hi := RdH.hd.tl.tl.tl.tl.tl
  have r5 := rdd.rb
  have rB := rdd.rB
  have rN := rdd.rN
  unfold ptrO intO bO at r5 rB rN rdl rdh
  have hin := ins _ hmj
  by_cases hkd : (vs.getD (l.getD k default).toNat default).kind = kind
  case neg =>
    have hst : stW vs kind drop end_ (l.take (k + 1)) = addS (vs.map pnV) drop end_ (stW vs kind drop end_ (l.take k)) (l.getD k default) := by
      have hk2 : kindP (vs.map pnV) (l.getD k default) = (vs.getD (l.getD k default).toNat default).kind := by rw [hj, kindP_of, ← hj]
      unfold stW
      rw [flat_snoc _ _ _ _ hk, List.foldl_append, hk2, if_neg hkd]; rfl
    repeat' first
      | (refine J.isJ ?_; first | (first | (refine J.o 4 ?_; first | refine J.lT default hΓ ?_ (hs := hsl) (hr := rdl.tl.tl.tl.tl.tl) | refine J.lR hΓ ?_ (hr := r5.tl.tl.tl.tl.tl) | refine J.lR hΓ ?_ (hr := rB.tl.tl.tl.tl.tl) | refine J.lT default hΓ ?_ (hs := ow.sl) (hr := rN.tl.tl.tl.tl.tl)) | (refine J.o 9 ?_; refine J.callvx eAdd1 rfl rfl rfl (fun w hw => add1_any (l.getD k default) rdd ow hx (by omega) hlit aw (by omega) hw) ?_; rintro _ _ ⟨ao2, co2, hO2, lm2, hM2, rfl, rfl, aw2⟩)) | (first | (refine J.o 0 ?_; refine J.ev' hΓ ?_) | refine J.nil ?_ | (refine J.o 4 ?_; first | refine J.e0 hΓ ?_ | refine J.lT default hΓ ?_ | refine J.e1 hΓ ?_ | refine J.lR hΓ ?_) | (refine J.o 3 ?_; first | refine J.iJ hΓ ?_ | refine J.fP hΓ ?_ | refine J.ev' hΓ ?_) | (refine J.o 1 ?_; first | refine J.ad ?_) | (refine J.o 5 ?_; first | refine J.t0 hΓ ?_) | (refine J.o 6 ?_; refine J.bx (fun _ => ?_)) | (refine J.o 7 ?_; refine J.al hΓ (fun _ => ?_)) | (refine J.o 10 ?_; first | refine J.ev' hΓ ?_) | (refine J.o 11 ?_; first | refine J.ev' hΓ ?_) | (refine J.o 14 ?_; refine J.mf hΓ ?_)))
      | (first | refine JC.seq ?_ | refine JC.region ?_ | refine JC.block ?_ | refine JC.ret ?_ | refine JC.exit ?_ | refine JC.skip ?_ | refine thenK.nn ?_ | refine thenK.x ?_ | refine blockK.nn ?_ | refine blockK.hit rfl ?_ | (refine JC.cond rfl (fun hc => ?_) (fun hc => ?_) <;> ((try simp only [tcS] at hc) <;> first | (first | (exact absurd rfl hc) | (exfalso; omega) | (exact (tF hc (by assumption)).elim) | (exact (fT hc (by assumption)).elim)) | skip)) | refine drawK.nn ?_ | refine loopK.x ?_)
      | ((refine JC.drawN [] [] (by kernel_rfl) (by kernel_rfl) ?_))
      | fail
    all_goals first | (exfalso; omega) | skip
    rw [← hst] at aw2 ⊢
    refine loopK.nn (m - 1) (by omega) (by repeat (first | refine Ag.upd rfl ?_ | exact Ag.hv)) ⟨k + 1, ao2, co2, hO2, lm2, hM2, ?_, by omega, aw2, rfl⟩
    show Value.int .i64 _ = _; congr 1
  have hst : stW vs kind drop end_ (l.take (k + 1)) = (vs.getD (l.getD k default).toNat default).l.foldl (addS (vs.map pnV) drop end_) (stW vs kind drop end_ (l.take k)) := by
    have hk2 : kindP (vs.map pnV) (l.getD k default) = (vs.getD (l.getD k default).toNat default).kind := by rw [hj, kindP_of, ← hj]
    have hk3 : inP (vs.map pnV) (l.getD k default) = (vs.getD (l.getD k default).toNat default).l := by rw [hj, inP_of, ← hj]
    unfold stW
    rw [flat_snoc _ _ _ _ hk, List.foldl_append, hk2, if_pos hkd, hk3]
  have hrj := rng _ hmj
  have hnj := hvl1 _ hmj
  repeat' first
    | (refine J.isJ ?_; first | (first | (refine J.o 4 ?_; first | refine J.lT default hΓ ?_ (hs := hsl) (hr := rdl.tl.tl.tl.tl.tl) | refine J.lR hΓ ?_ (hr := r5.tl.tl.tl.tl.tl) | refine J.lR hΓ ?_ (hr := rB.tl.tl.tl.tl.tl) | refine J.lT default hΓ ?_ (hs := ow.sl) (hr := rN.tl.tl.tl.tl.tl))) | (first | (refine J.o 0 ?_; refine J.ev' hΓ ?_) | refine J.nil ?_ | (refine J.o 4 ?_; first | refine J.e0 hΓ ?_ | refine J.lT default hΓ ?_ | refine J.e1 hΓ ?_ | refine J.lR hΓ ?_) | (refine J.o 3 ?_; first | refine J.iJ hΓ ?_ | refine J.fP hΓ ?_ | refine J.ev' hΓ ?_) | (refine J.o 1 ?_; first | refine J.ad ?_) | (refine J.o 5 ?_; first | refine J.t0 hΓ ?_) | (refine J.o 6 ?_; refine J.bx (fun _ => ?_)) | (refine J.o 7 ?_; refine J.al hΓ (fun _ => ?_)) | (refine J.o 10 ?_; first | refine J.ev' hΓ ?_) | (refine J.o 11 ?_; first | refine J.ev' hΓ ?_) | (refine J.o 14 ?_; refine J.mf hΓ ?_)))
    | (first | refine JC.seq ?_ | refine JC.region ?_ | refine JC.block ?_ | refine JC.ret ?_ | refine JC.exit ?_ | refine JC.skip ?_ | refine thenK.nn ?_ | refine thenK.x ?_ | refine blockK.nn ?_ | refine blockK.hit rfl ?_ | (refine JC.cond rfl (fun hc => ?_) (fun hc => ?_) <;> ((try simp only [tcS] at hc) <;> first | (first | (exact absurd rfl hc) | (exfalso; omega) | (exact (tF hc (by assumption)).elim) | (exact (fT hc (by assumption)).elim)) | skip)) | refine drawK.nn ?_ | refine loopK.x ?_)
    | ((refine JC.drawN [] [] (by kernel_rfl) (by kernel_rfl) ?_))
    | fail
  all_goals first | (exfalso; omega) | skip
  refine JC.loop (fun i => i == 19 || Nat.ble 50 i) (fun m g L' => ∃ (q : Nat) (ao : Option Addr) (co : Nat) (hO : Heap) (lm : List (Int × Bool)) (hM : Heap), g 50 = .int .i64 (q : Int) ∧ q + m = (vs.getD (l.getD k default).toNat default).l.length ∧ AddW (((vs.getD (l.getD k default).toNat default).l.take q).foldl (addS (vs.map pnV) drop end_) (stW vs kind drop end_ (l.take k))) ao co hO lm bl hM ∧ L' = addL (((vs.getD (l.getD k default).toNat default).l.take q).foldl (addS (vs.map pnV) drop end_) (stW vs kind drop end_ (l.take k))) n12 n13 n14 ao co hO bl hM ++ ([(n9, intO end_)] :: [(n8, intO drop)] :: [(n5, ptrO b)] :: [(b, bO n a vs.length cap bm)] :: ho :: hi :: hm :: L)) (vs.getD (l.getD k default).toNat default).l.length ⟨0, ao, co, hO, lm, hM, rfl, by omega, aw, rfl⟩ ?_
  rintro m2 g2 L' ⟨q, ao, co, hO, lm, hM, e50, hqm, aw, rfl⟩
  refine JC.pin 50 e50 ?_
  clear e50
  have hout2 := foldS_out (vs.map pnV) drop end_ ((vs.getD (l.getD k default).toNat default).l.take q) (stW vs kind drop end_ (l.take k))
  rw [List.length_take] at hout2
  rcases Nat.lt_or_ge q (vs.getD (l.getD k default).toNat default).l.length with hq | hq
  case inr =>
    rw [List.take_of_length_le hq, ← hst] at aw
    rw [List.take_of_length_le hq, ← hst]
    repeat' first
      | (refine J.isJ ?_; first | (fail) | (first | (refine J.o 0 ?_; refine J.ev' hΓ ?_) | refine J.nil ?_ | (refine J.o 4 ?_; first | refine J.e0 hΓ ?_ | refine J.lT default hΓ ?_ | refine J.e1 hΓ ?_ | refine J.lR hΓ ?_) | (refine J.o 3 ?_; first | refine J.iJ hΓ ?_ | refine J.fP hΓ ?_ | refine J.ev' hΓ ?_) | (refine J.o 1 ?_; first | refine J.ad ?_) | (refine J.o 5 ?_; first | refine J.t0 hΓ ?_) | (refine J.o 6 ?_; refine J.bx (fun _ => ?_)) | (refine J.o 7 ?_; refine J.al hΓ (fun _ => ?_)) | (refine J.o 10 ?_; first | refine J.ev' hΓ ?_) | (refine J.o 11 ?_; first | refine J.ev' hΓ ?_) | (refine J.o 14 ?_; refine J.mf hΓ ?_)))
      | (first | refine JC.seq ?_ | refine JC.region ?_ | refine JC.block ?_ | refine JC.ret ?_ | refine JC.exit ?_ | refine JC.skip ?_ | refine thenK.nn ?_ | refine thenK.x ?_ | refine blockK.nn ?_ | refine blockK.hit rfl ?_ | (refine JC.cond rfl (fun hc => ?_) (fun hc => ?_) <;> ((try simp only [tcS] at hc) <;> first | (first | (exact absurd rfl hc) | (exfalso; omega) | (exact (tF hc (by assumption)).elim) | (exact (fT hc (by assumption)).elim)) | skip)) | refine drawK.nn ?_ | refine loopK.x ?_)
      | (fail)
      | fail
    all_goals first | (exfalso; omega) | skip
    refine loopK.nn (m - 1) (by omega) (by repeat (first | refine Ag.upd rfl ?_ | exact Ag.hv | refine Ag.hv2 (fun i hi => by simp at hi ⊢; omega) ?_)) ⟨k + 1, ao, co, hO, lm, hM, ?_, by omega, aw, rfl⟩
    show Value.int .i64 _ = _; congr 1
  have hxq := hrj _ (mem_g (vs.getD (l.getD k default).toNat default).l q hq)
  have hst3 : ((vs.getD (l.getD k default).toNat default).l.take (q + 1)).foldl (addS (vs.map pnV) drop end_) (stW vs kind drop end_ (l.take k)) = addS (vs.map pnV) drop end_ (((vs.getD (l.getD k default).toNat default).l.take q).foldl (addS (vs.map pnV) drop end_) (stW vs kind drop end_ (l.take k))) ((vs.getD (l.getD k default).toNat default).l.getD q default) := by
    rw [take_g _ _ hq, List.foldl_append]; rfl
  unfold addL intO ptrO bO
  simp only [List.cons_append, List.nil_append]
  unfold slO mapO boolO
  repeat' first
    | (refine J.isJ ?_; first | (first | (refine J.o 4 ?_; refine J.lT default hΓ ?_ (hs := hin) (hr := rdh.tl.tl.tl.tl.tl)) | (refine J.o 9 ?_; refine J.callvx eAdd1 rfl rfl rfl (fun w hw => add1_any ((vs.getD (l.getD k default).toNat default).l.getD q default) rdd ow hxq (by omega) hlit aw (by omega) hw) ?_; rintro _ _ ⟨ao2, co2, hO2, lm2, hM2, rfl, rfl, aw2⟩)) | (first | (refine J.o 0 ?_; refine J.ev' hΓ ?_) | refine J.nil ?_ | (refine J.o 4 ?_; first | refine J.e0 hΓ ?_ | refine J.lT default hΓ ?_ | refine J.e1 hΓ ?_ | refine J.lR hΓ ?_) | (refine J.o 3 ?_; first | refine J.iJ hΓ ?_ | refine J.fP hΓ ?_ | refine J.ev' hΓ ?_) | (refine J.o 1 ?_; first | refine J.ad ?_) | (refine J.o 5 ?_; first | refine J.t0 hΓ ?_) | (refine J.o 6 ?_; refine J.bx (fun _ => ?_)) | (refine J.o 7 ?_; refine J.al hΓ (fun _ => ?_)) | (refine J.o 10 ?_; first | refine J.ev' hΓ ?_) | (refine J.o 11 ?_; first | refine J.ev' hΓ ?_) | (refine J.o 14 ?_; refine J.mf hΓ ?_)))
    | (first | refine JC.seq ?_ | refine JC.region ?_ | refine JC.block ?_ | refine JC.ret ?_ | refine JC.exit ?_ | refine JC.skip ?_ | refine thenK.nn ?_ | refine thenK.x ?_ | refine blockK.nn ?_ | refine blockK.hit rfl ?_ | (refine JC.cond rfl (fun hc => ?_) (fun hc => ?_) <;> ((try simp only [tcS] at hc) <;> first | (first | (exact absurd rfl hc) | (exfalso; omega) | (exact (tF hc (by assumption)).elim) | (exact (fT hc (by assumption)).elim)) | skip)) | refine drawK.nn ?_ | refine loopK.x ?_)
    | (fail)
    | fail
  all_goals first | (exfalso; omega) | skip
  rw [← hst3] at aw2 ⊢
  refine loopK.nn (m2 - 1) (by omega) (by repeat (first | refine Ag.upd rfl ?_ | exact Ag.hv)) ⟨q + 1, ao2, co2, hO2, lm2, hM2, ?_, by omega, aw2, rfl⟩
  show Value.int .i64 _ = _; congr 1
end Go.Proofs.YtdiciemlbhkilaaGreatDoor
namespace Go.Proofs.YtdiciemlbhkilaaGreatDoor
open Go Go.Cx Go.RowKit
set_option linter.unusedVariables false
set_option linter.unusedSimpArgs false
set_option maxHeartbeats 4000000
attribute [local irreducible] J JC thenK blockK loopK roundK drawK retK QW Qt pel List.set Calls
attribute [local irreducible] JE Br eK0 eK3 brK
structure OkX (m : Nat) (x : PN) : Prop where
  k : 0 ≤ x.1 ∧ x.1 ≤ 4
  t : -128 ≤ x.2.1 ∧ x.2.1 ≤ 128
  z : x.1 = 2 → x.2.1 ≠ 0
  s : x.2.2.Pairwise (· < ·)
  r : ∀ i, i ∈ x.2.2 → 0 ≤ i ∧ i < m
def OkP (B : List PN) : Prop := ∀ x, x ∈ B → OkX B.length x
theorem OkX.mono {m m' : Nat} {x : PN} (h : OkX m x) (hm : m ≤ m') : OkX m' x := ⟨h.k, h.t, h.z, h.s, fun i hi => by have := h.r i hi; omega⟩
theorem asc_len : ∀ (l : List Int) (lo hi : Int), lo ≤ hi → l.Pairwise (· < ·) → (∀ i, i ∈ l → lo ≤ i ∧ i < hi) → (l.length : Int) ≤ hi - lo
  | [], lo, hi, h, _, _ => by simp only [List.length_nil]; omega
  | x :: l, lo, hi, h, hp, hr => by
    rw [List.pairwise_cons] at hp
    have hx := hr x List.mem_cons_self
    have := asc_len l (x + 1) hi (by omega) hp.2 fun i hi2 => ⟨by have := hp.1 i hi2; omega, (hr i (List.mem_cons_of_mem _ hi2)).2⟩
    rw [List.length_cons]
    omega
theorem OkX.len {m : Nat} {x : PN} (h : OkX m x) : x.2.2.length ≤ m := by
  have := asc_len x.2.2 0 m (by omega) h.s h.r
  omega
theorem OkP.okB {vs : List NV} (h : OkP (vs.map pnV)) (hl : vs.length ≤ 65536) : OkB vs := by
  constructor
  · intro v hv
    have hx := h (pnV v) (List.mem_map_of_mem hv)
    rw [List.length_map] at hx
    have hln := hx.len
    exact ⟨hx.k, hx.t, (by have : v.l.length ≤ vs.length := hln; omega), fun k hk => by have := hx.r k hk; omega⟩
  · intro v hv
    have hx := h (pnV v) (List.mem_map_of_mem hv)
    rw [List.length_map] at hx
    exact hx.r
theorem OkP.put {B : List PN} (h : OkP B) {x : PN} (hx : OkX B.length x) : OkP (putP B x).2 ∧ B.length ≤ (putP B x).2.length ∧ (putP B x).2.length ≤ B.length + 1 ∧ 0 ≤ (putP B x).1 ∧ (putP B x).1 < (putP B x).2.length := by
  unfold putP
  by_cases hm : x ∈ B
  · rw [if_pos hm]
    have := idx_nat B x hm
    exact ⟨h, Nat.le_refl _, Nat.le_succ _, this.1, this.2⟩
  · rw [if_neg hm]
    refine ⟨fun y hy => ?_, ?_, ?_, ?_, ?_⟩
    · rw [List.length_append]
      rcases List.mem_append.1 hy with hy | hy
      · exact (h y hy).mono (Nat.le_add_right _ _)
      · rw [List.mem_singleton.1 hy]; exact hx.mono (Nat.le_add_right _ _)
    all_goals (simp only [List.length_append, List.length_cons, List.length_nil]; omega)
theorem okX_const {m : Nat} {k : Int} (hk : 0 ≤ k ∧ k ≤ 4) (h2 : k ≠ 2) : OkX m (k, 0, []) := ⟨hk, ⟨(by decide : (-128 : Int) ≤ 0), (by decide : (0 : Int) ≤ 128)⟩, fun h => absurd h h2, List.Pairwise.nil, fun i hi => absurd hi List.not_mem_nil⟩
theorem sorted_lt {l : List Int} (h : l.Pairwise (· ≤ ·)) (hn : l.Nodup) : l.Pairwise (· < ·) := by
  induction l with
  | nil => exact List.Pairwise.nil
  | cons x l ih =>
    rw [List.pairwise_cons] at h
    rw [List.nodup_cons] at hn
    refine List.pairwise_cons.2 ⟨fun y hy => ?_, ih h.2 hn.2⟩
    have := h.1 y hy
    have : x ≠ y := fun e => hn.1 (e ▸ hy)
    omega
theorem flat_rng {B : List PN} (h : OkP B) (kind : Int) {l : List Int} (hl : ∀ i, i ∈ l → 0 ≤ i ∧ i < B.length) : ∀ i, i ∈ flatP B kind l → 0 ≤ i ∧ i < B.length := fun i hi => by
  unfold flatP at hi
  obtain ⟨j, hj, hi⟩ := List.mem_flatMap.1 hi
  have hjr := hl j hj
  split at hi
  · have hm := mem_g B j.toNat (by omega)
    exact (h _ hm).r i hi
  · rw [List.mem_singleton.1 hi]; exact hjr
theorem lit_ne {B : List PN} (h : OkP B) : ∀ i, kindP B i = 2 → litP B i ≠ 0 := fun i hk => by
  unfold kindP at hk
  unfold litP
  by_cases hi : i.toNat < B.length
  · exact (h _ (mem_g B _ hi)).z hk
  · rw [List.getD_eq_getElem?_getD, List.getElem?_eq_none (by omega)] at hk
    exact absurd hk (by decide)
def dropK (kind : Int) : Int := if kind = 4 then 0 else 1
def endK (kind : Int) : Int := if kind = 4 then 1 else 0
theorem add_const {B : List PN} {x : PN} (hx : x.1 ≠ 3 ∧ x.1 ≠ 4) : addP B x = putP B (x.1, x.2.1, []) := by
  unfold addP; rw [if_pos hx]
theorem add_gate {B : List PN} (h : OkP B) {kind lt : Int} {l : List Int} (hk : kind = 3 ∨ kind = 4) (s : StN) (hs : s = (flatP B kind l).foldl (addS B (dropK kind) (endK kind)) ⟨[], [], true⟩) :
    addP B (kind, lt, l) = (if s.open_ = true then (if s.out.length = 0 then putP B (dropK kind, 0, []) else if s.out.length = 1 then ((sortS s.out).getD 0 default, B) else putP B (kind, 0, sortS s.out)) else putP B (endK kind, 0, [])) := by
  have ag := agree_all (B := B) (drop := dropK kind) (end_ := endK kind) (by unfold dropK endK; split <;> decide) (by unfold dropK; split <;> decide) (lit_ne h) (flatP B kind l)
  rw [← hs] at ag
  have hn : ¬ (kind ≠ 3 ∧ kind ≠ 4) := by omega
  have hA : addP B (kind, lt, l) = (if decR B (inputsR B kind (dropK kind) l) (endK kind) = true then putP B (endK kind, 0, []) else match inputsR B kind (dropK kind) l with
      | [] => putP B (dropK kind, 0, [])
      | [y] => (y, B)
      | _ => putP B (kind, 0, sortS (inputsR B kind (dropK kind) l))) := by
    unfold addP
    rw [if_neg hn]
    rfl
  rw [hA]
  have e1 : inputsR B kind (dropK kind) l = (flatP B kind l).foldl (dedS B (dropK kind)) [] := rfl
  rw [e1]
  generalize (flatP B kind l).foldl (dedS B (dropK kind)) [] = D at *
  cases hd : decR B D (endK kind) with
  | true =>
    have : s.open_ = false := by rw [ag.op, hd]; rfl
    rw [this, if_pos rfl, if_neg (by decide)]
  | false =>
    have ho : s.open_ = true := by rw [ag.op, hd]; rfl
    rw [ho, if_neg (by decide), if_pos rfl, ← ag.eq ho]
    rcases hl : s.out with _ | ⟨y, _ | ⟨z, t⟩⟩
    · rfl
    · rfl
    · rfl
theorem out_facts {B : List PN} (h : OkP B) {kind : Int} {l : List Int} (hl : ∀ i, i ∈ l → 0 ≤ i ∧ i < B.length) (s : StN) (hs : s = (flatP B kind l).foldl (addS B (dropK kind) (endK kind)) ⟨[], [], true⟩) (ho : s.open_ = true) :
    (sortS s.out).Pairwise (· < ·) ∧ (∀ i, i ∈ sortS s.out ↔ i ∈ flatP B kind l ∧ kindP B i ≠ dropK kind) ∧ ∀ i, i ∈ sortS s.out → 0 ≤ i ∧ i < B.length := by
  have ag := agree_all (B := B) (drop := dropK kind) (end_ := endK kind) (by unfold dropK endK; split <;> decide) (by unfold dropK; split <;> decide) (lit_ne h) (flatP B kind l)
  rw [← hs] at ag
  have e := ag.eq ho
  have hm : ∀ i, i ∈ sortS s.out ↔ i ∈ flatP B kind l ∧ kindP B i ≠ dropK kind := fun i => by
    rw [(sortS_perm s.out).mem_iff, e]; exact ag.mem i
  refine ⟨sorted_lt (sortS_sorted _) ((sortS_perm s.out).nodup_iff.2 (e ▸ ag.nd)), hm, fun i hi => flat_rng h kind hl i ((hm i).1 hi).1⟩
theorem formed_rng {x : PN} {N m : Int} (hf : formedP x N m = true) : ∀ i, i ∈ x.2.2 → 0 ≤ i ∧ i < m := fun i hi => by
  unfold formedP at hf
  simp only [Bool.and_eq_true, Bool.not_eq_true'] at hf
  have := List.any_eq_false.1 hf.1 i hi
  unfold badI at this
  simp only [Bool.or_eq_true, decide_eq_true_eq] at this
  omega
theorem formed_const {x : PN} {N : Int} {bf : Int} {m : Nat} (hN : 0 ≤ N ∧ N ≤ 128) (hf : formedP x N bf = true) (hk : ¬ (x.1 = 3 ∨ x.1 = 4)) : OkX m (x.1, x.2.1, []) := by
  obtain ⟨kind, lt, l⟩ := x
  unfold formedP at hf
  simp only [Bool.and_eq_true, Bool.not_eq_true'] at hf
  obtain ⟨hf1, hf2⟩ := hf
  simp only at hk hf2 ⊢
  rw [if_neg hk] at hf2
  split at hf2
  · simp only [Bool.and_eq_true, decide_eq_true_eq] at hf2
    rw [hf2.1]
    exact okX_const (by omega) (by omega)
  · split at hf2
    · simp only [Bool.and_eq_true, validB, decide_eq_true_eq] at hf2
      have hl := hf2.1
      exact ⟨⟨by show 0 ≤ kind; omega, by show kind ≤ 4; omega⟩, ⟨by show -128 ≤ lt; omega, by show lt ≤ 128; omega⟩, fun _ => hl.1, List.Pairwise.nil, fun i hi => absurd hi List.not_mem_nil⟩
    · cases hf2
theorem OkP.add {B : List PN} (h : OkP B) {N : Int} (hN : 0 ≤ N ∧ N ≤ 128) {x : PN} (hf : formedP x N B.length = true) : OkP (addP B x).2 ∧ B.length ≤ (addP B x).2.length ∧ (addP B x).2.length ≤ B.length + 1 ∧ 0 ≤ (addP B x).1 ∧ (addP B x).1 < (addP B x).2.length := by
  have hr := formed_rng hf
  have hc := fun hk => formed_const (m := B.length) hN hf hk
  obtain ⟨kind, lt, l⟩ := x
  simp only at hr hc
  by_cases hk : kind = 3 ∨ kind = 4
  case neg =>
    rw [add_const (x := (kind, lt, l)) ⟨fun e => hk (.inl e), fun e => hk (.inr e)⟩]
    exact h.put (hc hk)
  rw [add_gate h hk _ rfl]
  generalize hs : (flatP B kind l).foldl (addS B (dropK kind) (endK kind)) ⟨[], [], true⟩ = s
  have hdk : 0 ≤ dropK kind ∧ dropK kind ≤ 1 := by unfold dropK; split <;> decide
  have hek : 0 ≤ endK kind ∧ endK kind ≤ 1 := by unfold endK; split <;> decide
  by_cases ho : s.open_ = true
  case neg => rw [if_neg ho]; exact h.put (okX_const (by omega) (by omega))
  have of := out_facts h hr s hs.symm ho
  have hln := sortS_len s.out
  rw [if_pos ho]
  split
  · exact h.put (okX_const (by omega) (by omega))
  · split
    · have hm := mem_g (sortS s.out) 0 (by omega)
      have := of.2.2 _ hm
      exact ⟨h, Nat.le_refl _, Nat.le_succ _, this.1, this.2⟩
    · refine h.put ⟨by show 0 ≤ kind ∧ kind ≤ 4; omega, ⟨(by decide : (-128 : Int) ≤ 0), (by decide : (0 : Int) ≤ 128)⟩, fun e => ?_, of.1, of.2.2⟩
      have e : kind = 2 := e
      omega
end Go.Proofs.YtdiciemlbhkilaaGreatDoor
namespace Go.Proofs.YtdiciemlbhkilaaGreatDoor
open Go Go.Cx Go.RowKit
set_option linter.unusedVariables false
set_option linter.unusedSimpArgs false
set_option maxHeartbeats 4000000
attribute [local irreducible] J JC thenK blockK loopK roundK drawK retK QW Qt pel List.set Calls
attribute [local irreducible] JE Br eK0 eK3 brK
section
variable {P : Program} {n : Nat} {w0 : World} {R : Heap} {l0 : List Oper} {K : Exit → Fr → List Heap → Prop} {f : Fr} {L : List Heap} {rest : List (Nat × Oper)} {κ : Nat}
variable {Γ : List (Nat × Go.Cx.TI)} {d : Nat} {ty : TypeId} {pos : String} {aft : Array Edge} {g : Option (Nat × Bool)} {t u kt et : TypeId} {x y : Operand}
theorem J.mN {p : Option Nat} {s1 b1 : Nat} {z1 : Option Value} (hΓ : Fits P Γ) (k : J P n w0 R l0 K rest (upd f d (.bool p.isNone)) L) (hg : wantB n f l0 ⟨some d, .binOp .eql t x y u, ty, pos, aft, g⟩ = true := by exact rfl) (hx : Cx.ev n f x = .map p := by exact rfl) (hy : Cx.ev n f y = .map none := by exact rfl) (ht : Go.Cx.look Γ t = some ⟨.map kt et, s1, z1, b1⟩ := by exact rfl) : J P n w0 R l0 K ((κ, ⟨some d, .binOp .eql t x y u, ty, pos, aft, g⟩) :: rest) f L :=
  J.p hg (fun w => by
    have hu := (hΓ t _ ht).1
    have h : ∀ d : Nat, (Op.equalIn (d + 1) t (.map p) (.map none)).run P w = .ok p.isNone w := fun d => by
      cases p <;> simp [Op.equalIn, run_underlying hu]
    have h2 : (binOp .eql t (.map p) (.map none)).run P w = .ok (.bool p.isNone) w := by
      simp only [binOp]
      simp [Op.equal, Op.maxDepth, h 9999]
    have h3 : (eqGuard .eql t x y (.map p) (.map none)).run P w = .ok () w := by simp [eqGuard]
    simp only [execOp, hx, hy, Sem.run_bind, h3, Result.andThen_ok, h2]
    rfl) k
end
theorem hrot4 {w0 w : World} {R x a b c d : Heap} {L : List Heap} (h : H w0 R (x :: a :: b :: c :: d :: L) w) : H w0 R (a :: b :: c :: d :: x :: L) w := H.sel (l := [_, _, _, _, _]) (M := L) h [1, 2, 3, 4, 0]
theorem lit_sl (a : Option Addr) : SlT encI 1 a [] [] := ⟨fun _ => rfl, fun i hi => absurd hi (Nat.not_lt_zero _)⟩
theorem eAddN : Entr Tryz.prog 39 := Entr.of Tryz.func39 rfl rfl
set_option maxHeartbeats 16000000 in
theorem addN_any (N : Int) (hN : 0 ≤ N ∧ N ≤ 128) (v : NV) {w0 w : World} {R : Heap} {L : List Heap} {b cap bm : Nat} {a : Option Addr} {vs : List NV} {ho hi hm hl : Heap} (hsl : SlT encI 1 v.a v.l hl) (rl : RdH R L hl) (hvl : v.l.length ≤ 1000000) (hf : formedP (pnV v) N vs.length = true) (hT : Tab w0) (bs : BS vs a cap bm ho hi hm) (op : OkP (vs.map pnV)) (hv65 : vs.length < 65536) (hw : H w0 R (bL N b a vs cap bm ho hi hm ++ L) w) :
    Calls Tryz.prog 39 #[.pointer (some ⟨b, 0, none⟩), .agg ⟨encNV v⟩] w fun e w' => ∃ v' L', e = .returned v' ∧ H w0 R L' w' ∧ ∃ a' cap' ho' hi' hm' vs', v' = .tuple #[.int .i64 (addP (vs.map pnV) (pnV v)).1, .int .i64 0] ∧ L' = bL N b a' vs' cap' bm ho' hi' hm' ++ L ∧ BS vs' a' cap' bm ho' hi' hm' ∧ vs'.map pnV = (addP (vs.map pnV) (pnV v)).2 := by
  have cF := fun w hw => formedN_any v hl hsl hvl N vs.length hN w hw
  rw [hf] at cF
  by_cases hk : v.kind = 3 ∨ v.kind = 4
  case neg =>
    have hA : addP (vs.map pnV) (pnV v) = putP (vs.map pnV) (v.kind, v.lit, []) := add_const (x := pnV v) ⟨fun e => hk (.inl e), fun e => hk (.inr e)⟩
    rw [hA]
    unfold bL at hw
    simp only [List.cons_append, List.nil_append] at hw
    have hlen : (vs.map pnV).length = vs.length := List.length_map ..
    refine calls_in Tryz.func39 Tryz.ntmps39 rfl rfl (hw) ?_
    unfold bO
    have okv : OkV ⟨v.kind, v.lit, none, 0, []⟩ := by
      have hx := formed_const (m := 0) hN hf hk
      exact ⟨hx.k, hx.t, Nat.zero_le _, fun k hk => absurd hk List.not_mem_nil⟩
    repeat' first
      | (refine J.isJ ?_; first | (first | (refine J.o 11 ?_; first | refine J.pN hΓ ?_ | refine J.mN hΓ ?_) | (refine J.fc 81 ?_; refine J.call0 eForm rfl rfl (fun w hw => cF w (hw.rdH rl.tl.tl.tl.tl.tl)) ?_) | (refine J.fc 82 ?_; refine J.callx ePut rfl rfl (fun w hw => put_any ⟨v.kind, v.lit, none, 0, []⟩ okv hT bs (lit_sl none) hv65 (H.sel (l := [_, _, _, _, _, _]) (M := L) hw.nilF [0, 2, 3, 4, 5])) ?_; rintro _ _ ⟨a2, c2, ho2, hi2, hm2, vs2, rfl, rfl, bs2, e2, _⟩)) | (first | (refine J.o 0 ?_; refine J.ev' hΓ ?_) | refine J.nil ?_ | (refine J.o 4 ?_; first | refine J.e0 hΓ ?_ | refine J.e1 hΓ ?_ | refine J.lT default hΓ ?_ | refine J.lR hΓ ?_) | (refine J.o 3 ?_; first | refine J.iJ hΓ ?_ | refine J.ev' hΓ ?_) | (refine J.o 6 ?_; refine J.bx (fun _ => ?_)) | (refine J.o 8 ?_; refine J.bd hΓ ?_) | (refine J.o 10 ?_; refine J.ev' hΓ ?_) | (refine J.o 11 ?_; refine J.ev' hΓ ?_)))
      | (first | refine JC.seq ?_ | refine JC.region ?_ | refine JC.block ?_ | refine JC.ret ?_ | refine JC.skip ?_ | refine thenK.nn ?_ | refine thenK.r ?_ | refine blockK.nn ?_ | refine blockK.r ?_ | refine JC.condF rfl ?_ | (refine JC.cond rfl (fun hc => ?_) (fun hc => ?_) <;> ((try simp only [tcS] at hc) <;> first | (first | (exact absurd rfl hc) | (exfalso; omega) | (exact (tF hc (by assumption)).elim) | (exact (fT hc (by assumption)).elim)) | skip)) | refine drawK.nn ?_)
      | ((refine JC.drawN [] [] (by kernel_rfl) (by kernel_rfl) ?_))
      | fail
    all_goals first | (exfalso; omega) | skip
    exact ret2f rfl rfl rfl rfl rfl (fun w1 hw => ⟨_, _, rfl, hw, a2, c2, ho2, hi2, hm2, vs2, rfl, rfl, bs2, e2⟩)
  have hlen : (vs.map pnV).length = vs.length := List.length_map ..
  have hf' := hf
  rw [← hlen] at hf'
  have hrg : ∀ i, i ∈ v.l → 0 ≤ i ∧ i < vs.length := formed_rng hf
  have okb := op.okB (by omega)
  have okC : ∀ k : Int, 0 ≤ k ∧ k ≤ 1 → OkV ⟨k, 0, none, 0, []⟩ := fun k hk => ⟨by show 0 ≤ k ∧ k ≤ 4; omega, ⟨(by decide : (-128 : Int) ≤ 0), (by decide : (0 : Int) ≤ 128)⟩, Nat.zero_le _, fun i hi => absurd hi List.not_mem_nil⟩
  unfold bL at hw
  simp only [List.cons_append, List.nil_append] at hw
  rcases hk with hk | hk
  · have hd : dropK v.kind = 1 := by unfold dropK; rw [hk]; rfl
    have he : endK v.kind = 0 := by unfold endK; rw [hk]; rfl
    have hA := add_gate op (kind := v.kind) (lt := v.lit) (l := v.l) (by omega) _ rfl
    have hof := fun ho => out_facts op (kind := v.kind) (l := v.l) (formed_rng hf') _ rfl ho
    rw [hd, he] at hA
    rw [hd, he] at hof
    have hA : addP (vs.map pnV) (pnV v) = (if (stW vs v.kind 1 0 v.l).open_ = true then (if (stW vs v.kind 1 0 v.l).out.length = 0 then putP (vs.map pnV) (1, 0, []) else if (stW vs v.kind 1 0 v.l).out.length = 1 then ((sortS (stW vs v.kind 1 0 v.l).out).getD 0 default, vs.map pnV) else putP (vs.map pnV) (v.kind, 0, sortS (stW vs v.kind 1 0 v.l).out)) else putP (vs.map pnV) (0, 0, [])) := hA
    have hof : (stW vs v.kind 1 0 v.l).open_ = true → (sortS (stW vs v.kind 1 0 v.l).out).Pairwise (· < ·) ∧ _ ∧ ∀ i, i ∈ sortS (stW vs v.kind 1 0 v.l).out → 0 ≤ i ∧ i < ((vs.map pnV).length : Int) := hof
    rw [hlen] at hof
    have okM : (stW vs v.kind 1 0 v.l).open_ = true → ∀ ao co, OkV ⟨v.kind, 0, ao, co, sortS (stW vs v.kind 1 0 v.l).out⟩ := fun ho ao co => by
      have h := hof ho
      have h2 := asc_len _ 0 vs.length (by omega) h.1 h.2.2
      exact ⟨by show 0 ≤ v.kind ∧ v.kind ≤ 4; omega, ⟨(by decide : (-128 : Int) ≤ 0), (by decide : (0 : Int) ≤ 128)⟩, by show (sortS (stW vs v.kind 1 0 v.l).out).length ≤ 1000000; omega, fun k hk => by have := h.2.2 k hk; omega⟩
    have hln := sortS_len (stW vs v.kind 1 0 v.l).out
    refine calls_in Tryz.func39 Tryz.ntmps39 rfl rfl (hw) ?_
    unfold bO
    repeat' first
      | (refine J.isJ ?_; first | (first | (refine J.o 11 ?_; first | refine J.pN hΓ ?_ | refine J.mN hΓ ?_) | (refine J.o 4 ?_; first | refine J.lT default hΓ ?_ (hs := oO.sl) (hr := RdH.hd) | refine J.lR hΓ ?_ (hr := Rd.hd.tl.tl.tl.tl.tl)) | (refine J.fc 81 ?_; refine J.call0 eForm rfl rfl (fun w hw => cF w (hw.rdH rl.tl.tl.tl.tl.tl)) ?_) | (refine J.fc 83 ?_; refine J.callx eInp rfl rfl (fun w hw => inputs_any v.kind 1 0 v.l v.a v.c hsl rl.tl bs.ow bs.ins okb (by omega) hvl hrg (show H w0 R (bL N b a vs cap bm ho hi hm ++ (_ :: L)) w from hrot4 hw)) ?_; rintro _ _ ⟨ao, co, hO, rfl, rfl, oO⟩; unfold bL bO; simp only [List.cons_append, List.nil_append]) | (refine J.fc 82 ?_; (first | refine J.callx ePut rfl rfl (fun w hw => put_any ⟨v.kind, 0, ao, co, sortS (stW vs v.kind 1 0 v.l).out⟩ (okM (by assumption) ao co) hT bs oO.sl hv65 (H.sel (l := [_, _, _, _, _, _]) (M := L) hw [0, 1, 2, 3, 4])) ?_ | refine J.callx ePut rfl rfl (fun w hw => put_any ⟨0, 0, none, 0, []⟩ (okC 0 (by decide)) hT bs (lit_sl none) hv65 (H.sel (l := [_, _, _, _, _, _, _]) (M := L) hw.nilF [0, 2, 3, 4, 5])) ?_ | refine J.callx ePut rfl rfl (fun w hw => put_any ⟨1, 0, none, 0, []⟩ (okC 1 (by decide)) hT bs (lit_sl none) hv65 (H.sel (l := [_, _, _, _, _, _, _]) (M := L) hw.nilF [0, 2, 3, 4, 5])) ?_); rintro _ _ ⟨a2, c2, ho2, hi2, hm2, vs2, rfl, rfl, bs2, e2, _⟩)) | (first | (refine J.o 0 ?_; refine J.ev' hΓ ?_) | refine J.nil ?_ | (refine J.o 4 ?_; first | refine J.e0 hΓ ?_ | refine J.e1 hΓ ?_ | refine J.lT default hΓ ?_ | refine J.lR hΓ ?_) | (refine J.o 3 ?_; first | refine J.iJ hΓ ?_ | refine J.ev' hΓ ?_) | (refine J.o 6 ?_; refine J.bx (fun _ => ?_)) | (refine J.o 8 ?_; refine J.bd hΓ ?_) | (refine J.o 10 ?_; refine J.ev' hΓ ?_) | (refine J.o 11 ?_; refine J.ev' hΓ ?_)))
      | (first | refine JC.seq ?_ | refine JC.region ?_ | refine JC.block ?_ | refine JC.ret ?_ | refine JC.skip ?_ | refine thenK.nn ?_ | refine thenK.r ?_ | refine blockK.nn ?_ | refine blockK.r ?_ | refine JC.condF rfl ?_ | (refine JC.cond rfl (fun hc => ?_) (fun hc => ?_) <;> ((try simp only [tcS] at hc) <;> first | (first | (exact absurd rfl hc) | (exfalso; omega) | (exact (tF hc (by assumption)).elim) | (exact (fT hc (by assumption)).elim)) | skip)) | refine drawK.nn ?_)
      | ((refine JC.drawN [] [] (by kernel_rfl) (by kernel_rfl) ?_))
      | fail
    all_goals first | (exfalso; omega) | skip
    all_goals rw [hA]
    · rw [if_neg (by rw [hc]; decide)]
      exact ret2f rfl rfl rfl rfl rfl (fun w1 hw => ⟨_, _, rfl, hw, a2, c2, ho2, hi2, hm2, vs2, rfl, rfl, bs2, e2⟩)
    · rw [if_pos (by assumption : (stW vs v.kind 1 0 v.l).open_ = true), if_pos (by omega : (stW vs v.kind 1 0 v.l).out.length = 0)]
      exact ret2f rfl rfl rfl rfl rfl (fun w1 hw => ⟨_, _, rfl, hw, a2, c2, ho2, hi2, hm2, vs2, rfl, rfl, bs2, e2⟩)
    · rw [if_pos (by assumption : (stW vs v.kind 1 0 v.l).open_ = true), if_neg (by omega : ¬ (stW vs v.kind 1 0 v.l).out.length = 0), if_pos (by omega : (stW vs v.kind 1 0 v.l).out.length = 1)]
      exact ret2f rfl rfl rfl rfl rfl (fun w1 hw => ⟨_, _, rfl, H.sel (l := [_, _, _, _, _, _]) (M := L) hw [1, 2, 3, 4], a, cap, ho, hi, hm, vs, rfl, rfl, bs, rfl⟩)
    · rw [if_pos (by assumption : (stW vs v.kind 1 0 v.l).open_ = true), if_neg (by omega : ¬ (stW vs v.kind 1 0 v.l).out.length = 0), if_neg (by omega : ¬ (stW vs v.kind 1 0 v.l).out.length = 1)]
      exact ret2f rfl rfl rfl rfl rfl (fun w1 hw => ⟨_, _, rfl, hw, a2, c2, ho2, hi2, hm2, vs2, rfl, rfl, bs2, e2⟩)
  · have hd : dropK v.kind = 0 := by unfold dropK; rw [hk]; rfl
    have he : endK v.kind = 1 := by unfold endK; rw [hk]; rfl
    have hA := add_gate op (kind := v.kind) (lt := v.lit) (l := v.l) (by omega) _ rfl
    have hof := fun ho => out_facts op (kind := v.kind) (l := v.l) (formed_rng hf') _ rfl ho
    rw [hd, he] at hA
    rw [hd, he] at hof
    have hA : addP (vs.map pnV) (pnV v) = (if (stW vs v.kind 0 1 v.l).open_ = true then (if (stW vs v.kind 0 1 v.l).out.length = 0 then putP (vs.map pnV) (0, 0, []) else if (stW vs v.kind 0 1 v.l).out.length = 1 then ((sortS (stW vs v.kind 0 1 v.l).out).getD 0 default, vs.map pnV) else putP (vs.map pnV) (v.kind, 0, sortS (stW vs v.kind 0 1 v.l).out)) else putP (vs.map pnV) (1, 0, [])) := hA
    have hof : (stW vs v.kind 0 1 v.l).open_ = true → (sortS (stW vs v.kind 0 1 v.l).out).Pairwise (· < ·) ∧ _ ∧ ∀ i, i ∈ sortS (stW vs v.kind 0 1 v.l).out → 0 ≤ i ∧ i < ((vs.map pnV).length : Int) := hof
    rw [hlen] at hof
    have okM : (stW vs v.kind 0 1 v.l).open_ = true → ∀ ao co, OkV ⟨v.kind, 0, ao, co, sortS (stW vs v.kind 0 1 v.l).out⟩ := fun ho ao co => by
      have h := hof ho
      have h2 := asc_len _ 0 vs.length (by omega) h.1 h.2.2
      exact ⟨by show 0 ≤ v.kind ∧ v.kind ≤ 4; omega, ⟨(by decide : (-128 : Int) ≤ 0), (by decide : (0 : Int) ≤ 128)⟩, by show (sortS (stW vs v.kind 0 1 v.l).out).length ≤ 1000000; omega, fun k hk => by have := h.2.2 k hk; omega⟩
    have hln := sortS_len (stW vs v.kind 0 1 v.l).out
    refine calls_in Tryz.func39 Tryz.ntmps39 rfl rfl (hw) ?_
    unfold bO
    repeat' first
      | (refine J.isJ ?_; first | (first | (refine J.o 11 ?_; first | refine J.pN hΓ ?_ | refine J.mN hΓ ?_) | (refine J.o 4 ?_; first | refine J.lT default hΓ ?_ (hs := oO.sl) (hr := RdH.hd) | refine J.lR hΓ ?_ (hr := Rd.hd.tl.tl.tl.tl.tl)) | (refine J.fc 81 ?_; refine J.call0 eForm rfl rfl (fun w hw => cF w (hw.rdH rl.tl.tl.tl.tl.tl)) ?_) | (refine J.fc 83 ?_; refine J.callx eInp rfl rfl (fun w hw => inputs_any v.kind 0 1 v.l v.a v.c hsl rl.tl bs.ow bs.ins okb (by omega) hvl hrg (show H w0 R (bL N b a vs cap bm ho hi hm ++ (_ :: L)) w from hrot4 hw)) ?_; rintro _ _ ⟨ao, co, hO, rfl, rfl, oO⟩; unfold bL bO; simp only [List.cons_append, List.nil_append]) | (refine J.fc 82 ?_; (first | refine J.callx ePut rfl rfl (fun w hw => put_any ⟨v.kind, 0, ao, co, sortS (stW vs v.kind 0 1 v.l).out⟩ (okM (by assumption) ao co) hT bs oO.sl hv65 (H.sel (l := [_, _, _, _, _, _]) (M := L) hw [0, 1, 2, 3, 4])) ?_ | refine J.callx ePut rfl rfl (fun w hw => put_any ⟨1, 0, none, 0, []⟩ (okC 1 (by decide)) hT bs (lit_sl none) hv65 (H.sel (l := [_, _, _, _, _, _, _]) (M := L) hw.nilF [0, 2, 3, 4, 5])) ?_ | refine J.callx ePut rfl rfl (fun w hw => put_any ⟨0, 0, none, 0, []⟩ (okC 0 (by decide)) hT bs (lit_sl none) hv65 (H.sel (l := [_, _, _, _, _, _, _]) (M := L) hw.nilF [0, 2, 3, 4, 5])) ?_); rintro _ _ ⟨a2, c2, ho2, hi2, hm2, vs2, rfl, rfl, bs2, e2, _⟩)) | (first | (refine J.o 0 ?_; refine J.ev' hΓ ?_) | refine J.nil ?_ | (refine J.o 4 ?_; first | refine J.e0 hΓ ?_ | refine J.e1 hΓ ?_ | refine J.lT default hΓ ?_ | refine J.lR hΓ ?_) | (refine J.o 3 ?_; first | refine J.iJ hΓ ?_ | refine J.ev' hΓ ?_) | (refine J.o 6 ?_; refine J.bx (fun _ => ?_)) | (refine J.o 8 ?_; refine J.bd hΓ ?_) | (refine J.o 10 ?_; refine J.ev' hΓ ?_) | (refine J.o 11 ?_; refine J.ev' hΓ ?_)))
      | (first | refine JC.seq ?_ | refine JC.region ?_ | refine JC.block ?_ | refine JC.ret ?_ | refine JC.skip ?_ | refine thenK.nn ?_ | refine thenK.r ?_ | refine blockK.nn ?_ | refine blockK.r ?_ | refine JC.condF rfl ?_ | (refine JC.cond rfl (fun hc => ?_) (fun hc => ?_) <;> ((try simp only [tcS] at hc) <;> first | (first | (exact absurd rfl hc) | (exfalso; omega) | (exact (tF hc (by assumption)).elim) | (exact (fT hc (by assumption)).elim)) | skip)) | refine drawK.nn ?_)
      | ((refine JC.drawN [] [] (by kernel_rfl) (by kernel_rfl) ?_))
      | fail
    all_goals first | (exfalso; omega) | skip
    all_goals rw [hA]
    · rw [if_neg (by rw [hc]; decide)]
      exact ret2f rfl rfl rfl rfl rfl (fun w1 hw => ⟨_, _, rfl, hw, a2, c2, ho2, hi2, hm2, vs2, rfl, rfl, bs2, e2⟩)
    · rw [if_pos (by assumption : (stW vs v.kind 0 1 v.l).open_ = true), if_pos (by omega : (stW vs v.kind 0 1 v.l).out.length = 0)]
      exact ret2f rfl rfl rfl rfl rfl (fun w1 hw => ⟨_, _, rfl, hw, a2, c2, ho2, hi2, hm2, vs2, rfl, rfl, bs2, e2⟩)
    · rw [if_pos (by assumption : (stW vs v.kind 0 1 v.l).open_ = true), if_neg (by omega : ¬ (stW vs v.kind 0 1 v.l).out.length = 0), if_pos (by omega : (stW vs v.kind 0 1 v.l).out.length = 1)]
      exact ret2f rfl rfl rfl rfl rfl (fun w1 hw => ⟨_, _, rfl, H.sel (l := [_, _, _, _, _, _]) (M := L) hw [1, 2, 3, 4], a, cap, ho, hi, hm, vs, rfl, rfl, bs, rfl⟩)
    · rw [if_pos (by assumption : (stW vs v.kind 0 1 v.l).open_ = true), if_neg (by omega : ¬ (stW vs v.kind 0 1 v.l).out.length = 0), if_neg (by omega : ¬ (stW vs v.kind 0 1 v.l).out.length = 1)]
      exact ret2f rfl rfl rfl rfl rfl (fun w1 hw => ⟨_, _, rfl, hw, a2, c2, ho2, hi2, hm2, vs2, rfl, rfl, bs2, e2⟩)
end Go.Proofs.YtdiciemlbhkilaaGreatDoor
namespace Go.Proofs.YtdiciemlbhkilaaGreatDoor
open Go Go.Cx Go.RowKit
set_option linter.unusedVariables false
set_option linter.unusedSimpArgs false
set_option maxHeartbeats 4000000
attribute [local irreducible] J JC thenK blockK loopK roundK drawK retK QW Qt pel List.set Calls
attribute [local irreducible] JE Br eK0 eK3 brK
def b2i (b : Bool) : Int := if b then 1 else 0
def Ord (B : List PN) : Prop := ∀ (i : Nat) (k : Int), k ∈ inP B i → 0 ≤ k ∧ k < i
def orS (U : List Bool) (l : List Int) (x : Bool) : List Bool := l.foldl (fun U k => U.set k.toNat (U.getD k.toNat false || x)) U
def mk (B : List PN) : Nat → List Bool → List Bool
  | 0, U => U
  | i + 1, U => mk B i (orS U (inP B i) (U.getD i false))
def markN (B : List PN) (r n : Nat) : List Bool := mk B (r + 1) ((List.replicate n false).set r true)
def rk (U : List Bool) : Nat → Int
  | 0 => 0
  | i + 1 => rk U i + b2i (U.getD i false)
def netTo (B : List PN) (U : List Bool) : Nat → List PN
  | 0 => []
  | i + 1 => netTo B U i ++ (if U.getD i false = true then [(kindP B i, litP B i, (inP B i).map fun k => rk U k.toNat)] else [])
def netP (B : List PN) (r : Nat) : List PN := netTo B (markN B r (r + 1)) (r + 1)
theorem orS_cons (U : List Bool) (k : Int) (l : List Int) (x : Bool) : orS U (k :: l) x = orS (U.set k.toNat (U.getD k.toNat false || x)) l x := rfl
theorem orS_snoc (U : List Bool) (k : Int) (l : List Int) (x : Bool) : orS U (l ++ [k]) x = (orS U l x).set k.toNat ((orS U l x).getD k.toNat false || x) := by
  unfold orS; rw [List.foldl_append]; rfl
theorem orS_len : ∀ (l : List Int) (U : List Bool) (x : Bool), (orS U l x).length = U.length
  | [], U, x => rfl
  | k :: l, U, x => by rw [orS_cons, orS_len l, List.length_set]
theorem getD_setB (U : List Bool) (k j : Nat) (y : Bool) : (U.set k y).getD j false = if k = j ∧ k < U.length then y else U.getD j false := by
  simp only [List.getD_eq_getElem?_getD, List.getElem?_set]
  by_cases h : k = j
  · subst h
    by_cases h2 : k < U.length
    · simp [h2]
    · simp [h2]
  · simp [h]
theorem orS_ne : ∀ (l : List Int) (U : List Bool) (x : Bool) (j : Nat), (∀ k, k ∈ l → k.toNat ≠ j) → (orS U l x).getD j false = U.getD j false
  | [], U, x, j, _ => rfl
  | k :: l, U, x, j, h => by
    rw [orS_cons, orS_ne l _ _ _ fun k hk => h k (List.mem_cons_of_mem _ hk), getD_setB, if_neg (fun e => h k List.mem_cons_self e.1)]
theorem orS_mono : ∀ (l : List Int) (U : List Bool) (x : Bool) (j : Nat), U.getD j false = true → (orS U l x).getD j false = true
  | [], U, x, j, h => h
  | k :: l, U, x, j, h => by
    rw [orS_cons]
    refine orS_mono l _ _ _ ?_
    rw [getD_setB]
    split
    · rename_i e; rw [e.1, h]; rfl
    · exact h
theorem orS_mem : ∀ (l : List Int) (U : List Bool) (j : Nat), (∃ k, k ∈ l ∧ k.toNat = j) → j < U.length → (orS U l true).getD j false = true
  | [], U, j, ⟨k, hk, _⟩, _ => absurd hk List.not_mem_nil
  | k :: l, U, j, ⟨q, hq, hqj⟩, hj => by
    rw [orS_cons]
    rcases List.mem_cons.1 hq with rfl | hq
    · refine orS_mono l _ _ _ ?_
      rw [getD_setB, if_pos ⟨hqj, by omega⟩, Bool.or_true]
    · exact orS_mem l _ j ⟨q, hq, hqj⟩ (by rw [List.length_set]; exact hj)
theorem mk_mono (B : List PN) : ∀ (n : Nat) (U : List Bool) (j : Nat), U.getD j false = true → (mk B n U).getD j false = true
  | 0, U, j, h => h
  | n + 1, U, j, h => by rw [mk]; exact mk_mono B n _ j (orS_mono _ _ _ _ h)
theorem mk_ge {B : List PN} (hB : Ord B) : ∀ (n : Nat) (U : List Bool) (j : Nat), n ≤ j + 1 → (mk B n U).getD j false = U.getD j false
  | 0, U, j, h => rfl
  | n + 1, U, j, h => by
    rw [mk, mk_ge hB n _ j (by omega), orS_ne]
    intro k hk
    have := hB n k hk
    omega
theorem mk_closed {B : List PN} (hB : Ord B) : ∀ (n : Nat) (U : List Bool), n ≤ U.length → ∀ i, i < n → (mk B n U).getD i false = true → ∀ k, k ∈ inP B i → (mk B n U).getD k.toNat false = true
  | 0, U, _, i, hi, _, _, _ => absurd hi (Nat.not_lt_zero _)
  | n + 1, U, hU, i, hi, h, k, hk => by
    rw [mk] at h ⊢
    by_cases e : i = n
    · subst e
      rw [mk_ge hB i _ i (by omega), orS_ne] at h
      · rw [h]
        refine mk_mono B i _ _ (orS_mem _ _ _ ⟨k, hk, rfl⟩ ?_)
        have := hB i k hk
        omega
      · intro q hq
        have := hB i q hq
        omega
    · exact mk_closed hB n _ (by rw [orS_len]; omega) i (by omega) h k hk
theorem netTo_len (B : List PN) (U : List Bool) : ∀ i, ((netTo B U i).length : Int) = rk U i
  | 0 => rfl
  | i + 1 => by
    rw [netTo, rk, List.length_append]
    have := netTo_len B U i
    cases U.getD i false with
    | true => rw [if_pos rfl]; show ((_ + 1 : Nat) : Int) = _ + 1; omega
    | false => rw [if_neg (by decide)]; show ((_ + 0 : Nat) : Int) = _ + 0; omega
section
variable {Γ : List (Nat × Go.Cx.TI)} {e : TypeId}
variable {P : Program} {n : Nat} {w0 : World} {R : Heap} {l0 : List Oper} {K : Exit → Fr → List Heap → Prop} {f : Fr} {L : List Heap} {rest : List (Nat × Oper)} {κ : Nat}
variable {d : Nat} {ty : TypeId} {pos : String} {aft : Array Edge} {g : Option (Nat × Bool)} {t u : TypeId} {x y : Operand}
theorem J.oB {p q : Bool} (k : J P n w0 R l0 K rest (upd f d (.int .i64 (b2i (p || q)))) L) (hg : wantB n f l0 ⟨some d, .binOp .or t x y u, ty, pos, aft, g⟩ = true := by exact rfl) (hx : Cx.ev n f x = .int .i64 (b2i p) := by exact rfl) (hy : Cx.ev n f y = .int .i64 (b2i q) := by exact rfl) : J P n w0 R l0 K ((κ, ⟨some d, .binOp .or t x y u, ty, pos, aft, g⟩) :: rest) f L :=
  J.p hg (bin_run hx hy (fun w => by cases p <;> cases q <;> rfl)) k
theorem J.sN {a : Option Addr} {m c s1 b1 : Nat} {z1 : Option Value} (hΓ : Fits P Γ) (k : J P n w0 R l0 K rest (upd f d (.bool a.isNone)) L) (hg : wantB n f l0 ⟨some d, .binOp .eql t x y u, ty, pos, aft, g⟩ = true := by exact rfl) (hx : Cx.ev n f x = .slice a m c := by exact rfl) (hy : Cx.ev n f y = .slice none 0 0 := by exact rfl) (ht : Go.Cx.look Γ t = some ⟨.slice e, s1, z1, b1⟩ := by exact rfl) : J P n w0 R l0 K ((κ, ⟨some d, .binOp .eql t x y u, ty, pos, aft, g⟩) :: rest) f L :=
  J.p hg (fun w => by
    have hu := (hΓ t _ ht).1
    have h : ∀ d : Nat, (Op.equalIn (d + 1) t (.slice a m c) (.slice none 0 0)).run P w = .ok a.isNone w := fun d => by
      cases a <;> simp [Op.equalIn, run_underlying hu]
    have h2 : (binOp .eql t (.slice a m c) (.slice none 0 0)).run P w = .ok (.bool a.isNone) w := by
      simp only [binOp]
      simp [Op.equal, Op.maxDepth, h 9999]
    have h3 : (eqGuard .eql t x y (.slice a m c) (.slice none 0 0)).run P w = .ok () w := by simp [eqGuard]
    simp only [execOp, hx, hy, Sem.run_bind, h3, Result.andThen_ok, h2]
    rfl) k
end
theorem eClone : Entr Tryz.prog 84 := Entr.of Tryz.func84 rfl rfl
theorem lit_nil (b : Nat) (t : TypeId) : OwT encI 1 t (some ⟨b, 0, none⟩) 0 [] [(b, .cells ⟨[]⟩ t (0, 0))] := ⟨fun _ => rfl, .inr ⟨b, [], rfl, rfl, rfl, Nat.le_refl _, rfl⟩⟩
theorem clone_any (a : Option Addr) (c : Nat) (l : List Int) (h : Heap) (hs : SlT encI 1 a l h) (hl : l.length ≤ 1000000) (w : World) (hw : Holds h w) :
    Calls Tryz.prog 84 #[.slice a l.length c] w (Gives (fun v g => ∃ a' c', v = .slice a' l.length c' ∧ OwT encI 1 3 a' c' l g) w) := by
  have q0 : ∀ L, RdH h L h := fun L => RdH.old fun _ hh => hh
  cases a with
  | none =>
    have h0 : l = [] := by
      cases l with
      | nil => rfl
      | cons x l => obtain ⟨b, off, cs', e', fr, h1, _⟩ := hs.at_ 0 (by simp); cases h1
    subst h0
    refine calls_of_JC (R := h) Tryz.func84 Tryz.ntmps84 rfl rfl (hw) ?_
    repeat' first
      | (refine J.isJ ?_; first | ((refine J.o 11 ?_; refine J.sN hΓ ?_)) | (first | (refine J.o 0 ?_; refine J.ev' hΓ ?_) | refine J.nil ?_ | (refine J.o 3 ?_; first | refine J.ev' hΓ ?_) | (refine J.o 9 ?_; refine J.bl hΓ (fun _ => ?_)) | (refine J.o 10 ?_; refine J.ev' hΓ ?_) | (refine J.o 11 ?_; refine J.ev' hΓ ?_)))
      | (first | refine JC.seq ?_ | refine JC.region ?_ | refine JC.ret ?_ | refine JC.skip ?_ | refine thenK.nn ?_ | refine thenK.r ?_ | refine JC.condT rfl ?_ | refine JC.condF rfl ?_)
      | (fail)
      | fail
    all_goals first | (exfalso; omega) | skip
    exact ret1f rfl rfl rfl (fun w1 hw => Gives.of hw.nilF ⟨none, 0, rfl, OwT.nil (fun _ => rfl)⟩)
  | some ad =>
    refine calls_of_JC (R := h) Tryz.func84 Tryz.ntmps84 rfl rfl (hw) ?_
    repeat' first
      | (refine J.isJ ?_; first | (first | (refine J.o 11 ?_; refine J.sN hΓ ?_) | (refine J.o 9 ?_; refine J.apA hΓ (lit_nil _ _) hs (q0 _) (fun a2 c2 h2 o2 => ?_))) | (first | (refine J.o 0 ?_; refine J.ev' hΓ ?_) | refine J.nil ?_ | (refine J.o 3 ?_; first | refine J.ev' hΓ ?_) | (refine J.o 9 ?_; refine J.bl hΓ (fun _ => ?_)) | (refine J.o 10 ?_; refine J.ev' hΓ ?_) | (refine J.o 11 ?_; refine J.ev' hΓ ?_)))
      | (first | refine JC.seq ?_ | refine JC.region ?_ | refine JC.ret ?_ | refine JC.skip ?_ | refine thenK.nn ?_ | refine thenK.r ?_ | refine JC.condT rfl ?_ | refine JC.condF rfl ?_)
      | (fail)
      | fail
    all_goals first | (exfalso; omega) | skip
    rw [List.nil_append] at o2 ⊢
    exact ret1f rfl rfl rfl (fun w1 hw => Gives.of hw ⟨a2, c2, rfl, o2⟩)
end Go.Proofs.YtdiciemlbhkilaaGreatDoor
