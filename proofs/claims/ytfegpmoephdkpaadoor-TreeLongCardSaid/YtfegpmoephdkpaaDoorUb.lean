/- The document's reader of chapter 42: node and Parse. -/
import Derived.Test.YtfegpmoephdkpaaDoorUa
namespace Go.Proofs.YtfegpmoephdkpaaDoor
open Go Go.Cx Go.RowKit
set_option linter.unusedVariables false
set_option linter.unusedSimpArgs false
set_option maxHeartbeats 4000000
attribute [local irreducible] J JC thenK blockK loopK roundK drawK retK QW Qt pel List.set Calls

def nodeR (l : List UInt8) : Nat → List Nd → Int → Int × List Nd
  | 0, ts, _ => (-1, ts)
  | f + 1, ts, p =>
    if p < 0 ∨ (l.length : Int) ≤ p then (-1, ts)
    else if l.getD p.toNat 0 = 43 then (eatR l 43 p, ts ++ [⟨0, 0, 0, true⟩])
    else if l.getD p.toNat 0 ≠ 40 then (eatR l 45 p, ts ++ [⟨0, 0, 0, false⟩])
    else
      let q := numR l (eatR l 40 p)
      let r := nodeR l f (ts ++ [⟨0, 0, 0, false⟩]) (eatR l 32 q.1)
      let r2 := nodeR l f r.2 (eatR l 32 r.1)
      (eatR l 41 r2.1, r2.2.set ts.length ⟨q.2, (ts ++ [(⟨0, 0, 0, false⟩ : Nd)]).length, r.2.length, false⟩)

theorem eatR_rng (l : List UInt8) (c : UInt8) (p : Int) : eatR l c p = -1 ∨ (eatR l c p = p + 1 ∧ 0 ≤ p ∧ p < l.length) := by
  unfold eatR
  split
  · rename_i h; exact .inr ⟨rfl, h.1, h.2.1⟩
  · exact .inl rfl
theorem numR_rng (l : List UInt8) (p : Int) (hp : p ≤ l.length) : (numR l p).1 = -1 ∨ (p + 1 ≤ (numR l p).1 ∧ (numR l p).1 ≤ l.length ∧ 0 ≤ p) := by
  unfold numR
  split
  · exact .inl rfl
  · have := (cntD_le 6 (l.drop p.toNat)).2
    rw [List.length_drop] at this
    simp only
    split
    · exact .inl rfl
    · refine .inr ⟨by omega, by omega, by omega⟩
theorem nodeR_neg (l : List UInt8) (f : Nat) (ts : List Nd) : nodeR l f ts (-1) = (-1, ts) := by
  cases f with
  | zero => rfl
  | succ f => rw [nodeR, if_pos (.inl (by decide))]
theorem nodeR_rng (l : List UInt8) : ∀ (f : Nat) (ts : List Nd) (p : Int), 0 ≤ p → p ≤ l.length → ts.length ≤ (nodeR l f ts p).2.length ∧ (nodeR l f ts p).2.length + p ≤ ts.length + l.length ∧ (p < l.length → 1 ≤ f → ts.length + 1 ≤ (nodeR l f ts p).2.length) ∧
    ((nodeR l f ts p).1 = -1 ∨ (p + 1 ≤ (nodeR l f ts p).1 ∧ (nodeR l f ts p).1 ≤ l.length ∧ (nodeR l f ts p).2.length + p ≤ ts.length + (nodeR l f ts p).1))
  | 0, ts, p, h0, h1 => by simp only [nodeR]; exact ⟨by omega, by omega, fun _ h => by omega, .inl trivial⟩
  | f + 1, ts, p, h0, h1 => by
    rw [nodeR]
    split
    · exact ⟨by dsimp only; omega, by dsimp only; omega, fun _ h => by omega, .inl rfl⟩
    rename_i hin
    have hin' : 0 ≤ p ∧ p < l.length := by omega
    split
    · simp only [List.length_append, List.length_cons, List.length_nil]
      have := eatR_rng l 43 p
      exact ⟨by omega, by omega, fun _ _ => by omega, by omega⟩
    split
    · simp only [List.length_append, List.length_cons, List.length_nil]
      have := eatR_rng l 45 p
      exact ⟨by omega, by omega, fun _ _ => by omega, by omega⟩
    · simp only [List.length_set]
      have e1 := eatR_rng l 40 p
      have e2 := numR_rng l (eatR l 40 p) (by omega)
      have e3 := eatR_rng l 32 (numR l (eatR l 40 p)).1
      have tl : (ts ++ [(⟨0, 0, 0, false⟩ : Nd)]).length = ts.length + 1 := by simp
      have i1 : (nodeR l f (ts ++ [⟨0, 0, 0, false⟩]) (eatR l 32 (numR l (eatR l 40 p)).1)).2.length ≥ ts.length + 1 ∧ ((nodeR l f (ts ++ [⟨0, 0, 0, false⟩]) (eatR l 32 (numR l (eatR l 40 p)).1)).2.length : Int) + p ≤ ts.length + l.length ∧
          ((nodeR l f (ts ++ [⟨0, 0, 0, false⟩]) (eatR l 32 (numR l (eatR l 40 p)).1)).1 = -1 ∨ (p + 1 ≤ (nodeR l f (ts ++ [⟨0, 0, 0, false⟩]) (eatR l 32 (numR l (eatR l 40 p)).1)).1 ∧ (nodeR l f (ts ++ [⟨0, 0, 0, false⟩]) (eatR l 32 (numR l (eatR l 40 p)).1)).1 ≤ l.length ∧ ((nodeR l f (ts ++ [⟨0, 0, 0, false⟩]) (eatR l 32 (numR l (eatR l 40 p)).1)).2.length : Int) + p ≤ ts.length + (nodeR l f (ts ++ [⟨0, 0, 0, false⟩]) (eatR l 32 (numR l (eatR l 40 p)).1)).1)) := by
        rcases e3 with e3 | e3
        · rw [e3, nodeR_neg]
          simp only [tl]
          exact ⟨by omega, by omega, .inl trivial⟩
        · obtain ⟨j1, j2, _, j3⟩ := nodeR_rng l f (ts ++ [⟨0, 0, 0, false⟩]) (eatR l 32 (numR l (eatR l 40 p)).1) (by omega) (by omega)
          rw [tl] at j1 j2 j3
          exact ⟨by omega, by omega, by omega⟩
      generalize nodeR l f (ts ++ [⟨0, 0, 0, false⟩]) (eatR l 32 (numR l (eatR l 40 p)).1) = r at i1 ⊢
      obtain ⟨j1, j2, j3⟩ := i1
      have e4 := eatR_rng l 32 r.1
      have i2 : r.2.length ≤ (nodeR l f r.2 (eatR l 32 r.1)).2.length ∧ ((nodeR l f r.2 (eatR l 32 r.1)).2.length : Int) + p ≤ ts.length + l.length ∧ ((nodeR l f r.2 (eatR l 32 r.1)).1 = -1 ∨ (p + 1 ≤ (nodeR l f r.2 (eatR l 32 r.1)).1 ∧ (nodeR l f r.2 (eatR l 32 r.1)).1 ≤ l.length ∧ ((nodeR l f r.2 (eatR l 32 r.1)).2.length : Int) + p ≤ ts.length + (nodeR l f r.2 (eatR l 32 r.1)).1)) := by
        rcases e4 with e4 | e4
        · rw [e4, nodeR_neg]
          exact ⟨by dsimp only; omega, by dsimp only; omega, .inl rfl⟩
        · obtain ⟨k1, k2, _, k3⟩ := nodeR_rng l f r.2 (eatR l 32 r.1) (by omega) (by omega)
          exact ⟨by omega, by omega, by omega⟩
      generalize nodeR l f r.2 (eatR l 32 r.1) = r2 at i2 ⊢
      obtain ⟨k1, k2, k3⟩ := i2
      have e5 := eatR_rng l 41 r2.1
      exact ⟨by omega, by omega, fun _ _ => by omega, by omega⟩

theorem eEatR : Entr Tryd.prog 64 := Entr.of Tryd.func64 rfl rfl
theorem eNumberR : Entr Tryd.prog 65 := Entr.of Tryd.func65 rfl rfl
theorem eNodeR : Entr Tryd.prog 46 := Entr.of Tryd.func46 rfl rfl
theorem refNumber_any (a : Option Addr) (len cap : Nat) (l : List UInt8) (p : Int) (h0 : -10 ≤ p) (hp : p ≤ l.length) (hl : l.length ≤ 1048576) (w : World) :
    Calls Tryd.prog 65 #[.agg ⟨[.slice a len cap, .int .i64 p]⟩, .string (S l)] w fun e w' => e = .returned (.tuple #[.agg ⟨[.slice a len cap, .int .i64 (numR l p).1]⟩, .int .i64 (numR l p).2]) ∧ Below w.heap.size w w' := by
  by_cases h : p < 0
  · exact refNumber_neg a len cap l p h h0 w
  · obtain ⟨k, rfl⟩ : ∃ k : Nat, p = (k : Int) := ⟨p.toNat, by omega⟩
    exact refNumber_nat a len cap l k (by omega) hl w

def RnPost (r : Int × List Nd) (L : List Heap) (v : Value) (L' : List Heap) : Prop := ∃ a cap h, v = .agg ⟨[.slice a r.2.length cap, .int .i64 r.1]⟩ ∧ L' = h :: L ∧ OwT encN 4 73 a cap r.2 h
theorem refNode_any (l : List UInt8) (hl : l.length ≤ 1048576) : ∀ (f : Nat) (ts : List Nd) (p : Int) {w0 w : World} {R : Heap} {L : List Heap} {a : Option Addr} {cap : Nat} {h : Heap},
    -1 ≤ p → p ≤ l.length → 1 ≤ f → l.length + 1 ≤ f + p ∨ p < 0 → ts.length ≤ 2000000 → (0 ≤ p → ts.length + l.length ≤ 2000000 + p) → OwT encN 4 73 a cap ts h → H w0 R (h :: L) w →
    Calls Tryd.prog 46 #[.agg ⟨[.slice a ts.length cap, .int .i64 p]⟩, .string (S l)] w fun e w' => ∃ v L', e = .returned v ∧ H w0 R L' w' ∧ RnPost (nodeR l f ts p) L v L' := by
  intro f
  induction f with
  | zero => intro ts p _ _ _ _ _ _ _ hp0 hp1 hf1; omega
  | succ f ih =>
    intro ts p w0 w R L a cap h hp0 hp1 hf1 hf ht htp ho hw
    refine calls_in Tryd.func46 Tryd.ntmps46 rfl rfl (hw) ?_
    by_cases hout : p < 0 ∨ (l.length : Int) ≤ p
    · have hP : nodeR l (f + 1) ts p = (-1, ts) := by rw [nodeR, if_pos hout]
      repeat' first
        | (refine J.isJ ?_; (first | (first | (refine J.o 0 ?_; refine J.ev' hΓ ?_) | refine J.nil ?_ | refine J.kd ?_ | (refine J.o 4 ?_; first | refine J.e0 hΓ ?_ | refine J.lT default hΓ ?_ | refine J.e1 hΓ ?_ | refine J.e2 hΓ ?_ | refine J.lR hΓ ?_) | (refine J.o 3 ?_; first | refine J.iA hΓ ?_ | refine J.iJ hΓ ?_ | refine J.fP hΓ ?_ | refine J.iC hΓ ?_ | refine J.ev' hΓ ?_) | (refine J.o 1 ?_; first | refine J.ad ?_ | refine J.ct ?_ | refine J.sb ?_ | refine J.mu ?_ | refine J.ng ?_ | refine J.qu ?_ | refine J.rm ?_ | refine J.s1 ?_ | refine J.sr ?_ | refine J.aW ?_ | refine J.oW ?_ | refine J.nW ?_) | (refine J.o 2 ?_; refine J.cv _ hΓ ?_) | (refine J.o 5 ?_; first | refine J.t0 hΓ ?_ | refine J.t1 hΓ ?_ | refine J.t2 hΓ ?_ | refine J.tT _ default hΓ (fun _ _ => ?_) | refine J.tT1 _ default hΓ (fun _ _ => ?_) | refine J.tT2 _ default hΓ (fun _ _ => ?_) | refine J.tT3 _ default hΓ (fun _ _ => ?_)) | (refine J.o 6 ?_; refine J.bx (fun _ => ?_)) | (refine J.o 7 ?_; refine J.al hΓ (fun _ => ?_)) | (refine J.o 8 ?_; refine J.bd hΓ ?_) | (refine J.o 9 ?_; refine J.bl hΓ (fun _ => ?_)) | (refine J.o 10 ?_; first | refine J.ls hΓ ?_ | refine J.ev' hΓ ?_) | (refine J.o 11 ?_; first | refine J.eS ?_ | refine J.xS ?_ | refine J.ev' hΓ ?_ | refine J.nT hΓ ?_) | (refine J.o 12 ?_; refine J.ix hΓ ?_) | (refine J.o 13 ?_; first | refine J.sL hΓ ?_ | refine J.sH hΓ ?_) | (refine J.o 14 ?_; refine J.mf hΓ ?_) | refine J.kn ?_) | ((fail_if_success refine J.wt ?_); refine J.gc rfl rfl (fun hc => ?_) (fun hc => ?_) <;> ((try simp only [decide_eq_true_eq, decide_eq_false_iff_not, beq_iff_eq, beq_eq_false_iff_ne, bne_iff_ne, bne_eq_false_iff_eq, Bool.not_eq_true', Bool.not_eq_false', Bool.not_eq_true, Bool.not_eq_false] at hc) <;> first | (first | (exact absurd rfl hc) | (exfalso; omega) | (exact absurd (hc.symm.trans (by assumption : _ = false)) (by decide)) | (exact absurd (hc.symm.trans (by assumption : _ = true)) (by decide))) | skip))))
        | (first | refine JC.seq ?_ | refine JC.region ?_ | refine JC.block ?_ | refine JC.ret ?_ | refine JC.exit ?_ | refine JC.skip ?_ | refine thenK.nn ?_ | refine thenK.r ?_ | refine thenK.x ?_ | refine blockK.nn ?_ | refine blockK.r ?_ | refine blockK.hit rfl ?_ | refine blockK.miss rfl ?_ | refine JC.condT rfl ?_ | refine JC.condF rfl ?_ | (refine JC.cond rfl (fun hc => ?_) (fun hc => ?_) <;> ((try simp only [decide_eq_true_eq, decide_eq_false_iff_not, beq_iff_eq, beq_eq_false_iff_ne, bne_iff_ne, bne_eq_false_iff_eq, Bool.not_eq_true', Bool.not_eq_false', Bool.not_eq_true, Bool.not_eq_false] at hc) <;> first | (first | (exact absurd rfl hc) | (exfalso; omega) | (exact absurd (hc.symm.trans (by assumption : _ = false)) (by decide)) | (exact absurd (hc.symm.trans (by assumption : _ = true)) (by decide))) | skip)) | (refine JC.drawA [] (by kernel_rfl) (by kernel_rfl) ?_) | refine drawK.nn ?_ | refine roundK.nn ?_ | refine roundK.r ?_ | refine roundK.x ?_ | refine loopK.r ?_ | refine loopK.x ?_)
        | fail
      all_goals first | (exfalso; omega) | exact retC hΓ rfl rfl rfl Rd.hd rfl (fun w1 hw => ⟨_, _, rfl, hw.drop.drop, by rw [hP]; exact ⟨_, _, _, rfl, rfl, ho⟩⟩)
    have hin : 0 ≤ p ∧ p < l.length := by omega
    have htp' := htp hin.1
    have hgl : l.getD p.toNat 0 = l.getD p.toNat 0 := rfl
    by_cases h43 : l.getD p.toNat 0 = 43
    · have hP : nodeR l (f + 1) ts p = (eatR l 43 p, ts ++ [⟨0, 0, 0, true⟩]) := by rw [nodeR, if_neg hout, if_pos h43]
      have hn : (l.getD p.toNat 0).toNat = 43 := by rw [h43]; rfl
      have hb : (((l.getD p.toNat 0).toNat : Int) == 43) = true := by rw [hn]; rfl
      repeat' first
        | (refine J.isJ ?_; first | (first | (refine J.o 0 ?_; refine J.ev' hΓ ?_) | refine J.nil ?_ | refine J.kd ?_ | (refine J.o 4 ?_; first | refine J.e0 hΓ ?_ | refine J.lT default hΓ ?_ | refine J.e1 hΓ ?_ | refine J.e2 hΓ ?_ | refine J.lR hΓ ?_) | (refine J.o 3 ?_; first | refine J.iA hΓ ?_ | refine J.iJ hΓ ?_ | refine J.fP hΓ ?_ | refine J.iC hΓ ?_ | refine J.ev' hΓ ?_) | (refine J.o 1 ?_; first | refine J.ad ?_ | refine J.ct ?_ | refine J.sb ?_ | refine J.mu ?_ | refine J.ng ?_ | refine J.qu ?_ | refine J.rm ?_ | refine J.s1 ?_ | refine J.sr ?_ | refine J.aW ?_ | refine J.oW ?_ | refine J.nW ?_) | (refine J.o 2 ?_; refine J.cv _ hΓ ?_) | (refine J.o 5 ?_; first | refine J.t0 hΓ ?_ | refine J.t1 hΓ ?_ | refine J.t2 hΓ ?_ | refine J.tT _ default hΓ (fun _ _ => ?_) | refine J.tT1 _ default hΓ (fun _ _ => ?_) | refine J.tT2 _ default hΓ (fun _ _ => ?_) | refine J.tT3 _ default hΓ (fun _ _ => ?_)) | (refine J.o 6 ?_; refine J.bx (fun _ => ?_)) | (refine J.o 7 ?_; refine J.al hΓ (fun _ => ?_)) | (refine J.o 8 ?_; refine J.bd hΓ ?_) | (refine J.o 9 ?_; refine J.bl hΓ (fun _ => ?_)) | (refine J.o 10 ?_; first | refine J.ls hΓ ?_ | refine J.ev' hΓ ?_) | (refine J.o 11 ?_; first | refine J.eS ?_ | refine J.xS ?_ | refine J.ev' hΓ ?_ | refine J.nT hΓ ?_) | (refine J.o 12 ?_; refine J.ix hΓ ?_) | (refine J.o 13 ?_; first | refine J.sL hΓ ?_ | refine J.sH hΓ ?_) | (refine J.o 14 ?_; refine J.mf hΓ ?_) | refine J.kn ?_) | (first | (refine J.app1c (enc := encN) [(⟨0, 0, 0, true⟩ : Nd)] hΓ (fun _ _ _ _ => ?_) (hus := by simp only [List.flatMap_cons, List.flatMap_nil, List.append_nil, encN]; rw [hb])) | (refine J.fc 64 ?_; refine J.call0 eEatR rfl rfl (fun w hw => refEat_any _ _ _ l 43 p hl (by omega) w) ?_)) | ((fail_if_success refine J.wt ?_); refine J.gc rfl rfl (fun hc => ?_) (fun hc => ?_) <;> ((try simp only [decide_eq_true_eq, decide_eq_false_iff_not, beq_iff_eq, beq_eq_false_iff_ne, bne_iff_ne, bne_eq_false_iff_eq, Bool.not_eq_true', Bool.not_eq_false', Bool.not_eq_true, Bool.not_eq_false] at hc) <;> first | (first | (exact absurd rfl hc) | (exfalso; omega) | (exact absurd (hc.symm.trans (by assumption : _ = false)) (by decide)) | (exact absurd (hc.symm.trans (by assumption : _ = true)) (by decide))) | skip)))
        | (first | refine JC.seq ?_ | refine JC.region ?_ | refine JC.block ?_ | refine JC.ret ?_ | refine JC.exit ?_ | refine JC.skip ?_ | refine thenK.nn ?_ | refine thenK.r ?_ | refine thenK.x ?_ | refine blockK.nn ?_ | refine blockK.r ?_ | refine blockK.hit rfl ?_ | refine blockK.miss rfl ?_ | refine JC.condT rfl ?_ | refine JC.condF rfl ?_ | (refine JC.cond rfl (fun hc => ?_) (fun hc => ?_) <;> ((try simp only [decide_eq_true_eq, decide_eq_false_iff_not, beq_iff_eq, beq_eq_false_iff_ne, bne_iff_ne, bne_eq_false_iff_eq, Bool.not_eq_true', Bool.not_eq_false', Bool.not_eq_true, Bool.not_eq_false] at hc) <;> first | (first | (exact absurd rfl hc) | (exfalso; omega) | (exact absurd (hc.symm.trans (by assumption : _ = false)) (by decide)) | (exact absurd (hc.symm.trans (by assumption : _ = true)) (by decide))) | skip)) | (refine JC.drawA [] (by kernel_rfl) (by kernel_rfl) ?_) | refine drawK.nn ?_ | refine roundK.nn ?_ | refine roundK.r ?_ | refine roundK.x ?_ | refine loopK.r ?_ | refine loopK.x ?_)
        | fail
      all_goals first | (exfalso; omega) | exact retC hΓ rfl rfl rfl Rd.hd rfl (fun w1 hw => ⟨_, _, rfl, hw.drop.drop, by rw [hP]; exact ⟨_, _, _, rfl, rfl, by assumption⟩⟩)
    have hn43 : (l.getD p.toNat 0).toNat ≠ 43 := fun h => h43 (UInt8.toNat_inj.1 h)
    have hb43 : (((l.getD p.toNat 0).toNat : Int) == 43) = false := by rw [beq_eq_false_iff_ne]; omega
    by_cases h40 : l.getD p.toNat 0 = 40
    case neg =>
      have hP : nodeR l (f + 1) ts p = (eatR l 45 p, ts ++ [⟨0, 0, 0, false⟩]) := by rw [nodeR, if_neg hout, if_neg h43, if_pos h40]
      have hn40 : (l.getD p.toNat 0).toNat ≠ 40 := fun h => h40 (UInt8.toNat_inj.1 h)
      repeat' first
        | (refine J.isJ ?_; first | (first | (refine J.o 0 ?_; refine J.ev' hΓ ?_) | refine J.nil ?_ | refine J.kd ?_ | (refine J.o 4 ?_; first | refine J.e0 hΓ ?_ | refine J.lT default hΓ ?_ | refine J.e1 hΓ ?_ | refine J.e2 hΓ ?_ | refine J.lR hΓ ?_) | (refine J.o 3 ?_; first | refine J.iA hΓ ?_ | refine J.iJ hΓ ?_ | refine J.fP hΓ ?_ | refine J.iC hΓ ?_ | refine J.ev' hΓ ?_) | (refine J.o 1 ?_; first | refine J.ad ?_ | refine J.ct ?_ | refine J.sb ?_ | refine J.mu ?_ | refine J.ng ?_ | refine J.qu ?_ | refine J.rm ?_ | refine J.s1 ?_ | refine J.sr ?_ | refine J.aW ?_ | refine J.oW ?_ | refine J.nW ?_) | (refine J.o 2 ?_; refine J.cv _ hΓ ?_) | (refine J.o 5 ?_; first | refine J.t0 hΓ ?_ | refine J.t1 hΓ ?_ | refine J.t2 hΓ ?_ | refine J.tT _ default hΓ (fun _ _ => ?_) | refine J.tT1 _ default hΓ (fun _ _ => ?_) | refine J.tT2 _ default hΓ (fun _ _ => ?_) | refine J.tT3 _ default hΓ (fun _ _ => ?_)) | (refine J.o 6 ?_; refine J.bx (fun _ => ?_)) | (refine J.o 7 ?_; refine J.al hΓ (fun _ => ?_)) | (refine J.o 8 ?_; refine J.bd hΓ ?_) | (refine J.o 9 ?_; refine J.bl hΓ (fun _ => ?_)) | (refine J.o 10 ?_; first | refine J.ls hΓ ?_ | refine J.ev' hΓ ?_) | (refine J.o 11 ?_; first | refine J.eS ?_ | refine J.xS ?_ | refine J.ev' hΓ ?_ | refine J.nT hΓ ?_) | (refine J.o 12 ?_; refine J.ix hΓ ?_) | (refine J.o 13 ?_; first | refine J.sL hΓ ?_ | refine J.sH hΓ ?_) | (refine J.o 14 ?_; refine J.mf hΓ ?_) | refine J.kn ?_) | (first | (refine J.app1c (enc := encN) [(⟨0, 0, 0, false⟩ : Nd)] hΓ (fun _ _ _ _ => ?_) (hus := by simp only [List.flatMap_cons, List.flatMap_nil, List.append_nil, encN]; rw [hb43])) | (refine J.fc 64 ?_; refine J.call0 eEatR rfl rfl (fun w hw => refEat_any _ _ _ l 45 p hl (by omega) w) ?_)) | ((fail_if_success refine J.wt ?_); refine J.gc rfl rfl (fun hc => ?_) (fun hc => ?_) <;> ((try simp only [decide_eq_true_eq, decide_eq_false_iff_not, beq_iff_eq, beq_eq_false_iff_ne, bne_iff_ne, bne_eq_false_iff_eq, Bool.not_eq_true', Bool.not_eq_false', Bool.not_eq_true, Bool.not_eq_false] at hc) <;> first | (first | (exact absurd rfl hc) | (exfalso; omega) | (exact absurd (hc.symm.trans (by assumption : _ = false)) (by decide)) | (exact absurd (hc.symm.trans (by assumption : _ = true)) (by decide))) | skip)))
        | (first | refine JC.seq ?_ | refine JC.region ?_ | refine JC.block ?_ | refine JC.ret ?_ | refine JC.exit ?_ | refine JC.skip ?_ | refine thenK.nn ?_ | refine thenK.r ?_ | refine thenK.x ?_ | refine blockK.nn ?_ | refine blockK.r ?_ | refine blockK.hit rfl ?_ | refine blockK.miss rfl ?_ | refine JC.condT rfl ?_ | refine JC.condF rfl ?_ | (refine JC.cond rfl (fun hc => ?_) (fun hc => ?_) <;> ((try simp only [decide_eq_true_eq, decide_eq_false_iff_not, beq_iff_eq, beq_eq_false_iff_ne, bne_iff_ne, bne_eq_false_iff_eq, Bool.not_eq_true', Bool.not_eq_false', Bool.not_eq_true, Bool.not_eq_false] at hc) <;> first | (first | (exact absurd rfl hc) | (exfalso; omega) | (exact absurd (hc.symm.trans (by assumption : _ = false)) (by decide)) | (exact absurd (hc.symm.trans (by assumption : _ = true)) (by decide))) | skip)) | (refine JC.drawA [] (by kernel_rfl) (by kernel_rfl) ?_) | refine drawK.nn ?_ | refine roundK.nn ?_ | refine roundK.r ?_ | refine roundK.x ?_ | refine loopK.r ?_ | refine loopK.x ?_)
        | fail
      all_goals first | (exfalso; omega) | exact retC hΓ rfl rfl rfl Rd.hd rfl (fun w1 hw => ⟨_, _, rfl, hw.drop.drop, by rw [hP]; exact ⟨_, _, _, rfl, rfl, by assumption⟩⟩)
    have h43' : l.getD p.toNat 0 ≠ 43 := h43
    have hn40 : (l.getD p.toNat 0).toNat = 40 := by rw [h40]; rfl
    have hE : eatR l 40 p = p + 1 := by unfold eatR; rw [if_pos ⟨hin.1, hin.2, h40⟩]
    have q1 := numR_rng l (eatR l 40 p) (by omega)
    have q2 := eatR_rng l 32 (numR l (eatR l 40 p)).1
    have tl : (ts ++ [(⟨0, 0, 0, false⟩ : Nd)]).length = ts.length + 1 := by simp
    have r1 : ts.length + 1 ≤ (nodeR l f (ts ++ [⟨0, 0, 0, false⟩]) (eatR l 32 (numR l (eatR l 40 p)).1)).2.length ∧ ((nodeR l f (ts ++ [⟨0, 0, 0, false⟩]) (eatR l 32 (numR l (eatR l 40 p)).1)).2.length : Int) + p ≤ ts.length + l.length ∧
        ((nodeR l f (ts ++ [⟨0, 0, 0, false⟩]) (eatR l 32 (numR l (eatR l 40 p)).1)).1 = -1 ∨ (p + 1 ≤ (nodeR l f (ts ++ [⟨0, 0, 0, false⟩]) (eatR l 32 (numR l (eatR l 40 p)).1)).1 ∧ (nodeR l f (ts ++ [⟨0, 0, 0, false⟩]) (eatR l 32 (numR l (eatR l 40 p)).1)).1 ≤ l.length ∧ ((nodeR l f (ts ++ [⟨0, 0, 0, false⟩]) (eatR l 32 (numR l (eatR l 40 p)).1)).2.length : Int) + p ≤ ts.length + (nodeR l f (ts ++ [⟨0, 0, 0, false⟩]) (eatR l 32 (numR l (eatR l 40 p)).1)).1)) := by
      rcases q2 with q2 | q2
      · rw [q2, nodeR_neg]
        simp only [tl]
        exact ⟨by omega, by omega, .inl trivial⟩
      · obtain ⟨j1, j2, _, j3⟩ := nodeR_rng l f (ts ++ [⟨0, 0, 0, false⟩]) (eatR l 32 (numR l (eatR l 40 p)).1) (by omega) (by omega)
        rw [tl] at j1 j2 j3
        exact ⟨by omega, by omega, by omega⟩
    have hP : nodeR l (f + 1) ts p = (eatR l 41 (nodeR l f (nodeR l f (ts ++ [⟨0, 0, 0, false⟩]) (eatR l 32 (numR l (eatR l 40 p)).1)).2 (eatR l 32 (nodeR l f (ts ++ [⟨0, 0, 0, false⟩]) (eatR l 32 (numR l (eatR l 40 p)).1)).1)).1, (nodeR l f (nodeR l f (ts ++ [⟨0, 0, 0, false⟩]) (eatR l 32 (numR l (eatR l 40 p)).1)).2 (eatR l 32 (nodeR l f (ts ++ [⟨0, 0, 0, false⟩]) (eatR l 32 (numR l (eatR l 40 p)).1)).1)).2.set ts.length ⟨(numR l (eatR l 40 p)).2, (ts ++ [(⟨0, 0, 0, false⟩ : Nd)]).length, (nodeR l f (ts ++ [⟨0, 0, 0, false⟩]) (eatR l 32 (numR l (eatR l 40 p)).1)).2.length, false⟩) := by
      rw [nodeR, if_neg hout, if_neg h43, if_neg (fun h => h h40)]
    have ih1 := fun {w0 w : World} {R : Heap} {L : List Heap} {a : Option Addr} {cap : Nat} {h : Heap} => ih (ts ++ [⟨0, 0, 0, false⟩]) (eatR l 32 (numR l (eatR l 40 p)).1) (w0 := w0) (w := w) (R := R) (L := L) (a := a) (cap := cap) (h := h) (by omega) (by omega) (by omega) (by omega) (by omega) (by omega)
    have ih2 := fun {w0 w : World} {R : Heap} {L : List Heap} {a : Option Addr} {cap : Nat} {h : Heap} => ih (nodeR l f (ts ++ [⟨0, 0, 0, false⟩]) (eatR l 32 (numR l (eatR l 40 p)).1)).2 (eatR l 32 (nodeR l f (ts ++ [⟨0, 0, 0, false⟩]) (eatR l 32 (numR l (eatR l 40 p)).1)).1) (w0 := w0) (w := w) (R := R) (L := L) (a := a) (cap := cap) (h := h)
    generalize hN : nodeR l f (ts ++ [⟨0, 0, 0, false⟩]) (eatR l 32 (numR l (eatR l 40 p)).1) = N at *
    have q3 := eatR_rng l 32 N.1
    have r2 : N.2.length ≤ (nodeR l f N.2 (eatR l 32 N.1)).2.length ∧ ((nodeR l f N.2 (eatR l 32 N.1)).2.length : Int) ≤ ts.length + l.length ∧ -1 ≤ (nodeR l f N.2 (eatR l 32 N.1)).1 ∧ (nodeR l f N.2 (eatR l 32 N.1)).1 ≤ l.length := by
      rcases q3 with q3 | q3
      · rw [q3, nodeR_neg]
        exact ⟨by dsimp only; omega, by dsimp only; omega, Int.le_refl _, by dsimp only; omega⟩
      · obtain ⟨k1, k2, _, k3⟩ := nodeR_rng l f N.2 (eatR l 32 N.1) (by omega) (by omega)
        exact ⟨by omega, by omega, by omega, by omega⟩
    have ih2' := fun {w0 w : World} {R : Heap} {L : List Heap} {a : Option Addr} {cap : Nat} {h : Heap} => ih2 (w0 := w0) (w := w) (R := R) (L := L) (a := a) (cap := cap) (h := h) (by omega) (by omega) (by omega) (by omega) (by omega) (by omega)
    clear ih ih2
    generalize hM : nodeR l f N.2 (eatR l 32 N.1) = M at *
    rw [hP]
    clear hP
    repeat' first
      | (refine J.isJ ?_; first | (first | (refine J.o 0 ?_; refine J.ev' hΓ ?_) | refine J.nil ?_ | refine J.kd ?_ | (refine J.o 4 ?_; first | refine J.e0 hΓ ?_ | refine J.lT default hΓ ?_ | refine J.e1 hΓ ?_ | refine J.e2 hΓ ?_ | refine J.lR hΓ ?_) | (refine J.o 3 ?_; first | refine J.iA hΓ ?_ | refine J.iJ hΓ ?_ | refine J.fP hΓ ?_ | refine J.iC hΓ ?_ | refine J.ev' hΓ ?_) | (refine J.o 1 ?_; first | refine J.ad ?_ | refine J.ct ?_ | refine J.sb ?_ | refine J.mu ?_ | refine J.ng ?_ | refine J.qu ?_ | refine J.rm ?_ | refine J.s1 ?_ | refine J.sr ?_ | refine J.aW ?_ | refine J.oW ?_ | refine J.nW ?_) | (refine J.o 2 ?_; refine J.cv _ hΓ ?_) | (refine J.o 5 ?_; first | refine J.t0 hΓ ?_ | refine J.t1 hΓ ?_ | refine J.t2 hΓ ?_ | refine J.tT _ default hΓ (fun _ _ => ?_) | refine J.tT1 _ default hΓ (fun _ _ => ?_) | refine J.tT2 _ default hΓ (fun _ _ => ?_) | refine J.tT3 _ default hΓ (fun _ _ => ?_)) | (refine J.o 6 ?_; refine J.bx (fun _ => ?_)) | (refine J.o 7 ?_; refine J.al hΓ (fun _ => ?_)) | (refine J.o 8 ?_; refine J.bd hΓ ?_) | (refine J.o 9 ?_; refine J.bl hΓ (fun _ => ?_)) | (refine J.o 10 ?_; first | refine J.ls hΓ ?_ | refine J.ev' hΓ ?_) | (refine J.o 11 ?_; first | refine J.eS ?_ | refine J.xS ?_ | refine J.ev' hΓ ?_ | refine J.nT hΓ ?_) | (refine J.o 12 ?_; refine J.ix hΓ ?_) | (refine J.o 13 ?_; first | refine J.sL hΓ ?_ | refine J.sH hΓ ?_) | (refine J.o 14 ?_; refine J.mf hΓ ?_) | refine J.kn ?_) | (first | (refine J.app1c (enc := encN) [(⟨0, 0, 0, false⟩ : Nd)] hΓ (fun _ _ _ _ => ?_)) | (refine J.fc 64 ?_; first | (refine J.call0 eEatR rfl rfl (fun w hw => refEat_any _ _ _ l 40 _ hl (by omega) w) ?_) | (refine J.call0 eEatR rfl rfl (fun w hw => refEat_any _ _ _ l 32 _ hl (by omega) w) ?_) | (refine J.call0 eEatR rfl rfl (fun w hw => refEat_any _ _ _ l 41 _ hl (by omega) w) ?_)) | (refine J.fc 65 ?_; refine J.call0 eNumberR rfl rfl (fun w hw => refNumber_any _ _ _ l _ (by omega) (by omega) hl w) ?_) | (refine J.fc 46 ?_; first | (refine J.callx eNodeR rfl rfl (fun w hw => ih1 (by assumption) (hw.perm (((List.Perm.swap _ _ _).cons _).trans (List.Perm.swap _ _ _)))) ?_; rintro _ _ ⟨_, _, _, rfl, rfl, _⟩; refine J.perm ((List.Perm.swap _ _ _).trans ((List.Perm.swap _ _ _).cons _)) ?_) | (refine J.callx eNodeR rfl rfl (fun w hw => ih2' (by assumption) (hw.perm (((List.Perm.swap _ _ _).cons _).trans (List.Perm.swap _ _ _)))) ?_; rintro _ _ ⟨_, _, _, rfl, rfl, _⟩; refine J.perm ((List.Perm.swap _ _ _).trans ((List.Perm.swap _ _ _).cons _)) ?_)) | (refine J.tT2 (⟨(numR l (eatR l 40 p)).2, (ts ++ [(⟨0, 0, 0, false⟩ : Nd)]).length, N.2.length, false⟩ : Nd) default hΓ (fun _ _ => ?_))) | ((fail_if_success refine J.wt ?_); refine J.gc rfl rfl (fun hc => ?_) (fun hc => ?_) <;> ((try simp only [decide_eq_true_eq, decide_eq_false_iff_not, beq_iff_eq, beq_eq_false_iff_ne, bne_iff_ne, bne_eq_false_iff_eq, Bool.not_eq_true', Bool.not_eq_false', Bool.not_eq_true, Bool.not_eq_false] at hc) <;> first | (first | (exact absurd rfl hc) | (exfalso; omega) | (exact absurd (hc.symm.trans (by assumption : _ = false)) (by decide)) | (exact absurd (hc.symm.trans (by assumption : _ = true)) (by decide))) | skip)))
      | (first | refine JC.seq ?_ | refine JC.region ?_ | refine JC.block ?_ | refine JC.ret ?_ | refine JC.exit ?_ | refine JC.skip ?_ | refine thenK.nn ?_ | refine thenK.r ?_ | refine thenK.x ?_ | refine blockK.nn ?_ | refine blockK.r ?_ | refine blockK.hit rfl ?_ | refine blockK.miss rfl ?_ | refine JC.condT rfl ?_ | refine JC.condF rfl ?_ | (refine JC.cond rfl (fun hc => ?_) (fun hc => ?_) <;> ((try simp only [decide_eq_true_eq, decide_eq_false_iff_not, beq_iff_eq, beq_eq_false_iff_ne, bne_iff_ne, bne_eq_false_iff_eq, Bool.not_eq_true', Bool.not_eq_false', Bool.not_eq_true, Bool.not_eq_false] at hc) <;> first | (first | (exact absurd rfl hc) | (exfalso; omega) | (exact absurd (hc.symm.trans (by assumption : _ = false)) (by decide)) | (exact absurd (hc.symm.trans (by assumption : _ = true)) (by decide))) | skip)) | (refine JC.drawA [] (by kernel_rfl) (by kernel_rfl) ?_) | refine drawK.nn ?_ | refine roundK.nn ?_ | refine roundK.r ?_ | refine roundK.x ?_ | refine loopK.r ?_ | refine loopK.x ?_)
      | fail
    all_goals first | (exfalso; omega) | exact retC hΓ rfl rfl rfl Rd.hd rfl (fun w1 hw => ⟨_, _, rfl, hw.drop.drop, ⟨_, _, _, by simp only [List.length_set]; rfl, rfl, by assumption⟩⟩)

def parseR (l : List UInt8) : Int × List Nd :=
  if 1048576 < l.length then (2, [])
  else if (nodeR l (l.length + 1) [] 0).1 ≠ (l.length : Int) then (5, [])
  else if checkT (nodeR l (l.length + 1) [] 0).2 128 = 0 then (0, (nodeR l (l.length + 1) [] 0).2)
  else (checkT (nodeR l (l.length + 1) [] 0).2 128, [])
theorem refParse_any (l : List UInt8) (w : World) : Calls Tryd.prog 23 #[.string (S l)] w (Gives (TreeErr 73 (parseR l)) w) := by
  refine calls_of_JC (R := []) Tryd.func23 Tryd.ntmps23 rfl rfl (Holds.nil _) ?_
  unfold parseR
  by_cases h0 : 1048576 < l.length
  · rw [if_pos h0]
    repeat' first
      | (refine J.isJ ?_; (first | (first | (refine J.o 0 ?_; refine J.ev' hΓ ?_) | refine J.nil ?_ | refine J.kd ?_ | (refine J.o 4 ?_; first | refine J.e0 hΓ ?_ | refine J.lT default hΓ ?_ | refine J.e1 hΓ ?_ | refine J.e2 hΓ ?_ | refine J.lR hΓ ?_) | (refine J.o 3 ?_; first | refine J.iA hΓ ?_ | refine J.iJ hΓ ?_ | refine J.fP hΓ ?_ | refine J.iC hΓ ?_ | refine J.ev' hΓ ?_) | (refine J.o 1 ?_; first | refine J.ad ?_ | refine J.ct ?_ | refine J.sb ?_ | refine J.mu ?_ | refine J.ng ?_ | refine J.qu ?_ | refine J.rm ?_ | refine J.s1 ?_ | refine J.sr ?_ | refine J.aW ?_ | refine J.oW ?_ | refine J.nW ?_) | (refine J.o 2 ?_; refine J.cv _ hΓ ?_) | (refine J.o 5 ?_; first | refine J.t0 hΓ ?_ | refine J.t1 hΓ ?_ | refine J.t2 hΓ ?_ | refine J.tT _ default hΓ (fun _ _ => ?_) | refine J.tT1 _ default hΓ (fun _ _ => ?_) | refine J.tT2 _ default hΓ (fun _ _ => ?_) | refine J.tT3 _ default hΓ (fun _ _ => ?_)) | (refine J.o 6 ?_; refine J.bx (fun _ => ?_)) | (refine J.o 7 ?_; refine J.al hΓ (fun _ => ?_)) | (refine J.o 8 ?_; refine J.bd hΓ ?_) | (refine J.o 9 ?_; refine J.bl hΓ (fun _ => ?_)) | (refine J.o 10 ?_; first | refine J.ls hΓ ?_ | refine J.ev' hΓ ?_) | (refine J.o 11 ?_; first | refine J.eS ?_ | refine J.xS ?_ | refine J.ev' hΓ ?_ | refine J.nT hΓ ?_) | (refine J.o 12 ?_; refine J.ix hΓ ?_) | (refine J.o 13 ?_; first | refine J.sL hΓ ?_ | refine J.sH hΓ ?_) | (refine J.o 14 ?_; refine J.mf hΓ ?_) | refine J.kn ?_) | ((fail_if_success refine J.wt ?_); refine J.gc rfl rfl (fun hc => ?_) (fun hc => ?_) <;> ((try simp only [decide_eq_true_eq, decide_eq_false_iff_not, beq_iff_eq, beq_eq_false_iff_ne, bne_iff_ne, bne_eq_false_iff_eq, Bool.not_eq_true', Bool.not_eq_false', Bool.not_eq_true, Bool.not_eq_false] at hc) <;> first | (first | (exact absurd rfl hc) | (exfalso; omega) | (exact absurd (hc.symm.trans (by assumption : _ = false)) (by decide)) | (exact absurd (hc.symm.trans (by assumption : _ = true)) (by decide))) | skip))))
      | (first | refine JC.seq ?_ | refine JC.region ?_ | refine JC.block ?_ | refine JC.ret ?_ | refine JC.exit ?_ | refine JC.skip ?_ | refine thenK.nn ?_ | refine thenK.r ?_ | refine thenK.x ?_ | refine blockK.nn ?_ | refine blockK.r ?_ | refine blockK.hit rfl ?_ | refine blockK.miss rfl ?_ | refine JC.condT rfl ?_ | refine JC.condF rfl ?_ | (refine JC.cond rfl (fun hc => ?_) (fun hc => ?_) <;> ((try simp only [decide_eq_true_eq, decide_eq_false_iff_not, beq_iff_eq, beq_eq_false_iff_ne, bne_iff_ne, bne_eq_false_iff_eq, Bool.not_eq_true', Bool.not_eq_false', Bool.not_eq_true, Bool.not_eq_false] at hc) <;> first | (first | (exact absurd rfl hc) | (exfalso; omega) | (exact absurd (hc.symm.trans (by assumption : _ = false)) (by decide)) | (exact absurd (hc.symm.trans (by assumption : _ = true)) (by decide))) | skip)) | (refine JC.drawA [] (by kernel_rfl) (by kernel_rfl) ?_) | refine drawK.nn ?_ | refine roundK.nn ?_ | refine roundK.r ?_ | refine roundK.x ?_ | refine loopK.r ?_ | refine loopK.x ?_)
      | fail
    all_goals first | (exfalso; omega) | exact ret2f rfl rfl rfl rfl rfl (fun w1 hw => Gives.of hw.nilF ⟨none, 0, rfl, OwT.nil (fun _ => rfl)⟩)
  rw [if_neg h0]
  have hn := fun {w0 w : World} {R : Heap} {L : List Heap} => refNode_any l (by omega) (l.length + 1) [] 0 (w0 := w0) (w := w) (R := R) (L := L) (a := none) (cap := 0) (h := []) (by omega) (by omega) (by omega) (by omega) (Nat.zero_le _) (fun _ => by simp only [List.length_nil]; omega) (OwT.nil (fun _ => rfl))
  generalize hN : nodeR l (l.length + 1) [] 0 = N at *
  by_cases h1 : N.1 ≠ (l.length : Int)
  · rw [if_pos h1]
    repeat' first
      | (refine J.isJ ?_; first | (first | (refine J.o 0 ?_; refine J.ev' hΓ ?_) | refine J.nil ?_ | refine J.kd ?_ | (refine J.o 4 ?_; first | refine J.e0 hΓ ?_ | refine J.lT default hΓ ?_ | refine J.e1 hΓ ?_ | refine J.e2 hΓ ?_ | refine J.lR hΓ ?_) | (refine J.o 3 ?_; first | refine J.iA hΓ ?_ | refine J.iJ hΓ ?_ | refine J.fP hΓ ?_ | refine J.iC hΓ ?_ | refine J.ev' hΓ ?_) | (refine J.o 1 ?_; first | refine J.ad ?_ | refine J.ct ?_ | refine J.sb ?_ | refine J.mu ?_ | refine J.ng ?_ | refine J.qu ?_ | refine J.rm ?_ | refine J.s1 ?_ | refine J.sr ?_ | refine J.aW ?_ | refine J.oW ?_ | refine J.nW ?_) | (refine J.o 2 ?_; refine J.cv _ hΓ ?_) | (refine J.o 5 ?_; first | refine J.t0 hΓ ?_ | refine J.t1 hΓ ?_ | refine J.t2 hΓ ?_ | refine J.tT _ default hΓ (fun _ _ => ?_) | refine J.tT1 _ default hΓ (fun _ _ => ?_) | refine J.tT2 _ default hΓ (fun _ _ => ?_) | refine J.tT3 _ default hΓ (fun _ _ => ?_)) | (refine J.o 6 ?_; refine J.bx (fun _ => ?_)) | (refine J.o 7 ?_; refine J.al hΓ (fun _ => ?_)) | (refine J.o 8 ?_; refine J.bd hΓ ?_) | (refine J.o 9 ?_; refine J.bl hΓ (fun _ => ?_)) | (refine J.o 10 ?_; first | refine J.ls hΓ ?_ | refine J.ev' hΓ ?_) | (refine J.o 11 ?_; first | refine J.eS ?_ | refine J.xS ?_ | refine J.ev' hΓ ?_ | refine J.nT hΓ ?_) | (refine J.o 12 ?_; refine J.ix hΓ ?_) | (refine J.o 13 ?_; first | refine J.sL hΓ ?_ | refine J.sH hΓ ?_) | (refine J.o 14 ?_; refine J.mf hΓ ?_) | refine J.kn ?_) | ((refine J.fc 46 ?_; refine J.callx eNodeR rfl rfl (fun w hw => hn hw.nilF) ?_; rintro _ _ ⟨_, _, _, rfl, rfl, _⟩)) | ((fail_if_success refine J.wt ?_); refine J.gc rfl rfl (fun hc => ?_) (fun hc => ?_) <;> ((try simp only [decide_eq_true_eq, decide_eq_false_iff_not, beq_iff_eq, beq_eq_false_iff_ne, bne_iff_ne, bne_eq_false_iff_eq, Bool.not_eq_true', Bool.not_eq_false', Bool.not_eq_true, Bool.not_eq_false] at hc) <;> first | (first | (exact absurd rfl hc) | (exfalso; omega) | (exact absurd (hc.symm.trans (by assumption : _ = false)) (by decide)) | (exact absurd (hc.symm.trans (by assumption : _ = true)) (by decide))) | skip)))
      | (first | refine JC.seq ?_ | refine JC.region ?_ | refine JC.block ?_ | refine JC.ret ?_ | refine JC.exit ?_ | refine JC.skip ?_ | refine thenK.nn ?_ | refine thenK.r ?_ | refine thenK.x ?_ | refine blockK.nn ?_ | refine blockK.r ?_ | refine blockK.hit rfl ?_ | refine blockK.miss rfl ?_ | refine JC.condT rfl ?_ | refine JC.condF rfl ?_ | (refine JC.cond rfl (fun hc => ?_) (fun hc => ?_) <;> ((try simp only [decide_eq_true_eq, decide_eq_false_iff_not, beq_iff_eq, beq_eq_false_iff_ne, bne_iff_ne, bne_eq_false_iff_eq, Bool.not_eq_true', Bool.not_eq_false', Bool.not_eq_true, Bool.not_eq_false] at hc) <;> first | (first | (exact absurd rfl hc) | (exfalso; omega) | (exact absurd (hc.symm.trans (by assumption : _ = false)) (by decide)) | (exact absurd (hc.symm.trans (by assumption : _ = true)) (by decide))) | skip)) | (refine JC.drawA [] (by kernel_rfl) (by kernel_rfl) ?_) | refine drawK.nn ?_ | refine roundK.nn ?_ | refine roundK.r ?_ | refine roundK.x ?_ | refine loopK.r ?_ | refine loopK.x ?_)
      | fail
    all_goals first | (exfalso; omega) | contradiction | exact ret2f rfl rfl rfl rfl rfl (fun w1 hw => Gives.of hw.nilF ⟨none, 0, rfl, OwT.nil (fun _ => rfl)⟩)
  rw [if_neg h1]
  have h1' : N.1 = (l.length : Int) := by omega
  by_cases h2 : checkT N.2 128 = 0
  · rw [if_pos h2]
    repeat' first
      | (refine J.isJ ?_; first | (first | (refine J.o 0 ?_; refine J.ev' hΓ ?_) | refine J.nil ?_ | refine J.kd ?_ | (refine J.o 4 ?_; first | refine J.e0 hΓ ?_ | refine J.lT default hΓ ?_ | refine J.e1 hΓ ?_ | refine J.e2 hΓ ?_ | refine J.lR hΓ ?_) | (refine J.o 3 ?_; first | refine J.iA hΓ ?_ | refine J.iJ hΓ ?_ | refine J.fP hΓ ?_ | refine J.iC hΓ ?_ | refine J.ev' hΓ ?_) | (refine J.o 1 ?_; first | refine J.ad ?_ | refine J.ct ?_ | refine J.sb ?_ | refine J.mu ?_ | refine J.ng ?_ | refine J.qu ?_ | refine J.rm ?_ | refine J.s1 ?_ | refine J.sr ?_ | refine J.aW ?_ | refine J.oW ?_ | refine J.nW ?_) | (refine J.o 2 ?_; refine J.cv _ hΓ ?_) | (refine J.o 5 ?_; first | refine J.t0 hΓ ?_ | refine J.t1 hΓ ?_ | refine J.t2 hΓ ?_ | refine J.tT _ default hΓ (fun _ _ => ?_) | refine J.tT1 _ default hΓ (fun _ _ => ?_) | refine J.tT2 _ default hΓ (fun _ _ => ?_) | refine J.tT3 _ default hΓ (fun _ _ => ?_)) | (refine J.o 6 ?_; refine J.bx (fun _ => ?_)) | (refine J.o 7 ?_; refine J.al hΓ (fun _ => ?_)) | (refine J.o 8 ?_; refine J.bd hΓ ?_) | (refine J.o 9 ?_; refine J.bl hΓ (fun _ => ?_)) | (refine J.o 10 ?_; first | refine J.ls hΓ ?_ | refine J.ev' hΓ ?_) | (refine J.o 11 ?_; first | refine J.eS ?_ | refine J.xS ?_ | refine J.ev' hΓ ?_ | refine J.nT hΓ ?_) | (refine J.o 12 ?_; refine J.ix hΓ ?_) | (refine J.o 13 ?_; first | refine J.sL hΓ ?_ | refine J.sH hΓ ?_) | (refine J.o 14 ?_; refine J.mf hΓ ?_) | refine J.kn ?_) | (first | (refine J.fc 46 ?_; refine J.callx eNodeR rfl rfl (fun w hw => hn hw.nilF) ?_; rintro _ _ ⟨_, _, _, rfl, rfl, oN⟩) | (refine J.fc 13 ?_; refine J.call0 eCheckR rfl rfl (fun w hw => refCheck_eq _ _ _ 128 _ oN.sl w (hw.rdH (by first | exact RdH.hd | exact RdH.hd.tl | exact RdH.hd.tl.tl | exact RdH.hd.tl.tl.tl | exact RdH.hd.tl.tl.tl.tl | exact RdH.hd.tl.tl.tl.tl.tl | exact RdH.hd.tl.tl.tl.tl.tl.tl | exact RdH.hd.tl.tl.tl.tl.tl.tl.tl | exact RdH.old (fun _ hh => hh) | assumption))) ?_)) | ((fail_if_success refine J.wt ?_); refine J.gc rfl rfl (fun hc => ?_) (fun hc => ?_) <;> ((try simp only [decide_eq_true_eq, decide_eq_false_iff_not, beq_iff_eq, beq_eq_false_iff_ne, bne_iff_ne, bne_eq_false_iff_eq, Bool.not_eq_true', Bool.not_eq_false', Bool.not_eq_true, Bool.not_eq_false] at hc) <;> first | (first | (exact absurd rfl hc) | (exfalso; omega) | (exact absurd (hc.symm.trans (by assumption : _ = false)) (by decide)) | (exact absurd (hc.symm.trans (by assumption : _ = true)) (by decide))) | skip)))
      | (first | refine JC.seq ?_ | refine JC.region ?_ | refine JC.block ?_ | refine JC.ret ?_ | refine JC.exit ?_ | refine JC.skip ?_ | refine thenK.nn ?_ | refine thenK.r ?_ | refine thenK.x ?_ | refine blockK.nn ?_ | refine blockK.r ?_ | refine blockK.hit rfl ?_ | refine blockK.miss rfl ?_ | refine JC.condT rfl ?_ | refine JC.condF rfl ?_ | (refine JC.cond rfl (fun hc => ?_) (fun hc => ?_) <;> ((try simp only [decide_eq_true_eq, decide_eq_false_iff_not, beq_iff_eq, beq_eq_false_iff_ne, bne_iff_ne, bne_eq_false_iff_eq, Bool.not_eq_true', Bool.not_eq_false', Bool.not_eq_true, Bool.not_eq_false] at hc) <;> first | (first | (exact absurd rfl hc) | (exfalso; omega) | (exact absurd (hc.symm.trans (by assumption : _ = false)) (by decide)) | (exact absurd (hc.symm.trans (by assumption : _ = true)) (by decide))) | skip)) | (refine JC.drawA [] (by kernel_rfl) (by kernel_rfl) ?_) | refine drawK.nn ?_ | refine roundK.nn ?_ | refine roundK.r ?_ | refine roundK.x ?_ | refine loopK.r ?_ | refine loopK.x ?_)
      | fail
    all_goals first | (exfalso; omega) | contradiction | exact ret2f rfl rfl rfl rfl rfl (fun w1 hw => Gives.of (hw.perm (.swap _ _ _)) ⟨_, _, rfl, oN⟩)
  · rw [if_neg h2]
    repeat' first
      | (refine J.isJ ?_; first | (first | (refine J.o 0 ?_; refine J.ev' hΓ ?_) | refine J.nil ?_ | refine J.kd ?_ | (refine J.o 4 ?_; first | refine J.e0 hΓ ?_ | refine J.lT default hΓ ?_ | refine J.e1 hΓ ?_ | refine J.e2 hΓ ?_ | refine J.lR hΓ ?_) | (refine J.o 3 ?_; first | refine J.iA hΓ ?_ | refine J.iJ hΓ ?_ | refine J.fP hΓ ?_ | refine J.iC hΓ ?_ | refine J.ev' hΓ ?_) | (refine J.o 1 ?_; first | refine J.ad ?_ | refine J.ct ?_ | refine J.sb ?_ | refine J.mu ?_ | refine J.ng ?_ | refine J.qu ?_ | refine J.rm ?_ | refine J.s1 ?_ | refine J.sr ?_ | refine J.aW ?_ | refine J.oW ?_ | refine J.nW ?_) | (refine J.o 2 ?_; refine J.cv _ hΓ ?_) | (refine J.o 5 ?_; first | refine J.t0 hΓ ?_ | refine J.t1 hΓ ?_ | refine J.t2 hΓ ?_ | refine J.tT _ default hΓ (fun _ _ => ?_) | refine J.tT1 _ default hΓ (fun _ _ => ?_) | refine J.tT2 _ default hΓ (fun _ _ => ?_) | refine J.tT3 _ default hΓ (fun _ _ => ?_)) | (refine J.o 6 ?_; refine J.bx (fun _ => ?_)) | (refine J.o 7 ?_; refine J.al hΓ (fun _ => ?_)) | (refine J.o 8 ?_; refine J.bd hΓ ?_) | (refine J.o 9 ?_; refine J.bl hΓ (fun _ => ?_)) | (refine J.o 10 ?_; first | refine J.ls hΓ ?_ | refine J.ev' hΓ ?_) | (refine J.o 11 ?_; first | refine J.eS ?_ | refine J.xS ?_ | refine J.ev' hΓ ?_ | refine J.nT hΓ ?_) | (refine J.o 12 ?_; refine J.ix hΓ ?_) | (refine J.o 13 ?_; first | refine J.sL hΓ ?_ | refine J.sH hΓ ?_) | (refine J.o 14 ?_; refine J.mf hΓ ?_) | refine J.kn ?_) | (first | (refine J.fc 46 ?_; refine J.callx eNodeR rfl rfl (fun w hw => hn hw.nilF) ?_; rintro _ _ ⟨_, _, _, rfl, rfl, oN⟩) | (refine J.fc 13 ?_; refine J.call0 eCheckR rfl rfl (fun w hw => refCheck_eq _ _ _ 128 _ oN.sl w (hw.rdH (by first | exact RdH.hd | exact RdH.hd.tl | exact RdH.hd.tl.tl | exact RdH.hd.tl.tl.tl | exact RdH.hd.tl.tl.tl.tl | exact RdH.hd.tl.tl.tl.tl.tl | exact RdH.hd.tl.tl.tl.tl.tl.tl | exact RdH.hd.tl.tl.tl.tl.tl.tl.tl | exact RdH.old (fun _ hh => hh) | assumption))) ?_)) | ((fail_if_success refine J.wt ?_); refine J.gc rfl rfl (fun hc => ?_) (fun hc => ?_) <;> ((try simp only [decide_eq_true_eq, decide_eq_false_iff_not, beq_iff_eq, beq_eq_false_iff_ne, bne_iff_ne, bne_eq_false_iff_eq, Bool.not_eq_true', Bool.not_eq_false', Bool.not_eq_true, Bool.not_eq_false] at hc) <;> first | (first | (exact absurd rfl hc) | (exfalso; omega) | (exact absurd (hc.symm.trans (by assumption : _ = false)) (by decide)) | (exact absurd (hc.symm.trans (by assumption : _ = true)) (by decide))) | skip)))
      | (first | refine JC.seq ?_ | refine JC.region ?_ | refine JC.block ?_ | refine JC.ret ?_ | refine JC.exit ?_ | refine JC.skip ?_ | refine thenK.nn ?_ | refine thenK.r ?_ | refine thenK.x ?_ | refine blockK.nn ?_ | refine blockK.r ?_ | refine blockK.hit rfl ?_ | refine blockK.miss rfl ?_ | refine JC.condT rfl ?_ | refine JC.condF rfl ?_ | (refine JC.cond rfl (fun hc => ?_) (fun hc => ?_) <;> ((try simp only [decide_eq_true_eq, decide_eq_false_iff_not, beq_iff_eq, beq_eq_false_iff_ne, bne_iff_ne, bne_eq_false_iff_eq, Bool.not_eq_true', Bool.not_eq_false', Bool.not_eq_true, Bool.not_eq_false] at hc) <;> first | (first | (exact absurd rfl hc) | (exfalso; omega) | (exact absurd (hc.symm.trans (by assumption : _ = false)) (by decide)) | (exact absurd (hc.symm.trans (by assumption : _ = true)) (by decide))) | skip)) | (refine JC.drawA [] (by kernel_rfl) (by kernel_rfl) ?_) | refine drawK.nn ?_ | refine roundK.nn ?_ | refine roundK.r ?_ | refine roundK.x ?_ | refine loopK.r ?_ | refine loopK.x ?_)
      | fail
    all_goals first | (exfalso; omega) | contradiction | exact ret2f rfl rfl rfl rfl rfl (fun w1 hw => Gives.of hw.nilF ⟨none, 0, rfl, OwT.nil (fun _ => rfl)⟩)
end Go.Proofs.YtfegpmoephdkpaaDoor
