/- Eval. -/
import Derived.Test.YtncnpmgohhgmfaaDoorNo
namespace Go.Proofs.YtncnpmgohhgmfaaDoor
open Go Go.Cx Go.RowKit
set_option linter.unusedVariables false
set_option linter.unusedSimpArgs false
set_option maxHeartbeats 4000000
attribute [local irreducible] J JC thenK blockK loopK roundK drawK retK QW Qt pel List.set Calls
attribute [local irreducible] JE Br eK0 eK2 eK3 brK
def encBo (b : Bool) : List Value := [.bool b]
/-- P20.2: a node's truth, those before it given -/
def truS (s : Nat × Nat) (T : List Bool) (x : PN) : Bool := if x.1 = 1 then true else if x.1 = 2 then decide (hasB s (absI x.2.1) = decide (0 < x.2.1)) else if x.1 = 3 then !(x.2.2.any fun k => !(T.getD k.toNat default)) else if x.1 = 4 then x.2.2.any fun k => T.getD k.toNat default else false
def truT (s : Nat × Nat) (X : List PN) : List Bool := X.foldl (fun T x => T ++ [truS s T x]) []
def evalP (s : Nat × Nat) (N : Int) (X : List PN) : Bool := checkP N X && (truT s X).getD (X.length - 1) default
theorem truT_snoc (s : Nat × Nat) (X : List PN) (x : PN) : truT s (X ++ [x]) = truT s X ++ [truS s (truT s X) x] := by
  unfold truT; rw [List.foldl_append]; rfl
theorem truT_len (s : Nat × Nat) (X : List PN) : (truT s X).length = X.length := by
  have h : ∀ (X : List PN) (T : List Bool), (X.foldl (fun T x => T ++ [truS s T x]) T).length = T.length + X.length := fun X => by
    induction X with
    | nil => intro T; rfl
    | cons x X ih => intro T; rw [List.foldl_cons, ih]; simp only [List.length_append, List.length_cons, List.length_nil]; omega
  have := h X []
  rw [List.length_nil, Nat.zero_add] at this
  exact this
theorem eEval1 : Entr Tryd.prog 35 := Entr.of Tryd.func35 rfl rfl
theorem eEval2 : Entr Tryd.prog 36 := Entr.of Tryd.func36 rfl rfl
theorem eEval : Entr Tryd.prog 13 := Entr.of Tryd.func13 rfl rfl
def slBO (a : Option Addr) (len cap : Nat) : Obj := .cells ⟨[.slice a len cap]⟩ 52 (0, 0)
theorem e1_any (i : Int) (b : Nat) (a : Option Addr) (cap : Nat) (T : List Bool) (hB : Heap) (hs : SlT encBo 1 a T hB) (hi : 0 ≤ i ∧ i < T.length) (hl : T.length ≤ 1000000) (w : World) (hw : Holds ((b, slBO a T.length cap) :: hB) w) :
    Calls Tryd.prog 35 #[.int .i64 i, .pointer (some ⟨b, 0, none⟩)] w fun e w' => e = .returned (.bool (!(T.getD i.toNat default))) ∧ Below w.heap.size w w' := by
  have rb : ∀ L, Rd ((b, slBO a T.length cap) :: hB) L b (slBO a T.length cap) := fun L => Rd.old List.mem_cons_self
  have q0 : ∀ L, RdH ((b, slBO a T.length cap) :: hB) L hB := fun L => RdH.old fun _ hh => List.mem_cons_of_mem _ hh
  unfold slBO at rb
  refine calls_of_JC (R := ((b, slBO a T.length cap) :: hB)) Tryd.func35 Tryd.ntmps35 rfl rfl (hw) ?_
  repeat' first
    | (refine J.isJ ?_; first | ((refine J.o 4 ?_; first | refine J.lR hΓ ?_ (hr := rb _) | refine J.lT default hΓ ?_ (hs := hs) (hr := q0 _))) | (first | (refine J.o 0 ?_; refine J.ev' hΓ ?_) | refine J.nil ?_ | refine J.kd ?_ | (refine J.o 4 ?_; first | refine J.e0 hΓ ?_ | refine J.e1 hΓ ?_ | refine J.e2 hΓ ?_ | refine J.lT default hΓ ?_ | refine J.lR hΓ ?_) | (refine J.o 3 ?_; first | refine J.iJ hΓ ?_ | refine J.fP hΓ ?_ | refine J.iC hΓ ?_ | refine J.ev' hΓ ?_) | (refine J.o 1 ?_; first | refine J.ad ?_ | refine J.sb ?_ | refine J.ng ?_) | (refine J.o 5 ?_; first | refine J.t0 hΓ ?_ | refine J.t1 hΓ ?_ | refine J.t2 hΓ ?_ | refine J.tT _ default hΓ (fun _ _ => ?_) | refine J.tT1 _ default hΓ (fun _ _ => ?_) | refine J.tT2 _ default hΓ (fun _ _ => ?_)) | (refine J.o 6 ?_; refine J.bx (fun _ => ?_)) | (refine J.o 7 ?_; refine J.al hΓ (fun _ => ?_)) | (refine J.o 8 ?_; refine J.bd hΓ ?_) | (refine J.o 9 ?_; refine J.bl hΓ (fun _ => ?_)) | (refine J.o 10 ?_; refine J.ev' hΓ ?_) | (refine J.o 11 ?_; refine J.ev' hΓ ?_) | refine J.kn ?_) | ((fail_if_success refine J.wt ?_); refine J.gc rfl rfl (fun hc => ?_) (fun hc => ?_) <;> ((try simp only [decide_eq_true_eq, decide_eq_false_iff_not, beq_iff_eq, beq_eq_false_iff_ne, bne_iff_ne, bne_eq_false_iff_eq, Bool.not_eq_true', Bool.not_eq_false', Bool.not_eq_true, Bool.not_eq_false] at hc) <;> first | (first | (exact absurd rfl hc) | (exfalso; omega) | (exact absurd (hc.symm.trans (by assumption : _ = false)) (by decide)) | (exact absurd (hc.symm.trans (by assumption : _ = true)) (by decide))) | skip)))
    | (first | refine JC.seq ?_ | refine JC.region ?_ | refine JC.block ?_ | refine JC.ret ?_ | refine JC.exit ?_ | refine JC.skip ?_ | refine thenK.nn ?_ | refine thenK.r ?_ | refine thenK.x ?_ | refine blockK.nn ?_ | refine blockK.r ?_ | refine blockK.hit rfl ?_ | refine blockK.miss rfl ?_ | refine JC.condT rfl ?_ | refine JC.condF rfl ?_ | (refine JC.cond rfl (fun hc => ?_) (fun hc => ?_) <;> ((try simp only [decide_eq_true_eq, decide_eq_false_iff_not, beq_iff_eq, beq_eq_false_iff_ne, bne_iff_ne, bne_eq_false_iff_eq, Bool.not_eq_true', Bool.not_eq_false', Bool.not_eq_true, Bool.not_eq_false] at hc) <;> first | (first | (exact absurd rfl hc) | (exfalso; omega) | (exact absurd (hc.symm.trans (by assumption : _ = false)) (by decide)) | (exact absurd (hc.symm.trans (by assumption : _ = true)) (by decide))) | skip)) | (refine JC.drawA [] (by kernel_rfl) (by kernel_rfl) ?_) | refine drawK.nn ?_ | refine roundK.nn ?_ | refine roundK.r ?_ | refine roundK.x ?_ | refine loopK.r ?_ | refine loopK.x ?_)
    | (fail)
    | fail
  all_goals first | (exfalso; omega) | exact ret1f rfl rfl rfl (fun w1 hw => ⟨rfl, hw.below⟩)
theorem e2_any (i : Int) (b : Nat) (a : Option Addr) (cap : Nat) (T : List Bool) (hB : Heap) (hs : SlT encBo 1 a T hB) (hi : 0 ≤ i ∧ i < T.length) (hl : T.length ≤ 1000000) (w : World) (hw : Holds ((b, slBO a T.length cap) :: hB) w) :
    Calls Tryd.prog 36 #[.int .i64 i, .pointer (some ⟨b, 0, none⟩)] w fun e w' => e = .returned (.bool (T.getD i.toNat default)) ∧ Below w.heap.size w w' := by
  have rb : ∀ L, Rd ((b, slBO a T.length cap) :: hB) L b (slBO a T.length cap) := fun L => Rd.old List.mem_cons_self
  have q0 : ∀ L, RdH ((b, slBO a T.length cap) :: hB) L hB := fun L => RdH.old fun _ hh => List.mem_cons_of_mem _ hh
  unfold slBO at rb
  refine calls_of_JC (R := ((b, slBO a T.length cap) :: hB)) Tryd.func36 Tryd.ntmps36 rfl rfl (hw) ?_
  repeat' first
    | (refine J.isJ ?_; first | ((refine J.o 4 ?_; first | refine J.lR hΓ ?_ (hr := rb _) | refine J.lT default hΓ ?_ (hs := hs) (hr := q0 _))) | (first | (refine J.o 0 ?_; refine J.ev' hΓ ?_) | refine J.nil ?_ | refine J.kd ?_ | (refine J.o 4 ?_; first | refine J.e0 hΓ ?_ | refine J.e1 hΓ ?_ | refine J.e2 hΓ ?_ | refine J.lT default hΓ ?_ | refine J.lR hΓ ?_) | (refine J.o 3 ?_; first | refine J.iJ hΓ ?_ | refine J.fP hΓ ?_ | refine J.iC hΓ ?_ | refine J.ev' hΓ ?_) | (refine J.o 1 ?_; first | refine J.ad ?_ | refine J.sb ?_ | refine J.ng ?_) | (refine J.o 5 ?_; first | refine J.t0 hΓ ?_ | refine J.t1 hΓ ?_ | refine J.t2 hΓ ?_ | refine J.tT _ default hΓ (fun _ _ => ?_) | refine J.tT1 _ default hΓ (fun _ _ => ?_) | refine J.tT2 _ default hΓ (fun _ _ => ?_)) | (refine J.o 6 ?_; refine J.bx (fun _ => ?_)) | (refine J.o 7 ?_; refine J.al hΓ (fun _ => ?_)) | (refine J.o 8 ?_; refine J.bd hΓ ?_) | (refine J.o 9 ?_; refine J.bl hΓ (fun _ => ?_)) | (refine J.o 10 ?_; refine J.ev' hΓ ?_) | (refine J.o 11 ?_; refine J.ev' hΓ ?_) | refine J.kn ?_) | ((fail_if_success refine J.wt ?_); refine J.gc rfl rfl (fun hc => ?_) (fun hc => ?_) <;> ((try simp only [decide_eq_true_eq, decide_eq_false_iff_not, beq_iff_eq, beq_eq_false_iff_ne, bne_iff_ne, bne_eq_false_iff_eq, Bool.not_eq_true', Bool.not_eq_false', Bool.not_eq_true, Bool.not_eq_false] at hc) <;> first | (first | (exact absurd rfl hc) | (exfalso; omega) | (exact absurd (hc.symm.trans (by assumption : _ = false)) (by decide)) | (exact absurd (hc.symm.trans (by assumption : _ = true)) (by decide))) | skip)))
    | (first | refine JC.seq ?_ | refine JC.region ?_ | refine JC.block ?_ | refine JC.ret ?_ | refine JC.exit ?_ | refine JC.skip ?_ | refine thenK.nn ?_ | refine thenK.r ?_ | refine thenK.x ?_ | refine blockK.nn ?_ | refine blockK.r ?_ | refine blockK.hit rfl ?_ | refine blockK.miss rfl ?_ | refine JC.condT rfl ?_ | refine JC.condF rfl ?_ | (refine JC.cond rfl (fun hc => ?_) (fun hc => ?_) <;> ((try simp only [decide_eq_true_eq, decide_eq_false_iff_not, beq_iff_eq, beq_eq_false_iff_ne, bne_iff_ne, bne_eq_false_iff_eq, Bool.not_eq_true', Bool.not_eq_false', Bool.not_eq_true, Bool.not_eq_false] at hc) <;> first | (first | (exact absurd rfl hc) | (exfalso; omega) | (exact absurd (hc.symm.trans (by assumption : _ = false)) (by decide)) | (exact absurd (hc.symm.trans (by assumption : _ = true)) (by decide))) | skip)) | (refine JC.drawA [] (by kernel_rfl) (by kernel_rfl) ?_) | refine drawK.nn ?_ | refine roundK.nn ?_ | refine roundK.r ?_ | refine roundK.x ?_ | refine loopK.r ?_ | refine loopK.x ?_)
    | (fail)
    | fail
  all_goals first | (exfalso; omega) | exact ret1f rfl rfl rfl (fun w1 hw => ⟨rfl, hw.below⟩)
theorem app_repB (s : List Bool) (n j : Nat) (h : j < s.length) : (s ++ List.replicate n false).getD j default = s.getD j default := by
  rw [List.getD_eq_getElem?_getD, List.getElem?_append_left h, ← List.getD_eq_getElem?_getD]
theorem app_setB (s : List Bool) (n : Nat) (x : Bool) : (s ++ List.replicate (n + 1) false).set s.length x = (s ++ [x]) ++ List.replicate n false := by
  rw [List.set_append_right _ _ (Nat.le_refl _), Nat.sub_self, List.replicate_succ, List.set_cons_zero, List.append_assoc]; rfl
theorem app_idB (s : List Bool) (n : Nat) : s ++ List.replicate (n + 1) false = (s ++ [false]) ++ List.replicate n false := by
  rw [List.append_assoc]; rfl
theorem any_congr {l : List Int} {p q : Int → Bool} (h : ∀ x, x ∈ l → p x = q x) : l.any p = l.any q := by
  induction l with
  | nil => rfl
  | cons x l ih => rw [List.any_cons, List.any_cons, h x List.mem_cons_self, ih fun y hy => h y (List.mem_cons_of_mem _ hy)]
/-- the forms of a node that is formed -/
theorem formed_kinds {x : PN} {N bf : Int} (hf : formedP x N bf = true) : x.1 = 0 ∨ x.1 = 1 ∨ (x.1 = 2 ∧ x.2.1 ≠ 0 ∧ -N ≤ x.2.1 ∧ x.2.1 ≤ N) ∨ x.1 = 3 ∨ x.1 = 4 := by
  unfold formedP at hf
  rw [Bool.and_eq_true] at hf
  have h2 := hf.2
  split at h2
  · rename_i h; rcases h with h | h
    · exact .inl h
    · exact .inr (.inl h)
  · split at h2
    · rename_i h
      rw [Bool.and_eq_true] at h2
      have := h2.1
      unfold validB at this
      exact .inr (.inr (.inl ⟨h, by simpa using this⟩))
    · split at h2
      · rename_i h; rcases h with h | h
        · exact .inr (.inr (.inr (.inl h)))
        · exact .inr (.inr (.inr (.inr h)))
      · cases h2
set_option maxHeartbeats 16000000 in
theorem eval_any (s : Nat × Nat) (hs : okS s) (N : Int) (a : Option Addr) (cap : Nat) (vs : List NV) (h : Heap) (hr : NetIn a vs h) (w : World) (hw : Holds h w) :
    Calls Tryd.prog 13 #[.agg ⟨[.int .i64 N, .slice a vs.length cap]⟩, sv s] w fun e w' => e = .returned (.bool (evalP s N (vs.map pnV))) ∧ Below w.heap.size w w' := by
  have q0 : ∀ L, RdH h L h := fun L => RdH.old fun _ hh => hh
  have cC := fun w hw => check_any N a cap vs h hr w hw
  obtain ⟨so, si, sl, hl⟩ := hr
  unfold evalP
  cases hC : checkP N (vs.map pnV) with
  | false =>
    rw [hC, if_neg (by decide)] at cC
    rw [Bool.false_and]
    refine calls_of_JC (R := h) Tryd.func13 Tryd.ntmps13 rfl rfl (hw) ?_
    repeat' first
      | (refine J.isJ ?_; first | (first | (refine J.o 0 ?_; refine J.ev' hΓ ?_) | refine J.nil ?_ | refine J.kd ?_ | (refine J.o 4 ?_; first | refine J.e0 hΓ ?_ | refine J.e1 hΓ ?_ | refine J.e2 hΓ ?_ | refine J.lT default hΓ ?_ | refine J.lR hΓ ?_) | (refine J.o 3 ?_; first | refine J.iJ hΓ ?_ | refine J.fP hΓ ?_ | refine J.iC hΓ ?_ | refine J.ev' hΓ ?_) | (refine J.o 1 ?_; first | refine J.ad ?_ | refine J.sb ?_ | refine J.ng ?_) | (refine J.o 5 ?_; first | refine J.t0 hΓ ?_ | refine J.t1 hΓ ?_ | refine J.t2 hΓ ?_ | refine J.tT _ default hΓ (fun _ _ => ?_) | refine J.tT1 _ default hΓ (fun _ _ => ?_) | refine J.tT2 _ default hΓ (fun _ _ => ?_)) | (refine J.o 6 ?_; refine J.bx (fun _ => ?_)) | (refine J.o 7 ?_; refine J.al hΓ (fun _ => ?_)) | (refine J.o 8 ?_; refine J.bd hΓ ?_) | (refine J.o 9 ?_; refine J.bl hΓ (fun _ => ?_)) | (refine J.o 10 ?_; refine J.ev' hΓ ?_) | (refine J.o 11 ?_; refine J.ev' hΓ ?_) | refine J.kn ?_) | ((refine J.fc 25 ?_; refine J.call0 eCheck rfl rfl (fun w hw => cC w (hw.rdH (q0 _))) ?_)) | ((fail_if_success refine J.wt ?_); refine J.gc rfl rfl (fun hc => ?_) (fun hc => ?_) <;> ((try simp only [decide_eq_true_eq, decide_eq_false_iff_not, beq_iff_eq, beq_eq_false_iff_ne, bne_iff_ne, bne_eq_false_iff_eq, Bool.not_eq_true', Bool.not_eq_false', Bool.not_eq_true, Bool.not_eq_false] at hc) <;> first | (first | (exact absurd rfl hc) | (exfalso; omega) | (exact absurd (hc.symm.trans (by assumption : _ = false)) (by decide)) | (exact absurd (hc.symm.trans (by assumption : _ = true)) (by decide))) | skip)))
      | (first | refine JC.seq ?_ | refine JC.region ?_ | refine JC.block ?_ | refine JC.ret ?_ | refine JC.exit ?_ | refine JC.skip ?_ | refine thenK.nn ?_ | refine thenK.r ?_ | refine thenK.x ?_ | refine blockK.nn ?_ | refine blockK.r ?_ | refine blockK.hit rfl ?_ | refine blockK.miss rfl ?_ | refine JC.condT rfl ?_ | refine JC.condF rfl ?_ | (refine JC.cond rfl (fun hc => ?_) (fun hc => ?_) <;> ((try simp only [decide_eq_true_eq, decide_eq_false_iff_not, beq_iff_eq, beq_eq_false_iff_ne, bne_iff_ne, bne_eq_false_iff_eq, Bool.not_eq_true', Bool.not_eq_false', Bool.not_eq_true, Bool.not_eq_false] at hc) <;> first | (first | (exact absurd rfl hc) | (exfalso; omega) | (exact absurd (hc.symm.trans (by assumption : _ = false)) (by decide)) | (exact absurd (hc.symm.trans (by assumption : _ = true)) (by decide))) | skip)) | (refine JC.drawA [] (by kernel_rfl) (by kernel_rfl) ?_) | refine drawK.nn ?_ | refine roundK.nn ?_ | refine roundK.r ?_ | refine roundK.x ?_ | refine loopK.r ?_ | refine loopK.x ?_)
      | fail
    all_goals first | (exfalso; omega) | exact ret1f rfl rfl rfl (fun w1 hw => ⟨rfl, hw.below⟩)
  | true =>
    rw [hC, if_pos rfl] at cC
    rw [Bool.true_and]
    obtain ⟨hN, hM, hFA⟩ := check_facts hC
    have hX : (vs.map pnV).length = vs.length := List.length_map ..
    rw [hX] at hM
    refine calls_of_JC (R := h) Tryd.func13 Tryd.ntmps13 rfl rfl (hw) ?_
    repeat' first
      | (refine J.isJ ?_; first | (first | (refine J.fc 25 ?_; refine J.call0 eCheck rfl rfl (fun w hw => cC w (hw.rdH (q0 _))) ?_) | (refine J.o 9 ?_; refine J.make (enc := encBo) (m := vs.length) false hΓ rfl rfl rfl rfl rfl rfl (fun _ => rfl) (by omega) (by omega) (fun bA hA oA => ?_); generalize (some (⟨bA, 0, none⟩ : Addr)) = aA at oA ⊢) | (refine J.o 4 ?_; first | refine J.e3 hΓ ?_ | refine J.e4 hΓ ?_)) | (first | (refine J.o 0 ?_; refine J.ev' hΓ ?_) | refine J.nil ?_ | refine J.kd ?_ | (refine J.o 4 ?_; first | refine J.e0 hΓ ?_ | refine J.e1 hΓ ?_ | refine J.e2 hΓ ?_ | refine J.lT default hΓ ?_ | refine J.lR hΓ ?_) | (refine J.o 3 ?_; first | refine J.iJ hΓ ?_ | refine J.fP hΓ ?_ | refine J.iC hΓ ?_ | refine J.ev' hΓ ?_) | (refine J.o 1 ?_; first | refine J.ad ?_ | refine J.sb ?_ | refine J.ng ?_) | (refine J.o 5 ?_; first | refine J.t0 hΓ ?_ | refine J.t1 hΓ ?_ | refine J.t2 hΓ ?_ | refine J.tT _ default hΓ (fun _ _ => ?_) | refine J.tT1 _ default hΓ (fun _ _ => ?_) | refine J.tT2 _ default hΓ (fun _ _ => ?_)) | (refine J.o 6 ?_; refine J.bx (fun _ => ?_)) | (refine J.o 7 ?_; refine J.al hΓ (fun _ => ?_)) | (refine J.o 8 ?_; refine J.bd hΓ ?_) | (refine J.o 9 ?_; refine J.bl hΓ (fun _ => ?_)) | (refine J.o 10 ?_; refine J.ev' hΓ ?_) | (refine J.o 11 ?_; refine J.ev' hΓ ?_) | refine J.kn ?_) | ((fail_if_success refine J.wt ?_); refine J.gc rfl rfl (fun hc => ?_) (fun hc => ?_) <;> ((try simp only [decide_eq_true_eq, decide_eq_false_iff_not, beq_iff_eq, beq_eq_false_iff_ne, bne_iff_ne, bne_eq_false_iff_eq, Bool.not_eq_true', Bool.not_eq_false', Bool.not_eq_true, Bool.not_eq_false] at hc) <;> first | (first | (exact absurd rfl hc) | (exfalso; omega) | (exact absurd (hc.symm.trans (by assumption : _ = false)) (by decide)) | (exact absurd (hc.symm.trans (by assumption : _ = true)) (by decide))) | skip)))
      | (first | refine JC.seq ?_ | refine JC.region ?_ | refine JC.block ?_ | refine JC.ret ?_ | refine JC.exit ?_ | refine JC.skip ?_ | refine thenK.nn ?_ | refine thenK.r ?_ | refine thenK.x ?_ | refine blockK.nn ?_ | refine blockK.r ?_ | refine blockK.hit rfl ?_ | refine blockK.miss rfl ?_ | refine JC.condT rfl ?_ | refine JC.condF rfl ?_ | (refine JC.cond rfl (fun hc => ?_) (fun hc => ?_) <;> ((try simp only [decide_eq_true_eq, decide_eq_false_iff_not, beq_iff_eq, beq_eq_false_iff_ne, bne_iff_ne, bne_eq_false_iff_eq, Bool.not_eq_true', Bool.not_eq_false', Bool.not_eq_true, Bool.not_eq_false] at hc) <;> first | (first | (exact absurd rfl hc) | (exfalso; omega) | (exact absurd (hc.symm.trans (by assumption : _ = false)) (by decide)) | (exact absurd (hc.symm.trans (by assumption : _ = true)) (by decide))) | skip)) | (refine JC.drawA [] (by kernel_rfl) (by kernel_rfl) ?_) | refine drawK.nn ?_ | refine roundK.nn ?_ | refine roundK.r ?_ | refine roundK.x ?_ | refine loopK.r ?_ | refine loopK.x ?_)
      | (fail)
      | fail
    all_goals first | (exfalso; omega) | skip
    rename_i n2 n3 n5
    refine JC.gen [(3, .pointer (some ⟨n3, 0, none⟩)), (5, .pointer (some ⟨n5, 0, none⟩)), (16, .slice a vs.length cap), (17, .int .i64 vs.length), (18, .int .i64 0)] ⟨rfl, rfl, rfl, rfl, rfl, trivial⟩ (fun F1 => ?_)
    refine JC.loopG (fun i => i == 4 || i == 6 || i == 7 || Nat.ble 18 i) (fun m g L' => ∃ (k : Nat) (hA : Heap), g 18 = .int .i64 (k : Int) ∧ k + m = vs.length ∧ OwT encBo 1 4 aA vs.length ((truT s ((vs.map pnV).take k)) ++ List.replicate m false) hA ∧ L' = [[(n5, slBO aA vs.length vs.length)], hA, [(n3, .cells ⟨[.int .u64 (s.1 : Int), .int .u64 (s.2 : Int)]⟩ 27 (0, 0))], [(n2, netOb N a vs.length cap)]]) vs.length ⟨0, hA, rfl, by omega, oA, rfl⟩ ?_
    clear oA
    rintro m g L' ⟨k, hA, e18, hkm, oA, rfl⟩
    refine JC.pin 18 e18 ?_
    clear e18
    unfold netOb
    have hst := truT_len s ((vs.map pnV).take k)
    rw [List.length_take, hX] at hst
    have hlT : ((truT s ((vs.map pnV).take k)) ++ List.replicate m false).length = vs.length := by rw [List.length_append, List.length_replicate]; omega
    rcases Nat.lt_or_ge k vs.length with hk | hk
    case inr =>
      have hm0 : m = 0 := by omega
      subst hm0
      have htk : (vs.map pnV).take k = vs.map pnV := List.take_of_length_le (by omega)
      rw [htk] at oA hlT
      rw [List.replicate_zero, List.append_nil] at oA hlT
      have hx1 : ((vs.length : Int) - 1).toNat = vs.length - 1 := by omega
      rw [hX]
      unfold slBO
      repeat' first
        | (refine J.isJ ?_; first | ((refine J.o 4 ?_; refine J.lT default hΓ ?_ (hs := oA.sl) (hr := RdH.hd.tl); rw [hx1])) | (first | (refine J.o 0 ?_; refine J.ev' hΓ ?_) | refine J.nil ?_ | refine J.kd ?_ | (refine J.o 4 ?_; first | refine J.e0 hΓ ?_ | refine J.e1 hΓ ?_ | refine J.e2 hΓ ?_ | refine J.lT default hΓ ?_ | refine J.lR hΓ ?_) | (refine J.o 3 ?_; first | refine J.iJ hΓ ?_ | refine J.fP hΓ ?_ | refine J.iC hΓ ?_ | refine J.ev' hΓ ?_) | (refine J.o 1 ?_; first | refine J.ad ?_ | refine J.sb ?_ | refine J.ng ?_) | (refine J.o 5 ?_; first | refine J.t0 hΓ ?_ | refine J.t1 hΓ ?_ | refine J.t2 hΓ ?_ | refine J.tT _ default hΓ (fun _ _ => ?_) | refine J.tT1 _ default hΓ (fun _ _ => ?_) | refine J.tT2 _ default hΓ (fun _ _ => ?_)) | (refine J.o 6 ?_; refine J.bx (fun _ => ?_)) | (refine J.o 7 ?_; refine J.al hΓ (fun _ => ?_)) | (refine J.o 8 ?_; refine J.bd hΓ ?_) | (refine J.o 9 ?_; refine J.bl hΓ (fun _ => ?_)) | (refine J.o 10 ?_; refine J.ev' hΓ ?_) | (refine J.o 11 ?_; refine J.ev' hΓ ?_) | refine J.kn ?_) | ((fail_if_success refine J.wt ?_); refine J.gc rfl rfl (fun hc => ?_) (fun hc => ?_) <;> ((try simp only [decide_eq_true_eq, decide_eq_false_iff_not, beq_iff_eq, beq_eq_false_iff_ne, bne_iff_ne, bne_eq_false_iff_eq, Bool.not_eq_true', Bool.not_eq_false', Bool.not_eq_true, Bool.not_eq_false] at hc) <;> first | (first | (exact absurd rfl hc) | (exfalso; omega) | (exact absurd (hc.symm.trans (by assumption : _ = false)) (by decide)) | (exact absurd (hc.symm.trans (by assumption : _ = true)) (by decide))) | skip)))
        | (first | refine JC.seq ?_ | refine JC.region ?_ | refine JC.block ?_ | refine JC.ret ?_ | refine JC.exit ?_ | refine JC.skip ?_ | refine thenK.nn ?_ | refine thenK.r ?_ | refine thenK.x ?_ | refine blockK.nn ?_ | refine blockK.r ?_ | refine blockK.hit rfl ?_ | refine blockK.miss rfl ?_ | refine JC.condT rfl ?_ | refine JC.condF rfl ?_ | (refine JC.cond rfl (fun hc => ?_) (fun hc => ?_) <;> ((try simp only [decide_eq_true_eq, decide_eq_false_iff_not, beq_iff_eq, beq_eq_false_iff_ne, bne_iff_ne, bne_eq_false_iff_eq, Bool.not_eq_true', Bool.not_eq_false', Bool.not_eq_true, Bool.not_eq_false] at hc) <;> first | (first | (exact absurd rfl hc) | (exfalso; omega) | (exact absurd (hc.symm.trans (by assumption : _ = false)) (by decide)) | (exact absurd (hc.symm.trans (by assumption : _ = true)) (by decide))) | skip)) | refine drawK.nn ?_ | refine roundK.nn ?_ | refine roundK.r ?_ | refine roundK.x ?_ | refine loopK.r ?_ | refine loopK.x ?_)
        | (fail)
        | fail
      all_goals first | (exfalso; omega) | exact ret1f rfl rfl rfl (fun w1 hw => ⟨rfl, hw.below⟩)
    have hkX : k < (vs.map pnV).length := by omega
    have hmk := mem_g vs k hk
    have hVl := sl _ hmk
    have hVs := si _ hmk
    have hfk : formedP (pnV (vs.getD k default)) N k = true := by
      have := formAll_at N (vs.map pnV) 0 hFA k hkX
      rw [Int.zero_add, getD_map] at this
      exact this
    have hVo : ∀ i, i ∈ (vs.getD k default).l → 0 ≤ i ∧ i < k := formed_rng hfk
    have hnext : truT s ((vs.map pnV).take (k + 1)) = (truT s ((vs.map pnV).take k)) ++ [truS s (truT s ((vs.map pnV).take k)) (pnV (vs.getD k default))] := by
      rw [take_g _ k hkX, truT_snoc, getD_map]
    obtain ⟨m', rfl⟩ : ∃ m', m = m' + 1 := ⟨m - 1, by omega⟩
    have hset := app_setB (truT s ((vs.map pnV).take k)) m'
    rw [show (truT s ((vs.map pnV).take k)).length = k by omega] at hset
    have hTs : ∀ i, i ∈ (vs.getD k default).l → ((truT s ((vs.map pnV).take k)) ++ List.replicate (m' + 1) false).getD i.toNat default = (truT s ((vs.map pnV).take k)).getD i.toNat default := fun i hi => app_repB _ _ _ (by have := hVo i hi; omega)
    have cE1 : ∀ x, x ∈ (vs.getD k default).l → ∀ w, Holds ((n5, slBO aA vs.length vs.length) :: (hA ++ h)) w → Calls Tryd.prog 35 #[.int .i64 x, .pointer (some ⟨n5, 0, none⟩)] w fun e w' => e = .returned (.bool (!((truT s ((vs.map pnV).take k)).getD x.toNat default))) ∧ Below w.heap.size w w' := fun x hx w hw => by
      have hxr := hVo x hx
      have := e1_any x n5 aA vs.length ((truT s ((vs.map pnV).take k)) ++ List.replicate (m' + 1) false) hA oA.sl (by omega) (by omega) w (fun y hy => hw y (by rw [hlT] at hy; rcases List.mem_cons.1 hy with rfl | hy; exact List.mem_cons_self; exact List.mem_cons_of_mem _ (List.mem_append_left _ hy)))
      rw [hTs x hx] at this
      exact this
    have cE2 : ∀ x, x ∈ (vs.getD k default).l → ∀ w, Holds ((n5, slBO aA vs.length vs.length) :: (hA ++ h)) w → Calls Tryd.prog 36 #[.int .i64 x, .pointer (some ⟨n5, 0, none⟩)] w fun e w' => e = .returned (.bool ((truT s ((vs.map pnV).take k)).getD x.toNat default)) ∧ Below w.heap.size w w' := fun x hx w hw => by
      have hxr := hVo x hx
      have := e2_any x n5 aA vs.length ((truT s ((vs.map pnV).take k)) ++ List.replicate (m' + 1) false) hA oA.sl (by omega) (by omega) w (fun y hy => hw y (by rw [hlT] at hy; rcases List.mem_cons.1 hy with rfl | hy; exact List.mem_cons_self; exact List.mem_cons_of_mem _ (List.mem_append_left _ hy)))
      rw [hTs x hx] at this
      exact this
    rcases formed_kinds hfk with hkd | hkd | ⟨hkd, hz, hlo, hhi⟩ | hkd | hkd
    · have hkd : (vs.getD k default).kind = 0 := hkd
      have htr : truS s (truT s ((vs.map pnV).take k)) (pnV (vs.getD k default)) = false := by
        show truS s (truT s ((vs.map pnV).take k)) ((vs.getD k default).kind, (vs.getD k default).lit, (vs.getD k default).l) = _
        rw [hkd]; rfl
      unfold slBO
      repeat' first
        | (refine J.isJ ?_; first | (first | (refine J.o 4 ?_; refine J.lT default hΓ ?_ (hs := so) (hr := q0 _)) | (refine J.o 4 ?_; first | refine J.e3 hΓ ?_ | refine J.e4 hΓ ?_)) | (first | (refine J.o 0 ?_; refine J.ev' hΓ ?_) | refine J.nil ?_ | refine J.kd ?_ | (refine J.o 4 ?_; first | refine J.e0 hΓ ?_ | refine J.e1 hΓ ?_ | refine J.e2 hΓ ?_ | refine J.lT default hΓ ?_ | refine J.lR hΓ ?_) | (refine J.o 3 ?_; first | refine J.iJ hΓ ?_ | refine J.fP hΓ ?_ | refine J.iC hΓ ?_ | refine J.ev' hΓ ?_) | (refine J.o 1 ?_; first | refine J.ad ?_ | refine J.sb ?_ | refine J.ng ?_) | (refine J.o 5 ?_; first | refine J.t0 hΓ ?_ | refine J.t1 hΓ ?_ | refine J.t2 hΓ ?_ | refine J.tT _ default hΓ (fun _ _ => ?_) | refine J.tT1 _ default hΓ (fun _ _ => ?_) | refine J.tT2 _ default hΓ (fun _ _ => ?_)) | (refine J.o 6 ?_; refine J.bx (fun _ => ?_)) | (refine J.o 7 ?_; refine J.al hΓ (fun _ => ?_)) | (refine J.o 8 ?_; refine J.bd hΓ ?_) | (refine J.o 9 ?_; refine J.bl hΓ (fun _ => ?_)) | (refine J.o 10 ?_; refine J.ev' hΓ ?_) | (refine J.o 11 ?_; refine J.ev' hΓ ?_) | refine J.kn ?_) | ((fail_if_success refine J.wt ?_); refine J.gc rfl rfl (fun hc => ?_) (fun hc => ?_) <;> ((try simp only [decide_eq_true_eq, decide_eq_false_iff_not, beq_iff_eq, beq_eq_false_iff_ne, bne_iff_ne, bne_eq_false_iff_eq, Bool.not_eq_true', Bool.not_eq_false', Bool.not_eq_true, Bool.not_eq_false] at hc) <;> first | (first | (exact absurd rfl hc) | (exfalso; omega) | (exact absurd (hc.symm.trans (by assumption : _ = false)) (by decide)) | (exact absurd (hc.symm.trans (by assumption : _ = true)) (by decide))) | skip)))
        | (first | refine JC.seq ?_ | refine JC.region ?_ | refine JC.block ?_ | refine JC.ret ?_ | refine JC.exit ?_ | refine JC.skip ?_ | refine thenK.nn ?_ | refine thenK.r ?_ | refine thenK.x ?_ | refine blockK.nn ?_ | refine blockK.r ?_ | refine blockK.hit rfl ?_ | refine blockK.miss rfl ?_ | refine JC.condT rfl ?_ | refine JC.condF rfl ?_ | (refine JC.cond rfl (fun hc => ?_) (fun hc => ?_) <;> ((try simp only [decide_eq_true_eq, decide_eq_false_iff_not, beq_iff_eq, beq_eq_false_iff_ne, bne_iff_ne, bne_eq_false_iff_eq, Bool.not_eq_true', Bool.not_eq_false', Bool.not_eq_true, Bool.not_eq_false] at hc) <;> first | (first | (exact absurd rfl hc) | (exfalso; omega) | (exact absurd (hc.symm.trans (by assumption : _ = false)) (by decide)) | (exact absurd (hc.symm.trans (by assumption : _ = true)) (by decide))) | skip)) | refine drawK.nn ?_ | refine roundK.nn ?_ | refine roundK.r ?_ | refine roundK.x ?_ | refine loopK.r ?_ | refine loopK.x ?_)
        | ((refine JC.drawN [] [] (by kernel_rfl) (by kernel_rfl) ?_))
        | fail
      all_goals first | (exfalso; omega) | skip
      have hn2 := hnext
      rw [htr] at hn2
      rw [app_idB, ← hn2] at oA
      refine loopK.nn m' (by omega) (by repeat (first | refine Ag.upd rfl ?_ | exact Ag.hv)) ⟨_, ⟨k + 1, hA, ?_, by omega, oA, rfl⟩, fun w hw => hw.drop⟩
      show Value.int .i64 _ = _; congr 1
    · have hkd : (vs.getD k default).kind = 1 := hkd
      have htr : truS s (truT s ((vs.map pnV).take k)) (pnV (vs.getD k default)) = true := by
        show truS s (truT s ((vs.map pnV).take k)) ((vs.getD k default).kind, (vs.getD k default).lit, (vs.getD k default).l) = _
        rw [hkd]; rfl
      have hset1 := hset true
      rw [← htr, ← hnext] at hset1
      unfold slBO
      repeat' first
        | (refine J.isJ ?_; first | (first | (refine J.o 4 ?_; refine J.lT default hΓ ?_ (hs := so) (hr := q0 _)) | (refine J.o 4 ?_; first | refine J.e3 hΓ ?_ | refine J.e4 hΓ ?_)) | (first | (refine J.o 0 ?_; refine J.ev' hΓ ?_) | refine J.nil ?_ | refine J.kd ?_ | (refine J.o 4 ?_; first | refine J.e0 hΓ ?_ | refine J.e1 hΓ ?_ | refine J.e2 hΓ ?_ | refine J.lT default hΓ ?_ | refine J.lR hΓ ?_) | (refine J.o 3 ?_; first | refine J.iJ hΓ ?_ | refine J.fP hΓ ?_ | refine J.iC hΓ ?_ | refine J.ev' hΓ ?_) | (refine J.o 1 ?_; first | refine J.ad ?_ | refine J.sb ?_ | refine J.ng ?_) | (refine J.o 5 ?_; first | refine J.t0 hΓ ?_ | refine J.t1 hΓ ?_ | refine J.t2 hΓ ?_ | refine J.tT _ default hΓ (fun _ _ => ?_) | refine J.tT1 _ default hΓ (fun _ _ => ?_) | refine J.tT2 _ default hΓ (fun _ _ => ?_)) | (refine J.o 6 ?_; refine J.bx (fun _ => ?_)) | (refine J.o 7 ?_; refine J.al hΓ (fun _ => ?_)) | (refine J.o 8 ?_; refine J.bd hΓ ?_) | (refine J.o 9 ?_; refine J.bl hΓ (fun _ => ?_)) | (refine J.o 10 ?_; refine J.ev' hΓ ?_) | (refine J.o 11 ?_; refine J.ev' hΓ ?_) | refine J.kn ?_) | ((fail_if_success refine J.wt ?_); refine J.gc rfl rfl (fun hc => ?_) (fun hc => ?_) <;> ((try simp only [decide_eq_true_eq, decide_eq_false_iff_not, beq_iff_eq, beq_eq_false_iff_ne, bne_iff_ne, bne_eq_false_iff_eq, Bool.not_eq_true', Bool.not_eq_false', Bool.not_eq_true, Bool.not_eq_false] at hc) <;> first | (first | (exact absurd rfl hc) | (exfalso; omega) | (exact absurd (hc.symm.trans (by assumption : _ = false)) (by decide)) | (exact absurd (hc.symm.trans (by assumption : _ = true)) (by decide))) | skip)))
        | (first | refine JC.seq ?_ | refine JC.region ?_ | refine JC.block ?_ | refine JC.ret ?_ | refine JC.exit ?_ | refine JC.skip ?_ | refine thenK.nn ?_ | refine thenK.r ?_ | refine thenK.x ?_ | refine blockK.nn ?_ | refine blockK.r ?_ | refine blockK.hit rfl ?_ | refine blockK.miss rfl ?_ | refine JC.condT rfl ?_ | refine JC.condF rfl ?_ | (refine JC.cond rfl (fun hc => ?_) (fun hc => ?_) <;> ((try simp only [decide_eq_true_eq, decide_eq_false_iff_not, beq_iff_eq, beq_eq_false_iff_ne, bne_iff_ne, bne_eq_false_iff_eq, Bool.not_eq_true', Bool.not_eq_false', Bool.not_eq_true, Bool.not_eq_false] at hc) <;> first | (first | (exact absurd rfl hc) | (exfalso; omega) | (exact absurd (hc.symm.trans (by assumption : _ = false)) (by decide)) | (exact absurd (hc.symm.trans (by assumption : _ = true)) (by decide))) | skip)) | refine drawK.nn ?_ | refine roundK.nn ?_ | refine roundK.r ?_ | refine roundK.x ?_ | refine loopK.r ?_ | refine loopK.x ?_)
        | ((refine JC.drawN [] [] (by kernel_rfl) (by kernel_rfl) ?_))
        | fail
      all_goals first | (exfalso; omega) | skip
      rename_i oA2
      have oA3 : OwT encBo 1 4 aA vs.length (truT s ((vs.map pnV).take (k + 1)) ++ List.replicate m' false) _ := hset1 ▸ htr ▸ oA2
      refine loopK.nn m' (by omega) (by repeat (first | refine Ag.upd rfl ?_ | exact Ag.hv)) ⟨_, ⟨k + 1, _, ?_, by omega, oA3, rfl⟩, fun w hw => H.sel (l := [_, _, _, _, _]) (M := []) hw [1, 2, 3, 4]⟩
      show Value.int .i64 _ = _; congr 1
    · have hkd : (vs.getD k default).kind = 2 := hkd
      have hz : (vs.getD k default).lit ≠ 0 := hz
      have hlo' : -128 ≤ (vs.getD k default).lit := by have : -N ≤ (vs.getD k default).lit := hlo; omega
      have hhi' : (vs.getD k default).lit ≤ 128 := by have : (vs.getD k default).lit ≤ N := hhi; omega
      have htr : truS s (truT s ((vs.map pnV).take k)) (pnV (vs.getD k default)) = (decide (hasB s (absI (vs.getD k default).lit) = decide (0 < (vs.getD k default).lit))) := by
        show truS s (truT s ((vs.map pnV).take k)) ((vs.getD k default).kind, (vs.getD k default).lit, (vs.getD k default).l) = _
        rw [hkd]; rfl
      have hset1 := hset (decide (hasB s (absI (vs.getD k default).lit) = decide (0 < (vs.getD k default).lit)))
      rw [← htr, ← hnext] at hset1
      unfold slBO
      repeat' first
        | (refine J.isJ ?_; first | (first | (refine J.o 4 ?_; refine J.lT default hΓ ?_ (hs := so) (hr := q0 _)) | (refine J.o 4 ?_; first | refine J.e3 hΓ ?_ | refine J.e4 hΓ ?_) | (refine J.fc 33 ?_; refine J.call0 eHoldsL rfl rfl (fun w hw => holdsL_any s hs (vs.getD k default).lit ⟨hz, hlo', hhi'⟩ w) ?_)) | (first | (refine J.o 0 ?_; refine J.ev' hΓ ?_) | refine J.nil ?_ | refine J.kd ?_ | (refine J.o 4 ?_; first | refine J.e0 hΓ ?_ | refine J.e1 hΓ ?_ | refine J.e2 hΓ ?_ | refine J.lT default hΓ ?_ | refine J.lR hΓ ?_) | (refine J.o 3 ?_; first | refine J.iJ hΓ ?_ | refine J.fP hΓ ?_ | refine J.iC hΓ ?_ | refine J.ev' hΓ ?_) | (refine J.o 1 ?_; first | refine J.ad ?_ | refine J.sb ?_ | refine J.ng ?_) | (refine J.o 5 ?_; first | refine J.t0 hΓ ?_ | refine J.t1 hΓ ?_ | refine J.t2 hΓ ?_ | refine J.tT _ default hΓ (fun _ _ => ?_) | refine J.tT1 _ default hΓ (fun _ _ => ?_) | refine J.tT2 _ default hΓ (fun _ _ => ?_)) | (refine J.o 6 ?_; refine J.bx (fun _ => ?_)) | (refine J.o 7 ?_; refine J.al hΓ (fun _ => ?_)) | (refine J.o 8 ?_; refine J.bd hΓ ?_) | (refine J.o 9 ?_; refine J.bl hΓ (fun _ => ?_)) | (refine J.o 10 ?_; refine J.ev' hΓ ?_) | (refine J.o 11 ?_; refine J.ev' hΓ ?_) | refine J.kn ?_) | ((fail_if_success refine J.wt ?_); refine J.gc rfl rfl (fun hc => ?_) (fun hc => ?_) <;> ((try simp only [decide_eq_true_eq, decide_eq_false_iff_not, beq_iff_eq, beq_eq_false_iff_ne, bne_iff_ne, bne_eq_false_iff_eq, Bool.not_eq_true', Bool.not_eq_false', Bool.not_eq_true, Bool.not_eq_false] at hc) <;> first | (first | (exact absurd rfl hc) | (exfalso; omega) | (exact absurd (hc.symm.trans (by assumption : _ = false)) (by decide)) | (exact absurd (hc.symm.trans (by assumption : _ = true)) (by decide))) | skip)))
        | (first | refine JC.seq ?_ | refine JC.region ?_ | refine JC.block ?_ | refine JC.ret ?_ | refine JC.exit ?_ | refine JC.skip ?_ | refine thenK.nn ?_ | refine thenK.r ?_ | refine thenK.x ?_ | refine blockK.nn ?_ | refine blockK.r ?_ | refine blockK.hit rfl ?_ | refine blockK.miss rfl ?_ | refine JC.condT rfl ?_ | refine JC.condF rfl ?_ | (refine JC.cond rfl (fun hc => ?_) (fun hc => ?_) <;> ((try simp only [decide_eq_true_eq, decide_eq_false_iff_not, beq_iff_eq, beq_eq_false_iff_ne, bne_iff_ne, bne_eq_false_iff_eq, Bool.not_eq_true', Bool.not_eq_false', Bool.not_eq_true, Bool.not_eq_false] at hc) <;> first | (first | (exact absurd rfl hc) | (exfalso; omega) | (exact absurd (hc.symm.trans (by assumption : _ = false)) (by decide)) | (exact absurd (hc.symm.trans (by assumption : _ = true)) (by decide))) | skip)) | refine drawK.nn ?_ | refine roundK.nn ?_ | refine roundK.r ?_ | refine roundK.x ?_ | refine loopK.r ?_ | refine loopK.x ?_)
        | ((refine JC.drawN [] [] (by kernel_rfl) (by kernel_rfl) ?_))
        | fail
      all_goals first | (exfalso; omega) | skip
      rename_i oA2
      have oA3 : OwT encBo 1 4 aA vs.length (truT s ((vs.map pnV).take (k + 1)) ++ List.replicate m' false) _ := hset1 ▸ htr ▸ oA2
      refine loopK.nn m' (by omega) (by repeat (first | refine Ag.upd rfl ?_ | exact Ag.hv)) ⟨_, ⟨k + 1, _, ?_, by omega, oA3, rfl⟩, fun w hw => H.sel (l := [_, _, _, _, _]) (M := []) hw [1, 2, 3, 4]⟩
      show Value.int .i64 _ = _; congr 1
    · have hkd : (vs.getD k default).kind = 3 := hkd
      have htr : truS s (truT s ((vs.map pnV).take k)) (pnV (vs.getD k default)) = (!((vs.getD k default).l.any fun i => !((truT s ((vs.map pnV).take k)).getD i.toNat default))) := by
        show truS s (truT s ((vs.map pnV).take k)) ((vs.getD k default).kind, (vs.getD k default).lit, (vs.getD k default).l) = _
        rw [hkd]; rfl
      have hset1 := hset (!((vs.getD k default).l.any fun i => !((truT s ((vs.map pnV).take k)).getD i.toNat default)))
      rw [← htr, ← hnext] at hset1
      unfold slBO
      repeat' first
        | (refine J.isJ ?_; first | (first | (refine J.o 4 ?_; refine J.lT default hΓ ?_ (hs := so) (hr := q0 _)) | (refine J.o 4 ?_; first | refine J.e3 hΓ ?_ | refine J.e4 hΓ ?_) | (refine J.o 14 ?_; refine J.mf hΓ ?_) | (refine J.fc 34 ?_; refine J.call0 eConF rfl rfl (fun w hw => conG_any eEval1 [.pointer (some ⟨n5, 0, none⟩)] (fun i => !((truT s ((vs.map pnV).take k)).getD i.toNat default)) (vs.getD k default).a (vs.getD k default).c (vs.getD k default).l h ((n5, slBO aA vs.length vs.length) :: (hA ++ h)) hVs (fun x hx => List.mem_cons_of_mem _ (List.mem_append_right _ hx)) hVl cE1 w (fun x hx => hw.rd (rdc Rd.hd.tl (RdH.append RdH.hd.tl.tl (q0 _)) x hx))) ?_)) | (first | (refine J.o 0 ?_; refine J.ev' hΓ ?_) | refine J.nil ?_ | refine J.kd ?_ | (refine J.o 4 ?_; first | refine J.e0 hΓ ?_ | refine J.e1 hΓ ?_ | refine J.e2 hΓ ?_ | refine J.lT default hΓ ?_ | refine J.lR hΓ ?_) | (refine J.o 3 ?_; first | refine J.iJ hΓ ?_ | refine J.fP hΓ ?_ | refine J.iC hΓ ?_ | refine J.ev' hΓ ?_) | (refine J.o 1 ?_; first | refine J.ad ?_ | refine J.sb ?_ | refine J.ng ?_) | (refine J.o 5 ?_; first | refine J.t0 hΓ ?_ | refine J.t1 hΓ ?_ | refine J.t2 hΓ ?_ | refine J.tT _ default hΓ (fun _ _ => ?_) | refine J.tT1 _ default hΓ (fun _ _ => ?_) | refine J.tT2 _ default hΓ (fun _ _ => ?_)) | (refine J.o 6 ?_; refine J.bx (fun _ => ?_)) | (refine J.o 7 ?_; refine J.al hΓ (fun _ => ?_)) | (refine J.o 8 ?_; refine J.bd hΓ ?_) | (refine J.o 9 ?_; refine J.bl hΓ (fun _ => ?_)) | (refine J.o 10 ?_; refine J.ev' hΓ ?_) | (refine J.o 11 ?_; refine J.ev' hΓ ?_) | refine J.kn ?_) | ((fail_if_success refine J.wt ?_); refine J.gc rfl rfl (fun hc => ?_) (fun hc => ?_) <;> ((try simp only [decide_eq_true_eq, decide_eq_false_iff_not, beq_iff_eq, beq_eq_false_iff_ne, bne_iff_ne, bne_eq_false_iff_eq, Bool.not_eq_true', Bool.not_eq_false', Bool.not_eq_true, Bool.not_eq_false] at hc) <;> first | (first | (exact absurd rfl hc) | (exfalso; omega) | (exact absurd (hc.symm.trans (by assumption : _ = false)) (by decide)) | (exact absurd (hc.symm.trans (by assumption : _ = true)) (by decide))) | skip)))
        | (first | refine JC.seq ?_ | refine JC.region ?_ | refine JC.block ?_ | refine JC.ret ?_ | refine JC.exit ?_ | refine JC.skip ?_ | refine thenK.nn ?_ | refine thenK.r ?_ | refine thenK.x ?_ | refine blockK.nn ?_ | refine blockK.r ?_ | refine blockK.hit rfl ?_ | refine blockK.miss rfl ?_ | refine JC.condT rfl ?_ | refine JC.condF rfl ?_ | (refine JC.cond rfl (fun hc => ?_) (fun hc => ?_) <;> ((try simp only [decide_eq_true_eq, decide_eq_false_iff_not, beq_iff_eq, beq_eq_false_iff_ne, bne_iff_ne, bne_eq_false_iff_eq, Bool.not_eq_true', Bool.not_eq_false', Bool.not_eq_true, Bool.not_eq_false] at hc) <;> first | (first | (exact absurd rfl hc) | (exfalso; omega) | (exact absurd (hc.symm.trans (by assumption : _ = false)) (by decide)) | (exact absurd (hc.symm.trans (by assumption : _ = true)) (by decide))) | skip)) | refine drawK.nn ?_ | refine roundK.nn ?_ | refine roundK.r ?_ | refine roundK.x ?_ | refine loopK.r ?_ | refine loopK.x ?_)
        | ((refine JC.drawN [] [] (by kernel_rfl) (by kernel_rfl) ?_))
        | fail
      all_goals first | (exfalso; omega) | skip
      rename_i oA2
      have oA3 : OwT encBo 1 4 aA vs.length (truT s ((vs.map pnV).take (k + 1)) ++ List.replicate m' false) _ := hset1 ▸ htr ▸ oA2
      refine loopK.nn m' (by omega) (by repeat (first | refine Ag.upd rfl ?_ | exact Ag.hv)) ⟨_, ⟨k + 1, _, ?_, by omega, oA3, rfl⟩, fun w hw => H.sel (l := [_, _, _, _, _]) (M := []) hw [1, 2, 3, 4]⟩
      show Value.int .i64 _ = _; congr 1
    · have hkd : (vs.getD k default).kind = 4 := hkd
      have htr : truS s (truT s ((vs.map pnV).take k)) (pnV (vs.getD k default)) = ((vs.getD k default).l.any fun i => (truT s ((vs.map pnV).take k)).getD i.toNat default) := by
        show truS s (truT s ((vs.map pnV).take k)) ((vs.getD k default).kind, (vs.getD k default).lit, (vs.getD k default).l) = _
        rw [hkd]; rfl
      have hset1 := hset ((vs.getD k default).l.any fun i => (truT s ((vs.map pnV).take k)).getD i.toNat default)
      rw [← htr, ← hnext] at hset1
      unfold slBO
      repeat' first
        | (refine J.isJ ?_; first | (first | (refine J.o 4 ?_; refine J.lT default hΓ ?_ (hs := so) (hr := q0 _)) | (refine J.o 4 ?_; first | refine J.e3 hΓ ?_ | refine J.e4 hΓ ?_) | (refine J.o 14 ?_; refine J.mf hΓ ?_) | (refine J.fc 34 ?_; refine J.call0 eConF rfl rfl (fun w hw => conG_any eEval2 [.pointer (some ⟨n5, 0, none⟩)] (fun i => (truT s ((vs.map pnV).take k)).getD i.toNat default) (vs.getD k default).a (vs.getD k default).c (vs.getD k default).l h ((n5, slBO aA vs.length vs.length) :: (hA ++ h)) hVs (fun x hx => List.mem_cons_of_mem _ (List.mem_append_right _ hx)) hVl cE2 w (fun x hx => hw.rd (rdc Rd.hd.tl (RdH.append RdH.hd.tl.tl (q0 _)) x hx))) ?_)) | (first | (refine J.o 0 ?_; refine J.ev' hΓ ?_) | refine J.nil ?_ | refine J.kd ?_ | (refine J.o 4 ?_; first | refine J.e0 hΓ ?_ | refine J.e1 hΓ ?_ | refine J.e2 hΓ ?_ | refine J.lT default hΓ ?_ | refine J.lR hΓ ?_) | (refine J.o 3 ?_; first | refine J.iJ hΓ ?_ | refine J.fP hΓ ?_ | refine J.iC hΓ ?_ | refine J.ev' hΓ ?_) | (refine J.o 1 ?_; first | refine J.ad ?_ | refine J.sb ?_ | refine J.ng ?_) | (refine J.o 5 ?_; first | refine J.t0 hΓ ?_ | refine J.t1 hΓ ?_ | refine J.t2 hΓ ?_ | refine J.tT _ default hΓ (fun _ _ => ?_) | refine J.tT1 _ default hΓ (fun _ _ => ?_) | refine J.tT2 _ default hΓ (fun _ _ => ?_)) | (refine J.o 6 ?_; refine J.bx (fun _ => ?_)) | (refine J.o 7 ?_; refine J.al hΓ (fun _ => ?_)) | (refine J.o 8 ?_; refine J.bd hΓ ?_) | (refine J.o 9 ?_; refine J.bl hΓ (fun _ => ?_)) | (refine J.o 10 ?_; refine J.ev' hΓ ?_) | (refine J.o 11 ?_; refine J.ev' hΓ ?_) | refine J.kn ?_) | ((fail_if_success refine J.wt ?_); refine J.gc rfl rfl (fun hc => ?_) (fun hc => ?_) <;> ((try simp only [decide_eq_true_eq, decide_eq_false_iff_not, beq_iff_eq, beq_eq_false_iff_ne, bne_iff_ne, bne_eq_false_iff_eq, Bool.not_eq_true', Bool.not_eq_false', Bool.not_eq_true, Bool.not_eq_false] at hc) <;> first | (first | (exact absurd rfl hc) | (exfalso; omega) | (exact absurd (hc.symm.trans (by assumption : _ = false)) (by decide)) | (exact absurd (hc.symm.trans (by assumption : _ = true)) (by decide))) | skip)))
        | (first | refine JC.seq ?_ | refine JC.region ?_ | refine JC.block ?_ | refine JC.ret ?_ | refine JC.exit ?_ | refine JC.skip ?_ | refine thenK.nn ?_ | refine thenK.r ?_ | refine thenK.x ?_ | refine blockK.nn ?_ | refine blockK.r ?_ | refine blockK.hit rfl ?_ | refine blockK.miss rfl ?_ | refine JC.condT rfl ?_ | refine JC.condF rfl ?_ | (refine JC.cond rfl (fun hc => ?_) (fun hc => ?_) <;> ((try simp only [decide_eq_true_eq, decide_eq_false_iff_not, beq_iff_eq, beq_eq_false_iff_ne, bne_iff_ne, bne_eq_false_iff_eq, Bool.not_eq_true', Bool.not_eq_false', Bool.not_eq_true, Bool.not_eq_false] at hc) <;> first | (first | (exact absurd rfl hc) | (exfalso; omega) | (exact absurd (hc.symm.trans (by assumption : _ = false)) (by decide)) | (exact absurd (hc.symm.trans (by assumption : _ = true)) (by decide))) | skip)) | refine drawK.nn ?_ | refine roundK.nn ?_ | refine roundK.r ?_ | refine roundK.x ?_ | refine loopK.r ?_ | refine loopK.x ?_)
        | ((refine JC.drawN [] [] (by kernel_rfl) (by kernel_rfl) ?_))
        | fail
      all_goals first | (exfalso; omega) | skip
      rename_i oA2
      have oA3 : OwT encBo 1 4 aA vs.length (truT s ((vs.map pnV).take (k + 1)) ++ List.replicate m' false) _ := hset1 ▸ htr ▸ oA2
      refine loopK.nn m' (by omega) (by repeat (first | refine Ag.upd rfl ?_ | exact Ag.hv)) ⟨_, ⟨k + 1, _, ?_, by omega, oA3, rfl⟩, fun w hw => H.sel (l := [_, _, _, _, _]) (M := []) hw [1, 2, 3, 4]⟩
      show Value.int .i64 _ = _; congr 1
end Go.Proofs.YtncnpmgohhgmfaaDoor
