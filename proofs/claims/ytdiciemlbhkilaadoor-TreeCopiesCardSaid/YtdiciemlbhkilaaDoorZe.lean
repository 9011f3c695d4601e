/- The closures of tree.Forest. -/
import Derived.Test.YtdiciemlbhkilaaDoorZa
import Derived.Test.YtdiciemlbhkilaaDoorCxX
namespace Go.Proofs.YtdiciemlbhkilaaDoor
open Go Go.Cx Go.RowKit
set_option linter.unusedVariables false
set_option linter.unusedSimpArgs false
set_option maxHeartbeats 4000000
attribute [local irreducible] J JC thenK blockK loopK roundK drawK retK QW Qt pel List.set Calls

/-- the table of types, and the two types of functions that lie in memory -/
def Γ2 : List (Nat × TI) := (60, ⟨.func #[59] #[3] false, 1, some .nilFunc, 8⟩) :: (61, ⟨.func #[3, 3, 3] #[3] false, 1, some .nilFunc, 8⟩) :: Γ
theorem hΓ2 : Fits Tryd.prog Γ2 := .cons (.cons hΓ (by kernel_rfl) (by kernel_rfl)) (by kernel_rfl) (by kernel_rfl)
/-- the block of the circuit under way -/
def cF (bc : Nat) (e : TypeId) (n : Int) (aL : Option Addr) (len capL : Nat) : Heap := [(bc, .cells ⟨[.int .i64 n, .slice aL len capL]⟩ e (0, 0))]
/-- what holds of the gates under way -/
structure St (n : Int) (gs : List Gt) (hI : Heap) : Prop where
  ok : ∀ i, i < gs.length → OkG n i (gs.getD i default)
  ins : ∀ i, i < gs.length → SlT encI 1 (gs.getD i default).a (gs.getD i default).ins hI
def val (s : Nat × Nat) (gs : List Gt) (r : Int) : Bool := (vals s gs).getD r.toNat default
theorem vals_all (s : Nat × Nat) (gs : List Gt) : (vals s gs).length = gs.length := by
  have := vals_len s gs gs.length (Nat.le_refl _)
  rwa [List.take_length] at this
theorem getD_left {α : Type} [Inhabited α] (a b : List α) (i : Nat) (h : i < a.length) : (a ++ b).getD i default = a.getD i default := by
  rw [List.getD_eq_getElem?_getD, List.getD_eq_getElem?_getD, List.getElem?_append_left h]
theorem getD_last {α : Type} [Inhabited α] (a : List α) (x : α) : (a ++ [x]).getD a.length default = x := by
  rw [List.getD_eq_getElem?_getD, List.getElem?_append_right (Nat.le_refl _)]; simp
theorem val_left (s : Nat × Nat) (gs : List Gt) (x : Gt) (r : Int) (h0 : 0 ≤ r) (h : r < gs.length) : val s (gs ++ [x]) r = val s gs r := by
  unfold val
  rw [vals_snoc, getD_left _ _ _ (by rw [vals_all]; omega)]
theorem val_last (s : Nat × Nat) (gs : List Gt) (x : Gt) : val s (gs ++ [x]) (gs.length : Int) = valueP s (vals s gs) x := by
  unfold val
  have := getD_last (vals s gs) (valueP s (vals s gs) x)
  rw [vals_all] at this
  rw [vals_snoc, Int.toNat_natCast, this]
theorem St.snoc {n : Int} {gs : List Gt} {hI hI' : Heap} (st : St n gs hI) (x : Gt) (hx : OkG n gs.length x) (hi : SlT encI 1 x.a x.ins hI') (hh : ∀ y, y ∈ hI → y ∈ hI') : St n (gs ++ [x]) hI' := by
  refine ⟨fun i hlt => ?_, fun i hlt => ?_⟩
  · rw [List.length_append, List.length_singleton] at hlt
    rcases Nat.lt_or_ge i gs.length with h | h
    · rw [getD_left _ _ _ h]; exact st.ok i h
    · obtain rfl : i = gs.length := by omega
      rw [getD_last]; exact hx
  · rw [List.length_append, List.length_singleton] at hlt
    rcases Nat.lt_or_ge i gs.length with h | h
    · rw [getD_left _ _ _ h]; exact slm (st.ins i h) hh
    · obtain rfl : i = gs.length := by omega
      rw [getD_last]; exact hi
theorem eAdd : Entr Tryd.prog 22 := Entr.of Tryd.func22 rfl rfl
theorem eChoose : Entr Tryd.prog 23 := Entr.of Tryd.func23 rfl rfl
theorem eLeaf : Entr Tryd.prog 25 := Entr.of Tryd.func25 rfl rfl
theorem eQuestion : Entr Tryd.prog 26 := Entr.of Tryd.func26 rfl rfl
theorem leaf_any (b : Bool) (w : World) : Calls Tryd.prog 25 #[.bool b] w fun e w' => e = .returned (.int .i64 (if b then 1 else 0)) ∧ Below w.heap.size w w' := by
  cases b
  all_goals
    refine calls_of_JC (R := []) Tryd.func25 Tryd.ntmps25 rfl rfl (Holds.nil _) ?_
    repeat' first
      | (refine J.isJ ?_; (first | (first | (refine J.o 0 ?_; refine J.ev' hΓ ?_) | refine J.nil ?_ | refine J.kd ?_ | (refine J.o 4 ?_; first | refine J.e0 hΓ ?_ | refine J.lT default hΓ ?_ | refine J.e1 hΓ ?_ | refine J.e2 hΓ ?_ | refine J.lR hΓ ?_) | (refine J.o 3 ?_; first | refine J.iA hΓ ?_ | refine J.iJ hΓ ?_ | refine J.fP hΓ ?_ | refine J.iC hΓ ?_ | refine J.ev' hΓ ?_) | (refine J.o 1 ?_; first | refine J.ad ?_ | refine J.ct ?_ | refine J.sb ?_ | refine J.mu ?_ | refine J.ng ?_ | refine J.qu ?_ | refine J.rm ?_ | refine J.s1 ?_ | refine J.sr ?_ | refine J.aW ?_ | refine J.oW ?_ | refine J.nW ?_) | (refine J.o 2 ?_; refine J.cv _ hΓ ?_) | (refine J.o 5 ?_; first | refine J.t0 hΓ ?_ | refine J.t1 hΓ ?_ | refine J.t2 hΓ ?_ | refine J.tT _ default hΓ (fun _ _ => ?_) | refine J.tT1 _ default hΓ (fun _ _ => ?_) | refine J.tT2 _ default hΓ (fun _ _ => ?_) | refine J.tT3 _ default hΓ (fun _ _ => ?_)) | (refine J.o 6 ?_; refine J.bx (fun _ => ?_)) | (refine J.o 7 ?_; refine J.al hΓ (fun _ => ?_)) | (refine J.o 8 ?_; refine J.bd hΓ ?_) | (refine J.o 9 ?_; refine J.bl hΓ (fun _ => ?_)) | (refine J.o 10 ?_; first | refine J.ls hΓ ?_ | refine J.ev' hΓ ?_) | (refine J.o 11 ?_; first | refine J.eS ?_ | refine J.xS ?_ | refine J.ev' hΓ ?_ | refine J.nT hΓ ?_) | (refine J.o 12 ?_; refine J.ix hΓ ?_) | (refine J.o 13 ?_; first | refine J.sL hΓ ?_ | refine J.sH hΓ ?_) | (refine J.o 14 ?_; refine J.mf hΓ ?_) | refine J.kn ?_) | ((fail_if_success refine J.wt ?_); refine J.gc rfl rfl (fun hc => ?_) (fun hc => ?_) <;> ((try simp only [decide_eq_true_eq, decide_eq_false_iff_not, beq_iff_eq, beq_eq_false_iff_ne, bne_iff_ne, bne_eq_false_iff_eq, Bool.not_eq_true', Bool.not_eq_false', Bool.not_eq_true, Bool.not_eq_false] at hc) <;> first | (first | (exact absurd rfl hc) | (exfalso; omega) | (exact absurd (hc.symm.trans (by assumption : _ = false)) (by decide)) | (exact absurd (hc.symm.trans (by assumption : _ = true)) (by decide))) | skip))))
      | (first | refine JC.seq ?_ | refine JC.region ?_ | refine JC.block ?_ | refine JC.ret ?_ | refine JC.exit ?_ | refine JC.skip ?_ | refine thenK.nn ?_ | refine thenK.r ?_ | refine thenK.x ?_ | refine blockK.nn ?_ | refine blockK.r ?_ | refine blockK.hit rfl ?_ | refine blockK.miss rfl ?_ | refine JC.condT rfl ?_ | refine JC.condF rfl ?_ | (refine JC.cond rfl (fun hc => ?_) (fun hc => ?_) <;> ((try simp only [decide_eq_true_eq, decide_eq_false_iff_not, beq_iff_eq, beq_eq_false_iff_ne, bne_iff_ne, bne_eq_false_iff_eq, Bool.not_eq_true', Bool.not_eq_false', Bool.not_eq_true, Bool.not_eq_false] at hc) <;> first | (first | (exact absurd rfl hc) | (exfalso; omega) | (exact absurd (hc.symm.trans (by assumption : _ = false)) (by decide)) | (exact absurd (hc.symm.trans (by assumption : _ = true)) (by decide))) | skip)) | (refine JC.drawA [] (by kernel_rfl) (by kernel_rfl) ?_) | refine drawK.nn ?_ | refine roundK.nn ?_ | refine roundK.r ?_ | refine roundK.x ?_ | refine loopK.r ?_ | refine loopK.x ?_)
      | fail
    all_goals exact ret1f rfl rfl rfl (fun w1 hw => ⟨rfl, hw.below⟩)

theorem add_any {w0 w : World} {R hl : Heap} {L : List Heap} {bc : Nat} {e : TypeId} {n : Int} {aL : Option Addr} {capL : Nat} {gs : List Gt} (x : Gt) (ol : OwT encG 3 59 aL capL gs hl) (hlen : gs.length ≤ 4096) (hw : H w0 R (cF bc e n aL gs.length capL :: hl :: L) w) :
    Calls Tryd.prog 22 #[.agg ⟨encG x⟩, .pointer (some ⟨bc, 0, none⟩)] w fun e' w' => ∃ v L', e' = .returned v ∧ H w0 R L' w' ∧ (v = .int .i64 (gs.length : Int) ∧ ∃ aL' capL' hl', OwT encG 3 59 aL' capL' (gs ++ [x]) hl' ∧ L' = cF bc e n aL' (gs.length + 1) capL' :: hl' :: L) := by
  unfold cF at hw ⊢
  have hl1 : (gs ++ [x]).length = gs.length + 1 := by simp
  refine calls_in Tryd.func22 Tryd.ntmps22 rfl rfl (hw) ?_
  repeat' first
    | (refine J.isJ ?_; first | (first | (refine J.o 0 ?_; refine J.ev' hΓ ?_) | refine J.nil ?_ | refine J.kd ?_ | (refine J.o 4 ?_; first | refine J.e0 hΓ ?_ | refine J.lT default hΓ ?_ | refine J.e1 hΓ ?_ | refine J.e2 hΓ ?_ | refine J.lR hΓ ?_) | (refine J.o 3 ?_; first | refine J.iA hΓ ?_ | refine J.iJ hΓ ?_ | refine J.fP hΓ ?_ | refine J.iC hΓ ?_ | refine J.ev' hΓ ?_) | (refine J.o 1 ?_; first | refine J.ad ?_ | refine J.ct ?_ | refine J.sb ?_ | refine J.mu ?_ | refine J.ng ?_ | refine J.qu ?_ | refine J.rm ?_ | refine J.s1 ?_ | refine J.sr ?_ | refine J.aW ?_ | refine J.oW ?_ | refine J.nW ?_) | (refine J.o 2 ?_; refine J.cv _ hΓ ?_) | (refine J.o 5 ?_; first | refine J.t0 hΓ ?_ | refine J.t1 hΓ ?_ | refine J.t2 hΓ ?_ | refine J.tT _ default hΓ (fun _ _ => ?_) | refine J.tT1 _ default hΓ (fun _ _ => ?_) | refine J.tT2 _ default hΓ (fun _ _ => ?_) | refine J.tT3 _ default hΓ (fun _ _ => ?_)) | (refine J.o 6 ?_; refine J.bx (fun _ => ?_)) | (refine J.o 7 ?_; refine J.al hΓ (fun _ => ?_)) | (refine J.o 8 ?_; refine J.bd hΓ ?_) | (refine J.o 9 ?_; refine J.bl hΓ (fun _ => ?_)) | (refine J.o 10 ?_; first | refine J.ls hΓ ?_ | refine J.ev' hΓ ?_) | (refine J.o 11 ?_; first | refine J.eS ?_ | refine J.xS ?_ | refine J.ev' hΓ ?_ | refine J.nT hΓ ?_) | (refine J.o 12 ?_; refine J.ix hΓ ?_) | (refine J.o 13 ?_; first | refine J.sL hΓ ?_ | refine J.sH hΓ ?_) | (refine J.o 14 ?_; refine J.mf hΓ ?_) | refine J.kn ?_) | ((refine J.app1c (enc := encG) [x] hΓ (fun _ _ _ _ => ?_))) | ((fail_if_success refine J.wt ?_); refine J.gc rfl rfl (fun hc => ?_) (fun hc => ?_) <;> ((try simp only [decide_eq_true_eq, decide_eq_false_iff_not, beq_iff_eq, beq_eq_false_iff_ne, bne_iff_ne, bne_eq_false_iff_eq, Bool.not_eq_true', Bool.not_eq_false', Bool.not_eq_true, Bool.not_eq_false] at hc) <;> first | (first | (exact absurd rfl hc) | (exfalso; omega) | (exact absurd (hc.symm.trans (by assumption : _ = false)) (by decide)) | (exact absurd (hc.symm.trans (by assumption : _ = true)) (by decide))) | skip)))
    | (first | refine JC.seq ?_ | refine JC.region ?_ | refine JC.block ?_ | refine JC.ret ?_ | refine JC.exit ?_ | refine JC.skip ?_ | refine thenK.nn ?_ | refine thenK.r ?_ | refine thenK.x ?_ | refine blockK.nn ?_ | refine blockK.r ?_ | refine blockK.hit rfl ?_ | refine blockK.miss rfl ?_ | refine JC.condT rfl ?_ | refine JC.condF rfl ?_ | (refine JC.cond rfl (fun hc => ?_) (fun hc => ?_) <;> ((try simp only [decide_eq_true_eq, decide_eq_false_iff_not, beq_iff_eq, beq_eq_false_iff_ne, bne_iff_ne, bne_eq_false_iff_eq, Bool.not_eq_true', Bool.not_eq_false', Bool.not_eq_true, Bool.not_eq_false] at hc) <;> first | (first | (exact absurd rfl hc) | (exfalso; omega) | (exact absurd (hc.symm.trans (by assumption : _ = false)) (by decide)) | (exact absurd (hc.symm.trans (by assumption : _ = true)) (by decide))) | skip)) | (refine JC.drawA [] (by kernel_rfl) (by kernel_rfl) ?_) | refine drawK.nn ?_ | refine roundK.nn ?_ | refine roundK.r ?_ | refine roundK.x ?_ | refine loopK.r ?_ | refine loopK.x ?_)
    | fail
  all_goals first | (exfalso; omega) | skip
  all_goals refine ret1f rfl rfl rfl (fun w1 hw => ⟨_, _, rfl, hw.drop, ?_, _, _, _, by assumption, ?_⟩)
  · show Value.int .i64 _ = _; congr 1; omega
  · rw [hl1]

theorem _root_.Go.Cx.H.mg {w0 w : World} {R a b c d : Heap} {L : List Heap} (h : H w0 R (a :: b :: c :: d :: L) w) : H w0 R (a :: b :: (c ++ d) :: L) w := by
  have e : (a :: b :: (c ++ d) :: L).flatten = (a :: b :: c :: d :: L).flatten := by simp
  exact ⟨h.below, h.old, by rw [e]; exact h.own, by rw [e]; exact h.new, by rw [e]; exact h.nodup⟩
/-- one more gate: its inputs are new memory of the call's own, or none -/
theorem choose_any {w0 w : World} {R hl hI : Heap} {L : List Heap} {bc ba : Nat} {e ea : TypeId} {fa} {n : Int} {aL : Option Addr} {capL : Nat} {gs : List Gt} (a b c : Int) (ol : OwT encG 3 59 aL capL gs hl) (st : St n gs hI) (hlen : gs.length ≤ 4096) (ha : 0 ≤ a ∧ a < gs.length) (hb : 0 ≤ b ∧ b < gs.length) (hc : 0 ≤ c ∧ c < gs.length)
    (hr : Rd R L ba (.cells ⟨[.func (.func 22) ⟨[]⟩ ⟨[.pointer (some ⟨bc, 0, none⟩)]⟩]⟩ ea fa)) (hw : H w0 R (cF bc e n aL gs.length capL :: hl :: hI :: L) w) :
    Calls Tryd.prog 23 #[.int .i64 a, .int .i64 b, .int .i64 c, .pointer (some ⟨ba, 0, none⟩)] w fun e' w' => ∃ v L', e' = .returned v ∧ H w0 R L' w' ∧ (∃ (r : Int) (gs' : List Gt) (aL' : Option Addr) (capL' : Nat) (hl' hI' : Heap), v = .int .i64 r ∧ OwT encG 3 59 aL' capL' gs' hl' ∧ St n gs' hI' ∧ L' = cF bc e n aL' gs'.length capL' :: hl' :: hI' :: L ∧ 0 ≤ r ∧ r < gs'.length ∧ gs.length ≤ gs'.length ∧ gs'.length ≤ gs.length + 1 ∧ (∀ (s : Nat × Nat) (t : Int), 0 ≤ t → t < gs.length → val s gs' t = val s gs t) ∧ ∀ s, val s gs' r = if val s gs a then val s gs b else val s gs c) := by
  by_cases hbc : b = c
  · subst hbc
    unfold cF at hw
    refine calls_in Tryd.func23 Tryd.ntmps23 rfl rfl (hw) ?_
    repeat' first
      | (refine J.isJ ?_; (first | (first | (refine J.o 0 ?_; refine J.ev' hΓ ?_) | refine J.nil ?_ | refine J.kd ?_ | (refine J.o 4 ?_; first | refine J.e0 hΓ ?_ | refine J.lT default hΓ ?_ | refine J.e1 hΓ ?_ | refine J.e2 hΓ ?_ | refine J.lR hΓ ?_) | (refine J.o 3 ?_; first | refine J.iA hΓ ?_ | refine J.iJ hΓ ?_ | refine J.fP hΓ ?_ | refine J.iC hΓ ?_ | refine J.ev' hΓ ?_) | (refine J.o 1 ?_; first | refine J.ad ?_ | refine J.ct ?_ | refine J.sb ?_ | refine J.mu ?_ | refine J.ng ?_ | refine J.qu ?_ | refine J.rm ?_ | refine J.s1 ?_ | refine J.sr ?_ | refine J.aW ?_ | refine J.oW ?_ | refine J.nW ?_) | (refine J.o 2 ?_; refine J.cv _ hΓ ?_) | (refine J.o 5 ?_; first | refine J.t0 hΓ ?_ | refine J.t1 hΓ ?_ | refine J.t2 hΓ ?_ | refine J.tT _ default hΓ (fun _ _ => ?_) | refine J.tT1 _ default hΓ (fun _ _ => ?_) | refine J.tT2 _ default hΓ (fun _ _ => ?_) | refine J.tT3 _ default hΓ (fun _ _ => ?_)) | (refine J.o 6 ?_; refine J.bx (fun _ => ?_)) | (refine J.o 7 ?_; refine J.al hΓ (fun _ => ?_)) | (refine J.o 8 ?_; refine J.bd hΓ ?_) | (refine J.o 9 ?_; refine J.bl hΓ (fun _ => ?_)) | (refine J.o 10 ?_; first | refine J.ls hΓ ?_ | refine J.ev' hΓ ?_) | (refine J.o 11 ?_; first | refine J.eS ?_ | refine J.xS ?_ | refine J.ev' hΓ ?_ | refine J.nT hΓ ?_) | (refine J.o 12 ?_; refine J.ix hΓ ?_) | (refine J.o 13 ?_; first | refine J.sL hΓ ?_ | refine J.sH hΓ ?_) | (refine J.o 14 ?_; refine J.mf hΓ ?_) | refine J.kn ?_) | ((fail_if_success refine J.wt ?_); refine J.gc rfl rfl (fun hc => ?_) (fun hc => ?_) <;> ((try simp only [decide_eq_true_eq, decide_eq_false_iff_not, beq_iff_eq, beq_eq_false_iff_ne, bne_iff_ne, bne_eq_false_iff_eq, Bool.not_eq_true', Bool.not_eq_false', Bool.not_eq_true, Bool.not_eq_false] at hc) <;> first | (first | (exact absurd rfl hc) | (exfalso; omega) | (exact absurd (hc.symm.trans (by assumption : _ = false)) (by decide)) | (exact absurd (hc.symm.trans (by assumption : _ = true)) (by decide))) | skip))))
      | (first | refine JC.seq ?_ | refine JC.region ?_ | refine JC.block ?_ | refine JC.ret ?_ | refine JC.exit ?_ | refine JC.skip ?_ | refine thenK.nn ?_ | refine thenK.r ?_ | refine thenK.x ?_ | refine blockK.nn ?_ | refine blockK.r ?_ | refine blockK.hit rfl ?_ | refine blockK.miss rfl ?_ | refine JC.condT rfl ?_ | refine JC.condF rfl ?_ | (refine JC.cond rfl (fun hc => ?_) (fun hc => ?_) <;> ((try simp only [decide_eq_true_eq, decide_eq_false_iff_not, beq_iff_eq, beq_eq_false_iff_ne, bne_iff_ne, bne_eq_false_iff_eq, Bool.not_eq_true', Bool.not_eq_false', Bool.not_eq_true, Bool.not_eq_false] at hc) <;> first | (first | (exact absurd rfl hc) | (exfalso; omega) | (exact absurd (hc.symm.trans (by assumption : _ = false)) (by decide)) | (exact absurd (hc.symm.trans (by assumption : _ = true)) (by decide))) | skip)) | (refine JC.drawA [] (by kernel_rfl) (by kernel_rfl) ?_) | refine drawK.nn ?_ | refine roundK.nn ?_ | refine roundK.r ?_ | refine roundK.x ?_ | refine loopK.r ?_ | refine loopK.x ?_)
      | fail
    all_goals first | (exfalso; omega) | skip
    all_goals refine ret1f rfl rfl rfl (fun w1 hw => ⟨_, _, rfl, hw, b, gs, aL, capL, hl, hI, rfl, ol, st, rfl, hb.1, hb.2, Nat.le_refl _, by omega, fun _ _ _ _ => rfl, fun s => by cases val s gs a <;> rfl⟩)
  · have hr1 : Rd R (cF bc e n aL gs.length capL :: hl :: hI :: L) ba (.cells ⟨[.func (.func 22) ⟨[]⟩ ⟨[.pointer (some ⟨bc, 0, none⟩)]⟩]⟩ ea fa) := hr.tl.tl.tl
    refine calls_in Tryd.func23 Tryd.ntmps23 rfl rfl (hw) ?_
    repeat' first
      | (refine J.isJ ?_; first | (first | (refine J.o 0 ?_; refine J.ev' hΓ ?_) | refine J.nil ?_ | refine J.kd ?_ | (refine J.o 4 ?_; first | refine J.e0 hΓ ?_ | refine J.lT default hΓ ?_ | refine J.e1 hΓ ?_ | refine J.e2 hΓ ?_ | refine J.lR hΓ ?_) | (refine J.o 3 ?_; first | refine J.iA hΓ ?_ | refine J.iJ hΓ ?_ | refine J.fP hΓ ?_ | refine J.iC hΓ ?_ | refine J.ev' hΓ ?_) | (refine J.o 1 ?_; first | refine J.ad ?_ | refine J.ct ?_ | refine J.sb ?_ | refine J.mu ?_ | refine J.ng ?_ | refine J.qu ?_ | refine J.rm ?_ | refine J.s1 ?_ | refine J.sr ?_ | refine J.aW ?_ | refine J.oW ?_ | refine J.nW ?_) | (refine J.o 2 ?_; refine J.cv _ hΓ ?_) | (refine J.o 5 ?_; first | refine J.t0 hΓ ?_ | refine J.t1 hΓ ?_ | refine J.t2 hΓ ?_ | refine J.tT _ default hΓ (fun _ _ => ?_) | refine J.tT1 _ default hΓ (fun _ _ => ?_) | refine J.tT2 _ default hΓ (fun _ _ => ?_) | refine J.tT3 _ default hΓ (fun _ _ => ?_)) | (refine J.o 6 ?_; refine J.bx (fun _ => ?_)) | (refine J.o 7 ?_; refine J.al hΓ (fun _ => ?_)) | (refine J.o 8 ?_; refine J.bd hΓ ?_) | (refine J.o 9 ?_; refine J.bl hΓ (fun _ => ?_)) | (refine J.o 10 ?_; first | refine J.ls hΓ ?_ | refine J.ev' hΓ ?_) | (refine J.o 11 ?_; first | refine J.eS ?_ | refine J.xS ?_ | refine J.ev' hΓ ?_ | refine J.nT hΓ ?_) | (refine J.o 12 ?_; refine J.ix hΓ ?_) | (refine J.o 13 ?_; first | refine J.sL hΓ ?_ | refine J.sH hΓ ?_) | (refine J.o 14 ?_; refine J.mf hΓ ?_) | refine J.kn ?_) | (first | (refine J.lR hΓ2 ?_) | (refine J.callvx eAdd rfl rfl rfl (fun w hw => add_any (⟨8, 0, some ⟨_, 0, none⟩, 3, [a, b, c]⟩ : Gt) ol hlen (hw.perm ((List.Perm.swap _ _ _).trans ((List.Perm.swap _ _ _).cons _)))) ?_; rintro _ _ ⟨rfl, aL', capL', hl', o', rfl⟩)) | ((fail_if_success refine J.wt ?_); refine J.gc rfl rfl (fun hc => ?_) (fun hc => ?_) <;> ((try simp only [decide_eq_true_eq, decide_eq_false_iff_not, beq_iff_eq, beq_eq_false_iff_ne, bne_iff_ne, bne_eq_false_iff_eq, Bool.not_eq_true', Bool.not_eq_false', Bool.not_eq_true, Bool.not_eq_false] at hc) <;> first | (first | (exact absurd rfl hc) | (exfalso; omega) | (exact absurd (hc.symm.trans (by assumption : _ = false)) (by decide)) | (exact absurd (hc.symm.trans (by assumption : _ = true)) (by decide))) | skip)))
      | (first | refine JC.seq ?_ | refine JC.region ?_ | refine JC.block ?_ | refine JC.ret ?_ | refine JC.exit ?_ | refine JC.skip ?_ | refine thenK.nn ?_ | refine thenK.r ?_ | refine thenK.x ?_ | refine blockK.nn ?_ | refine blockK.r ?_ | refine blockK.hit rfl ?_ | refine blockK.miss rfl ?_ | refine JC.condT rfl ?_ | refine JC.condF rfl ?_ | (refine JC.cond rfl (fun hc => ?_) (fun hc => ?_) <;> ((try simp only [decide_eq_true_eq, decide_eq_false_iff_not, beq_iff_eq, beq_eq_false_iff_ne, bne_iff_ne, bne_eq_false_iff_eq, Bool.not_eq_true', Bool.not_eq_false', Bool.not_eq_true, Bool.not_eq_false] at hc) <;> first | (first | (exact absurd rfl hc) | (exfalso; omega) | (exact absurd (hc.symm.trans (by assumption : _ = false)) (by decide)) | (exact absurd (hc.symm.trans (by assumption : _ = true)) (by decide))) | skip)) | (refine JC.drawA [] (by kernel_rfl) (by kernel_rfl) ?_) | refine drawK.nn ?_ | refine roundK.nn ?_ | refine roundK.r ?_ | refine roundK.x ?_ | refine loopK.r ?_ | refine loopK.x ?_)
      | fail
    all_goals first | (exfalso; omega) | skip
    rename_i x
    have hlx : (gs ++ [(⟨8, 0, some ⟨x, 0, none⟩, 3, [a, b, c]⟩ : Gt)]).length = gs.length + 1 := by simp
    have hok : OkG n gs.length (⟨8, 0, some ⟨x, 0, none⟩, 3, [a, b, c]⟩ : Gt) := ⟨.inr (.inl ⟨rfl, rfl⟩), .inr ⟨(by decide : (8 : Int) ≠ 2), rfl⟩, fun j hj => by
      match j, hj with
      | 0, _ => exact ha
      | 1, _ => exact hb
      | 2, _ => assumption⟩
    have hsl : SlT encI 1 (some ⟨x, 0, none⟩) [a, b, c] [(x, .cells ⟨[.int .i64 a, .int .i64 b, .int .i64 c]⟩ 3 (0, 0))] := OwT.sl (e := 3) (cap := 3) ⟨fun _ => rfl, .inr ⟨x, _, rfl, rfl, rfl, Nat.le_refl _, rfl⟩⟩
    refine ret1f rfl rfl rfl (fun w1 hw => ⟨_, _, rfl, hw.mg, (gs.length : Int), gs ++ [⟨8, 0, some ⟨x, 0, none⟩, 3, [a, b, c]⟩], aL', capL', hl', _, rfl, o', st.snoc _ hok (slm hsl fun y hy => List.mem_append_left _ hy) (fun y hy => List.mem_append_right _ hy), by rw [hlx], by omega, by omega, by omega, by omega, fun s t h0 h1 => val_left s gs _ t h0 h1, fun s => ?_⟩)
    rw [val_last]
    simp [valueP, val]

/-- a question: the gate of its variable, and a choice -/
theorem question_any {w0 w : World} {R hl hI : Heap} {L : List Heap} {bc ba bh : Nat} {e ea eh : TypeId} {fa fh} {n : Int} {aL : Option Addr} {capL : Nat} {gs : List Gt} (v no yes : Int) (ol : OwT encG 3 59 aL capL gs hl) (st : St n gs hI) (hlen : gs.length + 1 ≤ 4096) (hv : 1 ≤ v ∧ v ≤ n) (hn : 0 ≤ no ∧ no < gs.length) (hy : 0 ≤ yes ∧ yes < gs.length)
    (hr : Rd R L ba (.cells ⟨[.func (.func 22) ⟨[]⟩ ⟨[.pointer (some ⟨bc, 0, none⟩)]⟩]⟩ ea fa)) (hr2 : Rd R L bh (.cells ⟨[.func (.func 23) ⟨[]⟩ ⟨[.pointer (some ⟨ba, 0, none⟩)]⟩]⟩ eh fh)) (hw : H w0 R (cF bc e n aL gs.length capL :: hl :: hI :: L) w) :
    Calls Tryd.prog 26 #[.int .i64 v, .int .i64 no, .int .i64 yes, .pointer (some ⟨bh, 0, none⟩), .pointer (some ⟨ba, 0, none⟩)] w fun e' w' => ∃ v' L', e' = .returned v' ∧ H w0 R L' w' ∧ (∃ (r : Int) (gs' : List Gt) (aL' : Option Addr) (capL' : Nat) (hl' hI' : Heap), v' = .int .i64 r ∧ OwT encG 3 59 aL' capL' gs' hl' ∧ St n gs' hI' ∧ L' = cF bc e n aL' gs'.length capL' :: hl' :: hI' :: L ∧ 0 ≤ r ∧ r < gs'.length ∧ gs.length ≤ gs'.length ∧ gs'.length ≤ gs.length + 2 ∧ (∀ (s : Nat × Nat) (t : Int), 0 ≤ t → t < gs.length → val s gs' t = val s gs t) ∧ ∀ s, val s gs' r = if hasB s v then val s gs yes else val s gs no) := by
  have hok : OkG n gs.length (⟨2, v, none, 0, []⟩ : Gt) := ⟨.inl ⟨.inr (.inr rfl), rfl⟩, .inl ⟨rfl, hv⟩, fun j hj => by cases hj⟩
  have hlx : (gs ++ [(⟨2, v, none, 0, []⟩ : Gt)]).length = gs.length + 1 := by simp
  have st1 : St n (gs ++ [(⟨2, v, none, 0, []⟩ : Gt)]) hI := st.snoc _ hok ⟨fun _ => rfl, fun i hi => by cases hi⟩ (fun y hy => hy)
  refine calls_in Tryd.func26 Tryd.ntmps26 rfl rfl (hw) ?_
  refine JC.seq (JC.region (J.ev' hΓ (J.nil (thenK.nn ?_))))
  refine JC.seq ?_
  refine JC.drawD L [(4, 0), (4, 1), (0, 2), (0, 3), (0, 5), (0, 6), (3, 4), (2, 7), (0, 8)] (by kernel_rfl) (by kernel_rfl) ?_
  refine JD.ld hΓ2 (fun w hw => hw.drop.drop.drop) hr2 ?_
  refine JD.ld hΓ2 (fun w hw => hw.drop.drop.drop) hr ?_
  refine JD.ev hΓ ?_
  refine JD.bd hΓ ?_
  refine JD.ev hΓ ?_
  refine JD.ev hΓ ?_
  refine JD.callvd eAdd rfl rfl rfl (fun w hw => add_any (⟨2, v, none, 0, []⟩ : Gt) ol (by omega) hw) ?_
  rintro _ _ ⟨rfl, aL', capL', hl', o', rfl⟩
  refine ⟨fun w hw => hw.drop.drop.drop, ?_⟩
  refine JD.callvx eChoose rfl rfl rfl (fun w hw => choose_any (gs.length : Int) yes no o' st1 (by omega) (by omega) (by omega) (by omega) hr (by rw [hlx]; exact hw)) ?_
  rintro _ _ ⟨r, gs2, aL2, capL2, hl2, hI2, rfl, o2, st2, rfl, r0, r1, g0, g1, hold, hval⟩
  refine JD.ev hΓ ?_
  refine JD.nil ?_
  repeat' first
    | (refine J.isJ ?_; (first | (first | (refine J.o 0 ?_; refine J.ev' hΓ ?_) | refine J.nil ?_ | refine J.kd ?_ | (refine J.o 4 ?_; first | refine J.e0 hΓ ?_ | refine J.lT default hΓ ?_ | refine J.e1 hΓ ?_ | refine J.e2 hΓ ?_ | refine J.lR hΓ ?_) | (refine J.o 3 ?_; first | refine J.iA hΓ ?_ | refine J.iJ hΓ ?_ | refine J.fP hΓ ?_ | refine J.iC hΓ ?_ | refine J.ev' hΓ ?_) | (refine J.o 1 ?_; first | refine J.ad ?_ | refine J.ct ?_ | refine J.sb ?_ | refine J.mu ?_ | refine J.ng ?_ | refine J.qu ?_ | refine J.rm ?_ | refine J.s1 ?_ | refine J.sr ?_ | refine J.aW ?_ | refine J.oW ?_ | refine J.nW ?_) | (refine J.o 2 ?_; refine J.cv _ hΓ ?_) | (refine J.o 5 ?_; first | refine J.t0 hΓ ?_ | refine J.t1 hΓ ?_ | refine J.t2 hΓ ?_ | refine J.tT _ default hΓ (fun _ _ => ?_) | refine J.tT1 _ default hΓ (fun _ _ => ?_) | refine J.tT2 _ default hΓ (fun _ _ => ?_) | refine J.tT3 _ default hΓ (fun _ _ => ?_)) | (refine J.o 6 ?_; refine J.bx (fun _ => ?_)) | (refine J.o 7 ?_; refine J.al hΓ (fun _ => ?_)) | (refine J.o 8 ?_; refine J.bd hΓ ?_) | (refine J.o 9 ?_; refine J.bl hΓ (fun _ => ?_)) | (refine J.o 10 ?_; first | refine J.ls hΓ ?_ | refine J.ev' hΓ ?_) | (refine J.o 11 ?_; first | refine J.eS ?_ | refine J.xS ?_ | refine J.ev' hΓ ?_ | refine J.nT hΓ ?_) | (refine J.o 12 ?_; refine J.ix hΓ ?_) | (refine J.o 13 ?_; first | refine J.sL hΓ ?_ | refine J.sH hΓ ?_) | (refine J.o 14 ?_; refine J.mf hΓ ?_) | refine J.kn ?_) | ((fail_if_success refine J.wt ?_); refine J.gc rfl rfl (fun hc => ?_) (fun hc => ?_) <;> ((try simp only [decide_eq_true_eq, decide_eq_false_iff_not, beq_iff_eq, beq_eq_false_iff_ne, bne_iff_ne, bne_eq_false_iff_eq, Bool.not_eq_true', Bool.not_eq_false', Bool.not_eq_true, Bool.not_eq_false] at hc) <;> first | (first | (exact absurd rfl hc) | (exfalso; omega) | (exact absurd (hc.symm.trans (by assumption : _ = false)) (by decide)) | (exact absurd (hc.symm.trans (by assumption : _ = true)) (by decide))) | skip))))
    | (first | refine JC.seq ?_ | refine JC.region ?_ | refine JC.block ?_ | refine JC.ret ?_ | refine JC.exit ?_ | refine JC.skip ?_ | refine thenK.nn ?_ | refine thenK.r ?_ | refine thenK.x ?_ | refine blockK.nn ?_ | refine blockK.r ?_ | refine blockK.hit rfl ?_ | refine blockK.miss rfl ?_ | refine JC.condT rfl ?_ | refine JC.condF rfl ?_ | (refine JC.cond rfl (fun hc => ?_) (fun hc => ?_) <;> ((try simp only [decide_eq_true_eq, decide_eq_false_iff_not, beq_iff_eq, beq_eq_false_iff_ne, bne_iff_ne, bne_eq_false_iff_eq, Bool.not_eq_true', Bool.not_eq_false', Bool.not_eq_true, Bool.not_eq_false] at hc) <;> first | (first | (exact absurd rfl hc) | (exfalso; omega) | (exact absurd (hc.symm.trans (by assumption : _ = false)) (by decide)) | (exact absurd (hc.symm.trans (by assumption : _ = true)) (by decide))) | skip)) | (refine JC.drawA [] (by kernel_rfl) (by kernel_rfl) ?_) | refine drawK.nn ?_ | refine roundK.nn ?_ | refine roundK.r ?_ | refine roundK.x ?_ | refine loopK.r ?_ | refine loopK.x ?_)
    | fail
  refine ret1f rfl rfl rfl (fun w1 hw => ⟨_, _, rfl, hw, r, gs2, aL2, capL2, hl2, hI2, rfl, o2, st2, rfl, r0, r1, by omega, by omega, fun s t h0 h1 => by rw [hold s t h0 (by omega), val_left s gs _ t h0 h1], fun s => ?_⟩)
  rw [hval, val_last, val_left s gs _ yes hy.1 hy.2, val_left s gs _ no hn.1 hn.2]
  simp [valueP]
end Go.Proofs.YtdiciemlbhkilaaDoor
