/- ObddWide: functions of many variables: an odd number of them is true, and all of them are: the law returns true. -/
import Derived.Test.YtbhgahjeocnfcaaWdF
namespace Go.Proofs.Ytbhgahjeocnfcaa
open Go Go.Cx
set_option linter.unusedVariables false
set_option linter.unusedSimpArgs false
def iteF (n : Nat) (ns : List N3) (x : T3) : (Nat → Bool) → Bool := fun α => if fn n ns x.a α then fn n ns x.b α else fn n ns x.c α
theorem iteF_ext {n : Nat} {ns ms : List N3} (w : WF n ns) (e : Ext ns ms) {x : T3} (hx : x.lt ns.length) : iteF n ms x = iteF n ns x := by
  funext α
  unfold iteF
  rw [fn_ext w e hx.1, fn_ext w e hx.2.1, fn_ext w e hx.2.2]
theorem part_up {n : Nat} {ns : List N3} (w : WF n ns) {a k : Nat} (b : Bool) (ha : a < ns.length) (hk : k < n) (hp : k ≤ (nd ns a).p) (α : Nat → Bool) : fn n ns (partN ns a k b) α = fn n ns a (up α k b) := by
  have h := part_fn w (up α k b) ha hk
  rw [up_eq] at h
  rw [← h, fn_up w α b (part_lt w b ha hk) (part_p w b ha hk hp)]
theorem iteF_part {n : Nat} {ns : List N3} (w : WF n ns) {x : T3} {k : Nat} (b : Bool) (hx : x.lt ns.length) (hk : k < n) (hf : x.from ns k) : iteF n ns (partT ns x k b) = fun α => iteF n ns x (up α k b) := by
  funext α
  unfold iteF partT
  dsimp only
  rw [part_up w b hx.1 hk hf.1, part_up w b hx.2.1 hk hf.2.1, part_up w b hx.2.2 hk hf.2.2]
theorem iteF_dep {n : Nat} {ns : List N3} (w : WF n ns) {x : T3} {k : Nat} (hx : x.lt ns.length) (hf : x.from ns k) {j : Nat} (hj : j < k) (b : Bool) (α : Nat → Bool) : iteF n ns x (up α j b) = iteF n ns x α := by
  unfold iteF
  rw [fn_up w α b hx.1 (Nat.lt_of_lt_of_le hj hf.1), fn_up w α b hx.2.1 (Nat.lt_of_lt_of_le hj hf.2.1), fn_up w α b hx.2.2 (Nat.lt_of_lt_of_le hj hf.2.2)]
def Cst (f : (Nat → Bool) → Bool) : Prop := ∀ α β, f α = f β
structure Lev (n : Nat) (Φ : Nat → List ((Nat → Bool) → Bool)) (c : Nat) : Prop where
  dep : ∀ j f, f ∈ Φ j → ∀ k b α, k < j → f (up α k b) = f α
  step : ∀ j f b, j < n → f ∈ Φ j → Cst (fun α => f (up α j b)) ∨ ∃ i, j < i ∧ i ≤ n ∧ (fun α => f (up α j b)) ∈ Φ i
  sz : ((List.range (n + 1)).flatMap Φ).length ≤ c
def InL (n : Nat) (Φ : Nat → List ((Nat → Bool) → Bool)) (k : Nat) (f : (Nat → Bool) → Bool) : Prop := Cst f ∨ ∃ j, k ≤ j ∧ j ≤ n ∧ f ∈ Φ j
theorem InL.step {n c : Nat} {Φ : Nat → List ((Nat → Bool) → Bool)} (v : Lev n Φ c) {k : Nat} {f : (Nat → Bool) → Bool} (hk : k < n) (b : Bool) (h : InL n Φ k f) : InL n Φ (k + 1) (fun α => f (up α k b)) := by
  rcases h with h | ⟨j, h1, h2, h3⟩
  · exact .inl fun α β => h _ _
  · rcases Nat.lt_or_ge k j with hlt | hge
    · have e : (fun α => f (up α k b)) = f := funext fun α => v.dep j f h3 k b α hlt
      rw [e]
      exact .inr ⟨j, hlt, h2, h3⟩
    · obtain rfl : j = k := by omega
      rcases v.step j f b hk h3 with g | ⟨i, g1, g2, g3⟩
      · exact .inl g
      · exact .inr ⟨i, g1, g2, g3⟩
theorem InL.skip {n c : Nat} {Φ : Nat → List ((Nat → Bool) → Bool)} (v : Lev n Φ c) {f : (Nat → Bool) → Bool} : ∀ (m k : Nat), k + m ≤ n → (∀ j, j < k + m → ∀ b α, f (up α j b) = f α) → InL n Φ k f → InL n Φ (k + m) f
  | 0, _, _, _, h => h
  | m + 1, k, hn, hd, h => by
    have e : (fun α => f (up α k false)) = f := funext fun α => hd k (by omega) false α
    have := InL.step v (by omega) false h
    rw [e] at this
    have := InL.skip v m (k + 1) (by omega) (fun j hj => hd j (by omega)) this
    rwa [show k + 1 + m = k + (m + 1) by omega] at this
def InG (n : Nat) (Φ : Nat → List ((Nat → Bool) → Bool)) (ns : List N3) (s0 : Nat) : Prop := ∀ j, s0 ≤ j → j < ns.length → InL n Φ 0 (fn n ns j)
theorem nodup_le {α : Type} : ∀ (l m : List α), l.Nodup → (∀ x ∈ l, x ∈ m) → l.length ≤ m.length
  | [], m, _, _ => Nat.zero_le _
  | x :: l, m, hn, hs => by
    obtain ⟨h1, h2⟩ := List.nodup_cons.1 hn
    obtain ⟨a, b, rfl⟩ := List.append_of_mem (hs x List.mem_cons_self)
    have := nodup_le l (a ++ b) h2 fun y hy => by
      have := hs y (List.mem_cons_of_mem _ hy)
      rcases List.mem_append.1 this with g | g
      · exact List.mem_append_left _ g
      · rcases List.mem_cons.1 g with rfl | g
        · exact absurd hy h1
        · exact List.mem_append_right _ g
    rw [List.length_append] at this
    rw [List.length_append, List.length_cons, List.length_cons]
    omega
theorem fn_noncst {n : Nat} {ns : List N3} (w : WF n ns) {j : Nat} (h2 : 2 ≤ j) (hj : j < ns.length) : ¬ Cst (fn n ns j) := fun h => by
  have two := w.two
  cases hb : fn n ns j (fun _ => false) with
  | false =>
    have := w.eq hj (show 0 < ns.length by omega) fun α => by rw [h α (fun _ => false), hb, fn_0 w]
    omega
  | true =>
    have := w.eq hj (show 1 < ns.length by omega) fun α => by rw [h α (fun _ => false), hb, fn_1 w]
    omega
theorem InG.len {n c : Nat} {Φ : Nat → List ((Nat → Bool) → Bool)} (v : Lev n Φ c) {ns : List N3} (w : WF n ns) {s0 : Nat} (h2 : 2 ≤ s0) (h : InG n Φ ns s0) : ns.length ≤ s0 + c := by
  rcases Nat.lt_or_ge ns.length s0 with hlt | hge
  · omega
  · have hn : ((List.range (ns.length - s0)).map fun i => fn n ns (s0 + i)).Nodup := by
      rw [List.Nodup, List.pairwise_map]
      refine List.Pairwise.imp_of_mem (fun {a b} ha hb hab e => hab ?_) (List.nodup_range (n := ns.length - s0))
      rw [List.mem_range] at ha hb
      have := w.eq (i := s0 + a) (j := s0 + b) (by omega) (by omega) fun α => congrFun e α
      omega
    have hs : ∀ x ∈ ((List.range (ns.length - s0)).map fun i => fn n ns (s0 + i)), x ∈ (List.range (n + 1)).flatMap Φ := fun x hx => by
      obtain ⟨i, hi, rfl⟩ := List.mem_map.1 hx
      rw [List.mem_range] at hi
      rcases h (s0 + i) (by omega) (by omega) with g | ⟨j, _, g2, g3⟩
      · exact absurd g (fn_noncst w (by omega) (by omega))
      · exact List.mem_flatMap.2 ⟨j, List.mem_range.2 (by omega), g3⟩
    have := nodup_le _ _ hn hs
    have hsz := v.sz
    rw [List.length_map, List.length_range] at this
    omega
theorem InG.start (n : Nat) (Φ : Nat → List ((Nat → Bool) → Bool)) (ns : List N3) : InG n Φ ns ns.length := fun j h1 h2 => by omega
theorem InG.ext {n : Nat} {Φ : Nat → List ((Nat → Bool) → Bool)} {ns ms : List N3} (w : WF n ns) (e : Ext ns ms) {s0 y : Nat} (h : InG n Φ ns s0) (hn : ms.length = ns.length ∨ (y = ns.length ∧ ms.length ≤ ns.length + 1)) (hy : InL n Φ 0 (fn n ms y)) : InG n Φ ms s0 := fun j h1 h2 => by
  rcases Nat.lt_or_ge j ns.length with g | g
  · have : fn n ms j = fn n ns j := funext fun α => fn_ext w e g α
    rw [this]
    exact h j h1 g
  · rcases hn with hn | ⟨rfl, hn⟩
    · omega
    · obtain rfl : j = ns.length := by omega
      exact hy
end Go.Proofs.Ytbhgahjeocnfcaa
namespace Go.Proofs.Ytbhgahjeocnfcaa
open Go Go.Cx Go.RowKit
set_option linter.unusedVariables false
set_option linter.unusedSimpArgs false
set_option maxHeartbeats 4000000
attribute [local irreducible] J JC thenK blockK loopK drawK retK QW Qt pel List.set Calls
open Go.Maps
set_option maxRecDepth 8000
attribute [local irreducible] JE Br eK0 eK3 brK
theorem chL_any (n : Nat) (K : KS) (b c1 c2 : Nat) {c s0 : Nat} {Φ : Nat → List ((Nat → Bool) → Bool)} (lv : Lev n Φ c) (h20 : 2 ≤ s0) (hc : s0 + c < 1048576) : ∀ (m k : Nat) (s : SS) (x : T3), n - k = m → SOk n K s → x.lt s.ns.length → x.from s.ns k → s0 ≤ s.ns.length → InG n Φ s.ns s0 → InL n Φ k (iteF n s.ns x) →
    ∀ {w0 w : World} {R : Heap} {L : List Heap}, H w0 R (sF K b s ++ L) w → Rd R L c1 (ptrS b) → Rd R L c2 (fnC c1 c2) →
    Calls Try.prog 116 #[ekT x, .pointer (some ⟨c1, 0, none⟩), .pointer (some ⟨c2, 0, none⟩)] w fun e w' => ∃ v L', e = .returned v ∧ H w0 R L' w' ∧ ∃ s' y, v = .int .i64 ((y : Nat) : Int) ∧ L' = sF K b s' ++ L ∧ Adds n K s s' 1048576 y ∧ Ite n s'.ns x y ∧ InG n Φ s'.ns s0 := by
  intro m
  induction m using Nat.strongRecOn with
  | ind m ih =>
  intro k s x hm so hx hf hs0 hin hG w0 w R L hw r1 r2
  have n8 := so.n8
  have hno := so.no
  have sm := so.sm
  have hwf := so.wf
  have hx1 := hx.1
  have hx2 := hx.2.1
  have hx3 := hx.2.2
  have two := hwf.two
  have adz : ∀ y, y < s.ns.length → Adds n K s s 1048576 y := fun y hy => ⟨so, Ext.refl _, by omega, hy⟩
  by_cases hA : x.a = 1 ∨ x.b = x.c
  · unfold sF at hw
    simp only [List.cons_append, List.nil_append] at hw
    rcases hA with hA1 | hA1
    all_goals
      refine calls_in Try.func116 Try.ntmps116 rfl rfl (hw) ?_
      unfold stO ekT
      repeat' first
        | (refine J.isJ ?_; first | (first | (refine J.o 0 ?_; refine J.ev' hΓ ?_) | refine J.nil ?_ | refine J.kd ?_ | (refine J.o 4 ?_; first | refine J.lT default hΓ ?_ | refine J.lR hΓ ?_) | (refine J.o 3 ?_; first | refine J.iA hΓ ?_ | refine J.iJ hΓ ?_ | refine J.fP hΓ ?_ | refine J.ev' hΓ ?_) | (refine J.o 1 ?_; first | refine J.ad ?_) | (refine J.o 5 ?_; first | refine J.t0 hΓ ?_ | refine J.t1 hΓ ?_) | (refine J.o 6 ?_; refine J.bx (fun _ => ?_)) | (refine J.o 7 ?_; refine J.al hΓ (fun _ => ?_)) | (refine J.o 10 ?_; refine J.ev' hΓ ?_) | (refine J.o 11 ?_; refine J.ev' hΓ ?_)) | ((fail_if_success refine J.wt ?_); refine J.gc rfl rfl (fun hc => ?_) (fun hc => ?_) <;> ((try simp only [decide_eq_true_eq, decide_eq_false_iff_not, beq_iff_eq, beq_eq_false_iff_ne, bne_iff_ne, bne_eq_false_iff_eq, Bool.not_eq_true', Bool.not_eq_false', Bool.not_eq_true, Bool.not_eq_false] at hc) <;> first | (first | (exact absurd rfl hc) | (exfalso; omega) | (exact absurd (hc.symm.trans (by assumption : _ = false)) (by decide)) | (exact absurd (hc.symm.trans (by assumption : _ = true)) (by decide))) | skip)))
        | (first | refine JC.seq ?_ | refine JC.region ?_ | refine JC.block ?_ | refine JC.ret ?_ | refine JC.exit ?_ | refine JC.skip ?_ | refine thenK.nn ?_ | refine thenK.r ?_ | refine thenK.x ?_ | refine blockK.nn ?_ | refine blockK.r ?_ | refine blockK.hit rfl ?_ | refine JC.condT rfl ?_ | refine JC.condF rfl ?_ | (refine JC.cond rfl (fun hc => ?_) (fun hc => ?_) <;> ((try simp only [decide_eq_true_eq, decide_eq_false_iff_not, beq_iff_eq, beq_eq_false_iff_ne, bne_iff_ne, bne_eq_false_iff_eq, Bool.not_eq_true', Bool.not_eq_false', Bool.not_eq_true, Bool.not_eq_false] at hc) <;> first | (first | (exact absurd rfl hc) | (exfalso; omega) | (exact absurd (hc.symm.trans (by assumption : _ = false)) (by decide)) | (exact absurd (hc.symm.trans (by assumption : _ = true)) (by decide))) | skip)) | refine drawK.nn ?_ | refine loopK.x ?_)
        | (fail)
        | fail
      all_goals first | (exfalso; omega) | skip
      all_goals (refine ret1f rfl rfl rfl (fun w1 hw => ⟨_, _, rfl, hw.drop, s, x.b, rfl, rfl, adz _ hx2, Ite.t1 hwf hx ?_, hin⟩))
      all_goals first | exact .inl hA1 | exact .inr hA1
  by_cases hB : x.a = 0
  · unfold sF at hw
    simp only [List.cons_append, List.nil_append] at hw
    refine calls_in Try.func116 Try.ntmps116 rfl rfl (hw) ?_
    unfold stO ekT
    repeat' first
      | (refine J.isJ ?_; first | (first | (refine J.o 0 ?_; refine J.ev' hΓ ?_) | refine J.nil ?_ | refine J.kd ?_ | (refine J.o 4 ?_; first | refine J.lT default hΓ ?_ | refine J.lR hΓ ?_) | (refine J.o 3 ?_; first | refine J.iA hΓ ?_ | refine J.iJ hΓ ?_ | refine J.fP hΓ ?_ | refine J.ev' hΓ ?_) | (refine J.o 1 ?_; first | refine J.ad ?_) | (refine J.o 5 ?_; first | refine J.t0 hΓ ?_ | refine J.t1 hΓ ?_) | (refine J.o 6 ?_; refine J.bx (fun _ => ?_)) | (refine J.o 7 ?_; refine J.al hΓ (fun _ => ?_)) | (refine J.o 10 ?_; refine J.ev' hΓ ?_) | (refine J.o 11 ?_; refine J.ev' hΓ ?_)) | ((fail_if_success refine J.wt ?_); refine J.gc rfl rfl (fun hc => ?_) (fun hc => ?_) <;> ((try simp only [decide_eq_true_eq, decide_eq_false_iff_not, beq_iff_eq, beq_eq_false_iff_ne, bne_iff_ne, bne_eq_false_iff_eq, Bool.not_eq_true', Bool.not_eq_false', Bool.not_eq_true, Bool.not_eq_false] at hc) <;> first | (first | (exact absurd rfl hc) | (exfalso; omega) | (exact absurd (hc.symm.trans (by assumption : _ = false)) (by decide)) | (exact absurd (hc.symm.trans (by assumption : _ = true)) (by decide))) | skip)))
      | (first | refine JC.seq ?_ | refine JC.region ?_ | refine JC.block ?_ | refine JC.ret ?_ | refine JC.exit ?_ | refine JC.skip ?_ | refine thenK.nn ?_ | refine thenK.r ?_ | refine thenK.x ?_ | refine blockK.nn ?_ | refine blockK.r ?_ | refine blockK.hit rfl ?_ | refine JC.condT rfl ?_ | refine JC.condF rfl ?_ | (refine JC.cond rfl (fun hc => ?_) (fun hc => ?_) <;> ((try simp only [decide_eq_true_eq, decide_eq_false_iff_not, beq_iff_eq, beq_eq_false_iff_ne, bne_iff_ne, bne_eq_false_iff_eq, Bool.not_eq_true', Bool.not_eq_false', Bool.not_eq_true, Bool.not_eq_false] at hc) <;> first | (first | (exact absurd rfl hc) | (exfalso; omega) | (exact absurd (hc.symm.trans (by assumption : _ = false)) (by decide)) | (exact absurd (hc.symm.trans (by assumption : _ = true)) (by decide))) | skip)) | refine drawK.nn ?_ | refine loopK.x ?_)
      | (fail)
      | fail
    all_goals first | (exfalso; omega) | skip
    all_goals (refine ret1f rfl rfl rfl (fun w1 hw => ⟨_, _, rfl, hw.drop, s, x.c, rfl, rfl, adz _ hx3, Ite.t2 hwf hx hB, hin⟩))
  by_cases hC : x.b = 1 ∧ x.c = 0
  · unfold sF at hw
    simp only [List.cons_append, List.nil_append] at hw
    refine calls_in Try.func116 Try.ntmps116 rfl rfl (hw) ?_
    unfold stO ekT
    repeat' first
      | (refine J.isJ ?_; first | (first | (refine J.o 0 ?_; refine J.ev' hΓ ?_) | refine J.nil ?_ | refine J.kd ?_ | (refine J.o 4 ?_; first | refine J.lT default hΓ ?_ | refine J.lR hΓ ?_) | (refine J.o 3 ?_; first | refine J.iA hΓ ?_ | refine J.iJ hΓ ?_ | refine J.fP hΓ ?_ | refine J.ev' hΓ ?_) | (refine J.o 1 ?_; first | refine J.ad ?_) | (refine J.o 5 ?_; first | refine J.t0 hΓ ?_ | refine J.t1 hΓ ?_) | (refine J.o 6 ?_; refine J.bx (fun _ => ?_)) | (refine J.o 7 ?_; refine J.al hΓ (fun _ => ?_)) | (refine J.o 10 ?_; refine J.ev' hΓ ?_) | (refine J.o 11 ?_; refine J.ev' hΓ ?_)) | ((fail_if_success refine J.wt ?_); refine J.gc rfl rfl (fun hc => ?_) (fun hc => ?_) <;> ((try simp only [decide_eq_true_eq, decide_eq_false_iff_not, beq_iff_eq, beq_eq_false_iff_ne, bne_iff_ne, bne_eq_false_iff_eq, Bool.not_eq_true', Bool.not_eq_false', Bool.not_eq_true, Bool.not_eq_false] at hc) <;> first | (first | (exact absurd rfl hc) | (exfalso; omega) | (exact absurd (hc.symm.trans (by assumption : _ = false)) (by decide)) | (exact absurd (hc.symm.trans (by assumption : _ = true)) (by decide))) | skip)))
      | (first | refine JC.seq ?_ | refine JC.region ?_ | refine JC.block ?_ | refine JC.ret ?_ | refine JC.exit ?_ | refine JC.skip ?_ | refine thenK.nn ?_ | refine thenK.r ?_ | refine thenK.x ?_ | refine blockK.nn ?_ | refine blockK.r ?_ | refine blockK.hit rfl ?_ | refine JC.condT rfl ?_ | refine JC.condF rfl ?_ | (refine JC.cond rfl (fun hc => ?_) (fun hc => ?_) <;> ((try simp only [decide_eq_true_eq, decide_eq_false_iff_not, beq_iff_eq, beq_eq_false_iff_ne, bne_iff_ne, bne_eq_false_iff_eq, Bool.not_eq_true', Bool.not_eq_false', Bool.not_eq_true, Bool.not_eq_false] at hc) <;> first | (first | (exact absurd rfl hc) | (exfalso; omega) | (exact absurd (hc.symm.trans (by assumption : _ = false)) (by decide)) | (exact absurd (hc.symm.trans (by assumption : _ = true)) (by decide))) | skip)) | refine drawK.nn ?_ | refine loopK.x ?_)
      | (fail)
      | fail
    all_goals first | (exfalso; omega) | skip
    all_goals (refine ret1f rfl rfl rfl (fun w1 hw => ⟨_, _, rfl, hw.drop, s, x.a, rfl, rfl, adz _ hx1, Ite.t3 hwf hx hC.1 hC.2, hin⟩))
  have hkey := kT_key x ⟨by omega, by omega, by omega⟩
  have mm := so.mm
  have rc1 := r1
  unfold ptrS at rc1
  cases hget : mget s.m x with
  | some y =>
    obtain ⟨_, hite⟩ := so.mo x y (mget_mem hget)
    unfold sF at hw
    simp only [List.cons_append, List.nil_append] at hw
    refine calls_in Try.func116 Try.ntmps116 rfl rfl (hw) ?_
    unfold stO ekT
    repeat' first
      | (refine J.isJ ?_; first | (first | (refine J.o 4 ?_; refine J.lR hΓ ?_ (hr := rc1.tl.tl.tl.tl.tl)) | (refine J.o 9 ?_; refine J.lk (a := x) kT ekT_inj mm (by first | exact RdH.hd | exact RdH.hd.tl | exact RdH.hd.tl.tl | exact RdH.hd.tl.tl.tl | exact RdH.hd.tl.tl.tl.tl | exact RdH.hd.tl.tl.tl.tl.tl | exact RdH.hd.tl.tl.tl.tl.tl.tl | exact RdH.hd.tl.tl.tl.tl.tl.tl.tl | exact RdH.old (fun _ hh => hh) | assumption) hkey hΓ ?_; rw [hget])) | (first | (refine J.o 0 ?_; refine J.ev' hΓ ?_) | refine J.nil ?_ | refine J.kd ?_ | (refine J.o 4 ?_; first | refine J.lT default hΓ ?_ | refine J.lR hΓ ?_) | (refine J.o 3 ?_; first | refine J.iA hΓ ?_ | refine J.iJ hΓ ?_ | refine J.fP hΓ ?_ | refine J.ev' hΓ ?_) | (refine J.o 1 ?_; first | refine J.ad ?_) | (refine J.o 5 ?_; first | refine J.t0 hΓ ?_ | refine J.t1 hΓ ?_) | (refine J.o 6 ?_; refine J.bx (fun _ => ?_)) | (refine J.o 7 ?_; refine J.al hΓ (fun _ => ?_)) | (refine J.o 10 ?_; refine J.ev' hΓ ?_) | (refine J.o 11 ?_; refine J.ev' hΓ ?_)) | ((fail_if_success refine J.wt ?_); refine J.gc rfl rfl (fun hc => ?_) (fun hc => ?_) <;> ((try simp only [decide_eq_true_eq, decide_eq_false_iff_not, beq_iff_eq, beq_eq_false_iff_ne, bne_iff_ne, bne_eq_false_iff_eq, Bool.not_eq_true', Bool.not_eq_false', Bool.not_eq_true, Bool.not_eq_false] at hc) <;> first | (first | (exact absurd rfl hc) | (exfalso; omega) | (exact absurd (hc.symm.trans (by assumption : _ = false)) (by decide)) | (exact absurd (hc.symm.trans (by assumption : _ = true)) (by decide))) | skip)))
      | (first | refine JC.seq ?_ | refine JC.region ?_ | refine JC.block ?_ | refine JC.ret ?_ | refine JC.exit ?_ | refine JC.skip ?_ | refine thenK.nn ?_ | refine thenK.r ?_ | refine thenK.x ?_ | refine blockK.nn ?_ | refine blockK.r ?_ | refine blockK.hit rfl ?_ | refine JC.condT rfl ?_ | refine JC.condF rfl ?_ | (refine JC.cond rfl (fun hc => ?_) (fun hc => ?_) <;> ((try simp only [decide_eq_true_eq, decide_eq_false_iff_not, beq_iff_eq, beq_eq_false_iff_ne, bne_iff_ne, bne_eq_false_iff_eq, Bool.not_eq_true', Bool.not_eq_false', Bool.not_eq_true, Bool.not_eq_false] at hc) <;> first | (first | (exact absurd rfl hc) | (exfalso; omega) | (exact absurd (hc.symm.trans (by assumption : _ = false)) (by decide)) | (exact absurd (hc.symm.trans (by assumption : _ = true)) (by decide))) | skip)) | refine drawK.nn ?_ | refine loopK.x ?_)
      | ((refine JC.drawO [(1,0),(0,1),(0,2),(1,3),(1,4),(1,5),(0,6),(0,7),(0,8),(0,9),(0,10)] (by kernel_rfl) (by kernel_rfl) ?_))
      | fail
    all_goals first | (exfalso; omega) | skip
    all_goals (refine ret1f rfl rfl rfl (fun w1 hw => ⟨_, _, rfl, hw.drop, s, y, rfl, rfl, adz _ hite.lt, hite, hin⟩))
  | none =>
    have ha2 : 2 ≤ x.a := by omega
    have hpa := hwf.pl _ ha2 hx1
    have hm3 : mnP n s.ns x 3 = min (min (min n (nd s.ns x.a).p) (nd s.ns x.b).p) (nd s.ns x.c).p := rfl
    have hp1 : mnP n s.ns x 3 < n := by rw [hm3]; omega
    have hp2 : k ≤ mnP n s.ns x 3 := by have := hf.1; have := hf.2.1; have := hf.2.2; have := hwf.ple hx1; rw [hm3]; omega
    have hpf : x.from s.ns (mnP n s.ns x 3) := ⟨by rw [hm3]; omega, by rw [hm3]; omega, by rw [hm3]; omega⟩
    have xl := fun b => partT_lt hwf b hx hp1
    have xf := fun b => partT_from hwf b hx hp1 hpf
    have rc2 := r2
    unfold fnC at rc2
    have ow := so.ow
    have hsl := ow.sl
    have hGp : InL n Φ (mnP n s.ns x 3) (iteF n s.ns x) := by
      have := InL.skip lv (mnP n s.ns x 3 - k) k (by omega) (fun j hj b α => iteF_dep hwf hx hpf (by omega) b α) hG
      rwa [show k + (mnP n s.ns x 3 - k) = mnP n s.ns x 3 by omega] at this
    have hGb : ∀ b, InL n Φ (mnP n s.ns x 3 + 1) (iteF n s.ns (partT s.ns x (mnP n s.ns x 3) b)) := fun b => by
      rw [iteF_part hwf b hx hp1 hpf]; exact InL.step lv hp1 b hGp
    have hG0 : InL n Φ 0 (iteF n s.ns x) := by
      rcases hG with g | ⟨j, _, g2, g3⟩
      · exact .inl g
      · exact .inr ⟨j, Nat.zero_le _, g2, g3⟩
    have cPart : ∀ w1 L1, H w0 R L1 w1 → Rd R L1 b (stO K s.an s.ns.length s.cn) → RdH R L1 s.hN → ∀ a hi, a < s.ns.length → Calls Try.prog 81 #[.pointer (some ⟨b, 0, none⟩), .int .i64 (a : Int), .int .i64 ((mnP n s.ns x 3 : Nat) : Int), .bool hi] w1 fun e w' => e = .returned (.int .i64 (partN s.ns a (mnP n s.ns x 3) hi : Int)) ∧ Below w1.heap.size w1 w' :=
      fun w1 L1 h1 rb rn a hi ha => part_any K b s.an s.cn s.ns ((b, stO K s.an s.ns.length s.cn) :: s.hN) (hsl.sub fun y hy => List.mem_cons_of_mem _ hy) List.mem_cons_self a _ hi ha w1 (holds2 (h1.rd rb) (h1.rdH rn))
    unfold sF at hw
    simp only [List.cons_append, List.nil_append] at hw
    rcases Nat.decEq x.b 1 with hb1 | hb1
    all_goals
      refine calls_in Try.func116 Try.ntmps116 rfl rfl (hw) ?_
      unfold stO ekT
      repeat' first
        | (refine J.isJ ?_; first | (first | (refine J.o 6 ?_; refine J.bx (fun b3 => ?_)) | (refine J.o 4 ?_; refine J.lR hΓ ?_ (hr := rc1.tl.tl.tl.tl.tl)) | (refine J.o 9 ?_; refine J.lk (a := x) kT ekT_inj mm (by first | exact RdH.hd | exact RdH.hd.tl | exact RdH.hd.tl.tl | exact RdH.hd.tl.tl.tl | exact RdH.hd.tl.tl.tl.tl | exact RdH.hd.tl.tl.tl.tl.tl | exact RdH.hd.tl.tl.tl.tl.tl.tl | exact RdH.hd.tl.tl.tl.tl.tl.tl.tl | exact RdH.old (fun _ hh => hh) | assumption) hkey hΓ ?_; rw [hget])) | (first | (refine J.o 0 ?_; refine J.ev' hΓ ?_) | refine J.nil ?_ | refine J.kd ?_ | (refine J.o 4 ?_; first | refine J.lT default hΓ ?_ | refine J.lR hΓ ?_) | (refine J.o 3 ?_; first | refine J.iA hΓ ?_ | refine J.iJ hΓ ?_ | refine J.fP hΓ ?_ | refine J.ev' hΓ ?_) | (refine J.o 1 ?_; first | refine J.ad ?_) | (refine J.o 5 ?_; first | refine J.t0 hΓ ?_ | refine J.t1 hΓ ?_) | (refine J.o 6 ?_; refine J.bx (fun _ => ?_)) | (refine J.o 7 ?_; refine J.al hΓ (fun _ => ?_)) | (refine J.o 10 ?_; refine J.ev' hΓ ?_) | (refine J.o 11 ?_; refine J.ev' hΓ ?_)) | ((fail_if_success refine J.wt ?_); refine J.gc rfl rfl (fun hc => ?_) (fun hc => ?_) <;> ((try simp only [decide_eq_true_eq, decide_eq_false_iff_not, beq_iff_eq, beq_eq_false_iff_ne, bne_iff_ne, bne_eq_false_iff_eq, Bool.not_eq_true', Bool.not_eq_false', Bool.not_eq_true, Bool.not_eq_false] at hc) <;> first | (first | (exact absurd rfl hc) | (exfalso; omega) | (exact absurd (hc.symm.trans (by assumption : _ = false)) (by decide)) | (exact absurd (hc.symm.trans (by assumption : _ = true)) (by decide))) | skip)))
        | (first | refine JC.seq ?_ | refine JC.region ?_ | refine JC.block ?_ | refine JC.ret ?_ | refine JC.exit ?_ | refine JC.skip ?_ | refine thenK.nn ?_ | refine thenK.r ?_ | refine thenK.x ?_ | refine blockK.nn ?_ | refine blockK.r ?_ | refine blockK.hit rfl ?_ | refine JC.condT rfl ?_ | refine JC.condF rfl ?_ | (refine JC.cond rfl (fun hc => ?_) (fun hc => ?_) <;> ((try simp only [decide_eq_true_eq, decide_eq_false_iff_not, beq_iff_eq, beq_eq_false_iff_ne, bne_iff_ne, bne_eq_false_iff_eq, Bool.not_eq_true', Bool.not_eq_false', Bool.not_eq_true, Bool.not_eq_false] at hc) <;> first | (first | (exact absurd rfl hc) | (exfalso; omega) | (exact absurd (hc.symm.trans (by assumption : _ = false)) (by decide)) | (exact absurd (hc.symm.trans (by assumption : _ = true)) (by decide))) | skip)) | refine drawK.nn ?_ | refine loopK.x ?_)
        | ((refine JC.drawO [(1,0),(0,1),(0,2),(1,3),(1,4),(1,5),(0,6),(0,7),(0,8),(0,9),(0,10)] (by kernel_rfl) (by kernel_rfl) ?_))
        | fail
      all_goals first | (exfalso; omega) | skip
      refine JC.loop (fun i => i == 7 || i == 9 || Nat.ble 63 i) (fun m g L' => ∃ q, g 63 = .int .i64 ((q : Nat) : Int) ∧ q + m = 3 ∧ g 7 = .int .i64 ((mnP n s.ns x q : Nat) : Int) ∧ L' = [(b3, Obj.cells ⟨[.int .i64 (x.a : Int), .int .i64 (x.b : Int), .int .i64 (x.c : Int)]⟩ 159 (0, 0))] :: [(b, stO K s.an s.ns.length s.cn)] :: s.hN :: s.hU :: s.hM :: L) 3 ⟨0, rfl, rfl, congrArg (fun z : Nat => Value.int .i64 (z : Int)) hno, rfl⟩ ?_
      rintro m1 g1 L' ⟨q, e63, hq, e7, rfl⟩
      refine JC.pin 63 e63 ?_
      refine JC.pin 7 e7 ?_
      unfold stO
      rcases (by omega : q = 3 ∨ q = 0 ∨ q = 1 ∨ q = 2) with rfl | rfl | rfl | rfl
      ·
        repeat' first
          | (refine J.isJ ?_; first | (first | (refine J.o 7 ?_; first | refine J.al hΓ (fun b10 => ?_))) | (first | (refine J.o 0 ?_; refine J.ev' hΓ ?_) | refine J.nil ?_ | refine J.kd ?_ | (refine J.o 4 ?_; first | refine J.lT default hΓ ?_ | refine J.lR hΓ ?_) | (refine J.o 3 ?_; first | refine J.iA hΓ ?_ | refine J.iJ hΓ ?_ | refine J.fP hΓ ?_ | refine J.ev' hΓ ?_) | (refine J.o 1 ?_; first | refine J.ad ?_) | (refine J.o 5 ?_; first | refine J.t0 hΓ ?_ | refine J.t1 hΓ ?_) | (refine J.o 6 ?_; refine J.bx (fun _ => ?_)) | (refine J.o 7 ?_; refine J.al hΓ (fun _ => ?_)) | (refine J.o 10 ?_; refine J.ev' hΓ ?_) | (refine J.o 11 ?_; refine J.ev' hΓ ?_)) | ((fail_if_success refine J.wt ?_); refine J.gc rfl rfl (fun hc => ?_) (fun hc => ?_) <;> ((try simp only [decide_eq_true_eq, decide_eq_false_iff_not, beq_iff_eq, beq_eq_false_iff_ne, bne_iff_ne, bne_eq_false_iff_eq, Bool.not_eq_true', Bool.not_eq_false', Bool.not_eq_true, Bool.not_eq_false] at hc) <;> first | (first | (exact absurd rfl hc) | (exfalso; omega) | (exact absurd (hc.symm.trans (by assumption : _ = false)) (by decide)) | (exact absurd (hc.symm.trans (by assumption : _ = true)) (by decide))) | skip)))
          | (first | refine JC.seq ?_ | refine JC.region ?_ | refine JC.block ?_ | refine JC.ret ?_ | refine JC.exit ?_ | refine JC.skip ?_ | refine thenK.nn ?_ | refine thenK.r ?_ | refine thenK.x ?_ | refine blockK.nn ?_ | refine blockK.r ?_ | refine blockK.hit rfl ?_ | refine JC.condT rfl ?_ | refine JC.condF rfl ?_ | (refine JC.cond rfl (fun hc => ?_) (fun hc => ?_) <;> ((try simp only [decide_eq_true_eq, decide_eq_false_iff_not, beq_iff_eq, beq_eq_false_iff_ne, bne_iff_ne, bne_eq_false_iff_eq, Bool.not_eq_true', Bool.not_eq_false', Bool.not_eq_true, Bool.not_eq_false] at hc) <;> first | (first | (exact absurd rfl hc) | (exfalso; omega) | (exact absurd (hc.symm.trans (by assumption : _ = false)) (by decide)) | (exact absurd (hc.symm.trans (by assumption : _ = true)) (by decide))) | skip)) | refine drawK.nn ?_ | refine loopK.x ?_)
          | (fail)
          | fail
        all_goals first | (exfalso; omega) | skip
        rename_i bl
        refine JC.loop (fun i => i == 12 || i == 13 || Nat.ble 78 i) (fun m g L' => ∃ q, g 78 = .int .i64 ((q : Nat) : Int) ∧ q + m = 3 ∧ L' = [(b10, Obj.cells ⟨pcs s.ns x (mnP n s.ns x 3) true q⟩ 159 (0, 0))] :: [(bl, Obj.cells ⟨pcs s.ns x (mnP n s.ns x 3) false q⟩ 159 (0, 0))] :: [(b3, Obj.cells ⟨[.int .i64 (x.a : Int), .int .i64 (x.b : Int), .int .i64 (x.c : Int)]⟩ 159 (0, 0))] :: [(b, stO K s.an s.ns.length s.cn)] :: s.hN :: s.hU :: s.hM :: L) 3 ⟨0, rfl, rfl, rfl⟩ ?_
        rintro m2 g2 L' ⟨q, e78, hq2, rfl⟩
        refine JC.pin 78 e78 ?_
        unfold stO
        rcases (by omega : q = 3 ∨ q = 0 ∨ q = 1 ∨ q = 2) with rfl | rfl | rfl | rfl
        all_goals simp only [pcs]
        ·
          repeat' first
            | (refine J.isJ ?_; first | (first | (refine J.o 4 ?_; first | refine J.lR hΓ ?_ (hr := rc1.tl.tl.tl.tl.tl.tl.tl) | refine J.lR hΓ ?_ (hr := rc2.tl.tl.tl.tl.tl.tl.tl))) | (first | (refine J.o 0 ?_; refine J.ev' hΓ ?_) | refine J.nil ?_ | refine J.kd ?_ | (refine J.o 4 ?_; first | refine J.lT default hΓ ?_ | refine J.lR hΓ ?_) | (refine J.o 3 ?_; first | refine J.iA hΓ ?_ | refine J.iJ hΓ ?_ | refine J.fP hΓ ?_ | refine J.ev' hΓ ?_) | (refine J.o 1 ?_; first | refine J.ad ?_) | (refine J.o 5 ?_; first | refine J.t0 hΓ ?_ | refine J.t1 hΓ ?_) | (refine J.o 6 ?_; refine J.bx (fun _ => ?_)) | (refine J.o 7 ?_; refine J.al hΓ (fun _ => ?_)) | (refine J.o 10 ?_; refine J.ev' hΓ ?_) | (refine J.o 11 ?_; refine J.ev' hΓ ?_)) | ((fail_if_success refine J.wt ?_); refine J.gc rfl rfl (fun hc => ?_) (fun hc => ?_) <;> ((try simp only [decide_eq_true_eq, decide_eq_false_iff_not, beq_iff_eq, beq_eq_false_iff_ne, bne_iff_ne, bne_eq_false_iff_eq, Bool.not_eq_true', Bool.not_eq_false', Bool.not_eq_true, Bool.not_eq_false] at hc) <;> first | (first | (exact absurd rfl hc) | (exfalso; omega) | (exact absurd (hc.symm.trans (by assumption : _ = false)) (by decide)) | (exact absurd (hc.symm.trans (by assumption : _ = true)) (by decide))) | skip)))
            | (first | refine JC.seq ?_ | refine JC.region ?_ | refine JC.block ?_ | refine JC.ret ?_ | refine JC.exit ?_ | refine JC.skip ?_ | refine thenK.nn ?_ | refine thenK.r ?_ | refine thenK.x ?_ | refine blockK.nn ?_ | refine blockK.r ?_ | refine blockK.hit rfl ?_ | refine JC.condT rfl ?_ | refine JC.condF rfl ?_ | (refine JC.cond rfl (fun hc => ?_) (fun hc => ?_) <;> ((try simp only [decide_eq_true_eq, decide_eq_false_iff_not, beq_iff_eq, beq_eq_false_iff_ne, bne_iff_ne, bne_eq_false_iff_eq, Bool.not_eq_true', Bool.not_eq_false', Bool.not_eq_true, Bool.not_eq_false] at hc) <;> first | (first | (exact absurd rfl hc) | (exfalso; omega) | (exact absurd (hc.symm.trans (by assumption : _ = false)) (by decide)) | (exact absurd (hc.symm.trans (by assumption : _ = true)) (by decide))) | skip)) | refine drawK.nn ?_ | refine loopK.x ?_)
            | ((first | refine JC.drawO [(1,0),(0,1),(0,2),(1,3),(1,4),(2,5),(0,6),(2,7),(0,8)] (by decide +kernel) (by decide +kernel) ?_ | refine JC.drawO [(1,0),(0,1),(0,2),(1,3),(1,4),(0,5),(2,6)] (by decide +kernel) (by decide +kernel) ?_))
            | fail
          refine J.isJ ?_
          refine J.o 9 ?_
          refine J.callvx eChC rfl rfl rfl (fun w hw => ih (n - (mnP n s.ns x 3 + 1)) (by omega) _ s (partT s.ns x (mnP n s.ns x 3) false) rfl so (xl _) (xf _) hs0 hin (hGb _) (H.sel (l := [_, _, _, _, _, _, _]) (M := L) hw [3, 4, 5, 6, 0, 1, 2]) r1.tl.tl.tl r2.tl.tl.tl) ?_
          rintro _ _ ⟨s1, y1, rfl, rfl, ad1, it1, in1⟩
          have hG1 := iteF_ext hwf ad1.ext (xl true)
          have hs1 := ad1.ext.le
          unfold sF stO
          simp only [List.cons_append, List.nil_append]
          repeat' first
            | (refine J.isJ ?_; first | (fail) | (first | (refine J.o 0 ?_; refine J.ev' hΓ ?_) | refine J.nil ?_ | refine J.kd ?_ | (refine J.o 4 ?_; first | refine J.lT default hΓ ?_ | refine J.lR hΓ ?_) | (refine J.o 3 ?_; first | refine J.iA hΓ ?_ | refine J.iJ hΓ ?_ | refine J.fP hΓ ?_ | refine J.ev' hΓ ?_) | (refine J.o 1 ?_; first | refine J.ad ?_) | (refine J.o 5 ?_; first | refine J.t0 hΓ ?_ | refine J.t1 hΓ ?_) | (refine J.o 6 ?_; refine J.bx (fun _ => ?_)) | (refine J.o 7 ?_; refine J.al hΓ (fun _ => ?_)) | (refine J.o 10 ?_; refine J.ev' hΓ ?_) | (refine J.o 11 ?_; refine J.ev' hΓ ?_)) | ((fail_if_success refine J.wt ?_); refine J.gc rfl rfl (fun hc => ?_) (fun hc => ?_) <;> ((try simp only [decide_eq_true_eq, decide_eq_false_iff_not, beq_iff_eq, beq_eq_false_iff_ne, bne_iff_ne, bne_eq_false_iff_eq, Bool.not_eq_true', Bool.not_eq_false', Bool.not_eq_true, Bool.not_eq_false] at hc) <;> first | (first | (exact absurd rfl hc) | (exfalso; omega) | (exact absurd (hc.symm.trans (by assumption : _ = false)) (by decide)) | (exact absurd (hc.symm.trans (by assumption : _ = true)) (by decide))) | skip)))
            | (first | refine JC.seq ?_ | refine JC.region ?_ | refine JC.block ?_ | refine JC.ret ?_ | refine JC.exit ?_ | refine JC.skip ?_ | refine thenK.nn ?_ | refine thenK.r ?_ | refine thenK.x ?_ | refine blockK.nn ?_ | refine blockK.r ?_ | refine blockK.hit rfl ?_ | refine JC.condT rfl ?_ | refine JC.condF rfl ?_ | (refine JC.cond rfl (fun hc => ?_) (fun hc => ?_) <;> ((try simp only [decide_eq_true_eq, decide_eq_false_iff_not, beq_iff_eq, beq_eq_false_iff_ne, bne_iff_ne, bne_eq_false_iff_eq, Bool.not_eq_true', Bool.not_eq_false', Bool.not_eq_true, Bool.not_eq_false] at hc) <;> first | (first | (exact absurd rfl hc) | (exfalso; omega) | (exact absurd (hc.symm.trans (by assumption : _ = false)) (by decide)) | (exact absurd (hc.symm.trans (by assumption : _ = true)) (by decide))) | skip)) | refine drawK.nn ?_ | refine loopK.x ?_)
            | (fail)
            | fail
          refine JC.drawD ([(b10, Obj.cells ⟨[.int .i64 (partN s.ns x.a (mnP n s.ns x 3) true : Int), .int .i64 (partN s.ns x.b (mnP n s.ns x 3) true : Int), .int .i64 (partN s.ns x.c (mnP n s.ns x 3) true : Int)]⟩ 159 (0, 0))] :: L) [(4, 0), (0, 1), (0, 2), (4, 3), (4, 4), (3, 5), (0, 6), (2, 7), (0, 8)] (by kernel_rfl) (by kernel_rfl) ?_
          refine JD.ld hΓ (fun w hw => H.sel (l := [_, _, _, _, _, _, _]) (M := L) hw [4]) rc1.tl ?_
          refine JD.ev hΓ ?_
          refine JD.ev hΓ ?_
          refine JD.ld hΓ (fun w hw => H.sel (l := [_, _, _, _, _, _, _]) (M := L) hw [4]) rc2.tl ?_
          refine JD.ld hΓ (fun w hw => H.sel (l := [_, _, _, _, _, _, _]) (M := L) hw [4]) Rd.hd ?_
          refine JD.callvd eChC rfl rfl rfl (fun w hw => ih (n - (mnP n s.ns x 3 + 1)) (by omega) _ s1 (partT s.ns x (mnP n s.ns x 3) true) rfl ad1.ok ((xl _).ext ad1.ext) ((xf _).ext ad1.ext (xl _)) (by omega) in1 (by rw [hG1]; exact hGb _) hw r1.tl.tl.tl r2.tl.tl.tl) ?_
          rintro _ _ ⟨s2, y2, rfl, rfl, ad2, it2, in2⟩
          have hl2 := in2.len lv ad2.ok.wf h20
          have e12 := ad1.ext.trans ad2.ext
          have k1 := it1.from ad1.ok.wf ((xl _).ext ad1.ext) ((xf _).ext ad1.ext (xl _))
          rw [← ad2.ext.at_ y1 it1.lt] at k1
          have k2 := it2.from ad2.ok.wf ((xl _).ext e12) ((xf _).ext e12 (xl _))
          have y1l : y1 < s2.ns.length := Nat.lt_of_lt_of_le it1.lt ad2.ext.le
          refine ⟨fun w hw => H.sel (l := [_, _, _, _, _, _, _]) (M := L) hw [4], ?_⟩
          refine JD.bd hΓ ?_
          refine JD.callvx eAdd rfl rfl rfl (fun w hw => add_new ad2.ok ⟨mnP n s.ns x 3, y1, y2⟩ hp1 y1l it2.lt k1 k2 (by omega) hw) ?_
          rintro _ _ ⟨s3, y3, rfl, rfl, ad3, fn3, hnw⟩
          have l3 := ad3.le
          have e23 := ad2.ext.trans ad3.ext
          have e13 := e12.trans ad3.ext
          have so3 := ad3.ok
          have hite : Ite n s3.ns x y3 := Ite.join so3.wf (hx.ext e13) hp1 (by rw [partT_ext e13 _ hx]; exact it1.ext ad1.ok.wf e23 ((xl _).ext ad1.ext)) (by rw [partT_ext e13 _ hx]; exact it2.ext ad2.ok.wf ad3.ext ((xl _).ext e12)) ad3.lt fn3
          have in3 : InG n Φ s3.ns s0 := in2.ext ad2.ok.wf ad3.ext (hnw.imp id fun g => ⟨g, l3⟩) (by
            have e : fn n s3.ns y3 = iteF n s.ns x := by rw [← iteF_ext hwf e13 hx]; exact funext fun α => hite.eq α
            rw [e]; exact hG0)
          have sm3 := so3.sm
          have mm3 := so3.mm
          refine JD.ev hΓ ?_
          refine JD.nil ?_
          unfold sF stO
          simp only [List.cons_append, List.nil_append]
          repeat' first
            | (refine J.isJ ?_; first | (first | (refine J.o 4 ?_; first | refine J.lR hΓ ?_ (hr := rc1.tl.tl.tl.tl.tl.tl.tl) | refine J.lR hΓ ?_ (hr := Rd.hd.tl.tl.tl.tl.tl.tl)) | (refine J.o 9 ?_; refine J.perm br3 ?_; refine J.mup (a := x) (ev := evI) y3 kT ekT_inj mm3 hkey hΓ (fun h4 mt4 => ?_))) | (first | (refine J.o 0 ?_; refine J.ev' hΓ ?_) | refine J.nil ?_ | refine J.kd ?_ | (refine J.o 4 ?_; first | refine J.lT default hΓ ?_ | refine J.lR hΓ ?_) | (refine J.o 3 ?_; first | refine J.iA hΓ ?_ | refine J.iJ hΓ ?_ | refine J.fP hΓ ?_ | refine J.ev' hΓ ?_) | (refine J.o 1 ?_; first | refine J.ad ?_) | (refine J.o 5 ?_; first | refine J.t0 hΓ ?_ | refine J.t1 hΓ ?_) | (refine J.o 6 ?_; refine J.bx (fun _ => ?_)) | (refine J.o 7 ?_; refine J.al hΓ (fun _ => ?_)) | (refine J.o 10 ?_; refine J.ev' hΓ ?_) | (refine J.o 11 ?_; refine J.ev' hΓ ?_)) | ((fail_if_success refine J.wt ?_); refine J.gc rfl rfl (fun hc => ?_) (fun hc => ?_) <;> ((try simp only [decide_eq_true_eq, decide_eq_false_iff_not, beq_iff_eq, beq_eq_false_iff_ne, bne_iff_ne, bne_eq_false_iff_eq, Bool.not_eq_true', Bool.not_eq_false', Bool.not_eq_true, Bool.not_eq_false] at hc) <;> first | (first | (exact absurd rfl hc) | (exfalso; omega) | (exact absurd (hc.symm.trans (by assumption : _ = false)) (by decide)) | (exact absurd (hc.symm.trans (by assumption : _ = true)) (by decide))) | skip)))
            | (first | refine JC.seq ?_ | refine JC.region ?_ | refine JC.block ?_ | refine JC.ret ?_ | refine JC.exit ?_ | refine JC.skip ?_ | refine thenK.nn ?_ | refine thenK.r ?_ | refine thenK.x ?_ | refine blockK.nn ?_ | refine blockK.r ?_ | refine blockK.hit rfl ?_ | refine JC.condT rfl ?_ | refine JC.condF rfl ?_ | (refine JC.cond rfl (fun hc => ?_) (fun hc => ?_) <;> ((try simp only [decide_eq_true_eq, decide_eq_false_iff_not, beq_iff_eq, beq_eq_false_iff_ne, bne_iff_ne, bne_eq_false_iff_eq, Bool.not_eq_true', Bool.not_eq_false', Bool.not_eq_true, Bool.not_eq_false] at hc) <;> first | (first | (exact absurd rfl hc) | (exfalso; omega) | (exact absurd (hc.symm.trans (by assumption : _ = false)) (by decide)) | (exact absurd (hc.symm.trans (by assumption : _ = true)) (by decide))) | skip)) | refine drawK.nn ?_ | refine loopK.x ?_)
            | ((refine JC.drawO [(1,0),(0,1),(0,2),(1,3),(1,4),(0,5),(2,6)] (by decide +kernel) (by decide +kernel) ?_))
            | fail
          all_goals first | (exfalso; omega) | skip
          refine ret1f rfl rfl rfl (fun w1 hw => ⟨_, _, rfl, H.sel (l := [_, _, _, _, _, _, _]) (M := L) hw [1, 2, 3, 0], ⟨s3.an, s3.cn, s3.ns, s3.hN, s3.u, s3.hU, mput s3.m x y3, h4⟩, y3, rfl, rfl, ⟨⟨so3.n8, so3.no, so3.wf, so3.sm, so3.ow, so3.um, so3.uk, mt4, so3.mo.put (hx.ext e13) hite⟩, e13, by show s3.ns.length ≤ _; omega, ad3.lt⟩, hite, in3⟩)
        ·
          repeat' first
            | (refine J.isJ ?_; first | (first | (refine J.o 12 ?_; refine J.xI hΓ ?_) | (refine J.o 4 ?_; first | refine J.lR hΓ ?_ (hr := rc1.tl.tl.tl.tl.tl.tl.tl)) | (refine J.fc 81 ?_; refine J.call0 ePart rfl rfl (fun w hw => cPart w _ hw Rd.hd.tl.tl.tl RdH.hd.tl.tl.tl.tl x.a false hx1) ?_) | (refine J.fc 81 ?_; refine J.call0 ePart rfl rfl (fun w hw => cPart w _ hw Rd.hd.tl.tl.tl RdH.hd.tl.tl.tl.tl x.a true hx1) ?_)) | (first | (refine J.o 0 ?_; refine J.ev' hΓ ?_) | refine J.nil ?_ | refine J.kd ?_ | (refine J.o 4 ?_; first | refine J.lT default hΓ ?_ | refine J.lR hΓ ?_) | (refine J.o 3 ?_; first | refine J.iA hΓ ?_ | refine J.iJ hΓ ?_ | refine J.fP hΓ ?_ | refine J.ev' hΓ ?_) | (refine J.o 1 ?_; first | refine J.ad ?_) | (refine J.o 5 ?_; first | refine J.t0 hΓ ?_ | refine J.t1 hΓ ?_) | (refine J.o 6 ?_; refine J.bx (fun _ => ?_)) | (refine J.o 7 ?_; refine J.al hΓ (fun _ => ?_)) | (refine J.o 10 ?_; refine J.ev' hΓ ?_) | (refine J.o 11 ?_; refine J.ev' hΓ ?_)) | ((fail_if_success refine J.wt ?_); refine J.gc rfl rfl (fun hc => ?_) (fun hc => ?_) <;> ((try simp only [decide_eq_true_eq, decide_eq_false_iff_not, beq_iff_eq, beq_eq_false_iff_ne, bne_iff_ne, bne_eq_false_iff_eq, Bool.not_eq_true', Bool.not_eq_false', Bool.not_eq_true, Bool.not_eq_false] at hc) <;> first | (first | (exact absurd rfl hc) | (exfalso; omega) | (exact absurd (hc.symm.trans (by assumption : _ = false)) (by decide)) | (exact absurd (hc.symm.trans (by assumption : _ = true)) (by decide))) | skip)))
            | (first | refine JC.seq ?_ | refine JC.region ?_ | refine JC.block ?_ | refine JC.ret ?_ | refine JC.exit ?_ | refine JC.skip ?_ | refine thenK.nn ?_ | refine thenK.r ?_ | refine thenK.x ?_ | refine blockK.nn ?_ | refine blockK.r ?_ | refine blockK.hit rfl ?_ | refine JC.condT rfl ?_ | refine JC.condF rfl ?_ | (refine JC.cond rfl (fun hc => ?_) (fun hc => ?_) <;> ((try simp only [decide_eq_true_eq, decide_eq_false_iff_not, beq_iff_eq, beq_eq_false_iff_ne, bne_iff_ne, bne_eq_false_iff_eq, Bool.not_eq_true', Bool.not_eq_false', Bool.not_eq_true, Bool.not_eq_false] at hc) <;> first | (first | (exact absurd rfl hc) | (exfalso; omega) | (exact absurd (hc.symm.trans (by assumption : _ = false)) (by decide)) | (exact absurd (hc.symm.trans (by assumption : _ = true)) (by decide))) | skip)) | refine drawK.nn ?_ | refine loopK.x ?_)
            | ((refine JC.drawO [(0,0),(0,1),(1,2),(0,3),(0,4),(1,6),(0,7),(0,8),(1,5),(0,10),(1,9),(2,11),(0,12),(2,13)] (by kernel_rfl) (by kernel_rfl) ?_))
            | fail
          all_goals first | (exfalso; omega) | skip
          refine loopK.nn (m2 - 1) (by omega) (by repeat (first | refine Ag.upd rfl ?_ | exact Ag.hv)) ⟨1, rfl, by omega, rfl⟩
        ·
          repeat' first
            | (refine J.isJ ?_; first | (first | (refine J.o 12 ?_; refine J.xI hΓ ?_) | (refine J.o 4 ?_; first | refine J.lR hΓ ?_ (hr := rc1.tl.tl.tl.tl.tl.tl.tl)) | (refine J.fc 81 ?_; refine J.call0 ePart rfl rfl (fun w hw => cPart w _ hw Rd.hd.tl.tl.tl RdH.hd.tl.tl.tl.tl x.b false hx2) ?_) | (refine J.fc 81 ?_; refine J.call0 ePart rfl rfl (fun w hw => cPart w _ hw Rd.hd.tl.tl.tl RdH.hd.tl.tl.tl.tl x.b true hx2) ?_)) | (first | (refine J.o 0 ?_; refine J.ev' hΓ ?_) | refine J.nil ?_ | refine J.kd ?_ | (refine J.o 4 ?_; first | refine J.lT default hΓ ?_ | refine J.lR hΓ ?_) | (refine J.o 3 ?_; first | refine J.iA hΓ ?_ | refine J.iJ hΓ ?_ | refine J.fP hΓ ?_ | refine J.ev' hΓ ?_) | (refine J.o 1 ?_; first | refine J.ad ?_) | (refine J.o 5 ?_; first | refine J.t0 hΓ ?_ | refine J.t1 hΓ ?_) | (refine J.o 6 ?_; refine J.bx (fun _ => ?_)) | (refine J.o 7 ?_; refine J.al hΓ (fun _ => ?_)) | (refine J.o 10 ?_; refine J.ev' hΓ ?_) | (refine J.o 11 ?_; refine J.ev' hΓ ?_)) | ((fail_if_success refine J.wt ?_); refine J.gc rfl rfl (fun hc => ?_) (fun hc => ?_) <;> ((try simp only [decide_eq_true_eq, decide_eq_false_iff_not, beq_iff_eq, beq_eq_false_iff_ne, bne_iff_ne, bne_eq_false_iff_eq, Bool.not_eq_true', Bool.not_eq_false', Bool.not_eq_true, Bool.not_eq_false] at hc) <;> first | (first | (exact absurd rfl hc) | (exfalso; omega) | (exact absurd (hc.symm.trans (by assumption : _ = false)) (by decide)) | (exact absurd (hc.symm.trans (by assumption : _ = true)) (by decide))) | skip)))
            | (first | refine JC.seq ?_ | refine JC.region ?_ | refine JC.block ?_ | refine JC.ret ?_ | refine JC.exit ?_ | refine JC.skip ?_ | refine thenK.nn ?_ | refine thenK.r ?_ | refine thenK.x ?_ | refine blockK.nn ?_ | refine blockK.r ?_ | refine blockK.hit rfl ?_ | refine JC.condT rfl ?_ | refine JC.condF rfl ?_ | (refine JC.cond rfl (fun hc => ?_) (fun hc => ?_) <;> ((try simp only [decide_eq_true_eq, decide_eq_false_iff_not, beq_iff_eq, beq_eq_false_iff_ne, bne_iff_ne, bne_eq_false_iff_eq, Bool.not_eq_true', Bool.not_eq_false', Bool.not_eq_true, Bool.not_eq_false] at hc) <;> first | (first | (exact absurd rfl hc) | (exfalso; omega) | (exact absurd (hc.symm.trans (by assumption : _ = false)) (by decide)) | (exact absurd (hc.symm.trans (by assumption : _ = true)) (by decide))) | skip)) | refine drawK.nn ?_ | refine loopK.x ?_)
            | ((refine JC.drawO [(0,0),(0,1),(1,2),(0,3),(0,4),(1,6),(0,7),(0,8),(1,5),(0,10),(1,9),(2,11),(0,12),(2,13)] (by kernel_rfl) (by kernel_rfl) ?_))
            | fail
          all_goals first | (exfalso; omega) | skip
          refine loopK.nn (m2 - 1) (by omega) (by repeat (first | refine Ag.upd rfl ?_ | exact Ag.hv)) ⟨2, rfl, by omega, rfl⟩
        ·
          repeat' first
            | (refine J.isJ ?_; first | (first | (refine J.o 12 ?_; refine J.xI hΓ ?_) | (refine J.o 4 ?_; first | refine J.lR hΓ ?_ (hr := rc1.tl.tl.tl.tl.tl.tl.tl)) | (refine J.fc 81 ?_; refine J.call0 ePart rfl rfl (fun w hw => cPart w _ hw Rd.hd.tl.tl.tl RdH.hd.tl.tl.tl.tl x.c false hx3) ?_) | (refine J.fc 81 ?_; refine J.call0 ePart rfl rfl (fun w hw => cPart w _ hw Rd.hd.tl.tl.tl RdH.hd.tl.tl.tl.tl x.c true hx3) ?_)) | (first | (refine J.o 0 ?_; refine J.ev' hΓ ?_) | refine J.nil ?_ | refine J.kd ?_ | (refine J.o 4 ?_; first | refine J.lT default hΓ ?_ | refine J.lR hΓ ?_) | (refine J.o 3 ?_; first | refine J.iA hΓ ?_ | refine J.iJ hΓ ?_ | refine J.fP hΓ ?_ | refine J.ev' hΓ ?_) | (refine J.o 1 ?_; first | refine J.ad ?_) | (refine J.o 5 ?_; first | refine J.t0 hΓ ?_ | refine J.t1 hΓ ?_) | (refine J.o 6 ?_; refine J.bx (fun _ => ?_)) | (refine J.o 7 ?_; refine J.al hΓ (fun _ => ?_)) | (refine J.o 10 ?_; refine J.ev' hΓ ?_) | (refine J.o 11 ?_; refine J.ev' hΓ ?_)) | ((fail_if_success refine J.wt ?_); refine J.gc rfl rfl (fun hc => ?_) (fun hc => ?_) <;> ((try simp only [decide_eq_true_eq, decide_eq_false_iff_not, beq_iff_eq, beq_eq_false_iff_ne, bne_iff_ne, bne_eq_false_iff_eq, Bool.not_eq_true', Bool.not_eq_false', Bool.not_eq_true, Bool.not_eq_false] at hc) <;> first | (first | (exact absurd rfl hc) | (exfalso; omega) | (exact absurd (hc.symm.trans (by assumption : _ = false)) (by decide)) | (exact absurd (hc.symm.trans (by assumption : _ = true)) (by decide))) | skip)))
            | (first | refine JC.seq ?_ | refine JC.region ?_ | refine JC.block ?_ | refine JC.ret ?_ | refine JC.exit ?_ | refine JC.skip ?_ | refine thenK.nn ?_ | refine thenK.r ?_ | refine thenK.x ?_ | refine blockK.nn ?_ | refine blockK.r ?_ | refine blockK.hit rfl ?_ | refine JC.condT rfl ?_ | refine JC.condF rfl ?_ | (refine JC.cond rfl (fun hc => ?_) (fun hc => ?_) <;> ((try simp only [decide_eq_true_eq, decide_eq_false_iff_not, beq_iff_eq, beq_eq_false_iff_ne, bne_iff_ne, bne_eq_false_iff_eq, Bool.not_eq_true', Bool.not_eq_false', Bool.not_eq_true, Bool.not_eq_false] at hc) <;> first | (first | (exact absurd rfl hc) | (exfalso; omega) | (exact absurd (hc.symm.trans (by assumption : _ = false)) (by decide)) | (exact absurd (hc.symm.trans (by assumption : _ = true)) (by decide))) | skip)) | refine drawK.nn ?_ | refine loopK.x ?_)
            | ((refine JC.drawO [(0,0),(0,1),(1,2),(0,3),(0,4),(1,6),(0,7),(0,8),(1,5),(0,10),(1,9),(2,11),(0,12),(2,13)] (by kernel_rfl) (by kernel_rfl) ?_))
            | fail
          all_goals first | (exfalso; omega) | skip
          refine loopK.nn (m2 - 1) (by omega) (by repeat (first | refine Ag.upd rfl ?_ | exact Ag.hv)) ⟨3, rfl, by omega, rfl⟩
      ·
        repeat' first
          | (refine J.isJ ?_; first | (first | (refine J.o 12 ?_; refine J.xI hΓ ?_) | (refine J.o 4 ?_; first | refine J.lR hΓ ?_ (hr := rc1.tl.tl.tl.tl.tl) | refine J.lT default hΓ ?_ (hs := hsl) (hr := RdH.hd.tl.tl))) | (first | (refine J.o 0 ?_; refine J.ev' hΓ ?_) | refine J.nil ?_ | refine J.kd ?_ | (refine J.o 4 ?_; first | refine J.lT default hΓ ?_ | refine J.lR hΓ ?_) | (refine J.o 3 ?_; first | refine J.iA hΓ ?_ | refine J.iJ hΓ ?_ | refine J.fP hΓ ?_ | refine J.ev' hΓ ?_) | (refine J.o 1 ?_; first | refine J.ad ?_) | (refine J.o 5 ?_; first | refine J.t0 hΓ ?_ | refine J.t1 hΓ ?_) | (refine J.o 6 ?_; refine J.bx (fun _ => ?_)) | (refine J.o 7 ?_; refine J.al hΓ (fun _ => ?_)) | (refine J.o 10 ?_; refine J.ev' hΓ ?_) | (refine J.o 11 ?_; refine J.ev' hΓ ?_)) | ((fail_if_success refine J.wt ?_); refine J.gc rfl rfl (fun hc => ?_) (fun hc => ?_) <;> ((try simp only [decide_eq_true_eq, decide_eq_false_iff_not, beq_iff_eq, beq_eq_false_iff_ne, bne_iff_ne, bne_eq_false_iff_eq, Bool.not_eq_true', Bool.not_eq_false', Bool.not_eq_true, Bool.not_eq_false] at hc) <;> first | (first | (exact absurd rfl hc) | (exfalso; omega) | (exact absurd (hc.symm.trans (by assumption : _ = false)) (by decide)) | (exact absurd (hc.symm.trans (by assumption : _ = true)) (by decide))) | skip)))
          | (first | refine JC.seq ?_ | refine JC.region ?_ | refine JC.block ?_ | refine JC.ret ?_ | refine JC.exit ?_ | refine JC.skip ?_ | refine thenK.nn ?_ | refine thenK.r ?_ | refine thenK.x ?_ | refine blockK.nn ?_ | refine blockK.r ?_ | refine blockK.hit rfl ?_ | refine JC.condT rfl ?_ | refine JC.condF rfl ?_ | (refine JC.cond rfl (fun hc => ?_) (fun hc => ?_) <;> ((try simp only [decide_eq_true_eq, decide_eq_false_iff_not, beq_iff_eq, beq_eq_false_iff_ne, bne_iff_ne, bne_eq_false_iff_eq, Bool.not_eq_true', Bool.not_eq_false', Bool.not_eq_true, Bool.not_eq_false] at hc) <;> first | (first | (exact absurd rfl hc) | (exfalso; omega) | (exact absurd (hc.symm.trans (by assumption : _ = false)) (by decide)) | (exact absurd (hc.symm.trans (by assumption : _ = true)) (by decide))) | skip)) | refine drawK.nn ?_ | refine loopK.x ?_)
          | (fail)
          | fail
        all_goals first | (exfalso; omega) | skip
        refine loopK.nn (m1 - 1) (by omega) (by repeat (first | refine Ag.upd rfl ?_ | exact Ag.hv)) ⟨1, rfl, by omega, min_cast _ _, rfl⟩
      ·
        repeat' first
          | (refine J.isJ ?_; first | (first | (refine J.o 12 ?_; refine J.xI hΓ ?_) | (refine J.o 4 ?_; first | refine J.lR hΓ ?_ (hr := rc1.tl.tl.tl.tl.tl) | refine J.lT default hΓ ?_ (hs := hsl) (hr := RdH.hd.tl.tl))) | (first | (refine J.o 0 ?_; refine J.ev' hΓ ?_) | refine J.nil ?_ | refine J.kd ?_ | (refine J.o 4 ?_; first | refine J.lT default hΓ ?_ | refine J.lR hΓ ?_) | (refine J.o 3 ?_; first | refine J.iA hΓ ?_ | refine J.iJ hΓ ?_ | refine J.fP hΓ ?_ | refine J.ev' hΓ ?_) | (refine J.o 1 ?_; first | refine J.ad ?_) | (refine J.o 5 ?_; first | refine J.t0 hΓ ?_ | refine J.t1 hΓ ?_) | (refine J.o 6 ?_; refine J.bx (fun _ => ?_)) | (refine J.o 7 ?_; refine J.al hΓ (fun _ => ?_)) | (refine J.o 10 ?_; refine J.ev' hΓ ?_) | (refine J.o 11 ?_; refine J.ev' hΓ ?_)) | ((fail_if_success refine J.wt ?_); refine J.gc rfl rfl (fun hc => ?_) (fun hc => ?_) <;> ((try simp only [decide_eq_true_eq, decide_eq_false_iff_not, beq_iff_eq, beq_eq_false_iff_ne, bne_iff_ne, bne_eq_false_iff_eq, Bool.not_eq_true', Bool.not_eq_false', Bool.not_eq_true, Bool.not_eq_false] at hc) <;> first | (first | (exact absurd rfl hc) | (exfalso; omega) | (exact absurd (hc.symm.trans (by assumption : _ = false)) (by decide)) | (exact absurd (hc.symm.trans (by assumption : _ = true)) (by decide))) | skip)))
          | (first | refine JC.seq ?_ | refine JC.region ?_ | refine JC.block ?_ | refine JC.ret ?_ | refine JC.exit ?_ | refine JC.skip ?_ | refine thenK.nn ?_ | refine thenK.r ?_ | refine thenK.x ?_ | refine blockK.nn ?_ | refine blockK.r ?_ | refine blockK.hit rfl ?_ | refine JC.condT rfl ?_ | refine JC.condF rfl ?_ | (refine JC.cond rfl (fun hc => ?_) (fun hc => ?_) <;> ((try simp only [decide_eq_true_eq, decide_eq_false_iff_not, beq_iff_eq, beq_eq_false_iff_ne, bne_iff_ne, bne_eq_false_iff_eq, Bool.not_eq_true', Bool.not_eq_false', Bool.not_eq_true, Bool.not_eq_false] at hc) <;> first | (first | (exact absurd rfl hc) | (exfalso; omega) | (exact absurd (hc.symm.trans (by assumption : _ = false)) (by decide)) | (exact absurd (hc.symm.trans (by assumption : _ = true)) (by decide))) | skip)) | refine drawK.nn ?_ | refine loopK.x ?_)
          | (fail)
          | fail
        all_goals first | (exfalso; omega) | skip
        refine loopK.nn (m1 - 1) (by omega) (by repeat (first | refine Ag.upd rfl ?_ | exact Ag.hv)) ⟨2, rfl, by omega, min_cast _ _, rfl⟩
      ·
        repeat' first
          | (refine J.isJ ?_; first | (first | (refine J.o 12 ?_; refine J.xI hΓ ?_) | (refine J.o 4 ?_; first | refine J.lR hΓ ?_ (hr := rc1.tl.tl.tl.tl.tl) | refine J.lT default hΓ ?_ (hs := hsl) (hr := RdH.hd.tl.tl))) | (first | (refine J.o 0 ?_; refine J.ev' hΓ ?_) | refine J.nil ?_ | refine J.kd ?_ | (refine J.o 4 ?_; first | refine J.lT default hΓ ?_ | refine J.lR hΓ ?_) | (refine J.o 3 ?_; first | refine J.iA hΓ ?_ | refine J.iJ hΓ ?_ | refine J.fP hΓ ?_ | refine J.ev' hΓ ?_) | (refine J.o 1 ?_; first | refine J.ad ?_) | (refine J.o 5 ?_; first | refine J.t0 hΓ ?_ | refine J.t1 hΓ ?_) | (refine J.o 6 ?_; refine J.bx (fun _ => ?_)) | (refine J.o 7 ?_; refine J.al hΓ (fun _ => ?_)) | (refine J.o 10 ?_; refine J.ev' hΓ ?_) | (refine J.o 11 ?_; refine J.ev' hΓ ?_)) | ((fail_if_success refine J.wt ?_); refine J.gc rfl rfl (fun hc => ?_) (fun hc => ?_) <;> ((try simp only [decide_eq_true_eq, decide_eq_false_iff_not, beq_iff_eq, beq_eq_false_iff_ne, bne_iff_ne, bne_eq_false_iff_eq, Bool.not_eq_true', Bool.not_eq_false', Bool.not_eq_true, Bool.not_eq_false] at hc) <;> first | (first | (exact absurd rfl hc) | (exfalso; omega) | (exact absurd (hc.symm.trans (by assumption : _ = false)) (by decide)) | (exact absurd (hc.symm.trans (by assumption : _ = true)) (by decide))) | skip)))
          | (first | refine JC.seq ?_ | refine JC.region ?_ | refine JC.block ?_ | refine JC.ret ?_ | refine JC.exit ?_ | refine JC.skip ?_ | refine thenK.nn ?_ | refine thenK.r ?_ | refine thenK.x ?_ | refine blockK.nn ?_ | refine blockK.r ?_ | refine blockK.hit rfl ?_ | refine JC.condT rfl ?_ | refine JC.condF rfl ?_ | (refine JC.cond rfl (fun hc => ?_) (fun hc => ?_) <;> ((try simp only [decide_eq_true_eq, decide_eq_false_iff_not, beq_iff_eq, beq_eq_false_iff_ne, bne_iff_ne, bne_eq_false_iff_eq, Bool.not_eq_true', Bool.not_eq_false', Bool.not_eq_true, Bool.not_eq_false] at hc) <;> first | (first | (exact absurd rfl hc) | (exfalso; omega) | (exact absurd (hc.symm.trans (by assumption : _ = false)) (by decide)) | (exact absurd (hc.symm.trans (by assumption : _ = true)) (by decide))) | skip)) | refine drawK.nn ?_ | refine loopK.x ?_)
          | (fail)
          | fail
        all_goals first | (exfalso; omega) | skip
        refine loopK.nn (m1 - 1) (by omega) (by repeat (first | refine Ag.upd rfl ?_ | exact Ag.hv)) ⟨3, rfl, by omega, min_cast _ _, rfl⟩
theorem choose_lev {n : Nat} {K : KS} {s : SS} (so : SOk n K s) (x : T3) (hx : x.lt s.ns.length) {c : Nat} {Φ : Nat → List ((Nat → Bool) → Bool)} (lv : Lev n Φ c) (hG : InL n Φ 0 (iteF n s.ns x)) (hfull : s.ns.length + c < 1048576) {w0 w : World} {R : Heap} {L : List Heap} {b : Nat} (hw : H w0 R (sF K b s ++ L) w) :
    Calls Try.prog 60 #[.pointer (some ⟨b, 0, none⟩), .int .i64 (x.a : Int), .int .i64 (x.b : Int), .int .i64 (x.c : Int)] w fun e w' => ∃ v L', e = .returned v ∧ H w0 R L' w' ∧ ∃ s' y, v = .int .i64 ((y : Nat) : Int) ∧ L' = sF K b s' ++ L ∧ Adds n K s s' c y ∧ Ite n s'.ns x y := by
  have hf : x.from s.ns 0 := ⟨Nat.zero_le _, Nat.zero_le _, Nat.zero_le _⟩
  unfold sF at hw
  simp only [List.cons_append, List.nil_append] at hw
  refine calls_in Try.func60 Try.ntmps60 rfl rfl (hw) ?_
  repeat' first
    | (refine J.isJ ?_; first | (first | (refine J.o 6 ?_; refine J.bx (fun c1 => ?_)) | (refine J.o 7 ?_; refine J.al hΓ (fun c2 => ?_)) | (refine J.o 14 ?_; refine J.mf hΓ ?_) | (refine J.o 9 ?_; refine J.callvx eChC rfl rfl rfl (fun w hw => chL_any n K b c1 c2 lv so.wf.two hfull n 0 s x (by omega) so hx hf (Nat.le_refl _) (InG.start n Φ s.ns) hG (L := [(c2, fnC c1 c2)] :: [(c1, ptrS b)] :: L) (H.sel (l := [_, _, _, _, _, _]) (M := L) hw [2, 3, 4, 5, 0, 1]) (Rd.hd.tl) Rd.hd) ?_; rintro _ _ ⟨s1, y1, rfl, rfl, ad1, it1, in1⟩; have hl1 := in1.len lv ad1.ok.wf so.wf.two)) | (first | (refine J.o 0 ?_; refine J.ev' hΓ ?_) | refine J.nil ?_ | (refine J.o 4 ?_; first | refine J.lR hΓ ?_) | (refine J.o 3 ?_; first | refine J.ev' hΓ ?_) | (refine J.o 5 ?_; first | refine J.t0 hΓ ?_) | (refine J.o 6 ?_; refine J.bx (fun _ => ?_)) | (refine J.o 7 ?_; refine J.al hΓ (fun _ => ?_)) | (refine J.o 8 ?_; refine J.bd hΓ ?_) | (refine J.o 10 ?_; refine J.ev' hΓ ?_) | (refine J.o 11 ?_; refine J.ev' hΓ ?_) | (refine J.o 14 ?_; refine J.mf hΓ ?_)))
    | (first | refine JC.seq ?_ | refine JC.region ?_ | refine JC.ret ?_ | refine thenK.nn ?_)
    | (fail)
    | fail
  refine ret1f rfl rfl rfl (fun w1 hw => ⟨_, _, rfl, H.sel (l := [_, _, _, _, _, _]) (M := L) hw [0, 1, 2, 3], s1, y1, rfl, rfl, ⟨ad1.ok, ad1.ext, hl1, ad1.lt⟩, it1⟩)
end Go.Proofs.Ytbhgahjeocnfcaa
namespace Go.Proofs.Ytbhgahjeocnfcaa
open Go Go.Cx
set_option linter.unusedVariables false
set_option linter.unusedSimpArgs false
abbrev BF0 := (Nat → Bool) → Bool
theorem flat_one {α : Type} (Φ : Nat → List α) (c : Nat) (h : ∀ j, (Φ j).length ≤ c) : ∀ n, ((List.range n).flatMap Φ).length ≤ n * c
  | 0 => by simp
  | n + 1 => by
    rw [List.range_succ, List.flatMap_append, List.length_append, List.flatMap_cons, List.flatMap_nil, List.append_nil, Nat.succ_mul]
    exact Nat.add_le_add (flat_one Φ c h n) (h n)
theorem flat_if {α : Type} (k : Nat) (x : List α) : ∀ n, ((List.range n).flatMap fun j => if j = k then x else []).length ≤ x.length
  | 0 => by simp
  | n + 1 => by
    rw [List.range_succ, List.flatMap_append, List.length_append, List.flatMap_cons, List.flatMap_nil, List.append_nil]
    by_cases h : n = k
    · subst h
      rw [if_pos rfl]
      have : ((List.range n).flatMap fun j => if j = n then x else []) = [] := by
        rw [List.flatMap_eq_nil_iff]
        intro j hj
        rw [List.mem_range] at hj
        rw [if_neg (by omega)]
      rw [this]; simp
    · rw [if_neg h]
      exact flat_if k x n
theorem lev_not (n k : Nat) : Lev n (fun j => if j = k then [(fun α : Nat → Bool => !α k)] else []) 1 := by
  refine ⟨fun j f hf i b α hi => ?_, fun j f b hj hf => ?_, flat_if k _ _⟩
  · split at hf
    · rename_i h
      rw [List.mem_singleton.1 hf]
      show (!(up α i b k)) = !(α k)
      rw [up_ne α b (by omega)]
    · cases hf
  · split at hf
    · rename_i h
      rw [List.mem_singleton.1 hf]
      refine .inl fun α β => ?_
      show (!(up α j b k)) = !(up β j b k)
      rw [h, up_eq, up_eq]
    · cases hf
def clF (n : Nat) (P Q : Nat → Bool) (j : Nat) (α : Nat → Bool) : Bool := (List.range n).any fun i => decide (j ≤ i) && (Bool.or (P i && α i) (Q i && !α i))
theorem clF_iff (n : Nat) (P Q : Nat → Bool) (j : Nat) (α : Nat → Bool) : clF n P Q j α = true ↔ ∃ i, i < n ∧ j ≤ i ∧ ((P i = true ∧ α i = true) ∨ (Q i = true ∧ α i = false)) := by
  unfold clF
  rw [List.any_eq_true]
  constructor
  · rintro ⟨i, hi, h⟩
    rw [Bool.and_eq_true, decide_eq_true_iff, Bool.or_eq_true, Bool.and_eq_true, Bool.and_eq_true, Bool.not_eq_true'] at h
    exact ⟨i, List.mem_range.1 hi, h.1, h.2⟩
  · rintro ⟨i, hi, h1, h2⟩
    refine ⟨i, List.mem_range.2 hi, ?_⟩
    rw [Bool.and_eq_true, decide_eq_true_iff, Bool.or_eq_true, Bool.and_eq_true, Bool.and_eq_true, Bool.not_eq_true']
    exact ⟨h1, h2⟩
theorem lev_cl (n : Nat) (P Q : Nat → Bool) : Lev n (fun j => [clF n P Q j]) (n + 1) := by
  refine ⟨fun j f hf i b α hi => ?_, fun j f b hj hf => ?_, by have := flat_one (fun j => [clF n P Q j]) 1 (fun _ => Nat.le_refl _) (n + 1); omega⟩
  · rw [List.mem_singleton.1 hf, Bool.eq_iff_iff, clF_iff, clF_iff]
    refine exists_congr fun q => ?_
    constructor
    · rintro ⟨h1, h2, h3⟩
      rw [up_ne α b (by omega)] at h3
      exact ⟨h1, h2, h3⟩
    · rintro ⟨h1, h2, h3⟩
      rw [up_ne α b (by omega)]
      exact ⟨h1, h2, h3⟩
  · rw [List.mem_singleton.1 hf]
    by_cases hb : (P j = true ∧ b = true) ∨ (Q j = true ∧ b = false)
    · refine .inl fun α β => ?_
      have : ∀ α, clF n P Q j (up α j b) = true := fun α => (clF_iff n P Q j _).2 ⟨j, hj, Nat.le_refl _, by rw [up_eq]; exact hb⟩
      show clF n P Q j (up α j b) = clF n P Q j (up β j b)
      rw [this, this]
    · refine .inr ⟨j + 1, by omega, by omega, List.mem_singleton.2 (funext fun α => ?_)⟩
      rw [Bool.eq_iff_iff, clF_iff, clF_iff]
      refine exists_congr fun q => ?_
      constructor
      · rintro ⟨h1, h2, h3⟩
        have hq : q ≠ j := fun e => by
          rw [e, up_eq] at h3
          exact hb h3
        rw [up_ne α b hq] at h3
        exact ⟨h1, by omega, h3⟩
      · rintro ⟨h1, h2, h3⟩
        rw [up_ne α b (by omega)]
        exact ⟨h1, by omega, h3⟩
def anF (n p j : Nat) (α : Nat → Bool) : Bool := (List.range n).all fun i => Bool.or (decide (i < j ∨ i < p)) (α i)
theorem anF_iff (n p j : Nat) (α : Nat → Bool) : anF n p j α = true ↔ ∀ i, i < n → j ≤ i → p ≤ i → α i = true := by
  unfold anF
  rw [List.all_eq_true]
  constructor
  · intro h i hi h1 h2
    have := h i (List.mem_range.2 hi)
    rw [decide_eq_false (by omega)] at this
    exact this
  · intro h i hi
    by_cases g : i < j ∨ i < p
    · rw [decide_eq_true g]; rfl
    · rw [decide_eq_false g]; exact h i (List.mem_range.1 hi) (by omega) (by omega)
theorem lev_an (n p : Nat) : Lev n (fun j => [anF n p j]) (n + 1) := by
  refine ⟨fun j f hf i b α hi => ?_, fun j f b hj hf => ?_, by have := flat_one (fun j => [anF n p j]) 1 (fun _ => Nat.le_refl _) (n + 1); omega⟩
  · rw [List.mem_singleton.1 hf, Bool.eq_iff_iff, anF_iff, anF_iff]
    refine forall_congr' fun q => ?_
    constructor
    · intro h h1 h2 h3
      have := h h1 h2 h3
      rwa [up_ne α b (by omega)] at this
    · intro h h1 h2 h3
      rw [up_ne α b (by omega)]
      exact h h1 h2 h3
  · rw [List.mem_singleton.1 hf]
    by_cases hb : p ≤ j ∧ b = false
    · refine .inl fun α β => ?_
      have : ∀ α, anF n p j (up α j b) = false := fun α => by
        cases hh : anF n p j (up α j b) with
        | false => rfl
        | true =>
          have := (anF_iff n p j _).1 hh j hj (Nat.le_refl _) hb.1
          rw [up_eq, hb.2] at this
          cases this
      show anF n p j (up α j b) = anF n p j (up β j b)
      rw [this, this]
    · refine .inr ⟨j + 1, by omega, by omega, List.mem_singleton.2 (funext fun α => ?_)⟩
      rw [Bool.eq_iff_iff, anF_iff, anF_iff]
      constructor
      · intro h q h1 h2 h3
        have := h q h1 (by omega) h3
        rwa [up_ne α b (by omega)] at this
      · intro h q h1 h2 h3
        by_cases hq : q = j
        · subst hq
          rw [up_eq]
          cases b with
          | true => rfl
          | false => exact absurd ⟨h3, rfl⟩ hb
        · rw [up_ne α b hq]
          exact h q h1 (by omega) h3
def xrF (n p j : Nat) (α : Nat → Bool) : Bool := (List.range n).foldl (fun s i => if i < j ∨ i < p then s else s != α i) false
theorem xrF_up (n p j : Nat) (b : Bool) (α : Nat → Bool) (k : Nat) (h : k < j ∨ k < p ∨ n ≤ k) : xrF n p j (up α k b) = xrF n p j α := by
  unfold xrF
  have : ∀ (l : List Nat) (s : Bool), (∀ i ∈ l, i < n) → l.foldl (fun s i => if i < j ∨ i < p then s else s != up α k b i) s = l.foldl (fun s i => if i < j ∨ i < p then s else s != α i) s := by
    intro l
    induction l with
    | nil => intro s _; rfl
    | cons i l ih =>
      intro s hs
      rw [List.foldl_cons, List.foldl_cons, ih _ fun x hx => hs x (List.mem_cons_of_mem _ hx)]
      congr 1
      by_cases g : i < j ∨ i < p
      · rw [if_pos g, if_pos g]
      · have := hs i List.mem_cons_self
        rw [if_neg g, if_neg g, up_ne α b (by omega)]
  exact this _ _ fun i hi => List.mem_range.1 hi
theorem xrF_s (n p j : Nat) (hj : j < n) (hp : p ≤ j) (α : Nat → Bool) : xrF n p j α = (α j != xrF n p (j + 1) α) := by
  have key : ∀ (m : Nat), m ≤ n → ∀ s, (List.range m).foldl (fun s i => if i < j ∨ i < p then s else s != α i) s = (if j < m then (α j != (List.range m).foldl (fun s i => if i < j + 1 ∨ i < p then s else s != α i) s) else (List.range m).foldl (fun s i => if i < j + 1 ∨ i < p then s else s != α i) s) := by
    intro m
    induction m with
    | zero => intro _ s; rfl
    | succ m ih =>
      intro hm s
      rw [List.range_succ, List.foldl_append, List.foldl_append, ih (by omega)]
      simp only [List.foldl_cons, List.foldl_nil]
      rcases Nat.lt_trichotomy j m with h | h | h
      · rw [if_pos h, if_neg (show ¬ (m < j ∨ m < p) by omega), if_pos (show j < m + 1 by omega), if_neg (show ¬ (m < j + 1 ∨ m < p) by omega)]
        generalize (List.range m).foldl (fun s i => if i < j + 1 ∨ i < p then s else s != α i) s = z
        cases α j <;> cases α m <;> cases z <;> rfl
      · subst h
        rw [if_neg (Nat.lt_irrefl j), if_neg (show ¬ (j < j ∨ j < p) by omega), if_pos (show j < j + 1 by omega), if_pos (show j < j + 1 ∨ j < p by omega)]
        generalize (List.range j).foldl (fun s i => if i < j + 1 ∨ i < p then s else s != α i) s = z
        cases α j <;> cases z <;> rfl
      · rw [if_neg (show ¬ j < m by omega), if_pos (show m < j ∨ m < p by omega), if_neg (show ¬ j < m + 1 by omega), if_pos (show m < j + 1 ∨ m < p by omega)]
  have := key n (Nat.le_refl _) false
  rw [if_pos hj] at this
  exact this
theorem lev_xr (n p : Nat) : Lev n (fun j => [xrF n p j, fun α => !xrF n p j α]) ((n + 1) * 2) := by
  have hup : ∀ j k b α, k < j → xrF n p j (up α k b) = xrF n p j α := fun j k b α h => xrF_up n p j b α k (.inl h)
  have hst : ∀ j b, j < n → (∀ α, xrF n p j (up α j b) = xrF n p (j + 1) α) ∨ (∀ α, xrF n p j (up α j b) = !xrF n p (j + 1) α) := fun j b hj => by
    rcases Nat.lt_or_ge j p with h | h
    · refine .inl fun α => ?_
      rw [xrF_up n p j b α j (.inr (.inl h))]
      unfold xrF
      congr 1
      funext s i
      have : (i < j ∨ i < p) ↔ (i < j + 1 ∨ i < p) := by omega
      by_cases g : i < j ∨ i < p
      · rw [if_pos g, if_pos (this.1 g)]
      · rw [if_neg g, if_neg (fun x => g (this.2 x))]
    · cases b with
      | false => exact .inl fun α => by rw [xrF_s n p j hj h, up_eq, hup _ _ _ _ (Nat.lt_succ_self _)]; cases xrF n p (j + 1) α <;> rfl
      | true => exact .inr fun α => by rw [xrF_s n p j hj h, up_eq, hup _ _ _ _ (Nat.lt_succ_self _)]; cases xrF n p (j + 1) α <;> rfl
  refine ⟨fun j f hf i b α hi => ?_, fun j f b hj hf => ?_, by have := flat_one (fun j => [xrF n p j, fun α => !xrF n p j α]) 2 (fun _ => Nat.le_refl _) (n + 1); omega⟩
  · rcases List.mem_cons.1 hf with rfl | hf
    · exact hup _ _ _ _ hi
    · rw [List.mem_singleton.1 hf]
      show (!xrF n p j (up α i b)) = !xrF n p j α
      rw [hup _ _ _ _ hi]
  · refine .inr ⟨j + 1, by omega, by omega, ?_⟩
    rcases List.mem_cons.1 hf with rfl | hf
    · rcases hst j b hj with h | h
      · rw [funext h]; exact List.mem_cons_self
      · rw [funext h]; exact List.mem_cons_of_mem _ List.mem_cons_self
    · rw [List.mem_singleton.1 hf]
      rcases hst j b hj with h | h
      · have : (fun α => (fun α => !xrF n p j α) (up α j b)) = fun α => !xrF n p (j + 1) α := funext fun α => by dsimp only; rw [h]
        rw [this]; exact List.mem_cons_of_mem _ List.mem_cons_self
      · have : (fun α => (fun α => !xrF n p j α) (up α j b)) = xrF n p (j + 1) := funext fun α => by dsimp only; rw [h, Bool.not_not]
        rw [this]; exact List.mem_cons_self
end Go.Proofs.Ytbhgahjeocnfcaa
namespace Go.Proofs.Ytbhgahjeocnfcaa
open Go Go.Cx Go.RowKit
set_option linter.unusedVariables false
set_option linter.unusedSimpArgs false
set_option maxHeartbeats 4000000
attribute [local irreducible] J JC thenK blockK loopK drawK retK QW Qt pel List.set Calls
open Go.Maps Go.Lib
set_option maxRecDepth 8000
attribute [local irreducible] JE Br eK0 eK3 brK pc
theorem ch3_lev {n : Nat} {K : KS} {s : SS} (so : SOk n K s) (a b c : Nat) (ha : a < s.ns.length) (hb : b < s.ns.length) (hc : c < s.ns.length) {m : Nat} {Φ : Nat → List ((Nat → Bool) → Bool)} (lv : Lev n Φ m) {G : (Nat → Bool) → Bool} (hG : ∀ α, (if fn n s.ns a α then fn n s.ns b α else fn n s.ns c α) = G α) (hi : InL n Φ 0 G) (hfull : s.ns.length + m < 1048576) {w0 w : World} {R : Heap} {L : List Heap} {b0 : Nat} (hw : H w0 R (sF K b0 s ++ L) w) :
    Calls Try.prog 60 #[.pointer (some ⟨b0, 0, none⟩), .int .i64 (a : Int), .int .i64 (b : Int), .int .i64 (c : Int)] w fun e w' => ∃ v L', e = .returned v ∧ H w0 R L' w' ∧ ∃ s' y, v = .int .i64 ((y : Nat) : Int) ∧ L' = sF K b0 s' ++ L ∧ Res n K s s' m y G := by
  have e : iteF n s.ns ⟨a, b, c⟩ = G := funext hG
  refine (choose_lev so ⟨a, b, c⟩ ⟨ha, hb, hc⟩ lv (by rw [e]; exact hi) hfull hw).mono ?_
  rintro e w' ⟨v, L', h1, h2, s1, y1, h3, h4, ad1, it1⟩
  refine ⟨v, L', h1, h2, s1, y1, h3, h4, ad1, fun α => ?_⟩
  have he := it1.eq α
  dsimp only at he
  rw [he, fn_ext so.wf ad1.ext ha, fn_ext so.wf ad1.ext hb, fn_ext so.wf ad1.ext hc, hG]
theorem inl_not (n k : Nat) (hk : k < n) : InL n (fun j => if j = k then [(fun α : Nat → Bool => !α k)] else []) 0 (fun α => !α k) := .inr ⟨k, Nat.zero_le _, by omega, by dsimp only; rw [if_pos rfl]; exact List.mem_cons_self⟩
end Go.Proofs.Ytbhgahjeocnfcaa
namespace Go.Proofs.Ytbhgahjeocnfcaa
open Go Go.Cx Go.RowKit
set_option linter.unusedVariables false
set_option linter.unusedSimpArgs false
set_option maxHeartbeats 4000000
attribute [local irreducible] J JC thenK blockK loopK drawK retK QW Qt pel List.set Calls
open Go.Maps Go.Lib
set_option maxRecDepth 8000
attribute [local irreducible] JE Br eK0 eK3 brK pc
def smallP (n : Int) (N : Int) (T : List (List Int)) : Prop := 0 ≤ N ∧ N ≤ n ∧ T.length ≤ 30 ∧ (∀ c ∈ T, c.length ≤ 10) ∧ thE N T = 0
instance (n N : Int) (T : List (List Int)) : Decidable (smallP n N T) := by unfold smallP; exact inferInstance
end Go.Proofs.Ytbhgahjeocnfcaa
namespace Go.Proofs.Ytbhgahjeocnfcaa
open Go Go.Cx Go.RowKit
set_option linter.unusedVariables false
set_option linter.unusedSimpArgs false
set_option maxHeartbeats 4000000
attribute [local irreducible] J JC thenK blockK loopK drawK retK QW Qt pel List.set Calls
open Go.Maps Go.Lib
set_option maxRecDepth 8000
attribute [local irreducible] JE Br eK0 eK3 brK pc
abbrev BF := (Nat → Bool) → Bool
def cntF (n : Nat) (g : BF) : Nat := ((List.range (2 ^ n)).map fun r => g (asg n r)).count true
end Go.Proofs.Ytbhgahjeocnfcaa
namespace Go.Proofs.Ytbhgahjeocnfcaa
open Go Go.Cx Go.RowKit
set_option linter.unusedVariables false
set_option linter.unusedSimpArgs false
set_option maxHeartbeats 4000000
attribute [local irreducible] J JC thenK blockK loopK drawK retK QW Qt pel List.set Calls
open Go.Maps Go.Lib
set_option maxRecDepth 8000
attribute [local irreducible] JE Br eK0 eK3 brK pc
structure TV where
  a : Option Addr
  c : Nat
  g : BF
instance : Inhabited TV := ⟨⟨none, 0, fun _ => false⟩⟩
end Go.Proofs.Ytbhgahjeocnfcaa
namespace Go.Proofs.Ytbhgahjeocnfcaa
open Go Go.Cx Go.RowKit
set_option linter.unusedVariables false
set_option linter.unusedSimpArgs false
set_option maxHeartbeats 4000000
attribute [local irreducible] J JC thenK blockK loopK drawK retK QW Qt pel List.set Calls
open Go.Maps Go.Lib
set_option maxRecDepth 8000
attribute [local irreducible] JE Br eK0 eK3 brK pc
structure BW where
  a : Option Addr
  c : Nat
  l : List Bool
instance : Inhabited BW := ⟨⟨none, 0, []⟩⟩
end Go.Proofs.Ytbhgahjeocnfcaa
namespace Go.Proofs.Ytbhgahjeocnfcaa
open Go Go.Cx Go.RowKit
set_option linter.unusedVariables false
set_option linter.unusedSimpArgs false
set_option maxHeartbeats 4000000
attribute [local irreducible] J JC thenK blockK loopK drawK retK QW Qt pel List.set Calls
open Go.Maps Go.Lib
set_option maxRecDepth 8000
attribute [local irreducible] JE Br eK0 eK3 brK pc
def dgF : Nat → Nat → List Nat
  | 0, _ => []
  | f + 1, v => if v = 0 then [] else v % 10 :: dgF f (v / 10)
theorem dec_dg : ∀ f v, decF f v = (dgF f v).map fun d => UInt8.ofNat (48 + d)
  | 0, _ => rfl
  | f + 1, v => by
    rw [decF, dgF]
    split
    · rfl
    · rw [List.map_cons, dec_dg f]
def txt (v : Nat) : List UInt8 := if dgF v v = [] then [48] else ((dgF v v).map fun d => UInt8.ofNat (48 + d)).reverse
end Go.Proofs.Ytbhgahjeocnfcaa
namespace Go.Proofs.Ytbhgahjeocnfcaa
open Go Go.Cx Go.RowKit
set_option linter.unusedVariables false
set_option linter.unusedSimpArgs false
set_option maxHeartbeats 4000000
attribute [local irreducible] J JC thenK blockK loopK drawK retK QW Qt pel List.set Calls
open Go.Maps Go.Lib
set_option maxRecDepth 8000
attribute [local irreducible] JE Br eK0 eK3 brK pc
theorem fn_low {n : Nat} {ns : List N3} (w : WF n ns) {i : Nat} (h2 : 2 ≤ i) (hi : i < ns.length) {g : BF} (hg : ∀ α, fn n ns i α = g α) (α : Nat → Bool) : fn n ns (nd ns i).l α = g (up α (nd ns i).p false) := by
  rw [← hg, fn_node w _ h2 hi, up_eq]
  exact (fn_up w α false (w.ll i h2 hi) (w.lp i h2 hi)).symm
theorem fn_high {n : Nat} {ns : List N3} (w : WF n ns) {i : Nat} (h2 : 2 ≤ i) (hi : i < ns.length) {g : BF} (hg : ∀ α, fn n ns i α = g α) (α : Nat → Bool) : fn n ns (nd ns i).h α = g (up α (nd ns i).p true) := by
  rw [← hg, fn_node w _ h2 hi, up_eq]
  exact (fn_up w α true (w.hl i h2 hi) (w.hp i h2 hi)).symm
theorem decN_dg (v : Nat) : decN v = (dgF v v).map fun d => UInt8.ofNat (48 + d) := dec_dg v v
theorem txt_pos {v : Nat} (h : 0 < v) : txt v = (decN v).reverse := by
  unfold txt
  have h0 : dgF v v ≠ [] := by
    obtain ⟨f, rfl⟩ : ∃ f, v = f + 1 := ⟨v - 1, by omega⟩
    rw [dgF, if_neg (by omega)]; exact List.cons_ne_nil _ _
  rw [if_neg h0, decN_dg]
theorem txt_zero : txt 0 = [48] := rfl
theorem textV_any (v : Nat) (hv : v < 1000000000) (w : World) : Calls Try.prog 33 #[natV v] w fun e w' => e = .returned (.string (S (txt v))) ∧ Below w.heap.size w w' := by
  rcases Nat.eq_zero_or_pos v with rfl | h0
  · rw [txt_zero]; exact text_zero w
  · rw [txt_pos h0]; exact text_any v h0 hv w
end Go.Proofs.Ytbhgahjeocnfcaa
namespace Go.Proofs.Ytbhgahjeocnfcaa
open Go Go.Cx Go.RowKit
set_option linter.unusedVariables false
set_option linter.unusedSimpArgs false
set_option maxHeartbeats 4000000
attribute [local irreducible] J JC thenK blockK loopK drawK retK QW Qt pel List.set Calls
open Go.Maps Go.Lib
set_option maxRecDepth 8000
attribute [local irreducible] JE Br eK0 eK3 brK pc
def ovr (k : Nat) (γ α : Nat → Bool) : Nat → Bool := fun i => if i < k then γ i else α i
theorem fn_ovr {n : Nat} {ns : List N3} (w : WF n ns) {j k : Nat} (γ α : Nat → Bool) (hj : j < ns.length) (hk : k ≤ (nd ns j).p) : fn n ns j (ovr k γ α) = fn n ns j α :=
  fn_dep w _ j (Nat.le_refl _) hj fun i hi => by unfold ovr; rw [if_neg (by omega)]
theorem fn_low2 {n : Nat} {ns : List N3} (w : WF n ns) {i : Nat} (h2 : 2 ≤ i) (hi : i < ns.length) (α : Nat → Bool) : fn n ns (nd ns i).l α = fn n ns i (up α (nd ns i).p false) := fn_low w h2 hi (g := fn n ns i) (fun _ => rfl) α
theorem fn_high2 {n : Nat} {ns : List N3} (w : WF n ns) {i : Nat} (h2 : 2 ≤ i) (hi : i < ns.length) (α : Nat → Bool) : fn n ns (nd ns i).h α = fn n ns i (up α (nd ns i).p true) := fn_high w h2 hi (g := fn n ns i) (fun _ => rfl) α
theorem rch_fn {n : Nat} {ns : List N3} (w : WF n ns) {r : Nat} (hr : r < ns.length) {j : Nat} (h : Rch ns r j) : ∃ γ : Nat → Bool, ∀ α, fn n ns j α = fn n ns r (ovr (nd ns j).p γ α) := by
  induction h with
  | refl => exact ⟨fun _ => false, fun α => (fn_ovr w _ α hr (Nat.le_refl _)).symm⟩
  | @low j h h2 ih =>
    obtain ⟨γ, ih⟩ := ih
    have hj := h.lt w hr
    have hl := w.ll j h2 hj
    have hp := w.lp j h2 hj
    refine ⟨fun i => if i < (nd ns j).p then γ i else false, fun α => ?_⟩
    rw [← fn_ovr w (fun _ => false) α hl (Nat.le_refl _), fn_low2 w h2 hj, ih]
    congr 1
    funext i
    unfold ovr up
    dsimp only
    by_cases h1 : i < (nd ns j).p
    · rw [if_pos h1, if_pos (show i < (nd ns (nd ns j).l).p by omega), if_pos h1]
    · rw [if_neg h1, if_neg h1]
      by_cases h3 : i = (nd ns j).p
      · rw [if_pos h3, if_pos (by omega)]
      · rw [if_neg h3]
  | @high j h h2 ih =>
    obtain ⟨γ, ih⟩ := ih
    have hj := h.lt w hr
    have hl := w.hl j h2 hj
    have hp := w.hp j h2 hj
    refine ⟨fun i => if i < (nd ns j).p then γ i else decide (i = (nd ns j).p), fun α => ?_⟩
    rw [← fn_ovr w (fun _ => false) α hl (Nat.le_refl _), fn_high2 w h2 hj, ih]
    congr 1
    funext i
    unfold ovr up
    dsimp only
    by_cases h1 : i < (nd ns j).p
    · rw [if_pos h1, if_pos (show i < (nd ns (nd ns j).h).p by omega), if_pos h1]
    · rw [if_neg h1, if_neg h1]
      by_cases h3 : i = (nd ns j).p
      · rw [if_pos h3, if_pos (by omega), decide_eq_true h3]
      · rw [if_neg h3, decide_eq_false h3]
theorem fn_rch {n : Nat} {ns : List N3} (w : WF n ns) {r : Nat} (hr : r < ns.length) (γ : Nat → Bool) : ∀ k, k ≤ n → ∃ j, Rch ns r j ∧ k ≤ (nd ns j).p ∧ ∀ α, fn n ns j α = fn n ns r (ovr k γ α)
  | 0, _ => ⟨r, .refl, Nat.zero_le _, fun α => by
      have : ovr 0 γ α = α := by funext i; unfold ovr; rw [if_neg (Nat.not_lt_zero _)]
      rw [this]⟩
  | k + 1, hk => by
    obtain ⟨j, h1, h2, h3⟩ := fn_rch w hr γ k (by omega)
    have hj := h1.lt w hr
    have e : ∀ α, ovr (k + 1) γ α = ovr k γ (up α k (γ k)) := fun α => by
      funext i
      unfold ovr up
      by_cases g1 : i < k
      · rw [if_pos (by omega), if_pos g1]
      · rw [if_neg g1]
        by_cases g2 : i = k
        · rw [if_pos (by omega), if_pos g2, g2]
        · rw [if_neg (by omega), if_neg g2]
    rcases Nat.lt_or_ge k (nd ns j).p with hlt | hge
    · exact ⟨j, h1, hlt, fun α => by rw [e, ← h3, fn_up w α _ hj hlt]⟩
    · have hp : (nd ns j).p = k := by omega
      have hj2 := w.nonconst (show (nd ns j).p < n by omega)
      have hl := w.lp j hj2 hj
      have hh := w.hp j hj2 hj
      cases hg : γ k with
      | false => exact ⟨(nd ns j).l, h1.low hj2, by omega, fun α => by rw [e, ← h3, fn_low2 w hj2 hj, hp, hg]⟩
      | true => exact ⟨(nd ns j).h, h1.high hj2, by omega, fun α => by rw [e, ← h3, fn_high2 w hj2 hj, hp, hg]⟩
end Go.Proofs.Ytbhgahjeocnfcaa
namespace Go.Proofs.Ytbhgahjeocnfcaa
open Go Go.Cx Go.RowKit
set_option linter.unusedVariables false
set_option linter.unusedSimpArgs false
set_option maxHeartbeats 4000000
attribute [local irreducible] J JC thenK blockK loopK drawK retK QW Qt pel List.set Calls
open Go.Maps
set_option maxRecDepth 8000
attribute [local irreducible] JE Br eK0 eK3 brK
theorem AndL_C {n : Nat} {K : KS} {s : SS} (so : SOk n K s) (a : Nat) (ha : a < s.ns.length) (b : Nat) (hb : b < s.ns.length) {m : Nat} {Φ : Nat → List ((Nat → Bool) → Bool)} (lv : Lev n Φ m) {G : BF0} (hG : ∀ α, (if fn n s.ns a α then fn n s.ns b α else fn n s.ns 0 α) = G α) (hi : InL n Φ 0 G) (hfull : s.ns.length + m < 1048576) {w0 w : World} {R : Heap} {L : List Heap} {b0 c1 da db : Nat} (r1 : Rd R L c1 (ptrS b0)) (ra : Rd R L da (intO a)) (rb : Rd R L db (intO b)) (hw : H w0 R (sF K b0 s ++ L) w) :
    Calls Try.prog 72 #[.pointer (some ⟨c1, 0, none⟩), .pointer (some ⟨da, 0, none⟩), .pointer (some ⟨db, 0, none⟩)] w fun e w' => ∃ v L', e = .returned v ∧ H w0 R L' w' ∧ ∃ s' y, v = .int .i64 ((y : Nat) : Int) ∧ L' = sF K b0 s' ++ L ∧ Res n K s s' m y G := by
  have two := so.wf.two
  unfold ptrS at r1
  unfold sF at hw
  have ra2 := ra
  unfold intO at ra2
  have rb2 := rb
  unfold intO at rb2
  simp only [List.cons_append, List.nil_append] at hw
  refine calls_in Try.func72 Try.ntmps72 rfl rfl (hw) ?_
  repeat' first
    | (refine J.isJ ?_; first | (first | (refine J.o 4 ?_; first | refine J.lR hΓ ?_ (hr := r1.tl.tl.tl.tl) | refine J.lR hΓ ?_ (hr := ra2.tl.tl.tl.tl) | refine J.lR hΓ ?_ (hr := rb2.tl.tl.tl.tl)) | (refine J.fc 60 ?_; refine J.callx eCh rfl rfl (fun w hw => ch3_lev so a b 0 ha hb (by omega) lv hG hi hfull hw) ?_; rintro _ _ ⟨s1, y1, rfl, rfl, rr1⟩)) | (first | (refine J.o 0 ?_; refine J.ev' hΓ ?_) | refine J.nil ?_ | (refine J.o 4 ?_; first | refine J.lR hΓ ?_) | (refine J.o 3 ?_; first | refine J.ev' hΓ ?_) | (refine J.o 10 ?_; refine J.ev' hΓ ?_) | (refine J.o 11 ?_; refine J.ev' hΓ ?_)))
    | (first | refine JC.seq ?_ | refine JC.region ?_ | refine JC.ret ?_ | refine thenK.nn ?_)
    | (fail)
    | fail
  refine ret1f rfl rfl rfl (fun w1 hw => ⟨_, _, rfl, hw, s1, y1, rfl, rfl, rr1⟩)
theorem AndL_any {n : Nat} {K : KS} {s : SS} (so : SOk n K s) (a : Nat) (ha : a < s.ns.length) (b : Nat) (hb : b < s.ns.length) {m : Nat} {Φ : Nat → List ((Nat → Bool) → Bool)} (lv : Lev n Φ m) {G : BF0} (hG : ∀ α, (if fn n s.ns a α then fn n s.ns b α else fn n s.ns 0 α) = G α) (hi : InL n Φ 0 G) (hfull : s.ns.length + m < 1048576) {w0 w : World} {R : Heap} {L : List Heap} {b0 : Nat} (hw : H w0 R (sF K b0 s ++ L) w) :
    Calls Try.prog 28 #[.pointer (some ⟨b0, 0, none⟩), .int .i64 (a : Int), .int .i64 (b : Int)] w fun e w' => ∃ v L', e = .returned v ∧ H w0 R L' w' ∧ ∃ s' y, v = .tuple #[.int .i64 ((y : Nat) : Int), .int .i64 0] ∧ L' = sF K b0 s' ++ L ∧ Res n K s s' m y G := by
  unfold sF at hw
  simp only [List.cons_append, List.nil_append] at hw
  refine calls_in Try.func28 Try.ntmps28 rfl rfl (hw) ?_
  refine JC.seq ?_
  refine JC.region ?_
  refine J.isJ ?_
  refine J.o 6 ?_
  refine J.bx (fun c1 => ?_)
  refine J.isJ ?_
  refine J.o 6 ?_
  refine J.bx (fun da => ?_)
  refine J.isJ ?_
  refine J.o 6 ?_
  refine J.bx (fun db => ?_)
  repeat' first
    | (refine J.isJ ?_; first | (first | (refine J.o 14 ?_; refine J.mfV [.pointer (some ⟨c1, 0, none⟩), .pointer (some ⟨da, 0, none⟩), .pointer (some ⟨db, 0, none⟩)] hΓ ?_) | (refine J.o 4 ?_; first | refine J.lR hΓ ?_ (hr := Rd.hd) | refine J.lR hΓ ?_ (hr := Rd.hd.tl) | refine J.lR hΓ ?_ (hr := Rd.hd.tl.tl)) | (refine J.o 9 ?_; refine J.bl hΓ (fun ba => ?_)) | (refine J.fc 56 ?_; refine J.callx eTry rfl rfl (fun w hw => try_any so (Q := fun s' y => Res n K s s' m y G) eAndC [(a : Int), (b : Int)] (some ⟨ba, 0, none⟩) 2 _ (slArg ba [(a : Int), (b : Int)] 3) (by show 2 ≤ 1000; omega) (L := [(ba, Obj.cells ⟨[.int .i64 (a : Int), .int .i64 (b : Int)]⟩ 3 (0, 0))] :: [(db, intO b)] :: [(da, intO a)] :: [(c1, ptrS b0)] :: L) (RdH.hd) (chk_ok (l := [a, b]) (by simp only [List.mem_cons, List.not_mem_nil, or_false, forall_eq_or_imp, forall_eq]; exact ⟨ha, hb⟩)) (fun Lx w hw => AndL_C so a ha b hb lv hG hi hfull (Rd.app Lx Rd.hd.tl.tl.tl) (Rd.app Lx Rd.hd.tl.tl) (Rd.app Lx Rd.hd.tl) hw) (H.sel (l := [_, _, _, _, _, _, _, _]) (M := L) hw [4, 5, 6, 7, 0, 1, 2, 3])) ?_; rintro _ _ ⟨s1, y1, rfl, rfl, hq⟩)) | (first | (refine J.o 0 ?_; refine J.ev' hΓ ?_) | refine J.nil ?_ | (refine J.o 4 ?_; first | refine J.lR hΓ ?_) | (refine J.o 3 ?_; first | refine J.ev' hΓ ?_) | (refine J.o 6 ?_; refine J.bx (fun _ => ?_)) | (refine J.o 9 ?_; refine J.bl hΓ (fun _ => ?_)) | (refine J.o 10 ?_; refine J.ev' hΓ ?_) | (refine J.o 11 ?_; refine J.ev' hΓ ?_)))
    | (first | refine JC.seq ?_ | refine JC.region ?_ | refine JC.ret ?_ | refine thenK.nn ?_)
    | (fail)
    | fail
  refine ret2f rfl rfl rfl rfl rfl (fun w1 hw => ⟨_, _, rfl, H.sel (l := [_, _, _, _, _, _, _, _]) (M := L) hw [0, 1, 2, 3], s1, y1, rfl, rfl, hq⟩)
theorem XorL_C {n : Nat} {K : KS} {s : SS} (so : SOk n K s) (a : Nat) (ha : a < s.ns.length) (b : Nat) (hb : b < s.ns.length) {m1 m2 : Nat} {Φ1 Φ2 : Nat → List ((Nat → Bool) → Bool)} (lv1 : Lev n Φ1 m1) (lv2 : Lev n Φ2 m2) {G1 G : BF0} (hG1 : ∀ α, (!fn n s.ns b α) = G1 α) (hi1 : InL n Φ1 0 G1) (hG : ∀ α, (fn n s.ns a α != fn n s.ns b α) = G α) (hi : InL n Φ2 0 G) (hfull : s.ns.length + (m1 + m2) < 1048576) {w0 w : World} {R : Heap} {L : List Heap} {b0 c1 da db : Nat} (r1 : Rd R L c1 (ptrS b0)) (ra : Rd R L da (intO a)) (rb : Rd R L db (intO b)) (hw : H w0 R (sF K b0 s ++ L) w) :
    Calls Try.prog 71 #[.pointer (some ⟨c1, 0, none⟩), .pointer (some ⟨da, 0, none⟩), .pointer (some ⟨db, 0, none⟩)] w fun e w' => ∃ v L', e = .returned v ∧ H w0 R L' w' ∧ ∃ s' y, v = .int .i64 ((y : Nat) : Int) ∧ L' = sF K b0 s' ++ L ∧ Res n K s s' (m1 + m2) y G := by
  have two := so.wf.two
  unfold ptrS at r1
  unfold sF at hw
  have ra2 := ra
  unfold intO at ra2
  have rb2 := rb
  unfold intO at rb2
  simp only [List.cons_append, List.nil_append] at hw
  refine calls_in Try.func71 Try.ntmps71 rfl rfl (hw) ?_
  repeat' first
    | (refine J.isJ ?_; first | (fail) | (first | (refine J.o 0 ?_; refine J.ev' hΓ ?_) | refine J.nil ?_ | (refine J.o 3 ?_; first | refine J.ev' hΓ ?_) | (refine J.o 10 ?_; refine J.ev' hΓ ?_) | (refine J.o 11 ?_; refine J.ev' hΓ ?_)))
    | (first | refine JC.seq ?_ | refine JC.region ?_ | refine JC.ret ?_ | refine thenK.nn ?_ | refine drawK.nn ?_)
    | (fail)
    | fail
  refine JC.drawD L [(4, 0), (4, 1), (4, 2), (4, 3), (4, 5), (3, 4), (3, 6), (0, 7)] (by kernel_rfl) (by kernel_rfl) ?_
  refine JD.ld hΓ (fun w hw => H.sel (l := [_, _, _, _]) (M := L) hw []) r1 ?_
  refine JD.ld hΓ (fun w hw => H.sel (l := [_, _, _, _]) (M := L) hw []) ra2 ?_
  refine JD.ld hΓ (fun w hw => H.sel (l := [_, _, _, _]) (M := L) hw []) r1 ?_
  refine JD.ld hΓ (fun w hw => H.sel (l := [_, _, _, _]) (M := L) hw []) rb2 ?_
  refine JD.ld hΓ (fun w hw => H.sel (l := [_, _, _, _]) (M := L) hw []) rb2 ?_
  refine JD.callvd eCh rfl rfl rfl (fun w hw => ch3_lev so b 0 1 hb (by omega) (by omega) lv1 (fun α => by rw [← hG1, fn_0 so.wf, fn_1 so.wf]; cases fn n s.ns b α <;> rfl) hi1 (by omega) hw) ?_
  rintro _ _ ⟨s1, y1, rfl, rfl, ad1, f1⟩
  have l1 := ad1.le
  have e1 := ad1.ext.le
  refine ⟨fun w hw => H.sel (l := [_, _, _, _]) (M := L) hw [], ?_⟩
  unfold sF
  simp only [List.cons_append, List.nil_append]
  refine JD.callvd eCh rfl rfl rfl (fun w hw => ch3_lev ad1.ok a y1 b (by omega) ad1.lt (by omega) lv2 (fun α => by rw [fn_ext so.wf ad1.ext ha, fn_ext so.wf ad1.ext hb, f1, ← hG1, ← hG]; cases fn n s.ns a α <;> cases fn n s.ns b α <;> rfl) hi (by omega) hw) ?_
  rintro _ _ ⟨s2, y2, rfl, rfl, ad2, f2⟩
  have l2 := ad2.le
  refine ⟨fun w hw => H.sel (l := [_, _, _, _]) (M := L) hw [], ?_⟩
  unfold sF
  simp only [List.cons_append, List.nil_append]
  refine JD.ev hΓ ?_
  refine JD.nil ?_
  repeat' first
    | (refine J.isJ ?_; first | (fail) | (first | (refine J.o 0 ?_; refine J.ev' hΓ ?_) | refine J.nil ?_ | (refine J.o 3 ?_; first | refine J.ev' hΓ ?_) | (refine J.o 10 ?_; refine J.ev' hΓ ?_) | (refine J.o 11 ?_; refine J.ev' hΓ ?_)))
    | (first | refine JC.seq ?_ | refine JC.region ?_ | refine JC.ret ?_ | refine thenK.nn ?_ | refine drawK.nn ?_)
    | (fail)
    | fail
  refine ret1f rfl rfl rfl (fun w1 hw => ⟨_, _, rfl, hw, s2, y2, rfl, rfl, ⟨ad2.ok, ad1.ext.trans ad2.ext, by omega, ad2.lt⟩, f2⟩)
theorem XorL_any {n : Nat} {K : KS} {s : SS} (so : SOk n K s) (a : Nat) (ha : a < s.ns.length) (b : Nat) (hb : b < s.ns.length) {m1 m2 : Nat} {Φ1 Φ2 : Nat → List ((Nat → Bool) → Bool)} (lv1 : Lev n Φ1 m1) (lv2 : Lev n Φ2 m2) {G1 G : BF0} (hG1 : ∀ α, (!fn n s.ns b α) = G1 α) (hi1 : InL n Φ1 0 G1) (hG : ∀ α, (fn n s.ns a α != fn n s.ns b α) = G α) (hi : InL n Φ2 0 G) (hfull : s.ns.length + (m1 + m2) < 1048576) {w0 w : World} {R : Heap} {L : List Heap} {b0 : Nat} (hw : H w0 R (sF K b0 s ++ L) w) :
    Calls Try.prog 27 #[.pointer (some ⟨b0, 0, none⟩), .int .i64 (a : Int), .int .i64 (b : Int)] w fun e w' => ∃ v L', e = .returned v ∧ H w0 R L' w' ∧ ∃ s' y, v = .tuple #[.int .i64 ((y : Nat) : Int), .int .i64 0] ∧ L' = sF K b0 s' ++ L ∧ Res n K s s' (m1 + m2) y G := by
  unfold sF at hw
  simp only [List.cons_append, List.nil_append] at hw
  refine calls_in Try.func27 Try.ntmps27 rfl rfl (hw) ?_
  refine JC.seq ?_
  refine JC.region ?_
  refine J.isJ ?_
  refine J.o 6 ?_
  refine J.bx (fun c1 => ?_)
  refine J.isJ ?_
  refine J.o 6 ?_
  refine J.bx (fun da => ?_)
  refine J.isJ ?_
  refine J.o 6 ?_
  refine J.bx (fun db => ?_)
  repeat' first
    | (refine J.isJ ?_; first | (first | (refine J.o 14 ?_; refine J.mfV [.pointer (some ⟨c1, 0, none⟩), .pointer (some ⟨da, 0, none⟩), .pointer (some ⟨db, 0, none⟩)] hΓ ?_) | (refine J.o 4 ?_; first | refine J.lR hΓ ?_ (hr := Rd.hd) | refine J.lR hΓ ?_ (hr := Rd.hd.tl) | refine J.lR hΓ ?_ (hr := Rd.hd.tl.tl)) | (refine J.o 9 ?_; refine J.bl hΓ (fun ba => ?_)) | (refine J.fc 56 ?_; refine J.callx eTry rfl rfl (fun w hw => try_any so (Q := fun s' y => Res n K s s' (m1 + m2) y G) eXorC [(a : Int), (b : Int)] (some ⟨ba, 0, none⟩) 2 _ (slArg ba [(a : Int), (b : Int)] 3) (by show 2 ≤ 1000; omega) (L := [(ba, Obj.cells ⟨[.int .i64 (a : Int), .int .i64 (b : Int)]⟩ 3 (0, 0))] :: [(db, intO b)] :: [(da, intO a)] :: [(c1, ptrS b0)] :: L) (RdH.hd) (chk_ok (l := [a, b]) (by simp only [List.mem_cons, List.not_mem_nil, or_false, forall_eq_or_imp, forall_eq]; exact ⟨ha, hb⟩)) (fun Lx w hw => XorL_C so a ha b hb lv1 lv2 hG1 hi1 hG hi hfull (Rd.app Lx Rd.hd.tl.tl.tl) (Rd.app Lx Rd.hd.tl.tl) (Rd.app Lx Rd.hd.tl) hw) (H.sel (l := [_, _, _, _, _, _, _, _]) (M := L) hw [4, 5, 6, 7, 0, 1, 2, 3])) ?_; rintro _ _ ⟨s1, y1, rfl, rfl, hq⟩)) | (first | (refine J.o 0 ?_; refine J.ev' hΓ ?_) | refine J.nil ?_ | (refine J.o 4 ?_; first | refine J.lR hΓ ?_) | (refine J.o 3 ?_; first | refine J.ev' hΓ ?_) | (refine J.o 6 ?_; refine J.bx (fun _ => ?_)) | (refine J.o 9 ?_; refine J.bl hΓ (fun _ => ?_)) | (refine J.o 10 ?_; refine J.ev' hΓ ?_) | (refine J.o 11 ?_; refine J.ev' hΓ ?_)))
    | (first | refine JC.seq ?_ | refine JC.region ?_ | refine JC.ret ?_ | refine thenK.nn ?_)
    | (fail)
    | fail
  refine ret2f rfl rfl rfl rfl rfl (fun w1 hw => ⟨_, _, rfl, H.sel (l := [_, _, _, _, _, _, _, _]) (M := L) hw [0, 1, 2, 3], s1, y1, rfl, rfl, hq⟩)
end Go.Proofs.Ytbhgahjeocnfcaa
namespace Go.Proofs.Ytbhgahjeocnfcaa
open Go Go.Cx Go.RowKit
set_option linter.unusedVariables false
set_option linter.unusedSimpArgs false
set_option maxHeartbeats 4000000
attribute [local irreducible] J JC thenK blockK loopK drawK retK QW Qt pel List.set Calls
open Go.Maps Go.Lib
set_option maxRecDepth 8000
attribute [local irreducible] JE Br eK0 eK3 brK pc
theorem asg_inj {n r q : Nat} (hr : r < 2 ^ n) (hq : q < 2 ^ n) (h : ∀ k, k < n → asg n r k = asg n q k) : r = q := by
  refine Nat.eq_of_testBit_eq fun i => ?_
  rcases Nat.lt_or_ge i n with hi | hi
  · have := h (n - 1 - i) (by omega)
    unfold asg at this
    rw [decide_eq_true (by omega), Bool.true_and, Bool.true_and, show n - 1 - (n - 1 - i) = i by omega] at this
    exact this
  · rw [Nat.testBit_lt_two_pow (Nat.lt_of_lt_of_le hr (Nat.pow_le_pow_right (by decide) hi)), Nat.testBit_lt_two_pow (Nat.lt_of_lt_of_le hq (Nat.pow_le_pow_right (by decide) hi))]
end Go.Proofs.Ytbhgahjeocnfcaa
namespace Go.Proofs.Ytbhgahjeocnfcaa
open Go Go.Cx Go.RowKit
set_option linter.unusedVariables false
set_option linter.unusedSimpArgs false
set_option maxHeartbeats 4000000
attribute [local irreducible] J JC thenK blockK loopK drawK retK QW Qt pel List.set Calls
open Go.Maps Go.Lib
set_option maxRecDepth 8000
attribute [local irreducible] JE Br eK0 eK3 brK pc
theorem xr_top (n p : Nat) (h : p < n) (α : Nat → Bool) : xrF n p 0 α = (α p != xrF n (p + 1) 0 α) := by
  have h1 : xrF n p 0 = xrF n p p := by
    funext β; unfold xrF; congr 1; funext s i
    have : (i < 0 ∨ i < p) ↔ (i < p ∨ i < p) := by omega
    by_cases g : i < 0 ∨ i < p
    · rw [if_pos g, if_pos (this.1 g)]
    · rw [if_neg g, if_neg (fun x => g (this.2 x))]
  have h2 : xrF n (p + 1) 0 = xrF n p (p + 1) := by
    funext β; unfold xrF; congr 1; funext s i
    have : (i < 0 ∨ i < p + 1) ↔ (i < p + 1 ∨ i < p) := by omega
    by_cases g : i < 0 ∨ i < p + 1
    · rw [if_pos g, if_pos (this.1 g)]
    · rw [if_neg g, if_neg (fun x => g (this.2 x))]
  rw [h1, h2, xrF_s n p p h (Nat.le_refl _)]
theorem xr_end (n : Nat) (α : Nat → Bool) : xrF n n 0 α = false := by
  unfold xrF
  have : ∀ (l : List Nat) (s : Bool), (∀ i ∈ l, i < n) → l.foldl (fun s i => if i < 0 ∨ i < n then s else s != α i) s = s := by
    intro l
    induction l with
    | nil => intro s _; rfl
    | cons i l ih =>
      intro s h
      have := h i List.mem_cons_self
      rw [List.foldl_cons, if_pos (.inr this), ih _ fun x hx => h x (List.mem_cons_of_mem _ hx)]
  exact this _ _ fun i hi => List.mem_range.1 hi
theorem an_top (n p : Nat) (h : p < n) (α : Nat → Bool) : anF n p 0 α = (α p && anF n (p + 1) 0 α) := by
  rw [Bool.eq_iff_iff, Bool.and_eq_true, anF_iff, anF_iff]
  constructor
  · intro g
    exact ⟨g p h (Nat.zero_le _) (Nat.le_refl _), fun i h1 _ h3 => g i h1 (Nat.zero_le _) (by omega)⟩
  · rintro ⟨g1, g2⟩ i h1 _ h3
    by_cases e : i = p
    · rw [e]; exact g1
    · exact g2 i h1 (Nat.zero_le _) (by omega)
theorem an_end (n : Nat) (α : Nat → Bool) : anF n n 0 α = true := (anF_iff n n 0 α).2 fun i h1 _ h3 => by omega
def parF (γ : Nat → Bool) : Nat → Bool
  | 0 => false
  | k + 1 => parF γ k != γ k
theorem xr_split (n : Nat) (β : Nat → Bool) : ∀ k, k ≤ n → xrF n 0 0 β = (parF β k != xrF n 0 k β)
  | 0, _ => by unfold parF; cases xrF n 0 0 β <;> rfl
  | k + 1, h => by
    rw [xr_split n β k (by omega), xrF_s n 0 k (by omega) (Nat.zero_le _), parF]
    cases parF β k <;> cases β k <;> cases xrF n 0 (k + 1) β <;> rfl
theorem par_ovr (γ α : Nat → Bool) (k : Nat) : ∀ j, j ≤ k → parF (ovr k γ α) j = parF γ j
  | 0, _ => rfl
  | j + 1, h => by
    rw [parF, parF, par_ovr γ α k j (by omega)]
    unfold ovr
    rw [if_pos (by omega)]
theorem xr_ovr (n : Nat) (γ α : Nat → Bool) (k : Nat) : xrF n 0 k (ovr k γ α) = xrF n 0 k α := by
  unfold xrF
  have : ∀ (l : List Nat) (s : Bool), l.foldl (fun s i => if i < k ∨ i < 0 then s else s != ovr k γ α i) s = l.foldl (fun s i => if i < k ∨ i < 0 then s else s != α i) s := by
    intro l
    induction l with
    | nil => intro s; rfl
    | cons i l ih =>
      intro s
      rw [List.foldl_cons, List.foldl_cons, ih]
      congr 1
      by_cases g : i < k ∨ i < 0
      · rw [if_pos g, if_pos g]
      · rw [if_neg g, if_neg g]
        unfold ovr
        rw [if_neg (fun x => g (.inl x))]
  exact this _ _
theorem xr_left (n : Nat) (γ α : Nat → Bool) {k : Nat} (hk : k ≤ n) : xrF n 0 0 (ovr k γ α) = (parF γ k != xrF n 0 k α) := by
  rw [xr_split n _ k hk, par_ovr γ α k k (Nat.le_refl _), xr_ovr]
theorem xr_flip (n : Nat) {j : Nat} (hj : j < n) (α : Nat → Bool) (b : Bool) : xrF n 0 j (up α j b) = (b != xrF n 0 (j + 1) α) := by
  rw [xrF_s n 0 j hj (Nat.zero_le _), up_eq, xrF_up n 0 (j + 1) b α j (.inl (Nat.lt_succ_self j))]
theorem xr_ne (n : Nat) {i j : Nat} (hi : i < n) (hij : i < j) (b c : Bool) : (fun α => (b != xrF n 0 i α)) ≠ fun α => (c != xrF n 0 j α) := fun e => by
  have h0 := congrFun e (up (fun _ => false) i false)
  have h1 := congrFun e (up (fun _ => false) i true)
  rw [xr_flip n hi, xrF_up n 0 j _ _ i (.inl hij)] at h0 h1
  revert h0 h1
  cases b <;> cases c <;> cases xrF n 0 (i + 1) (fun _ => false) <;> cases xrF n 0 j (fun _ => false) <;> decide
theorem len_bf {n : Nat} {ns : List N3} (w : WF n ns) {A : List Nat} (hA : A.Nodup) (hl : ∀ j ∈ A, j < ns.length) {T : List BF} (hT : T.Nodup) (hm : ∀ G, G ∈ T ↔ ∃ j ∈ A, ∀ α, fn n ns j α = G α) : A.length = T.length := by
  have hN : (A.map fun j => fn n ns j).Nodup := by
    rw [List.Nodup, List.pairwise_map]
    refine List.Pairwise.imp_of_mem (fun {a b} ha hb hab e => hab ?_) hA
    exact w.eq (hl a ha) (hl b hb) fun α => congrFun e α
  have hp : (A.map fun j => fn n ns j).length = T.length := by
    refine Nat.le_antisymm (nodup_le _ _ hN fun G hG => ?_) (nodup_le _ _ hT fun G hG => ?_)
    · obtain ⟨j, hj, rfl⟩ := List.mem_map.1 hG
      exact (hm _).2 ⟨j, hj, fun _ => rfl⟩
    · obtain ⟨j, hj, e⟩ := (hm G).1 hG
      exact List.mem_map.2 ⟨j, hj, funext e⟩
  rwa [List.length_map] at hp
def xrT (n : Nat) : List BF := ((List.range n).map fun j => (fun α => (false != xrF n 0 j α))) ++ ((List.range (n - 1)).map fun j => (fun α => (true != xrF n 0 (j + 1) α)))
theorem xrT_mem (n : Nat) (G : BF) : G ∈ xrT n ↔ ∃ j b, j < n ∧ (j = 0 → b = false) ∧ G = fun α => (b != xrF n 0 j α) := by
  unfold xrT
  rw [List.mem_append, List.mem_map, List.mem_map]
  constructor
  · rintro (⟨j, hj, rfl⟩ | ⟨j, hj, rfl⟩)
    · exact ⟨j, false, List.mem_range.1 hj, fun _ => rfl, rfl⟩
    · exact ⟨j + 1, true, by have := List.mem_range.1 hj; omega, fun h => by omega, rfl⟩
  · rintro ⟨j, b, hj, hb, rfl⟩
    cases b with
    | false => exact .inl ⟨j, List.mem_range.2 hj, rfl⟩
    | true =>
      have : j ≠ 0 := fun e => by have := hb e; cases this
      exact .inr ⟨j - 1, List.mem_range.2 (by omega), by rw [show j - 1 + 1 = j by omega]⟩
theorem xrT_nodup (n : Nat) : (xrT n).Nodup := by
  unfold xrT
  rw [List.nodup_append]
  refine ⟨?_, ?_, ?_⟩
  · rw [List.Nodup, List.pairwise_map]
    refine List.Pairwise.imp_of_mem (fun {a b} ha hb hab => ?_) List.pairwise_lt_range
    exact xr_ne n (List.mem_range.1 ha) hab false false
  · rw [List.Nodup, List.pairwise_map]
    refine List.Pairwise.imp_of_mem (fun {a b} ha hb hab => ?_) List.pairwise_lt_range
    exact xr_ne n (by have := List.mem_range.1 ha; omega) (by omega) true true
  · intro a ha b hb e
    obtain ⟨i, hi, rfl⟩ := List.mem_map.1 ha
    obtain ⟨j, hj, rfl⟩ := List.mem_map.1 hb
    have hi := List.mem_range.1 hi
    have hj := List.mem_range.1 hj
    rcases Nat.lt_trichotomy i (j + 1) with g | g | g
    · exact xr_ne n hi g false true e
    · rw [g] at e
      have := congrFun e fun _ => false
      revert this
      cases xrF n 0 (j + 1) (fun _ => false) <;> decide
    · exact xr_ne n (by omega) g true false e.symm
theorem xr_size {n : Nat} {ns : List N3} (w : WF n ns) {r : Nat} (hr : r < ns.length) (h : ∀ α, fn n ns r α = xrF n 0 0 α) {A : List Nat} (hA : A.Nodup) (mA : ∀ j, j ∈ A ↔ 2 ≤ j ∧ Rch ns r j) : A.length = 2 * n - 1 := by
  have := len_bf w hA (fun j hj => ((mA j).1 hj).2.lt w hr) (xrT_nodup n) fun G => ?_
  · rw [this]
    unfold xrT
    rw [List.length_append, List.length_map, List.length_map, List.length_range, List.length_range]
    omega
  · rw [xrT_mem]
    constructor
    · rintro ⟨j, b, hj, hb, rfl⟩
      obtain ⟨γ, hγ⟩ : ∃ γ : Nat → Bool, parF γ j = b := by
        cases j with
        | zero => exact ⟨fun _ => false, (hb rfl).symm⟩
        | succ j =>
          refine ⟨fun i => if i = j then b else false, ?_⟩
          have hz : ∀ q, q ≤ j → parF (fun i => if i = j then b else false) q = false := by
            intro q
            induction q with
            | zero => intro _; rfl
            | succ q ih => intro hq; rw [parF, ih (by omega), if_neg (by omega)]; rfl
          rw [parF, hz j (Nat.le_refl _), if_pos rfl]
          cases b <;> rfl
      obtain ⟨i, h1, h2, h3⟩ := fn_rch w hr γ j (by omega)
      have hf : ∀ α, fn n ns i α = (b != xrF n 0 j α) := fun α => by rw [h3, h, xr_left n γ α (by omega), hγ]
      refine ⟨i, (mA i).2 ⟨?_, h1⟩, hf⟩
      rcases Nat.lt_or_ge i 2 with g | g
      · exfalso
        have hc : ∀ α, fn n ns i α = decide (i = 1) := fun α => by unfold fn; rw [ev_const _ _ _ g]
        have e0 := hf (up (fun _ => false) j false)
        have e1 := hf (up (fun _ => false) j true)
        rw [hc, xr_flip n hj] at e0 e1
        rw [e0] at e1
        revert e1
        cases b <;> cases xrF n 0 (j + 1) (fun _ => false) <;> decide
      · exact g
    · rintro ⟨i, hi, hG⟩
      obtain ⟨h2, hri⟩ := (mA i).1 hi
      have hil := hri.lt w hr
      have hp := w.pl i h2 hil
      obtain ⟨γ, hγ⟩ := rch_fn w hr hri
      refine ⟨(nd ns i).p, parF γ (nd ns i).p, hp, fun e => by rw [e]; rfl, funext fun α => ?_⟩
      rw [← hG, hγ, h, xr_left n γ α (by omega)]
theorem an_ovr (n : Nat) (γ α : Nat → Bool) {k : Nat} (hk : k ≤ n) : anF n 0 0 (ovr k γ α) = ((List.range k).all γ && anF n 0 k α) := by
  rw [Bool.eq_iff_iff, Bool.and_eq_true, anF_iff, anF_iff, List.all_eq_true]
  constructor
  · intro g
    refine ⟨fun i hi => ?_, fun i h1 h2 _ => ?_⟩
    · have hi := List.mem_range.1 hi
      have := g i (by omega) (Nat.zero_le _) (Nat.zero_le _)
      unfold ovr at this
      rwa [if_pos hi] at this
    · have := g i h1 (Nat.zero_le _) (Nat.zero_le _)
      unfold ovr at this
      rwa [if_neg (by omega)] at this
  · rintro ⟨g1, g2⟩ i h1 _ _
    unfold ovr
    split
    · rename_i h; exact g1 i (List.mem_range.2 h)
    · exact g2 i h1 (by omega) (Nat.zero_le _)
def anT (n : Nat) : List BF := (List.range n).map fun j => anF n 0 j
theorem anT_nodup (n : Nat) : (anT n).Nodup := by
  unfold anT
  rw [List.Nodup, List.pairwise_map]
  refine List.Pairwise.imp_of_mem (fun {a b} ha hb hab e => ?_) List.pairwise_lt_range
  have ha := List.mem_range.1 ha
  have h1 := congrFun e (up (fun _ => true) a false)
  have h2 : anF n 0 b (up (fun _ => true) a false) = true := (anF_iff _ _ _ _).2 fun i _ h2 _ => by rw [up_ne _ _ (by omega)]
  rw [h2] at h1
  have := (anF_iff _ _ _ _).1 h1 a ha (Nat.le_refl _) (Nat.zero_le _)
  rw [up_eq] at this
  cases this
theorem an_size {n : Nat} {ns : List N3} (w : WF n ns) {r : Nat} (hr : r < ns.length) (h : ∀ α, fn n ns r α = anF n 0 0 α) {A : List Nat} (hA : A.Nodup) (mA : ∀ j, j ∈ A ↔ 2 ≤ j ∧ Rch ns r j) : A.length = n := by
  have hnc : ∀ j, j < n → ¬ Cst (anF n 0 j) := fun j hj hc => by
    have h1 := hc (fun _ => true) (up (fun _ => true) j false)
    have h2 : anF n 0 j (fun _ => true) = true := (anF_iff _ _ _ _).2 fun _ _ _ _ => rfl
    rw [h2] at h1
    have := (anF_iff _ _ _ _).1 h1.symm j hj (Nat.le_refl _) (Nat.zero_le _)
    rw [up_eq] at this
    cases this
  have := len_bf w hA (fun j hj => ((mA j).1 hj).2.lt w hr) (anT_nodup n) fun G => ?_
  · rw [this]
    unfold anT
    rw [List.length_map, List.length_range]
  · unfold anT
    rw [List.mem_map]
    constructor
    · rintro ⟨j, hj, rfl⟩
      have hj := List.mem_range.1 hj
      obtain ⟨i, h1, h2, h3⟩ := fn_rch w hr (fun _ => true) j (by omega)
      have hf : ∀ α, fn n ns i α = anF n 0 j α := fun α => by
        rw [h3, h, an_ovr n _ α (by omega)]
        have : (List.range j).all (fun _ => true) = true := List.all_eq_true.2 fun _ _ => rfl
        rw [this, Bool.true_and]
      refine ⟨i, (mA i).2 ⟨?_, h1⟩, hf⟩
      rcases Nat.lt_or_ge i 2 with g | g
      · exfalso
        refine hnc j hj fun α β => ?_
        rw [← hf, ← hf]
        unfold fn; rw [ev_const _ _ _ g, ev_const _ _ _ g]
      · exact g
    · rintro ⟨i, hi, hG⟩
      obtain ⟨h2, hri⟩ := (mA i).1 hi
      have hil := hri.lt w hr
      have hp := w.pl i h2 hil
      obtain ⟨γ, hγ⟩ := rch_fn w hr hri
      refine ⟨(nd ns i).p, List.mem_range.2 hp, funext fun α => ?_⟩
      have hfi : ∀ α, fn n ns i α = ((List.range (nd ns i).p).all γ && anF n 0 (nd ns i).p α) := fun α => by rw [hγ, h, an_ovr n γ α (by omega)]
      cases hg : (List.range (nd ns i).p).all γ with
      | true => rw [← hG, hfi, hg, Bool.true_and]
      | false =>
        exfalso
        refine fn_noncst w h2 hil fun α β => ?_
        rw [hfi, hfi, hg]; rfl
theorem xr_count (m : Nat) : cntF (m + 1) (xrF (m + 1) 0 0) = 2 ^ m := by
  unfold cntF
  rw [range_two, List.map_append, List.map_map, List.count_append]
  have hup : ∀ r, r < 2 ^ m → asg (m + 1) (r + 2 ^ m) = up (asg (m + 1) r) 0 true ∧ asg (m + 1) r 0 = false := fun r hr => by
    have h0 : m + 1 - 0 = m + 1 := by omega
    refine ⟨funext fun j => ?_, asg_lt h0 hr⟩
    by_cases hj : j = 0
    · subst hj
      rw [up_eq, asg_hi h0, asg_lt h0 hr]; rfl
    · rw [up_ne _ _ hj, asg_other h0 (by omega)]
  have hneg : (List.range (2 ^ m)).map ((fun r => xrF (m + 1) 0 0 (asg (m + 1) r)) ∘ fun r => r + 2 ^ m) = (List.range (2 ^ m)).map fun r => !xrF (m + 1) 0 0 (asg (m + 1) r) := by
    refine List.map_congr_left fun r hr => ?_
    have hr := List.mem_range.1 hr
    obtain ⟨h1, h2⟩ := hup r hr
    show xrF (m + 1) 0 0 (asg (m + 1) (r + 2 ^ m)) = _
    rw [h1, xr_flip (m + 1) (by omega), xrF_s (m + 1) 0 0 (by omega) (Nat.le_refl _), h2]
    cases xrF (m + 1) 0 1 (asg (m + 1) r) <;> rfl
  rw [hneg]
  have hcn : ∀ (L : List Nat) (g : Nat → Bool), (L.map g).count true + (L.map fun r => !g r).count true = L.length := by
    intro L g
    induction L with
    | nil => rfl
    | cons x L ih =>
      simp only [List.map_cons, List.count_cons, List.length_cons]
      cases g x <;> simp <;> omega
  rw [hcn, List.length_range]
theorem cnt_one (i : Nat) : ∀ m, ((List.range m).map fun r => decide (r = i)).count true = if i < m then 1 else 0
  | 0 => by simp
  | m + 1 => by
    rw [List.range_succ, List.map_append, List.count_append, cnt_one i m]
    by_cases h : m = i
    · subst h; simp
    · rcases Nat.lt_or_ge i m with g | g
      · rw [if_pos g, if_pos (by omega)]; simp [h]
      · rw [if_neg (by omega), if_neg (by omega)]; simp [h]
theorem an_count (n : Nat) : cntF n (anF n 0 0) = 1 := by
  unfold cntF
  have he : (List.range (2 ^ n)).map (fun r => anF n 0 0 (asg n r)) = (List.range (2 ^ n)).map fun r => decide (r = 2 ^ n - 1) := by
    refine List.map_congr_left fun r hr => ?_
    have hr := List.mem_range.1 hr
    rw [Bool.eq_iff_iff, anF_iff, decide_eq_true_iff]
    have hp := Nat.two_pow_pos n
    constructor
    · intro g
      refine asg_inj (n := n) hr (by omega) fun k hk => ?_
      rw [g k hk (Nat.zero_le _) (Nat.zero_le _)]
      unfold asg
      rw [decide_eq_true hk, Nat.testBit_two_pow_sub_one, decide_eq_true (by omega)]; rfl
    · rintro rfl i h1 _ _
      unfold asg
      rw [decide_eq_true h1, Nat.testBit_two_pow_sub_one, decide_eq_true (by omega)]; rfl
  rw [he, cnt_one, if_pos (by have := Nat.two_pow_pos n; omega)]
end Go.Proofs.Ytbhgahjeocnfcaa
namespace Go.Proofs.Ytbhgahjeocnfcaa
open Go Go.Cx Go.RowKit
set_option linter.unusedVariables false
set_option linter.unusedSimpArgs false
set_option maxHeartbeats 4000000
attribute [local irreducible] J JC thenK blockK loopK drawK retK QW Qt pel List.set Calls
open Go.Maps Go.Lib
set_option maxRecDepth 8000
attribute [local irreducible] JE Br eK0 eK3 brK pc
section
variable {P : Program} {n : Nat} {w0 : World} {R : Heap} {l0 : List Oper} {K : Exit → Fr → List Heap → Prop} {f : Fr} {L : List Heap} {rest : List (Nat × Oper)} {κ : Nat}
variable {d : Nat} {ty : TypeId} {pos : String} {aft : Array Edge} {g : Option (Nat × Bool)} {t u : TypeId} {x y : Operand}
theorem J.eqT2 {Γ : List (Nat × TI)} {a b : Nat} (hΓ : Fits P Γ) (h : a = b) (k : J P n w0 R l0 K rest (upd f d (.bool true)) L) (hg : wantB n f l0 ⟨some d, .binOp .eql t x y u, ty, pos, aft, g⟩ = true := by exact rfl) (hx : Cx.ev n f x = .int .i64 (a : Int) := by exact rfl) (hy : Cx.ev n f y = .int .i64 (b : Int) := by exact rfl) (hv : pureEv Γ (Cx.ev n f) (.binOp .eql t x y u) = some (.bool ((a : Int) == (b : Int))) := by exact rfl) : J P n w0 R l0 K ((κ, ⟨some d, .binOp .eql t x y u, ty, pos, aft, g⟩) :: rest) f L := by
  subst h
  have e : ((a : Int) == (a : Int)) = true := by simp
  rw [e] at hv
  exact J.ev hΓ hg hv k
theorem J.eqIT {Γ : List (Nat × TI)} {a b : Int} (hΓ : Fits P Γ) (h : a = b) (k : J P n w0 R l0 K rest (upd f d (.bool true)) L) (hg : wantB n f l0 ⟨some d, .binOp .eql t x y u, ty, pos, aft, g⟩ = true := by exact rfl) (hx : Cx.ev n f x = .int .i64 a := by exact rfl) (hy : Cx.ev n f y = .int .i64 b := by exact rfl) (hv : pureEv Γ (Cx.ev n f) (.binOp .eql t x y u) = some (.bool (a == b)) := by exact rfl) : J P n w0 R l0 K ((κ, ⟨some d, .binOp .eql t x y u, ty, pos, aft, g⟩) :: rest) f L := by
  subst h
  have e : (a == a) = true := by simp
  rw [e] at hv
  exact J.ev hΓ hg hv k
end
end Go.Proofs.Ytbhgahjeocnfcaa
namespace Go.Proofs.Ytbhgahjeocnfcaa
open Go Go.Cx Go.RowKit
set_option linter.unusedVariables false
set_option linter.unusedSimpArgs false
set_option maxHeartbeats 4000000
attribute [local irreducible] J JC thenK blockK loopK drawK retK QW Qt pel List.set Calls
open Go.Maps Go.Lib
set_option maxRecDepth 8000
attribute [local irreducible] JE Br eK0 eK3 brK pc
theorem beq_S (b : ByteArray) : (b == b) = true := by
  show (b.data == b.data) = true
  exact beq_self_eq_true _
section
variable {P : Program} {n : Nat} {w0 : World} {R : Heap} {l0 : List Oper} {K : Exit → Fr → List Heap → Prop} {f : Fr} {L : List Heap} {rest : List (Nat × Oper)} {κ : Nat}
variable {Γ : List (Nat × TI)} {d : Nat} {ty : TypeId} {pos : String} {aft : Array Edge} {g : Option (Nat × Bool)} {t u : TypeId} {x y : Operand}
theorem J.eN {b : ByteArray} {fd : Field} {s1 b1 s2 b2 : Nat} {z1 z2 : Option Value} (hΓ : Fits P Γ) (k : J P n w0 R l0 K rest (upd f d (.bool true)) L) (hg : wantB n f l0 ⟨some d, .binOp .eql t x y u, ty, pos, aft, g⟩ = true := by exact rfl) (hx : Cx.ev n f x = .agg ⟨[.string b]⟩ := by exact rfl) (hy : Cx.ev n f y = .agg ⟨[.string b]⟩ := by exact rfl)
    (ht : Go.Cx.look Γ t = some ⟨.struct ⟨[fd]⟩, s1, z1, b1⟩ := by exact rfl) (hl : Go.Cx.look Γ fd.type = some ⟨.string, s2, z2, b2⟩ := by exact rfl) (hp : partEv Γ fd.type [.string b] fd.offset = some (.string b) := by exact rfl) (h1 : P.eqGuardType P.depth t = false := by kernel_rfl) (h2 : P.stoodInHeld t = false := by kernel_rfl) (h3 : (fd.name != "_") = true := by kernel_rfl) :
    J P n w0 R l0 K ((κ, ⟨some d, .binOp .eql t x y u, ty, pos, aft, g⟩) :: rest) f L :=
  J.p hg (fun w => by
    have hu := (hΓ t _ ht).1
    have hfs : P.fieldsOf t = ⟨[fd]⟩ := by unfold Program.fieldsOf; rw [hu]
    have hs := (hΓ fd.type _ hl).1
    have heq : ∀ d : Nat, (Op.equalIn (d + 1) fd.type (.string b) (.string b)).run P w = .ok true w := fun d => by
      have hbb : (b == b) = true := beq_S b
      simp [Op.equalIn, run_underlying hs, hbb]
    have hne : fd.name ≠ "_" := by simpa using h3
    simp only [execOp, hx, hy, Sem.run_bind]
    rw [run_eqGuard_agg w .eql t x y _ _ h1]
    simp only [Result.andThen_ok]
    rw [run_eql_struct, run_equalIn_agg w 9999 t _ _ (by rw [hu, hfs]) h2, hfs]
    unfold Op.eqFields
    rw [if_pos hne]
    simp only [Sem.run_bind, partEv_ok hΓ hp, Result.andThen_ok, heq 9998]
    rfl) k
end
theorem eCmp : Entr Try.prog 32 := Entr.of Try.func32 rfl rfl
theorem cmp_same (a : Nat) (w : World) : Calls Try.prog 32 #[natV a, natV a] w fun e w' => e = .returned (.int .i64 0) ∧ Below w.heap.size w w' := by
  refine calls_of_JC (R := []) Try.func32 Try.ntmps32 rfl rfl (Holds.nil _) ?_
  repeat' first
    | (refine J.isJ ?_; first | ((refine J.o 11 ?_; refine J.eN hΓ ?_)) | (first | (refine J.o 0 ?_; refine J.ev' hΓ ?_) | refine J.nil ?_ | (refine J.o 4 ?_; first | refine J.lR hΓ ?_) | (refine J.o 3 ?_; first | refine J.ev' hΓ ?_) | (refine J.o 6 ?_; refine J.bx (fun _ => ?_)) | (refine J.o 10 ?_; refine J.ev' hΓ ?_) | (refine J.o 11 ?_; refine J.ev' hΓ ?_)))
    | (first | refine JC.seq ?_ | refine JC.region ?_ | refine JC.block ?_ | refine JC.ret ?_ | refine thenK.nn ?_ | refine thenK.r ?_ | refine blockK.r ?_ | refine JC.condT rfl ?_)
    | (fail)
    | fail
  all_goals first | (exfalso; omega) | skip
  all_goals (refine ret1f rfl rfl rfl (fun w1 hw => ⟨rfl, hw.below⟩))
end Go.Proofs.Ytbhgahjeocnfcaa
namespace Go.Proofs.Ytbhgahjeocnfcaa
open Go Go.Cx Go.RowKit
set_option linter.unusedVariables false
set_option linter.unusedSimpArgs false
set_option maxHeartbeats 4000000
attribute [local irreducible] J JC thenK blockK loopK drawK retK QW Qt pel List.set Calls
open Go.Maps Go.Lib
set_option maxRecDepth 8000
attribute [local irreducible] JE Br eK0 eK3 brK pc
theorem stR_of2 {R : Heap} {L : List Heap} {K : KS} {b : Nat} {s : SS} {hO : Heap} (r : RdH R L (stR K b s hO)) {w0 w : World} (hw : H w0 R L w) : Holds (stR K b s hO) w := hw.rdH r
end Go.Proofs.Ytbhgahjeocnfcaa
namespace Go.Proofs.Ytbhgahjeocnfcaa
open Go Go.Cx Go.RowKit
set_option linter.unusedVariables false
set_option linter.unusedSimpArgs false
set_option maxHeartbeats 4000000
attribute [local irreducible] J JC thenK blockK loopK drawK retK QW Qt pel List.set Calls
open Go.Maps Go.Lib
set_option maxRecDepth 8000
attribute [local irreducible] JE Br eK0 eK3 brK pc
theorem stR_b {R : Heap} {L : List Heap} {K : KS} {b : Nat} {s : SS} {hO : Heap} (r : RdH R L (stR K b s hO)) : Rd R L b (stO K s.an s.ns.length s.cn) := r _ List.mem_cons_self
theorem stR_N {R : Heap} {L : List Heap} {K : KS} {b : Nat} {s : SS} {hO : Heap} (r : RdH R L (stR K b s hO)) : RdH R L s.hN := fun x hx => r x (List.mem_cons_of_mem _ (List.mem_append_left _ hx))
theorem stR_hd {R : Heap} {K : KS} {b : Nat} {s : SS} {hO hP : Heap} (M : List Heap) : RdH R (sF K b s ++ (hO :: hP :: M)) (stR K b s hO) := fun x hx => by
  rcases List.mem_cons.1 hx with rfl | hx
  · exact (Rd.hd : Rd R (sF K b s ++ (hO :: hP :: M)) b _)
  · rcases List.mem_append.1 hx with h | h
    · exact (RdH.hd.tl : RdH R (sF K b s ++ (hO :: hP :: M)) s.hN) x h
    · exact (RdH.hd.tl.tl.tl.tl : RdH R (sF K b s ++ (hO :: hP :: M)) hO) x h
end Go.Proofs.Ytbhgahjeocnfcaa
namespace Go.Proofs.Ytbhgahjeocnfcaa
open Go Go.Cx Go.RowKit
set_option linter.unusedVariables false
set_option linter.unusedSimpArgs false
set_option maxHeartbeats 4000000
attribute [local irreducible] J JC thenK blockK loopK drawK retK QW Qt pel List.set Calls
open Go.Maps Go.Lib
set_option maxRecDepth 8000
attribute [local irreducible] JE Br eK0 eK3 brK pc
def fillI (N q : Nat) : List Int := ((List.range q).map fun j => ((N - j : Nat) : Int)) ++ List.replicate (N - q) 0
theorem fillI_0 (N : Nat) : fillI N 0 = List.replicate N 0 := by simp [fillI]
theorem fillI_len {N q : Nat} (h : q ≤ N) : (fillI N q).length = N := by simp [fillI]; omega
theorem fillI_s {N q : Nat} (h : q < N) : (fillI N q).set q ((N - q : Nat) : Int) = fillI N (q + 1) := by
  unfold fillI
  have e : N - q = (N - (q + 1)) + 1 := by omega
  rw [List.set_append_right _ _ (by simp), List.range_succ, List.map_append]
  conv => lhs; rw [show List.replicate (N - q) (0 : Int) = 0 :: List.replicate (N - (q + 1)) 0 by rw [e, List.replicate_succ]]
  simp
def ordW (n : Nat) : List Int := fillI n n
theorem ordW_len (n : Nat) : (ordW n).length = n := fillI_len (Nat.le_refl _)
theorem ordW_get (n : Nat) {k : Nat} (h : k < n) : (ordW n).getD k default = ((n - k : Nat) : Int) := by
  unfold ordW fillI
  rw [Nat.sub_self, List.replicate_zero, List.append_nil, List.getD_eq_getElem?_getD, List.getElem?_map, List.getElem?_range h]; rfl
theorem ordW_ok {n : Nat} (h : n ≤ 128) : okOrd (ordW n) := by
  have e : ordW n = (List.range n).map fun j => ((n - j : Nat) : Int) := by unfold ordW fillI; rw [Nat.sub_self, List.replicate_zero, List.append_nil]
  rw [e]
  refine ⟨fun v hv => ?_, ?_⟩
  · obtain ⟨j, hj, rfl⟩ := List.mem_map.1 hv
    have := List.mem_range.1 hj
    omega
  · rw [List.Nodup, List.pairwise_map]
    refine List.Pairwise.imp_of_mem (fun {a b} ha hb hab e => ?_) List.pairwise_lt_range
    have ha := List.mem_range.1 ha
    have hb := List.mem_range.1 hb
    omega
theorem Bel.nats {ns : List N3} {a : Nat} {l : List Int} (b : Bel ns a l) : ∃ A : List Nat, A.Nodup ∧ (∀ j, j ∈ A ↔ 2 ≤ j ∧ Rch ns a j) ∧ A.length = l.length := by
  refine ⟨l.map Int.toNat, ?_, fun j => ?_, List.length_map _⟩
  · rw [List.Nodup, List.pairwise_map]
    refine List.Pairwise.imp_of_mem (fun {x y} hx hy hxy e => hxy ?_) b.nodup
    obtain ⟨i, hi, _⟩ := (b.mem x).1 hx
    obtain ⟨j, hj, _⟩ := (b.mem y).1 hy
    omega
  · rw [List.mem_map]
    constructor
    · rintro ⟨x, hx, rfl⟩
      obtain ⟨i, rfl, h⟩ := (b.mem x).1 hx
      exact h
    · intro h
      exact ⟨(j : Int), (b.mem _).2 ⟨j, rfl, h⟩, by simp⟩
theorem tab_cntF {n : Nat} {ns : List N3} (w : WF n ns) {y : Nat} (hy : y < ns.length) {g : BF} (hg : ∀ α, fn n ns y α = g α) : 2 ^ (nd ns y).p * cN n ns y = cntF n g := by
  rw [tab_count w hy]
  unfold tab blk cntF
  congr 1
  exact List.map_congr_left fun r _ => hg _
def wantW (n : Nat) : Nat := if n = 0 then 0 else 2 ^ (n - 1)
theorem xr_cnt (n : Nat) : cntF n (xrF n 0 0) = wantW n := by
  unfold wantW
  cases n with
  | zero => rfl
  | succ m => rw [if_neg (by omega), xr_count]; rfl
theorem bit_and1 (a j : Nat) : ((((a / 2 ^ j) &&& 1 : Nat) : Int) == 1) = a.testBit j := by
  rw [Nat.and_one_is_mod, Nat.testBit_eq_decide_div_mod_eq]
  by_cases h : a / 2 ^ j % 2 = 1
  · rw [h]; rfl
  · have : a / 2 ^ j % 2 = 0 := by omega
    rw [this]; rfl
theorem pow2_neg (w : World) : Calls Try.prog 31 #[.int .i64 (-1)] w fun e w' => e = .returned (natV 0) ∧ Below w.heap.size w w' := by
  refine calls_of_JC (R := []) Try.func31 Try.ntmps31 rfl rfl (Holds.nil _) ?_
  repeat' first
    | (refine J.isJ ?_; first | ((refine J.o 7 ?_; refine J.al hΓ (fun b2 => ?_))) | (first | (refine J.o 0 ?_; refine J.ev' hΓ ?_) | refine J.nil ?_ | refine J.kd ?_ | (refine J.o 3 ?_; first | refine J.ev' hΓ ?_) | (refine J.o 5 ?_; first | refine J.t0 hΓ ?_) | (refine J.o 7 ?_; refine J.al hΓ (fun _ => ?_)) | (refine J.o 8 ?_; refine J.bd hΓ ?_) | (refine J.o 10 ?_; refine J.ev' hΓ ?_) | (refine J.o 11 ?_; refine J.ev' hΓ ?_)))
    | (first | refine JC.seq ?_ | refine JC.region ?_ | refine JC.ret ?_ | refine thenK.nn ?_ | refine thenK.r ?_ | refine JC.condT rfl ?_)
    | (fail)
    | fail
  all_goals first | (exfalso; omega) | skip
  all_goals (first | exact retC hΓ rfl rfl rfl (by first | exact Rd.hd | exact Rd.hd.tl) rfl (fun w1 hw => ⟨rfl, hw.below⟩) | trace_state)
theorem new_n (l : List Int) (nl : Nat) (hnl : l.length = nl) (a : Option Addr) (c : Nat) (h : Heap) (hs : SlT encI 1 a l h) (ho : okOrd l) {w0 w : World} {R : Heap} {L : List Heap} (hr : RdH R L h) (hw : H w0 R L w) :
    Calls Try.prog 25 #[.slice a nl c] w fun e w' => ∃ v L', e = .returned v ∧ H w0 R L' w' ∧ ∃ b K s hO hP, v = .tuple #[.pointer (some ⟨b, 0, none⟩), .int .i64 0] ∧ L' = sF K b s ++ (hO :: hP :: L) ∧ SOk l.length K s ∧ s.ns = ends l.length ∧ POk K l hO hP := by
  subst hnl
  exact new_any l a c h hs ho hr hw
theorem cntW_any {n : Nat} {K : KS} {s : SS} (so : SOk n K s) (b0 a : Nat) (ha : a < s.ns.length) {g : BF} {c : Nat} (hg : ∀ α, fn n s.ns a α = g α) (hc : cntF n g = c) {hO : Heap} {w0 w : World} {R : Heap} {L : List Heap} (rS : RdH R L (stR K b0 s hO)) (hw : H w0 R L w) :
    Calls Try.prog 30 #[.pointer (some ⟨b0, 0, none⟩), .int .i64 (a : Int)] w fun e w' => ∃ v L', e = .returned v ∧ H w0 R L' w' ∧ v = .tuple #[natV c, .int .i64 0] ∧ L' = L := by
  have := Count_any so b0 a ha (stR_b rS) (stR_N rS) hw
  rwa [tab_cntF so.wf ha hg, hc] at this
def setX (b3 : Nat) (x : Nat × Nat) : Heap := [(b3, .cells ⟨[.int .u64 (x.1 : Int), .int .u64 (x.2 : Int)]⟩ 53 (0, 0))]
set_option maxHeartbeats 16000000 in
theorem wide_any (p : Nat) (hpb : p < 256) (x : Nat × Nat) (hx : okS x) (w : World) :
    Calls Try.prog 7 #[.int .u8 (p : Int), sv x] w fun e w' => e = .returned (.bool true) ∧ Below w.heap.size w w' := by
  obtain ⟨n, hn⟩ : ∃ n, n = p % 129 := ⟨_, rfl⟩
  have hn8 : n ≤ 128 := by omega
  have hnv : Value.int .i64 ((p % 129 : Nat) : Int) = .int .i64 (n : Int) := by rw [hn]
  have ho := ordW_ok hn8
  have hol := ordW_len n
  refine calls_of_JC (R := []) Try.func7 Try.ntmps7 rfl rfl (Holds.nil _) ?_
  refine JC.seq ?_
  refine JC.region ?_
  refine J.isJ ?_
  refine J.o 6 ?_
  refine J.bx (fun b3 => ?_)
  repeat' first
    | (refine J.isJ ?_; first | (first | (refine J.o 2 ?_; refine J.gcv hΓ ?_ (hk := wI64 (by omega))) | (refine J.o 1 ?_; refine J.grem (a := p) (b := 129) ?_; rw [hnv]) | (refine J.o 9 ?_; refine J.make (enc := encI) (m := n) (0 : Int) hΓ rfl rfl rfl rfl rfl rfl (fun _ => rfl) (by omega) (by omega) (fun bp hp0 op0 => ?_))) | (first | (refine J.o 0 ?_; refine J.ev' hΓ ?_) | refine J.nil ?_ | refine J.kd ?_ | (refine J.o 4 ?_; first | refine J.lR hΓ ?_) | (refine J.o 3 ?_; first | refine J.iA hΓ ?_ | refine J.iJ hΓ ?_ | refine J.ev' hΓ ?_) | (refine J.o 1 ?_; first | refine J.ad ?_ | refine J.sb ?_) | (refine J.o 5 ?_; first | refine J.t0 hΓ ?_ | refine J.tT _ default hΓ (fun _ _ => ?_)) | (refine J.o 6 ?_; refine J.bx (fun _ => ?_)) | (refine J.o 7 ?_; refine J.al hΓ (fun _ => ?_)) | (refine J.o 10 ?_; refine J.ev' hΓ ?_) | (refine J.o 11 ?_; refine J.ev' hΓ ?_)) | ((fail_if_success refine J.wt ?_); refine J.gc rfl rfl (fun hc => ?_) (fun hc => ?_) <;> ((try simp only [decide_eq_true_eq, decide_eq_false_iff_not, beq_iff_eq, beq_eq_false_iff_ne, bne_iff_ne, bne_eq_false_iff_eq, Bool.not_eq_true', Bool.not_eq_false', Bool.not_eq_true, Bool.not_eq_false] at hc) <;> first | (first | (exact absurd rfl hc) | (exfalso; omega) | (exact absurd (hc.symm.trans (by assumption : _ = false)) (by decide)) | (exact absurd (hc.symm.trans (by assumption : _ = true)) (by decide))) | skip)))
    | (first | refine JC.seq ?_ | refine JC.region ?_ | refine JC.block ?_ | refine JC.ret ?_ | refine JC.exit ?_ | refine JC.skip ?_ | refine thenK.nn ?_ | refine thenK.x ?_ | refine blockK.nn ?_ | refine blockK.hit rfl ?_ | refine JC.condF rfl ?_ | (refine JC.cond rfl (fun hc => ?_) (fun hc => ?_) <;> ((try simp only [decide_eq_true_eq, decide_eq_false_iff_not, beq_iff_eq, beq_eq_false_iff_ne, bne_iff_ne, bne_eq_false_iff_eq, Bool.not_eq_true', Bool.not_eq_false', Bool.not_eq_true, Bool.not_eq_false] at hc) <;> first | (first | (exact absurd rfl hc) | (exfalso; omega) | (exact absurd (hc.symm.trans (by assumption : _ = false)) (by decide)) | (exact absurd (hc.symm.trans (by assumption : _ = true)) (by decide))) | skip)) | refine loopK.x ?_)
    | (fail)
    | fail
  all_goals first | (exfalso; omega) | skip
  refine JC.loop (fun i => i == 7 || (Nat.ble 34 i && Nat.ble i 44)) (fun m g L' => ∃ q h', g 7 = .int .i64 ((q : Nat) : Int) ∧ q + m = n ∧ OwT encI 1 3 (some ⟨bp, 0, none⟩) n (fillI n q) h' ∧ L' = [h', setX b3 x]) n ⟨0, _, rfl, by omega, by rw [fillI_0]; exact op0, rfl⟩ ?_
  clear op0
  rintro m g L' ⟨q, hW, e7, hqm, oW, rfl⟩
  refine JC.pin 7 e7 ?_
  have hfl := fillI_len (N := n) (q := q) (by omega)
  have hrl : (List.replicate n (0 : Int)).length = n := List.length_replicate
  rcases Nat.lt_or_ge q n with hlt | hge
  ·
    repeat' first
      | (refine J.isJ ?_; first | (first | (refine J.o 1 ?_; refine J.gsub (a := n) (b := q) ?_) | (refine J.o 3 ?_; refine J.iJ hΓ ?_ (hs := oW.sl)) | (refine J.o 5 ?_; refine J.tT (enc := encI) ((n - q : Nat) : Int) default hΓ (fun h5 o5 => ?_) (ho := oW))) | (first | (refine J.o 0 ?_; refine J.ev' hΓ ?_) | refine J.nil ?_ | refine J.kd ?_ | (refine J.o 4 ?_; first | refine J.lR hΓ ?_) | (refine J.o 3 ?_; first | refine J.iA hΓ ?_ | refine J.iJ hΓ ?_ | refine J.ev' hΓ ?_) | (refine J.o 1 ?_; first | refine J.ad ?_ | refine J.sb ?_) | (refine J.o 5 ?_; first | refine J.t0 hΓ ?_ | refine J.tT _ default hΓ (fun _ _ => ?_)) | (refine J.o 6 ?_; refine J.bx (fun _ => ?_)) | (refine J.o 7 ?_; refine J.al hΓ (fun _ => ?_)) | (refine J.o 10 ?_; refine J.ev' hΓ ?_) | (refine J.o 11 ?_; refine J.ev' hΓ ?_)) | ((fail_if_success refine J.wt ?_); refine J.gc rfl rfl (fun hc => ?_) (fun hc => ?_) <;> ((try simp only [decide_eq_true_eq, decide_eq_false_iff_not, beq_iff_eq, beq_eq_false_iff_ne, bne_iff_ne, bne_eq_false_iff_eq, Bool.not_eq_true', Bool.not_eq_false', Bool.not_eq_true, Bool.not_eq_false] at hc) <;> first | (first | (exact absurd rfl hc) | (exfalso; omega) | (exact absurd (hc.symm.trans (by assumption : _ = false)) (by decide)) | (exact absurd (hc.symm.trans (by assumption : _ = true)) (by decide))) | skip)))
      | (first | refine JC.seq ?_ | refine JC.region ?_ | refine JC.block ?_ | refine JC.ret ?_ | refine JC.exit ?_ | refine JC.skip ?_ | refine thenK.nn ?_ | refine thenK.x ?_ | refine blockK.nn ?_ | refine blockK.hit rfl ?_ | refine JC.condF rfl ?_ | (refine JC.cond rfl (fun hc => ?_) (fun hc => ?_) <;> ((try simp only [decide_eq_true_eq, decide_eq_false_iff_not, beq_iff_eq, beq_eq_false_iff_ne, bne_iff_ne, bne_eq_false_iff_eq, Bool.not_eq_true', Bool.not_eq_false', Bool.not_eq_true, Bool.not_eq_false] at hc) <;> first | (first | (exact absurd rfl hc) | (exfalso; omega) | (exact absurd (hc.symm.trans (by assumption : _ = false)) (by decide)) | (exact absurd (hc.symm.trans (by assumption : _ = true)) (by decide))) | skip)) | refine loopK.x ?_)
      | fail
    all_goals first | (exfalso; omega) | skip
    rw [fillI_s hlt] at o5
    refine loopK.nn (m - 1) (by omega) (by repeat (first | refine Ag.upd rfl ?_ | exact Ag.hv)) ⟨q + 1, h5, ?_, by omega, o5, rfl⟩
    show Value.int .i64 _ = _; congr 1
  ·
    obtain rfl : q = n := by omega
    have hww : fillI q q = ordW q := rfl
    rw [hww] at oW
    clear hfl hrl hqm e7
    repeat' first
      | (refine J.isJ ?_; first | (first | (refine J.fc 25 ?_; refine J.callx eNew rfl rfl (fun w hw => new_n (ordW q) q hol (some ⟨bp, 0, none⟩) q hW oW.sl ho RdH.hd hw) ?_; rintro _ _ ⟨b, K, s, hO, hP, rfl, rfl, so, hns, po⟩; have hlen : s.ns.length = 2 := (by rw [hns]; rfl))) | (first | (refine J.o 0 ?_; refine J.ev' hΓ ?_) | refine J.nil ?_ | refine J.kd ?_ | (refine J.o 4 ?_; first | refine J.lR hΓ ?_) | (refine J.o 3 ?_; first | refine J.iA hΓ ?_ | refine J.iJ hΓ ?_ | refine J.ev' hΓ ?_) | (refine J.o 1 ?_; first | refine J.ad ?_ | refine J.sb ?_) | (refine J.o 5 ?_; first | refine J.t0 hΓ ?_ | refine J.tT _ default hΓ (fun _ _ => ?_)) | (refine J.o 6 ?_; refine J.bx (fun _ => ?_)) | (refine J.o 7 ?_; refine J.al hΓ (fun _ => ?_)) | (refine J.o 10 ?_; refine J.ev' hΓ ?_) | (refine J.o 11 ?_; refine J.ev' hΓ ?_)) | ((fail_if_success refine J.wt ?_); refine J.gc rfl rfl (fun hc => ?_) (fun hc => ?_) <;> ((try simp only [decide_eq_true_eq, decide_eq_false_iff_not, beq_iff_eq, beq_eq_false_iff_ne, bne_iff_ne, bne_eq_false_iff_eq, Bool.not_eq_true', Bool.not_eq_false', Bool.not_eq_true, Bool.not_eq_false] at hc) <;> first | (first | (exact absurd rfl hc) | (exfalso; omega) | (exact absurd (hc.symm.trans (by assumption : _ = false)) (by decide)) | (exact absurd (hc.symm.trans (by assumption : _ = true)) (by decide))) | skip)))
      | (first | refine JC.seq ?_ | refine JC.region ?_ | refine JC.block ?_ | refine JC.ret ?_ | refine JC.exit ?_ | refine JC.skip ?_ | refine thenK.nn ?_ | refine thenK.x ?_ | refine blockK.nn ?_ | refine blockK.hit rfl ?_ | refine JC.condF rfl ?_ | (refine JC.cond rfl (fun hc => ?_) (fun hc => ?_) <;> ((try simp only [decide_eq_true_eq, decide_eq_false_iff_not, beq_iff_eq, beq_eq_false_iff_ne, bne_iff_ne, bne_eq_false_iff_eq, Bool.not_eq_true', Bool.not_eq_false', Bool.not_eq_true, Bool.not_eq_false] at hc) <;> first | (first | (exact absurd rfl hc) | (exfalso; omega) | (exact absurd (hc.symm.trans (by assumption : _ = false)) (by decide)) | (exact absurd (hc.symm.trans (by assumption : _ = true)) (by decide))) | skip)) | refine loopK.x ?_)
      | (fail)
      | fail
    all_goals first | (exfalso; omega) | skip
    have hfw := ordW_len q
    rw [hfw] at so
    have hwf := so.wf
    have two := hwf.two
    refine JC.loop (fun i => (Nat.ble 10 i && Nat.ble i 19) || (Nat.ble 52 i && Nat.ble i 106)) (fun m g L' => ∃ v s odd all is, g 13 = .int .i64 ((v + 1 : Nat) : Int) ∧ g 10 = .int .i64 ((odd : Nat) : Int) ∧ g 11 = .int .i64 ((all : Nat) : Int) ∧ g 12 = .bool is ∧ v + m = q ∧ SOk q K s ∧ odd < s.ns.length ∧ all < s.ns.length ∧ (∀ α, fn q s.ns odd α = xrF q (q - v) 0 α) ∧ (∀ α, fn q s.ns all α = anF q (q - v) 0 α) ∧ is = xrF q (q - v) 0 (asgS (ordW q) x) ∧ s.ns.length ≤ 2 + v * 400 ∧ L' = sF K b s ++ (hO :: hP :: hW :: setX b3 x :: [])) q ⟨0, s, 0, 1, false, rfl, rfl, rfl, rfl, by omega, so, by omega, by omega, fun α => by rw [fn_0 hwf, Nat.sub_zero, xr_end], fun α => by rw [fn_1 hwf, Nat.sub_zero, an_end], by rw [Nat.sub_zero, xr_end], by omega, rfl⟩ ?_
    clear so hwf two hns hlen
    rintro m g L' ⟨v, s, odd, all, is, e13, e10, e11, e12, hvm, so, hod, hal, fod, fal, his, hsl, rfl⟩
    refine JC.pin 13 e13 (JC.pin 10 e10 (JC.pin 11 e11 (JC.pin 12 e12 ?_)))
    have two := so.wf.two
    rcases Nat.lt_or_ge v q with hv | hv
    ·
      obtain ⟨k, hk⟩ : ∃ k, k = q - (v + 1) := ⟨_, rfl⟩
      have hkq : k < q := by omega
      have hkv : q - v = k + 1 := by omega
      rw [hkv] at fod fal his
      have hgk := ordW_get q hkq
      have hrk : rk (ordW q) ((v + 1 : Nat) : Int) 0 = some k := by
        have := rk_at ho.2 (k := k) (by omega)
        rw [hgk, show q - k = v + 1 by omega] at this
        exact this
      have hbit : asgS (ordW q) x k = hasB x ((v + 1 : Nat) : Int) := by
        show hasB x ((ordW q).getD k default) = _
        rw [hgk, show q - k = v + 1 by omega]
      have hnew : (is != hasB x ((v + 1 : Nat) : Int)) = xrF q (q - (v + 1)) 0 (asgS (ordW q) x) := by
        rw [his, ← hk, xr_top q k hkq, hbit]
        cases hasB x ((v + 1 : Nat) : Int) <;> cases xrF q (k + 1) 0 (asgS (ordW q) x) <;> rfl
      have hcost : 1 + (q + 1) * 2 + (q + 1) ≤ 399 := by omega
      have hvb : v * 400 + 400 ≤ 52000 := by omega
      unfold setX
      rcases Nat.lt_or_ge v 64 with h64 | h64
      ·
        have hq1 : (v + 1 - 1) / 64 = 0 := by omega
        have hlt64 : x.1 / 2 ^ ((v + 1 - 1) % 64) < 2 ^ IntKind.u64.bits := Nat.lt_of_le_of_lt (Nat.div_le_self _ _) hx.1
        have hbt : ((((x.1 / 2 ^ ((v + 1 - 1) % 64)) &&& 1 : Nat) : Int) == 1) = hasB x ((v + 1 : Nat) : Int) := by
          rw [bit_and1]
          unfold hasB
          rw [if_pos (by omega), show (((v + 1 : Nat) : Int) - 1).toNat = (v + 1 - 1) % 64 by omega]
        repeat' first
          | (refine J.isJ ?_; first | (first | (refine J.fc 26 ?_; refine J.callx eVarS rfl rfl (fun w hw => Var_any so po ((v + 1 : Nat) : Int) (by omega) k hrk (by omega) hw) ?_; rintro _ _ ⟨s1, y1, rfl, rfl, ad1, f1⟩; have l1 := ad1.le; have two1 := ad1.ok.wf.two) | (refine J.fc 27 ?_; refine J.callx eXor rfl rfl (fun w hw => XorL_any ad1.ok odd (ad1.old hod) y1 ad1.lt (lev_not q k) (lev_xr q k) (fun α => by rw [f1]) (inl_not q k hkq) (G := xrF q k 0) (fun α => by rw [fn_ext so.wf ad1.ext hod, fod, f1, xr_top q k hkq]; dsimp only; cases xrF q (k + 1) 0 α <;> cases α k <;> rfl) (.inr ⟨0, Nat.le_refl _, Nat.zero_le _, List.mem_cons_self⟩) (by omega) hw) ?_; rintro _ _ ⟨s2, y2, rfl, rfl, ad2, f2⟩; have l2 := ad2.le; have two2 := ad2.ok.wf.two) | (refine J.fc 28 ?_; refine J.callx eAnd rfl rfl (fun w hw => AndL_any ad2.ok all (ad2.old (ad1.old hal)) y1 (ad2.old ad1.lt) (lev_an q k) (G := anF q k 0) (fun α => by rw [fn_ext ad1.ok.wf ad2.ext (ad1.old hal), fn_ext so.wf ad1.ext hal, fal, fn_ext ad1.ok.wf ad2.ext ad1.lt, f1, fn_0 ad2.ok.wf, an_top q k hkq]; dsimp only; cases anF q (k + 1) 0 α <;> cases α k <;> rfl) (.inr ⟨0, Nat.le_refl _, Nat.zero_le _, List.mem_cons_self⟩) (by omega) hw) ?_; rintro _ _ ⟨s3, y3, rfl, rfl, ad3, f3⟩; have l3 := ad3.le) | (refine J.o 1 ?_; first | refine J.gsub (a := v + 1) (b := 1) ?_ | (refine J.gquo (a := v + 1 - 1) (b := 64) ?_ (hw := wI64 (by omega)); rw [hq1]) | refine J.grem (a := v + 1 - 1) (b := 64) ?_ | refine J.gshr (a := x.1) (j := (v + 1 - 1) % 64) ?_ | refine J.gand (a := x.1 / 2 ^ ((v + 1 - 1) % 64)) (b := 1) ?_ (ha := hlt64)) | (refine J.o 11 ?_; refine J.ev' hΓ ?_; rw [hbt]) | (refine J.o 4 ?_; refine J.lR hΓ ?_ (hr := Rd.app _ Rd.hd.tl.tl.tl))) | (first | (refine J.o 0 ?_; refine J.ev' hΓ ?_) | refine J.nil ?_ | refine J.kd ?_ | (refine J.o 4 ?_; first | refine J.lR hΓ ?_) | (refine J.o 3 ?_; first | refine J.iA hΓ ?_ | refine J.iJ hΓ ?_ | refine J.ev' hΓ ?_) | (refine J.o 1 ?_; first | refine J.ad ?_ | refine J.sb ?_) | (refine J.o 5 ?_; first | refine J.t0 hΓ ?_ | refine J.tT _ default hΓ (fun _ _ => ?_)) | (refine J.o 6 ?_; refine J.bx (fun _ => ?_)) | (refine J.o 7 ?_; refine J.al hΓ (fun _ => ?_)) | (refine J.o 10 ?_; refine J.ev' hΓ ?_) | (refine J.o 11 ?_; refine J.ev' hΓ ?_)) | ((fail_if_success refine J.wt ?_); refine J.gc rfl rfl (fun hc => ?_) (fun hc => ?_) <;> ((try simp only [decide_eq_true_eq, decide_eq_false_iff_not, beq_iff_eq, beq_eq_false_iff_ne, bne_iff_ne, bne_eq_false_iff_eq, Bool.not_eq_true', Bool.not_eq_false', Bool.not_eq_true, Bool.not_eq_false] at hc) <;> first | (first | (exact absurd rfl hc) | (exfalso; omega) | (exact absurd (hc.symm.trans (by assumption : _ = false)) (by decide)) | (exact absurd (hc.symm.trans (by assumption : _ = true)) (by decide))) | skip)))
          | (first | refine JC.seq ?_ | refine JC.region ?_ | refine JC.block ?_ | refine JC.ret ?_ | refine JC.exit ?_ | refine JC.skip ?_ | refine thenK.nn ?_ | refine thenK.x ?_ | refine blockK.nn ?_ | refine blockK.hit rfl ?_ | refine JC.condF rfl ?_ | (refine JC.cond rfl (fun hc => ?_) (fun hc => ?_) <;> ((try simp only [decide_eq_true_eq, decide_eq_false_iff_not, beq_iff_eq, beq_eq_false_iff_ne, bne_iff_ne, bne_eq_false_iff_eq, Bool.not_eq_true', Bool.not_eq_false', Bool.not_eq_true, Bool.not_eq_false] at hc) <;> first | (first | (exact absurd rfl hc) | (exfalso; omega) | (exact absurd (hc.symm.trans (by assumption : _ = false)) (by decide)) | (exact absurd (hc.symm.trans (by assumption : _ = true)) (by decide))) | skip)) | refine loopK.x ?_)
          | fail
        all_goals first | (exfalso; omega) | skip
        all_goals
          refine loopK.nn (m - 1) (by omega) (by repeat (first | refine Ag.upd rfl ?_ | exact Ag.hv)) ⟨v + 1, s3, y2, y3, _, ?_, rfl, rfl, rfl, by omega, ad3.ok, ad3.old ad2.lt, ad3.lt, fun α => by rw [fn_ext ad2.ok.wf ad3.ext ad2.lt, f2, ← hk], fun α => by rw [f3, ← hk], hnew, by omega, rfl⟩
          show Value.int .i64 _ = _; congr 1
      ·
        have hq1 : (v + 1 - 1) / 64 = 1 := by omega
        have hlt64 : x.2 / 2 ^ ((v + 1 - 1) % 64) < 2 ^ IntKind.u64.bits := Nat.lt_of_le_of_lt (Nat.div_le_self _ _) hx.2
        have hbt : ((((x.2 / 2 ^ ((v + 1 - 1) % 64)) &&& 1 : Nat) : Int) == 1) = hasB x ((v + 1 : Nat) : Int) := by
          rw [bit_and1]
          unfold hasB
          rw [if_neg (by omega), if_pos (by omega), show (((v + 1 : Nat) : Int) - 65).toNat = (v + 1 - 1) % 64 by omega]
        repeat' first
          | (refine J.isJ ?_; first | (first | (refine J.fc 26 ?_; refine J.callx eVarS rfl rfl (fun w hw => Var_any so po ((v + 1 : Nat) : Int) (by omega) k hrk (by omega) hw) ?_; rintro _ _ ⟨s1, y1, rfl, rfl, ad1, f1⟩; have l1 := ad1.le; have two1 := ad1.ok.wf.two) | (refine J.fc 27 ?_; refine J.callx eXor rfl rfl (fun w hw => XorL_any ad1.ok odd (ad1.old hod) y1 ad1.lt (lev_not q k) (lev_xr q k) (fun α => by rw [f1]) (inl_not q k hkq) (G := xrF q k 0) (fun α => by rw [fn_ext so.wf ad1.ext hod, fod, f1, xr_top q k hkq]; dsimp only; cases xrF q (k + 1) 0 α <;> cases α k <;> rfl) (.inr ⟨0, Nat.le_refl _, Nat.zero_le _, List.mem_cons_self⟩) (by omega) hw) ?_; rintro _ _ ⟨s2, y2, rfl, rfl, ad2, f2⟩; have l2 := ad2.le; have two2 := ad2.ok.wf.two) | (refine J.fc 28 ?_; refine J.callx eAnd rfl rfl (fun w hw => AndL_any ad2.ok all (ad2.old (ad1.old hal)) y1 (ad2.old ad1.lt) (lev_an q k) (G := anF q k 0) (fun α => by rw [fn_ext ad1.ok.wf ad2.ext (ad1.old hal), fn_ext so.wf ad1.ext hal, fal, fn_ext ad1.ok.wf ad2.ext ad1.lt, f1, fn_0 ad2.ok.wf, an_top q k hkq]; dsimp only; cases anF q (k + 1) 0 α <;> cases α k <;> rfl) (.inr ⟨0, Nat.le_refl _, Nat.zero_le _, List.mem_cons_self⟩) (by omega) hw) ?_; rintro _ _ ⟨s3, y3, rfl, rfl, ad3, f3⟩; have l3 := ad3.le) | (refine J.o 1 ?_; first | refine J.gsub (a := v + 1) (b := 1) ?_ | (refine J.gquo (a := v + 1 - 1) (b := 64) ?_ (hw := wI64 (by omega)); rw [hq1]) | refine J.grem (a := v + 1 - 1) (b := 64) ?_ | refine J.gshr (a := x.2) (j := (v + 1 - 1) % 64) ?_ | refine J.gand (a := x.2 / 2 ^ ((v + 1 - 1) % 64)) (b := 1) ?_ (ha := hlt64)) | (refine J.o 11 ?_; refine J.ev' hΓ ?_; rw [hbt]) | (refine J.o 4 ?_; refine J.lR hΓ ?_ (hr := Rd.app _ Rd.hd.tl.tl.tl))) | (first | (refine J.o 0 ?_; refine J.ev' hΓ ?_) | refine J.nil ?_ | refine J.kd ?_ | (refine J.o 4 ?_; first | refine J.lR hΓ ?_) | (refine J.o 3 ?_; first | refine J.iA hΓ ?_ | refine J.iJ hΓ ?_ | refine J.ev' hΓ ?_) | (refine J.o 1 ?_; first | refine J.ad ?_ | refine J.sb ?_) | (refine J.o 5 ?_; first | refine J.t0 hΓ ?_ | refine J.tT _ default hΓ (fun _ _ => ?_)) | (refine J.o 6 ?_; refine J.bx (fun _ => ?_)) | (refine J.o 7 ?_; refine J.al hΓ (fun _ => ?_)) | (refine J.o 10 ?_; refine J.ev' hΓ ?_) | (refine J.o 11 ?_; refine J.ev' hΓ ?_)) | ((fail_if_success refine J.wt ?_); refine J.gc rfl rfl (fun hc => ?_) (fun hc => ?_) <;> ((try simp only [decide_eq_true_eq, decide_eq_false_iff_not, beq_iff_eq, beq_eq_false_iff_ne, bne_iff_ne, bne_eq_false_iff_eq, Bool.not_eq_true', Bool.not_eq_false', Bool.not_eq_true, Bool.not_eq_false] at hc) <;> first | (first | (exact absurd rfl hc) | (exfalso; omega) | (exact absurd (hc.symm.trans (by assumption : _ = false)) (by decide)) | (exact absurd (hc.symm.trans (by assumption : _ = true)) (by decide))) | skip)))
          | (first | refine JC.seq ?_ | refine JC.region ?_ | refine JC.block ?_ | refine JC.ret ?_ | refine JC.exit ?_ | refine JC.skip ?_ | refine thenK.nn ?_ | refine thenK.x ?_ | refine blockK.nn ?_ | refine blockK.hit rfl ?_ | refine JC.condF rfl ?_ | (refine JC.cond rfl (fun hc => ?_) (fun hc => ?_) <;> ((try simp only [decide_eq_true_eq, decide_eq_false_iff_not, beq_iff_eq, beq_eq_false_iff_ne, bne_iff_ne, bne_eq_false_iff_eq, Bool.not_eq_true', Bool.not_eq_false', Bool.not_eq_true, Bool.not_eq_false] at hc) <;> first | (first | (exact absurd rfl hc) | (exfalso; omega) | (exact absurd (hc.symm.trans (by assumption : _ = false)) (by decide)) | (exact absurd (hc.symm.trans (by assumption : _ = true)) (by decide))) | skip)) | refine loopK.x ?_)
          | fail
        all_goals first | (exfalso; omega) | skip
        all_goals
          refine loopK.nn (m - 1) (by omega) (by repeat (first | refine Ag.upd rfl ?_ | exact Ag.hv)) ⟨v + 1, s3, y2, y3, _, ?_, rfl, rfl, rfl, by omega, ad3.ok, ad3.old ad2.lt, ad3.lt, fun α => by rw [fn_ext ad2.ok.wf ad3.ext ad2.lt, f2, ← hk], fun α => by rw [f3, ← hk], hnew, by omega, rfl⟩
          show Value.int .i64 _ = _; congr 1
    ·
      obtain rfl : v = q := by omega
      rw [Nat.sub_self] at fod fal his
      have cX := fun {w0 : World} {R : Heap} {L : List Heap} {w : World} (rS : RdH R L (stR K b s hO)) (hw : H w0 R L w) => cntW_any so b odd hod fod (xr_cnt v) rS hw
      have cA := fun {w0 : World} {R : Heap} {L : List Heap} {w : World} (rS : RdH R L (stR K b s hO)) (hw : H w0 R L w) => cntW_any so b all hal fal (an_count v) rS hw
      have cT := fun w => textV_any 1 (by omega) w
      rw [show txt 1 = [49] from rfl] at cT
      have cE := fun w hw => Eval_any so po b odd hod x hx w hw
      rw [fod, ← his] at cE
      have hsz1 : ∀ {l1 : List Int}, Bel s.ns odd l1 → l1.length = 2 * v - 1 := fun bel => by
        obtain ⟨A, h1, h2, h3⟩ := bel.nats
        rw [← h3]
        exact xr_size so.wf hod fod h1 h2
      have hsz2 : ∀ {l1 : List Int}, Bel s.ns all l1 → l1.length = v := fun bel => by
        obtain ⟨A, h1, h2, h3⟩ := bel.nats
        rw [← h3]
        exact an_size so.wf hal fal h1 h2
      unfold setX
      have hpow : ∀ w, Calls Try.prog 31 #[.int .i64 ((v : Int) - 1)] w fun e w' => e = .returned (natV (wantW v)) ∧ Below w.heap.size w w' := fun w => by
        unfold wantW
        by_cases h0 : v = 0
        · rw [if_pos h0, h0]; exact pow2_neg w
        · rw [if_neg h0, show (v : Int) - 1 = ((v - 1 : Nat) : Int) by omega]; exact pow2_any (v - 1) (by omega) w
      have hmax : ∀ {l1 : List Int}, Bel s.ns odd l1 → ((l1.length : Nat) : Int) = max 0 (((2 * v : Nat) : Int) - 1) := fun bel => by rw [hsz1 bel]; omega
      cases is
      all_goals
        repeat' first
          | (refine J.isJ ?_; first | (first | (refine J.fc 20 ?_; first | (refine J.callx eSize rfl rfl (fun w hw => Size_any so b odd hod (stR_b (stR_hd _)) (stR_N (stR_hd _)) hw) ?_; rintro _ _ ⟨l1, rfl, rfl, bel1⟩; have hm1 := hmax bel1) | (refine J.callx eSize rfl rfl (fun w hw => Size_any so b all hal (stR_b (stR_hd _)) (stR_N (stR_hd _)) hw) ?_; rintro _ _ ⟨l2, rfl, rfl, bel2⟩; have hm2 := hsz2 bel2)) | (refine J.fc 30 ?_; first | (refine J.callx eCountS rfl rfl (fun w hw => cX (stR_hd _) hw) ?_; rintro _ _ ⟨rfl, rfl⟩) | (refine J.callx eCountS rfl rfl (fun w hw => cA (stR_hd _).tl hw) ?_; rintro _ _ ⟨rfl, rfl⟩)) | (refine J.fc 31 ?_; refine J.call0 ePow2 rfl rfl (fun w hw => hpow w) ?_) | (refine J.o 1 ?_; first | refine J.gmul (a := 2) (b := v) ?_ (hw := wI64 (by omega))) | (refine J.o 4 ?_; first | refine J.lR hΓ ?_ (hr := Rd.hd) | refine J.lR hΓ ?_ (hr := Rd.hd.tl) | refine J.lR hΓ ?_ (hr := Rd.hd.tl.tl) | refine J.lR hΓ ?_ (hr := (Rd.app _ Rd.hd.tl.tl.tl).tl.tl.tl)) | (refine J.o 11 ?_; first | refine J.eqIT hΓ hm1 ?_ | refine J.eqT2 hΓ hm2 ?_ | refine J.eS ?_) | (refine J.fc 32 ?_; refine J.call0 eCmp rfl rfl (fun w hw => cmp_same (wantW v) w) ?_) | (refine J.fc 33 ?_; refine J.call0 eText rfl rfl (fun w hw => cT w) ?_) | (refine J.fc 34 ?_; refine J.call0 eEvalS rfl rfl (fun w hw => cE w (stR_of2 (stR_hd _).tl.tl.tl hw)) ?_) | (refine J.fc 29 ?_; refine J.call0 eWorks30 rfl rfl (fun w hw => works_any w) ?_)) | (first | (refine J.o 0 ?_; refine J.ev' hΓ ?_) | refine J.nil ?_ | refine J.kd ?_ | (refine J.o 4 ?_; first | refine J.lR hΓ ?_) | (refine J.o 3 ?_; first | refine J.iA hΓ ?_ | refine J.iJ hΓ ?_ | refine J.ev' hΓ ?_) | (refine J.o 1 ?_; first | refine J.ad ?_ | refine J.sb ?_) | (refine J.o 5 ?_; first | refine J.t0 hΓ ?_ | refine J.tT _ default hΓ (fun _ _ => ?_)) | (refine J.o 6 ?_; refine J.bx (fun _ => ?_)) | (refine J.o 7 ?_; refine J.al hΓ (fun _ => ?_)) | (refine J.o 10 ?_; refine J.ev' hΓ ?_) | (refine J.o 11 ?_; refine J.ev' hΓ ?_)) | ((fail_if_success refine J.wt ?_); refine J.gc rfl rfl (fun hc => ?_) (fun hc => ?_) <;> ((try simp only [decide_eq_true_eq, decide_eq_false_iff_not, beq_iff_eq, beq_eq_false_iff_ne, bne_iff_ne, bne_eq_false_iff_eq, Bool.not_eq_true', Bool.not_eq_false', Bool.not_eq_true, Bool.not_eq_false] at hc) <;> first | (first | (exact absurd rfl hc) | (exfalso; omega) | (exact absurd (hc.symm.trans (by assumption : _ = false)) (by decide)) | (exact absurd (hc.symm.trans (by assumption : _ = true)) (by decide))) | skip)))
          | (first | refine JC.seq ?_ | refine JC.region ?_ | refine JC.block ?_ | refine JC.ret ?_ | refine JC.exit ?_ | refine JC.skip ?_ | refine thenK.nn ?_ | refine thenK.x ?_ | refine blockK.nn ?_ | refine blockK.hit rfl ?_ | refine JC.condF rfl ?_ | (refine JC.cond rfl (fun hc => ?_) (fun hc => ?_) <;> ((try simp only [decide_eq_true_eq, decide_eq_false_iff_not, beq_iff_eq, beq_eq_false_iff_ne, bne_iff_ne, bne_eq_false_iff_eq, Bool.not_eq_true', Bool.not_eq_false', Bool.not_eq_true, Bool.not_eq_false] at hc) <;> first | (first | (exact absurd rfl hc) | (exfalso; omega) | (exact absurd (hc.symm.trans (by assumption : _ = false)) (by decide)) | (exact absurd (hc.symm.trans (by assumption : _ = true)) (by decide))) | skip)) | refine loopK.x ?_)
          | (fail)
          | fail
        all_goals first | (exfalso; omega) | skip
        all_goals (refine ret1f rfl rfl rfl (fun w1 hw => ⟨rfl, hw.below⟩))
end Go.Proofs.Ytbhgahjeocnfcaa
namespace Go.Proofs.Ytbhgahjeocnfcaa
open Go Go.Cx Go.RowKit
set_option linter.unusedVariables false
set_option linter.unusedSimpArgs false
set_option maxHeartbeats 4000000
attribute [local irreducible] J JC thenK blockK loopK drawK retK QW Qt pel List.set Calls
open Go.ChangeShapes Go.WideShapes
set_option maxRecDepth 100000 in
theorem obddWide_lifted (os : Os) (started : os.Started) (T : Type) (enc : TypeId × Value → T) :
    ReturnsInHanded {} Try.checked os 7 .any (Rows.obddWideSpec.pre6 enc Try.prog Try.f7 [] false)
      (Rows.obddWideSpec.post enc Try.prog Try.f7 false true false false) := by
  refine returnsInHanded_of_change_sized (C := Try.checked) own started (by kernel_rfl) Try.func7
    (ChangeSpec.witness6 (enc := enc) (C := Try.checked) false ⟨#[], #[.int .u8 0, .agg #[.int .u64 0, .int .u64 0]], []⟩ 8 (by kernel_rfl) (by kernel_rfl) (by kernel_rfl) (by kernel_rfl)) ?_
  intro W base args ds gs before hval0 hW _ hwt _
  have hval : ∀ (j : Nat) t v, Try.f7.params[j]? = some t → args[j]? = some v → Value.okWide Try.prog W .any base t v := hval0
  have hW' := hW
  obtain ⟨p, q, hA0, hV, rfl, hfz, hnd⟩ := hW
  have hA : DataW.TrodAll enc Try.prog W 0 (fun _ => true) true Try.f7.params.toList args.toList ds p := hA0
  rw [Try.params7] at hA hval
  obtain ⟨v0, vs0, d0, ds0, p0, q0, hargs, rfl, rfl, h0, r0⟩ := trodAll_cons hA
  obtain ⟨v1, vs1, d1, ds1, p1, q1, rfl, rfl, rfl, h1, r1⟩ := trodAll_cons r0
  obtain ⟨rfl, rfl, rfl⟩ := trodAll_nil r1
  obtain rfl : args = #[v0, v1] := by cases args; simp_all
  obtain ⟨a0, rfl, rfl, rfl, g0⟩ := open_int Try.underlying5 (hval 0 _ v0 rfl rfl) h0
  obtain ⟨k0, rfl, hk0⟩ := u8_wf g0
  obtain ⟨a1, rfl, g1⟩ := arg_agg (okWide_arr Try.underlying53 (hval 1 _ v1 rfl rfl)) (reads_set W) h1
  refine (wide_any k0 hk0 a1 g1 W).mono fun e W' ⟨he, bel⟩ => ?_
  refine law_post laidOut Try.underlying4 rfl (by kernel_rfl) rfl ?_ hW' he bel
  intro ds hds
  match ds, hds with
  | [_, _], _ => rfl
theorem obddWide_holds : Rows.ObddWideSaid :=
  OpenClaim.holds_of_wide 7 Try.f7 rfl rfl rfl rfl rfl rfl rfl ⟨rfl, rfl, rfl, rfl, rfl⟩ rfl rfl rfl rfl rfl (by kernel_rfl) Try.func7 (by kernel_rfl)
    (of_decide_eq_true (by kernel_rfl)) (by unfold Func.isWrapper; first | (rw [if_pos (by decide +kernel)]; kernel_rfl) | (rw [if_neg (by decide +kernel)]; exact ⟨rfl, rfl⟩))
    (fun os started T enc _ => obddWide_lifted os started T enc)
#print axioms obddWide_holds
end Go.Proofs.Ytbhgahjeocnfcaa
