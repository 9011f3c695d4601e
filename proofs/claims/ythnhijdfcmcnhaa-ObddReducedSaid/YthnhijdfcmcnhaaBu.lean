/- Not, And, Or, If, Xor. -/
import Derived.Test.YthnhijdfcmcnhaaBg
namespace Go.Proofs.Ythnhijdfcmcnhaa
open Go Go.Cx Go.RowKit
set_option linter.unusedVariables false
set_option linter.unusedSimpArgs false
set_option maxHeartbeats 4000000
attribute [local irreducible] J JC thenK blockK loopK roundK drawK retK QW Qt pel List.set Calls
open Go.Maps
set_option maxRecDepth 8000
attribute [local irreducible] JE Br eK0 eK2 eK3 brK
def Res (n : Nat) (K : KS) (s s' : SS) (m y : Nat) (g : (Nat → Bool) → Bool) : Prop := Adds n K s s' m y ∧ ∀ α, fn n s'.ns y α = g α
def intO (a : Nat) : Obj := .cells ⟨[.int .i64 (a : Int)]⟩ 3 (0, 0)
theorem Rd.app {R : Heap} {L : List Heap} {g : Nat} {o : Obj} (M : List Heap) (h : Rd R L g o) : Rd R (M ++ L) g o := by
  induction M with
  | nil => exact h
  | cons x M ih => exact ih.tl
theorem slArg (b : Nat) (l : List Int) (t : TypeId) : SlT encI 1 (some ⟨b, 0, none⟩) l [(b, .cells ⟨l.flatMap encI⟩ t (0, 0))] :=
  have e : (l.flatMap encI).length = l.length := by
    induction l with
    | nil => rfl
    | cons x l ih => rw [List.flatMap_cons, List.length_append, ih, List.length_cons]; show 1 + _ = _; omega
  OwT.sl (e := t) (cap := l.length) ⟨fun _ => rfl, .inr ⟨b, _, rfl, rfl, by rw [e, Nat.mul_one], Nat.le_refl _, by rw [Nat.mul_one, List.take_of_length_le (by rw [e]; exact Nat.le_refl _)]⟩⟩
theorem chk_ok {m : Nat} {l : List Nat} (h : ∀ x ∈ l, x < m) : chkP m (l.map (fun x : Nat => (x : Int))) = true := by
  unfold chkP
  rw [List.all_map, List.all_eq_true]
  intro x hx
  have := h x hx
  show decide (0 ≤ ((x : Nat) : Int) ∧ ((x : Nat) : Int) < (m : Int)) = true
  exact decide_eq_true ⟨by omega, by omega⟩
theorem eNotC : Entr Try.prog 67 := Entr.of Try.func67 rfl rfl
theorem eNot : Entr Try.prog 17 := Entr.of Try.func17 rfl rfl
theorem NotC_any {n : Nat} {K : KS} {s : SS} (so : SOk n K s) (a : Nat) (ha : a < s.ns.length) (hfull : s.ns.length + (2 ^ n - 1) ≤ 1048576) {w0 w : World} {R : Heap} {L : List Heap} {b0 c1 da : Nat} (r1 : Rd R L c1 (ptrS b0)) (ra : Rd R L da (intO a)) (hw : H w0 R (sF K b0 s ++ L) w) :
    Calls Try.prog 67 #[.pointer (some ⟨c1, 0, none⟩), .pointer (some ⟨da, 0, none⟩)] w fun e w' => ∃ v L', e = .returned v ∧ H w0 R L' w' ∧ ∃ s' y, v = .int .i64 ((y : Nat) : Int) ∧ L' = sF K b0 s' ++ L ∧ Res n K s s' (2 ^ n - 1) y (fun α => !(fn n s.ns a α)) := by
  have two := so.wf.two
  unfold ptrS at r1
  unfold sF at hw
  have ra2 := ra
  unfold intO at ra2
  simp only [List.cons_append, List.nil_append] at hw
  refine calls_in Try.func67 Try.ntmps67 rfl rfl (hw) ?_
  repeat' first
    | (refine J.isJ ?_; first | (first | (refine J.o 4 ?_; first | refine J.lR hΓ ?_ (hr := r1.tl.tl.tl.tl) | refine J.lR hΓ ?_ (hr := ra2.tl.tl.tl.tl)) | (refine J.fc 68 ?_; refine J.callx eCh rfl rfl (fun w hw => choose_any so ⟨a, 0, 1⟩ ⟨ha, (show 0 < s.ns.length by omega), (show 1 < s.ns.length by omega)⟩ hfull hw) ?_; rintro _ _ ⟨s1, y1, rfl, rfl, ad1, it1⟩)) | (first | (refine J.o 0 ?_; refine J.ev' hΓ ?_) | refine J.nil ?_ | refine J.kd ?_ | (refine J.o 4 ?_; first | refine J.lT default hΓ ?_ | refine J.lR hΓ ?_) | (refine J.o 3 ?_; first | refine J.iA hΓ ?_ | refine J.iJ hΓ ?_ | refine J.fP hΓ ?_ | refine J.iC hΓ ?_ | refine J.ev' hΓ ?_) | (refine J.o 1 ?_; first | refine J.ad ?_ | refine J.sb ?_ | refine J.ng ?_ | refine J.mu ?_) | (refine J.o 5 ?_; first | refine J.t0 hΓ ?_ | refine J.t1 hΓ ?_ | refine J.t2 hΓ ?_ | refine J.tT _ default hΓ (fun _ _ => ?_) | refine J.tT1 _ default hΓ (fun _ _ => ?_) | refine J.tT2 _ default hΓ (fun _ _ => ?_)) | (refine J.o 6 ?_; refine J.bx (fun _ => ?_)) | (refine J.o 7 ?_; refine J.al hΓ (fun _ => ?_)) | (refine J.o 8 ?_; refine J.bd hΓ ?_) | (refine J.o 9 ?_; refine J.bl hΓ (fun _ => ?_)) | (refine J.o 10 ?_; refine J.ev' hΓ ?_) | (refine J.o 11 ?_; refine J.ev' hΓ ?_) | (refine J.o 14 ?_; refine J.mf hΓ ?_) | refine J.kn ?_) | ((fail_if_success refine J.wt ?_); refine J.gc rfl rfl (fun hc => ?_) (fun hc => ?_) <;> ((try simp only [decide_eq_true_eq, decide_eq_false_iff_not, beq_iff_eq, beq_eq_false_iff_ne, bne_iff_ne, bne_eq_false_iff_eq, Bool.not_eq_true', Bool.not_eq_false', Bool.not_eq_true, Bool.not_eq_false] at hc) <;> first | (first | (exact absurd rfl hc) | (exfalso; omega) | (exact absurd (hc.symm.trans (by assumption : _ = false)) (by decide)) | (exact absurd (hc.symm.trans (by assumption : _ = true)) (by decide))) | skip)))
    | (first | refine JC.seq ?_ | refine JC.region ?_ | refine JC.block ?_ | refine JC.ret ?_ | refine JC.exit ?_ | refine JC.skip ?_ | refine thenK.nn ?_ | refine thenK.r ?_ | refine thenK.x ?_ | refine blockK.nn ?_ | refine blockK.r ?_ | refine blockK.hit rfl ?_ | refine blockK.miss rfl ?_ | refine JC.condT rfl ?_ | refine JC.condF rfl ?_ | (refine JC.cond rfl (fun hc => ?_) (fun hc => ?_) <;> ((try simp only [decide_eq_true_eq, decide_eq_false_iff_not, beq_iff_eq, beq_eq_false_iff_ne, bne_iff_ne, bne_eq_false_iff_eq, Bool.not_eq_true', Bool.not_eq_false', Bool.not_eq_true, Bool.not_eq_false] at hc) <;> first | (first | (exact absurd rfl hc) | (exfalso; omega) | (exact absurd (hc.symm.trans (by assumption : _ = false)) (by decide)) | (exact absurd (hc.symm.trans (by assumption : _ = true)) (by decide))) | skip)) | (refine JC.drawA [] (by kernel_rfl) (by kernel_rfl) ?_) | refine drawK.nn ?_ | refine roundK.nn ?_ | refine roundK.r ?_ | refine roundK.x ?_ | refine loopK.r ?_ | refine loopK.x ?_)
    | (fail)
    | fail
  refine ret1f rfl rfl rfl (fun w1 hw => ⟨_, _, rfl, hw, s1, y1, rfl, rfl, ad1, fun α => ?_⟩)
  have he := it1.eq α
  have ga := fn_ext so.wf ad1.ext ha α
  have z0 := fn_0 ad1.ok.wf α
  have z1 := fn_1 ad1.ok.wf α
  dsimp only at he
  rw [he]
  simp only [ga, z0, z1]
  cases fn n s.ns a α <;> rfl
theorem Not_any {n : Nat} {K : KS} {s : SS} (so : SOk n K s) (a : Nat) (ha : a < s.ns.length) (hfull : s.ns.length + (2 ^ n - 1) ≤ 1048576) {w0 w : World} {R : Heap} {L : List Heap} {b0 : Nat} (hw : H w0 R (sF K b0 s ++ L) w) :
    Calls Try.prog 17 #[.pointer (some ⟨b0, 0, none⟩), .int .i64 (a : Int)] w fun e w' => ∃ v L', e = .returned v ∧ H w0 R L' w' ∧ ∃ s' y, v = .tuple #[.int .i64 ((y : Nat) : Int), .int .i64 0] ∧ L' = sF K b0 s' ++ L ∧ Res n K s s' (2 ^ n - 1) y (fun α => !(fn n s.ns a α)) := by
  unfold sF at hw
  simp only [List.cons_append, List.nil_append] at hw
  refine calls_in Try.func17 Try.ntmps17 rfl rfl (hw) ?_
  refine JC.seq ?_
  refine JC.region ?_
  refine J.isJ ?_
  refine J.o 6 ?_
  refine J.bx (fun c1 => ?_)
  refine J.isJ ?_
  refine J.o 6 ?_
  refine J.bx (fun da => ?_)
  repeat' first
    | (refine J.isJ ?_; first | (first | (refine J.o 14 ?_; refine J.mfV [.pointer (some ⟨c1, 0, none⟩), .pointer (some ⟨da, 0, none⟩)] hΓ ?_) | (refine J.o 4 ?_; first | refine J.lR hΓ ?_ (hr := Rd.hd) | refine J.lR hΓ ?_ (hr := Rd.hd.tl)) | (refine J.o 9 ?_; refine J.bl hΓ (fun ba => ?_)) | (refine J.fc 66 ?_; refine J.callx eTry rfl rfl (fun w hw => try_any so (Q := fun s' y => Res n K s s' (2 ^ n - 1) y (fun α => !(fn n s.ns a α))) eNotC [(a : Int)] (some ⟨ba, 0, none⟩) 1 _ (slArg ba [(a : Int)] 3) (by show 1 ≤ 1000; omega) (L := [(ba, Obj.cells ⟨[.int .i64 (a : Int)]⟩ 3 (0, 0))] :: [(da, intO a)] :: [(c1, ptrS b0)] :: L) (RdH.hd) (chk_ok (l := [a]) (by simp only [List.mem_cons, List.not_mem_nil, or_false, forall_eq_or_imp, forall_eq]; exact ha)) (fun Lx w hw => NotC_any so a ha hfull (Rd.app Lx Rd.hd.tl.tl) (Rd.app Lx Rd.hd.tl) hw) (H.sel (l := [_, _, _, _, _, _, _]) (M := L) hw [3, 4, 5, 6, 0, 1, 2])) ?_; rintro _ _ ⟨s1, y1, rfl, rfl, hq⟩)) | (first | (refine J.o 0 ?_; refine J.ev' hΓ ?_) | refine J.nil ?_ | refine J.kd ?_ | (refine J.o 4 ?_; first | refine J.lT default hΓ ?_ | refine J.lR hΓ ?_) | (refine J.o 3 ?_; first | refine J.iA hΓ ?_ | refine J.iJ hΓ ?_ | refine J.fP hΓ ?_ | refine J.iC hΓ ?_ | refine J.ev' hΓ ?_) | (refine J.o 1 ?_; first | refine J.ad ?_ | refine J.sb ?_ | refine J.ng ?_ | refine J.mu ?_) | (refine J.o 5 ?_; first | refine J.t0 hΓ ?_ | refine J.t1 hΓ ?_ | refine J.t2 hΓ ?_ | refine J.tT _ default hΓ (fun _ _ => ?_) | refine J.tT1 _ default hΓ (fun _ _ => ?_) | refine J.tT2 _ default hΓ (fun _ _ => ?_)) | (refine J.o 6 ?_; refine J.bx (fun _ => ?_)) | (refine J.o 7 ?_; refine J.al hΓ (fun _ => ?_)) | (refine J.o 8 ?_; refine J.bd hΓ ?_) | (refine J.o 9 ?_; refine J.bl hΓ (fun _ => ?_)) | (refine J.o 10 ?_; refine J.ev' hΓ ?_) | (refine J.o 11 ?_; refine J.ev' hΓ ?_) | (refine J.o 14 ?_; refine J.mf hΓ ?_) | refine J.kn ?_) | ((fail_if_success refine J.wt ?_); refine J.gc rfl rfl (fun hc => ?_) (fun hc => ?_) <;> ((try simp only [decide_eq_true_eq, decide_eq_false_iff_not, beq_iff_eq, beq_eq_false_iff_ne, bne_iff_ne, bne_eq_false_iff_eq, Bool.not_eq_true', Bool.not_eq_false', Bool.not_eq_true, Bool.not_eq_false] at hc) <;> first | (first | (exact absurd rfl hc) | (exfalso; omega) | (exact absurd (hc.symm.trans (by assumption : _ = false)) (by decide)) | (exact absurd (hc.symm.trans (by assumption : _ = true)) (by decide))) | skip)))
    | (first | refine JC.seq ?_ | refine JC.region ?_ | refine JC.block ?_ | refine JC.ret ?_ | refine JC.exit ?_ | refine JC.skip ?_ | refine thenK.nn ?_ | refine thenK.r ?_ | refine thenK.x ?_ | refine blockK.nn ?_ | refine blockK.r ?_ | refine blockK.hit rfl ?_ | refine blockK.miss rfl ?_ | refine JC.condT rfl ?_ | refine JC.condF rfl ?_ | (refine JC.cond rfl (fun hc => ?_) (fun hc => ?_) <;> ((try simp only [decide_eq_true_eq, decide_eq_false_iff_not, beq_iff_eq, beq_eq_false_iff_ne, bne_iff_ne, bne_eq_false_iff_eq, Bool.not_eq_true', Bool.not_eq_false', Bool.not_eq_true, Bool.not_eq_false] at hc) <;> first | (first | (exact absurd rfl hc) | (exfalso; omega) | (exact absurd (hc.symm.trans (by assumption : _ = false)) (by decide)) | (exact absurd (hc.symm.trans (by assumption : _ = true)) (by decide))) | skip)) | refine drawK.nn ?_ | refine roundK.nn ?_ | refine roundK.r ?_ | refine roundK.x ?_ | refine loopK.r ?_ | refine loopK.x ?_)
    | (fail)
    | fail
  refine ret2f rfl rfl rfl rfl rfl (fun w1 hw => ⟨_, _, rfl, H.sel (l := [_, _, _, _, _, _, _]) (M := L) hw [0, 1, 2, 3], s1, y1, rfl, rfl, hq⟩)
theorem eAndC : Entr Try.prog 70 := Entr.of Try.func70 rfl rfl
theorem eAnd : Entr Try.prog 21 := Entr.of Try.func21 rfl rfl
theorem AndC_any {n : Nat} {K : KS} {s : SS} (so : SOk n K s) (a : Nat) (ha : a < s.ns.length) (b : Nat) (hb : b < s.ns.length) (hfull : s.ns.length + (2 ^ n - 1) ≤ 1048576) {w0 w : World} {R : Heap} {L : List Heap} {b0 c1 da db : Nat} (r1 : Rd R L c1 (ptrS b0)) (ra : Rd R L da (intO a)) (rb : Rd R L db (intO b)) (hw : H w0 R (sF K b0 s ++ L) w) :
    Calls Try.prog 70 #[.pointer (some ⟨c1, 0, none⟩), .pointer (some ⟨da, 0, none⟩), .pointer (some ⟨db, 0, none⟩)] w fun e w' => ∃ v L', e = .returned v ∧ H w0 R L' w' ∧ ∃ s' y, v = .int .i64 ((y : Nat) : Int) ∧ L' = sF K b0 s' ++ L ∧ Res n K s s' (2 ^ n - 1) y (fun α => (fn n s.ns a α && fn n s.ns b α)) := by
  have two := so.wf.two
  unfold ptrS at r1
  unfold sF at hw
  have ra2 := ra
  unfold intO at ra2
  have rb2 := rb
  unfold intO at rb2
  simp only [List.cons_append, List.nil_append] at hw
  refine calls_in Try.func70 Try.ntmps70 rfl rfl (hw) ?_
  repeat' first
    | (refine J.isJ ?_; first | (first | (refine J.o 4 ?_; first | refine J.lR hΓ ?_ (hr := r1.tl.tl.tl.tl) | refine J.lR hΓ ?_ (hr := ra2.tl.tl.tl.tl) | refine J.lR hΓ ?_ (hr := rb2.tl.tl.tl.tl)) | (refine J.fc 68 ?_; refine J.callx eCh rfl rfl (fun w hw => choose_any so ⟨a, b, 0⟩ ⟨ha, hb, (show 0 < s.ns.length by omega)⟩ hfull hw) ?_; rintro _ _ ⟨s1, y1, rfl, rfl, ad1, it1⟩)) | (first | (refine J.o 0 ?_; refine J.ev' hΓ ?_) | refine J.nil ?_ | refine J.kd ?_ | (refine J.o 4 ?_; first | refine J.lT default hΓ ?_ | refine J.lR hΓ ?_) | (refine J.o 3 ?_; first | refine J.iA hΓ ?_ | refine J.iJ hΓ ?_ | refine J.fP hΓ ?_ | refine J.iC hΓ ?_ | refine J.ev' hΓ ?_) | (refine J.o 1 ?_; first | refine J.ad ?_ | refine J.sb ?_ | refine J.ng ?_ | refine J.mu ?_) | (refine J.o 5 ?_; first | refine J.t0 hΓ ?_ | refine J.t1 hΓ ?_ | refine J.t2 hΓ ?_ | refine J.tT _ default hΓ (fun _ _ => ?_) | refine J.tT1 _ default hΓ (fun _ _ => ?_) | refine J.tT2 _ default hΓ (fun _ _ => ?_)) | (refine J.o 6 ?_; refine J.bx (fun _ => ?_)) | (refine J.o 7 ?_; refine J.al hΓ (fun _ => ?_)) | (refine J.o 8 ?_; refine J.bd hΓ ?_) | (refine J.o 9 ?_; refine J.bl hΓ (fun _ => ?_)) | (refine J.o 10 ?_; refine J.ev' hΓ ?_) | (refine J.o 11 ?_; refine J.ev' hΓ ?_) | (refine J.o 14 ?_; refine J.mf hΓ ?_) | refine J.kn ?_) | ((fail_if_success refine J.wt ?_); refine J.gc rfl rfl (fun hc => ?_) (fun hc => ?_) <;> ((try simp only [decide_eq_true_eq, decide_eq_false_iff_not, beq_iff_eq, beq_eq_false_iff_ne, bne_iff_ne, bne_eq_false_iff_eq, Bool.not_eq_true', Bool.not_eq_false', Bool.not_eq_true, Bool.not_eq_false] at hc) <;> first | (first | (exact absurd rfl hc) | (exfalso; omega) | (exact absurd (hc.symm.trans (by assumption : _ = false)) (by decide)) | (exact absurd (hc.symm.trans (by assumption : _ = true)) (by decide))) | skip)))
    | (first | refine JC.seq ?_ | refine JC.region ?_ | refine JC.block ?_ | refine JC.ret ?_ | refine JC.exit ?_ | refine JC.skip ?_ | refine thenK.nn ?_ | refine thenK.r ?_ | refine thenK.x ?_ | refine blockK.nn ?_ | refine blockK.r ?_ | refine blockK.hit rfl ?_ | refine blockK.miss rfl ?_ | refine JC.condT rfl ?_ | refine JC.condF rfl ?_ | (refine JC.cond rfl (fun hc => ?_) (fun hc => ?_) <;> ((try simp only [decide_eq_true_eq, decide_eq_false_iff_not, beq_iff_eq, beq_eq_false_iff_ne, bne_iff_ne, bne_eq_false_iff_eq, Bool.not_eq_true', Bool.not_eq_false', Bool.not_eq_true, Bool.not_eq_false] at hc) <;> first | (first | (exact absurd rfl hc) | (exfalso; omega) | (exact absurd (hc.symm.trans (by assumption : _ = false)) (by decide)) | (exact absurd (hc.symm.trans (by assumption : _ = true)) (by decide))) | skip)) | (refine JC.drawA [] (by kernel_rfl) (by kernel_rfl) ?_) | refine drawK.nn ?_ | refine roundK.nn ?_ | refine roundK.r ?_ | refine roundK.x ?_ | refine loopK.r ?_ | refine loopK.x ?_)
    | (fail)
    | fail
  refine ret1f rfl rfl rfl (fun w1 hw => ⟨_, _, rfl, hw, s1, y1, rfl, rfl, ad1, fun α => ?_⟩)
  have he := it1.eq α
  have ga := fn_ext so.wf ad1.ext ha α
  have gb := fn_ext so.wf ad1.ext hb α
  have z0 := fn_0 ad1.ok.wf α
  have z1 := fn_1 ad1.ok.wf α
  dsimp only at he
  rw [he]
  simp only [ga, gb, z0, z1]
  cases fn n s.ns a α <;> cases fn n s.ns b α <;> rfl
theorem And_any {n : Nat} {K : KS} {s : SS} (so : SOk n K s) (a : Nat) (ha : a < s.ns.length) (b : Nat) (hb : b < s.ns.length) (hfull : s.ns.length + (2 ^ n - 1) ≤ 1048576) {w0 w : World} {R : Heap} {L : List Heap} {b0 : Nat} (hw : H w0 R (sF K b0 s ++ L) w) :
    Calls Try.prog 21 #[.pointer (some ⟨b0, 0, none⟩), .int .i64 (a : Int), .int .i64 (b : Int)] w fun e w' => ∃ v L', e = .returned v ∧ H w0 R L' w' ∧ ∃ s' y, v = .tuple #[.int .i64 ((y : Nat) : Int), .int .i64 0] ∧ L' = sF K b0 s' ++ L ∧ Res n K s s' (2 ^ n - 1) y (fun α => (fn n s.ns a α && fn n s.ns b α)) := by
  unfold sF at hw
  simp only [List.cons_append, List.nil_append] at hw
  refine calls_in Try.func21 Try.ntmps21 rfl rfl (hw) ?_
  refine JC.seq ?_
  refine JC.region ?_
  refine J.isJ ?_
  refine J.o 6 ?_
  refine J.bx (fun c1 => ?_)
  refine J.isJ ?_
  refine J.o 6 ?_
  refine J.bx (fun da => ?_)
  refine J.isJ ?_
  refine J.o 6 ?_
  refine J.bx (fun db => ?_)
  repeat' first
    | (refine J.isJ ?_; first | (first | (refine J.o 14 ?_; refine J.mfV [.pointer (some ⟨c1, 0, none⟩), .pointer (some ⟨da, 0, none⟩), .pointer (some ⟨db, 0, none⟩)] hΓ ?_) | (refine J.o 4 ?_; first | refine J.lR hΓ ?_ (hr := Rd.hd) | refine J.lR hΓ ?_ (hr := Rd.hd.tl) | refine J.lR hΓ ?_ (hr := Rd.hd.tl.tl)) | (refine J.o 9 ?_; refine J.bl hΓ (fun ba => ?_)) | (refine J.fc 66 ?_; refine J.callx eTry rfl rfl (fun w hw => try_any so (Q := fun s' y => Res n K s s' (2 ^ n - 1) y (fun α => (fn n s.ns a α && fn n s.ns b α))) eAndC [(a : Int), (b : Int)] (some ⟨ba, 0, none⟩) 2 _ (slArg ba [(a : Int), (b : Int)] 3) (by show 2 ≤ 1000; omega) (L := [(ba, Obj.cells ⟨[.int .i64 (a : Int), .int .i64 (b : Int)]⟩ 3 (0, 0))] :: [(db, intO b)] :: [(da, intO a)] :: [(c1, ptrS b0)] :: L) (RdH.hd) (chk_ok (l := [a, b]) (by simp only [List.mem_cons, List.not_mem_nil, or_false, forall_eq_or_imp, forall_eq]; exact ⟨ha, hb⟩)) (fun Lx w hw => AndC_any so a ha b hb hfull (Rd.app Lx Rd.hd.tl.tl.tl) (Rd.app Lx Rd.hd.tl.tl) (Rd.app Lx Rd.hd.tl) hw) (H.sel (l := [_, _, _, _, _, _, _, _]) (M := L) hw [4, 5, 6, 7, 0, 1, 2, 3])) ?_; rintro _ _ ⟨s1, y1, rfl, rfl, hq⟩)) | (first | (refine J.o 0 ?_; refine J.ev' hΓ ?_) | refine J.nil ?_ | refine J.kd ?_ | (refine J.o 4 ?_; first | refine J.lT default hΓ ?_ | refine J.lR hΓ ?_) | (refine J.o 3 ?_; first | refine J.iA hΓ ?_ | refine J.iJ hΓ ?_ | refine J.fP hΓ ?_ | refine J.iC hΓ ?_ | refine J.ev' hΓ ?_) | (refine J.o 1 ?_; first | refine J.ad ?_ | refine J.sb ?_ | refine J.ng ?_ | refine J.mu ?_) | (refine J.o 5 ?_; first | refine J.t0 hΓ ?_ | refine J.t1 hΓ ?_ | refine J.t2 hΓ ?_ | refine J.tT _ default hΓ (fun _ _ => ?_) | refine J.tT1 _ default hΓ (fun _ _ => ?_) | refine J.tT2 _ default hΓ (fun _ _ => ?_)) | (refine J.o 6 ?_; refine J.bx (fun _ => ?_)) | (refine J.o 7 ?_; refine J.al hΓ (fun _ => ?_)) | (refine J.o 8 ?_; refine J.bd hΓ ?_) | (refine J.o 9 ?_; refine J.bl hΓ (fun _ => ?_)) | (refine J.o 10 ?_; refine J.ev' hΓ ?_) | (refine J.o 11 ?_; refine J.ev' hΓ ?_) | (refine J.o 14 ?_; refine J.mf hΓ ?_) | refine J.kn ?_) | ((fail_if_success refine J.wt ?_); refine J.gc rfl rfl (fun hc => ?_) (fun hc => ?_) <;> ((try simp only [decide_eq_true_eq, decide_eq_false_iff_not, beq_iff_eq, beq_eq_false_iff_ne, bne_iff_ne, bne_eq_false_iff_eq, Bool.not_eq_true', Bool.not_eq_false', Bool.not_eq_true, Bool.not_eq_false] at hc) <;> first | (first | (exact absurd rfl hc) | (exfalso; omega) | (exact absurd (hc.symm.trans (by assumption : _ = false)) (by decide)) | (exact absurd (hc.symm.trans (by assumption : _ = true)) (by decide))) | skip)))
    | (first | refine JC.seq ?_ | refine JC.region ?_ | refine JC.block ?_ | refine JC.ret ?_ | refine JC.exit ?_ | refine JC.skip ?_ | refine thenK.nn ?_ | refine thenK.r ?_ | refine thenK.x ?_ | refine blockK.nn ?_ | refine blockK.r ?_ | refine blockK.hit rfl ?_ | refine blockK.miss rfl ?_ | refine JC.condT rfl ?_ | refine JC.condF rfl ?_ | (refine JC.cond rfl (fun hc => ?_) (fun hc => ?_) <;> ((try simp only [decide_eq_true_eq, decide_eq_false_iff_not, beq_iff_eq, beq_eq_false_iff_ne, bne_iff_ne, bne_eq_false_iff_eq, Bool.not_eq_true', Bool.not_eq_false', Bool.not_eq_true, Bool.not_eq_false] at hc) <;> first | (first | (exact absurd rfl hc) | (exfalso; omega) | (exact absurd (hc.symm.trans (by assumption : _ = false)) (by decide)) | (exact absurd (hc.symm.trans (by assumption : _ = true)) (by decide))) | skip)) | refine drawK.nn ?_ | refine roundK.nn ?_ | refine roundK.r ?_ | refine roundK.x ?_ | refine loopK.r ?_ | refine loopK.x ?_)
    | (fail)
    | fail
  refine ret2f rfl rfl rfl rfl rfl (fun w1 hw => ⟨_, _, rfl, H.sel (l := [_, _, _, _, _, _, _, _]) (M := L) hw [0, 1, 2, 3], s1, y1, rfl, rfl, hq⟩)
theorem eOrC : Entr Try.prog 96 := Entr.of Try.func96 rfl rfl
theorem eOr : Entr Try.prog 39 := Entr.of Try.func39 rfl rfl
theorem OrC_any {n : Nat} {K : KS} {s : SS} (so : SOk n K s) (a : Nat) (ha : a < s.ns.length) (b : Nat) (hb : b < s.ns.length) (hfull : s.ns.length + (2 ^ n - 1) ≤ 1048576) {w0 w : World} {R : Heap} {L : List Heap} {b0 c1 da db : Nat} (r1 : Rd R L c1 (ptrS b0)) (ra : Rd R L da (intO a)) (rb : Rd R L db (intO b)) (hw : H w0 R (sF K b0 s ++ L) w) :
    Calls Try.prog 96 #[.pointer (some ⟨c1, 0, none⟩), .pointer (some ⟨da, 0, none⟩), .pointer (some ⟨db, 0, none⟩)] w fun e w' => ∃ v L', e = .returned v ∧ H w0 R L' w' ∧ ∃ s' y, v = .int .i64 ((y : Nat) : Int) ∧ L' = sF K b0 s' ++ L ∧ Res n K s s' (2 ^ n - 1) y (fun α => (Bool.or (fn n s.ns a α) (fn n s.ns b α))) := by
  have two := so.wf.two
  unfold ptrS at r1
  unfold sF at hw
  have ra2 := ra
  unfold intO at ra2
  have rb2 := rb
  unfold intO at rb2
  simp only [List.cons_append, List.nil_append] at hw
  refine calls_in Try.func96 Try.ntmps96 rfl rfl (hw) ?_
  repeat' first
    | (refine J.isJ ?_; first | (first | (refine J.o 4 ?_; first | refine J.lR hΓ ?_ (hr := r1.tl.tl.tl.tl) | refine J.lR hΓ ?_ (hr := ra2.tl.tl.tl.tl) | refine J.lR hΓ ?_ (hr := rb2.tl.tl.tl.tl)) | (refine J.fc 68 ?_; refine J.callx eCh rfl rfl (fun w hw => choose_any so ⟨a, 1, b⟩ ⟨ha, (show 1 < s.ns.length by omega), hb⟩ hfull hw) ?_; rintro _ _ ⟨s1, y1, rfl, rfl, ad1, it1⟩)) | (first | (refine J.o 0 ?_; refine J.ev' hΓ ?_) | refine J.nil ?_ | refine J.kd ?_ | (refine J.o 4 ?_; first | refine J.lT default hΓ ?_ | refine J.lR hΓ ?_) | (refine J.o 3 ?_; first | refine J.iA hΓ ?_ | refine J.iJ hΓ ?_ | refine J.fP hΓ ?_ | refine J.iC hΓ ?_ | refine J.ev' hΓ ?_) | (refine J.o 1 ?_; first | refine J.ad ?_ | refine J.sb ?_ | refine J.ng ?_ | refine J.mu ?_) | (refine J.o 5 ?_; first | refine J.t0 hΓ ?_ | refine J.t1 hΓ ?_ | refine J.t2 hΓ ?_ | refine J.tT _ default hΓ (fun _ _ => ?_) | refine J.tT1 _ default hΓ (fun _ _ => ?_) | refine J.tT2 _ default hΓ (fun _ _ => ?_)) | (refine J.o 6 ?_; refine J.bx (fun _ => ?_)) | (refine J.o 7 ?_; refine J.al hΓ (fun _ => ?_)) | (refine J.o 8 ?_; refine J.bd hΓ ?_) | (refine J.o 9 ?_; refine J.bl hΓ (fun _ => ?_)) | (refine J.o 10 ?_; refine J.ev' hΓ ?_) | (refine J.o 11 ?_; refine J.ev' hΓ ?_) | (refine J.o 14 ?_; refine J.mf hΓ ?_) | refine J.kn ?_) | ((fail_if_success refine J.wt ?_); refine J.gc rfl rfl (fun hc => ?_) (fun hc => ?_) <;> ((try simp only [decide_eq_true_eq, decide_eq_false_iff_not, beq_iff_eq, beq_eq_false_iff_ne, bne_iff_ne, bne_eq_false_iff_eq, Bool.not_eq_true', Bool.not_eq_false', Bool.not_eq_true, Bool.not_eq_false] at hc) <;> first | (first | (exact absurd rfl hc) | (exfalso; omega) | (exact absurd (hc.symm.trans (by assumption : _ = false)) (by decide)) | (exact absurd (hc.symm.trans (by assumption : _ = true)) (by decide))) | skip)))
    | (first | refine JC.seq ?_ | refine JC.region ?_ | refine JC.block ?_ | refine JC.ret ?_ | refine JC.exit ?_ | refine JC.skip ?_ | refine thenK.nn ?_ | refine thenK.r ?_ | refine thenK.x ?_ | refine blockK.nn ?_ | refine blockK.r ?_ | refine blockK.hit rfl ?_ | refine blockK.miss rfl ?_ | refine JC.condT rfl ?_ | refine JC.condF rfl ?_ | (refine JC.cond rfl (fun hc => ?_) (fun hc => ?_) <;> ((try simp only [decide_eq_true_eq, decide_eq_false_iff_not, beq_iff_eq, beq_eq_false_iff_ne, bne_iff_ne, bne_eq_false_iff_eq, Bool.not_eq_true', Bool.not_eq_false', Bool.not_eq_true, Bool.not_eq_false] at hc) <;> first | (first | (exact absurd rfl hc) | (exfalso; omega) | (exact absurd (hc.symm.trans (by assumption : _ = false)) (by decide)) | (exact absurd (hc.symm.trans (by assumption : _ = true)) (by decide))) | skip)) | (refine JC.drawA [] (by kernel_rfl) (by kernel_rfl) ?_) | refine drawK.nn ?_ | refine roundK.nn ?_ | refine roundK.r ?_ | refine roundK.x ?_ | refine loopK.r ?_ | refine loopK.x ?_)
    | (fail)
    | fail
  refine ret1f rfl rfl rfl (fun w1 hw => ⟨_, _, rfl, hw, s1, y1, rfl, rfl, ad1, fun α => ?_⟩)
  have he := it1.eq α
  have ga := fn_ext so.wf ad1.ext ha α
  have gb := fn_ext so.wf ad1.ext hb α
  have z0 := fn_0 ad1.ok.wf α
  have z1 := fn_1 ad1.ok.wf α
  dsimp only at he
  rw [he]
  simp only [ga, gb, z0, z1]
  cases fn n s.ns a α <;> cases fn n s.ns b α <;> rfl
theorem Or_any {n : Nat} {K : KS} {s : SS} (so : SOk n K s) (a : Nat) (ha : a < s.ns.length) (b : Nat) (hb : b < s.ns.length) (hfull : s.ns.length + (2 ^ n - 1) ≤ 1048576) {w0 w : World} {R : Heap} {L : List Heap} {b0 : Nat} (hw : H w0 R (sF K b0 s ++ L) w) :
    Calls Try.prog 39 #[.pointer (some ⟨b0, 0, none⟩), .int .i64 (a : Int), .int .i64 (b : Int)] w fun e w' => ∃ v L', e = .returned v ∧ H w0 R L' w' ∧ ∃ s' y, v = .tuple #[.int .i64 ((y : Nat) : Int), .int .i64 0] ∧ L' = sF K b0 s' ++ L ∧ Res n K s s' (2 ^ n - 1) y (fun α => (Bool.or (fn n s.ns a α) (fn n s.ns b α))) := by
  unfold sF at hw
  simp only [List.cons_append, List.nil_append] at hw
  refine calls_in Try.func39 Try.ntmps39 rfl rfl (hw) ?_
  refine JC.seq ?_
  refine JC.region ?_
  refine J.isJ ?_
  refine J.o 6 ?_
  refine J.bx (fun c1 => ?_)
  refine J.isJ ?_
  refine J.o 6 ?_
  refine J.bx (fun da => ?_)
  refine J.isJ ?_
  refine J.o 6 ?_
  refine J.bx (fun db => ?_)
  repeat' first
    | (refine J.isJ ?_; first | (first | (refine J.o 14 ?_; refine J.mfV [.pointer (some ⟨c1, 0, none⟩), .pointer (some ⟨da, 0, none⟩), .pointer (some ⟨db, 0, none⟩)] hΓ ?_) | (refine J.o 4 ?_; first | refine J.lR hΓ ?_ (hr := Rd.hd) | refine J.lR hΓ ?_ (hr := Rd.hd.tl) | refine J.lR hΓ ?_ (hr := Rd.hd.tl.tl)) | (refine J.o 9 ?_; refine J.bl hΓ (fun ba => ?_)) | (refine J.fc 66 ?_; refine J.callx eTry rfl rfl (fun w hw => try_any so (Q := fun s' y => Res n K s s' (2 ^ n - 1) y (fun α => (Bool.or (fn n s.ns a α) (fn n s.ns b α)))) eOrC [(a : Int), (b : Int)] (some ⟨ba, 0, none⟩) 2 _ (slArg ba [(a : Int), (b : Int)] 3) (by show 2 ≤ 1000; omega) (L := [(ba, Obj.cells ⟨[.int .i64 (a : Int), .int .i64 (b : Int)]⟩ 3 (0, 0))] :: [(db, intO b)] :: [(da, intO a)] :: [(c1, ptrS b0)] :: L) (RdH.hd) (chk_ok (l := [a, b]) (by simp only [List.mem_cons, List.not_mem_nil, or_false, forall_eq_or_imp, forall_eq]; exact ⟨ha, hb⟩)) (fun Lx w hw => OrC_any so a ha b hb hfull (Rd.app Lx Rd.hd.tl.tl.tl) (Rd.app Lx Rd.hd.tl.tl) (Rd.app Lx Rd.hd.tl) hw) (H.sel (l := [_, _, _, _, _, _, _, _]) (M := L) hw [4, 5, 6, 7, 0, 1, 2, 3])) ?_; rintro _ _ ⟨s1, y1, rfl, rfl, hq⟩)) | (first | (refine J.o 0 ?_; refine J.ev' hΓ ?_) | refine J.nil ?_ | refine J.kd ?_ | (refine J.o 4 ?_; first | refine J.lT default hΓ ?_ | refine J.lR hΓ ?_) | (refine J.o 3 ?_; first | refine J.iA hΓ ?_ | refine J.iJ hΓ ?_ | refine J.fP hΓ ?_ | refine J.iC hΓ ?_ | refine J.ev' hΓ ?_) | (refine J.o 1 ?_; first | refine J.ad ?_ | refine J.sb ?_ | refine J.ng ?_ | refine J.mu ?_) | (refine J.o 5 ?_; first | refine J.t0 hΓ ?_ | refine J.t1 hΓ ?_ | refine J.t2 hΓ ?_ | refine J.tT _ default hΓ (fun _ _ => ?_) | refine J.tT1 _ default hΓ (fun _ _ => ?_) | refine J.tT2 _ default hΓ (fun _ _ => ?_)) | (refine J.o 6 ?_; refine J.bx (fun _ => ?_)) | (refine J.o 7 ?_; refine J.al hΓ (fun _ => ?_)) | (refine J.o 8 ?_; refine J.bd hΓ ?_) | (refine J.o 9 ?_; refine J.bl hΓ (fun _ => ?_)) | (refine J.o 10 ?_; refine J.ev' hΓ ?_) | (refine J.o 11 ?_; refine J.ev' hΓ ?_) | (refine J.o 14 ?_; refine J.mf hΓ ?_) | refine J.kn ?_) | ((fail_if_success refine J.wt ?_); refine J.gc rfl rfl (fun hc => ?_) (fun hc => ?_) <;> ((try simp only [decide_eq_true_eq, decide_eq_false_iff_not, beq_iff_eq, beq_eq_false_iff_ne, bne_iff_ne, bne_eq_false_iff_eq, Bool.not_eq_true', Bool.not_eq_false', Bool.not_eq_true, Bool.not_eq_false] at hc) <;> first | (first | (exact absurd rfl hc) | (exfalso; omega) | (exact absurd (hc.symm.trans (by assumption : _ = false)) (by decide)) | (exact absurd (hc.symm.trans (by assumption : _ = true)) (by decide))) | skip)))
    | (first | refine JC.seq ?_ | refine JC.region ?_ | refine JC.block ?_ | refine JC.ret ?_ | refine JC.exit ?_ | refine JC.skip ?_ | refine thenK.nn ?_ | refine thenK.r ?_ | refine thenK.x ?_ | refine blockK.nn ?_ | refine blockK.r ?_ | refine blockK.hit rfl ?_ | refine blockK.miss rfl ?_ | refine JC.condT rfl ?_ | refine JC.condF rfl ?_ | (refine JC.cond rfl (fun hc => ?_) (fun hc => ?_) <;> ((try simp only [decide_eq_true_eq, decide_eq_false_iff_not, beq_iff_eq, beq_eq_false_iff_ne, bne_iff_ne, bne_eq_false_iff_eq, Bool.not_eq_true', Bool.not_eq_false', Bool.not_eq_true, Bool.not_eq_false] at hc) <;> first | (first | (exact absurd rfl hc) | (exfalso; omega) | (exact absurd (hc.symm.trans (by assumption : _ = false)) (by decide)) | (exact absurd (hc.symm.trans (by assumption : _ = true)) (by decide))) | skip)) | refine drawK.nn ?_ | refine roundK.nn ?_ | refine roundK.r ?_ | refine roundK.x ?_ | refine loopK.r ?_ | refine loopK.x ?_)
    | (fail)
    | fail
  refine ret2f rfl rfl rfl rfl rfl (fun w1 hw => ⟨_, _, rfl, H.sel (l := [_, _, _, _, _, _, _, _]) (M := L) hw [0, 1, 2, 3], s1, y1, rfl, rfl, hq⟩)
theorem eIfC : Entr Try.prog 69 := Entr.of Try.func69 rfl rfl
theorem eIf : Entr Try.prog 20 := Entr.of Try.func20 rfl rfl
theorem IfC_any {n : Nat} {K : KS} {s : SS} (so : SOk n K s) (a : Nat) (ha : a < s.ns.length) (b : Nat) (hb : b < s.ns.length) (c : Nat) (hc : c < s.ns.length) (hfull : s.ns.length + (2 ^ n - 1) ≤ 1048576) {w0 w : World} {R : Heap} {L : List Heap} {b0 c1 da db dc : Nat} (r1 : Rd R L c1 (ptrS b0)) (ra : Rd R L da (intO a)) (rb : Rd R L db (intO b)) (rc : Rd R L dc (intO c)) (hw : H w0 R (sF K b0 s ++ L) w) :
    Calls Try.prog 69 #[.pointer (some ⟨c1, 0, none⟩), .pointer (some ⟨da, 0, none⟩), .pointer (some ⟨db, 0, none⟩), .pointer (some ⟨dc, 0, none⟩)] w fun e w' => ∃ v L', e = .returned v ∧ H w0 R L' w' ∧ ∃ s' y, v = .int .i64 ((y : Nat) : Int) ∧ L' = sF K b0 s' ++ L ∧ Res n K s s' (2 ^ n - 1) y (fun α => (if fn n s.ns a α then fn n s.ns b α else fn n s.ns c α)) := by
  have two := so.wf.two
  unfold ptrS at r1
  unfold sF at hw
  have ra2 := ra
  unfold intO at ra2
  have rb2 := rb
  unfold intO at rb2
  have rc2 := rc
  unfold intO at rc2
  simp only [List.cons_append, List.nil_append] at hw
  refine calls_in Try.func69 Try.ntmps69 rfl rfl (hw) ?_
  repeat' first
    | (refine J.isJ ?_; first | (first | (refine J.o 4 ?_; first | refine J.lR hΓ ?_ (hr := r1.tl.tl.tl.tl) | refine J.lR hΓ ?_ (hr := ra2.tl.tl.tl.tl) | refine J.lR hΓ ?_ (hr := rb2.tl.tl.tl.tl) | refine J.lR hΓ ?_ (hr := rc2.tl.tl.tl.tl)) | (refine J.fc 68 ?_; refine J.callx eCh rfl rfl (fun w hw => choose_any so ⟨a, b, c⟩ ⟨ha, hb, hc⟩ hfull hw) ?_; rintro _ _ ⟨s1, y1, rfl, rfl, ad1, it1⟩)) | (first | (refine J.o 0 ?_; refine J.ev' hΓ ?_) | refine J.nil ?_ | refine J.kd ?_ | (refine J.o 4 ?_; first | refine J.lT default hΓ ?_ | refine J.lR hΓ ?_) | (refine J.o 3 ?_; first | refine J.iA hΓ ?_ | refine J.iJ hΓ ?_ | refine J.fP hΓ ?_ | refine J.iC hΓ ?_ | refine J.ev' hΓ ?_) | (refine J.o 1 ?_; first | refine J.ad ?_ | refine J.sb ?_ | refine J.ng ?_ | refine J.mu ?_) | (refine J.o 5 ?_; first | refine J.t0 hΓ ?_ | refine J.t1 hΓ ?_ | refine J.t2 hΓ ?_ | refine J.tT _ default hΓ (fun _ _ => ?_) | refine J.tT1 _ default hΓ (fun _ _ => ?_) | refine J.tT2 _ default hΓ (fun _ _ => ?_)) | (refine J.o 6 ?_; refine J.bx (fun _ => ?_)) | (refine J.o 7 ?_; refine J.al hΓ (fun _ => ?_)) | (refine J.o 8 ?_; refine J.bd hΓ ?_) | (refine J.o 9 ?_; refine J.bl hΓ (fun _ => ?_)) | (refine J.o 10 ?_; refine J.ev' hΓ ?_) | (refine J.o 11 ?_; refine J.ev' hΓ ?_) | (refine J.o 14 ?_; refine J.mf hΓ ?_) | refine J.kn ?_) | ((fail_if_success refine J.wt ?_); refine J.gc rfl rfl (fun hc => ?_) (fun hc => ?_) <;> ((try simp only [decide_eq_true_eq, decide_eq_false_iff_not, beq_iff_eq, beq_eq_false_iff_ne, bne_iff_ne, bne_eq_false_iff_eq, Bool.not_eq_true', Bool.not_eq_false', Bool.not_eq_true, Bool.not_eq_false] at hc) <;> first | (first | (exact absurd rfl hc) | (exfalso; omega) | (exact absurd (hc.symm.trans (by assumption : _ = false)) (by decide)) | (exact absurd (hc.symm.trans (by assumption : _ = true)) (by decide))) | skip)))
    | (first | refine JC.seq ?_ | refine JC.region ?_ | refine JC.block ?_ | refine JC.ret ?_ | refine JC.exit ?_ | refine JC.skip ?_ | refine thenK.nn ?_ | refine thenK.r ?_ | refine thenK.x ?_ | refine blockK.nn ?_ | refine blockK.r ?_ | refine blockK.hit rfl ?_ | refine blockK.miss rfl ?_ | refine JC.condT rfl ?_ | refine JC.condF rfl ?_ | (refine JC.cond rfl (fun hc => ?_) (fun hc => ?_) <;> ((try simp only [decide_eq_true_eq, decide_eq_false_iff_not, beq_iff_eq, beq_eq_false_iff_ne, bne_iff_ne, bne_eq_false_iff_eq, Bool.not_eq_true', Bool.not_eq_false', Bool.not_eq_true, Bool.not_eq_false] at hc) <;> first | (first | (exact absurd rfl hc) | (exfalso; omega) | (exact absurd (hc.symm.trans (by assumption : _ = false)) (by decide)) | (exact absurd (hc.symm.trans (by assumption : _ = true)) (by decide))) | skip)) | (refine JC.drawA [] (by kernel_rfl) (by kernel_rfl) ?_) | refine drawK.nn ?_ | refine roundK.nn ?_ | refine roundK.r ?_ | refine roundK.x ?_ | refine loopK.r ?_ | refine loopK.x ?_)
    | (fail)
    | fail
  refine ret1f rfl rfl rfl (fun w1 hw => ⟨_, _, rfl, hw, s1, y1, rfl, rfl, ad1, fun α => ?_⟩)
  have he := it1.eq α
  have ga := fn_ext so.wf ad1.ext ha α
  have gb := fn_ext so.wf ad1.ext hb α
  have gc := fn_ext so.wf ad1.ext hc α
  have z0 := fn_0 ad1.ok.wf α
  have z1 := fn_1 ad1.ok.wf α
  dsimp only at he
  rw [he]
  simp only [ga, gb, gc, z0, z1]
theorem If_any {n : Nat} {K : KS} {s : SS} (so : SOk n K s) (a : Nat) (ha : a < s.ns.length) (b : Nat) (hb : b < s.ns.length) (c : Nat) (hc : c < s.ns.length) (hfull : s.ns.length + (2 ^ n - 1) ≤ 1048576) {w0 w : World} {R : Heap} {L : List Heap} {b0 : Nat} (hw : H w0 R (sF K b0 s ++ L) w) :
    Calls Try.prog 20 #[.pointer (some ⟨b0, 0, none⟩), .int .i64 (a : Int), .int .i64 (b : Int), .int .i64 (c : Int)] w fun e w' => ∃ v L', e = .returned v ∧ H w0 R L' w' ∧ ∃ s' y, v = .tuple #[.int .i64 ((y : Nat) : Int), .int .i64 0] ∧ L' = sF K b0 s' ++ L ∧ Res n K s s' (2 ^ n - 1) y (fun α => (if fn n s.ns a α then fn n s.ns b α else fn n s.ns c α)) := by
  unfold sF at hw
  simp only [List.cons_append, List.nil_append] at hw
  refine calls_in Try.func20 Try.ntmps20 rfl rfl (hw) ?_
  refine JC.seq ?_
  refine JC.region ?_
  refine J.isJ ?_
  refine J.o 6 ?_
  refine J.bx (fun c1 => ?_)
  refine J.isJ ?_
  refine J.o 6 ?_
  refine J.bx (fun da => ?_)
  refine J.isJ ?_
  refine J.o 6 ?_
  refine J.bx (fun db => ?_)
  refine J.isJ ?_
  refine J.o 6 ?_
  refine J.bx (fun dc => ?_)
  repeat' first
    | (refine J.isJ ?_; first | (first | (refine J.o 14 ?_; refine J.mfV [.pointer (some ⟨c1, 0, none⟩), .pointer (some ⟨da, 0, none⟩), .pointer (some ⟨db, 0, none⟩), .pointer (some ⟨dc, 0, none⟩)] hΓ ?_) | (refine J.o 4 ?_; first | refine J.lR hΓ ?_ (hr := Rd.hd) | refine J.lR hΓ ?_ (hr := Rd.hd.tl) | refine J.lR hΓ ?_ (hr := Rd.hd.tl.tl) | refine J.lR hΓ ?_ (hr := Rd.hd.tl.tl.tl)) | (refine J.o 9 ?_; refine J.bl hΓ (fun ba => ?_)) | (refine J.fc 66 ?_; refine J.callx eTry rfl rfl (fun w hw => try_any so (Q := fun s' y => Res n K s s' (2 ^ n - 1) y (fun α => (if fn n s.ns a α then fn n s.ns b α else fn n s.ns c α))) eIfC [(a : Int), (b : Int), (c : Int)] (some ⟨ba, 0, none⟩) 3 _ (slArg ba [(a : Int), (b : Int), (c : Int)] 3) (by show 3 ≤ 1000; omega) (L := [(ba, Obj.cells ⟨[.int .i64 (a : Int), .int .i64 (b : Int), .int .i64 (c : Int)]⟩ 3 (0, 0))] :: [(dc, intO c)] :: [(db, intO b)] :: [(da, intO a)] :: [(c1, ptrS b0)] :: L) (RdH.hd) (chk_ok (l := [a, b, c]) (by simp only [List.mem_cons, List.not_mem_nil, or_false, forall_eq_or_imp, forall_eq]; exact ⟨ha, hb, hc⟩)) (fun Lx w hw => IfC_any so a ha b hb c hc hfull (Rd.app Lx Rd.hd.tl.tl.tl.tl) (Rd.app Lx Rd.hd.tl.tl.tl) (Rd.app Lx Rd.hd.tl.tl) (Rd.app Lx Rd.hd.tl) hw) (H.sel (l := [_, _, _, _, _, _, _, _, _]) (M := L) hw [5, 6, 7, 8, 0, 1, 2, 3, 4])) ?_; rintro _ _ ⟨s1, y1, rfl, rfl, hq⟩)) | (first | (refine J.o 0 ?_; refine J.ev' hΓ ?_) | refine J.nil ?_ | refine J.kd ?_ | (refine J.o 4 ?_; first | refine J.lT default hΓ ?_ | refine J.lR hΓ ?_) | (refine J.o 3 ?_; first | refine J.iA hΓ ?_ | refine J.iJ hΓ ?_ | refine J.fP hΓ ?_ | refine J.iC hΓ ?_ | refine J.ev' hΓ ?_) | (refine J.o 1 ?_; first | refine J.ad ?_ | refine J.sb ?_ | refine J.ng ?_ | refine J.mu ?_) | (refine J.o 5 ?_; first | refine J.t0 hΓ ?_ | refine J.t1 hΓ ?_ | refine J.t2 hΓ ?_ | refine J.tT _ default hΓ (fun _ _ => ?_) | refine J.tT1 _ default hΓ (fun _ _ => ?_) | refine J.tT2 _ default hΓ (fun _ _ => ?_)) | (refine J.o 6 ?_; refine J.bx (fun _ => ?_)) | (refine J.o 7 ?_; refine J.al hΓ (fun _ => ?_)) | (refine J.o 8 ?_; refine J.bd hΓ ?_) | (refine J.o 9 ?_; refine J.bl hΓ (fun _ => ?_)) | (refine J.o 10 ?_; refine J.ev' hΓ ?_) | (refine J.o 11 ?_; refine J.ev' hΓ ?_) | (refine J.o 14 ?_; refine J.mf hΓ ?_) | refine J.kn ?_) | ((fail_if_success refine J.wt ?_); refine J.gc rfl rfl (fun hc => ?_) (fun hc => ?_) <;> ((try simp only [decide_eq_true_eq, decide_eq_false_iff_not, beq_iff_eq, beq_eq_false_iff_ne, bne_iff_ne, bne_eq_false_iff_eq, Bool.not_eq_true', Bool.not_eq_false', Bool.not_eq_true, Bool.not_eq_false] at hc) <;> first | (first | (exact absurd rfl hc) | (exfalso; omega) | (exact absurd (hc.symm.trans (by assumption : _ = false)) (by decide)) | (exact absurd (hc.symm.trans (by assumption : _ = true)) (by decide))) | skip)))
    | (first | refine JC.seq ?_ | refine JC.region ?_ | refine JC.block ?_ | refine JC.ret ?_ | refine JC.exit ?_ | refine JC.skip ?_ | refine thenK.nn ?_ | refine thenK.r ?_ | refine thenK.x ?_ | refine blockK.nn ?_ | refine blockK.r ?_ | refine blockK.hit rfl ?_ | refine blockK.miss rfl ?_ | refine JC.condT rfl ?_ | refine JC.condF rfl ?_ | (refine JC.cond rfl (fun hc => ?_) (fun hc => ?_) <;> ((try simp only [decide_eq_true_eq, decide_eq_false_iff_not, beq_iff_eq, beq_eq_false_iff_ne, bne_iff_ne, bne_eq_false_iff_eq, Bool.not_eq_true', Bool.not_eq_false', Bool.not_eq_true, Bool.not_eq_false] at hc) <;> first | (first | (exact absurd rfl hc) | (exfalso; omega) | (exact absurd (hc.symm.trans (by assumption : _ = false)) (by decide)) | (exact absurd (hc.symm.trans (by assumption : _ = true)) (by decide))) | skip)) | refine drawK.nn ?_ | refine roundK.nn ?_ | refine roundK.r ?_ | refine roundK.x ?_ | refine loopK.r ?_ | refine loopK.x ?_)
    | (fail)
    | fail
  refine ret2f rfl rfl rfl rfl rfl (fun w1 hw => ⟨_, _, rfl, H.sel (l := [_, _, _, _, _, _, _, _, _]) (M := L) hw [0, 1, 2, 3], s1, y1, rfl, rfl, hq⟩)
theorem eXorC : Entr Try.prog 71 := Entr.of Try.func71 rfl rfl
theorem eXor : Entr Try.prog 22 := Entr.of Try.func22 rfl rfl
theorem XorC_any {n : Nat} {K : KS} {s : SS} (so : SOk n K s) (a : Nat) (ha : a < s.ns.length) (b : Nat) (hb : b < s.ns.length) (hfull : s.ns.length + ((2 ^ n - 1) + (2 ^ n - 1)) ≤ 1048576) {w0 w : World} {R : Heap} {L : List Heap} {b0 c1 da db : Nat} (r1 : Rd R L c1 (ptrS b0)) (ra : Rd R L da (intO a)) (rb : Rd R L db (intO b)) (hw : H w0 R (sF K b0 s ++ L) w) :
    Calls Try.prog 71 #[.pointer (some ⟨c1, 0, none⟩), .pointer (some ⟨da, 0, none⟩), .pointer (some ⟨db, 0, none⟩)] w fun e w' => ∃ v L', e = .returned v ∧ H w0 R L' w' ∧ ∃ s' y, v = .int .i64 ((y : Nat) : Int) ∧ L' = sF K b0 s' ++ L ∧ Res n K s s' ((2 ^ n - 1) + (2 ^ n - 1)) y (fun α => (fn n s.ns a α != fn n s.ns b α)) := by
  have two := so.wf.two
  unfold ptrS at r1
  unfold sF at hw
  have ra2 := ra
  unfold intO at ra2
  have rb2 := rb
  unfold intO at rb2
  simp only [List.cons_append, List.nil_append] at hw
  refine calls_in Try.func71 Try.ntmps71 rfl rfl (hw) ?_
  repeat' first
    | (refine J.isJ ?_; first | (fail) | (first | (refine J.o 0 ?_; refine J.ev' hΓ ?_) | refine J.nil ?_ | refine J.kd ?_ | (refine J.o 4 ?_; first | refine J.lT default hΓ ?_ | refine J.lR hΓ ?_) | (refine J.o 3 ?_; first | refine J.iA hΓ ?_ | refine J.iJ hΓ ?_ | refine J.fP hΓ ?_ | refine J.iC hΓ ?_ | refine J.ev' hΓ ?_) | (refine J.o 1 ?_; first | refine J.ad ?_ | refine J.sb ?_ | refine J.ng ?_ | refine J.mu ?_) | (refine J.o 5 ?_; first | refine J.t0 hΓ ?_ | refine J.t1 hΓ ?_ | refine J.t2 hΓ ?_ | refine J.tT _ default hΓ (fun _ _ => ?_) | refine J.tT1 _ default hΓ (fun _ _ => ?_) | refine J.tT2 _ default hΓ (fun _ _ => ?_)) | (refine J.o 6 ?_; refine J.bx (fun _ => ?_)) | (refine J.o 7 ?_; refine J.al hΓ (fun _ => ?_)) | (refine J.o 8 ?_; refine J.bd hΓ ?_) | (refine J.o 9 ?_; refine J.bl hΓ (fun _ => ?_)) | (refine J.o 10 ?_; refine J.ev' hΓ ?_) | (refine J.o 11 ?_; refine J.ev' hΓ ?_) | (refine J.o 14 ?_; refine J.mf hΓ ?_) | refine J.kn ?_) | ((fail_if_success refine J.wt ?_); refine J.gc rfl rfl (fun hc => ?_) (fun hc => ?_) <;> ((try simp only [decide_eq_true_eq, decide_eq_false_iff_not, beq_iff_eq, beq_eq_false_iff_ne, bne_iff_ne, bne_eq_false_iff_eq, Bool.not_eq_true', Bool.not_eq_false', Bool.not_eq_true, Bool.not_eq_false] at hc) <;> first | (first | (exact absurd rfl hc) | (exfalso; omega) | (exact absurd (hc.symm.trans (by assumption : _ = false)) (by decide)) | (exact absurd (hc.symm.trans (by assumption : _ = true)) (by decide))) | skip)))
    | (first | refine JC.seq ?_ | refine JC.region ?_ | refine JC.block ?_ | refine JC.ret ?_ | refine JC.exit ?_ | refine JC.skip ?_ | refine thenK.nn ?_ | refine thenK.r ?_ | refine thenK.x ?_ | refine blockK.nn ?_ | refine blockK.r ?_ | refine blockK.hit rfl ?_ | refine blockK.miss rfl ?_ | refine JC.condT rfl ?_ | refine JC.condF rfl ?_ | (refine JC.cond rfl (fun hc => ?_) (fun hc => ?_) <;> ((try simp only [decide_eq_true_eq, decide_eq_false_iff_not, beq_iff_eq, beq_eq_false_iff_ne, bne_iff_ne, bne_eq_false_iff_eq, Bool.not_eq_true', Bool.not_eq_false', Bool.not_eq_true, Bool.not_eq_false] at hc) <;> first | (first | (exact absurd rfl hc) | (exfalso; omega) | (exact absurd (hc.symm.trans (by assumption : _ = false)) (by decide)) | (exact absurd (hc.symm.trans (by assumption : _ = true)) (by decide))) | skip)) | refine drawK.nn ?_ | refine roundK.nn ?_ | refine roundK.r ?_ | refine roundK.x ?_ | refine loopK.r ?_ | refine loopK.x ?_)
    | (fail)
    | fail
  refine JC.drawD L [(4, 0), (4, 1), (4, 2), (4, 3), (4, 5), (3, 4), (3, 6), (0, 7)] (by kernel_rfl) (by kernel_rfl) ?_
  refine JD.ld hΓ (fun w hw => H.sel (l := [_, _, _, _]) (M := L) hw []) r1 ?_
  refine JD.ld hΓ (fun w hw => H.sel (l := [_, _, _, _]) (M := L) hw []) ra2 ?_
  refine JD.ld hΓ (fun w hw => H.sel (l := [_, _, _, _]) (M := L) hw []) r1 ?_
  refine JD.ld hΓ (fun w hw => H.sel (l := [_, _, _, _]) (M := L) hw []) rb2 ?_
  refine JD.ld hΓ (fun w hw => H.sel (l := [_, _, _, _]) (M := L) hw []) rb2 ?_
  refine JD.callvd eCh rfl rfl rfl (fun w hw => choose_any so ⟨b, 0, 1⟩ ⟨hb, (show 0 < s.ns.length by omega), (show 1 < s.ns.length by omega)⟩ (by omega) hw) ?_
  rintro _ _ ⟨s1, y1, rfl, rfl, ad1, it1⟩
  have l1 := ad1.le
  have e1 := ad1.ext.le
  refine ⟨fun w hw => H.sel (l := [_, _, _, _]) (M := L) hw [], ?_⟩
  unfold sF
  simp only [List.cons_append, List.nil_append]
  refine JD.callvd eCh rfl rfl rfl (fun w hw => choose_any ad1.ok ⟨a, y1, b⟩ ⟨(show a < s1.ns.length by omega), ad1.lt, (show b < s1.ns.length by omega)⟩ (by omega) hw) ?_
  rintro _ _ ⟨s2, y2, rfl, rfl, ad2, it2⟩
  have l2 := ad2.le
  refine ⟨fun w hw => H.sel (l := [_, _, _, _]) (M := L) hw [], ?_⟩
  unfold sF
  simp only [List.cons_append, List.nil_append]
  refine JD.ev hΓ ?_
  refine JD.nil ?_
  repeat' first
    | (refine J.isJ ?_; first | (fail) | (first | (refine J.o 0 ?_; refine J.ev' hΓ ?_) | refine J.nil ?_ | refine J.kd ?_ | (refine J.o 4 ?_; first | refine J.lT default hΓ ?_ | refine J.lR hΓ ?_) | (refine J.o 3 ?_; first | refine J.iA hΓ ?_ | refine J.iJ hΓ ?_ | refine J.fP hΓ ?_ | refine J.iC hΓ ?_ | refine J.ev' hΓ ?_) | (refine J.o 1 ?_; first | refine J.ad ?_ | refine J.sb ?_ | refine J.ng ?_ | refine J.mu ?_) | (refine J.o 5 ?_; first | refine J.t0 hΓ ?_ | refine J.t1 hΓ ?_ | refine J.t2 hΓ ?_ | refine J.tT _ default hΓ (fun _ _ => ?_) | refine J.tT1 _ default hΓ (fun _ _ => ?_) | refine J.tT2 _ default hΓ (fun _ _ => ?_)) | (refine J.o 6 ?_; refine J.bx (fun _ => ?_)) | (refine J.o 7 ?_; refine J.al hΓ (fun _ => ?_)) | (refine J.o 8 ?_; refine J.bd hΓ ?_) | (refine J.o 9 ?_; refine J.bl hΓ (fun _ => ?_)) | (refine J.o 10 ?_; refine J.ev' hΓ ?_) | (refine J.o 11 ?_; refine J.ev' hΓ ?_) | (refine J.o 14 ?_; refine J.mf hΓ ?_) | refine J.kn ?_) | ((fail_if_success refine J.wt ?_); refine J.gc rfl rfl (fun hc => ?_) (fun hc => ?_) <;> ((try simp only [decide_eq_true_eq, decide_eq_false_iff_not, beq_iff_eq, beq_eq_false_iff_ne, bne_iff_ne, bne_eq_false_iff_eq, Bool.not_eq_true', Bool.not_eq_false', Bool.not_eq_true, Bool.not_eq_false] at hc) <;> first | (first | (exact absurd rfl hc) | (exfalso; omega) | (exact absurd (hc.symm.trans (by assumption : _ = false)) (by decide)) | (exact absurd (hc.symm.trans (by assumption : _ = true)) (by decide))) | skip)))
    | (first | refine JC.seq ?_ | refine JC.region ?_ | refine JC.block ?_ | refine JC.ret ?_ | refine JC.exit ?_ | refine JC.skip ?_ | refine thenK.nn ?_ | refine thenK.r ?_ | refine thenK.x ?_ | refine blockK.nn ?_ | refine blockK.r ?_ | refine blockK.hit rfl ?_ | refine blockK.miss rfl ?_ | refine JC.condT rfl ?_ | refine JC.condF rfl ?_ | (refine JC.cond rfl (fun hc => ?_) (fun hc => ?_) <;> ((try simp only [decide_eq_true_eq, decide_eq_false_iff_not, beq_iff_eq, beq_eq_false_iff_ne, bne_iff_ne, bne_eq_false_iff_eq, Bool.not_eq_true', Bool.not_eq_false', Bool.not_eq_true, Bool.not_eq_false] at hc) <;> first | (first | (exact absurd rfl hc) | (exfalso; omega) | (exact absurd (hc.symm.trans (by assumption : _ = false)) (by decide)) | (exact absurd (hc.symm.trans (by assumption : _ = true)) (by decide))) | skip)) | refine drawK.nn ?_ | refine roundK.nn ?_ | refine roundK.r ?_ | refine roundK.x ?_ | refine loopK.r ?_ | refine loopK.x ?_)
    | (fail)
    | fail
  refine ret1f rfl rfl rfl (fun w1 hw => ⟨_, _, rfl, hw, s2, y2, rfl, rfl, ⟨ad2.ok, ad1.ext.trans ad2.ext, by omega, ad2.lt⟩, fun α => ?_⟩)
  have he := it1.eq α
  have he2 := it2.eq α
  have ga := fn_ext so.wf (ad1.ext.trans ad2.ext) ha α
  have gb := fn_ext so.wf (ad1.ext.trans ad2.ext) hb α
  have gb1 := fn_ext so.wf ad1.ext hb α
  have gy := fn_ext ad1.ok.wf ad2.ext ad1.lt α
  have z0 := fn_0 ad1.ok.wf α
  have z1 := fn_1 ad1.ok.wf α
  dsimp only at he he2
  rw [he2, gy, he]
  simp only [ga, gb, gb1, z0, z1]
  cases fn n s.ns a α <;> cases fn n s.ns b α <;> rfl
theorem Xor_any {n : Nat} {K : KS} {s : SS} (so : SOk n K s) (a : Nat) (ha : a < s.ns.length) (b : Nat) (hb : b < s.ns.length) (hfull : s.ns.length + ((2 ^ n - 1) + (2 ^ n - 1)) ≤ 1048576) {w0 w : World} {R : Heap} {L : List Heap} {b0 : Nat} (hw : H w0 R (sF K b0 s ++ L) w) :
    Calls Try.prog 22 #[.pointer (some ⟨b0, 0, none⟩), .int .i64 (a : Int), .int .i64 (b : Int)] w fun e w' => ∃ v L', e = .returned v ∧ H w0 R L' w' ∧ ∃ s' y, v = .tuple #[.int .i64 ((y : Nat) : Int), .int .i64 0] ∧ L' = sF K b0 s' ++ L ∧ Res n K s s' ((2 ^ n - 1) + (2 ^ n - 1)) y (fun α => (fn n s.ns a α != fn n s.ns b α)) := by
  unfold sF at hw
  simp only [List.cons_append, List.nil_append] at hw
  refine calls_in Try.func22 Try.ntmps22 rfl rfl (hw) ?_
  refine JC.seq ?_
  refine JC.region ?_
  refine J.isJ ?_
  refine J.o 6 ?_
  refine J.bx (fun c1 => ?_)
  refine J.isJ ?_
  refine J.o 6 ?_
  refine J.bx (fun da => ?_)
  refine J.isJ ?_
  refine J.o 6 ?_
  refine J.bx (fun db => ?_)
  repeat' first
    | (refine J.isJ ?_; first | (first | (refine J.o 14 ?_; refine J.mfV [.pointer (some ⟨c1, 0, none⟩), .pointer (some ⟨da, 0, none⟩), .pointer (some ⟨db, 0, none⟩)] hΓ ?_) | (refine J.o 4 ?_; first | refine J.lR hΓ ?_ (hr := Rd.hd) | refine J.lR hΓ ?_ (hr := Rd.hd.tl) | refine J.lR hΓ ?_ (hr := Rd.hd.tl.tl)) | (refine J.o 9 ?_; refine J.bl hΓ (fun ba => ?_)) | (refine J.fc 66 ?_; refine J.callx eTry rfl rfl (fun w hw => try_any so (Q := fun s' y => Res n K s s' ((2 ^ n - 1) + (2 ^ n - 1)) y (fun α => (fn n s.ns a α != fn n s.ns b α))) eXorC [(a : Int), (b : Int)] (some ⟨ba, 0, none⟩) 2 _ (slArg ba [(a : Int), (b : Int)] 3) (by show 2 ≤ 1000; omega) (L := [(ba, Obj.cells ⟨[.int .i64 (a : Int), .int .i64 (b : Int)]⟩ 3 (0, 0))] :: [(db, intO b)] :: [(da, intO a)] :: [(c1, ptrS b0)] :: L) (RdH.hd) (chk_ok (l := [a, b]) (by simp only [List.mem_cons, List.not_mem_nil, or_false, forall_eq_or_imp, forall_eq]; exact ⟨ha, hb⟩)) (fun Lx w hw => XorC_any so a ha b hb hfull (Rd.app Lx Rd.hd.tl.tl.tl) (Rd.app Lx Rd.hd.tl.tl) (Rd.app Lx Rd.hd.tl) hw) (H.sel (l := [_, _, _, _, _, _, _, _]) (M := L) hw [4, 5, 6, 7, 0, 1, 2, 3])) ?_; rintro _ _ ⟨s1, y1, rfl, rfl, hq⟩)) | (first | (refine J.o 0 ?_; refine J.ev' hΓ ?_) | refine J.nil ?_ | refine J.kd ?_ | (refine J.o 4 ?_; first | refine J.lT default hΓ ?_ | refine J.lR hΓ ?_) | (refine J.o 3 ?_; first | refine J.iA hΓ ?_ | refine J.iJ hΓ ?_ | refine J.fP hΓ ?_ | refine J.iC hΓ ?_ | refine J.ev' hΓ ?_) | (refine J.o 1 ?_; first | refine J.ad ?_ | refine J.sb ?_ | refine J.ng ?_ | refine J.mu ?_) | (refine J.o 5 ?_; first | refine J.t0 hΓ ?_ | refine J.t1 hΓ ?_ | refine J.t2 hΓ ?_ | refine J.tT _ default hΓ (fun _ _ => ?_) | refine J.tT1 _ default hΓ (fun _ _ => ?_) | refine J.tT2 _ default hΓ (fun _ _ => ?_)) | (refine J.o 6 ?_; refine J.bx (fun _ => ?_)) | (refine J.o 7 ?_; refine J.al hΓ (fun _ => ?_)) | (refine J.o 8 ?_; refine J.bd hΓ ?_) | (refine J.o 9 ?_; refine J.bl hΓ (fun _ => ?_)) | (refine J.o 10 ?_; refine J.ev' hΓ ?_) | (refine J.o 11 ?_; refine J.ev' hΓ ?_) | (refine J.o 14 ?_; refine J.mf hΓ ?_) | refine J.kn ?_) | ((fail_if_success refine J.wt ?_); refine J.gc rfl rfl (fun hc => ?_) (fun hc => ?_) <;> ((try simp only [decide_eq_true_eq, decide_eq_false_iff_not, beq_iff_eq, beq_eq_false_iff_ne, bne_iff_ne, bne_eq_false_iff_eq, Bool.not_eq_true', Bool.not_eq_false', Bool.not_eq_true, Bool.not_eq_false] at hc) <;> first | (first | (exact absurd rfl hc) | (exfalso; omega) | (exact absurd (hc.symm.trans (by assumption : _ = false)) (by decide)) | (exact absurd (hc.symm.trans (by assumption : _ = true)) (by decide))) | skip)))
    | (first | refine JC.seq ?_ | refine JC.region ?_ | refine JC.block ?_ | refine JC.ret ?_ | refine JC.exit ?_ | refine JC.skip ?_ | refine thenK.nn ?_ | refine thenK.r ?_ | refine thenK.x ?_ | refine blockK.nn ?_ | refine blockK.r ?_ | refine blockK.hit rfl ?_ | refine blockK.miss rfl ?_ | refine JC.condT rfl ?_ | refine JC.condF rfl ?_ | (refine JC.cond rfl (fun hc => ?_) (fun hc => ?_) <;> ((try simp only [decide_eq_true_eq, decide_eq_false_iff_not, beq_iff_eq, beq_eq_false_iff_ne, bne_iff_ne, bne_eq_false_iff_eq, Bool.not_eq_true', Bool.not_eq_false', Bool.not_eq_true, Bool.not_eq_false] at hc) <;> first | (first | (exact absurd rfl hc) | (exfalso; omega) | (exact absurd (hc.symm.trans (by assumption : _ = false)) (by decide)) | (exact absurd (hc.symm.trans (by assumption : _ = true)) (by decide))) | skip)) | refine drawK.nn ?_ | refine roundK.nn ?_ | refine roundK.r ?_ | refine roundK.x ?_ | refine loopK.r ?_ | refine loopK.x ?_)
    | (fail)
    | fail
  refine ret2f rfl rfl rfl rfl rfl (fun w1 hw => ⟨_, _, rfl, H.sel (l := [_, _, _, _, _, _, _, _]) (M := L) hw [0, 1, 2, 3], s1, y1, rfl, rfl, hq⟩)
end Go.Proofs.Ythnhijdfcmcnhaa
