/- The choice of three nodes: the code. -/
import Derived.Test.YthnhijdfcmcnhaaBd
namespace Go.Proofs.Ythnhijdfcmcnhaa
open Go Go.Cx Go.RowKit
set_option linter.unusedVariables false
set_option linter.unusedSimpArgs false
set_option maxHeartbeats 4000000
attribute [local irreducible] J JC thenK blockK loopK roundK drawK retK QW Qt pel List.set Calls
open Go.Maps
set_option maxRecDepth 8000
attribute [local irreducible] JE Br eK0 eK2 eK3 brK
theorem T3.lt.ext {ns ms : List N3} (e : Ext ns ms) {x : T3} (h : x.lt ns.length) : x.lt ms.length := by
  obtain ⟨h1, h2, h3⟩ := h
  have := e.le
  exact ⟨by omega, by omega, by omega⟩
theorem T3.from.ext {ns ms : List N3} (e : Ext ns ms) {x : T3} {k : Nat} (hx : x.lt ns.length) (h : x.from ns k) : x.from ms k := by
  obtain ⟨h1, h2, h3⟩ := h
  obtain ⟨g1, g2, g3⟩ := hx
  refine ⟨?_, ?_, ?_⟩
  · rw [e.at_ _ g1]; exact h1
  · rw [e.at_ _ g2]; exact h2
  · rw [e.at_ _ g3]; exact h3
theorem partT_lt {n : Nat} {ns : List N3} (w : WF n ns) {x : T3} {k : Nat} (b : Bool) (hx : x.lt ns.length) (hk : k < n) : (partT ns x k b).lt ns.length :=
  ⟨part_lt w b hx.1 hk, part_lt w b hx.2.1 hk, part_lt w b hx.2.2 hk⟩
theorem partT_from {n : Nat} {ns : List N3} (w : WF n ns) {x : T3} {k : Nat} (b : Bool) (hx : x.lt ns.length) (hk : k < n) (hf : x.from ns k) : (partT ns x k b).from ns (k + 1) :=
  ⟨part_p w b hx.1 hk hf.1, part_p w b hx.2.1 hk hf.2.1, part_p w b hx.2.2 hk hf.2.2⟩
theorem mput_mem {κ β : Type} [DecidableEq κ] {m : List (κ × β)} {x z : κ} {y v : β} (h : (z, v) ∈ mput m x y) : (z, v) ∈ m ∨ (z = x ∧ v = y) := by
  unfold mput at h
  split at h
  · obtain ⟨p, hp, he⟩ := List.mem_map.1 h
    split at he
    · obtain ⟨rfl, rfl⟩ := Prod.mk.inj he; exact .inr ⟨rfl, rfl⟩
    · subst he; exact .inl hp
  · rcases List.mem_append.1 h with h | h
    · exact .inl h
    · obtain ⟨rfl, rfl⟩ := Prod.mk.inj (List.mem_singleton.1 h); exact .inr ⟨rfl, rfl⟩
theorem MOk.put {n : Nat} {ns : List N3} {m : List (T3 × Nat)} (h : MOk n ns m) {x : T3} {y : Nat} (hx : x.lt ns.length) (hy : Ite n ns x y) : MOk n ns (mput m x y) := fun z v hz => by
  rcases mput_mem hz with hz | ⟨rfl, rfl⟩
  · exact h z v hz
  · exact ⟨hx, hy⟩
theorem holds2 {h : Heap} {b : Nat} {o : Obj} {w : World} (h1 : w.heap[b]? = some o) (h2 : Holds h w) : Holds ((b, o) :: h) w := fun x hx => by
  rcases List.mem_cons.1 hx with rfl | hx
  · exact h1
  · exact h2 x hx
section
variable {P : Program} {n : Nat} {w0 : World} {R : Heap} {l0 : List Oper} {K : Exit → Fr → List Heap → Prop} {f : Fr} {L : List Heap} {rest : List (Nat × Oper)} {κ : Nat} {Γ : List (Nat × TI)} {d : Nat} {ty : TypeId} {pos : String} {aft : Array Edge} {g : Option (Nat × Bool)}
/-- an element of an array value, by its number -/
theorem J.xI {t e' : TypeId} {m s1 b1 s2 b2 : Nat} {z1 z2 : Option Value} {de : TypeDesc} {i : Int} {ki : IntKind} {x y : Operand} {cs : List Value} {v : Value} (hΓ : Fits P Γ) (k : J P n w0 R l0 K rest (upd f d v) L)
    (hg : wantB n f l0 ⟨some d, .index t x y, ty, pos, aft, g⟩ = true := by exact rfl) (hx : Cx.ev n f x = .agg ⟨cs⟩ := by exact rfl) (hy : Cx.ev n f y = .int ki i := by exact rfl)
    (ht : Cx.look Γ t = some ⟨.array m e', s1, z1, b1⟩ := by exact rfl) (he : Cx.look Γ e' = some ⟨de, s2, z2, b2⟩ := by exact rfl) (hv : partEv Γ e' cs (i.toNat * s2) = some v := by exact rfl) (h0 : 0 ≤ i := by omega) (hlt : i < (m : Int) := by omega) : J P n w0 R l0 K ((κ, ⟨some d, .index t x y, ty, pos, aft, g⟩) :: rest) f L :=
  J.p hg (fun w => by
    have hp := partEv_ok hΓ hv w
    have hsz := sizeOf_run hΓ he w
    have : (Instr.index t (.agg ⟨cs⟩) (.int ki i)).run P w = .ok v w := by
      unfold Instr.index
      simp only [asIntOf, Sem.run_bind, Sem.run_pure, Result.andThen_ok, run_underlying (hΓ t _ ht).1]
      rw [if_pos ⟨h0, hlt⟩]
      simp only [Sem.run_bind, hsz, Result.andThen_ok]
      exact hp
    simp only [execOp, hx, hy, Sem.run_bind, this, Result.andThen_ok]
    rfl) k
end
theorem partT_ext {ns ms : List N3} (e : Ext ns ms) {x : T3} {k : Nat} (b : Bool) (hx : x.lt ns.length) : partT ms x k b = partT ns x k b := by
  unfold partT; rw [part_ext e b hx.1, part_ext e b hx.2.1, part_ext e b hx.2.2]
def mnP (n : Nat) (ns : List N3) (x : T3) : Nat → Nat
  | 0 => n
  | 1 => min n (nd ns x.a).p
  | 2 => min (min n (nd ns x.a).p) (nd ns x.b).p
  | _ => min (min (min n (nd ns x.a).p) (nd ns x.b).p) (nd ns x.c).p
def pcs (ns : List N3) (x : T3) (k : Nat) (hi : Bool) : Nat → List Value
  | 0 => [.int .i64 0, .int .i64 0, .int .i64 0]
  | 1 => [.int .i64 (partN ns x.a k hi : Int), .int .i64 0, .int .i64 0]
  | 2 => [.int .i64 (partN ns x.a k hi : Int), .int .i64 (partN ns x.b k hi : Int), .int .i64 0]
  | _ => [.int .i64 (partN ns x.a k hi : Int), .int .i64 (partN ns x.b k hi : Int), .int .i64 (partN ns x.c k hi : Int)]
theorem min_cast (a b : Nat) : Value.int .i64 (min (a : Int) (b : Int)) = Value.int .i64 ((min a b : Nat) : Int) := by congr 1; omega
theorem eChC : Entr Try.prog 130 := Entr.of Try.func130 rfl rfl
theorem eCh : Entr Try.prog 68 := Entr.of Try.func68 rfl rfl
def ptrS (b : Nat) : Obj := .cells ⟨[.pointer (some ⟨b, 0, none⟩)]⟩ 24 (0, 0)
def fnC (c1 c2 : Nat) : Obj := .cells ⟨[.func (.func 130) ⟨[]⟩ ⟨[.pointer (some ⟨c1, 0, none⟩), .pointer (some ⟨c2, 0, none⟩)]⟩]⟩ 165 (0, 0)
theorem chC_any (n : Nat) (K : KS) (b c1 c2 : Nat) : ∀ (m k : Nat) (s : SS) (x : T3), n - k = m → SOk n K s → x.lt s.ns.length → x.from s.ns k → s.ns.length + (2 ^ m - 1) ≤ 1048576 →
    ∀ {w0 w : World} {R : Heap} {L : List Heap}, H w0 R (sF K b s ++ L) w → Rd R L c1 (ptrS b) → Rd R L c2 (fnC c1 c2) →
    Calls Try.prog 130 #[ekT x, .pointer (some ⟨c1, 0, none⟩), .pointer (some ⟨c2, 0, none⟩)] w fun e w' => ∃ v L', e = .returned v ∧ H w0 R L' w' ∧ ∃ s' y, v = .int .i64 ((y : Nat) : Int) ∧ L' = sF K b s' ++ L ∧ Adds n K s s' (2 ^ m - 1) y ∧ Ite n s'.ns x y := by
  intro m
  induction m using Nat.strongRecOn with
  | ind m ih =>
  intro k s x hm so hx hf hfull w0 w R L hw r1 r2
  have n8 := so.n8
  have hno := so.no
  have sm := so.sm
  have hwf := so.wf
  have hx1 := hx.1
  have hx2 := hx.2.1
  have hx3 := hx.2.2
  have two := hwf.two
  have adz : ∀ y, y < s.ns.length → Adds n K s s (2 ^ m - 1) y := fun y hy => ⟨so, Ext.refl _, by omega, hy⟩
  by_cases hA : x.a = 1 ∨ x.b = x.c
  · unfold sF at hw
    simp only [List.cons_append, List.nil_append] at hw
    rcases hA with hA1 | hA1
    all_goals
      refine calls_in Try.func130 Try.ntmps130 rfl rfl (hw) ?_
      unfold stO ekT
      repeat' first
        | (refine J.isJ ?_; first | (first | (refine J.o 4 ?_; first | refine J.e3 hΓ ?_ | refine J.e4 hΓ ?_)) | (first | (refine J.o 0 ?_; refine J.ev' hΓ ?_) | refine J.nil ?_ | refine J.kd ?_ | (refine J.o 4 ?_; first | refine J.lT default hΓ ?_ | refine J.lR hΓ ?_) | (refine J.o 3 ?_; first | refine J.iA hΓ ?_ | refine J.iJ hΓ ?_ | refine J.fP hΓ ?_ | refine J.iC hΓ ?_ | refine J.ev' hΓ ?_) | (refine J.o 1 ?_; first | refine J.ad ?_ | refine J.sb ?_ | refine J.ng ?_ | refine J.mu ?_) | (refine J.o 5 ?_; first | refine J.t0 hΓ ?_ | refine J.t1 hΓ ?_ | refine J.t2 hΓ ?_ | refine J.tT _ default hΓ (fun _ _ => ?_) | refine J.tT1 _ default hΓ (fun _ _ => ?_) | refine J.tT2 _ default hΓ (fun _ _ => ?_)) | (refine J.o 6 ?_; refine J.bx (fun _ => ?_)) | (refine J.o 7 ?_; refine J.al hΓ (fun _ => ?_)) | (refine J.o 8 ?_; refine J.bd hΓ ?_) | (refine J.o 9 ?_; refine J.bl hΓ (fun _ => ?_)) | (refine J.o 10 ?_; refine J.ev' hΓ ?_) | (refine J.o 11 ?_; refine J.ev' hΓ ?_) | (refine J.o 14 ?_; refine J.mf hΓ ?_) | refine J.kn ?_) | ((fail_if_success refine J.wt ?_); refine J.gc rfl rfl (fun hc => ?_) (fun hc => ?_) <;> ((try simp only [decide_eq_true_eq, decide_eq_false_iff_not, beq_iff_eq, beq_eq_false_iff_ne, bne_iff_ne, bne_eq_false_iff_eq, Bool.not_eq_true', Bool.not_eq_false', Bool.not_eq_true, Bool.not_eq_false] at hc) <;> first | (first | (exact absurd rfl hc) | (exfalso; omega) | (exact absurd (hc.symm.trans (by assumption : _ = false)) (by decide)) | (exact absurd (hc.symm.trans (by assumption : _ = true)) (by decide))) | skip)))
        | (first | refine JC.seq ?_ | refine JC.region ?_ | refine JC.block ?_ | refine JC.ret ?_ | refine JC.exit ?_ | refine JC.skip ?_ | refine thenK.nn ?_ | refine thenK.r ?_ | refine thenK.x ?_ | refine blockK.nn ?_ | refine blockK.r ?_ | refine blockK.hit rfl ?_ | refine blockK.miss rfl ?_ | refine JC.condT rfl ?_ | refine JC.condF rfl ?_ | (refine JC.cond rfl (fun hc => ?_) (fun hc => ?_) <;> ((try simp only [decide_eq_true_eq, decide_eq_false_iff_not, beq_iff_eq, beq_eq_false_iff_ne, bne_iff_ne, bne_eq_false_iff_eq, Bool.not_eq_true', Bool.not_eq_false', Bool.not_eq_true, Bool.not_eq_false] at hc) <;> first | (first | (exact absurd rfl hc) | (exfalso; omega) | (exact absurd (hc.symm.trans (by assumption : _ = false)) (by decide)) | (exact absurd (hc.symm.trans (by assumption : _ = true)) (by decide))) | skip)) | (refine JC.drawA [] (by kernel_rfl) (by kernel_rfl) ?_) | refine drawK.nn ?_ | refine roundK.nn ?_ | refine roundK.r ?_ | refine roundK.x ?_ | refine loopK.r ?_ | refine loopK.x ?_)
        | (fail)
        | fail
      all_goals first | (exfalso; omega) | skip
      all_goals (refine ret1f rfl rfl rfl (fun w1 hw => ⟨_, _, rfl, hw.drop, s, x.b, rfl, rfl, adz _ hx2, Ite.t1 hwf hx ?_⟩))
      all_goals first | exact .inl hA1 | exact .inr hA1
  by_cases hB : x.a = 0
  · unfold sF at hw
    simp only [List.cons_append, List.nil_append] at hw
    refine calls_in Try.func130 Try.ntmps130 rfl rfl (hw) ?_
    unfold stO ekT
    repeat' first
      | (refine J.isJ ?_; first | (first | (refine J.o 4 ?_; first | refine J.e3 hΓ ?_ | refine J.e4 hΓ ?_)) | (first | (refine J.o 0 ?_; refine J.ev' hΓ ?_) | refine J.nil ?_ | refine J.kd ?_ | (refine J.o 4 ?_; first | refine J.lT default hΓ ?_ | refine J.lR hΓ ?_) | (refine J.o 3 ?_; first | refine J.iA hΓ ?_ | refine J.iJ hΓ ?_ | refine J.fP hΓ ?_ | refine J.iC hΓ ?_ | refine J.ev' hΓ ?_) | (refine J.o 1 ?_; first | refine J.ad ?_ | refine J.sb ?_ | refine J.ng ?_ | refine J.mu ?_) | (refine J.o 5 ?_; first | refine J.t0 hΓ ?_ | refine J.t1 hΓ ?_ | refine J.t2 hΓ ?_ | refine J.tT _ default hΓ (fun _ _ => ?_) | refine J.tT1 _ default hΓ (fun _ _ => ?_) | refine J.tT2 _ default hΓ (fun _ _ => ?_)) | (refine J.o 6 ?_; refine J.bx (fun _ => ?_)) | (refine J.o 7 ?_; refine J.al hΓ (fun _ => ?_)) | (refine J.o 8 ?_; refine J.bd hΓ ?_) | (refine J.o 9 ?_; refine J.bl hΓ (fun _ => ?_)) | (refine J.o 10 ?_; refine J.ev' hΓ ?_) | (refine J.o 11 ?_; refine J.ev' hΓ ?_) | (refine J.o 14 ?_; refine J.mf hΓ ?_) | refine J.kn ?_) | ((fail_if_success refine J.wt ?_); refine J.gc rfl rfl (fun hc => ?_) (fun hc => ?_) <;> ((try simp only [decide_eq_true_eq, decide_eq_false_iff_not, beq_iff_eq, beq_eq_false_iff_ne, bne_iff_ne, bne_eq_false_iff_eq, Bool.not_eq_true', Bool.not_eq_false', Bool.not_eq_true, Bool.not_eq_false] at hc) <;> first | (first | (exact absurd rfl hc) | (exfalso; omega) | (exact absurd (hc.symm.trans (by assumption : _ = false)) (by decide)) | (exact absurd (hc.symm.trans (by assumption : _ = true)) (by decide))) | skip)))
      | (first | refine JC.seq ?_ | refine JC.region ?_ | refine JC.block ?_ | refine JC.ret ?_ | refine JC.exit ?_ | refine JC.skip ?_ | refine thenK.nn ?_ | refine thenK.r ?_ | refine thenK.x ?_ | refine blockK.nn ?_ | refine blockK.r ?_ | refine blockK.hit rfl ?_ | refine blockK.miss rfl ?_ | refine JC.condT rfl ?_ | refine JC.condF rfl ?_ | (refine JC.cond rfl (fun hc => ?_) (fun hc => ?_) <;> ((try simp only [decide_eq_true_eq, decide_eq_false_iff_not, beq_iff_eq, beq_eq_false_iff_ne, bne_iff_ne, bne_eq_false_iff_eq, Bool.not_eq_true', Bool.not_eq_false', Bool.not_eq_true, Bool.not_eq_false] at hc) <;> first | (first | (exact absurd rfl hc) | (exfalso; omega) | (exact absurd (hc.symm.trans (by assumption : _ = false)) (by decide)) | (exact absurd (hc.symm.trans (by assumption : _ = true)) (by decide))) | skip)) | (refine JC.drawA [] (by kernel_rfl) (by kernel_rfl) ?_) | refine drawK.nn ?_ | refine roundK.nn ?_ | refine roundK.r ?_ | refine roundK.x ?_ | refine loopK.r ?_ | refine loopK.x ?_)
      | (fail)
      | fail
    all_goals first | (exfalso; omega) | skip
    all_goals (refine ret1f rfl rfl rfl (fun w1 hw => ⟨_, _, rfl, hw.drop, s, x.c, rfl, rfl, adz _ hx3, Ite.t2 hwf hx hB⟩))
  by_cases hC : x.b = 1 ∧ x.c = 0
  · unfold sF at hw
    simp only [List.cons_append, List.nil_append] at hw
    refine calls_in Try.func130 Try.ntmps130 rfl rfl (hw) ?_
    unfold stO ekT
    repeat' first
      | (refine J.isJ ?_; first | (first | (refine J.o 4 ?_; first | refine J.e3 hΓ ?_ | refine J.e4 hΓ ?_)) | (first | (refine J.o 0 ?_; refine J.ev' hΓ ?_) | refine J.nil ?_ | refine J.kd ?_ | (refine J.o 4 ?_; first | refine J.lT default hΓ ?_ | refine J.lR hΓ ?_) | (refine J.o 3 ?_; first | refine J.iA hΓ ?_ | refine J.iJ hΓ ?_ | refine J.fP hΓ ?_ | refine J.iC hΓ ?_ | refine J.ev' hΓ ?_) | (refine J.o 1 ?_; first | refine J.ad ?_ | refine J.sb ?_ | refine J.ng ?_ | refine J.mu ?_) | (refine J.o 5 ?_; first | refine J.t0 hΓ ?_ | refine J.t1 hΓ ?_ | refine J.t2 hΓ ?_ | refine J.tT _ default hΓ (fun _ _ => ?_) | refine J.tT1 _ default hΓ (fun _ _ => ?_) | refine J.tT2 _ default hΓ (fun _ _ => ?_)) | (refine J.o 6 ?_; refine J.bx (fun _ => ?_)) | (refine J.o 7 ?_; refine J.al hΓ (fun _ => ?_)) | (refine J.o 8 ?_; refine J.bd hΓ ?_) | (refine J.o 9 ?_; refine J.bl hΓ (fun _ => ?_)) | (refine J.o 10 ?_; refine J.ev' hΓ ?_) | (refine J.o 11 ?_; refine J.ev' hΓ ?_) | (refine J.o 14 ?_; refine J.mf hΓ ?_) | refine J.kn ?_) | ((fail_if_success refine J.wt ?_); refine J.gc rfl rfl (fun hc => ?_) (fun hc => ?_) <;> ((try simp only [decide_eq_true_eq, decide_eq_false_iff_not, beq_iff_eq, beq_eq_false_iff_ne, bne_iff_ne, bne_eq_false_iff_eq, Bool.not_eq_true', Bool.not_eq_false', Bool.not_eq_true, Bool.not_eq_false] at hc) <;> first | (first | (exact absurd rfl hc) | (exfalso; omega) | (exact absurd (hc.symm.trans (by assumption : _ = false)) (by decide)) | (exact absurd (hc.symm.trans (by assumption : _ = true)) (by decide))) | skip)))
      | (first | refine JC.seq ?_ | refine JC.region ?_ | refine JC.block ?_ | refine JC.ret ?_ | refine JC.exit ?_ | refine JC.skip ?_ | refine thenK.nn ?_ | refine thenK.r ?_ | refine thenK.x ?_ | refine blockK.nn ?_ | refine blockK.r ?_ | refine blockK.hit rfl ?_ | refine blockK.miss rfl ?_ | refine JC.condT rfl ?_ | refine JC.condF rfl ?_ | (refine JC.cond rfl (fun hc => ?_) (fun hc => ?_) <;> ((try simp only [decide_eq_true_eq, decide_eq_false_iff_not, beq_iff_eq, beq_eq_false_iff_ne, bne_iff_ne, bne_eq_false_iff_eq, Bool.not_eq_true', Bool.not_eq_false', Bool.not_eq_true, Bool.not_eq_false] at hc) <;> first | (first | (exact absurd rfl hc) | (exfalso; omega) | (exact absurd (hc.symm.trans (by assumption : _ = false)) (by decide)) | (exact absurd (hc.symm.trans (by assumption : _ = true)) (by decide))) | skip)) | (refine JC.drawA [] (by kernel_rfl) (by kernel_rfl) ?_) | refine drawK.nn ?_ | refine roundK.nn ?_ | refine roundK.r ?_ | refine roundK.x ?_ | refine loopK.r ?_ | refine loopK.x ?_)
      | (fail)
      | fail
    all_goals first | (exfalso; omega) | skip
    all_goals (refine ret1f rfl rfl rfl (fun w1 hw => ⟨_, _, rfl, hw.drop, s, x.a, rfl, rfl, adz _ hx1, Ite.t3 hwf hx hC.1 hC.2⟩))
  have hkey := kT_key x ⟨by omega, by omega, by omega⟩
  have mm := so.mm
  have rc1 := r1
  unfold ptrS at rc1
  cases hget : mget s.m x with
  | some y =>
    obtain ⟨_, hite⟩ := so.mo x y (mget_mem hget)
    unfold sF at hw
    simp only [List.cons_append, List.nil_append] at hw
    refine calls_in Try.func130 Try.ntmps130 rfl rfl (hw) ?_
    unfold stO ekT
    repeat' first
      | (refine J.isJ ?_; first | (first | (refine J.o 4 ?_; first | refine J.e3 hΓ ?_ | refine J.e4 hΓ ?_) | (refine J.o 4 ?_; refine J.lR hΓ ?_ (hr := rc1.tl.tl.tl.tl.tl)) | (refine J.o 9 ?_; refine J.lk (a := x) kT ekT_inj mm (by first | exact RdH.hd | exact RdH.hd.tl | exact RdH.hd.tl.tl | exact RdH.hd.tl.tl.tl | exact RdH.hd.tl.tl.tl.tl | exact RdH.hd.tl.tl.tl.tl.tl | exact RdH.hd.tl.tl.tl.tl.tl.tl | exact RdH.hd.tl.tl.tl.tl.tl.tl.tl | exact RdH.old (fun _ hh => hh) | assumption) hkey hΓ ?_; rw [hget])) | (first | (refine J.o 0 ?_; refine J.ev' hΓ ?_) | refine J.nil ?_ | refine J.kd ?_ | (refine J.o 4 ?_; first | refine J.lT default hΓ ?_ | refine J.lR hΓ ?_) | (refine J.o 3 ?_; first | refine J.iA hΓ ?_ | refine J.iJ hΓ ?_ | refine J.fP hΓ ?_ | refine J.iC hΓ ?_ | refine J.ev' hΓ ?_) | (refine J.o 1 ?_; first | refine J.ad ?_ | refine J.sb ?_ | refine J.ng ?_ | refine J.mu ?_) | (refine J.o 5 ?_; first | refine J.t0 hΓ ?_ | refine J.t1 hΓ ?_ | refine J.t2 hΓ ?_ | refine J.tT _ default hΓ (fun _ _ => ?_) | refine J.tT1 _ default hΓ (fun _ _ => ?_) | refine J.tT2 _ default hΓ (fun _ _ => ?_)) | (refine J.o 6 ?_; refine J.bx (fun _ => ?_)) | (refine J.o 7 ?_; refine J.al hΓ (fun _ => ?_)) | (refine J.o 8 ?_; refine J.bd hΓ ?_) | (refine J.o 9 ?_; refine J.bl hΓ (fun _ => ?_)) | (refine J.o 10 ?_; refine J.ev' hΓ ?_) | (refine J.o 11 ?_; refine J.ev' hΓ ?_) | (refine J.o 14 ?_; refine J.mf hΓ ?_) | refine J.kn ?_) | ((fail_if_success refine J.wt ?_); refine J.gc rfl rfl (fun hc => ?_) (fun hc => ?_) <;> ((try simp only [decide_eq_true_eq, decide_eq_false_iff_not, beq_iff_eq, beq_eq_false_iff_ne, bne_iff_ne, bne_eq_false_iff_eq, Bool.not_eq_true', Bool.not_eq_false', Bool.not_eq_true, Bool.not_eq_false] at hc) <;> first | (first | (exact absurd rfl hc) | (exfalso; omega) | (exact absurd (hc.symm.trans (by assumption : _ = false)) (by decide)) | (exact absurd (hc.symm.trans (by assumption : _ = true)) (by decide))) | skip)))
      | (first | refine JC.seq ?_ | refine JC.region ?_ | refine JC.block ?_ | refine JC.ret ?_ | refine JC.exit ?_ | refine JC.skip ?_ | refine thenK.nn ?_ | refine thenK.r ?_ | refine thenK.x ?_ | refine blockK.nn ?_ | refine blockK.r ?_ | refine blockK.hit rfl ?_ | refine blockK.miss rfl ?_ | refine JC.condT rfl ?_ | refine JC.condF rfl ?_ | (refine JC.cond rfl (fun hc => ?_) (fun hc => ?_) <;> ((try simp only [decide_eq_true_eq, decide_eq_false_iff_not, beq_iff_eq, beq_eq_false_iff_ne, bne_iff_ne, bne_eq_false_iff_eq, Bool.not_eq_true', Bool.not_eq_false', Bool.not_eq_true, Bool.not_eq_false] at hc) <;> first | (first | (exact absurd rfl hc) | (exfalso; omega) | (exact absurd (hc.symm.trans (by assumption : _ = false)) (by decide)) | (exact absurd (hc.symm.trans (by assumption : _ = true)) (by decide))) | skip)) | refine drawK.nn ?_ | refine roundK.nn ?_ | refine roundK.r ?_ | refine roundK.x ?_ | refine loopK.r ?_ | refine loopK.x ?_)
      | ((refine JC.drawO [(1,0),(0,1),(0,2),(1,3),(1,4),(1,5),(0,6),(0,7),(0,8),(0,9),(0,10)] (by kernel_rfl) (by kernel_rfl) ?_))
      | fail
    all_goals first | (exfalso; omega) | skip
    all_goals (refine ret1f rfl rfl rfl (fun w1 hw => ⟨_, _, rfl, hw.drop, s, y, rfl, rfl, adz _ hite.lt, hite⟩))
  | none =>
    have ha2 : 2 ≤ x.a := by omega
    have hpa := hwf.pl _ ha2 hx1
    have hm3 : mnP n s.ns x 3 = min (min (min n (nd s.ns x.a).p) (nd s.ns x.b).p) (nd s.ns x.c).p := rfl
    have hp1 : mnP n s.ns x 3 < n := by rw [hm3]; omega
    have hp2 : k ≤ mnP n s.ns x 3 := by have := hf.1; have := hf.2.1; have := hf.2.2; have := hwf.ple hx1; rw [hm3]; omega
    have hpf : x.from s.ns (mnP n s.ns x 3) := ⟨by rw [hm3]; omega, by rw [hm3]; omega, by rw [hm3]; omega⟩
    have xl := fun b => partT_lt hwf b hx hp1
    have xf := fun b => partT_from hwf b hx hp1 hpf
    have rc2 := r2
    unfold fnC at rc2
    have ow := so.ow
    have hsl := ow.sl
    have hpow : 2 ^ m = 2 ^ (m - 1) + 2 ^ (m - 1) := by rw [← Nat.mul_two, ← Nat.pow_succ, show (m - 1).succ = m by omega]
    have hpm : 2 ^ (n - (mnP n s.ns x 3 + 1)) ≤ 2 ^ (m - 1) := Nat.pow_le_pow_right (by decide) (by omega)
    have hp0 : 0 < 2 ^ (n - (mnP n s.ns x 3 + 1)) := Nat.pow_pos (by decide)
    have cPart : ∀ w1 L1, H w0 R L1 w1 → Rd R L1 b (stO K s.an s.ns.length s.cn) → RdH R L1 s.hN → ∀ a hi, a < s.ns.length → Calls Try.prog 83 #[.pointer (some ⟨b, 0, none⟩), .int .i64 (a : Int), .int .i64 ((mnP n s.ns x 3 : Nat) : Int), .bool hi] w1 fun e w' => e = .returned (.int .i64 (partN s.ns a (mnP n s.ns x 3) hi : Int)) ∧ Below w1.heap.size w1 w' :=
      fun w1 L1 h1 rb rn a hi ha => part_any K b s.an s.cn s.ns ((b, stO K s.an s.ns.length s.cn) :: s.hN) (hsl.sub fun y hy => List.mem_cons_of_mem _ hy) List.mem_cons_self a _ hi ha w1 (holds2 (h1.rd rb) (h1.rdH rn))
    unfold sF at hw
    simp only [List.cons_append, List.nil_append] at hw
    rcases Nat.decEq x.b 1 with hb1 | hb1
    all_goals
      refine calls_in Try.func130 Try.ntmps130 rfl rfl (hw) ?_
      unfold stO ekT
      repeat' first
        | (refine J.isJ ?_; first | (first | (refine J.o 6 ?_; refine J.bx (fun b3 => ?_)) | (refine J.o 4 ?_; first | refine J.e3 hΓ ?_ | refine J.e4 hΓ ?_) | (refine J.o 4 ?_; refine J.lR hΓ ?_ (hr := rc1.tl.tl.tl.tl.tl)) | (refine J.o 9 ?_; refine J.lk (a := x) kT ekT_inj mm (by first | exact RdH.hd | exact RdH.hd.tl | exact RdH.hd.tl.tl | exact RdH.hd.tl.tl.tl | exact RdH.hd.tl.tl.tl.tl | exact RdH.hd.tl.tl.tl.tl.tl | exact RdH.hd.tl.tl.tl.tl.tl.tl | exact RdH.hd.tl.tl.tl.tl.tl.tl.tl | exact RdH.old (fun _ hh => hh) | assumption) hkey hΓ ?_; rw [hget])) | (first | (refine J.o 0 ?_; refine J.ev' hΓ ?_) | refine J.nil ?_ | refine J.kd ?_ | (refine J.o 4 ?_; first | refine J.lT default hΓ ?_ | refine J.lR hΓ ?_) | (refine J.o 3 ?_; first | refine J.iA hΓ ?_ | refine J.iJ hΓ ?_ | refine J.fP hΓ ?_ | refine J.iC hΓ ?_ | refine J.ev' hΓ ?_) | (refine J.o 1 ?_; first | refine J.ad ?_ | refine J.sb ?_ | refine J.ng ?_ | refine J.mu ?_) | (refine J.o 5 ?_; first | refine J.t0 hΓ ?_ | refine J.t1 hΓ ?_ | refine J.t2 hΓ ?_ | refine J.tT _ default hΓ (fun _ _ => ?_) | refine J.tT1 _ default hΓ (fun _ _ => ?_) | refine J.tT2 _ default hΓ (fun _ _ => ?_)) | (refine J.o 6 ?_; refine J.bx (fun _ => ?_)) | (refine J.o 7 ?_; refine J.al hΓ (fun _ => ?_)) | (refine J.o 8 ?_; refine J.bd hΓ ?_) | (refine J.o 9 ?_; refine J.bl hΓ (fun _ => ?_)) | (refine J.o 10 ?_; refine J.ev' hΓ ?_) | (refine J.o 11 ?_; refine J.ev' hΓ ?_) | (refine J.o 14 ?_; refine J.mf hΓ ?_) | refine J.kn ?_) | ((fail_if_success refine J.wt ?_); refine J.gc rfl rfl (fun hc => ?_) (fun hc => ?_) <;> ((try simp only [decide_eq_true_eq, decide_eq_false_iff_not, beq_iff_eq, beq_eq_false_iff_ne, bne_iff_ne, bne_eq_false_iff_eq, Bool.not_eq_true', Bool.not_eq_false', Bool.not_eq_true, Bool.not_eq_false] at hc) <;> first | (first | (exact absurd rfl hc) | (exfalso; omega) | (exact absurd (hc.symm.trans (by assumption : _ = false)) (by decide)) | (exact absurd (hc.symm.trans (by assumption : _ = true)) (by decide))) | skip)))
        | (first | refine JC.seq ?_ | refine JC.region ?_ | refine JC.block ?_ | refine JC.ret ?_ | refine JC.exit ?_ | refine JC.skip ?_ | refine thenK.nn ?_ | refine thenK.r ?_ | refine thenK.x ?_ | refine blockK.nn ?_ | refine blockK.r ?_ | refine blockK.hit rfl ?_ | refine blockK.miss rfl ?_ | refine JC.condT rfl ?_ | refine JC.condF rfl ?_ | (refine JC.cond rfl (fun hc => ?_) (fun hc => ?_) <;> ((try simp only [decide_eq_true_eq, decide_eq_false_iff_not, beq_iff_eq, beq_eq_false_iff_ne, bne_iff_ne, bne_eq_false_iff_eq, Bool.not_eq_true', Bool.not_eq_false', Bool.not_eq_true, Bool.not_eq_false] at hc) <;> first | (first | (exact absurd rfl hc) | (exfalso; omega) | (exact absurd (hc.symm.trans (by assumption : _ = false)) (by decide)) | (exact absurd (hc.symm.trans (by assumption : _ = true)) (by decide))) | skip)) | refine drawK.nn ?_ | refine roundK.nn ?_ | refine roundK.r ?_ | refine roundK.x ?_ | refine loopK.r ?_ | refine loopK.x ?_)
        | ((refine JC.drawO [(1,0),(0,1),(0,2),(1,3),(1,4),(1,5),(0,6),(0,7),(0,8),(0,9),(0,10)] (by kernel_rfl) (by kernel_rfl) ?_))
        | fail
      all_goals first | (exfalso; omega) | skip
      refine JC.loop (fun i => i == 7 || i == 9 || Nat.ble 63 i) (fun m g L' => ∃ q, g 63 = .int .i64 ((q : Nat) : Int) ∧ q + m = 3 ∧ g 7 = .int .i64 ((mnP n s.ns x q : Nat) : Int) ∧ L' = [(b3, Obj.cells ⟨[.int .i64 (x.a : Int), .int .i64 (x.b : Int), .int .i64 (x.c : Int)]⟩ 166 (0, 0))] :: [(b, stO K s.an s.ns.length s.cn)] :: s.hN :: s.hU :: s.hM :: L) 3 ⟨0, rfl, rfl, congrArg (fun z : Nat => Value.int .i64 (z : Int)) hno, rfl⟩ ?_
      rintro m1 g1 L' ⟨q, e63, hq, e7, rfl⟩
      refine JC.pin 63 e63 ?_
      refine JC.pin 7 e7 ?_
      unfold stO
      rcases (by omega : q = 3 ∨ q = 0 ∨ q = 1 ∨ q = 2) with rfl | rfl | rfl | rfl
      ·
        repeat' first
          | (refine J.isJ ?_; first | (first | (refine J.o 7 ?_; first | refine J.al hΓ (fun b10 => ?_)) | (refine J.o 4 ?_; first | refine J.e3 hΓ ?_ | refine J.e4 hΓ ?_)) | (first | (refine J.o 0 ?_; refine J.ev' hΓ ?_) | refine J.nil ?_ | refine J.kd ?_ | (refine J.o 4 ?_; first | refine J.lT default hΓ ?_ | refine J.lR hΓ ?_) | (refine J.o 3 ?_; first | refine J.iA hΓ ?_ | refine J.iJ hΓ ?_ | refine J.fP hΓ ?_ | refine J.iC hΓ ?_ | refine J.ev' hΓ ?_) | (refine J.o 1 ?_; first | refine J.ad ?_ | refine J.sb ?_ | refine J.ng ?_ | refine J.mu ?_) | (refine J.o 5 ?_; first | refine J.t0 hΓ ?_ | refine J.t1 hΓ ?_ | refine J.t2 hΓ ?_ | refine J.tT _ default hΓ (fun _ _ => ?_) | refine J.tT1 _ default hΓ (fun _ _ => ?_) | refine J.tT2 _ default hΓ (fun _ _ => ?_)) | (refine J.o 6 ?_; refine J.bx (fun _ => ?_)) | (refine J.o 7 ?_; refine J.al hΓ (fun _ => ?_)) | (refine J.o 8 ?_; refine J.bd hΓ ?_) | (refine J.o 9 ?_; refine J.bl hΓ (fun _ => ?_)) | (refine J.o 10 ?_; refine J.ev' hΓ ?_) | (refine J.o 11 ?_; refine J.ev' hΓ ?_) | (refine J.o 14 ?_; refine J.mf hΓ ?_) | refine J.kn ?_) | ((fail_if_success refine J.wt ?_); refine J.gc rfl rfl (fun hc => ?_) (fun hc => ?_) <;> ((try simp only [decide_eq_true_eq, decide_eq_false_iff_not, beq_iff_eq, beq_eq_false_iff_ne, bne_iff_ne, bne_eq_false_iff_eq, Bool.not_eq_true', Bool.not_eq_false', Bool.not_eq_true, Bool.not_eq_false] at hc) <;> first | (first | (exact absurd rfl hc) | (exfalso; omega) | (exact absurd (hc.symm.trans (by assumption : _ = false)) (by decide)) | (exact absurd (hc.symm.trans (by assumption : _ = true)) (by decide))) | skip)))
          | (first | refine JC.seq ?_ | refine JC.region ?_ | refine JC.block ?_ | refine JC.ret ?_ | refine JC.exit ?_ | refine JC.skip ?_ | refine thenK.nn ?_ | refine thenK.r ?_ | refine thenK.x ?_ | refine blockK.nn ?_ | refine blockK.r ?_ | refine blockK.hit rfl ?_ | refine blockK.miss rfl ?_ | refine JC.condT rfl ?_ | refine JC.condF rfl ?_ | (refine JC.cond rfl (fun hc => ?_) (fun hc => ?_) <;> ((try simp only [decide_eq_true_eq, decide_eq_false_iff_not, beq_iff_eq, beq_eq_false_iff_ne, bne_iff_ne, bne_eq_false_iff_eq, Bool.not_eq_true', Bool.not_eq_false', Bool.not_eq_true, Bool.not_eq_false] at hc) <;> first | (first | (exact absurd rfl hc) | (exfalso; omega) | (exact absurd (hc.symm.trans (by assumption : _ = false)) (by decide)) | (exact absurd (hc.symm.trans (by assumption : _ = true)) (by decide))) | skip)) | refine drawK.nn ?_ | refine roundK.nn ?_ | refine roundK.r ?_ | refine roundK.x ?_ | refine loopK.r ?_ | refine loopK.x ?_)
          | (fail)
          | fail
        all_goals first | (exfalso; omega) | skip
        rename_i bl
        refine JC.loop (fun i => i == 12 || i == 13 || Nat.ble 78 i) (fun m g L' => ∃ q, g 78 = .int .i64 ((q : Nat) : Int) ∧ q + m = 3 ∧ L' = [(b10, Obj.cells ⟨pcs s.ns x (mnP n s.ns x 3) true q⟩ 166 (0, 0))] :: [(bl, Obj.cells ⟨pcs s.ns x (mnP n s.ns x 3) false q⟩ 166 (0, 0))] :: [(b3, Obj.cells ⟨[.int .i64 (x.a : Int), .int .i64 (x.b : Int), .int .i64 (x.c : Int)]⟩ 166 (0, 0))] :: [(b, stO K s.an s.ns.length s.cn)] :: s.hN :: s.hU :: s.hM :: L) 3 ⟨0, rfl, rfl, rfl⟩ ?_
        rintro m2 g2 L' ⟨q, e78, hq2, rfl⟩
        refine JC.pin 78 e78 ?_
        unfold stO
        rcases (by omega : q = 3 ∨ q = 0 ∨ q = 1 ∨ q = 2) with rfl | rfl | rfl | rfl
        all_goals simp only [pcs]
        ·
          repeat' first
            | (refine J.isJ ?_; first | (first | (refine J.o 4 ?_; first | refine J.e3 hΓ ?_ | refine J.e4 hΓ ?_) | (refine J.o 4 ?_; first | refine J.lR hΓ ?_ (hr := rc1.tl.tl.tl.tl.tl.tl.tl) | refine J.lR hΓ ?_ (hr := rc2.tl.tl.tl.tl.tl.tl.tl))) | (first | (refine J.o 0 ?_; refine J.ev' hΓ ?_) | refine J.nil ?_ | refine J.kd ?_ | (refine J.o 4 ?_; first | refine J.lT default hΓ ?_ | refine J.lR hΓ ?_) | (refine J.o 3 ?_; first | refine J.iA hΓ ?_ | refine J.iJ hΓ ?_ | refine J.fP hΓ ?_ | refine J.iC hΓ ?_ | refine J.ev' hΓ ?_) | (refine J.o 1 ?_; first | refine J.ad ?_ | refine J.sb ?_ | refine J.ng ?_ | refine J.mu ?_) | (refine J.o 5 ?_; first | refine J.t0 hΓ ?_ | refine J.t1 hΓ ?_ | refine J.t2 hΓ ?_ | refine J.tT _ default hΓ (fun _ _ => ?_) | refine J.tT1 _ default hΓ (fun _ _ => ?_) | refine J.tT2 _ default hΓ (fun _ _ => ?_)) | (refine J.o 6 ?_; refine J.bx (fun _ => ?_)) | (refine J.o 7 ?_; refine J.al hΓ (fun _ => ?_)) | (refine J.o 8 ?_; refine J.bd hΓ ?_) | (refine J.o 9 ?_; refine J.bl hΓ (fun _ => ?_)) | (refine J.o 10 ?_; refine J.ev' hΓ ?_) | (refine J.o 11 ?_; refine J.ev' hΓ ?_) | (refine J.o 14 ?_; refine J.mf hΓ ?_) | refine J.kn ?_) | ((fail_if_success refine J.wt ?_); refine J.gc rfl rfl (fun hc => ?_) (fun hc => ?_) <;> ((try simp only [decide_eq_true_eq, decide_eq_false_iff_not, beq_iff_eq, beq_eq_false_iff_ne, bne_iff_ne, bne_eq_false_iff_eq, Bool.not_eq_true', Bool.not_eq_false', Bool.not_eq_true, Bool.not_eq_false] at hc) <;> first | (first | (exact absurd rfl hc) | (exfalso; omega) | (exact absurd (hc.symm.trans (by assumption : _ = false)) (by decide)) | (exact absurd (hc.symm.trans (by assumption : _ = true)) (by decide))) | skip)))
            | (first | refine JC.seq ?_ | refine JC.region ?_ | refine JC.block ?_ | refine JC.ret ?_ | refine JC.exit ?_ | refine JC.skip ?_ | refine thenK.nn ?_ | refine thenK.r ?_ | refine thenK.x ?_ | refine blockK.nn ?_ | refine blockK.r ?_ | refine blockK.hit rfl ?_ | refine blockK.miss rfl ?_ | refine JC.condT rfl ?_ | refine JC.condF rfl ?_ | (refine JC.cond rfl (fun hc => ?_) (fun hc => ?_) <;> ((try simp only [decide_eq_true_eq, decide_eq_false_iff_not, beq_iff_eq, beq_eq_false_iff_ne, bne_iff_ne, bne_eq_false_iff_eq, Bool.not_eq_true', Bool.not_eq_false', Bool.not_eq_true, Bool.not_eq_false] at hc) <;> first | (first | (exact absurd rfl hc) | (exfalso; omega) | (exact absurd (hc.symm.trans (by assumption : _ = false)) (by decide)) | (exact absurd (hc.symm.trans (by assumption : _ = true)) (by decide))) | skip)) | refine drawK.nn ?_ | refine roundK.nn ?_ | refine roundK.r ?_ | refine roundK.x ?_ | refine loopK.r ?_ | refine loopK.x ?_)
            | ((first | refine JC.drawO [(1,0),(0,1),(0,2),(1,3),(1,4),(2,5),(0,6),(2,7),(0,8)] (by decide +kernel) (by decide +kernel) ?_ | refine JC.drawO [(1,0),(0,1),(0,2),(1,3),(1,4),(0,5),(2,6)] (by decide +kernel) (by decide +kernel) ?_))
            | fail
          refine J.isJ ?_
          refine J.o 9 ?_
          refine J.callvx eChC rfl rfl rfl (fun w hw => ih (n - (mnP n s.ns x 3 + 1)) (by omega) _ s (partT s.ns x (mnP n s.ns x 3) false) rfl so (xl _) (xf _) (by omega) (H.sel (l := [_, _, _, _, _, _, _]) (M := L) hw [3, 4, 5, 6, 0, 1, 2]) r1.tl.tl.tl r2.tl.tl.tl) ?_
          rintro _ _ ⟨s1, y1, rfl, rfl, ad1, it1⟩
          have l1 := ad1.le
          unfold sF stO
          simp only [List.cons_append, List.nil_append]
          repeat' first
            | (refine J.isJ ?_; first | (fail) | (first | (refine J.o 0 ?_; refine J.ev' hΓ ?_) | refine J.nil ?_ | refine J.kd ?_ | (refine J.o 4 ?_; first | refine J.lT default hΓ ?_ | refine J.lR hΓ ?_) | (refine J.o 3 ?_; first | refine J.iA hΓ ?_ | refine J.iJ hΓ ?_ | refine J.fP hΓ ?_ | refine J.iC hΓ ?_ | refine J.ev' hΓ ?_) | (refine J.o 1 ?_; first | refine J.ad ?_ | refine J.sb ?_ | refine J.ng ?_ | refine J.mu ?_) | (refine J.o 5 ?_; first | refine J.t0 hΓ ?_ | refine J.t1 hΓ ?_ | refine J.t2 hΓ ?_ | refine J.tT _ default hΓ (fun _ _ => ?_) | refine J.tT1 _ default hΓ (fun _ _ => ?_) | refine J.tT2 _ default hΓ (fun _ _ => ?_)) | (refine J.o 6 ?_; refine J.bx (fun _ => ?_)) | (refine J.o 7 ?_; refine J.al hΓ (fun _ => ?_)) | (refine J.o 8 ?_; refine J.bd hΓ ?_) | (refine J.o 9 ?_; refine J.bl hΓ (fun _ => ?_)) | (refine J.o 10 ?_; refine J.ev' hΓ ?_) | (refine J.o 11 ?_; refine J.ev' hΓ ?_) | (refine J.o 14 ?_; refine J.mf hΓ ?_) | refine J.kn ?_) | ((fail_if_success refine J.wt ?_); refine J.gc rfl rfl (fun hc => ?_) (fun hc => ?_) <;> ((try simp only [decide_eq_true_eq, decide_eq_false_iff_not, beq_iff_eq, beq_eq_false_iff_ne, bne_iff_ne, bne_eq_false_iff_eq, Bool.not_eq_true', Bool.not_eq_false', Bool.not_eq_true, Bool.not_eq_false] at hc) <;> first | (first | (exact absurd rfl hc) | (exfalso; omega) | (exact absurd (hc.symm.trans (by assumption : _ = false)) (by decide)) | (exact absurd (hc.symm.trans (by assumption : _ = true)) (by decide))) | skip)))
            | (first | refine JC.seq ?_ | refine JC.region ?_ | refine JC.block ?_ | refine JC.ret ?_ | refine JC.exit ?_ | refine JC.skip ?_ | refine thenK.nn ?_ | refine thenK.r ?_ | refine thenK.x ?_ | refine blockK.nn ?_ | refine blockK.r ?_ | refine blockK.hit rfl ?_ | refine blockK.miss rfl ?_ | refine JC.condT rfl ?_ | refine JC.condF rfl ?_ | (refine JC.cond rfl (fun hc => ?_) (fun hc => ?_) <;> ((try simp only [decide_eq_true_eq, decide_eq_false_iff_not, beq_iff_eq, beq_eq_false_iff_ne, bne_iff_ne, bne_eq_false_iff_eq, Bool.not_eq_true', Bool.not_eq_false', Bool.not_eq_true, Bool.not_eq_false] at hc) <;> first | (first | (exact absurd rfl hc) | (exfalso; omega) | (exact absurd (hc.symm.trans (by assumption : _ = false)) (by decide)) | (exact absurd (hc.symm.trans (by assumption : _ = true)) (by decide))) | skip)) | refine drawK.nn ?_ | refine roundK.nn ?_ | refine roundK.r ?_ | refine roundK.x ?_ | refine loopK.r ?_ | refine loopK.x ?_)
            | (fail)
            | fail
          refine JC.drawD ([(b10, Obj.cells ⟨[.int .i64 (partN s.ns x.a (mnP n s.ns x 3) true : Int), .int .i64 (partN s.ns x.b (mnP n s.ns x 3) true : Int), .int .i64 (partN s.ns x.c (mnP n s.ns x 3) true : Int)]⟩ 166 (0, 0))] :: L) [(4, 0), (0, 1), (0, 2), (4, 3), (4, 4), (3, 5), (0, 6), (2, 7), (0, 8)] (by kernel_rfl) (by kernel_rfl) ?_
          refine JD.ld hΓ (fun w hw => H.sel (l := [_, _, _, _, _, _, _]) (M := L) hw [4]) rc1.tl ?_
          refine JD.ev hΓ ?_
          refine JD.ev hΓ ?_
          refine JD.ld hΓ (fun w hw => H.sel (l := [_, _, _, _, _, _, _]) (M := L) hw [4]) rc2.tl ?_
          refine JD.ld hΓ (fun w hw => H.sel (l := [_, _, _, _, _, _, _]) (M := L) hw [4]) Rd.hd ?_
          refine JD.callvd eChC rfl rfl rfl (fun w hw => ih (n - (mnP n s.ns x 3 + 1)) (by omega) _ s1 (partT s.ns x (mnP n s.ns x 3) true) rfl ad1.ok ((xl _).ext ad1.ext) ((xf _).ext ad1.ext (xl _)) (by omega) hw r1.tl.tl.tl r2.tl.tl.tl) ?_
          rintro _ _ ⟨s2, y2, rfl, rfl, ad2, it2⟩
          have l2 := ad2.le
          have e12 := ad1.ext.trans ad2.ext
          have k1 := it1.from ad1.ok.wf ((xl _).ext ad1.ext) ((xf _).ext ad1.ext (xl _))
          rw [← ad2.ext.at_ y1 it1.lt] at k1
          have k2 := it2.from ad2.ok.wf ((xl _).ext e12) ((xf _).ext e12 (xl _))
          have y1l : y1 < s2.ns.length := Nat.lt_of_lt_of_le it1.lt ad2.ext.le
          refine ⟨fun w hw => H.sel (l := [_, _, _, _, _, _, _]) (M := L) hw [4], ?_⟩
          refine JD.bd hΓ ?_
          refine JD.callvx eAdd rfl rfl rfl (fun w hw => add_any ad2.ok ⟨mnP n s.ns x 3, y1, y2⟩ hp1 y1l it2.lt k1 k2 (by omega) hw) ?_
          rintro _ _ ⟨s3, y3, rfl, rfl, ad3, fn3⟩
          have l3 := ad3.le
          have e23 := ad2.ext.trans ad3.ext
          have e13 := e12.trans ad3.ext
          have so3 := ad3.ok
          have hite : Ite n s3.ns x y3 := Ite.join so3.wf (hx.ext e13) hp1 (by rw [partT_ext e13 _ hx]; exact it1.ext ad1.ok.wf e23 ((xl _).ext ad1.ext)) (by rw [partT_ext e13 _ hx]; exact it2.ext ad2.ok.wf ad3.ext ((xl _).ext e12)) ad3.lt fn3
          have mm3 := so3.mm
          refine JD.ev hΓ ?_
          refine JD.nil ?_
          unfold sF stO
          simp only [List.cons_append, List.nil_append]
          repeat' first
            | (refine J.isJ ?_; first | (first | (refine J.o 4 ?_; first | refine J.e3 hΓ ?_ | refine J.e4 hΓ ?_) | (refine J.o 4 ?_; first | refine J.lR hΓ ?_ (hr := rc1.tl.tl.tl.tl.tl.tl.tl) | refine J.lR hΓ ?_ (hr := Rd.hd.tl.tl.tl.tl.tl.tl)) | (refine J.o 9 ?_; refine J.perm br3 ?_; refine J.mup (a := x) (ev := evI) y3 kT ekT_inj mm3 hkey hΓ (fun h4 mt4 => ?_))) | (first | (refine J.o 0 ?_; refine J.ev' hΓ ?_) | refine J.nil ?_ | refine J.kd ?_ | (refine J.o 4 ?_; first | refine J.lT default hΓ ?_ | refine J.lR hΓ ?_) | (refine J.o 3 ?_; first | refine J.iA hΓ ?_ | refine J.iJ hΓ ?_ | refine J.fP hΓ ?_ | refine J.iC hΓ ?_ | refine J.ev' hΓ ?_) | (refine J.o 1 ?_; first | refine J.ad ?_ | refine J.sb ?_ | refine J.ng ?_ | refine J.mu ?_) | (refine J.o 5 ?_; first | refine J.t0 hΓ ?_ | refine J.t1 hΓ ?_ | refine J.t2 hΓ ?_ | refine J.tT _ default hΓ (fun _ _ => ?_) | refine J.tT1 _ default hΓ (fun _ _ => ?_) | refine J.tT2 _ default hΓ (fun _ _ => ?_)) | (refine J.o 6 ?_; refine J.bx (fun _ => ?_)) | (refine J.o 7 ?_; refine J.al hΓ (fun _ => ?_)) | (refine J.o 8 ?_; refine J.bd hΓ ?_) | (refine J.o 9 ?_; refine J.bl hΓ (fun _ => ?_)) | (refine J.o 10 ?_; refine J.ev' hΓ ?_) | (refine J.o 11 ?_; refine J.ev' hΓ ?_) | (refine J.o 14 ?_; refine J.mf hΓ ?_) | refine J.kn ?_) | ((fail_if_success refine J.wt ?_); refine J.gc rfl rfl (fun hc => ?_) (fun hc => ?_) <;> ((try simp only [decide_eq_true_eq, decide_eq_false_iff_not, beq_iff_eq, beq_eq_false_iff_ne, bne_iff_ne, bne_eq_false_iff_eq, Bool.not_eq_true', Bool.not_eq_false', Bool.not_eq_true, Bool.not_eq_false] at hc) <;> first | (first | (exact absurd rfl hc) | (exfalso; omega) | (exact absurd (hc.symm.trans (by assumption : _ = false)) (by decide)) | (exact absurd (hc.symm.trans (by assumption : _ = true)) (by decide))) | skip)))
            | (first | refine JC.seq ?_ | refine JC.region ?_ | refine JC.block ?_ | refine JC.ret ?_ | refine JC.exit ?_ | refine JC.skip ?_ | refine thenK.nn ?_ | refine thenK.r ?_ | refine thenK.x ?_ | refine blockK.nn ?_ | refine blockK.r ?_ | refine blockK.hit rfl ?_ | refine blockK.miss rfl ?_ | refine JC.condT rfl ?_ | refine JC.condF rfl ?_ | (refine JC.cond rfl (fun hc => ?_) (fun hc => ?_) <;> ((try simp only [decide_eq_true_eq, decide_eq_false_iff_not, beq_iff_eq, beq_eq_false_iff_ne, bne_iff_ne, bne_eq_false_iff_eq, Bool.not_eq_true', Bool.not_eq_false', Bool.not_eq_true, Bool.not_eq_false] at hc) <;> first | (first | (exact absurd rfl hc) | (exfalso; omega) | (exact absurd (hc.symm.trans (by assumption : _ = false)) (by decide)) | (exact absurd (hc.symm.trans (by assumption : _ = true)) (by decide))) | skip)) | refine drawK.nn ?_ | refine roundK.nn ?_ | refine roundK.r ?_ | refine roundK.x ?_ | refine loopK.r ?_ | refine loopK.x ?_)
            | ((refine JC.drawO [(1,0),(0,1),(0,2),(1,3),(1,4),(0,5),(2,6)] (by decide +kernel) (by decide +kernel) ?_))
            | fail
          all_goals first | (exfalso; omega) | skip
          refine ret1f rfl rfl rfl (fun w1 hw => ⟨_, _, rfl, H.sel (l := [_, _, _, _, _, _, _]) (M := L) hw [1, 2, 3, 0], ⟨s3.an, s3.cn, s3.ns, s3.hN, s3.u, s3.hU, mput s3.m x y3, h4⟩, y3, rfl, rfl, ⟨⟨so3.n8, so3.no, so3.wf, so3.sm, so3.ow, so3.um, so3.uk, mt4, so3.mo.put (hx.ext e13) hite⟩, e13, by show s3.ns.length ≤ _; omega, ad3.lt⟩, hite⟩)
        ·
          repeat' first
            | (refine J.isJ ?_; first | (first | (refine J.o 4 ?_; first | refine J.e3 hΓ ?_ | refine J.e4 hΓ ?_) | (refine J.o 12 ?_; refine J.xI hΓ ?_) | (refine J.o 4 ?_; first | refine J.lR hΓ ?_ (hr := rc1.tl.tl.tl.tl.tl.tl.tl)) | (refine J.fc 83 ?_; refine J.call0 ePart rfl rfl (fun w hw => cPart w _ hw Rd.hd.tl.tl.tl RdH.hd.tl.tl.tl.tl x.a false hx1) ?_) | (refine J.fc 83 ?_; refine J.call0 ePart rfl rfl (fun w hw => cPart w _ hw Rd.hd.tl.tl.tl RdH.hd.tl.tl.tl.tl x.a true hx1) ?_)) | (first | (refine J.o 0 ?_; refine J.ev' hΓ ?_) | refine J.nil ?_ | refine J.kd ?_ | (refine J.o 4 ?_; first | refine J.lT default hΓ ?_ | refine J.lR hΓ ?_) | (refine J.o 3 ?_; first | refine J.iA hΓ ?_ | refine J.iJ hΓ ?_ | refine J.fP hΓ ?_ | refine J.iC hΓ ?_ | refine J.ev' hΓ ?_) | (refine J.o 1 ?_; first | refine J.ad ?_ | refine J.sb ?_ | refine J.ng ?_ | refine J.mu ?_) | (refine J.o 5 ?_; first | refine J.t0 hΓ ?_ | refine J.t1 hΓ ?_ | refine J.t2 hΓ ?_ | refine J.tT _ default hΓ (fun _ _ => ?_) | refine J.tT1 _ default hΓ (fun _ _ => ?_) | refine J.tT2 _ default hΓ (fun _ _ => ?_)) | (refine J.o 6 ?_; refine J.bx (fun _ => ?_)) | (refine J.o 7 ?_; refine J.al hΓ (fun _ => ?_)) | (refine J.o 8 ?_; refine J.bd hΓ ?_) | (refine J.o 9 ?_; refine J.bl hΓ (fun _ => ?_)) | (refine J.o 10 ?_; refine J.ev' hΓ ?_) | (refine J.o 11 ?_; refine J.ev' hΓ ?_) | (refine J.o 14 ?_; refine J.mf hΓ ?_) | refine J.kn ?_) | ((fail_if_success refine J.wt ?_); refine J.gc rfl rfl (fun hc => ?_) (fun hc => ?_) <;> ((try simp only [decide_eq_true_eq, decide_eq_false_iff_not, beq_iff_eq, beq_eq_false_iff_ne, bne_iff_ne, bne_eq_false_iff_eq, Bool.not_eq_true', Bool.not_eq_false', Bool.not_eq_true, Bool.not_eq_false] at hc) <;> first | (first | (exact absurd rfl hc) | (exfalso; omega) | (exact absurd (hc.symm.trans (by assumption : _ = false)) (by decide)) | (exact absurd (hc.symm.trans (by assumption : _ = true)) (by decide))) | skip)))
            | (first | refine JC.seq ?_ | refine JC.region ?_ | refine JC.block ?_ | refine JC.ret ?_ | refine JC.exit ?_ | refine JC.skip ?_ | refine thenK.nn ?_ | refine thenK.r ?_ | refine thenK.x ?_ | refine blockK.nn ?_ | refine blockK.r ?_ | refine blockK.hit rfl ?_ | refine blockK.miss rfl ?_ | refine JC.condT rfl ?_ | refine JC.condF rfl ?_ | (refine JC.cond rfl (fun hc => ?_) (fun hc => ?_) <;> ((try simp only [decide_eq_true_eq, decide_eq_false_iff_not, beq_iff_eq, beq_eq_false_iff_ne, bne_iff_ne, bne_eq_false_iff_eq, Bool.not_eq_true', Bool.not_eq_false', Bool.not_eq_true, Bool.not_eq_false] at hc) <;> first | (first | (exact absurd rfl hc) | (exfalso; omega) | (exact absurd (hc.symm.trans (by assumption : _ = false)) (by decide)) | (exact absurd (hc.symm.trans (by assumption : _ = true)) (by decide))) | skip)) | refine drawK.nn ?_ | refine roundK.nn ?_ | refine roundK.r ?_ | refine roundK.x ?_ | refine loopK.r ?_ | refine loopK.x ?_)
            | ((refine JC.drawO [(0,0),(0,1),(1,2),(0,3),(0,4),(1,6),(0,7),(0,8),(1,5),(0,10),(1,9),(2,11),(0,12),(2,13)] (by kernel_rfl) (by kernel_rfl) ?_))
            | fail
          all_goals first | (exfalso; omega) | skip
          refine loopK.nn (m2 - 1) (by omega) (by repeat (first | refine Ag.upd rfl ?_ | exact Ag.hv)) ⟨1, rfl, by omega, rfl⟩
        ·
          repeat' first
            | (refine J.isJ ?_; first | (first | (refine J.o 4 ?_; first | refine J.e3 hΓ ?_ | refine J.e4 hΓ ?_) | (refine J.o 12 ?_; refine J.xI hΓ ?_) | (refine J.o 4 ?_; first | refine J.lR hΓ ?_ (hr := rc1.tl.tl.tl.tl.tl.tl.tl)) | (refine J.fc 83 ?_; refine J.call0 ePart rfl rfl (fun w hw => cPart w _ hw Rd.hd.tl.tl.tl RdH.hd.tl.tl.tl.tl x.b false hx2) ?_) | (refine J.fc 83 ?_; refine J.call0 ePart rfl rfl (fun w hw => cPart w _ hw Rd.hd.tl.tl.tl RdH.hd.tl.tl.tl.tl x.b true hx2) ?_)) | (first | (refine J.o 0 ?_; refine J.ev' hΓ ?_) | refine J.nil ?_ | refine J.kd ?_ | (refine J.o 4 ?_; first | refine J.lT default hΓ ?_ | refine J.lR hΓ ?_) | (refine J.o 3 ?_; first | refine J.iA hΓ ?_ | refine J.iJ hΓ ?_ | refine J.fP hΓ ?_ | refine J.iC hΓ ?_ | refine J.ev' hΓ ?_) | (refine J.o 1 ?_; first | refine J.ad ?_ | refine J.sb ?_ | refine J.ng ?_ | refine J.mu ?_) | (refine J.o 5 ?_; first | refine J.t0 hΓ ?_ | refine J.t1 hΓ ?_ | refine J.t2 hΓ ?_ | refine J.tT _ default hΓ (fun _ _ => ?_) | refine J.tT1 _ default hΓ (fun _ _ => ?_) | refine J.tT2 _ default hΓ (fun _ _ => ?_)) | (refine J.o 6 ?_; refine J.bx (fun _ => ?_)) | (refine J.o 7 ?_; refine J.al hΓ (fun _ => ?_)) | (refine J.o 8 ?_; refine J.bd hΓ ?_) | (refine J.o 9 ?_; refine J.bl hΓ (fun _ => ?_)) | (refine J.o 10 ?_; refine J.ev' hΓ ?_) | (refine J.o 11 ?_; refine J.ev' hΓ ?_) | (refine J.o 14 ?_; refine J.mf hΓ ?_) | refine J.kn ?_) | ((fail_if_success refine J.wt ?_); refine J.gc rfl rfl (fun hc => ?_) (fun hc => ?_) <;> ((try simp only [decide_eq_true_eq, decide_eq_false_iff_not, beq_iff_eq, beq_eq_false_iff_ne, bne_iff_ne, bne_eq_false_iff_eq, Bool.not_eq_true', Bool.not_eq_false', Bool.not_eq_true, Bool.not_eq_false] at hc) <;> first | (first | (exact absurd rfl hc) | (exfalso; omega) | (exact absurd (hc.symm.trans (by assumption : _ = false)) (by decide)) | (exact absurd (hc.symm.trans (by assumption : _ = true)) (by decide))) | skip)))
            | (first | refine JC.seq ?_ | refine JC.region ?_ | refine JC.block ?_ | refine JC.ret ?_ | refine JC.exit ?_ | refine JC.skip ?_ | refine thenK.nn ?_ | refine thenK.r ?_ | refine thenK.x ?_ | refine blockK.nn ?_ | refine blockK.r ?_ | refine blockK.hit rfl ?_ | refine blockK.miss rfl ?_ | refine JC.condT rfl ?_ | refine JC.condF rfl ?_ | (refine JC.cond rfl (fun hc => ?_) (fun hc => ?_) <;> ((try simp only [decide_eq_true_eq, decide_eq_false_iff_not, beq_iff_eq, beq_eq_false_iff_ne, bne_iff_ne, bne_eq_false_iff_eq, Bool.not_eq_true', Bool.not_eq_false', Bool.not_eq_true, Bool.not_eq_false] at hc) <;> first | (first | (exact absurd rfl hc) | (exfalso; omega) | (exact absurd (hc.symm.trans (by assumption : _ = false)) (by decide)) | (exact absurd (hc.symm.trans (by assumption : _ = true)) (by decide))) | skip)) | refine drawK.nn ?_ | refine roundK.nn ?_ | refine roundK.r ?_ | refine roundK.x ?_ | refine loopK.r ?_ | refine loopK.x ?_)
            | ((refine JC.drawO [(0,0),(0,1),(1,2),(0,3),(0,4),(1,6),(0,7),(0,8),(1,5),(0,10),(1,9),(2,11),(0,12),(2,13)] (by kernel_rfl) (by kernel_rfl) ?_))
            | fail
          all_goals first | (exfalso; omega) | skip
          refine loopK.nn (m2 - 1) (by omega) (by repeat (first | refine Ag.upd rfl ?_ | exact Ag.hv)) ⟨2, rfl, by omega, rfl⟩
        ·
          repeat' first
            | (refine J.isJ ?_; first | (first | (refine J.o 4 ?_; first | refine J.e3 hΓ ?_ | refine J.e4 hΓ ?_) | (refine J.o 12 ?_; refine J.xI hΓ ?_) | (refine J.o 4 ?_; first | refine J.lR hΓ ?_ (hr := rc1.tl.tl.tl.tl.tl.tl.tl)) | (refine J.fc 83 ?_; refine J.call0 ePart rfl rfl (fun w hw => cPart w _ hw Rd.hd.tl.tl.tl RdH.hd.tl.tl.tl.tl x.c false hx3) ?_) | (refine J.fc 83 ?_; refine J.call0 ePart rfl rfl (fun w hw => cPart w _ hw Rd.hd.tl.tl.tl RdH.hd.tl.tl.tl.tl x.c true hx3) ?_)) | (first | (refine J.o 0 ?_; refine J.ev' hΓ ?_) | refine J.nil ?_ | refine J.kd ?_ | (refine J.o 4 ?_; first | refine J.lT default hΓ ?_ | refine J.lR hΓ ?_) | (refine J.o 3 ?_; first | refine J.iA hΓ ?_ | refine J.iJ hΓ ?_ | refine J.fP hΓ ?_ | refine J.iC hΓ ?_ | refine J.ev' hΓ ?_) | (refine J.o 1 ?_; first | refine J.ad ?_ | refine J.sb ?_ | refine J.ng ?_ | refine J.mu ?_) | (refine J.o 5 ?_; first | refine J.t0 hΓ ?_ | refine J.t1 hΓ ?_ | refine J.t2 hΓ ?_ | refine J.tT _ default hΓ (fun _ _ => ?_) | refine J.tT1 _ default hΓ (fun _ _ => ?_) | refine J.tT2 _ default hΓ (fun _ _ => ?_)) | (refine J.o 6 ?_; refine J.bx (fun _ => ?_)) | (refine J.o 7 ?_; refine J.al hΓ (fun _ => ?_)) | (refine J.o 8 ?_; refine J.bd hΓ ?_) | (refine J.o 9 ?_; refine J.bl hΓ (fun _ => ?_)) | (refine J.o 10 ?_; refine J.ev' hΓ ?_) | (refine J.o 11 ?_; refine J.ev' hΓ ?_) | (refine J.o 14 ?_; refine J.mf hΓ ?_) | refine J.kn ?_) | ((fail_if_success refine J.wt ?_); refine J.gc rfl rfl (fun hc => ?_) (fun hc => ?_) <;> ((try simp only [decide_eq_true_eq, decide_eq_false_iff_not, beq_iff_eq, beq_eq_false_iff_ne, bne_iff_ne, bne_eq_false_iff_eq, Bool.not_eq_true', Bool.not_eq_false', Bool.not_eq_true, Bool.not_eq_false] at hc) <;> first | (first | (exact absurd rfl hc) | (exfalso; omega) | (exact absurd (hc.symm.trans (by assumption : _ = false)) (by decide)) | (exact absurd (hc.symm.trans (by assumption : _ = true)) (by decide))) | skip)))
            | (first | refine JC.seq ?_ | refine JC.region ?_ | refine JC.block ?_ | refine JC.ret ?_ | refine JC.exit ?_ | refine JC.skip ?_ | refine thenK.nn ?_ | refine thenK.r ?_ | refine thenK.x ?_ | refine blockK.nn ?_ | refine blockK.r ?_ | refine blockK.hit rfl ?_ | refine blockK.miss rfl ?_ | refine JC.condT rfl ?_ | refine JC.condF rfl ?_ | (refine JC.cond rfl (fun hc => ?_) (fun hc => ?_) <;> ((try simp only [decide_eq_true_eq, decide_eq_false_iff_not, beq_iff_eq, beq_eq_false_iff_ne, bne_iff_ne, bne_eq_false_iff_eq, Bool.not_eq_true', Bool.not_eq_false', Bool.not_eq_true, Bool.not_eq_false] at hc) <;> first | (first | (exact absurd rfl hc) | (exfalso; omega) | (exact absurd (hc.symm.trans (by assumption : _ = false)) (by decide)) | (exact absurd (hc.symm.trans (by assumption : _ = true)) (by decide))) | skip)) | refine drawK.nn ?_ | refine roundK.nn ?_ | refine roundK.r ?_ | refine roundK.x ?_ | refine loopK.r ?_ | refine loopK.x ?_)
            | ((refine JC.drawO [(0,0),(0,1),(1,2),(0,3),(0,4),(1,6),(0,7),(0,8),(1,5),(0,10),(1,9),(2,11),(0,12),(2,13)] (by kernel_rfl) (by kernel_rfl) ?_))
            | fail
          all_goals first | (exfalso; omega) | skip
          refine loopK.nn (m2 - 1) (by omega) (by repeat (first | refine Ag.upd rfl ?_ | exact Ag.hv)) ⟨3, rfl, by omega, rfl⟩
      ·
        repeat' first
          | (refine J.isJ ?_; first | (first | (refine J.o 4 ?_; first | refine J.e3 hΓ ?_ | refine J.e4 hΓ ?_) | (refine J.o 12 ?_; refine J.xI hΓ ?_) | (refine J.o 4 ?_; first | refine J.lR hΓ ?_ (hr := rc1.tl.tl.tl.tl.tl) | refine J.lT default hΓ ?_ (hs := hsl) (hr := RdH.hd.tl.tl))) | (first | (refine J.o 0 ?_; refine J.ev' hΓ ?_) | refine J.nil ?_ | refine J.kd ?_ | (refine J.o 4 ?_; first | refine J.lT default hΓ ?_ | refine J.lR hΓ ?_) | (refine J.o 3 ?_; first | refine J.iA hΓ ?_ | refine J.iJ hΓ ?_ | refine J.fP hΓ ?_ | refine J.iC hΓ ?_ | refine J.ev' hΓ ?_) | (refine J.o 1 ?_; first | refine J.ad ?_ | refine J.sb ?_ | refine J.ng ?_ | refine J.mu ?_) | (refine J.o 5 ?_; first | refine J.t0 hΓ ?_ | refine J.t1 hΓ ?_ | refine J.t2 hΓ ?_ | refine J.tT _ default hΓ (fun _ _ => ?_) | refine J.tT1 _ default hΓ (fun _ _ => ?_) | refine J.tT2 _ default hΓ (fun _ _ => ?_)) | (refine J.o 6 ?_; refine J.bx (fun _ => ?_)) | (refine J.o 7 ?_; refine J.al hΓ (fun _ => ?_)) | (refine J.o 8 ?_; refine J.bd hΓ ?_) | (refine J.o 9 ?_; refine J.bl hΓ (fun _ => ?_)) | (refine J.o 10 ?_; refine J.ev' hΓ ?_) | (refine J.o 11 ?_; refine J.ev' hΓ ?_) | (refine J.o 14 ?_; refine J.mf hΓ ?_) | refine J.kn ?_) | ((fail_if_success refine J.wt ?_); refine J.gc rfl rfl (fun hc => ?_) (fun hc => ?_) <;> ((try simp only [decide_eq_true_eq, decide_eq_false_iff_not, beq_iff_eq, beq_eq_false_iff_ne, bne_iff_ne, bne_eq_false_iff_eq, Bool.not_eq_true', Bool.not_eq_false', Bool.not_eq_true, Bool.not_eq_false] at hc) <;> first | (first | (exact absurd rfl hc) | (exfalso; omega) | (exact absurd (hc.symm.trans (by assumption : _ = false)) (by decide)) | (exact absurd (hc.symm.trans (by assumption : _ = true)) (by decide))) | skip)))
          | (first | refine JC.seq ?_ | refine JC.region ?_ | refine JC.block ?_ | refine JC.ret ?_ | refine JC.exit ?_ | refine JC.skip ?_ | refine thenK.nn ?_ | refine thenK.r ?_ | refine thenK.x ?_ | refine blockK.nn ?_ | refine blockK.r ?_ | refine blockK.hit rfl ?_ | refine blockK.miss rfl ?_ | refine JC.condT rfl ?_ | refine JC.condF rfl ?_ | (refine JC.cond rfl (fun hc => ?_) (fun hc => ?_) <;> ((try simp only [decide_eq_true_eq, decide_eq_false_iff_not, beq_iff_eq, beq_eq_false_iff_ne, bne_iff_ne, bne_eq_false_iff_eq, Bool.not_eq_true', Bool.not_eq_false', Bool.not_eq_true, Bool.not_eq_false] at hc) <;> first | (first | (exact absurd rfl hc) | (exfalso; omega) | (exact absurd (hc.symm.trans (by assumption : _ = false)) (by decide)) | (exact absurd (hc.symm.trans (by assumption : _ = true)) (by decide))) | skip)) | refine drawK.nn ?_ | refine roundK.nn ?_ | refine roundK.r ?_ | refine roundK.x ?_ | refine loopK.r ?_ | refine loopK.x ?_)
          | (fail)
          | fail
        all_goals first | (exfalso; omega) | skip
        refine loopK.nn (m1 - 1) (by omega) (by repeat (first | refine Ag.upd rfl ?_ | exact Ag.hv)) ⟨1, rfl, by omega, min_cast _ _, rfl⟩
      ·
        repeat' first
          | (refine J.isJ ?_; first | (first | (refine J.o 4 ?_; first | refine J.e3 hΓ ?_ | refine J.e4 hΓ ?_) | (refine J.o 12 ?_; refine J.xI hΓ ?_) | (refine J.o 4 ?_; first | refine J.lR hΓ ?_ (hr := rc1.tl.tl.tl.tl.tl) | refine J.lT default hΓ ?_ (hs := hsl) (hr := RdH.hd.tl.tl))) | (first | (refine J.o 0 ?_; refine J.ev' hΓ ?_) | refine J.nil ?_ | refine J.kd ?_ | (refine J.o 4 ?_; first | refine J.lT default hΓ ?_ | refine J.lR hΓ ?_) | (refine J.o 3 ?_; first | refine J.iA hΓ ?_ | refine J.iJ hΓ ?_ | refine J.fP hΓ ?_ | refine J.iC hΓ ?_ | refine J.ev' hΓ ?_) | (refine J.o 1 ?_; first | refine J.ad ?_ | refine J.sb ?_ | refine J.ng ?_ | refine J.mu ?_) | (refine J.o 5 ?_; first | refine J.t0 hΓ ?_ | refine J.t1 hΓ ?_ | refine J.t2 hΓ ?_ | refine J.tT _ default hΓ (fun _ _ => ?_) | refine J.tT1 _ default hΓ (fun _ _ => ?_) | refine J.tT2 _ default hΓ (fun _ _ => ?_)) | (refine J.o 6 ?_; refine J.bx (fun _ => ?_)) | (refine J.o 7 ?_; refine J.al hΓ (fun _ => ?_)) | (refine J.o 8 ?_; refine J.bd hΓ ?_) | (refine J.o 9 ?_; refine J.bl hΓ (fun _ => ?_)) | (refine J.o 10 ?_; refine J.ev' hΓ ?_) | (refine J.o 11 ?_; refine J.ev' hΓ ?_) | (refine J.o 14 ?_; refine J.mf hΓ ?_) | refine J.kn ?_) | ((fail_if_success refine J.wt ?_); refine J.gc rfl rfl (fun hc => ?_) (fun hc => ?_) <;> ((try simp only [decide_eq_true_eq, decide_eq_false_iff_not, beq_iff_eq, beq_eq_false_iff_ne, bne_iff_ne, bne_eq_false_iff_eq, Bool.not_eq_true', Bool.not_eq_false', Bool.not_eq_true, Bool.not_eq_false] at hc) <;> first | (first | (exact absurd rfl hc) | (exfalso; omega) | (exact absurd (hc.symm.trans (by assumption : _ = false)) (by decide)) | (exact absurd (hc.symm.trans (by assumption : _ = true)) (by decide))) | skip)))
          | (first | refine JC.seq ?_ | refine JC.region ?_ | refine JC.block ?_ | refine JC.ret ?_ | refine JC.exit ?_ | refine JC.skip ?_ | refine thenK.nn ?_ | refine thenK.r ?_ | refine thenK.x ?_ | refine blockK.nn ?_ | refine blockK.r ?_ | refine blockK.hit rfl ?_ | refine blockK.miss rfl ?_ | refine JC.condT rfl ?_ | refine JC.condF rfl ?_ | (refine JC.cond rfl (fun hc => ?_) (fun hc => ?_) <;> ((try simp only [decide_eq_true_eq, decide_eq_false_iff_not, beq_iff_eq, beq_eq_false_iff_ne, bne_iff_ne, bne_eq_false_iff_eq, Bool.not_eq_true', Bool.not_eq_false', Bool.not_eq_true, Bool.not_eq_false] at hc) <;> first | (first | (exact absurd rfl hc) | (exfalso; omega) | (exact absurd (hc.symm.trans (by assumption : _ = false)) (by decide)) | (exact absurd (hc.symm.trans (by assumption : _ = true)) (by decide))) | skip)) | refine drawK.nn ?_ | refine roundK.nn ?_ | refine roundK.r ?_ | refine roundK.x ?_ | refine loopK.r ?_ | refine loopK.x ?_)
          | (fail)
          | fail
        all_goals first | (exfalso; omega) | skip
        refine loopK.nn (m1 - 1) (by omega) (by repeat (first | refine Ag.upd rfl ?_ | exact Ag.hv)) ⟨2, rfl, by omega, min_cast _ _, rfl⟩
      ·
        repeat' first
          | (refine J.isJ ?_; first | (first | (refine J.o 4 ?_; first | refine J.e3 hΓ ?_ | refine J.e4 hΓ ?_) | (refine J.o 12 ?_; refine J.xI hΓ ?_) | (refine J.o 4 ?_; first | refine J.lR hΓ ?_ (hr := rc1.tl.tl.tl.tl.tl) | refine J.lT default hΓ ?_ (hs := hsl) (hr := RdH.hd.tl.tl))) | (first | (refine J.o 0 ?_; refine J.ev' hΓ ?_) | refine J.nil ?_ | refine J.kd ?_ | (refine J.o 4 ?_; first | refine J.lT default hΓ ?_ | refine J.lR hΓ ?_) | (refine J.o 3 ?_; first | refine J.iA hΓ ?_ | refine J.iJ hΓ ?_ | refine J.fP hΓ ?_ | refine J.iC hΓ ?_ | refine J.ev' hΓ ?_) | (refine J.o 1 ?_; first | refine J.ad ?_ | refine J.sb ?_ | refine J.ng ?_ | refine J.mu ?_) | (refine J.o 5 ?_; first | refine J.t0 hΓ ?_ | refine J.t1 hΓ ?_ | refine J.t2 hΓ ?_ | refine J.tT _ default hΓ (fun _ _ => ?_) | refine J.tT1 _ default hΓ (fun _ _ => ?_) | refine J.tT2 _ default hΓ (fun _ _ => ?_)) | (refine J.o 6 ?_; refine J.bx (fun _ => ?_)) | (refine J.o 7 ?_; refine J.al hΓ (fun _ => ?_)) | (refine J.o 8 ?_; refine J.bd hΓ ?_) | (refine J.o 9 ?_; refine J.bl hΓ (fun _ => ?_)) | (refine J.o 10 ?_; refine J.ev' hΓ ?_) | (refine J.o 11 ?_; refine J.ev' hΓ ?_) | (refine J.o 14 ?_; refine J.mf hΓ ?_) | refine J.kn ?_) | ((fail_if_success refine J.wt ?_); refine J.gc rfl rfl (fun hc => ?_) (fun hc => ?_) <;> ((try simp only [decide_eq_true_eq, decide_eq_false_iff_not, beq_iff_eq, beq_eq_false_iff_ne, bne_iff_ne, bne_eq_false_iff_eq, Bool.not_eq_true', Bool.not_eq_false', Bool.not_eq_true, Bool.not_eq_false] at hc) <;> first | (first | (exact absurd rfl hc) | (exfalso; omega) | (exact absurd (hc.symm.trans (by assumption : _ = false)) (by decide)) | (exact absurd (hc.symm.trans (by assumption : _ = true)) (by decide))) | skip)))
          | (first | refine JC.seq ?_ | refine JC.region ?_ | refine JC.block ?_ | refine JC.ret ?_ | refine JC.exit ?_ | refine JC.skip ?_ | refine thenK.nn ?_ | refine thenK.r ?_ | refine thenK.x ?_ | refine blockK.nn ?_ | refine blockK.r ?_ | refine blockK.hit rfl ?_ | refine blockK.miss rfl ?_ | refine JC.condT rfl ?_ | refine JC.condF rfl ?_ | (refine JC.cond rfl (fun hc => ?_) (fun hc => ?_) <;> ((try simp only [decide_eq_true_eq, decide_eq_false_iff_not, beq_iff_eq, beq_eq_false_iff_ne, bne_iff_ne, bne_eq_false_iff_eq, Bool.not_eq_true', Bool.not_eq_false', Bool.not_eq_true, Bool.not_eq_false] at hc) <;> first | (first | (exact absurd rfl hc) | (exfalso; omega) | (exact absurd (hc.symm.trans (by assumption : _ = false)) (by decide)) | (exact absurd (hc.symm.trans (by assumption : _ = true)) (by decide))) | skip)) | refine drawK.nn ?_ | refine roundK.nn ?_ | refine roundK.r ?_ | refine roundK.x ?_ | refine loopK.r ?_ | refine loopK.x ?_)
          | (fail)
          | fail
        all_goals first | (exfalso; omega) | skip
        refine loopK.nn (m1 - 1) (by omega) (by repeat (first | refine Ag.upd rfl ?_ | exact Ag.hv)) ⟨3, rfl, by omega, min_cast _ _, rfl⟩

end Go.Proofs.Ythnhijdfcmcnhaa
