/- try: an operation under a deferred closure. -/
import Derived.Test.YthnhijdfcmcnhaaBf
namespace Go.Proofs.Ythnhijdfcmcnhaa
open Go Go.Cx Go.RowKit
set_option linter.unusedVariables false
set_option linter.unusedSimpArgs false
set_option maxHeartbeats 4000000
attribute [local irreducible] J JC thenK blockK loopK roundK drawK retK QW Qt pel List.set Calls
open Go.Maps
set_option maxRecDepth 8000
attribute [local irreducible] JE Br eK0 eK2 eK3 brK
/-- code whose end is asked for by Q -/
def JQ (P : Program) (n : Nat) (w0 : World) (R : Heap) (c : Code) (Q : Exit → Act → World → Prop) (f : Fr) (L : List Heap) : Prop := ∀ a w, Rep n f a → H w0 R L w → c.wp P Q a w
def qK (P : Program) (n : Nat) (w0 : World) (R : Heap) (y : Code) (Q : Exit → Act → World → Prop) : Exit → Fr → List Heap → Prop
  | .normal, f, L => JQ P n w0 R y Q f L
  | _, _, _ => False
section
variable {P : Program} {n : Nat} {w0 : World} {R : Heap} {f : Fr} {L : List Heap} {x y : Code} {Q : Exit → Act → World → Prop} {Γ : List (Nat × TI)}
theorem qK.nn (h : JQ P n w0 R y Q f L) : qK P n w0 R y Q .normal f L := h
theorem JQ.seq (h : JC P n w0 R x (qK P n w0 R y Q) f L) : JQ P n w0 R (.seq x y) Q f L := fun a w ha hw => by
  unfold JC at h
  refine wp_seq (wp_mono (h a w ha hw) ?_)
  intro e a' w' q
  unfold QW at q
  cases e <;> first | (obtain ⟨f', L', ha', hw', hk⟩ := q; first | exact hk a' w' ha' hw' | exact hk.elim) | exact q.elim
theorem calls_JQ {fid : FuncId} {fn : Func} {c : Code} {n : Nat} {args : List Value} {w w0 : World} {R : Heap} {L : List Heap} {Post : Ending → World → Prop}
    (hf : P.funcs[fid]? = some fn) (hn : fn.ntmps = n) (hb : fn.body = some c) (hsz : Nat.ble args.length n = true) (hH : H w0 R L w) (h : JQ P n w0 R c (bodyPostD P fn Post) (fr0 args) L) : Calls P fid args.toArray w Post := by
  refine calls_of_wp_defers hf hb ?_
  rw [hn]
  exact h _ w (fr0_rep (Nat.le_of_ble_eq_true hsz)) hH
/-- a frame with deferred calls -/
def RepD (D : List Deferred) (n : Nat) (f : Fr) (a : Act) : Prop := Rep n f { a with defers := [] } ∧ a.defers = D
theorem RepD.of {a : Act} (h : Rep n f a) : RepD [] n f a := ⟨⟨h.1, rfl, h.2.2⟩, h.2.1⟩
theorem RepD.eval {D : List Deferred} {a : Act} (h : RepD D n f a) : a.eval = Cx.ev n f := by
  rw [← h.1.eval]
  funext o; cases o <;> rfl
theorem RepD.put {D : List Deferred} {a : Act} (h : RepD D n f a) (d : Option Tmp) (v : Value) : RepD D n (updO f d v) (a.put d v) := by
  have h1 := h.1.put d v
  cases d with
  | none => exact ⟨h1, h.2⟩
  | some d => exact ⟨h1, h.2⟩
theorem RepD.wanted {D : List Deferred} {a : Act} (h : RepD D n f a) (l : List Oper) (o : Oper) : Region.wanted o (yielded l.toArray a.tmps) = wantB n f l o := h.1.wanted l o
theorem dl_step {D : List Deferred} {ops : List Oper} {l : List Oper} {o : Oper} {a : Act} {w w' : World} {v : Value} (ha : RepD D n f a) (hg : wantB n f ops o = true) (hr : (execOp (Cx.ev n f) o).run P w = .ok (.value v) w')
    (k : ∀ a', RepD D n (updO f o.dst v) a' → wpList P ops.toArray Q l a' w') : wpList P ops.toArray Q (o :: l) a w := by
  unfold wpList
  rw [if_pos (by rw [ha.wanted, hg])]
  refine .inl ?_
  unfold Oper.wp
  rw [ha.eval, hr]
  exact k _ (ha.put _ _)
theorem dl_call {D : List Deferred} {ops : List Oper} {l : List Oper} {o : Oper} {a : Act} {w : World} {fid : FuncId} {args : Array Value} {Φ : Value → List Heap → Prop} (ha : RepD D n f a) (hg : wantB n f ops o = true) (hr : (execOp (Cx.ev n f) o).run P w = .ok (.enter fid args) w)
    (hc : Calls P fid args w fun e w' => ∃ v L', e = .returned v ∧ H w0 R L' w' ∧ Φ v L') (k : ∀ v L' a' w', Φ v L' → H w0 R L' w' → RepD D n (updO f o.dst v) a' → wpList P ops.toArray Q l a' w') : wpList P ops.toArray Q (o :: l) a w := by
  unfold wpList
  rw [if_pos (by rw [ha.wanted, hg])]
  refine .inl ?_
  unfold Oper.wp
  rw [ha.eval, hr]
  refine hc.mono ?_
  rintro e w' ⟨v, L', rfl, hw', hP⟩
  exact k v L' _ w' hP hw' (ha.put _ _)
theorem dl_defer {D : List Deferred} {ops : List Oper} {l : List Oper} {o : Oper} {a : Act} {w : World} {d : Deferred} (ha : RepD D n f a) (hg : wantB n f ops o = true) (hr : (execOp (Cx.ev n f) o).run P w = .ok (.defer d) w)
    (k : ∀ a', RepD (d :: D) n (updO f o.dst undef) a' → wpList P ops.toArray Q l a' w) : wpList P ops.toArray Q (o :: l) a w := by
  unfold wpList
  rw [if_pos (by rw [ha.wanted, hg])]
  refine .inl ?_
  unfold Oper.wp
  rw [ha.eval, hr]
  refine k _ (RepD.put ⟨h_def ha, by rw [ha.2]⟩ _ _)
where h_def {D : List Deferred} {a : Act} {d : Deferred} (ha : RepD D n f a) : Rep n f { ({ a with defers := d :: a.defers } : Act) with defers := [] } := ha.1
theorem dl_st {D : List Deferred} {ops : List Oper} {l : List Oper} {a : Act} {w : World} {t : TypeId} {ti : TI} {x y : Operand} {b off : Nat} {cs cl cs' : List Value} {e : TypeId} {ty : TypeId} {pos : String} {aft : Array Edge} {g : Option (Nat × Bool)} (hΓ : Fits P Γ) (ha : RepD D n f a) (hg : wantB n f ops ⟨none, .store t x y, ty, pos, aft, g⟩ = true)
    (hp : Cx.ev n f x = .pointer (some ⟨b, off, none⟩)) (ht : Cx.look Γ t = some ti) (hv : vcells (Cx.ev n f y) = some cl) (hn : Nat.beq cl.length ti.size = true) (h1 : ones cl = true) (hcs : putE cs off cl = some cs') (hw : H w0 R ([(b, .cells ⟨cs⟩ e (0, 0))] :: L) w)
    (k : ∀ a' w', RepD D n f a' → H w0 R ([(b, .cells ⟨cs'⟩ e (0, 0))] :: L) w' → wpList P ops.toArray Q l a' w') : wpList P ops.toArray Q (⟨none, .store t x y, ty, pos, aft, g⟩ :: l) a w := by
  unfold putE at hcs
  cases hle : Nat.ble (off + cl.length) cs.length with
  | false => rw [hle] at hcs; cases hcs
  | true =>
    rw [hle] at hcs
    simp only [cond_true, forceL_eq, Option.some.injEq] at hcs
    obtain ⟨w', hr, hw'⟩ := store_ok hΓ ht hv hn h1 (Nat.le_of_ble_eq_true hle) hcs hw
    have hx : (execOp (Cx.ev n f) ⟨none, .store t x y, ty, pos, aft, g⟩).run P w = .ok .skip w' := by simp only [execOp, hp, Sem.run_bind]; rw [hr]; rfl
    unfold wpList
    rw [if_pos (by rw [ha.wanted, hg])]
    refine .inl ?_
    unfold Oper.wp
    rw [ha.eval, hx]
    exact k _ _ (ha.put none undef) hw'
theorem resCC {fn : Func} {t u ty uy b c : Nat} {cs ds : List Value} {e e2 : TypeId} {fr fr2 : Nat × Nat} {v x : Value} {D : List Deferred} {a : Act} {w : World} (hΓ : Fits P Γ) (hr : fn.results = #[.cell t ty, .cell u uy]) (ha : RepD D n f a) (hw : H w0 R L w) (ht : Nat.blt t n = true) (hu : Nat.blt u n = true) (hv : f t = .pointer (some ⟨b, 0, none⟩)) (hx : f u = .pointer (some ⟨c, 0, none⟩))
    (hb : Rd R L b (.cells ⟨cs⟩ e fr)) (hc : Rd R L c (.cells ⟨ds⟩ e2 fr2)) (hl : ldEv Γ ty cs 0 = some v) (hm : ldEv Γ uy ds 0 = some x) : (results fn a.tmps).run P w = .ok (.tuple #[v, x]) w := by
  have h1 := ldEv_ok (P := P) hΓ (hw.rd hb) hl
  have g1 := ldEv_ok (P := P) hΓ (hw.rd hc) hm
  unfold Instr.loadAt Instr.sureAddr at h1 g1
  simp only [Sem.run_bind, Sem.run_pure, Result.andThen_ok] at h1 g1
  have h2 := ha.1.getD ht
  rw [hv] at h2
  have h3 : a.tmps[t]?.getD undef = .pointer (some ⟨b, 0, none⟩) := by rw [← h2]; simp [Array.getD_eq_getD_getElem?]
  have h4 := ha.1.getD hu
  rw [hx] at h4
  have h5 : a.tmps[u]?.getD undef = .pointer (some ⟨c, 0, none⟩) := by rw [← h4]; simp [Array.getD_eq_getD_getElem?]
  simp only [results, hr]
  simp [h3, h5, asAddr, Sem.run_bind]
  rw [h1]
  simp only [Result.andThen_ok]
  rw [g1]
  rfl
theorem defer_run {x : Operand} {fv : Fn} {cp : List Value} {ty : TypeId} {pos : String} {aft : Array Edge} {g : Option (Nat × Bool)} (hx : Cx.ev n f x = .func fv ⟨[]⟩ ⟨cp⟩) (w : World) :
    (execOp (Cx.ev n f) ⟨none, .defer ⟨.value x, ⟨[]⟩, ⟨[]⟩⟩, ty, pos, aft, g⟩).run P w = .ok (.defer ⟨.fn fv ⟨cp⟩, ⟨[]⟩⟩) w := by
  have h1 : (⟨[]⟩ : Array Operand).map (Cx.ev n f) = ⟨[]⟩ := by simp
  simp only [execOp, resolve, h1, hx, Deferred.ofValue, Sem.run_bind, Sem.run_pure, Result.andThen_ok]
  rfl
theorem mf_run {fn : Fn} {cs : List Operand} {vs : List Value} {d : Nat} {ty : TypeId} {pos : String} {aft : Array Edge} {g : Option (Nat × Bool)} (hΓ : Fits P Γ) (hv : cs.map (Cx.ev n f) = vs) (w : World) :
    (execOp (Cx.ev n f) ⟨some d, .makeFunc fn ⟨[]⟩ ⟨cs⟩, ty, pos, aft, g⟩).run P w = .ok (.value (.func fn ⟨[]⟩ ⟨vs⟩)) w := pure_ok hΓ (by subst hv; simp [pureEv]) w
end
theorem eTry : Entr Try.prog 66 := Entr.of Try.func66 rfl rfl
theorem tryC_idle (p1 p2 p3 p4 : Addr) (w : World) : CallsD Try.prog 129 #[.pointer (some p1), .pointer (some p2), .pointer (some p3), .pointer (some p4)] .returning w fun e u' w' => e = .returned (.tuple #[]) ∧ u' = .returning ∧ w' = w := by
  refine callsD_of_wpS Try.func129 rfl fun c₀ cs hu => ?_
  apply wpS_seq
  apply wpS_region
  simp [wpOpsS, go_sem, recoverD, hu, Try.ntmps129, Exit.thenS]
  apply wpS_seq
  apply wpS_region
  simp [wpOpsS, go_sem, Exit.thenS]
  refine wpS_cond (t := false) (by simp [Act.eval, Array.replicate]) ?_
  simp only [Bool.false_eq_true, if_false]
  refine wpS_of_wp (wp_skip ?_)
  cases c₀
  simp_all [bodyPostS, results, Try.results129]
theorem try_any {n : Nat} {K : KS} {s : SS} (so : SOk n K s) {Q : SS → Nat → Prop} {fid : FuncId} {caps : List Value} (he : Entr Try.prog fid) {w0 w : World} {R : Heap} {L : List Heap} {b : Nat} (l : List Int) (a : Option Addr) (c : Nat) (h : Heap) (hs : SlT encI 1 a l h) (hl : l.length ≤ 1000) (hrl : RdH R L h) (hin : chkP s.ns.length l = true)
    (hf : ∀ (Lx : List Heap) (w : World), H w0 R (sF K b s ++ (Lx ++ L)) w → Calls Try.prog fid ⟨caps⟩ w fun e w' => ∃ v L', e = .returned v ∧ H w0 R L' w' ∧ ∃ s' y, v = .int .i64 ((y : Nat) : Int) ∧ L' = sF K b s' ++ (Lx ++ L) ∧ Q s' y)
    (hw : H w0 R (sF K b s ++ L) w) :
    Calls Try.prog 66 #[.pointer (some ⟨b, 0, none⟩), .func (.func fid) ⟨[]⟩ ⟨caps⟩, .slice a l.length c] w fun e w' => ∃ v L', e = .returned v ∧ H w0 R L' w' ∧ ∃ s' y, v = .tuple #[.int .i64 ((y : Nat) : Int), .int .i64 0] ∧ L' = sF K b s' ++ L ∧ Q s' y := by
  have two := so.wf.two
  have cChk : ∀ L1 w, H w0 R (sF K b s ++ L1) w → RdH R L1 h → Calls Try.prog 72 #[.pointer (some ⟨b, 0, none⟩), .slice a l.length c] w fun e w' => e = .returned (.int .i64 0) ∧ Below w.heap.size w w' := fun L1 w hw hr => by
    have := check_any K b s.an s.cn s.ns.length two ((b, stO K s.an s.ns.length s.cn) :: h) List.mem_cons_self l a c (hs.sub fun y hy => List.mem_cons_of_mem _ hy) hl w (holds2 (hw.rd Rd.hd) (hw.rdH hr.tl.tl.tl.tl))
    rw [hin, if_pos rfl] at this
    exact this
  unfold sF at hw
  simp only [List.cons_append, List.nil_append] at hw
  refine calls_JQ Try.func66 Try.ntmps66 rfl rfl hw ?_
  refine JQ.seq ?_
  repeat' first
    | (refine J.isJ ?_; first | (first | (refine J.o 6 ?_; refine J.bx (fun b3 => ?_)) | (refine J.o 7 ?_; refine J.al hΓ (fun b6 => ?_)) ) | (first | (refine J.o 0 ?_; refine J.ev' hΓ ?_) | refine J.nil ?_ | refine J.kd ?_ | (refine J.o 4 ?_; first | refine J.lT default hΓ ?_ | refine J.lR hΓ ?_) | (refine J.o 3 ?_; first | refine J.iA hΓ ?_ | refine J.iJ hΓ ?_ | refine J.fP hΓ ?_ | refine J.iC hΓ ?_ | refine J.ev' hΓ ?_) | (refine J.o 1 ?_; first | refine J.ad ?_ | refine J.sb ?_ | refine J.ng ?_ | refine J.mu ?_) | (refine J.o 5 ?_; first | refine J.t0 hΓ ?_ | refine J.t1 hΓ ?_ | refine J.t2 hΓ ?_ | refine J.tT _ default hΓ (fun _ _ => ?_) | refine J.tT1 _ default hΓ (fun _ _ => ?_) | refine J.tT2 _ default hΓ (fun _ _ => ?_)) | (refine J.o 6 ?_; refine J.bx (fun _ => ?_)) | (refine J.o 7 ?_; refine J.al hΓ (fun _ => ?_)) | (refine J.o 8 ?_; refine J.bd hΓ ?_) | (refine J.o 9 ?_; refine J.bl hΓ (fun _ => ?_)) | (refine J.o 10 ?_; refine J.ev' hΓ ?_) | (refine J.o 11 ?_; refine J.ev' hΓ ?_) | (refine J.o 14 ?_; refine J.mf hΓ ?_) | refine J.kn ?_) | ((fail_if_success refine J.wt ?_); refine J.gc rfl rfl (fun hc => ?_) (fun hc => ?_) <;> ((try simp only [decide_eq_true_eq, decide_eq_false_iff_not, beq_iff_eq, beq_eq_false_iff_ne, bne_iff_ne, bne_eq_false_iff_eq, Bool.not_eq_true', Bool.not_eq_false', Bool.not_eq_true, Bool.not_eq_false] at hc) <;> first | (first | (exact absurd rfl hc) | (exfalso; omega) | (exact absurd (hc.symm.trans (by assumption : _ = false)) (by decide)) | (exact absurd (hc.symm.trans (by assumption : _ = true)) (by decide))) | skip)))
    | (first | refine JC.seq ?_ | refine JC.region ?_ | refine JC.block ?_ | refine JC.ret ?_ | refine JC.exit ?_ | refine JC.skip ?_ | refine thenK.nn ?_ | refine thenK.r ?_ | refine thenK.x ?_ | refine blockK.nn ?_ | refine blockK.r ?_ | refine blockK.hit rfl ?_ | refine blockK.miss rfl ?_ | refine JC.condT rfl ?_ | refine JC.condF rfl ?_ | (refine JC.cond rfl (fun hc => ?_) (fun hc => ?_) <;> ((try simp only [decide_eq_true_eq, decide_eq_false_iff_not, beq_iff_eq, beq_eq_false_iff_ne, bne_iff_ne, bne_eq_false_iff_eq, Bool.not_eq_true', Bool.not_eq_false', Bool.not_eq_true, Bool.not_eq_false] at hc) <;> first | (first | (exact absurd rfl hc) | (exfalso; omega) | (exact absurd (hc.symm.trans (by assumption : _ = false)) (by decide)) | (exact absurd (hc.symm.trans (by assumption : _ = true)) (by decide))) | skip)) | (refine JC.drawA [] (by kernel_rfl) (by kernel_rfl) ?_) | refine drawK.nn ?_ | refine roundK.nn ?_ | refine roundK.r ?_ | refine roundK.x ?_ | refine loopK.r ?_ | refine loopK.x ?_)
    | (fail)
    | fail
  rename_i b5
  refine qK.nn ?_
  refine JQ.seq ?_
  repeat' first
    | (refine J.isJ ?_; first | (first | (refine J.fc 72 ?_; refine J.call0 eCheck rfl rfl (fun w hw => cChk _ w (H.sel (l := [_, _, _, _, _, _, _]) (M := L) hw [3, 4, 5, 6, 0, 1, 2]) hrl.tl.tl.tl) ?_) ) | (first | (refine J.o 0 ?_; refine J.ev' hΓ ?_) | refine J.nil ?_ | refine J.kd ?_ | (refine J.o 4 ?_; first | refine J.lT default hΓ ?_ | refine J.lR hΓ ?_) | (refine J.o 3 ?_; first | refine J.iA hΓ ?_ | refine J.iJ hΓ ?_ | refine J.fP hΓ ?_ | refine J.iC hΓ ?_ | refine J.ev' hΓ ?_) | (refine J.o 1 ?_; first | refine J.ad ?_ | refine J.sb ?_ | refine J.ng ?_ | refine J.mu ?_) | (refine J.o 5 ?_; first | refine J.t0 hΓ ?_ | refine J.t1 hΓ ?_ | refine J.t2 hΓ ?_ | refine J.tT _ default hΓ (fun _ _ => ?_) | refine J.tT1 _ default hΓ (fun _ _ => ?_) | refine J.tT2 _ default hΓ (fun _ _ => ?_)) | (refine J.o 6 ?_; refine J.bx (fun _ => ?_)) | (refine J.o 7 ?_; refine J.al hΓ (fun _ => ?_)) | (refine J.o 8 ?_; refine J.bd hΓ ?_) | (refine J.o 9 ?_; refine J.bl hΓ (fun _ => ?_)) | (refine J.o 10 ?_; refine J.ev' hΓ ?_) | (refine J.o 11 ?_; refine J.ev' hΓ ?_) | (refine J.o 14 ?_; refine J.mf hΓ ?_) | refine J.kn ?_) | ((fail_if_success refine J.wt ?_); refine J.gc rfl rfl (fun hc => ?_) (fun hc => ?_) <;> ((try simp only [decide_eq_true_eq, decide_eq_false_iff_not, beq_iff_eq, beq_eq_false_iff_ne, bne_iff_ne, bne_eq_false_iff_eq, Bool.not_eq_true', Bool.not_eq_false', Bool.not_eq_true, Bool.not_eq_false] at hc) <;> first | (first | (exact absurd rfl hc) | (exfalso; omega) | (exact absurd (hc.symm.trans (by assumption : _ = false)) (by decide)) | (exact absurd (hc.symm.trans (by assumption : _ = true)) (by decide))) | skip)))
    | (first | refine JC.seq ?_ | refine JC.region ?_ | refine JC.block ?_ | refine JC.ret ?_ | refine JC.exit ?_ | refine JC.skip ?_ | refine thenK.nn ?_ | refine thenK.r ?_ | refine thenK.x ?_ | refine blockK.nn ?_ | refine blockK.r ?_ | refine blockK.hit rfl ?_ | refine blockK.miss rfl ?_ | refine JC.condT rfl ?_ | refine JC.condF rfl ?_ | (refine JC.cond rfl (fun hc => ?_) (fun hc => ?_) <;> ((try simp only [decide_eq_true_eq, decide_eq_false_iff_not, beq_iff_eq, beq_eq_false_iff_ne, bne_iff_ne, bne_eq_false_iff_eq, Bool.not_eq_true', Bool.not_eq_false', Bool.not_eq_true, Bool.not_eq_false] at hc) <;> first | (first | (exact absurd rfl hc) | (exfalso; omega) | (exact absurd (hc.symm.trans (by assumption : _ = false)) (by decide)) | (exact absurd (hc.symm.trans (by assumption : _ = true)) (by decide))) | skip)) | (refine JC.drawA [] (by kernel_rfl) (by kernel_rfl) ?_) | refine drawK.nn ?_ | refine roundK.nn ?_ | refine roundK.r ?_ | refine roundK.x ?_ | refine loopK.r ?_ | refine loopK.x ?_)
    | (fail)
    | fail
  all_goals first | (exfalso; omega) | skip
  refine qK.nn ?_
  unfold stO
  refine JQ.seq ?_
  repeat' first
    | (refine J.isJ ?_; first | (first | (refine J.o 7 ?_; refine J.al hΓ (fun b9 => ?_)) | (refine J.o 4 ?_; first | refine J.e3 hΓ ?_ | refine J.e4 hΓ ?_)) | (first | (refine J.o 0 ?_; refine J.ev' hΓ ?_) | refine J.nil ?_ | refine J.kd ?_ | (refine J.o 4 ?_; first | refine J.lT default hΓ ?_ | refine J.lR hΓ ?_) | (refine J.o 3 ?_; first | refine J.iA hΓ ?_ | refine J.iJ hΓ ?_ | refine J.fP hΓ ?_ | refine J.iC hΓ ?_ | refine J.ev' hΓ ?_) | (refine J.o 1 ?_; first | refine J.ad ?_ | refine J.sb ?_ | refine J.ng ?_ | refine J.mu ?_) | (refine J.o 5 ?_; first | refine J.t0 hΓ ?_ | refine J.t1 hΓ ?_ | refine J.t2 hΓ ?_ | refine J.tT _ default hΓ (fun _ _ => ?_) | refine J.tT1 _ default hΓ (fun _ _ => ?_) | refine J.tT2 _ default hΓ (fun _ _ => ?_)) | (refine J.o 6 ?_; refine J.bx (fun _ => ?_)) | (refine J.o 7 ?_; refine J.al hΓ (fun _ => ?_)) | (refine J.o 8 ?_; refine J.bd hΓ ?_) | (refine J.o 9 ?_; refine J.bl hΓ (fun _ => ?_)) | (refine J.o 10 ?_; refine J.ev' hΓ ?_) | (refine J.o 11 ?_; refine J.ev' hΓ ?_) | (refine J.o 14 ?_; refine J.mf hΓ ?_) | refine J.kn ?_) | ((fail_if_success refine J.wt ?_); refine J.gc rfl rfl (fun hc => ?_) (fun hc => ?_) <;> ((try simp only [decide_eq_true_eq, decide_eq_false_iff_not, beq_iff_eq, beq_eq_false_iff_ne, bne_iff_ne, bne_eq_false_iff_eq, Bool.not_eq_true', Bool.not_eq_false', Bool.not_eq_true, Bool.not_eq_false] at hc) <;> first | (first | (exact absurd rfl hc) | (exfalso; omega) | (exact absurd (hc.symm.trans (by assumption : _ = false)) (by decide)) | (exact absurd (hc.symm.trans (by assumption : _ = true)) (by decide))) | skip)))
    | (first | refine JC.seq ?_ | refine JC.region ?_ | refine JC.block ?_ | refine JC.ret ?_ | refine JC.exit ?_ | refine JC.skip ?_ | refine thenK.nn ?_ | refine thenK.r ?_ | refine thenK.x ?_ | refine blockK.nn ?_ | refine blockK.r ?_ | refine blockK.hit rfl ?_ | refine blockK.miss rfl ?_ | refine JC.condT rfl ?_ | refine JC.condF rfl ?_ | (refine JC.cond rfl (fun hc => ?_) (fun hc => ?_) <;> ((try simp only [decide_eq_true_eq, decide_eq_false_iff_not, beq_iff_eq, beq_eq_false_iff_ne, bne_iff_ne, bne_eq_false_iff_eq, Bool.not_eq_true', Bool.not_eq_false', Bool.not_eq_true, Bool.not_eq_false] at hc) <;> first | (first | (exact absurd rfl hc) | (exfalso; omega) | (exact absurd (hc.symm.trans (by assumption : _ = false)) (by decide)) | (exact absurd (hc.symm.trans (by assumption : _ = true)) (by decide))) | skip)) | (refine JC.drawA [] (by kernel_rfl) (by kernel_rfl) ?_) | refine drawK.nn ?_ | refine roundK.nn ?_ | refine roundK.r ?_ | refine roundK.x ?_ | refine loopK.r ?_ | refine loopK.x ?_)
    | (fail)
    | fail
  refine qK.nn ?_
  intro a1 w1 ha1 hw1
  refine wp_seq (wp_region_lit ?_)
  refine dl_step (RepD.of ha1) rfl (v := .func (.func 129) ⟨[]⟩ ⟨[.pointer (some ⟨b3, 0, none⟩), .pointer (some ⟨b9, 0, none⟩), .pointer (some ⟨b5, 0, none⟩), (.pointer (some ⟨b6, 0, none⟩))]⟩) (mf_run hΓ rfl w1) fun a2 hd2 => ?_
  refine dl_defer hd2 rfl (defer_run rfl w1) fun a3 hd3 => ?_
  unfold wpList
  refine wp_seq (wp_region_lit ?_)
  refine dl_step hd3 rfl (v := .func (.func fid) ⟨[]⟩ ⟨caps⟩) (pure_ok hΓ rfl w1) fun a4 hd4 => ?_
  refine dl_call (args := ⟨caps⟩) (Φ := fun v L' => ∃ s' y, v = .int .i64 ((y : Nat) : Int) ∧ L' = sF K b s' ++ ([(b9, Obj.cells ⟨[.int .i64 (s.ns.length : Int)]⟩ 3 (0, 0))] :: [(b6, Obj.cells ⟨[.int .i64 0]⟩ 25 (0, 0))] :: [(b5, Obj.cells ⟨[.int .i64 0]⟩ 3 (0, 0))] :: [(b3, ptrS b)] :: L) ∧ Q s' y) hd4 rfl (callv_run (vs := []) (cp := caps) he rfl rfl w1) (hf ([(b9, _)] :: [(b6, _)] :: [(b5, _)] :: [(b3, _)] :: []) w1 (H.sel (l := [_, _, _, _, _, _, _, _]) (M := L) hw1 [4, 5, 6, 7, 0, 1, 2, 3])) ?_
  rintro _ _ a5 w2 ⟨s', y, rfl, rfl, hq⟩ hw2 hd5
  unfold sF ptrS at hw2
  simp only [List.cons_append, List.nil_append] at hw2
  refine dl_st hΓ hd5 rfl rfl rfl rfl rfl rfl rfl (H.sel (l := [_, _, _, _, _, _, _, _]) (M := L) hw2 [6, 0, 1, 2, 3, 4, 5, 7]) fun a6 w3 hd6 hw3 => ?_
  refine dl_st hΓ hd6 rfl rfl rfl rfl rfl rfl rfl (H.sel (l := [_, _, _, _, _, _, _, _]) (M := L) hw3 [6, 0, 1, 2, 3, 4, 5, 7]) fun a7 w4 hd7 hw4 => ?_
  unfold wpList
  refine wp_ret ?_
  show Leaves _ _ _ _ a7.defers _ _
  rw [hd7.2]
  refine leaves_cons (f := 129) (args := #[.pointer (some ⟨b3, 0, none⟩), .pointer (some ⟨b9, 0, none⟩), .pointer (some ⟨b5, 0, none⟩), .pointer (some ⟨b6, 0, none⟩)]) (by simp) (by simp [go_sem]) ?_
  refine (tryC_idle _ _ _ _ _).mono ?_
  rintro e u' w5 ⟨rfl, rfl, rfl⟩
  refine ⟨_, resCC hΓ rfl hd7 hw4 rfl rfl rfl rfl Rd.hd.tl Rd.hd rfl rfl, ?_⟩
  exact ⟨_, _, rfl, H.sel (l := [_, _, _, _, _, _, _, _]) (M := L) hw4 [2, 3, 4, 5], s', y, rfl, rfl, hq⟩
end Go.Proofs.Ythnhijdfcmcnhaa
