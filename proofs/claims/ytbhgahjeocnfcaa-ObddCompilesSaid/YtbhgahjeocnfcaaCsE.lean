/- ObddCompiles: part 5. -/
import Derived.Test.YtbhgahjeocnfcaaCsD
import Derived.Shelf.Strings.Builder1
import Derived.Shelf.Small.Bits
import Derived.Shelf.Small.Wraps
import Derived.Shelf.Strings.BuilderF
import Derived.Shelf.Strings.BuilderK
import Derived.Shelf.Strconv.Itoa0
import Derived.Shelf.Sort.Plain
import Derived.Shelf.Strings.BuilderCap
import Derived.Shelf.Slices.Reverse
import Derived.Ground.Names2Prog
import Derived.Shelf.Slices.Clone
import Derived.Shelf.Slices.SearchI
import Derived.Shelf.Slices.Cells
import Derived.Shelf.Slices.In.SortNone
import Derived.Ground.SlgnProg
import Derived.Shelf.SlicesE.Clone
import Derived.Test.YtbhgahjeocnfcaaProg
import Derived.Shelf.SortM.Plain
import Derived.Lib.AppendIntMem
namespace Go.Proofs.Ytbhgahjeocnfcaa
open Go Go.Cx Go.RowKit
set_option linter.unusedVariables false
set_option linter.unusedSimpArgs false
set_option maxHeartbeats 4000000
attribute [local irreducible] J JC thenK blockK loopK drawK retK QW Qt pel List.set Calls
open Go.Maps
set_option maxRecDepth 8000
attribute [local irreducible] JE Br eK0 eK3 brK
def JQ (P : Program) (n : Nat) (w0 : World) (R : Heap) (c : Code) (Q : Exit → Act → World → Prop) (f : Fr) (L : List Heap) : Prop := ∀ a w, Rep n f a → H w0 R L w → c.wp P Q a w
def qK (P : Program) (n : Nat) (w0 : World) (R : Heap) (y : Code) (Q : Exit → Act → World → Prop) : Exit → Fr → List Heap → Prop
  | .normal, f, L => JQ P n w0 R y Q f L
  | _, _, _ => False
section
variable {P : Program} {n : Nat} {w0 : World} {R : Heap} {f : Fr} {L : List Heap} {x y : Code} {Q : Exit → Act → World → Prop} {Γ : List (Nat × TI)}
theorem qK.nn (h : JQ P n w0 R y Q f L) : qK P n w0 R y Q .normal f L := h
theorem JQ.seq (h : JC P n w0 R x (qK P n w0 R y Q) f L) : JQ P n w0 R (.seq x y) Q f L := fun a w ha hw => by
  unfold JC at h
  refine wp_seq (wp_mono (h a w ha hw) ?_)
  intro e a' w' q
  unfold QW at q
  cases e <;> first | (obtain ⟨f', L', ha', hw', hk⟩ := q; first | exact hk a' w' ha' hw' | exact hk.elim) | exact q.elim
theorem calls_JQ {fid : FuncId} {fn : Func} {c : Code} {n : Nat} {args : List Value} {w w0 : World} {R : Heap} {L : List Heap} {Post : Ending → World → Prop}
    (hf : P.funcs[fid]? = some fn) (hn : fn.ntmps = n) (hb : fn.body = some c) (hsz : Nat.ble args.length n = true) (hH : H w0 R L w) (h : JQ P n w0 R c (bodyPostD P fn Post) (fr0 args) L) : Calls P fid args.toArray w Post := by
  refine calls_of_wp_defers hf hb ?_
  rw [hn]
  exact h _ w (fr0_rep (Nat.le_of_ble_eq_true hsz)) hH
def RepD (D : List Deferred) (n : Nat) (f : Fr) (a : Act) : Prop := Rep n f { a with defers := [] } ∧ a.defers = D
theorem RepD.of {a : Act} (h : Rep n f a) : RepD [] n f a := ⟨⟨h.1, rfl, h.2.2⟩, h.2.1⟩
theorem RepD.eval {D : List Deferred} {a : Act} (h : RepD D n f a) : a.eval = Cx.ev n f := by
  rw [← h.1.eval]
  funext o; cases o <;> rfl
theorem RepD.put {D : List Deferred} {a : Act} (h : RepD D n f a) (d : Option Tmp) (v : Value) : RepD D n (updO f d v) (a.put d v) := by
  have h1 := h.1.put d v
  cases d with
  | none => exact ⟨h1, h.2⟩
  | some d => exact ⟨h1, h.2⟩
theorem RepD.wanted {D : List Deferred} {a : Act} (h : RepD D n f a) (l : List Oper) (o : Oper) : Region.wanted o (yielded l.toArray a.tmps) = wantB n f l o := h.1.wanted l o
theorem dl_step {D : List Deferred} {ops : List Oper} {l : List Oper} {o : Oper} {a : Act} {w w' : World} {v : Value} (ha : RepD D n f a) (hg : wantB n f ops o = true) (hr : (execOp (Cx.ev n f) o).run P w = .ok (.value v) w')
    (k : ∀ a', RepD D n (updO f o.dst v) a' → wpList P ops.toArray Q l a' w') : wpList P ops.toArray Q (o :: l) a w := by
  unfold wpList
  rw [if_pos (by rw [ha.wanted, hg])]
  refine .inl ?_
  unfold Oper.wp
  rw [ha.eval, hr]
  exact k _ (ha.put _ _)
theorem dl_call {D : List Deferred} {ops : List Oper} {l : List Oper} {o : Oper} {a : Act} {w : World} {fid : FuncId} {args : Array Value} {Φ : Value → List Heap → Prop} (ha : RepD D n f a) (hg : wantB n f ops o = true) (hr : (execOp (Cx.ev n f) o).run P w = .ok (.enter fid args) w)
    (hc : Calls P fid args w fun e w' => ∃ v L', e = .returned v ∧ H w0 R L' w' ∧ Φ v L') (k : ∀ v L' a' w', Φ v L' → H w0 R L' w' → RepD D n (updO f o.dst v) a' → wpList P ops.toArray Q l a' w') : wpList P ops.toArray Q (o :: l) a w := by
  unfold wpList
  rw [if_pos (by rw [ha.wanted, hg])]
  refine .inl ?_
  unfold Oper.wp
  rw [ha.eval, hr]
  refine hc.mono ?_
  rintro e w' ⟨v, L', rfl, hw', hP⟩
  exact k v L' _ w' hP hw' (ha.put _ _)
theorem dl_defer {D : List Deferred} {ops : List Oper} {l : List Oper} {o : Oper} {a : Act} {w : World} {d : Deferred} (ha : RepD D n f a) (hg : wantB n f ops o = true) (hr : (execOp (Cx.ev n f) o).run P w = .ok (.defer d) w)
    (k : ∀ a', RepD (d :: D) n (updO f o.dst undef) a' → wpList P ops.toArray Q l a' w) : wpList P ops.toArray Q (o :: l) a w := by
  unfold wpList
  rw [if_pos (by rw [ha.wanted, hg])]
  refine .inl ?_
  unfold Oper.wp
  rw [ha.eval, hr]
  refine k _ (RepD.put ⟨h_def ha, by rw [ha.2]⟩ _ _)
where h_def {D : List Deferred} {a : Act} {d : Deferred} (ha : RepD D n f a) : Rep n f { ({ a with defers := d :: a.defers } : Act) with defers := [] } := ha.1
theorem dl_st {D : List Deferred} {ops : List Oper} {l : List Oper} {a : Act} {w : World} {t : TypeId} {ti : TI} {x y : Operand} {b off : Nat} {cs cl cs' : List Value} {e : TypeId} {ty : TypeId} {pos : String} {aft : Array Edge} {g : Option (Nat × Bool)} (hΓ : Fits P Γ) (ha : RepD D n f a) (hg : wantB n f ops ⟨none, .store t x y, ty, pos, aft, g⟩ = true)
    (hp : Cx.ev n f x = .pointer (some ⟨b, off, none⟩)) (ht : Cx.look Γ t = some ti) (hv : vcells (Cx.ev n f y) = some cl) (hn : Nat.beq cl.length ti.size = true) (h1 : ones cl = true) (hcs : putE cs off cl = some cs') (hw : H w0 R ([(b, .cells ⟨cs⟩ e (0, 0))] :: L) w)
    (k : ∀ a' w', RepD D n f a' → H w0 R ([(b, .cells ⟨cs'⟩ e (0, 0))] :: L) w' → wpList P ops.toArray Q l a' w') : wpList P ops.toArray Q (⟨none, .store t x y, ty, pos, aft, g⟩ :: l) a w := by
  unfold putE at hcs
  cases hle : Nat.ble (off + cl.length) cs.length with
  | false => rw [hle] at hcs; cases hcs
  | true =>
    rw [hle] at hcs
    simp only [cond_true, forceL_eq, Option.some.injEq] at hcs
    obtain ⟨w', hr, hw'⟩ := store_ok hΓ ht hv hn h1 (Nat.le_of_ble_eq_true hle) hcs hw
    have hx : (execOp (Cx.ev n f) ⟨none, .store t x y, ty, pos, aft, g⟩).run P w = .ok .skip w' := by simp only [execOp, hp, Sem.run_bind]; rw [hr]; rfl
    unfold wpList
    rw [if_pos (by rw [ha.wanted, hg])]
    refine .inl ?_
    unfold Oper.wp
    rw [ha.eval, hx]
    exact k _ _ (ha.put none undef) hw'
theorem resCC {fn : Func} {t u ty uy b c : Nat} {cs ds : List Value} {e e2 : TypeId} {fr fr2 : Nat × Nat} {v x : Value} {D : List Deferred} {a : Act} {w : World} (hΓ : Fits P Γ) (hr : fn.results = #[.cell t ty, .cell u uy]) (ha : RepD D n f a) (hw : H w0 R L w) (ht : Nat.blt t n = true) (hu : Nat.blt u n = true) (hv : f t = .pointer (some ⟨b, 0, none⟩)) (hx : f u = .pointer (some ⟨c, 0, none⟩))
    (hb : Rd R L b (.cells ⟨cs⟩ e fr)) (hc : Rd R L c (.cells ⟨ds⟩ e2 fr2)) (hl : ldEv Γ ty cs 0 = some v) (hm : ldEv Γ uy ds 0 = some x) : (results fn a.tmps).run P w = .ok (.tuple #[v, x]) w := by
  have h1 := ldEv_ok (P := P) hΓ (hw.rd hb) hl
  have g1 := ldEv_ok (P := P) hΓ (hw.rd hc) hm
  unfold Instr.loadAt Instr.sureAddr at h1 g1
  simp only [Sem.run_bind, Sem.run_pure, Result.andThen_ok] at h1 g1
  have h2 := ha.1.getD ht
  rw [hv] at h2
  have h3 : a.tmps[t]?.getD undef = .pointer (some ⟨b, 0, none⟩) := by rw [← h2]; simp [Array.getD_eq_getD_getElem?]
  have h4 := ha.1.getD hu
  rw [hx] at h4
  have h5 : a.tmps[u]?.getD undef = .pointer (some ⟨c, 0, none⟩) := by rw [← h4]; simp [Array.getD_eq_getD_getElem?]
  simp only [results, hr]
  simp [h3, h5, asAddr, Sem.run_bind]
  rw [h1]
  simp only [Result.andThen_ok]
  rw [g1]
  rfl
theorem defer_run {x : Operand} {fv : Fn} {cp : List Value} {ty : TypeId} {pos : String} {aft : Array Edge} {g : Option (Nat × Bool)} (hx : Cx.ev n f x = .func fv ⟨[]⟩ ⟨cp⟩) (w : World) :
    (execOp (Cx.ev n f) ⟨none, .defer ⟨.value x, ⟨[]⟩, ⟨[]⟩⟩, ty, pos, aft, g⟩).run P w = .ok (.defer ⟨.fn fv ⟨cp⟩, ⟨[]⟩⟩) w := by
  have h1 : (⟨[]⟩ : Array Operand).map (Cx.ev n f) = ⟨[]⟩ := by simp
  simp only [execOp, resolve, h1, hx, Deferred.ofValue, Sem.run_bind, Sem.run_pure, Result.andThen_ok]
  rfl
theorem mf_run {fn : Fn} {cs : List Operand} {vs : List Value} {d : Nat} {ty : TypeId} {pos : String} {aft : Array Edge} {g : Option (Nat × Bool)} (hΓ : Fits P Γ) (hv : cs.map (Cx.ev n f) = vs) (w : World) :
    (execOp (Cx.ev n f) ⟨some d, .makeFunc fn ⟨[]⟩ ⟨cs⟩, ty, pos, aft, g⟩).run P w = .ok (.value (.func fn ⟨[]⟩ ⟨vs⟩)) w := pure_ok hΓ (by subst hv; simp [pureEv]) w
end
theorem eTry : Entr Try.prog 56 := Entr.of Try.func56 rfl rfl
theorem tryC_idle (p1 p2 p3 p4 : Addr) (w : World) : CallsD Try.prog 115 #[.pointer (some p1), .pointer (some p2), .pointer (some p3), .pointer (some p4)] .returning w fun e u' w' => e = .returned (.tuple #[]) ∧ u' = .returning ∧ w' = w := by
  refine callsD_of_wpS Try.func115 rfl fun c₀ cs hu => ?_
  apply wpS_seq
  apply wpS_region
  simp [wpOpsS, go_sem, recoverD, hu, Try.ntmps115, Exit.thenS]
  apply wpS_seq
  apply wpS_region
  simp [wpOpsS, go_sem, Exit.thenS]
  refine wpS_cond (t := false) (by simp [Act.eval, Array.replicate]) ?_
  simp only [Bool.false_eq_true, if_false]
  refine wpS_of_wp (wp_skip ?_)
  cases c₀
  simp_all [bodyPostS, results, Try.results115]
theorem try_any {n : Nat} {K : KS} {s : SS} (so : SOk n K s) {Q : SS → Nat → Prop} {fid : FuncId} {caps : List Value} (he : Entr Try.prog fid) {w0 w : World} {R : Heap} {L : List Heap} {b : Nat} (l : List Int) (a : Option Addr) (c : Nat) (h : Heap) (hs : SlT encI 1 a l h) (hl : l.length ≤ 1000) (hrl : RdH R L h) (hin : chkP s.ns.length l = true)
    (hf : ∀ (Lx : List Heap) (w : World), H w0 R (sF K b s ++ (Lx ++ L)) w → Calls Try.prog fid ⟨caps⟩ w fun e w' => ∃ v L', e = .returned v ∧ H w0 R L' w' ∧ ∃ s' y, v = .int .i64 ((y : Nat) : Int) ∧ L' = sF K b s' ++ (Lx ++ L) ∧ Q s' y)
    (hw : H w0 R (sF K b s ++ L) w) :
    Calls Try.prog 56 #[.pointer (some ⟨b, 0, none⟩), .func (.func fid) ⟨[]⟩ ⟨caps⟩, .slice a l.length c] w fun e w' => ∃ v L', e = .returned v ∧ H w0 R L' w' ∧ ∃ s' y, v = .tuple #[.int .i64 ((y : Nat) : Int), .int .i64 0] ∧ L' = sF K b s' ++ L ∧ Q s' y := by
  have two := so.wf.two
  have cChk : ∀ L1 w, H w0 R (sF K b s ++ L1) w → RdH R L1 h → Calls Try.prog 64 #[.pointer (some ⟨b, 0, none⟩), .slice a l.length c] w fun e w' => e = .returned (.int .i64 0) ∧ Below w.heap.size w w' := fun L1 w hw hr => by
    have := check_any K b s.an s.cn s.ns.length two ((b, stO K s.an s.ns.length s.cn) :: h) List.mem_cons_self l a c (hs.sub fun y hy => List.mem_cons_of_mem _ hy) hl w (holds2 (hw.rd Rd.hd) (hw.rdH hr.tl.tl.tl.tl))
    rw [hin, if_pos rfl] at this
    exact this
  unfold sF at hw
  simp only [List.cons_append, List.nil_append] at hw
  refine calls_JQ Try.func56 Try.ntmps56 rfl rfl hw ?_
  refine JQ.seq ?_
  repeat' first
    | (refine J.isJ ?_; first | (first | (refine J.o 6 ?_; refine J.bx (fun b3 => ?_)) | (refine J.o 7 ?_; refine J.al hΓ (fun b6 => ?_))) | (first | (refine J.o 0 ?_; refine J.ev' hΓ ?_) | refine J.nil ?_ | (refine J.o 4 ?_; first | refine J.lR hΓ ?_) | (refine J.o 3 ?_; first | refine J.ev' hΓ ?_) | (refine J.o 5 ?_; first | refine J.t0 hΓ ?_) | (refine J.o 6 ?_; refine J.bx (fun _ => ?_)) | (refine J.o 7 ?_; refine J.al hΓ (fun _ => ?_)) | (refine J.o 10 ?_; refine J.ev' hΓ ?_) | (refine J.o 11 ?_; refine J.ev' hΓ ?_)))
    | (first | refine JC.seq ?_ | refine JC.region ?_ | refine JC.skip ?_ | refine thenK.nn ?_ | refine JC.condF rfl ?_)
    | (fail)
    | fail
  rename_i b5
  refine qK.nn ?_
  refine JQ.seq ?_
  repeat' first
    | (refine J.isJ ?_; first | (first | (refine J.fc 64 ?_; refine J.call0 eCheck rfl rfl (fun w hw => cChk _ w (H.sel (l := [_, _, _, _, _, _, _]) (M := L) hw [3, 4, 5, 6, 0, 1, 2]) hrl.tl.tl.tl) ?_)) | (first | (refine J.o 0 ?_; refine J.ev' hΓ ?_) | refine J.nil ?_ | (refine J.o 4 ?_; first | refine J.lR hΓ ?_) | (refine J.o 3 ?_; first | refine J.ev' hΓ ?_) | (refine J.o 5 ?_; first | refine J.t0 hΓ ?_) | (refine J.o 6 ?_; refine J.bx (fun _ => ?_)) | (refine J.o 7 ?_; refine J.al hΓ (fun _ => ?_)) | (refine J.o 10 ?_; refine J.ev' hΓ ?_) | (refine J.o 11 ?_; refine J.ev' hΓ ?_)))
    | (first | refine JC.seq ?_ | refine JC.region ?_ | refine JC.skip ?_ | refine thenK.nn ?_ | refine JC.condF rfl ?_)
    | (fail)
    | fail
  all_goals first | (exfalso; omega) | skip
  refine qK.nn ?_
  unfold stO
  refine JQ.seq ?_
  repeat' first
    | (refine J.isJ ?_; first | (first | (refine J.o 7 ?_; refine J.al hΓ (fun b9 => ?_)) | (refine J.o 4 ?_; first | refine J.e3 hΓ ?_)) | (first | (refine J.o 0 ?_; refine J.ev' hΓ ?_) | refine J.nil ?_ | (refine J.o 4 ?_; first | refine J.lR hΓ ?_) | (refine J.o 3 ?_; first | refine J.ev' hΓ ?_) | (refine J.o 5 ?_; first | refine J.t0 hΓ ?_) | (refine J.o 6 ?_; refine J.bx (fun _ => ?_)) | (refine J.o 7 ?_; refine J.al hΓ (fun _ => ?_)) | (refine J.o 10 ?_; refine J.ev' hΓ ?_) | (refine J.o 11 ?_; refine J.ev' hΓ ?_)))
    | (first | refine JC.seq ?_ | refine JC.region ?_ | refine JC.skip ?_ | refine thenK.nn ?_ | refine JC.condF rfl ?_)
    | (fail)
    | fail
  refine qK.nn ?_
  intro a1 w1 ha1 hw1
  refine wp_seq (wp_region_lit ?_)
  refine dl_step (RepD.of ha1) rfl (v := .func (.func 115) ⟨[]⟩ ⟨[.pointer (some ⟨b3, 0, none⟩), .pointer (some ⟨b9, 0, none⟩), .pointer (some ⟨b5, 0, none⟩), (.pointer (some ⟨b6, 0, none⟩))]⟩) (mf_run hΓ rfl w1) fun a2 hd2 => ?_
  refine dl_defer hd2 rfl (defer_run rfl w1) fun a3 hd3 => ?_
  unfold wpList
  refine wp_seq (wp_region_lit ?_)
  refine dl_step hd3 rfl (v := .func (.func fid) ⟨[]⟩ ⟨caps⟩) (pure_ok hΓ rfl w1) fun a4 hd4 => ?_
  refine dl_call (args := ⟨caps⟩) (Φ := fun v L' => ∃ s' y, v = .int .i64 ((y : Nat) : Int) ∧ L' = sF K b s' ++ ([(b9, Obj.cells ⟨[.int .i64 (s.ns.length : Int)]⟩ 3 (0, 0))] :: [(b6, Obj.cells ⟨[.int .i64 0]⟩ 31 (0, 0))] :: [(b5, Obj.cells ⟨[.int .i64 0]⟩ 3 (0, 0))] :: [(b3, ptrS b)] :: L) ∧ Q s' y) hd4 rfl (callv_run (vs := []) (cp := caps) he rfl rfl w1) (hf ([(b9, _)] :: [(b6, _)] :: [(b5, _)] :: [(b3, _)] :: []) w1 (H.sel (l := [_, _, _, _, _, _, _, _]) (M := L) hw1 [4, 5, 6, 7, 0, 1, 2, 3])) ?_
  rintro _ _ a5 w2 ⟨s', y, rfl, rfl, hq⟩ hw2 hd5
  unfold sF ptrS at hw2
  simp only [List.cons_append, List.nil_append] at hw2
  refine dl_st hΓ hd5 rfl rfl rfl rfl rfl rfl rfl (H.sel (l := [_, _, _, _, _, _, _, _]) (M := L) hw2 [6, 0, 1, 2, 3, 4, 5, 7]) fun a6 w3 hd6 hw3 => ?_
  refine dl_st hΓ hd6 rfl rfl rfl rfl rfl rfl rfl (H.sel (l := [_, _, _, _, _, _, _, _]) (M := L) hw3 [6, 0, 1, 2, 3, 4, 5, 7]) fun a7 w4 hd7 hw4 => ?_
  unfold wpList
  refine wp_ret ?_
  show Leaves _ _ _ _ a7.defers _ _
  rw [hd7.2]
  refine leaves_cons (f := 115) (args := #[.pointer (some ⟨b3, 0, none⟩), .pointer (some ⟨b9, 0, none⟩), .pointer (some ⟨b5, 0, none⟩), .pointer (some ⟨b6, 0, none⟩)]) (by simp) (by simp [go_sem]) ?_
  refine (tryC_idle _ _ _ _ _).mono ?_
  rintro e u' w5 ⟨rfl, rfl, rfl⟩
  refine ⟨_, resCC hΓ rfl hd7 hw4 rfl rfl rfl rfl Rd.hd.tl Rd.hd rfl rfl, ?_⟩
  exact ⟨_, _, rfl, H.sel (l := [_, _, _, _, _, _, _, _]) (M := L) hw4 [2, 3, 4, 5], s', y, rfl, rfl, hq⟩
end Go.Proofs.Ytbhgahjeocnfcaa
namespace Go.Proofs.Ytbhgahjeocnfcaa
open Go Go.Cx Go.RowKit
set_option linter.unusedVariables false
set_option linter.unusedSimpArgs false
set_option maxHeartbeats 4000000
attribute [local irreducible] J JC thenK blockK loopK drawK retK QW Qt pel List.set Calls
open Go.Maps
set_option maxRecDepth 8000
attribute [local irreducible] JE Br eK0 eK3 brK
def Res (n : Nat) (K : KS) (s s' : SS) (m y : Nat) (g : (Nat → Bool) → Bool) : Prop := Adds n K s s' m y ∧ ∀ α, fn n s'.ns y α = g α
def intO (a : Nat) : Obj := .cells ⟨[.int .i64 (a : Int)]⟩ 3 (0, 0)
theorem Rd.app {R : Heap} {L : List Heap} {g : Nat} {o : Obj} (M : List Heap) (h : Rd R L g o) : Rd R (M ++ L) g o := by
  induction M with
  | nil => exact h
  | cons x M ih => exact ih.tl
theorem slArg (b : Nat) (l : List Int) (t : TypeId) : SlT encI 1 (some ⟨b, 0, none⟩) l [(b, .cells ⟨l.flatMap encI⟩ t (0, 0))] :=
  have e : (l.flatMap encI).length = l.length := by
    induction l with
    | nil => rfl
    | cons x l ih => rw [List.flatMap_cons, List.length_append, ih, List.length_cons]; show 1 + _ = _; omega
  OwT.sl (e := t) (cap := l.length) ⟨fun _ => rfl, .inr ⟨b, _, rfl, rfl, by rw [e, Nat.mul_one], Nat.le_refl _, by rw [Nat.mul_one, List.take_of_length_le (by rw [e]; exact Nat.le_refl _)]⟩⟩
theorem chk_ok {m : Nat} {l : List Nat} (h : ∀ x ∈ l, x < m) : chkP m (l.map (fun x : Nat => (x : Int))) = true := by
  unfold chkP
  rw [List.all_map, List.all_eq_true]
  intro x hx
  have := h x hx
  show decide (0 ≤ ((x : Nat) : Int) ∧ ((x : Nat) : Int) < (m : Int)) = true
  exact decide_eq_true ⟨by omega, by omega⟩
theorem eNotC : Entr Try.prog 136 := Entr.of Try.func136 rfl rfl
theorem NotC_any {n : Nat} {K : KS} {s : SS} (so : SOk n K s) (a : Nat) (ha : a < s.ns.length) (hfull : s.ns.length + (2 ^ n - 1) ≤ 1048576) {w0 w : World} {R : Heap} {L : List Heap} {b0 c1 da : Nat} (r1 : Rd R L c1 (ptrS b0)) (ra : Rd R L da (intO a)) (hw : H w0 R (sF K b0 s ++ L) w) :
    Calls Try.prog 136 #[.pointer (some ⟨c1, 0, none⟩), .pointer (some ⟨da, 0, none⟩)] w fun e w' => ∃ v L', e = .returned v ∧ H w0 R L' w' ∧ ∃ s' y, v = .int .i64 ((y : Nat) : Int) ∧ L' = sF K b0 s' ++ L ∧ Res n K s s' (2 ^ n - 1) y (fun α => !(fn n s.ns a α)) := by
  have two := so.wf.two
  unfold ptrS at r1
  unfold sF at hw
  have ra2 := ra
  unfold intO at ra2
  simp only [List.cons_append, List.nil_append] at hw
  refine calls_in Try.func136 Try.ntmps136 rfl rfl (hw) ?_
  repeat' first
    | (refine J.isJ ?_; first | (first | (refine J.o 4 ?_; first | refine J.lR hΓ ?_ (hr := r1.tl.tl.tl.tl) | refine J.lR hΓ ?_ (hr := ra2.tl.tl.tl.tl)) | (refine J.fc 60 ?_; refine J.callx eCh rfl rfl (fun w hw => choose_any so ⟨a, 0, 1⟩ ⟨ha, (show 0 < s.ns.length by omega), (show 1 < s.ns.length by omega)⟩ hfull hw) ?_; rintro _ _ ⟨s1, y1, rfl, rfl, ad1, it1⟩)) | (first | (refine J.o 0 ?_; refine J.ev' hΓ ?_) | refine J.nil ?_ | (refine J.o 4 ?_; first | refine J.lR hΓ ?_) | (refine J.o 3 ?_; first | refine J.ev' hΓ ?_) | (refine J.o 10 ?_; refine J.ev' hΓ ?_) | (refine J.o 11 ?_; refine J.ev' hΓ ?_)))
    | (first | refine JC.seq ?_ | refine JC.region ?_ | refine JC.ret ?_ | refine thenK.nn ?_)
    | (fail)
    | fail
  refine ret1f rfl rfl rfl (fun w1 hw => ⟨_, _, rfl, hw, s1, y1, rfl, rfl, ad1, fun α => ?_⟩)
  have he := it1.eq α
  have ga := fn_ext so.wf ad1.ext ha α
  have z0 := fn_0 ad1.ok.wf α
  have z1 := fn_1 ad1.ok.wf α
  dsimp only at he
  rw [he]
  simp only [ga, z0, z1]
  cases fn n s.ns a α <;> rfl
theorem Not_any {n : Nat} {K : KS} {s : SS} (so : SOk n K s) (a : Nat) (ha : a < s.ns.length) (hfull : s.ns.length + (2 ^ n - 1) ≤ 1048576) {w0 w : World} {R : Heap} {L : List Heap} {b0 : Nat} (hw : H w0 R (sF K b0 s ++ L) w) :
    Calls Try.prog 93 #[.pointer (some ⟨b0, 0, none⟩), .int .i64 (a : Int)] w fun e w' => ∃ v L', e = .returned v ∧ H w0 R L' w' ∧ ∃ s' y, v = .tuple #[.int .i64 ((y : Nat) : Int), .int .i64 0] ∧ L' = sF K b0 s' ++ L ∧ Res n K s s' (2 ^ n - 1) y (fun α => !(fn n s.ns a α)) := by
  unfold sF at hw
  simp only [List.cons_append, List.nil_append] at hw
  refine calls_in Try.func93 Try.ntmps93 rfl rfl (hw) ?_
  refine JC.seq ?_
  refine JC.region ?_
  refine J.isJ ?_
  refine J.o 6 ?_
  refine J.bx (fun c1 => ?_)
  refine J.isJ ?_
  refine J.o 6 ?_
  refine J.bx (fun da => ?_)
  repeat' first
    | (refine J.isJ ?_; first | (first | (refine J.o 14 ?_; refine J.mfV [.pointer (some ⟨c1, 0, none⟩), .pointer (some ⟨da, 0, none⟩)] hΓ ?_) | (refine J.o 4 ?_; first | refine J.lR hΓ ?_ (hr := Rd.hd) | refine J.lR hΓ ?_ (hr := Rd.hd.tl)) | (refine J.o 9 ?_; refine J.bl hΓ (fun ba => ?_)) | (refine J.fc 56 ?_; refine J.callx eTry rfl rfl (fun w hw => try_any so (Q := fun s' y => Res n K s s' (2 ^ n - 1) y (fun α => !(fn n s.ns a α))) eNotC [(a : Int)] (some ⟨ba, 0, none⟩) 1 _ (slArg ba [(a : Int)] 3) (by show 1 ≤ 1000; omega) (L := [(ba, Obj.cells ⟨[.int .i64 (a : Int)]⟩ 3 (0, 0))] :: [(da, intO a)] :: [(c1, ptrS b0)] :: L) (RdH.hd) (chk_ok (l := [a]) (by simp only [List.mem_cons, List.not_mem_nil, or_false, forall_eq_or_imp, forall_eq]; exact ha)) (fun Lx w hw => NotC_any so a ha hfull (Rd.app Lx Rd.hd.tl.tl) (Rd.app Lx Rd.hd.tl) hw) (H.sel (l := [_, _, _, _, _, _, _]) (M := L) hw [3, 4, 5, 6, 0, 1, 2])) ?_; rintro _ _ ⟨s1, y1, rfl, rfl, hq⟩)) | (first | (refine J.o 0 ?_; refine J.ev' hΓ ?_) | refine J.nil ?_ | (refine J.o 4 ?_; first | refine J.lR hΓ ?_) | (refine J.o 3 ?_; first | refine J.ev' hΓ ?_) | (refine J.o 6 ?_; refine J.bx (fun _ => ?_)) | (refine J.o 9 ?_; refine J.bl hΓ (fun _ => ?_)) | (refine J.o 10 ?_; refine J.ev' hΓ ?_) | (refine J.o 11 ?_; refine J.ev' hΓ ?_)))
    | (first | refine JC.seq ?_ | refine JC.region ?_ | refine JC.ret ?_ | refine thenK.nn ?_)
    | (fail)
    | fail
  refine ret2f rfl rfl rfl rfl rfl (fun w1 hw => ⟨_, _, rfl, H.sel (l := [_, _, _, _, _, _, _]) (M := L) hw [0, 1, 2, 3], s1, y1, rfl, rfl, hq⟩)
theorem eAndC : Entr Try.prog 72 := Entr.of Try.func72 rfl rfl
theorem eAnd : Entr Try.prog 28 := Entr.of Try.func28 rfl rfl
theorem AndC_any {n : Nat} {K : KS} {s : SS} (so : SOk n K s) (a : Nat) (ha : a < s.ns.length) (b : Nat) (hb : b < s.ns.length) (hfull : s.ns.length + (2 ^ n - 1) ≤ 1048576) {w0 w : World} {R : Heap} {L : List Heap} {b0 c1 da db : Nat} (r1 : Rd R L c1 (ptrS b0)) (ra : Rd R L da (intO a)) (rb : Rd R L db (intO b)) (hw : H w0 R (sF K b0 s ++ L) w) :
    Calls Try.prog 72 #[.pointer (some ⟨c1, 0, none⟩), .pointer (some ⟨da, 0, none⟩), .pointer (some ⟨db, 0, none⟩)] w fun e w' => ∃ v L', e = .returned v ∧ H w0 R L' w' ∧ ∃ s' y, v = .int .i64 ((y : Nat) : Int) ∧ L' = sF K b0 s' ++ L ∧ Res n K s s' (2 ^ n - 1) y (fun α => (fn n s.ns a α && fn n s.ns b α)) := by
  have two := so.wf.two
  unfold ptrS at r1
  unfold sF at hw
  have ra2 := ra
  unfold intO at ra2
  have rb2 := rb
  unfold intO at rb2
  simp only [List.cons_append, List.nil_append] at hw
  refine calls_in Try.func72 Try.ntmps72 rfl rfl (hw) ?_
  repeat' first
    | (refine J.isJ ?_; first | (first | (refine J.o 4 ?_; first | refine J.lR hΓ ?_ (hr := r1.tl.tl.tl.tl) | refine J.lR hΓ ?_ (hr := ra2.tl.tl.tl.tl) | refine J.lR hΓ ?_ (hr := rb2.tl.tl.tl.tl)) | (refine J.fc 60 ?_; refine J.callx eCh rfl rfl (fun w hw => choose_any so ⟨a, b, 0⟩ ⟨ha, hb, (show 0 < s.ns.length by omega)⟩ hfull hw) ?_; rintro _ _ ⟨s1, y1, rfl, rfl, ad1, it1⟩)) | (first | (refine J.o 0 ?_; refine J.ev' hΓ ?_) | refine J.nil ?_ | (refine J.o 4 ?_; first | refine J.lR hΓ ?_) | (refine J.o 3 ?_; first | refine J.ev' hΓ ?_) | (refine J.o 10 ?_; refine J.ev' hΓ ?_) | (refine J.o 11 ?_; refine J.ev' hΓ ?_)))
    | (first | refine JC.seq ?_ | refine JC.region ?_ | refine JC.ret ?_ | refine thenK.nn ?_)
    | (fail)
    | fail
  refine ret1f rfl rfl rfl (fun w1 hw => ⟨_, _, rfl, hw, s1, y1, rfl, rfl, ad1, fun α => ?_⟩)
  have he := it1.eq α
  have ga := fn_ext so.wf ad1.ext ha α
  have gb := fn_ext so.wf ad1.ext hb α
  have z0 := fn_0 ad1.ok.wf α
  have z1 := fn_1 ad1.ok.wf α
  dsimp only at he
  rw [he]
  simp only [ga, gb, z0, z1]
  cases fn n s.ns a α <;> cases fn n s.ns b α <;> rfl
theorem And_any {n : Nat} {K : KS} {s : SS} (so : SOk n K s) (a : Nat) (ha : a < s.ns.length) (b : Nat) (hb : b < s.ns.length) (hfull : s.ns.length + (2 ^ n - 1) ≤ 1048576) {w0 w : World} {R : Heap} {L : List Heap} {b0 : Nat} (hw : H w0 R (sF K b0 s ++ L) w) :
    Calls Try.prog 28 #[.pointer (some ⟨b0, 0, none⟩), .int .i64 (a : Int), .int .i64 (b : Int)] w fun e w' => ∃ v L', e = .returned v ∧ H w0 R L' w' ∧ ∃ s' y, v = .tuple #[.int .i64 ((y : Nat) : Int), .int .i64 0] ∧ L' = sF K b0 s' ++ L ∧ Res n K s s' (2 ^ n - 1) y (fun α => (fn n s.ns a α && fn n s.ns b α)) := by
  unfold sF at hw
  simp only [List.cons_append, List.nil_append] at hw
  refine calls_in Try.func28 Try.ntmps28 rfl rfl (hw) ?_
  refine JC.seq ?_
  refine JC.region ?_
  refine J.isJ ?_
  refine J.o 6 ?_
  refine J.bx (fun c1 => ?_)
  refine J.isJ ?_
  refine J.o 6 ?_
  refine J.bx (fun da => ?_)
  refine J.isJ ?_
  refine J.o 6 ?_
  refine J.bx (fun db => ?_)
  repeat' first
    | (refine J.isJ ?_; first | (first | (refine J.o 14 ?_; refine J.mfV [.pointer (some ⟨c1, 0, none⟩), .pointer (some ⟨da, 0, none⟩), .pointer (some ⟨db, 0, none⟩)] hΓ ?_) | (refine J.o 4 ?_; first | refine J.lR hΓ ?_ (hr := Rd.hd) | refine J.lR hΓ ?_ (hr := Rd.hd.tl) | refine J.lR hΓ ?_ (hr := Rd.hd.tl.tl)) | (refine J.o 9 ?_; refine J.bl hΓ (fun ba => ?_)) | (refine J.fc 56 ?_; refine J.callx eTry rfl rfl (fun w hw => try_any so (Q := fun s' y => Res n K s s' (2 ^ n - 1) y (fun α => (fn n s.ns a α && fn n s.ns b α))) eAndC [(a : Int), (b : Int)] (some ⟨ba, 0, none⟩) 2 _ (slArg ba [(a : Int), (b : Int)] 3) (by show 2 ≤ 1000; omega) (L := [(ba, Obj.cells ⟨[.int .i64 (a : Int), .int .i64 (b : Int)]⟩ 3 (0, 0))] :: [(db, intO b)] :: [(da, intO a)] :: [(c1, ptrS b0)] :: L) (RdH.hd) (chk_ok (l := [a, b]) (by simp only [List.mem_cons, List.not_mem_nil, or_false, forall_eq_or_imp, forall_eq]; exact ⟨ha, hb⟩)) (fun Lx w hw => AndC_any so a ha b hb hfull (Rd.app Lx Rd.hd.tl.tl.tl) (Rd.app Lx Rd.hd.tl.tl) (Rd.app Lx Rd.hd.tl) hw) (H.sel (l := [_, _, _, _, _, _, _, _]) (M := L) hw [4, 5, 6, 7, 0, 1, 2, 3])) ?_; rintro _ _ ⟨s1, y1, rfl, rfl, hq⟩)) | (first | (refine J.o 0 ?_; refine J.ev' hΓ ?_) | refine J.nil ?_ | (refine J.o 4 ?_; first | refine J.lR hΓ ?_) | (refine J.o 3 ?_; first | refine J.ev' hΓ ?_) | (refine J.o 6 ?_; refine J.bx (fun _ => ?_)) | (refine J.o 9 ?_; refine J.bl hΓ (fun _ => ?_)) | (refine J.o 10 ?_; refine J.ev' hΓ ?_) | (refine J.o 11 ?_; refine J.ev' hΓ ?_)))
    | (first | refine JC.seq ?_ | refine JC.region ?_ | refine JC.ret ?_ | refine thenK.nn ?_)
    | (fail)
    | fail
  refine ret2f rfl rfl rfl rfl rfl (fun w1 hw => ⟨_, _, rfl, H.sel (l := [_, _, _, _, _, _, _, _]) (M := L) hw [0, 1, 2, 3], s1, y1, rfl, rfl, hq⟩)
theorem eOrC : Entr Try.prog 137 := Entr.of Try.func137 rfl rfl
theorem eOr : Entr Try.prog 94 := Entr.of Try.func94 rfl rfl
theorem OrC_any {n : Nat} {K : KS} {s : SS} (so : SOk n K s) (a : Nat) (ha : a < s.ns.length) (b : Nat) (hb : b < s.ns.length) (hfull : s.ns.length + (2 ^ n - 1) ≤ 1048576) {w0 w : World} {R : Heap} {L : List Heap} {b0 c1 da db : Nat} (r1 : Rd R L c1 (ptrS b0)) (ra : Rd R L da (intO a)) (rb : Rd R L db (intO b)) (hw : H w0 R (sF K b0 s ++ L) w) :
    Calls Try.prog 137 #[.pointer (some ⟨c1, 0, none⟩), .pointer (some ⟨da, 0, none⟩), .pointer (some ⟨db, 0, none⟩)] w fun e w' => ∃ v L', e = .returned v ∧ H w0 R L' w' ∧ ∃ s' y, v = .int .i64 ((y : Nat) : Int) ∧ L' = sF K b0 s' ++ L ∧ Res n K s s' (2 ^ n - 1) y (fun α => (Bool.or (fn n s.ns a α) (fn n s.ns b α))) := by
  have two := so.wf.two
  unfold ptrS at r1
  unfold sF at hw
  have ra2 := ra
  unfold intO at ra2
  have rb2 := rb
  unfold intO at rb2
  simp only [List.cons_append, List.nil_append] at hw
  refine calls_in Try.func137 Try.ntmps137 rfl rfl (hw) ?_
  repeat' first
    | (refine J.isJ ?_; first | (first | (refine J.o 4 ?_; first | refine J.lR hΓ ?_ (hr := r1.tl.tl.tl.tl) | refine J.lR hΓ ?_ (hr := ra2.tl.tl.tl.tl) | refine J.lR hΓ ?_ (hr := rb2.tl.tl.tl.tl)) | (refine J.fc 60 ?_; refine J.callx eCh rfl rfl (fun w hw => choose_any so ⟨a, 1, b⟩ ⟨ha, (show 1 < s.ns.length by omega), hb⟩ hfull hw) ?_; rintro _ _ ⟨s1, y1, rfl, rfl, ad1, it1⟩)) | (first | (refine J.o 0 ?_; refine J.ev' hΓ ?_) | refine J.nil ?_ | (refine J.o 4 ?_; first | refine J.lR hΓ ?_) | (refine J.o 3 ?_; first | refine J.ev' hΓ ?_) | (refine J.o 10 ?_; refine J.ev' hΓ ?_) | (refine J.o 11 ?_; refine J.ev' hΓ ?_)))
    | (first | refine JC.seq ?_ | refine JC.region ?_ | refine JC.ret ?_ | refine thenK.nn ?_)
    | (fail)
    | fail
  refine ret1f rfl rfl rfl (fun w1 hw => ⟨_, _, rfl, hw, s1, y1, rfl, rfl, ad1, fun α => ?_⟩)
  have he := it1.eq α
  have ga := fn_ext so.wf ad1.ext ha α
  have gb := fn_ext so.wf ad1.ext hb α
  have z0 := fn_0 ad1.ok.wf α
  have z1 := fn_1 ad1.ok.wf α
  dsimp only at he
  rw [he]
  simp only [ga, gb, z0, z1]
  cases fn n s.ns a α <;> cases fn n s.ns b α <;> rfl
theorem Or_any {n : Nat} {K : KS} {s : SS} (so : SOk n K s) (a : Nat) (ha : a < s.ns.length) (b : Nat) (hb : b < s.ns.length) (hfull : s.ns.length + (2 ^ n - 1) ≤ 1048576) {w0 w : World} {R : Heap} {L : List Heap} {b0 : Nat} (hw : H w0 R (sF K b0 s ++ L) w) :
    Calls Try.prog 94 #[.pointer (some ⟨b0, 0, none⟩), .int .i64 (a : Int), .int .i64 (b : Int)] w fun e w' => ∃ v L', e = .returned v ∧ H w0 R L' w' ∧ ∃ s' y, v = .tuple #[.int .i64 ((y : Nat) : Int), .int .i64 0] ∧ L' = sF K b0 s' ++ L ∧ Res n K s s' (2 ^ n - 1) y (fun α => (Bool.or (fn n s.ns a α) (fn n s.ns b α))) := by
  unfold sF at hw
  simp only [List.cons_append, List.nil_append] at hw
  refine calls_in Try.func94 Try.ntmps94 rfl rfl (hw) ?_
  refine JC.seq ?_
  refine JC.region ?_
  refine J.isJ ?_
  refine J.o 6 ?_
  refine J.bx (fun c1 => ?_)
  refine J.isJ ?_
  refine J.o 6 ?_
  refine J.bx (fun da => ?_)
  refine J.isJ ?_
  refine J.o 6 ?_
  refine J.bx (fun db => ?_)
  repeat' first
    | (refine J.isJ ?_; first | (first | (refine J.o 14 ?_; refine J.mfV [.pointer (some ⟨c1, 0, none⟩), .pointer (some ⟨da, 0, none⟩), .pointer (some ⟨db, 0, none⟩)] hΓ ?_) | (refine J.o 4 ?_; first | refine J.lR hΓ ?_ (hr := Rd.hd) | refine J.lR hΓ ?_ (hr := Rd.hd.tl) | refine J.lR hΓ ?_ (hr := Rd.hd.tl.tl)) | (refine J.o 9 ?_; refine J.bl hΓ (fun ba => ?_)) | (refine J.fc 56 ?_; refine J.callx eTry rfl rfl (fun w hw => try_any so (Q := fun s' y => Res n K s s' (2 ^ n - 1) y (fun α => (Bool.or (fn n s.ns a α) (fn n s.ns b α)))) eOrC [(a : Int), (b : Int)] (some ⟨ba, 0, none⟩) 2 _ (slArg ba [(a : Int), (b : Int)] 3) (by show 2 ≤ 1000; omega) (L := [(ba, Obj.cells ⟨[.int .i64 (a : Int), .int .i64 (b : Int)]⟩ 3 (0, 0))] :: [(db, intO b)] :: [(da, intO a)] :: [(c1, ptrS b0)] :: L) (RdH.hd) (chk_ok (l := [a, b]) (by simp only [List.mem_cons, List.not_mem_nil, or_false, forall_eq_or_imp, forall_eq]; exact ⟨ha, hb⟩)) (fun Lx w hw => OrC_any so a ha b hb hfull (Rd.app Lx Rd.hd.tl.tl.tl) (Rd.app Lx Rd.hd.tl.tl) (Rd.app Lx Rd.hd.tl) hw) (H.sel (l := [_, _, _, _, _, _, _, _]) (M := L) hw [4, 5, 6, 7, 0, 1, 2, 3])) ?_; rintro _ _ ⟨s1, y1, rfl, rfl, hq⟩)) | (first | (refine J.o 0 ?_; refine J.ev' hΓ ?_) | refine J.nil ?_ | (refine J.o 4 ?_; first | refine J.lR hΓ ?_) | (refine J.o 3 ?_; first | refine J.ev' hΓ ?_) | (refine J.o 6 ?_; refine J.bx (fun _ => ?_)) | (refine J.o 9 ?_; refine J.bl hΓ (fun _ => ?_)) | (refine J.o 10 ?_; refine J.ev' hΓ ?_) | (refine J.o 11 ?_; refine J.ev' hΓ ?_)))
    | (first | refine JC.seq ?_ | refine JC.region ?_ | refine JC.ret ?_ | refine thenK.nn ?_)
    | (fail)
    | fail
  refine ret2f rfl rfl rfl rfl rfl (fun w1 hw => ⟨_, _, rfl, H.sel (l := [_, _, _, _, _, _, _, _]) (M := L) hw [0, 1, 2, 3], s1, y1, rfl, rfl, hq⟩)
end Go.Proofs.Ytbhgahjeocnfcaa
namespace Go.Proofs.Ytbhgahjeocnfcaa
open Go Go.Cx Go.RowKit
set_option linter.unusedVariables false
set_option linter.unusedSimpArgs false
set_option maxHeartbeats 4000000
attribute [local irreducible] J JC thenK blockK loopK drawK retK QW Qt pel List.set Calls
open Go.Maps
set_option maxRecDepth 8000
attribute [local irreducible] JE Br eK0 eK3 brK pc
theorem keyedI : Keyed Try.prog 3 := int_keyed Try.underlying3
def ekI (x : Int) : Value := .int .i64 x
theorem ekI_inj (a b : Int) (h : ekI a = ekI b) : a = b := by unfold ekI at h; injection h
theorem keyI (x : Int) (h : -9223372036854775808 ≤ x ∧ x ≤ 9223372036854775807) : ∃ l, keyOf Try.prog 3 (ekI x) = some l := ⟨_, Go.Maps.keyOf_int_mk (q := .i64) (a := x) Try.underlying3 (by
  show (decide ((-9223372036854775808 : Int) ≤ x) && decide (x ≤ (9223372036854775807 : Int))) = true
  simp [h])⟩
def rk : List Int → Int → Nat → Option Nat
  | [], _, _ => none
  | x :: l, v, s => if x = v then some s else rk l v (s + 1)
theorem mget_zip : ∀ (l : List Int) (v : Int) (s : Nat), mget (l.zipIdx s) v = rk l v s
  | [], _, _ => rfl
  | x :: l, v, s => by
    have ih := mget_zip l v (s + 1)
    unfold mget at ih ⊢
    rw [List.zipIdx_cons, List.find?_cons]
    by_cases h : x = v
    · rw [rk, if_pos h]; simp [h]
    · rw [rk, if_neg h, ← ih]; simp [h]
theorem rk_some : ∀ {l : List Int} {v : Int} {s k : Nat}, rk l v s = some k → s ≤ k ∧ k < s + l.length ∧ l.getD (k - s) default = v
  | [], _, _, _, h => by cases h
  | x :: l, v, s, k, h => by
    rw [rk] at h
    split at h
    · rename_i hx
      injection h with h; subst h
      exact ⟨Nat.le_refl _, by simp, by rw [Nat.sub_self]; exact hx⟩
    · obtain ⟨h1, h2, h3⟩ := rk_some h
      refine ⟨by omega, by simp only [List.length_cons]; omega, ?_⟩
      rw [show k - s = (k - (s + 1)) + 1 by omega]; exact h3
theorem rk_none : ∀ {l : List Int} {v : Int} {s : Nat}, rk l v s = none ↔ v ∉ l
  | [], _, _ => by simp [rk]
  | x :: l, v, s => by
    rw [rk]
    split
    · rename_i hx; simp [hx]
    · rename_i hx
      rw [rk_none (l := l)]
      simp [show ¬ v = x from fun e => hx e.symm]
theorem rk_at {l : List Int} (hn : l.Nodup) {k : Nat} (hk : k < l.length) : rk l (l.getD k default) 0 = some k := by
  cases h : rk l (l.getD k default) 0 with
  | none =>
    rw [rk_none] at h
    exact absurd (mem_g l k hk) h
  | some j =>
    obtain ⟨_, h2, h3⟩ := rk_some h
    rw [Nat.sub_zero] at h3
    rw [Nat.zero_add] at h2
    congr 1
    rw [List.getD_eq_getElem?_getD, List.getD_eq_getElem?_getD, List.getElem?_eq_getElem h2, List.getElem?_eq_getElem hk] at h3
    have h3 : some l[j] = some l[k] := congrArg some h3
    injection h3 with h3
    have hp := List.pairwise_iff_getElem.1 hn
    rcases Nat.lt_trichotomy j k with g | g | g
    · exact absurd h3 (hp j k h2 hk g)
    · exact g
    · exact absurd h3.symm (hp k j hk h2 g)
structure POk (K : KS) (order : List Int) (hO hP : Heap) : Prop where
  ow : OwT encI 1 3 K.ao K.co order hO
  len : K.no = order.length
  ok : okOrd order
  pm : MapT Try.prog 3 ekI evI (order.zipIdx 0) K.bp hP
def ends (n : Nat) : List N3 := [⟨n, 0, 0⟩, ⟨n, 0, 0⟩]
theorem ends_wf (n : Nat) : WF n (ends n) := by
  have hl : (ends n).length = 2 := rfl
  refine ⟨Nat.le_refl _, rfl, rfl, ?_, ?_, ?_, ?_, ?_, ?_, ?_⟩ <;> intro i h2 hi <;> omega
theorem eNew : Entr Try.prog 25 := Entr.of Try.func25 rfl rfl
theorem eReb : Entr Try.prog 69 := Entr.of Try.func69 rfl rfl
theorem reb_any (x0 x1 : Value) (an : Option Addr) (cn b : Nat) (h0 : frc x0 = some x0) (h1 : frc x1 = some x1) {w0 w : World} {R : Heap} {L : List Heap} (hw : H w0 R ([(b, Obj.cells ⟨[x0, x1, .slice an 2 cn, .map none, .map none]⟩ 104 (0, 0))] :: L) w) :
    Calls Try.prog 69 #[.pointer (some ⟨b, 0, none⟩)] w fun e w' => ∃ v L', e = .returned v ∧ H w0 R L' w' ∧ ∃ bu bi, v = .tuple #[] ∧ L' = [(b, Obj.cells ⟨[x0, x1, .slice an 2 cn, .map (some bu), .map (some bi)]⟩ 104 (0, 0))] :: [(bu, .map ⟨[]⟩ 0)] :: [(bi, .map ⟨[]⟩ 0)] :: L := by
  refine calls_in Try.func69 Try.ntmps69 rfl rfl (hw) ?_
  repeat' first
    | (refine J.isJ ?_; first | (first | (refine J.o 9 ?_; refine J.mkm (fun bi => ?_))) | (first | (refine J.o 0 ?_; refine J.ev' hΓ ?_) | refine J.nil ?_ | (refine J.o 4 ?_; first | refine J.lR hΓ ?_) | (refine J.o 3 ?_; first | refine J.ev' hΓ ?_) | (refine J.o 5 ?_; first | refine J.t2 hΓ ?_) | (refine J.o 10 ?_; refine J.ev' hΓ ?_) | (refine J.o 11 ?_; refine J.ev' hΓ ?_)))
    | (first | refine JC.seq ?_ | refine JC.region ?_ | refine JC.block ?_ | refine JC.exit ?_ | refine thenK.nn ?_ | refine thenK.x ?_ | refine blockK.hit rfl ?_ | refine JC.condF rfl ?_ | refine loopK.x ?_)
    | (fail)
    | fail
  rename_i bu
  refine JC.loop (fun i => i == 2 || Nat.ble 11 i) (fun m g L' => g 2 = .int .i64 2 ∧ L' = [(bi, .map ⟨[]⟩ 0)] :: [(bu, .map ⟨[]⟩ 0)] :: [(b, Obj.cells ⟨[x0, x1, .slice an 2 cn, .map (some bu), .map (some bi)]⟩ 104 (0, 0))] :: L) 1 ⟨rfl, rfl⟩ ?_
  rintro m g L' ⟨e2, rfl⟩
  refine JC.pin 2 e2 ?_
  repeat' first
    | (refine J.isJ ?_; first | (fail) | (first | (refine J.o 0 ?_; refine J.ev' hΓ ?_) | refine J.nil ?_ | (refine J.o 4 ?_; first | refine J.lR hΓ ?_) | (refine J.o 3 ?_; first | refine J.ev' hΓ ?_) | (refine J.o 5 ?_; first | refine J.t2 hΓ ?_) | (refine J.o 10 ?_; refine J.ev' hΓ ?_) | (refine J.o 11 ?_; refine J.ev' hΓ ?_)))
    | (first | refine JC.seq ?_ | refine JC.region ?_ | refine JC.block ?_ | refine JC.exit ?_ | refine thenK.nn ?_ | refine thenK.x ?_ | refine blockK.hit rfl ?_ | refine JC.condF rfl ?_ | refine loopK.x ?_)
    | (fail)
    | fail
  all_goals first | (exfalso; omega) | skip
  all_goals first | refine ret0 rfl (fun w1 hw => ⟨_, _, rfl, H.sel (l := [_, _, _]) (M := L) hw [2, 1, 0], bu, bi, rfl, rfl⟩) | refine ret0n rfl (fun w1 hw => ⟨_, _, rfl, H.sel (l := [_, _, _]) (M := L) hw [2, 1, 0], bu, bi, rfl, rfl⟩)
theorem new_bad (l : List Int) (a : Option Addr) (c : Nat) (h : Heap) (hs : SlT encI 1 a l h) (hl : l.length ≤ 1000000) (ho : ¬ okOrd l) (w : World) (hw : Holds h w) :
    Calls Try.prog 25 #[.slice a l.length c] w fun e w' => e = .returned (.tuple #[.pointer none, .int .i64 1]) ∧ Below w.heap.size w w' := by
  have hle := (cnt_fold l (0, 0)).1
  have hne : cntS (l.foldl withS (0, 0)) ≠ l.length := fun e => ho ((ord_iff l).1 e)
  refine calls_of_JC (R := h) Try.func25 Try.ntmps25 rfl rfl (hw) ?_
  repeat' first
    | (refine J.isJ ?_; first | (first | (refine J.fc 54 ?_; refine J.call0 eOf rfl rfl (fun w hw => of_any a c l h hs hl w (hw.rdH (RdH.old fun _ hh => hh))) ?_) | (refine J.fc 68 ?_; refine J.call0 eLen rfl rfl (fun w hw => len_any _ (okS_of _ _ okS_zero) w) ?_)) | (first | (refine J.o 0 ?_; refine J.ev' hΓ ?_) | refine J.nil ?_ | (refine J.o 3 ?_; first | refine J.ev' hΓ ?_) | (refine J.o 10 ?_; refine J.ev' hΓ ?_) | (refine J.o 11 ?_; refine J.ev' hΓ ?_)))
    | (first | refine JC.seq ?_ | refine JC.region ?_ | refine JC.ret ?_ | refine thenK.nn ?_ | refine thenK.r ?_ | (refine JC.cond rfl (fun hc => ?_) (fun hc => ?_) <;> ((try simp only [decide_eq_true_eq, decide_eq_false_iff_not, beq_iff_eq, beq_eq_false_iff_ne, bne_iff_ne, bne_eq_false_iff_eq, Bool.not_eq_true', Bool.not_eq_false', Bool.not_eq_true, Bool.not_eq_false] at hc) <;> first | (first | (exact absurd rfl hc) | (exfalso; omega) | (exact absurd (hc.symm.trans (by assumption : _ = false)) (by decide)) | (exact absurd (hc.symm.trans (by assumption : _ = true)) (by decide))) | skip)))
    | (fail)
    | fail
  all_goals first | (exfalso; omega) | skip
  all_goals (refine ret2f rfl rfl rfl rfl rfl (fun w1 hw => ⟨rfl, hw.below⟩))
theorem new_any (l : List Int) (a : Option Addr) (c : Nat) (h : Heap) (hs : SlT encI 1 a l h) (ho : okOrd l) {w0 w : World} {R : Heap} {L : List Heap} (hr : RdH R L h) (hw : H w0 R L w) :
    Calls Try.prog 25 #[.slice a l.length c] w fun e w' => ∃ v L', e = .returned v ∧ H w0 R L' w' ∧ ∃ b K s hO hP, v = .tuple #[.pointer (some ⟨b, 0, none⟩), .int .i64 0] ∧ L' = sF K b s ++ (hO :: hP :: L) ∧ SOk l.length K s ∧ s.ns = ends l.length ∧ POk K l hO hP := by
  have hl := ord_le l ho
  have heq : cntS (l.foldl withS (0, 0)) = l.length := (ord_iff l).2 ho
  refine calls_in Try.func25 Try.ntmps25 rfl rfl (hw) ?_
  repeat' first
    | (refine J.isJ ?_; first | (first | (refine J.fc 54 ?_; refine J.call0 eOf rfl rfl (fun w hw => of_any a c l h hs (by omega) w (hw.rdH hr)) ?_) | (refine J.fc 68 ?_; refine J.call0 eLen rfl rfl (fun w hw => len_any _ (okS_of _ _ okS_zero) w) ?_) | (refine J.o 7 ?_; refine J.al hΓ (fun b4 => ?_))) | (first | (refine J.o 0 ?_; refine J.ev' hΓ ?_) | refine J.nil ?_ | (refine J.o 4 ?_; first | refine J.lT default hΓ ?_ | refine J.lR hΓ ?_) | (refine J.o 3 ?_; first | refine J.iJ hΓ ?_ | refine J.ev' hΓ ?_) | (refine J.o 1 ?_; first | refine J.ad ?_) | (refine J.o 5 ?_; first | refine J.t0 hΓ ?_) | (refine J.o 6 ?_; refine J.bx (fun _ => ?_)) | (refine J.o 7 ?_; refine J.al hΓ (fun _ => ?_)) | (refine J.o 8 ?_; refine J.bd hΓ ?_) | (refine J.o 9 ?_; refine J.bl hΓ (fun _ => ?_)) | (refine J.o 10 ?_; refine J.ev' hΓ ?_) | (refine J.o 11 ?_; refine J.ev' hΓ ?_)))
    | (first | refine JC.seq ?_ | refine JC.region ?_ | refine JC.block ?_ | refine JC.ret ?_ | refine JC.exit ?_ | refine JC.skip ?_ | refine thenK.nn ?_ | refine thenK.x ?_ | refine blockK.nn ?_ | refine blockK.hit rfl ?_ | (refine JC.cond rfl (fun hc => ?_) (fun hc => ?_) <;> ((try simp only [decide_eq_true_eq, decide_eq_false_iff_not, beq_iff_eq, beq_eq_false_iff_ne, bne_iff_ne, bne_eq_false_iff_eq, Bool.not_eq_true', Bool.not_eq_false', Bool.not_eq_true, Bool.not_eq_false] at hc) <;> first | (first | (exact absurd rfl hc) | (exfalso; omega) | (exact absurd (hc.symm.trans (by assumption : _ = false)) (by decide)) | (exact absurd (hc.symm.trans (by assumption : _ = true)) (by decide))) | skip)) | refine loopK.x ?_)
    | (fail)
    | fail
  all_goals first | (exfalso; omega) | skip
  refine JC.mid (fun i => i == 5 || Nat.ble 17 i) (fun g L' => ∃ b bp bn a1 c1 hO, g 5 = .pointer (some ⟨b, 0, none⟩) ∧ OwT encI 1 3 a1 c1 l hO ∧ L'.Perm ([(b, Obj.cells ⟨[.slice a1 l.length c1, .map (some bp), .slice (some ⟨bn, 0, none⟩) 2 2, .map none, .map none]⟩ 104 (0, 0))] :: [(bn, Obj.cells ⟨[.int .i64 (l.length : Int), .int .i64 0, .int .i64 0, .int .i64 (l.length : Int), .int .i64 0, .int .i64 0]⟩ 107 (0, 0))] :: [(bp, .map ⟨[]⟩ 0)] :: hO :: [(b4, Obj.cells ⟨[.int .i64 (l.length : Int), .int .i64 0, .int .i64 0]⟩ 107 (0, 0))] :: L)) ?_ ?_
  ·
    refine JC.drawE [[(b4, Obj.cells ⟨[.int .i64 (l.length : Int), .int .i64 0, .int .i64 0]⟩ 107 (0, 0))]] [1, 2, 5, 7] [1, 2, 5, 7] [(0,0),(4,3),(4,4)] 6 _ (by kernel_rfl) (by kernel_rfl) rfl ?_
    repeat' first
      | (refine J.isJ ?_; first | (fail) | (first | (refine J.o 0 ?_; refine J.ev' hΓ ?_) | refine J.nil ?_ | (refine J.o 4 ?_; first | refine J.lT default hΓ ?_ | refine J.lR hΓ ?_) | (refine J.o 3 ?_; first | refine J.iJ hΓ ?_ | refine J.ev' hΓ ?_) | (refine J.o 1 ?_; first | refine J.ad ?_) | (refine J.o 5 ?_; first | refine J.t0 hΓ ?_) | (refine J.o 6 ?_; refine J.bx (fun _ => ?_)) | (refine J.o 7 ?_; refine J.al hΓ (fun _ => ?_)) | (refine J.o 8 ?_; refine J.bd hΓ ?_) | (refine J.o 9 ?_; refine J.bl hΓ (fun _ => ?_)) | (refine J.o 10 ?_; refine J.ev' hΓ ?_) | (refine J.o 11 ?_; refine J.ev' hΓ ?_)))
      | (first | (refine JE.is ?_; first | refine JE.s0 ?_ | refine JE.s3 ?_ | refine JE.nil ?_ | refine JE.s4 rfl (fun w hw => hw.subl (by repeat (first | exact List.nil_sublist _ | exact List.Sublist.refl _ | refine List.Sublist.cons_cons _ ?_ | refine List.Sublist.cons _ ?_))) ?_) | refine eK0.nn ?_ | (refine eK3.is ?_; refine eK3.nn (fun w hw => hw.subl (by repeat (first | exact List.nil_sublist _ | exact List.Sublist.refl _ | refine List.Sublist.cons_cons _ ?_ | refine List.Sublist.cons _ ?_))) ?_) | refine brK.nn ?_)
      | (first | refine JC.seq ?_ | refine JC.region ?_ | refine JC.block ?_ | refine JC.ret ?_ | refine JC.exit ?_ | refine JC.skip ?_ | refine thenK.nn ?_ | refine thenK.x ?_ | refine blockK.nn ?_ | refine blockK.hit rfl ?_ | (refine JC.cond rfl (fun hc => ?_) (fun hc => ?_) <;> ((try simp only [decide_eq_true_eq, decide_eq_false_iff_not, beq_iff_eq, beq_eq_false_iff_ne, bne_iff_ne, bne_eq_false_iff_eq, Bool.not_eq_true', Bool.not_eq_false', Bool.not_eq_true, Bool.not_eq_false] at hc) <;> first | (first | (exact absurd rfl hc) | (exfalso; omega) | (exact absurd (hc.symm.trans (by assumption : _ = false)) (by decide)) | (exact absurd (hc.symm.trans (by assumption : _ = true)) (by decide))) | skip)) | refine loopK.x ?_)
      | (fail)
      | fail
    refine Br.three (c1 := 1) (c2 := 1) (c3 := 1) (m1 := 5) (m2 := 5) (m3 := 5) 1 2 5 [] [] [] (by decide +kernel) rfl rfl rfl (by decide +kernel) rfl (by decide +kernel) rfl (by decide +kernel) rfl ?_ ?_ ?_
    ·
      repeat' first
        | (refine J.isJ ?_; first | (first | (refine J.fc 63 ?_; refine J.call1 eClone rfl rfl (fun w hw => clone_any a c l h hs (by omega) w (hw.rdH (by first | exact hr.tl | exact hr.tl.tl | exact hr.tl.tl.tl))) ?_; rintro _ hg ⟨a1, c1, rfl, o1⟩) | (refine J.o 9 ?_; first | refine J.mkm (fun bp => ?_) | refine J.bl hΓ (fun bn => ?_)) | (refine J.o 6 ?_; refine J.bx (fun b => ?_))) | (first | (refine J.o 0 ?_; refine J.ev' hΓ ?_) | refine J.nil ?_ | (refine J.o 4 ?_; first | refine J.lT default hΓ ?_ | refine J.lR hΓ ?_) | (refine J.o 3 ?_; first | refine J.iJ hΓ ?_ | refine J.ev' hΓ ?_) | (refine J.o 1 ?_; first | refine J.ad ?_) | (refine J.o 5 ?_; first | refine J.t0 hΓ ?_) | (refine J.o 6 ?_; refine J.bx (fun _ => ?_)) | (refine J.o 7 ?_; refine J.al hΓ (fun _ => ?_)) | (refine J.o 8 ?_; refine J.bd hΓ ?_) | (refine J.o 9 ?_; refine J.bl hΓ (fun _ => ?_)) | (refine J.o 10 ?_; refine J.ev' hΓ ?_) | (refine J.o 11 ?_; refine J.ev' hΓ ?_)))
        | (first | (refine JE.is ?_; first | refine JE.s0 ?_ | refine JE.s3 ?_ | refine JE.nil ?_ | refine JE.s4 rfl (fun w hw => hw.subl (by repeat (first | exact List.nil_sublist _ | exact List.Sublist.refl _ | refine List.Sublist.cons_cons _ ?_ | refine List.Sublist.cons _ ?_))) ?_) | refine eK0.nn ?_ | (refine eK3.is ?_; refine eK3.nn (fun w hw => hw.subl (by repeat (first | exact List.nil_sublist _ | exact List.Sublist.refl _ | refine List.Sublist.cons_cons _ ?_ | refine List.Sublist.cons _ ?_))) ?_) | refine brK.nn ?_)
        | (first | refine JC.seq ?_ | refine JC.region ?_ | refine JC.block ?_ | refine JC.ret ?_ | refine JC.exit ?_ | refine JC.skip ?_ | refine thenK.nn ?_ | refine thenK.x ?_ | refine blockK.nn ?_ | refine blockK.hit rfl ?_ | (refine JC.cond rfl (fun hc => ?_) (fun hc => ?_) <;> ((try simp only [decide_eq_true_eq, decide_eq_false_iff_not, beq_iff_eq, beq_eq_false_iff_ne, bne_iff_ne, bne_eq_false_iff_eq, Bool.not_eq_true', Bool.not_eq_false', Bool.not_eq_true, Bool.not_eq_false] at hc) <;> first | (first | (exact absurd rfl hc) | (exfalso; omega) | (exact absurd (hc.symm.trans (by assumption : _ = false)) (by decide)) | (exact absurd (hc.symm.trans (by assumption : _ = true)) (by decide))) | skip)) | refine loopK.x ?_)
        | (fail)
        | fail
      refine Br.two (c1 := 1) (c2 := 1) (m1 := 0) (m2 := 0) 2 5 [(3, 5), (0, 6), (3, 7), (0, 8)] [(3, 2), (0, 6), (3, 7), (0, 8)] (by decide +kernel) rfl rfl (by decide +kernel) rfl (by decide +kernel) rfl ?_ ?_
      ·
        repeat' first
          | (refine J.isJ ?_; first | (first | (refine J.fc 63 ?_; refine J.call1 eClone rfl rfl (fun w hw => clone_any a c l h hs (by omega) w (hw.rdH (by first | exact hr.tl | exact hr.tl.tl | exact hr.tl.tl.tl))) ?_; rintro _ hg ⟨a1, c1, rfl, o1⟩) | (refine J.o 9 ?_; first | refine J.mkm (fun bp => ?_) | refine J.bl hΓ (fun bn => ?_)) | (refine J.o 6 ?_; refine J.bx (fun b => ?_))) | (first | (refine J.o 0 ?_; refine J.ev' hΓ ?_) | refine J.nil ?_ | (refine J.o 4 ?_; first | refine J.lT default hΓ ?_ | refine J.lR hΓ ?_) | (refine J.o 3 ?_; first | refine J.iJ hΓ ?_ | refine J.ev' hΓ ?_) | (refine J.o 1 ?_; first | refine J.ad ?_) | (refine J.o 5 ?_; first | refine J.t0 hΓ ?_) | (refine J.o 6 ?_; refine J.bx (fun _ => ?_)) | (refine J.o 7 ?_; refine J.al hΓ (fun _ => ?_)) | (refine J.o 8 ?_; refine J.bd hΓ ?_) | (refine J.o 9 ?_; refine J.bl hΓ (fun _ => ?_)) | (refine J.o 10 ?_; refine J.ev' hΓ ?_) | (refine J.o 11 ?_; refine J.ev' hΓ ?_)))
          | (first | (refine JE.is ?_; first | refine JE.s0 ?_ | refine JE.s3 ?_ | refine JE.nil ?_ | refine JE.s4 rfl (fun w hw => hw.subl (by repeat (first | exact List.nil_sublist _ | exact List.Sublist.refl _ | refine List.Sublist.cons_cons _ ?_ | refine List.Sublist.cons _ ?_))) ?_) | refine eK0.nn ?_ | (refine eK3.is ?_; refine eK3.nn (fun w hw => hw.subl (by repeat (first | exact List.nil_sublist _ | exact List.Sublist.refl _ | refine List.Sublist.cons_cons _ ?_ | refine List.Sublist.cons _ ?_))) ?_) | refine brK.nn ?_)
          | (first | refine JC.seq ?_ | refine JC.region ?_ | refine JC.block ?_ | refine JC.ret ?_ | refine JC.exit ?_ | refine JC.skip ?_ | refine thenK.nn ?_ | refine thenK.x ?_ | refine blockK.nn ?_ | refine blockK.hit rfl ?_ | (refine JC.cond rfl (fun hc => ?_) (fun hc => ?_) <;> ((try simp only [decide_eq_true_eq, decide_eq_false_iff_not, beq_iff_eq, beq_eq_false_iff_ne, bne_iff_ne, bne_eq_false_iff_eq, Bool.not_eq_true', Bool.not_eq_false', Bool.not_eq_true, Bool.not_eq_false] at hc) <;> first | (first | (exact absurd rfl hc) | (exfalso; omega) | (exact absurd (hc.symm.trans (by assumption : _ = false)) (by decide)) | (exact absurd (hc.symm.trans (by assumption : _ = true)) (by decide))) | skip)) | refine loopK.x ?_)
          | (fail)
          | fail
        refine Br.done (by kernel_rfl) ?_
        refine midK.nn (by repeat (first | refine Ag.upd rfl ?_ | exact Ag.rfl')) ⟨_, _, _, _, _, _, rfl, o1, (List.Perm.cons _ ?_)⟩
        first | exact .refl _ | exact br1 | exact br1.cons _ | exact br2 | exact br2.symm | exact br2.trans (br1.cons _)
      ·
        repeat' first
          | (refine J.isJ ?_; first | (first | (refine J.fc 63 ?_; refine J.call1 eClone rfl rfl (fun w hw => clone_any a c l h hs (by omega) w (hw.rdH (by first | exact hr.tl | exact hr.tl.tl | exact hr.tl.tl.tl))) ?_; rintro _ hg ⟨a1, c1, rfl, o1⟩) | (refine J.o 9 ?_; first | refine J.mkm (fun bp => ?_) | refine J.bl hΓ (fun bn => ?_)) | (refine J.o 6 ?_; refine J.bx (fun b => ?_))) | (first | (refine J.o 0 ?_; refine J.ev' hΓ ?_) | refine J.nil ?_ | (refine J.o 4 ?_; first | refine J.lT default hΓ ?_ | refine J.lR hΓ ?_) | (refine J.o 3 ?_; first | refine J.iJ hΓ ?_ | refine J.ev' hΓ ?_) | (refine J.o 1 ?_; first | refine J.ad ?_) | (refine J.o 5 ?_; first | refine J.t0 hΓ ?_) | (refine J.o 6 ?_; refine J.bx (fun _ => ?_)) | (refine J.o 7 ?_; refine J.al hΓ (fun _ => ?_)) | (refine J.o 8 ?_; refine J.bd hΓ ?_) | (refine J.o 9 ?_; refine J.bl hΓ (fun _ => ?_)) | (refine J.o 10 ?_; refine J.ev' hΓ ?_) | (refine J.o 11 ?_; refine J.ev' hΓ ?_)))
          | (first | (refine JE.is ?_; first | refine JE.s0 ?_ | refine JE.s3 ?_ | refine JE.nil ?_ | refine JE.s4 rfl (fun w hw => hw.subl (by repeat (first | exact List.nil_sublist _ | exact List.Sublist.refl _ | refine List.Sublist.cons_cons _ ?_ | refine List.Sublist.cons _ ?_))) ?_) | refine eK0.nn ?_ | (refine eK3.is ?_; refine eK3.nn (fun w hw => hw.subl (by repeat (first | exact List.nil_sublist _ | exact List.Sublist.refl _ | refine List.Sublist.cons_cons _ ?_ | refine List.Sublist.cons _ ?_))) ?_) | refine brK.nn ?_)
          | (first | refine JC.seq ?_ | refine JC.region ?_ | refine JC.block ?_ | refine JC.ret ?_ | refine JC.exit ?_ | refine JC.skip ?_ | refine thenK.nn ?_ | refine thenK.x ?_ | refine blockK.nn ?_ | refine blockK.hit rfl ?_ | (refine JC.cond rfl (fun hc => ?_) (fun hc => ?_) <;> ((try simp only [decide_eq_true_eq, decide_eq_false_iff_not, beq_iff_eq, beq_eq_false_iff_ne, bne_iff_ne, bne_eq_false_iff_eq, Bool.not_eq_true', Bool.not_eq_false', Bool.not_eq_true, Bool.not_eq_false] at hc) <;> first | (first | (exact absurd rfl hc) | (exfalso; omega) | (exact absurd (hc.symm.trans (by assumption : _ = false)) (by decide)) | (exact absurd (hc.symm.trans (by assumption : _ = true)) (by decide))) | skip)) | refine loopK.x ?_)
          | (fail)
          | fail
        refine Br.done (by kernel_rfl) ?_
        refine midK.nn (by repeat (first | refine Ag.upd rfl ?_ | exact Ag.rfl')) ⟨_, _, _, _, _, _, rfl, o1, (List.Perm.cons _ ?_)⟩
        first | exact .refl _ | exact br1 | exact br1.cons _ | exact br2 | exact br2.symm | exact br2.trans (br1.cons _)
    ·
      repeat' first
        | (refine J.isJ ?_; first | (first | (refine J.fc 63 ?_; refine J.call1 eClone rfl rfl (fun w hw => clone_any a c l h hs (by omega) w (hw.rdH (by first | exact hr.tl | exact hr.tl.tl | exact hr.tl.tl.tl))) ?_; rintro _ hg ⟨a1, c1, rfl, o1⟩) | (refine J.o 9 ?_; first | refine J.mkm (fun bp => ?_) | refine J.bl hΓ (fun bn => ?_)) | (refine J.o 6 ?_; refine J.bx (fun b => ?_))) | (first | (refine J.o 0 ?_; refine J.ev' hΓ ?_) | refine J.nil ?_ | (refine J.o 4 ?_; first | refine J.lT default hΓ ?_ | refine J.lR hΓ ?_) | (refine J.o 3 ?_; first | refine J.iJ hΓ ?_ | refine J.ev' hΓ ?_) | (refine J.o 1 ?_; first | refine J.ad ?_) | (refine J.o 5 ?_; first | refine J.t0 hΓ ?_) | (refine J.o 6 ?_; refine J.bx (fun _ => ?_)) | (refine J.o 7 ?_; refine J.al hΓ (fun _ => ?_)) | (refine J.o 8 ?_; refine J.bd hΓ ?_) | (refine J.o 9 ?_; refine J.bl hΓ (fun _ => ?_)) | (refine J.o 10 ?_; refine J.ev' hΓ ?_) | (refine J.o 11 ?_; refine J.ev' hΓ ?_)))
        | (first | (refine JE.is ?_; first | refine JE.s0 ?_ | refine JE.s3 ?_ | refine JE.nil ?_ | refine JE.s4 rfl (fun w hw => hw.subl (by repeat (first | exact List.nil_sublist _ | exact List.Sublist.refl _ | refine List.Sublist.cons_cons _ ?_ | refine List.Sublist.cons _ ?_))) ?_) | refine eK0.nn ?_ | (refine eK3.is ?_; refine eK3.nn (fun w hw => hw.subl (by repeat (first | exact List.nil_sublist _ | exact List.Sublist.refl _ | refine List.Sublist.cons_cons _ ?_ | refine List.Sublist.cons _ ?_))) ?_) | refine brK.nn ?_)
        | (first | refine JC.seq ?_ | refine JC.region ?_ | refine JC.block ?_ | refine JC.ret ?_ | refine JC.exit ?_ | refine JC.skip ?_ | refine thenK.nn ?_ | refine thenK.x ?_ | refine blockK.nn ?_ | refine blockK.hit rfl ?_ | (refine JC.cond rfl (fun hc => ?_) (fun hc => ?_) <;> ((try simp only [decide_eq_true_eq, decide_eq_false_iff_not, beq_iff_eq, beq_eq_false_iff_ne, bne_iff_ne, bne_eq_false_iff_eq, Bool.not_eq_true', Bool.not_eq_false', Bool.not_eq_true, Bool.not_eq_false] at hc) <;> first | (first | (exact absurd rfl hc) | (exfalso; omega) | (exact absurd (hc.symm.trans (by assumption : _ = false)) (by decide)) | (exact absurd (hc.symm.trans (by assumption : _ = true)) (by decide))) | skip)) | refine loopK.x ?_)
        | (fail)
        | fail
      refine Br.two (c1 := 1) (c2 := 1) (m1 := 0) (m2 := 0) 1 5 [(3, 5), (0, 6), (3, 7), (0, 8)] [(3, 1), (0, 6), (3, 7), (0, 8)] (by decide +kernel) rfl rfl (by decide +kernel) rfl (by decide +kernel) rfl ?_ ?_
      ·
        repeat' first
          | (refine J.isJ ?_; first | (first | (refine J.fc 63 ?_; refine J.call1 eClone rfl rfl (fun w hw => clone_any a c l h hs (by omega) w (hw.rdH (by first | exact hr.tl | exact hr.tl.tl | exact hr.tl.tl.tl))) ?_; rintro _ hg ⟨a1, c1, rfl, o1⟩) | (refine J.o 9 ?_; first | refine J.mkm (fun bp => ?_) | refine J.bl hΓ (fun bn => ?_)) | (refine J.o 6 ?_; refine J.bx (fun b => ?_))) | (first | (refine J.o 0 ?_; refine J.ev' hΓ ?_) | refine J.nil ?_ | (refine J.o 4 ?_; first | refine J.lT default hΓ ?_ | refine J.lR hΓ ?_) | (refine J.o 3 ?_; first | refine J.iJ hΓ ?_ | refine J.ev' hΓ ?_) | (refine J.o 1 ?_; first | refine J.ad ?_) | (refine J.o 5 ?_; first | refine J.t0 hΓ ?_) | (refine J.o 6 ?_; refine J.bx (fun _ => ?_)) | (refine J.o 7 ?_; refine J.al hΓ (fun _ => ?_)) | (refine J.o 8 ?_; refine J.bd hΓ ?_) | (refine J.o 9 ?_; refine J.bl hΓ (fun _ => ?_)) | (refine J.o 10 ?_; refine J.ev' hΓ ?_) | (refine J.o 11 ?_; refine J.ev' hΓ ?_)))
          | (first | (refine JE.is ?_; first | refine JE.s0 ?_ | refine JE.s3 ?_ | refine JE.nil ?_ | refine JE.s4 rfl (fun w hw => hw.subl (by repeat (first | exact List.nil_sublist _ | exact List.Sublist.refl _ | refine List.Sublist.cons_cons _ ?_ | refine List.Sublist.cons _ ?_))) ?_) | refine eK0.nn ?_ | (refine eK3.is ?_; refine eK3.nn (fun w hw => hw.subl (by repeat (first | exact List.nil_sublist _ | exact List.Sublist.refl _ | refine List.Sublist.cons_cons _ ?_ | refine List.Sublist.cons _ ?_))) ?_) | refine brK.nn ?_)
          | (first | refine JC.seq ?_ | refine JC.region ?_ | refine JC.block ?_ | refine JC.ret ?_ | refine JC.exit ?_ | refine JC.skip ?_ | refine thenK.nn ?_ | refine thenK.x ?_ | refine blockK.nn ?_ | refine blockK.hit rfl ?_ | (refine JC.cond rfl (fun hc => ?_) (fun hc => ?_) <;> ((try simp only [decide_eq_true_eq, decide_eq_false_iff_not, beq_iff_eq, beq_eq_false_iff_ne, bne_iff_ne, bne_eq_false_iff_eq, Bool.not_eq_true', Bool.not_eq_false', Bool.not_eq_true, Bool.not_eq_false] at hc) <;> first | (first | (exact absurd rfl hc) | (exfalso; omega) | (exact absurd (hc.symm.trans (by assumption : _ = false)) (by decide)) | (exact absurd (hc.symm.trans (by assumption : _ = true)) (by decide))) | skip)) | refine loopK.x ?_)
          | (fail)
          | fail
        refine Br.done (by kernel_rfl) ?_
        refine midK.nn (by repeat (first | refine Ag.upd rfl ?_ | exact Ag.rfl')) ⟨_, _, _, _, _, _, rfl, o1, (List.Perm.cons _ ?_)⟩
        first | exact .refl _ | exact br1 | exact br1.cons _ | exact br2 | exact br2.symm | exact br2.trans (br1.cons _)
      ·
        repeat' first
          | (refine J.isJ ?_; first | (first | (refine J.fc 63 ?_; refine J.call1 eClone rfl rfl (fun w hw => clone_any a c l h hs (by omega) w (hw.rdH (by first | exact hr.tl | exact hr.tl.tl | exact hr.tl.tl.tl))) ?_; rintro _ hg ⟨a1, c1, rfl, o1⟩) | (refine J.o 9 ?_; first | refine J.mkm (fun bp => ?_) | refine J.bl hΓ (fun bn => ?_)) | (refine J.o 6 ?_; refine J.bx (fun b => ?_))) | (first | (refine J.o 0 ?_; refine J.ev' hΓ ?_) | refine J.nil ?_ | (refine J.o 4 ?_; first | refine J.lT default hΓ ?_ | refine J.lR hΓ ?_) | (refine J.o 3 ?_; first | refine J.iJ hΓ ?_ | refine J.ev' hΓ ?_) | (refine J.o 1 ?_; first | refine J.ad ?_) | (refine J.o 5 ?_; first | refine J.t0 hΓ ?_) | (refine J.o 6 ?_; refine J.bx (fun _ => ?_)) | (refine J.o 7 ?_; refine J.al hΓ (fun _ => ?_)) | (refine J.o 8 ?_; refine J.bd hΓ ?_) | (refine J.o 9 ?_; refine J.bl hΓ (fun _ => ?_)) | (refine J.o 10 ?_; refine J.ev' hΓ ?_) | (refine J.o 11 ?_; refine J.ev' hΓ ?_)))
          | (first | (refine JE.is ?_; first | refine JE.s0 ?_ | refine JE.s3 ?_ | refine JE.nil ?_ | refine JE.s4 rfl (fun w hw => hw.subl (by repeat (first | exact List.nil_sublist _ | exact List.Sublist.refl _ | refine List.Sublist.cons_cons _ ?_ | refine List.Sublist.cons _ ?_))) ?_) | refine eK0.nn ?_ | (refine eK3.is ?_; refine eK3.nn (fun w hw => hw.subl (by repeat (first | exact List.nil_sublist _ | exact List.Sublist.refl _ | refine List.Sublist.cons_cons _ ?_ | refine List.Sublist.cons _ ?_))) ?_) | refine brK.nn ?_)
          | (first | refine JC.seq ?_ | refine JC.region ?_ | refine JC.block ?_ | refine JC.ret ?_ | refine JC.exit ?_ | refine JC.skip ?_ | refine thenK.nn ?_ | refine thenK.x ?_ | refine blockK.nn ?_ | refine blockK.hit rfl ?_ | (refine JC.cond rfl (fun hc => ?_) (fun hc => ?_) <;> ((try simp only [decide_eq_true_eq, decide_eq_false_iff_not, beq_iff_eq, beq_eq_false_iff_ne, bne_iff_ne, bne_eq_false_iff_eq, Bool.not_eq_true', Bool.not_eq_false', Bool.not_eq_true, Bool.not_eq_false] at hc) <;> first | (first | (exact absurd rfl hc) | (exfalso; omega) | (exact absurd (hc.symm.trans (by assumption : _ = false)) (by decide)) | (exact absurd (hc.symm.trans (by assumption : _ = true)) (by decide))) | skip)) | refine loopK.x ?_)
          | (fail)
          | fail
        refine Br.done (by kernel_rfl) ?_
        refine midK.nn (by repeat (first | refine Ag.upd rfl ?_ | exact Ag.rfl')) ⟨_, _, _, _, _, _, rfl, o1, (List.Perm.cons _ ?_)⟩
        first | exact .refl _ | exact br1 | exact br1.cons _ | exact br2 | exact br2.symm | exact br2.trans (br1.cons _)
    ·
      repeat' first
        | (refine J.isJ ?_; first | (first | (refine J.fc 63 ?_; refine J.call1 eClone rfl rfl (fun w hw => clone_any a c l h hs (by omega) w (hw.rdH (by first | exact hr.tl | exact hr.tl.tl | exact hr.tl.tl.tl))) ?_; rintro _ hg ⟨a1, c1, rfl, o1⟩) | (refine J.o 9 ?_; first | refine J.mkm (fun bp => ?_) | refine J.bl hΓ (fun bn => ?_)) | (refine J.o 6 ?_; refine J.bx (fun b => ?_))) | (first | (refine J.o 0 ?_; refine J.ev' hΓ ?_) | refine J.nil ?_ | (refine J.o 4 ?_; first | refine J.lT default hΓ ?_ | refine J.lR hΓ ?_) | (refine J.o 3 ?_; first | refine J.iJ hΓ ?_ | refine J.ev' hΓ ?_) | (refine J.o 1 ?_; first | refine J.ad ?_) | (refine J.o 5 ?_; first | refine J.t0 hΓ ?_) | (refine J.o 6 ?_; refine J.bx (fun _ => ?_)) | (refine J.o 7 ?_; refine J.al hΓ (fun _ => ?_)) | (refine J.o 8 ?_; refine J.bd hΓ ?_) | (refine J.o 9 ?_; refine J.bl hΓ (fun _ => ?_)) | (refine J.o 10 ?_; refine J.ev' hΓ ?_) | (refine J.o 11 ?_; refine J.ev' hΓ ?_)))
        | (first | (refine JE.is ?_; first | refine JE.s0 ?_ | refine JE.s3 ?_ | refine JE.nil ?_ | refine JE.s4 rfl (fun w hw => hw.subl (by repeat (first | exact List.nil_sublist _ | exact List.Sublist.refl _ | refine List.Sublist.cons_cons _ ?_ | refine List.Sublist.cons _ ?_))) ?_) | refine eK0.nn ?_ | (refine eK3.is ?_; refine eK3.nn (fun w hw => hw.subl (by repeat (first | exact List.nil_sublist _ | exact List.Sublist.refl _ | refine List.Sublist.cons_cons _ ?_ | refine List.Sublist.cons _ ?_))) ?_) | refine brK.nn ?_)
        | (first | refine JC.seq ?_ | refine JC.region ?_ | refine JC.block ?_ | refine JC.ret ?_ | refine JC.exit ?_ | refine JC.skip ?_ | refine thenK.nn ?_ | refine thenK.x ?_ | refine blockK.nn ?_ | refine blockK.hit rfl ?_ | (refine JC.cond rfl (fun hc => ?_) (fun hc => ?_) <;> ((try simp only [decide_eq_true_eq, decide_eq_false_iff_not, beq_iff_eq, beq_eq_false_iff_ne, bne_iff_ne, bne_eq_false_iff_eq, Bool.not_eq_true', Bool.not_eq_false', Bool.not_eq_true, Bool.not_eq_false] at hc) <;> first | (first | (exact absurd rfl hc) | (exfalso; omega) | (exact absurd (hc.symm.trans (by assumption : _ = false)) (by decide)) | (exact absurd (hc.symm.trans (by assumption : _ = true)) (by decide))) | skip)) | refine loopK.x ?_)
        | (fail)
        | fail
      refine Br.two (c1 := 1) (c2 := 1) (m1 := 0) (m2 := 0) 1 2 [(3, 2), (0, 6), (3, 7), (0, 8)] [(3, 1), (0, 6), (3, 7), (0, 8)] (by decide +kernel) rfl rfl (by decide +kernel) rfl (by decide +kernel) rfl ?_ ?_
      ·
        repeat' first
          | (refine J.isJ ?_; first | (first | (refine J.fc 63 ?_; refine J.call1 eClone rfl rfl (fun w hw => clone_any a c l h hs (by omega) w (hw.rdH (by first | exact hr.tl | exact hr.tl.tl | exact hr.tl.tl.tl))) ?_; rintro _ hg ⟨a1, c1, rfl, o1⟩) | (refine J.o 9 ?_; first | refine J.mkm (fun bp => ?_) | refine J.bl hΓ (fun bn => ?_)) | (refine J.o 6 ?_; refine J.bx (fun b => ?_))) | (first | (refine J.o 0 ?_; refine J.ev' hΓ ?_) | refine J.nil ?_ | (refine J.o 4 ?_; first | refine J.lT default hΓ ?_ | refine J.lR hΓ ?_) | (refine J.o 3 ?_; first | refine J.iJ hΓ ?_ | refine J.ev' hΓ ?_) | (refine J.o 1 ?_; first | refine J.ad ?_) | (refine J.o 5 ?_; first | refine J.t0 hΓ ?_) | (refine J.o 6 ?_; refine J.bx (fun _ => ?_)) | (refine J.o 7 ?_; refine J.al hΓ (fun _ => ?_)) | (refine J.o 8 ?_; refine J.bd hΓ ?_) | (refine J.o 9 ?_; refine J.bl hΓ (fun _ => ?_)) | (refine J.o 10 ?_; refine J.ev' hΓ ?_) | (refine J.o 11 ?_; refine J.ev' hΓ ?_)))
          | (first | (refine JE.is ?_; first | refine JE.s0 ?_ | refine JE.s3 ?_ | refine JE.nil ?_ | refine JE.s4 rfl (fun w hw => hw.subl (by repeat (first | exact List.nil_sublist _ | exact List.Sublist.refl _ | refine List.Sublist.cons_cons _ ?_ | refine List.Sublist.cons _ ?_))) ?_) | refine eK0.nn ?_ | (refine eK3.is ?_; refine eK3.nn (fun w hw => hw.subl (by repeat (first | exact List.nil_sublist _ | exact List.Sublist.refl _ | refine List.Sublist.cons_cons _ ?_ | refine List.Sublist.cons _ ?_))) ?_) | refine brK.nn ?_)
          | (first | refine JC.seq ?_ | refine JC.region ?_ | refine JC.block ?_ | refine JC.ret ?_ | refine JC.exit ?_ | refine JC.skip ?_ | refine thenK.nn ?_ | refine thenK.x ?_ | refine blockK.nn ?_ | refine blockK.hit rfl ?_ | (refine JC.cond rfl (fun hc => ?_) (fun hc => ?_) <;> ((try simp only [decide_eq_true_eq, decide_eq_false_iff_not, beq_iff_eq, beq_eq_false_iff_ne, bne_iff_ne, bne_eq_false_iff_eq, Bool.not_eq_true', Bool.not_eq_false', Bool.not_eq_true, Bool.not_eq_false] at hc) <;> first | (first | (exact absurd rfl hc) | (exfalso; omega) | (exact absurd (hc.symm.trans (by assumption : _ = false)) (by decide)) | (exact absurd (hc.symm.trans (by assumption : _ = true)) (by decide))) | skip)) | refine loopK.x ?_)
          | (fail)
          | fail
        refine Br.done (by kernel_rfl) ?_
        refine midK.nn (by repeat (first | refine Ag.upd rfl ?_ | exact Ag.rfl')) ⟨_, _, _, _, _, _, rfl, o1, (List.Perm.cons _ ?_)⟩
        first | exact .refl _ | exact br1 | exact br1.cons _ | exact br2 | exact br2.symm | exact br2.trans (br1.cons _)
      ·
        repeat' first
          | (refine J.isJ ?_; first | (first | (refine J.fc 63 ?_; refine J.call1 eClone rfl rfl (fun w hw => clone_any a c l h hs (by omega) w (hw.rdH (by first | exact hr.tl | exact hr.tl.tl | exact hr.tl.tl.tl))) ?_; rintro _ hg ⟨a1, c1, rfl, o1⟩) | (refine J.o 9 ?_; first | refine J.mkm (fun bp => ?_) | refine J.bl hΓ (fun bn => ?_)) | (refine J.o 6 ?_; refine J.bx (fun b => ?_))) | (first | (refine J.o 0 ?_; refine J.ev' hΓ ?_) | refine J.nil ?_ | (refine J.o 4 ?_; first | refine J.lT default hΓ ?_ | refine J.lR hΓ ?_) | (refine J.o 3 ?_; first | refine J.iJ hΓ ?_ | refine J.ev' hΓ ?_) | (refine J.o 1 ?_; first | refine J.ad ?_) | (refine J.o 5 ?_; first | refine J.t0 hΓ ?_) | (refine J.o 6 ?_; refine J.bx (fun _ => ?_)) | (refine J.o 7 ?_; refine J.al hΓ (fun _ => ?_)) | (refine J.o 8 ?_; refine J.bd hΓ ?_) | (refine J.o 9 ?_; refine J.bl hΓ (fun _ => ?_)) | (refine J.o 10 ?_; refine J.ev' hΓ ?_) | (refine J.o 11 ?_; refine J.ev' hΓ ?_)))
          | (first | (refine JE.is ?_; first | refine JE.s0 ?_ | refine JE.s3 ?_ | refine JE.nil ?_ | refine JE.s4 rfl (fun w hw => hw.subl (by repeat (first | exact List.nil_sublist _ | exact List.Sublist.refl _ | refine List.Sublist.cons_cons _ ?_ | refine List.Sublist.cons _ ?_))) ?_) | refine eK0.nn ?_ | (refine eK3.is ?_; refine eK3.nn (fun w hw => hw.subl (by repeat (first | exact List.nil_sublist _ | exact List.Sublist.refl _ | refine List.Sublist.cons_cons _ ?_ | refine List.Sublist.cons _ ?_))) ?_) | refine brK.nn ?_)
          | (first | refine JC.seq ?_ | refine JC.region ?_ | refine JC.block ?_ | refine JC.ret ?_ | refine JC.exit ?_ | refine JC.skip ?_ | refine thenK.nn ?_ | refine thenK.x ?_ | refine blockK.nn ?_ | refine blockK.hit rfl ?_ | (refine JC.cond rfl (fun hc => ?_) (fun hc => ?_) <;> ((try simp only [decide_eq_true_eq, decide_eq_false_iff_not, beq_iff_eq, beq_eq_false_iff_ne, bne_iff_ne, bne_eq_false_iff_eq, Bool.not_eq_true', Bool.not_eq_false', Bool.not_eq_true, Bool.not_eq_false] at hc) <;> first | (first | (exact absurd rfl hc) | (exfalso; omega) | (exact absurd (hc.symm.trans (by assumption : _ = false)) (by decide)) | (exact absurd (hc.symm.trans (by assumption : _ = true)) (by decide))) | skip)) | refine loopK.x ?_)
          | (fail)
          | fail
        refine Br.done (by kernel_rfl) ?_
        refine midK.nn (by repeat (first | refine Ag.upd rfl ?_ | exact Ag.rfl')) ⟨_, _, _, _, _, _, rfl, o1, (List.Perm.cons _ ?_)⟩
        first | exact .refl _ | exact br1 | exact br1.cons _ | exact br2 | exact br2.symm | exact br2.trans (br1.cons _)
  rintro g L' ⟨b, bp, bn, a1, c1, hO, e5, o1, hp⟩
  refine thenK.nn ?_
  refine JC.perm hp ?_
  refine JC.pin 5 e5 ?_
  have hno := ho.2
  repeat' first
    | (refine J.isJ ?_; first | (fail) | (first | (refine J.o 0 ?_; refine J.ev' hΓ ?_) | refine J.nil ?_ | (refine J.o 4 ?_; first | refine J.lT default hΓ ?_ | refine J.lR hΓ ?_) | (refine J.o 3 ?_; first | refine J.iJ hΓ ?_ | refine J.ev' hΓ ?_) | (refine J.o 1 ?_; first | refine J.ad ?_) | (refine J.o 5 ?_; first | refine J.t0 hΓ ?_) | (refine J.o 6 ?_; refine J.bx (fun _ => ?_)) | (refine J.o 7 ?_; refine J.al hΓ (fun _ => ?_)) | (refine J.o 8 ?_; refine J.bd hΓ ?_) | (refine J.o 9 ?_; refine J.bl hΓ (fun _ => ?_)) | (refine J.o 10 ?_; refine J.ev' hΓ ?_) | (refine J.o 11 ?_; refine J.ev' hΓ ?_)))
    | (first | refine JC.seq ?_ | refine JC.region ?_ | refine JC.block ?_ | refine JC.ret ?_ | refine JC.exit ?_ | refine JC.skip ?_ | refine thenK.nn ?_ | refine thenK.x ?_ | refine blockK.nn ?_ | refine blockK.hit rfl ?_ | (refine JC.cond rfl (fun hc => ?_) (fun hc => ?_) <;> ((try simp only [decide_eq_true_eq, decide_eq_false_iff_not, beq_iff_eq, beq_eq_false_iff_ne, bne_iff_ne, bne_eq_false_iff_eq, Bool.not_eq_true', Bool.not_eq_false', Bool.not_eq_true, Bool.not_eq_false] at hc) <;> first | (first | (exact absurd rfl hc) | (exfalso; omega) | (exact absurd (hc.symm.trans (by assumption : _ = false)) (by decide)) | (exact absurd (hc.symm.trans (by assumption : _ = true)) (by decide))) | skip)) | refine loopK.x ?_)
    | (fail)
    | fail
  refine JC.loop (fun i => i == 6 || i == 7 || Nat.ble 27 i) (fun m g L' => ∃ q hP, g 27 = .int .i64 ((q : Nat) : Int) ∧ q + m = l.length ∧ MapT Try.prog 3 ekI evI ((l.take q).zipIdx 0) bp hP ∧ L' = [(b, Obj.cells ⟨[.slice a1 l.length c1, .map (some bp), .slice (some ⟨bn, 0, none⟩) 2 2, .map none, .map none]⟩ 104 (0, 0))] :: [(bn, Obj.cells ⟨[.int .i64 (l.length : Int), .int .i64 0, .int .i64 0, .int .i64 (l.length : Int), .int .i64 0, .int .i64 0]⟩ 107 (0, 0))] :: hP :: hO :: [(b4, Obj.cells ⟨[.int .i64 (l.length : Int), .int .i64 0, .int .i64 0]⟩ 107 (0, 0))] :: L) l.length ⟨0, _, rfl, by omega, MapT.nil _, rfl⟩ ?_
  rintro m g2 L' ⟨q, hP, e27, hq, mp, rfl⟩
  refine JC.pin 27 e27 ?_
  rcases Nat.lt_or_ge q l.length with hlt | hge
  · have hel := mem_g l q hlt
    have hrg := ho.1 _ hel
    have hkey := keyI (l.getD q default) (by omega)
    have hnew : ∀ y, (l.getD q default, y) ∉ (l.take q).zipIdx 0 := by
      refine mget_out ?_
      rw [mget_zip, rk_none]
      intro hm
      have hs2 := List.Nodup.sublist (List.take_sublist (q + 1) l) hno
      rw [take_g l q hlt] at hs2
      exact (List.nodup_append.1 hs2).2.2 _ hm _ (List.mem_singleton_self _) rfl
    repeat' first
      | (refine J.isJ ?_; first | (first | (refine J.o 4 ?_; first | refine J.lT default hΓ ?_ (hs := hs) (hr := hr.tl.tl.tl.tl.tl)) | (refine J.o 9 ?_; refine J.perm br2 ?_; refine J.mup (a := l.getD q default) (ev := evI) q keyedI ekI_inj mp hkey hΓ (fun h3 mp3 => ?_))) | (first | (refine J.o 0 ?_; refine J.ev' hΓ ?_) | refine J.nil ?_ | (refine J.o 4 ?_; first | refine J.lT default hΓ ?_ | refine J.lR hΓ ?_) | (refine J.o 3 ?_; first | refine J.iJ hΓ ?_ | refine J.ev' hΓ ?_) | (refine J.o 1 ?_; first | refine J.ad ?_) | (refine J.o 5 ?_; first | refine J.t0 hΓ ?_) | (refine J.o 6 ?_; refine J.bx (fun _ => ?_)) | (refine J.o 7 ?_; refine J.al hΓ (fun _ => ?_)) | (refine J.o 8 ?_; refine J.bd hΓ ?_) | (refine J.o 9 ?_; refine J.bl hΓ (fun _ => ?_)) | (refine J.o 10 ?_; refine J.ev' hΓ ?_) | (refine J.o 11 ?_; refine J.ev' hΓ ?_)))
      | (first | refine JC.seq ?_ | refine JC.region ?_ | refine JC.block ?_ | refine JC.ret ?_ | refine JC.exit ?_ | refine JC.skip ?_ | refine thenK.nn ?_ | refine thenK.x ?_ | refine blockK.nn ?_ | refine blockK.hit rfl ?_ | (refine JC.cond rfl (fun hc => ?_) (fun hc => ?_) <;> ((try simp only [decide_eq_true_eq, decide_eq_false_iff_not, beq_iff_eq, beq_eq_false_iff_ne, bne_iff_ne, bne_eq_false_iff_eq, Bool.not_eq_true', Bool.not_eq_false', Bool.not_eq_true, Bool.not_eq_false] at hc) <;> first | (first | (exact absurd rfl hc) | (exfalso; omega) | (exact absurd (hc.symm.trans (by assumption : _ = false)) (by decide)) | (exact absurd (hc.symm.trans (by assumption : _ = true)) (by decide))) | skip)) | refine loopK.x ?_)
      | (fail)
      | fail
    all_goals first | (exfalso; omega) | skip
    rw [mput_new q hnew] at mp3
    refine loopK.np (m - 1) [] _ (by omega) (by repeat (first | refine Ag.upd rfl ?_ | exact Ag.hv)) br2.symm ⟨q + 1, h3, ?_, by omega, ?_, rfl⟩
    · show Value.int .i64 _ = _; congr 1
    · rw [take_g l q hlt, List.zipIdx_append]
      rw [List.length_take, Nat.min_eq_left (Nat.le_of_lt hlt), Nat.zero_add]
      exact mp3
  · rw [List.take_of_length_le hge] at mp
    repeat' first
      | (refine J.isJ ?_; first | ((refine J.fc 69 ?_; refine J.callx eReb rfl rfl (fun w hw => reb_any _ _ _ _ _ rfl rfl hw) ?_; rintro _ _ ⟨bu, bi, rfl, rfl⟩)) | (first | (refine J.o 0 ?_; refine J.ev' hΓ ?_) | refine J.nil ?_ | (refine J.o 4 ?_; first | refine J.lT default hΓ ?_ | refine J.lR hΓ ?_) | (refine J.o 3 ?_; first | refine J.iJ hΓ ?_ | refine J.ev' hΓ ?_) | (refine J.o 1 ?_; first | refine J.ad ?_) | (refine J.o 5 ?_; first | refine J.t0 hΓ ?_) | (refine J.o 6 ?_; refine J.bx (fun _ => ?_)) | (refine J.o 7 ?_; refine J.al hΓ (fun _ => ?_)) | (refine J.o 8 ?_; refine J.bd hΓ ?_) | (refine J.o 9 ?_; refine J.bl hΓ (fun _ => ?_)) | (refine J.o 10 ?_; refine J.ev' hΓ ?_) | (refine J.o 11 ?_; refine J.ev' hΓ ?_)))
      | (first | refine JC.seq ?_ | refine JC.region ?_ | refine JC.block ?_ | refine JC.ret ?_ | refine JC.exit ?_ | refine JC.skip ?_ | refine thenK.nn ?_ | refine thenK.x ?_ | refine blockK.nn ?_ | refine blockK.hit rfl ?_ | (refine JC.cond rfl (fun hc => ?_) (fun hc => ?_) <;> ((try simp only [decide_eq_true_eq, decide_eq_false_iff_not, beq_iff_eq, beq_eq_false_iff_ne, bne_iff_ne, bne_eq_false_iff_eq, Bool.not_eq_true', Bool.not_eq_false', Bool.not_eq_true, Bool.not_eq_false] at hc) <;> first | (first | (exact absurd rfl hc) | (exfalso; omega) | (exact absurd (hc.symm.trans (by assumption : _ = false)) (by decide)) | (exact absurd (hc.symm.trans (by assumption : _ = true)) (by decide))) | skip)) | refine loopK.x ?_)
      | (fail)
      | fail
    all_goals first | (exfalso; omega) | skip
    refine ret2f rfl rfl rfl rfl rfl (fun w1 hw => ⟨_, _, rfl, H.sel (l := [_, _, _, _, _, _, _]) (M := L) hw [0, 3, 1, 2, 5, 4], b, ⟨a1, l.length, c1, bp, bu, bi⟩, ⟨some ⟨bn, 0, none⟩, 2, ends l.length, [(bn, _)], [], [(bu, .map ⟨[]⟩ 0)], [], [(bi, .map ⟨[]⟩ 0)]⟩, hO, hP, rfl, rfl, ?_, rfl, ⟨o1, rfl, ho, mp⟩⟩)
    refine ⟨hl, rfl, ends_wf _, by show 2 ≤ _; omega, ?_, MapT.nil _, ⟨fun i h2 hi => absurd (show i < 2 from hi) (by omega), fun x i hx => by cases hx⟩, MapT.nil _, fun x y hx => by cases hx⟩
    exact ⟨fun _ => rfl, .inr ⟨bn, _, rfl, rfl, rfl, Nat.le_refl _, rfl⟩⟩
end Go.Proofs.Ytbhgahjeocnfcaa
namespace Go.Proofs.Ytbhgahjeocnfcaa
open Go Go.Cx Go.RowKit
set_option linter.unusedVariables false
set_option linter.unusedSimpArgs false
set_option maxHeartbeats 4000000
attribute [local irreducible] J JC thenK blockK loopK drawK retK QW Qt pel List.set Calls
open Go.Maps
set_option maxRecDepth 8000
attribute [local irreducible] JE Br eK0 eK3 brK pc
theorem eVarC : Entr Try.prog 70 := Entr.of Try.func70 rfl rfl
theorem eVarS : Entr Try.prog 26 := Entr.of Try.func26 rfl rfl
theorem slNil (h : Heap) : SlT encI 1 none ([] : List Int) h := ⟨fun _ => rfl, fun i hi => absurd hi (Nat.not_lt_zero i)⟩
theorem VarC_any {n : Nat} {K : KS} {s : SS} (so : SOk n K s) (k : Nat) (hk : k < n) (hfull : s.ns.length + 1 ≤ 1048576) {w0 w : World} {R : Heap} {L : List Heap} {b0 c1 d1 : Nat} (r1 : Rd R L c1 (ptrS b0)) (r2 : Rd R L d1 (intO k)) (hw : H w0 R (sF K b0 s ++ L) w) :
    Calls Try.prog 70 #[.pointer (some ⟨c1, 0, none⟩), .pointer (some ⟨d1, 0, none⟩)] w fun e w' => ∃ v L', e = .returned v ∧ H w0 R L' w' ∧ ∃ s' y, v = .int .i64 ((y : Nat) : Int) ∧ L' = sF K b0 s' ++ L ∧ Res n K s s' 1 y (fun α => α k) := by
  have two := so.wf.two
  have n8 := so.n8
  unfold ptrS at r1
  unfold intO at r2
  unfold sF at hw
  simp only [List.cons_append, List.nil_append] at hw
  refine calls_in Try.func70 Try.ntmps70 rfl rfl (hw) ?_
  repeat' first
    | (refine J.isJ ?_; first | (first | (refine J.o 4 ?_; first | refine J.lR hΓ ?_ (hr := r1.tl.tl.tl.tl) | refine J.lR hΓ ?_ (hr := r2.tl.tl.tl.tl)) | (refine J.fc 58 ?_; refine J.callx eAdd rfl rfl (fun w hw => add_any so ⟨k, 0, 1⟩ hk (show 0 < s.ns.length by omega) (show 1 < s.ns.length by omega) (show k < (nd s.ns 0).p by rw [so.wf.c0]; exact hk) (show k < (nd s.ns 1).p by rw [so.wf.c1]; exact hk) (by omega) hw) ?_; rintro _ _ ⟨s1, y1, rfl, rfl, ad1, it1⟩)) | (first | (refine J.o 0 ?_; refine J.ev' hΓ ?_) | refine J.nil ?_ | (refine J.o 4 ?_; first | refine J.lR hΓ ?_) | (refine J.o 3 ?_; first | refine J.ev' hΓ ?_) | (refine J.o 8 ?_; refine J.bd hΓ ?_) | (refine J.o 10 ?_; refine J.ev' hΓ ?_) | (refine J.o 11 ?_; refine J.ev' hΓ ?_)))
    | (first | refine JC.seq ?_ | refine JC.region ?_ | refine JC.ret ?_ | refine thenK.nn ?_)
    | (fail)
    | fail
  refine ret1f rfl rfl rfl (fun w1 hw => ⟨_, _, rfl, hw, s1, y1, rfl, rfl, ad1, fun α => ?_⟩)
  rw [it1 α]
  show (if α k then fn n s1.ns 1 α else fn n s1.ns 0 α) = α k
  rw [fn_0 ad1.ok.wf, fn_1 ad1.ok.wf]
  cases α k <;> rfl
theorem Var_any {n : Nat} {K : KS} {s : SS} (so : SOk n K s) {order : List Int} {hO hP : Heap} (po : POk K order hO hP) (v : Int) (hv : -9223372036854775808 ≤ v ∧ v ≤ 9223372036854775807) (k : Nat) (hk : rk order v 0 = some k) (hfull : s.ns.length + 1 ≤ 1048576) {w0 w : World} {R : Heap} {L : List Heap} {b0 : Nat} (hw : H w0 R (sF K b0 s ++ (hO :: hP :: L)) w) :
    Calls Try.prog 26 #[.pointer (some ⟨b0, 0, none⟩), .int .i64 v] w fun e w' => ∃ v L', e = .returned v ∧ H w0 R L' w' ∧ ∃ s' y, v = .tuple #[.int .i64 ((y : Nat) : Int), .int .i64 0] ∧ L' = sF K b0 s' ++ (hO :: hP :: L) ∧ Res n K s s' 1 y (fun α => α k) := by
  have hkn : k < n := by
    obtain ⟨_, h2, _⟩ := rk_some hk
    have := po.len; have := so.no; omega
  have two := so.wf.two
  have pm := po.pm
  have hkey := keyI v hv
  have cChk : ∀ L1 w, H w0 R L1 w → Rd R L1 b0 (stO K s.an s.ns.length s.cn) → Calls Try.prog 64 #[.pointer (some ⟨b0, 0, none⟩), .slice none 0 0] w fun e w' => e = .returned (.int .i64 0) ∧ Below w.heap.size w w' := fun L1 w hw hr =>
    check_any K b0 s.an s.cn s.ns.length two [(b0, stO K s.an s.ns.length s.cn)] (List.mem_singleton_self _) [] none 0 (slNil _) (by show 0 ≤ 1000; omega) w (holds2 (hw.rd hr) (Holds.nil w))
  unfold sF at hw
  simp only [List.cons_append, List.nil_append] at hw
  have hget : mget (order.zipIdx 0) v = some k := by rw [mget_zip, hk]
  refine calls_in Try.func26 Try.ntmps26 rfl rfl (hw) ?_
  refine JC.seq ?_
  refine JC.region ?_
  refine J.isJ ?_
  refine J.o 6 ?_
  refine J.bx (fun c1 => ?_)
  repeat' first
    | (refine J.isJ ?_; first | (first | (refine J.fc 64 ?_; refine J.call0 eCheck rfl rfl (fun w hw => cChk _ w hw Rd.hd.tl) ?_)) | (first | (refine J.o 0 ?_; refine J.ev' hΓ ?_) | refine J.nil ?_ | (refine J.o 4 ?_; first | refine J.lR hΓ ?_) | (refine J.o 3 ?_; first | refine J.ev' hΓ ?_) | (refine J.o 5 ?_; first | refine J.t0 hΓ ?_) | (refine J.o 6 ?_; refine J.bx (fun _ => ?_)) | (refine J.o 7 ?_; refine J.al hΓ (fun _ => ?_)) | (refine J.o 10 ?_; refine J.ev' hΓ ?_) | (refine J.o 11 ?_; refine J.ev' hΓ ?_)))
    | (first | refine JC.seq ?_ | refine JC.region ?_ | refine JC.ret ?_ | refine JC.skip ?_ | refine thenK.nn ?_ | refine JC.condF rfl ?_)
    | (fail)
    | fail
  all_goals first | (exfalso; omega) | skip
  unfold stO
  repeat' first
    | (refine J.isJ ?_; first | (first | (refine J.o 9 ?_; refine J.lk (a := v) keyedI ekI_inj pm (by first | exact RdH.hd.tl.tl.tl.tl.tl.tl | exact RdH.hd.tl.tl.tl.tl.tl.tl.tl) hkey hΓ ?_; rw [hget]) | (refine J.o 7 ?_; refine J.al hΓ (fun d1 => ?_)) | (refine J.o 14 ?_; refine J.mfV [.pointer (some ⟨c1, 0, none⟩), .pointer (some ⟨d1, 0, none⟩)] hΓ ?_) | (refine J.fc 56 ?_; refine J.callx eTry rfl rfl (fun w hw => try_any so (Q := fun s' y => Res n K s s' 1 y (fun α => α k)) eVarC [] none 0 [] (slNil _) (by show 0 ≤ 1000; omega) (L := [(d1, intO k)] :: [(c1, ptrS b0)] :: hO :: hP :: L) (fun x hx => by cases hx) rfl (fun Lx w hw => VarC_any so k hkn hfull (Rd.app Lx Rd.hd.tl) (Rd.app Lx Rd.hd) hw) (H.sel (l := [_, _, _, _, _, _, _, _]) (M := L) hw [2, 3, 4, 5, 0, 1, 6, 7])) ?_; rintro _ _ ⟨s1, y1, rfl, rfl, hq⟩)) | (first | (refine J.o 0 ?_; refine J.ev' hΓ ?_) | refine J.nil ?_ | (refine J.o 4 ?_; first | refine J.lR hΓ ?_) | (refine J.o 3 ?_; first | refine J.ev' hΓ ?_) | (refine J.o 5 ?_; first | refine J.t0 hΓ ?_) | (refine J.o 6 ?_; refine J.bx (fun _ => ?_)) | (refine J.o 7 ?_; refine J.al hΓ (fun _ => ?_)) | (refine J.o 10 ?_; refine J.ev' hΓ ?_) | (refine J.o 11 ?_; refine J.ev' hΓ ?_)))
    | (first | refine JC.seq ?_ | refine JC.region ?_ | refine JC.ret ?_ | refine JC.skip ?_ | refine thenK.nn ?_ | refine JC.condF rfl ?_)
    | (fail)
    | fail
  all_goals first | (exfalso; omega) | skip
  refine ret2f rfl rfl rfl rfl rfl (fun w1 hw => ⟨_, _, rfl, H.sel (l := [_, _, _, _, _, _, _, _]) (M := L) hw [0, 1, 2, 3, 6, 7], s1, y1, rfl, rfl, hq⟩)
theorem eEvalS : Entr Try.prog 34 := Entr.of Try.func34 rfl rfl
def stR (K : KS) (b : Nat) (s : SS) (hO : Heap) : Heap := (b, stO K s.an s.ns.length s.cn) :: (s.hN ++ hO)
end Go.Proofs.Ytbhgahjeocnfcaa
namespace Go.Proofs.Ytbhgahjeocnfcaa
open Go Go.Cx
set_option linter.unusedVariables false
set_option linter.unusedSimpArgs false
def asg (n i : Nat) : Nat → Bool := fun k => decide (k < n) && i.testBit (n - 1 - k)
theorem asg_hi {n m r k : Nat} (hm : n - k = m + 1) : asg n (r + 2 ^ m) k = !(asg n r k) := by
  unfold asg
  have e : n - 1 - k = m := by omega
  have hk : k < n := by omega
  rw [e, decide_eq_true hk, Bool.true_and, Bool.true_and, Nat.add_comm, Nat.testBit_two_pow_add_eq]
theorem asg_lt {n m r k : Nat} (hm : n - k = m + 1) (h : r < 2 ^ m) : asg n r k = false := by
  unfold asg
  have e : n - 1 - k = m := by omega
  rw [e, Nat.testBit_lt_two_pow h, Bool.and_false]
theorem asg_other {n m r k j : Nat} (hm : n - k = m + 1) (hj : k < j) : asg n (r + 2 ^ m) j = asg n r j := by
  unfold asg
  by_cases hn : j < n
  · rw [decide_eq_true hn, Bool.true_and, Bool.true_and, Nat.add_comm, Nat.testBit_two_pow_add_gt (by omega)]
  · rw [decide_eq_false hn, Bool.false_and, Bool.false_and]
def blk (n : Nat) (ns : List N3) (k i : Nat) : List Bool := (List.range (2 ^ (n - k))).map fun r => fn n ns i (asg n r)
def tab (n : Nat) (ns : List N3) (i : Nat) : List Bool := blk n ns 0 i
theorem range_two (m : Nat) : List.range (2 ^ (m + 1)) = List.range (2 ^ m) ++ (List.range (2 ^ m)).map (· + 2 ^ m) := by
  rw [Nat.pow_succ, Nat.mul_two, List.range_add]
  congr 1
  exact List.map_congr_left fun a _ => Nat.add_comm _ _
theorem blk_len (n : Nat) (ns : List N3) (k i : Nat) : (blk n ns k i).length = 2 ^ (n - k) := by simp [blk]
theorem blk_later {n : Nat} {ns : List N3} (w : WF n ns) {k i : Nat} (hi : i < ns.length) (hk : k < (nd ns i).p) : blk n ns k i = blk n ns (k + 1) i ++ blk n ns (k + 1) i := by
  have := w.ple hi
  obtain ⟨m, hm⟩ : ∃ m, n - k = m + 1 := ⟨n - k - 1, by omega⟩
  unfold blk
  rw [hm, show n - (k + 1) = m by omega, range_two, List.map_append, List.map_map]
  congr 1
  refine List.map_congr_left fun r hr => fn_dep w _ i (Nat.le_refl _) hi fun j hj => asg_other hm (by omega)
theorem blk_node {n : Nat} {ns : List N3} (w : WF n ns) {i : Nat} (h2 : 2 ≤ i) (hi : i < ns.length) :
    blk n ns (nd ns i).p i = blk n ns ((nd ns i).p + 1) (nd ns i).l ++ blk n ns ((nd ns i).p + 1) (nd ns i).h := by
  have := w.pl i h2 hi
  have hl := w.lp i h2 hi
  have hh := w.hp i h2 hi
  obtain ⟨m, hm⟩ : ∃ m, n - (nd ns i).p = m + 1 := ⟨n - (nd ns i).p - 1, by omega⟩
  unfold blk
  rw [hm, show n - ((nd ns i).p + 1) = m by omega, range_two, List.map_append, List.map_map]
  congr 1
  · refine List.map_congr_left fun r hr => ?_
    rw [fn_node w _ h2 hi, asg_lt hm (List.mem_range.1 hr)]; rfl
  · refine List.map_congr_left fun r hr => ?_
    show fn n ns i (asg n (r + 2 ^ m)) = _
    rw [fn_node w _ h2 hi, asg_hi hm, asg_lt hm (List.mem_range.1 hr)]
    exact fn_dep w _ _ (Nat.le_refl _) (w.hl i h2 hi) fun j hj => asg_other hm (by omega)
theorem blk_end {n : Nat} {ns : List N3} (w : WF n ns) {i : Nat} (h2 : i < 2) : blk n ns n i = [decide (i = 1)] := by
  unfold blk
  rw [Nat.sub_self]
  show [fn n ns i _] = _
  unfold fn; rw [ev_const _ _ _ h2]
theorem blk_inj {n : Nat} {ns : List N3} (w : WF n ns) : ∀ (m k i j : Nat), n - k ≤ m → k ≤ (nd ns i).p → k ≤ (nd ns j).p → i < ns.length → j < ns.length → blk n ns k i = blk n ns k j → ∀ a, fn n ns i a = fn n ns j a
  | m, k, i, j, hm, hki, hkj, hi, hj, h => fun a => by
    have hpi := w.ple hi
    have hpj := w.ple hj
    have len : ∀ x y, (blk n ns (k + 1) x).length = (blk n ns (k + 1) y).length := fun x y => by rw [blk_len, blk_len]
    -- the halves of a block and what they say
    have half : ∀ x, k ≤ (nd ns x).p → x < ns.length → k < n → ∃ l h, blk n ns k x = blk n ns (k + 1) l ++ blk n ns (k + 1) h ∧ k + 1 ≤ (nd ns l).p ∧ k + 1 ≤ (nd ns h).p ∧ l < ns.length ∧ h < ns.length ∧ fn n ns x a = if a k then fn n ns h a else fn n ns l a := by
      intro x hkx hx hkn
      rcases Nat.lt_or_ge k (nd ns x).p with hlt | hge
      · exact ⟨x, x, blk_later w hx hlt, hlt, hlt, hx, hx, by split <;> rfl⟩
      · have hp : (nd ns x).p = k := by omega
        have h2 := w.nonconst (show (nd ns x).p < n by omega)
        exact ⟨(nd ns x).l, (nd ns x).h, by have := blk_node w h2 hx; rw [hp] at this; exact this, by have := w.lp x h2 hx; omega, by have := w.hp x h2 hx; omega, w.ll x h2 hx, w.hl x h2 hx, by rw [fn_node w a h2 hx, hp]⟩
    rcases Nat.lt_or_ge k n with hkn | hkn
    · obtain ⟨m', rfl⟩ : ∃ m', m = m' + 1 := ⟨m - 1, by omega⟩
      obtain ⟨l1, h1, e1, a1, b1, c1, d1, f1⟩ := half i hki hi hkn
      obtain ⟨l2, h2, e2, a2, b2, c2, d2, f2⟩ := half j hkj hj hkn
      rw [e1, e2] at h
      obtain ⟨g1, g2⟩ := List.append_inj h (len _ _)
      rw [f1, f2, blk_inj w m' (k + 1) h1 h2 (by omega) b1 b2 d1 d2 g2 a, blk_inj w m' (k + 1) l1 l2 (by omega) a1 a2 c1 c2 g1 a]
    · obtain rfl : k = n := by omega
      have hc : ∀ x, k ≤ (nd ns x).p → x < ns.length → x < 2 := fun x h hx => by
        rcases Nat.lt_or_ge x 2 with h2 | h2
        · exact h2
        · have := w.pl x h2 hx; omega
      rw [blk_end w (hc i hki hi), blk_end w (hc j hkj hj)] at h
      unfold fn
      rw [ev_const _ _ _ (hc i hki hi), ev_const _ _ _ (hc j hkj hj)]
      simpa using h
theorem blk_eq {n : Nat} {ns : List N3} (w : WF n ns) {k i j : Nat} (hki : k ≤ (nd ns i).p) (hkj : k ≤ (nd ns j).p) (hi : i < ns.length) (hj : j < ns.length) : blk n ns k i = blk n ns k j ↔ i = j :=
  ⟨fun h => w.eq hi hj (blk_inj w (n - k) k i j (Nat.le_refl _) hki hkj hi hj h), fun h => by rw [h]⟩
def cS (ns : List N3) : Nat → Nat → Nat
  | 0, i => i
  | f + 1, i => if i < 2 then i else 2 ^ ((nd ns (nd ns i).l).p - (nd ns i).p - 1) * cS ns f (nd ns i).l + 2 ^ ((nd ns (nd ns i).h).p - (nd ns i).p - 1) * cS ns f (nd ns i).h
def cN (n : Nat) (ns : List N3) (i : Nat) : Nat := cS ns n i
theorem cS_const (ns : List N3) {i : Nat} (h : i < 2) : ∀ f, cS ns f i = i
  | 0 => rfl
  | f + 1 => by rw [cS, if_pos h]
theorem cS_fuel {n : Nat} {ns : List N3} (w : WF n ns) : ∀ (f g i : Nat), i < ns.length → n - (nd ns i).p ≤ f → n - (nd ns i).p ≤ g → cS ns f i = cS ns g i
  | f, g, i, hi, hf, hg => by
    rcases Nat.lt_or_ge i 2 with h2 | h2
    · rw [cS_const _ h2, cS_const _ h2]
    · have hp := w.pl i h2 hi
      obtain ⟨f', rfl⟩ : ∃ f', f = f' + 1 := ⟨f - 1, by omega⟩
      obtain ⟨g', rfl⟩ : ∃ g', g = g' + 1 := ⟨g - 1, by omega⟩
      have hl := w.lp i h2 hi
      have hh := w.hp i h2 hi
      have hn : ¬ i < 2 := by omega
      rw [cS, cS, if_neg hn, if_neg hn, cS_fuel w f' g' _ (w.ll i h2 hi) (by omega) (by omega), cS_fuel w f' g' _ (w.hl i h2 hi) (by omega) (by omega)]
theorem cN_const {n : Nat} {ns : List N3} {i : Nat} (h : i < 2) : cN n ns i = i := cS_const ns h n
theorem cN_node {n : Nat} {ns : List N3} (w : WF n ns) {i : Nat} (h2 : 2 ≤ i) (hi : i < ns.length) :
    cN n ns i = 2 ^ ((nd ns (nd ns i).l).p - (nd ns i).p - 1) * cN n ns (nd ns i).l + 2 ^ ((nd ns (nd ns i).h).p - (nd ns i).p - 1) * cN n ns (nd ns i).h := by
  have hp := w.pl i h2 hi
  have hl := w.lp i h2 hi
  have hh := w.hp i h2 hi
  unfold cN
  rw [cS_fuel w n ((n - 1) + 1) i hi (by omega) (by omega), cS, if_neg (by omega), cS_fuel w (n - 1) n _ (w.ll i h2 hi) (by omega) (by omega), cS_fuel w (n - 1) n _ (w.hl i h2 hi) (by omega) (by omega)]
theorem blk_count {n : Nat} {ns : List N3} (w : WF n ns) : ∀ (m k i : Nat), n - k ≤ m → k ≤ (nd ns i).p → i < ns.length → (blk n ns k i).count true = 2 ^ ((nd ns i).p - k) * cN n ns i
  | m, k, i, hm, hk, hi => by
    have hpi := w.ple hi
    rcases Nat.lt_or_ge k (nd ns i).p with hlt | hge
    · obtain ⟨m', rfl⟩ : ∃ m', m = m' + 1 := ⟨m - 1, by omega⟩
      rw [blk_later w hi hlt, List.count_append, blk_count w m' (k + 1) i (by omega) hlt hi, ← Nat.two_mul, ← Nat.mul_assoc, ← Nat.pow_succ', show ((nd ns i).p - (k + 1)).succ = (nd ns i).p - k by omega]
    · obtain rfl : k = (nd ns i).p := by omega
      rw [Nat.sub_self, Nat.pow_zero, Nat.one_mul]
      rcases Nat.lt_or_ge i 2 with h2 | h2
      · rw [w.pconst h2, blk_end w h2, cN_const h2]
        have : i = 0 ∨ i = 1 := by omega
        rcases this with rfl | rfl <;> rfl
      · have hp := w.pl i h2 hi
        have hl := w.lp i h2 hi
        have hh := w.hp i h2 hi
        obtain ⟨m', rfl⟩ : ∃ m', m = m' + 1 := ⟨m - 1, by omega⟩
        rw [blk_node w h2 hi, List.count_append, blk_count w m' _ _ (by omega) hl (w.ll i h2 hi), blk_count w m' _ _ (by omega) hh (w.hl i h2 hi), cN_node w h2 hi]
        rfl
theorem tab_count {n : Nat} {ns : List N3} (w : WF n ns) {i : Nat} (hi : i < ns.length) : 2 ^ (nd ns i).p * cN n ns i = (tab n ns i).count true := by
  unfold tab
  rw [blk_count w n 0 i (by omega) (by omega) hi, Nat.sub_zero]
theorem cN_le {n : Nat} {ns : List N3} (w : WF n ns) {i : Nat} (hi : i < ns.length) : 2 ^ (nd ns i).p * cN n ns i ≤ 2 ^ n := by
  rw [tab_count w hi]
  refine Nat.le_trans List.count_le_length ?_
  unfold tab
  rw [blk_len, Nat.sub_zero]; exact Nat.le_refl _
inductive Rch (ns : List N3) (i : Nat) : Nat → Prop
  | refl : Rch ns i i
  | low {j : Nat} : Rch ns i j → 2 ≤ j → Rch ns i (nd ns j).l
  | high {j : Nat} : Rch ns i j → 2 ≤ j → Rch ns i (nd ns j).h
theorem Rch.lt {n : Nat} {ns : List N3} (w : WF n ns) {i j : Nat} (hi : i < ns.length) (h : Rch ns i j) : j < ns.length := by
  induction h with
  | refl => exact hi
  | low _ h2 ih => exact w.ll _ h2 ih
  | high _ h2 ih => exact w.hl _ h2 ih
theorem Rch.trans {ns : List N3} {i j k : Nat} (h : Rch ns i j) (g : Rch ns j k) : Rch ns i k := by
  induction g with
  | refl => exact h
  | low _ h2 ih => exact .low ih h2
  | high _ h2 ih => exact .high ih h2
def lvl (n : Nat) (ns : List N3) (i : Nat) : Nat → List Nat
  | 0 => [i]
  | k + 1 => (lvl n ns i k).flatMap fun j => if (nd ns j).p = k then [(nd ns j).l, (nd ns j).h] else [j, j]
theorem lvl_ok {n : Nat} {ns : List N3} (w : WF n ns) {i : Nat} (hi : i < ns.length) : ∀ k, k ≤ n → ∀ j ∈ lvl n ns i k, j < ns.length ∧ k ≤ (nd ns j).p ∧ Rch ns i j
  | 0, _, j, hj => by
    rw [List.mem_singleton.1 hj]; exact ⟨hi, Nat.zero_le _, .refl⟩
  | k + 1, hk, j, hj => by
    obtain ⟨x, hx, hj⟩ := List.mem_flatMap.1 hj
    obtain ⟨h1, h2, h3⟩ := lvl_ok w hi k (by omega) x hx
    split at hj
    · rename_i hp
      have h4 := w.nonconst (show (nd ns x).p < n by omega)
      rcases List.mem_cons.1 hj with rfl | hj
      · exact ⟨w.ll x h4 h1, by have := w.lp x h4 h1; omega, .low h3 h4⟩
      · rw [List.mem_singleton.1 hj]
        exact ⟨w.hl x h4 h1, by have := w.hp x h4 h1; omega, .high h3 h4⟩
    · have : j = x := by simpa using hj
      subst this
      exact ⟨h1, by omega, h3⟩
theorem lvl_rch {n : Nat} {ns : List N3} (w : WF n ns) {i j : Nat} (hi : i < ns.length) (h : Rch ns i j) : ∀ k, k ≤ (nd ns j).p → k ≤ n → (∃ x ∈ lvl n ns i k, Rch ns x j) := by
  intro k
  induction k with
  | zero => intro _ _; exact ⟨i, List.mem_singleton_self i, h⟩
  | succ k ih =>
    intro hk hn
    obtain ⟨x, hx, hr⟩ := ih (by omega) (by omega)
    obtain ⟨h1, h2, h3⟩ := lvl_ok w hi k (by omega) x hx
    by_cases hp : (nd ns x).p = k
    · have h4 := w.nonconst (show (nd ns x).p < n by omega)
      -- x is not j: the way goes over one of its parts
      have key : j = x ∨ Rch ns (nd ns x).l j ∨ Rch ns (nd ns x).h j := by
        clear hk ih h
        induction hr with
        | refl => exact .inl rfl
        | low hr h2 ih =>
          rcases ih with e | e | e
          · rw [e]; exact .inr (.inl .refl)
          · exact .inr (.inl (.low e h2))
          · exact .inr (.inr (.low e h2))
        | high hr h2 ih =>
          rcases ih with e | e | e
          · rw [e]; exact .inr (.inr .refl)
          · exact .inr (.inl (.high e h2))
          · exact .inr (.inr (.high e h2))
      rcases key with e | e | e
      · subst e; omega
      · exact ⟨_, List.mem_flatMap.2 ⟨x, hx, by rw [if_pos hp]; simp⟩, e⟩
      · exact ⟨_, List.mem_flatMap.2 ⟨x, hx, by rw [if_pos hp]; simp⟩, e⟩
    · exact ⟨x, List.mem_flatMap.2 ⟨x, hx, by rw [if_neg hp]; simp⟩, hr⟩
theorem rch_p {n : Nat} {ns : List N3} (w : WF n ns) {i j : Nat} (hi : i < ns.length) (h : Rch ns i j) : i = j ∨ (2 ≤ i ∧ (nd ns i).p < (nd ns j).p) := by
  induction h with
  | refl => exact .inl rfl
  | low hr h2 ih =>
    have h3 := w.lp _ h2 (hr.lt w hi)
    rcases ih with e | ⟨e1, e2⟩
    · subst e; exact .inr ⟨h2, h3⟩
    · exact .inr ⟨e1, by omega⟩
  | high hr h2 ih =>
    have h3 := w.hp _ h2 (hr.lt w hi)
    rcases ih with e | ⟨e1, e2⟩
    · subst e; exact .inr ⟨h2, h3⟩
    · exact .inr ⟨e1, by omega⟩
theorem lvl_iff {n : Nat} {ns : List N3} (w : WF n ns) {i j k : Nat} (hi : i < ns.length) (hk : k < n) : (j ∈ lvl n ns i k ∧ (nd ns j).p = k) ↔ (Rch ns i j ∧ 2 ≤ j ∧ (nd ns j).p = k) := by
  constructor
  · rintro ⟨h1, h2⟩
    obtain ⟨h3, h4, h5⟩ := lvl_ok w hi k (by omega) j h1
    exact ⟨h5, w.nonconst (by omega), h2⟩
  · rintro ⟨h1, h2, h3⟩
    obtain ⟨x, hx, hr⟩ := lvl_rch w hi h1 k (by omega) (by omega)
    obtain ⟨h4, h5, _⟩ := lvl_ok w hi k (by omega) x hx
    rcases rch_p w h4 hr with e | ⟨_, e⟩
    · subst e; exact ⟨hx, h3⟩
    · omega
theorem flatMap_cong {α β : Type} {l : List α} {f g : α → List β} (h : ∀ x ∈ l, f x = g x) : l.flatMap f = l.flatMap g := by
  induction l with
  | nil => rfl
  | cons x l ih => rw [List.flatMap_cons, List.flatMap_cons, h x (by simp), ih fun y hy => h y (by simp [hy])]
theorem tab_lvl {n : Nat} {ns : List N3} (w : WF n ns) {i : Nat} (hi : i < ns.length) : ∀ k, k ≤ n → tab n ns i = (lvl n ns i k).flatMap (blk n ns k)
  | 0, _ => by simp [lvl, tab]
  | k + 1, hk => by
    rw [tab_lvl w hi k (by omega), lvl, List.flatMap_assoc]
    refine flatMap_cong fun j hj => ?_
    obtain ⟨h1, h2, _⟩ := lvl_ok w hi k (by omega) j hj
    split
    · rename_i hp
      have h4 := w.nonconst (show (nd ns j).p < n by omega)
      have := blk_node w h4 h1
      rw [hp] at this
      rw [this]; simp
    · rw [blk_later w h1 (by omega)]; simp
end Go.Proofs.Ytbhgahjeocnfcaa
namespace Go.Proofs.Ytbhgahjeocnfcaa
open Go Go.Cx Go.RowKit
set_option linter.unusedVariables false
set_option linter.unusedSimpArgs false
set_option maxHeartbeats 4000000
attribute [local irreducible] J JC thenK blockK loopK drawK retK QW Qt pel List.set Calls
open Go.Maps
set_option maxRecDepth 8000
attribute [local irreducible] JE Br eK0 eK3 brK pc
def evBo (b : Bool) : Value := .bool b
structure Vis (ns : List N3) (out out' : List Nat) (r : Nat) : Prop where
  sub : ∀ x ∈ out, x ∈ out'
  has : r < 2 ∨ r ∈ out'
  new : ∀ x ∈ out', x ∈ out ∨ (2 ≤ x ∧ Rch ns r x)
  cl : ∀ x ∈ out', x ∈ out ∨ (((nd ns x).l < 2 ∨ (nd ns x).l ∈ out') ∧ ((nd ns x).h < 2 ∨ (nd ns x).h ∈ out'))
def seenL (out : List Nat) : List (Int × Bool) := (0, true) :: (1, true) :: out.map fun x : Nat => ((x : Int), true)
theorem seen_get (out : List Nat) (b : Nat) : mget (seenL out) (b : Int) = if b < 2 ∨ b ∈ out then some true else none := by
  have h2 : ∀ l : List Nat, mget (l.map fun x : Nat => ((x : Int), true)) (b : Int) = if b ∈ l then some true else none := by
    intro l
    induction l with
    | nil => rfl
    | cons x l ih =>
      unfold mget at ih ⊢
      rw [List.map_cons, List.find?_cons]
      by_cases hx : x = b
      · subst hx; simp
      · have h3 : ¬ ((x : Int) = (b : Int)) := by omega
        have h4 : ¬ (b = x) := fun e => hx e.symm
        simp only [h3, decide_false, List.mem_cons, h4, false_or]
        exact ih
  have h0 := h2 out
  unfold seenL
  unfold mget at h0 ⊢
  rw [List.find?_cons, List.find?_cons]
  by_cases e0 : b = 0
  · subst e0; simp
  · by_cases e1 : b = 1
    · subst e1; simp
    · have h3 : ¬ ((0 : Int) = (b : Int)) := by omega
      have h4 : ¬ ((1 : Int) = (b : Int)) := by omega
      have h5 : ¬ b < 2 := by omega
      simp only [h3, h4, decide_false, h5, false_or]
      exact h0
theorem seen_put {out : List Nat} {b : Nat} (h : ¬ (b < 2 ∨ b ∈ out)) : mput (seenL out) (b : Int) true = seenL (out ++ [b]) := by
  rw [mput_new true (mget_out (by rw [seen_get, if_neg h]))]
  unfold seenL
  simp
theorem nodup_sub_len : ∀ (l m : List Nat), l.Nodup → (∀ x ∈ l, x ∈ m) → l.length ≤ m.length
  | [], _, _, _ => Nat.zero_le _
  | x :: l, m, hn, hs => by
    obtain ⟨h1, h2⟩ := List.nodup_cons.1 hn
    obtain ⟨s, t, rfl⟩ := List.append_of_mem (hs x (by simp))
    have := nodup_sub_len l (s ++ t) h2 fun y hy => by
      have h3 := hs y (by simp [hy])
      rcases List.mem_append.1 h3 with h4 | h4
      · exact List.mem_append_left _ h4
      · rcases List.mem_cons.1 h4 with h5 | h5
        · subst h5; exact absurd hy h1
        · exact List.mem_append_right _ h5
    simp only [List.length_append, List.length_cons] at this ⊢
    omega
theorem nodup_len {l : List Nat} {m : Nat} (hn : l.Nodup) (h : ∀ x ∈ l, x < m) : l.length ≤ m := by
  have := nodup_sub_len l (List.range m) hn fun x hx => List.mem_range.2 (h x hx)
  rwa [List.length_range] at this
theorem Vis.join {ns : List N3} {out o1 o2 : List Nat} {b : Nat} (h2 : 2 ≤ b) (v1 : Vis ns (out ++ [b]) o1 (nd ns b).l) (v2 : Vis ns o1 o2 (nd ns b).h) : Vis ns out o2 b := by
  have hb : b ∈ o2 := v2.sub _ (v1.sub _ (List.mem_append_right _ (List.mem_singleton_self _)))
  refine ⟨fun x hx => v2.sub _ (v1.sub _ (List.mem_append_left _ hx)), .inr hb, fun x hx => ?_, fun x hx => ?_⟩
  · rcases v2.new x hx with h | ⟨g1, g2⟩
    · rcases v1.new x h with h | ⟨g1, g2⟩
      · rcases List.mem_append.1 h with h | h
        · exact .inl h
        · rw [List.mem_singleton.1 h]; exact .inr ⟨h2, .refl⟩
      · exact .inr ⟨g1, (Rch.low .refl h2).trans g2⟩
    · exact .inr ⟨g1, (Rch.high .refl h2).trans g2⟩
  · rcases v2.cl x hx with h | h
    · rcases v1.cl x h with h | ⟨h3, h4⟩
      · rcases List.mem_append.1 h with h | h
        · exact .inl h
        · rw [List.mem_singleton.1 h]
          exact .inr ⟨v1.has.imp id (v2.sub _), v2.has⟩
      · exact .inr ⟨h3.imp id (v2.sub _), h4.imp id (v2.sub _)⟩
    · exact .inr h
theorem Vis.all {ns : List N3} {o : List Nat} {b : Nat} (v : Vis ns [] o b) (x : Nat) : x ∈ o ↔ (2 ≤ x ∧ Rch ns b x) := by
  constructor
  · intro hx
    rcases v.new x hx with h | h
    · cases h
    · exact h
  · rintro ⟨h2, hr⟩
    have key : x < 2 ∨ x ∈ o := by
      clear h2
      induction hr with
      | refl => exact v.has
      | low _ g2 ih =>
        rcases ih with g | g
        · omega
        · rcases v.cl _ g with g | g
          · cases g
          · exact g.1
      | high _ g2 ih =>
        rcases ih with g | g
        · omega
        · rcases v.cl _ g with g | g
          · cases g
          · exact g.2
    exact key.resolve_left (by omega)
theorem eVisit : Entr Try.prog 119 := Entr.of Try.func119 rfl rfl
theorem eBelow : Entr Try.prog 65 := Entr.of Try.func65 rfl rfl
theorem eSize : Entr Try.prog 20 := Entr.of Try.func20 rfl rfl
def natI (l : List Nat) : List Int := l.map fun x : Nat => (x : Int)
def mapO (b : Nat) : Obj := .cells ⟨[.map (some b)]⟩ 114 (0, 0)
def outO (a : Option Addr) (l c : Nat) : Obj := .cells ⟨[.slice a l c]⟩ 28 (0, 0)
def fnV (c5 c6 c7 c2 : Nat) : Obj := .cells ⟨[.func (.func 119) ⟨[]⟩ ⟨[.pointer (some ⟨c5, 0, none⟩), .pointer (some ⟨c6, 0, none⟩), .pointer (some ⟨c7, 0, none⟩), .pointer (some ⟨c2, 0, none⟩)]⟩]⟩ 161 (0, 0)
theorem visit_any {n : Nat} {K : KS} {s : SS} (so : SOk n K s) (b0 c5 c6 c7 c2 bm : Nat) : ∀ (m b : Nat), n - (nd s.ns b).p = m → b < s.ns.length → ∀ (out : List Nat) (ao : Option Addr) (co : Nat) (hO hM : Heap), out.Nodup → (∀ x ∈ out, x < s.ns.length) →
    OwT encI 1 3 ao co (natI out) hO → MapT Try.prog 3 ekI evBo (seenL out) bm hM →
    ∀ {w0 w : World} {R : Heap} {L : List Heap}, H w0 R ([(c6, outO ao out.length co)] :: hO :: hM :: L) w → Rd R L c5 (mapO bm) → Rd R L c7 (fnV c5 c6 c7 c2) → Rd R L c2 (ptrS b0) → Rd R L b0 (stO K s.an s.ns.length s.cn) → RdH R L s.hN →
    Calls Try.prog 119 #[.int .i64 (b : Int), .pointer (some ⟨c5, 0, none⟩), .pointer (some ⟨c6, 0, none⟩), .pointer (some ⟨c7, 0, none⟩), .pointer (some ⟨c2, 0, none⟩)] w fun e w' => ∃ v L', e = .returned v ∧ H w0 R L' w' ∧ ∃ out' ao' co' hO' hM', v = .tuple #[] ∧ L' = [(c6, outO ao' out'.length co')] :: hO' :: hM' :: L ∧ out'.Nodup ∧ (∀ x ∈ out', x < s.ns.length) ∧ OwT encI 1 3 ao' co' (natI out') hO' ∧ MapT Try.prog 3 ekI evBo (seenL out') bm hM' ∧ Vis s.ns out out' b := by
  intro m
  induction m using Nat.strongRecOn with
  | ind m ih =>
  intro b hm hb out ao co hO hM nod rng oo mp w0 w R L hw r5 r7 r2 rb rn
  have sm := so.sm
  have r5' := r5
  have r7' := r7
  have r2' := r2
  have rb' := rb
  unfold mapO at r5'
  unfold fnV at r7'
  unfold ptrS at r2'
  unfold stO at rb'
  have hsl := so.ow.sl
  have hkey := keyI (b : Int) (by omega)
  have hget := seen_get out b
  by_cases hin : b < 2 ∨ b ∈ out
  · rw [if_pos hin] at hget
    refine calls_in Try.func119 Try.ntmps119 rfl rfl (hw) ?_
    unfold outO
    repeat' first
      | (refine J.isJ ?_; first | (first | (refine J.o 4 ?_; first | refine J.lR hΓ ?_ (hr := r5'.tl.tl.tl)) | (refine J.o 9 ?_; refine J.lk (a := (b : Int)) keyedI ekI_inj mp (by first | exact RdH.hd | exact RdH.hd.tl | exact RdH.hd.tl.tl | exact RdH.hd.tl.tl.tl | exact RdH.hd.tl.tl.tl.tl | exact RdH.hd.tl.tl.tl.tl.tl | exact RdH.hd.tl.tl.tl.tl.tl.tl | exact RdH.hd.tl.tl.tl.tl.tl.tl.tl | exact RdH.old (fun _ hh => hh) | assumption) hkey hΓ ?_; rw [hget])) | (first | (refine J.o 0 ?_; refine J.ev' hΓ ?_) | refine J.nil ?_ | (refine J.o 4 ?_; first | refine J.lT default hΓ ?_ | refine J.lR hΓ ?_) | (refine J.o 3 ?_; first | refine J.iJ hΓ ?_ | refine J.fP hΓ ?_ | refine J.ev' hΓ ?_) | (refine J.o 5 ?_; first | refine J.t2 hΓ ?_) | (refine J.o 9 ?_; refine J.bl hΓ (fun _ => ?_)) | (refine J.o 10 ?_; refine J.ev' hΓ ?_) | (refine J.o 11 ?_; refine J.ev' hΓ ?_)))
      | (first | refine JC.seq ?_ | refine JC.region ?_ | refine JC.ret ?_ | refine JC.skip ?_ | refine thenK.nn ?_ | refine thenK.r ?_ | refine JC.condT rfl ?_ | refine JC.condF rfl ?_ | refine drawK.nn ?_)
      | (fail)
      | fail
    all_goals first | (exfalso; omega) | skip
    all_goals first | refine ret0 rfl (fun w1 hw => ⟨_, _, rfl, hw, out, ao, co, hO, hM, rfl, rfl, nod, rng, oo, mp, ⟨fun x hx => hx, hin, fun x hx => .inl hx, fun x hx => .inl hx⟩⟩) | refine ret0n rfl (fun w1 hw => ⟨_, _, rfl, hw, out, ao, co, hO, hM, rfl, rfl, nod, rng, oo, mp, ⟨fun x hx => hx, hin, fun x hx => .inl hx, fun x hx => .inl hx⟩⟩)
  · rw [if_neg hin] at hget
    have hb2 : 2 ≤ b := by omega
    have hlen : (natI out).length = out.length := by unfold natI; rw [List.length_map]
    have hlen2 : (natI out ++ [(b : Int)]).length = out.length + 1 := by rw [List.length_append, hlen]; rfl
    have ho128 : out.length ≤ 1048576 := Nat.le_trans (nodup_len nod rng) sm
    refine calls_in Try.func119 Try.ntmps119 rfl rfl (hw) ?_
    unfold outO
    repeat' first
      | (refine J.isJ ?_; first | (first | (refine J.o 4 ?_; first | refine J.lR hΓ ?_ (hr := r5'.tl.tl.tl) | refine J.lR hΓ ?_ (hr := Rd.hd.tl)) | (refine J.o 9 ?_; refine J.lk (a := (b : Int)) keyedI ekI_inj mp (by first | exact RdH.hd | exact RdH.hd.tl | exact RdH.hd.tl.tl | exact RdH.hd.tl.tl.tl | exact RdH.hd.tl.tl.tl.tl | exact RdH.hd.tl.tl.tl.tl.tl | exact RdH.hd.tl.tl.tl.tl.tl.tl | exact RdH.hd.tl.tl.tl.tl.tl.tl.tl | exact RdH.old (fun _ hh => hh) | assumption) hkey hΓ ?_; rw [hget]) | (refine J.o 9 ?_; refine J.perm br2 ?_; refine J.mup (a := (b : Int)) (ev := evBo) true keyedI ekI_inj mp hkey hΓ (fun h3 mp3 => ?_)) | ((refine J.o 9 ?_; first | (first | (refine J.ap1 (enc := encI) [(b : Int)] hΓ (fun a2 k2 h2 o2 => ?_)) | (refine J.perm (br1.cons _) ?_; refine J.ap1 (enc := encI) [(b : Int)] hΓ (fun a2 k2 h2 o2 => ?_)) | (refine J.perm (br2.cons _) ?_; refine J.ap1 (enc := encI) [(b : Int)] hΓ (fun a2 k2 h2 o2 => ?_)) | (refine J.perm (br3.cons _) ?_; refine J.ap1 (enc := encI) [(b : Int)] hΓ (fun a2 k2 h2 o2 => ?_)) | (refine J.perm (br4.cons _) ?_; refine J.ap1 (enc := encI) [(b : Int)] hΓ (fun a2 k2 h2 o2 => ?_)) | (refine J.perm (br5.cons _) ?_; refine J.ap1 (enc := encI) [(b : Int)] hΓ (fun a2 k2 h2 o2 => ?_))) | (refine J.perm br1 ?_; first | (refine J.ap1 (enc := encI) [(b : Int)] hΓ (fun a2 k2 h2 o2 => ?_)) | (refine J.perm (br1.cons _) ?_; refine J.ap1 (enc := encI) [(b : Int)] hΓ (fun a2 k2 h2 o2 => ?_)) | (refine J.perm (br2.cons _) ?_; refine J.ap1 (enc := encI) [(b : Int)] hΓ (fun a2 k2 h2 o2 => ?_)) | (refine J.perm (br3.cons _) ?_; refine J.ap1 (enc := encI) [(b : Int)] hΓ (fun a2 k2 h2 o2 => ?_)) | (refine J.perm (br4.cons _) ?_; refine J.ap1 (enc := encI) [(b : Int)] hΓ (fun a2 k2 h2 o2 => ?_)) | (refine J.perm (br5.cons _) ?_; refine J.ap1 (enc := encI) [(b : Int)] hΓ (fun a2 k2 h2 o2 => ?_))) | (refine J.perm br2 ?_; first | (refine J.ap1 (enc := encI) [(b : Int)] hΓ (fun a2 k2 h2 o2 => ?_)) | (refine J.perm (br1.cons _) ?_; refine J.ap1 (enc := encI) [(b : Int)] hΓ (fun a2 k2 h2 o2 => ?_)) | (refine J.perm (br2.cons _) ?_; refine J.ap1 (enc := encI) [(b : Int)] hΓ (fun a2 k2 h2 o2 => ?_)) | (refine J.perm (br3.cons _) ?_; refine J.ap1 (enc := encI) [(b : Int)] hΓ (fun a2 k2 h2 o2 => ?_)) | (refine J.perm (br4.cons _) ?_; refine J.ap1 (enc := encI) [(b : Int)] hΓ (fun a2 k2 h2 o2 => ?_)) | (refine J.perm (br5.cons _) ?_; refine J.ap1 (enc := encI) [(b : Int)] hΓ (fun a2 k2 h2 o2 => ?_)))); rw [hlen2])) | (first | (refine J.o 0 ?_; refine J.ev' hΓ ?_) | refine J.nil ?_ | (refine J.o 4 ?_; first | refine J.lT default hΓ ?_ | refine J.lR hΓ ?_) | (refine J.o 3 ?_; first | refine J.iJ hΓ ?_ | refine J.fP hΓ ?_ | refine J.ev' hΓ ?_) | (refine J.o 5 ?_; first | refine J.t2 hΓ ?_) | (refine J.o 9 ?_; refine J.bl hΓ (fun _ => ?_)) | (refine J.o 10 ?_; refine J.ev' hΓ ?_) | (refine J.o 11 ?_; refine J.ev' hΓ ?_)))
      | (first | refine JC.seq ?_ | refine JC.region ?_ | refine JC.ret ?_ | refine JC.skip ?_ | refine thenK.nn ?_ | refine thenK.r ?_ | refine JC.condT rfl ?_ | refine JC.condF rfl ?_ | refine drawK.nn ?_)
      | (fail)
      | fail
    rw [seen_put hin] at mp3
    have hnat : natI out ++ [(b : Int)] = natI (out ++ [b]) := by unfold natI; rw [List.map_append]; rfl
    rw [hnat] at o2
    have hpb := so.wf.pl b hb2 hb
    have hlp := so.wf.lp b hb2 hb
    have hhp := so.wf.hp b hb2 hb
    have hll := so.wf.ll b hb2 hb
    have hlh := so.wf.hl b hb2 hb
    have hl1 : (out ++ [b]).length = out.length + 1 := by simp
    have nod1 : (out ++ [b]).Nodup := by
      rw [List.nodup_append]
      refine ⟨nod, by simp, fun x hx y hy => ?_⟩
      rw [List.mem_singleton.1 hy]
      intro e; subst e
      exact hin (.inr hx)
    have rng1 : ∀ x ∈ out ++ [b], x < s.ns.length := fun x hx => by
      rcases List.mem_append.1 hx with h | h
      · exact rng x h
      · rw [List.mem_singleton.1 h]; exact hb
    repeat' first
      | (refine J.isJ ?_; first | (first | (refine J.o 4 ?_; first | refine J.lR hΓ ?_ (hr := r7'.tl.tl.tl) | refine J.lR hΓ ?_ (hr := r2'.tl.tl.tl) | refine J.lR hΓ ?_ (hr := rb'.tl.tl.tl) | refine J.lT default hΓ ?_ (hs := hsl) (hr := rn.tl.tl.tl))) | (first | (refine J.o 0 ?_; refine J.ev' hΓ ?_) | refine J.nil ?_ | (refine J.o 4 ?_; first | refine J.lT default hΓ ?_ | refine J.lR hΓ ?_) | (refine J.o 3 ?_; first | refine J.iJ hΓ ?_ | refine J.fP hΓ ?_ | refine J.ev' hΓ ?_) | (refine J.o 5 ?_; first | refine J.t2 hΓ ?_) | (refine J.o 9 ?_; refine J.bl hΓ (fun _ => ?_)) | (refine J.o 10 ?_; refine J.ev' hΓ ?_) | (refine J.o 11 ?_; refine J.ev' hΓ ?_)))
      | (first | refine JC.seq ?_ | refine JC.region ?_ | refine JC.ret ?_ | refine JC.skip ?_ | refine thenK.nn ?_ | refine thenK.r ?_ | refine JC.condT rfl ?_ | refine JC.condF rfl ?_ | refine drawK.nn ?_)
      | ((refine JC.drawO [(1,0),(1,1),(0,2),(0,3),(1,4),(0,5),(0,6),(0,7),(1,8),(2,9)] (by kernel_rfl) (by kernel_rfl) ?_))
      | fail
    refine J.isJ ?_
    refine J.o 9 ?_
    refine J.callvx eVisit rfl rfl rfl (fun w hw => ih _ (by omega) (nd s.ns b).l rfl hll (out ++ [b]) a2 k2 h2 h3 nod1 rng1 o2 mp3 (by rw [hl1]; exact hw.perm br2) r5 r7 r2 rb rn) ?_
    rintro _ _ ⟨out1, a3, k3, hO1, hM1, rfl, rfl, nod2, rng2, oo1, mp4, vis1⟩
    unfold outO
    repeat' first
      | (refine J.isJ ?_; first | (first | (refine J.o 4 ?_; first | refine J.lR hΓ ?_ (hr := r7'.tl.tl.tl) | refine J.lR hΓ ?_ (hr := r2'.tl.tl.tl) | refine J.lR hΓ ?_ (hr := rb'.tl.tl.tl) | refine J.lT default hΓ ?_ (hs := hsl) (hr := rn.tl.tl.tl))) | (first | (refine J.o 0 ?_; refine J.ev' hΓ ?_) | refine J.nil ?_ | (refine J.o 4 ?_; first | refine J.lT default hΓ ?_ | refine J.lR hΓ ?_) | (refine J.o 3 ?_; first | refine J.iJ hΓ ?_ | refine J.fP hΓ ?_ | refine J.ev' hΓ ?_) | (refine J.o 5 ?_; first | refine J.t2 hΓ ?_) | (refine J.o 9 ?_; refine J.bl hΓ (fun _ => ?_)) | (refine J.o 10 ?_; refine J.ev' hΓ ?_) | (refine J.o 11 ?_; refine J.ev' hΓ ?_)))
      | (first | refine JC.seq ?_ | refine JC.region ?_ | refine JC.ret ?_ | refine JC.skip ?_ | refine thenK.nn ?_ | refine thenK.r ?_ | refine JC.condT rfl ?_ | refine JC.condF rfl ?_ | refine drawK.nn ?_)
      | ((refine JC.drawO [(1,0),(1,1),(0,2),(0,3),(1,4),(0,5),(0,6),(0,7),(1,8),(2,9)] (by kernel_rfl) (by kernel_rfl) ?_))
      | fail
    refine J.isJ ?_
    refine J.o 9 ?_
    refine J.callvx eVisit rfl rfl rfl (fun w hw => ih _ (by omega) (nd s.ns b).h rfl hlh out1 a3 k3 hO1 hM1 nod2 rng2 oo1 mp4 hw r5 r7 r2 rb rn) ?_
    rintro _ _ ⟨out2, a4, k4, hO2, hM2, rfl, rfl, nod3, rng3, oo2, mp5, vis2⟩
    unfold outO
    repeat' first
      | (refine J.isJ ?_; first | (fail) | (first | (refine J.o 0 ?_; refine J.ev' hΓ ?_) | refine J.nil ?_ | (refine J.o 4 ?_; first | refine J.lT default hΓ ?_ | refine J.lR hΓ ?_) | (refine J.o 3 ?_; first | refine J.iJ hΓ ?_ | refine J.fP hΓ ?_ | refine J.ev' hΓ ?_) | (refine J.o 5 ?_; first | refine J.t2 hΓ ?_) | (refine J.o 9 ?_; refine J.bl hΓ (fun _ => ?_)) | (refine J.o 10 ?_; refine J.ev' hΓ ?_) | (refine J.o 11 ?_; refine J.ev' hΓ ?_)))
      | (first | refine JC.seq ?_ | refine JC.region ?_ | refine JC.ret ?_ | refine JC.skip ?_ | refine thenK.nn ?_ | refine thenK.r ?_ | refine JC.condT rfl ?_ | refine JC.condF rfl ?_ | refine drawK.nn ?_)
      | (fail)
      | fail
    all_goals first | refine ret0 rfl (fun w1 hw => ⟨_, _, rfl, hw, out2, a4, k4, hO2, hM2, rfl, rfl, nod3, rng3, oo2, mp5, Vis.join hb2 vis1 vis2⟩) | refine ret0n rfl (fun w1 hw => ⟨_, _, rfl, hw, out2, a4, k4, hO2, hM2, rfl, rfl, nod3, rng3, oo2, mp5, Vis.join hb2 vis1 vis2⟩)
end Go.Proofs.Ytbhgahjeocnfcaa
namespace Go.Proofs
open Go.Shelf
def Try.lays169_ren : Go.Shelf.Ren := ⟨fun | 169 => 80 | n => n, fun | 70 => 128 | 9 => 9 | 0 => 0 | 72 => 130 | 37 => 25 | 127 => 169 | 3 => 3 | 5 => 5 | n => n, fun | n => n⟩
theorem Try.lays169 : Go.Proofs.Lays.n169 Try.prog Try.lays169_ren := {
  mixed := by kernel_rfl
  f169 := Try.func80.trans (congrArg some (by kernel_rfl))
  t0 := Try.underlying0
  a0 := Try.isAgg0
  z0 := Try.sizeOf0
  v0 := Try.zeroValue0
  t3 := Try.underlying3
  a3 := Try.isAgg3
  z3 := Try.sizeOf3
  v3 := Try.zeroValue3
  t9 := Try.underlying9
  a9 := Try.isAgg9
  z9 := Try.sizeOf9
  v9 := Try.zeroValue9
  t37 := Try.underlying25
  a37 := Try.isAgg25
  z37 := Try.sizeOf25
  v37 := Try.zeroValue25
  t70 := Try.underlying128
  a70 := Try.isAgg128
  z70 := Try.sizeOf128
  v70 := Try.zeroValue128
  t72 := Try.underlying130
  a72 := Try.isAgg130
  z72 := Try.sizeOf130
  v72 := Try.zeroValue130
  t127 := Try.underlying169
  a127 := Try.isAgg169
  z127 := Try.sizeOf169
  v127 := Try.zeroValue169 }
theorem Try.Builder_Extra_169 : Builder.Extra Try.prog Try.lays169_ren := {
  sizeBuilder := by kernel_rfl
  liesBuilder := by kernel_rfl
  t5 := Try.underlying5
  a5 := Try.isAgg5
  z5 := Try.sizeOf5
  v5 := Try.zeroValue5
  infoByte := by kernel_rfl
  cellsByte := by kernel_rfl
  sizeByte := by kernel_rfl
  neB5 := by decide }
open Go.RowKit in
theorem Try.Builder_String_any (B b : Nat) (l : List UInt8) (w : World) (h : Lib.IsBuilder 130 5 B b (Lib.byteCells l) w) (hBw : B ≤ w.heap.size) :
    Calls Try.prog 80 #[.pointer (some ⟨b, 0, none⟩)] w fun e w' => e = .returned (.string ⟨l.toArray⟩) ∧ Below B w w' := Any.Builder_String_any Try.lays169 Try.Builder_Extra_169 B b l w h hBw
def Try.lays189_ren : Go.Shelf.Ren := ⟨fun | 189 => 120 | 125 => 142 | 257 => 145 | 128 => 162 | 129 => 163 | 294 => 168 | 295 => 169 | 296 => 170 | 297 => 171 | 298 => 172 | 299 => 173 | 216 => 174 | 300 => 175 | 301 => 176 | 328 => 186 | 329 => 180 | 330 => 181 | 331 => 187 | 332 => 188 | 215 => 189 | 343 => 192 | n => n, fun | 28 => 28 | 3 => 3 | 46 => 91 | 0 => 0 | 51 => 124 | 53 => 51 | 4 => 4 | 183 => 195 | 182 => 194 | 131 => 77 | 5 => 5 | 9 => 9 | 218 => 208 | 222 => 212 | 228 => 217 | 229 => 218 | n => n, fun | n => n⟩
theorem Try.lays189 : Go.Proofs.Lays.n189 Try.prog Try.lays189_ren := {
  mixed := by kernel_rfl
  f125 := Try.func142.trans (congrArg some (by kernel_rfl))
  f128 := Try.func162.trans (congrArg some (by kernel_rfl))
  f129 := Try.func163.trans (congrArg some (by kernel_rfl))
  f189 := Try.func120.trans (congrArg some (by kernel_rfl))
  f215 := Try.func189.trans (congrArg some (by kernel_rfl))
  f216 := Try.func174.trans (congrArg some (by kernel_rfl))
  f257 := Try.func145.trans (congrArg some (by kernel_rfl))
  f294 := Try.func168.trans (congrArg some (by kernel_rfl))
  f295 := Try.func169.trans (congrArg some (by kernel_rfl))
  f296 := Try.func170.trans (congrArg some (by kernel_rfl))
  f297 := Try.func171.trans (congrArg some (by kernel_rfl))
  f298 := Try.func172.trans (congrArg some (by kernel_rfl))
  f299 := Try.func173.trans (congrArg some (by kernel_rfl))
  f300 := Try.func175.trans (congrArg some (by kernel_rfl))
  f301 := Try.func176.trans (congrArg some (by kernel_rfl))
  f328 := Try.func186.trans (congrArg some (by kernel_rfl))
  f329 := Try.func180.trans (congrArg some (by kernel_rfl))
  f330 := Try.func181.trans (congrArg some (by kernel_rfl))
  f331 := Try.func187.trans (congrArg some (by kernel_rfl))
  f332 := Try.func188.trans (congrArg some (by kernel_rfl))
  f343 := Try.func192.trans (congrArg some (by kernel_rfl))
  t0 := Try.underlying0
  a0 := Try.isAgg0
  z0 := Try.sizeOf0
  v0 := Try.zeroValue0
  t3 := Try.underlying3
  a3 := Try.isAgg3
  z3 := Try.sizeOf3
  v3 := Try.zeroValue3
  t4 := Try.underlying4
  a4 := Try.isAgg4
  z4 := Try.sizeOf4
  v4 := Try.zeroValue4
  t5 := Try.underlying5
  a5 := Try.isAgg5
  z5 := Try.sizeOf5
  v5 := Try.zeroValue5
  t9 := Try.underlying9
  a9 := Try.isAgg9
  z9 := Try.sizeOf9
  v9 := Try.zeroValue9
  t28 := Try.underlying28
  a28 := Try.isAgg28
  z28 := Try.sizeOf28
  v28 := Try.zeroValue28
  t46 := Try.underlying91
  a46 := Try.isAgg91
  z46 := Try.sizeOf91
  v46 := Try.zeroValue91
  t51 := Try.underlying124
  a51 := Try.isAgg124
  z51 := Try.sizeOf124
  v51 := Try.zeroValue124
  t53 := Try.underlying51
  a53 := Try.isAgg51
  z53 := Try.sizeOf51
  v53 := Try.zeroValue51
  t131 := Try.underlying77
  a131 := Try.isAgg77
  z131 := Try.sizeOf77
  v131 := Try.zeroValue77
  t182 := Try.underlying194
  a182 := Try.isAgg194
  z182 := Try.sizeOf194
  v182 := Try.zeroValue194
  t183 := Try.underlying195
  a183 := Try.isAgg195
  z183 := Try.sizeOf195
  v183 := Try.zeroValue195
  t218 := Try.underlying208
  a218 := Try.isAgg208
  z218 := Try.sizeOf208
  v218 := Try.zeroValue208
  t222 := Try.underlying212
  a222 := Try.isAgg212
  z222 := Try.sizeOf212
  v222 := Try.zeroValue212
  t228 := Try.underlying217
  a228 := Try.isAgg217
  z228 := Try.sizeOf217
  v228 := Try.zeroValue217
  t229 := Try.underlying218
  a229 := Try.isAgg218
  z229 := Try.sizeOf218
  v229 := Try.zeroValue218 }
open Go.Sort Go.RowKit in
theorem Try.slices_Sort_int (blk off cap : Nat) (zs : List Int) (w : World) (hH : Holds (Value.int .i64) w blk off zs.toArray) (hblk : blk < w.heap.size) (hsz : zs.length < 4611686018427387904) :
    Calls Try.prog 120 #[.slice (some ⟨blk, off, none⟩) zs.length cap] w fun e w' =>
      e = .returned (.tuple #[]) ∧ ∃ n os, w' = grow (putRow (Value.int .i64) (Sort.ahead w n) blk off (zs.mergeSort fun x y => decide (x ≤ y)).toArray) os := Any.slices_Sort_int Try.lays189 blk off cap zs w hH hblk hsz
open Go.RowKit Go.Sort in
theorem Try.slices_Sort_int_none (p : Option Addr) (cap : Nat) (w : World) :
    Calls Try.prog 120 #[.slice p 0 cap] w fun e w' => e = .returned (.tuple #[]) ∧ w' = w := Any.slices_Sort_int_none Try.lays189 p cap w
end Go.Proofs
namespace Go.Proofs.Ytbhgahjeocnfcaa
open Go Go.Cx Go.RowKit
set_option linter.unusedVariables false
set_option linter.unusedSimpArgs false
set_option maxHeartbeats 4000000
attribute [local irreducible] J JC thenK blockK loopK drawK retK QW Qt pel List.set Calls
open Go.Maps Go.Lib
set_option maxRecDepth 8000
attribute [local irreducible] JE Br eK0 eK3 brK pc
def insS : List Int → Int → List Int
  | [], x => [x]
  | y :: l, x => if x < y then x :: y :: l else y :: insS l x
def sortS (l : List Int) : List Int := l.foldl insS []
theorem insS_perm : ∀ (l : List Int) (x : Int), (insS l x).Perm (x :: l)
  | [], x => .refl _
  | y :: l, x => by
    unfold insS
    split
    · exact .refl _
    · exact ((insS_perm l x).cons y).trans (.swap _ _ _)
theorem insS_sorted : ∀ (l : List Int) (x : Int), l.Pairwise (· ≤ ·) → (insS l x).Pairwise (· ≤ ·)
  | [], x, _ => by simp [insS]
  | y :: l, x, h => by
    unfold insS
    rw [List.pairwise_cons] at h
    split
    · rename_i hxy
      refine List.pairwise_cons.2 ⟨fun z hz => ?_, List.pairwise_cons.2 h⟩
      rcases List.mem_cons.1 hz with rfl | hz
      · omega
      · have := h.1 z hz; omega
    · rename_i hxy
      refine List.pairwise_cons.2 ⟨fun z hz => ?_, insS_sorted l x h.2⟩
      have := (insS_perm l x).mem_iff.1 hz
      rcases List.mem_cons.1 this with rfl | hz
      · omega
      · exact h.1 z hz
theorem sortS_go : ∀ (l acc : List Int), acc.Pairwise (· ≤ ·) → (l.foldl insS acc).Perm (acc ++ l) ∧ (l.foldl insS acc).Pairwise (· ≤ ·)
  | [], acc, h => ⟨by simp, h⟩
  | x :: l, acc, h => by
    have ih := sortS_go l (insS acc x) (insS_sorted acc x h)
    refine ⟨ih.1.trans ?_, ih.2⟩
    refine ((insS_perm acc x).append_right l).trans ?_
    exact (List.perm_middle).symm
theorem sortS_perm (l : List Int) : (sortS l).Perm l := by simpa [sortS] using (sortS_go l [] List.Pairwise.nil).1
theorem sortS_sorted (l : List Int) : (sortS l).Pairwise (· ≤ ·) := (sortS_go l [] List.Pairwise.nil).2
theorem sort_eq : ∀ (a b : List Int), a.Perm b → a.Pairwise (· ≤ ·) → b.Pairwise (· ≤ ·) → a = b
  | [], b, h, _, _ => (List.Perm.nil_eq h)
  | x :: a, [], h, _, _ => absurd h.length_eq (by simp)
  | x :: a, y :: b, h, h1, h2 => by
    rw [List.pairwise_cons] at h1 h2
    have e : x = y := by
      have hx := h.mem_iff.1 (List.mem_cons_self (a := x) (l := a))
      have hy := h.mem_iff.2 (List.mem_cons_self (a := y) (l := b))
      rcases List.mem_cons.1 hx with hx | hx
      · exact hx
      · rcases List.mem_cons.1 hy with hy | hy
        · exact hy.symm
        · have := h1.1 y hy; have := h2.1 x hx; omega
    subst e
    rw [sort_eq a b (List.Perm.cons_inv h) h1.2 h2.2]
theorem sort_ms (l : List Int) : l.mergeSort (fun x y => decide (x ≤ y)) = sortS l := by
  refine sort_eq _ _ ((List.mergeSort_perm l _).trans (sortS_perm l).symm) ?_ (sortS_sorted l)
  have := List.pairwise_mergeSort (le := fun x y : Int => decide (x ≤ y)) (fun a b c h1 h2 => by simp only [decide_eq_true_eq] at *; omega) (fun a b => by simp only [Bool.or_eq_true, decide_eq_true_eq]; omega) l
  exact this.imp (fun h => by simpa using h)
theorem sortS_len (l : List Int) : (sortS l).length = l.length := (sortS_perm l).length_eq
theorem eSort : Entr Try.prog 120 := Entr.of Try.func120 rfl rfl
theorem intsFlat (l : List Int) : l.flatMap encI = l.map (Value.int .i64) := by
  induction l with
  | nil => rfl
  | cons x l ih => rw [List.flatMap_cons, ih]; rfl
theorem sort_own {ao : Option Addr} {co : Nat} {l : List Int} {hO : Heap} (oo : OwT encI 1 3 ao co l hO) (hl : l.length ≤ 10000000000000) {w0 w : World} {R : Heap} {L : List Heap} (hw : H w0 R (hO :: L) w) :
    Calls Try.prog 120 #[.slice ao l.length co] w fun e w' => ∃ v' L', e = .returned v' ∧ H w0 R L' w' ∧ ∃ hO', v' = .tuple #[] ∧ L' = hO' :: L ∧ OwT encI 1 3 ao co (sortS l) hO' := by
  by_cases h0 : l.length = 0
  · have hn : l = [] := List.eq_nil_of_length_eq_zero h0
    subst hn
    refine (Try.slices_Sort_int_none ao co w).mono ?_
    rintro e w' ⟨rfl, rfl⟩
    exact ⟨_, _, rfl, hw, hO, rfl, rfl, oo⟩
  rcases oo.row with ⟨rfl, rfl, rfl, rfl⟩ | ⟨g, cs, rfl, rfl, h1, h2, h3⟩
  · exact absurd rfl h0
  have hb : w.heap[g]? = some (.cells ⟨cs⟩ 3 (0, 0)) := hw.rd Rd.hd
  have hgl : g < w.heap.size := (Array.getElem?_eq_some_iff.1 hb).1
  rw [intsFlat, Nat.mul_one] at h3
  have hcell : ∀ j (hj : j < l.length), cs[j]? = some (.int .i64 l[j]) := fun j hj => by
    have : (cs.take l.length)[j]? = (l.map (Value.int .i64))[j]? := by rw [h3]
    rw [List.getElem?_take_of_lt hj, List.getElem?_map, List.getElem?_eq_getElem hj] at this
    exact this
  have hH : Sort.Holds (Value.int .i64) w g 0 l.toArray := fun j hj => by
    have hj' : j < l.length := by simpa using hj
    constructor
    · simp [World.cell?, hb, hcell j hj', hj']
    · simp [World.frozen?, hb]
  refine (Try.slices_Sort_int g 0 co l w hH hgl (by omega)).mono ?_
  rintro e w' ⟨rfl, n, os, rfl⟩
  rw [sort_ms]
  have hsl := sortS_len l
  have hnew : Sort.putCells (Value.int .i64) 0 (sortS l).toArray ⟨cs⟩ = ⟨(sortS l).map (Value.int .i64) ++ cs.drop l.length⟩ := by
    unfold Sort.putCells
    apply Array.ext
    · simp; omega
    · intro i hi1 hi2
      simp only [Array.getElem_mapIdx, Nat.zero_le, true_and, Nat.zero_add, List.size_toArray, Nat.sub_zero]
      by_cases hi : i < (sortS l).length
      · rw [if_pos hi]
        simp [hi]
      · rw [if_neg hi]
        simp only [List.getElem_toArray]
        rw [List.getElem_append_right (by simpa using hi)]
        simp only [List.length_map, List.getElem_drop]
        congr 1
        omega
  refine ⟨_, [(g, .cells ⟨(sortS l).map (Value.int .i64) ++ cs.drop l.length⟩ 3 (0, 0))] :: L, rfl, ?_, _, rfl, rfl, ⟨oo.len, .inr ⟨g, _, rfl, rfl, ?_, by omega, ?_⟩⟩⟩
  · have h5 : H w0 R ([(g, .cells ⟨(sortS l).map (Value.int .i64) ++ cs.drop l.length⟩ 3 (0, 0))] :: L) (Sort.putRow (Value.int .i64) (Sort.ahead w n) g 0 (sortS l).toArray) := by
      refine hw.write (o' := .cells ⟨(sortS l).map (Value.int .i64) ++ cs.drop l.length⟩ 3 (0, 0)) rfl rfl rfl ?_ ?_ ?_
      · simp [Sort.putRow, Sort.mapBlock, Sort.ahead]
      · show (w.heap.modify g _)[g]? = _
        rw [Array.getElem?_modify, if_pos rfl, hb]
        show some (Obj.cells (Sort.putCells _ _ _ _) _ _) = _
        rw [hnew]
      · intro k hk
        show (w.heap.modify g _)[k]? = _
        rw [Array.getElem?_modify, if_neg (Ne.symm hk)]
    exact h5.grow (Lib.below_grow _ _ (Nat.le_refl _) 0 os)
  · simp; omega
  · rw [intsFlat, Nat.mul_one, List.take_left' (by simp)]
structure Bel (ns : List N3) (a : Nat) (l : List Int) : Prop where
  nodup : l.Nodup
  sorted : l.Pairwise (· ≤ ·)
  mem : ∀ x : Int, x ∈ l ↔ ∃ j : Nat, x = (j : Int) ∧ 2 ≤ j ∧ Rch ns a j
theorem Bel.of {ns : List N3} {a : Nat} {o : List Nat} (hn : o.Nodup) (v : Vis ns [] o a) : Bel ns a (sortS (natI o)) := by
  have hp := sortS_perm (natI o)
  have hn2 : (natI o).Nodup := by
    unfold natI
    rw [List.Nodup, List.pairwise_map]
    exact hn.imp fun h e => h (by omega)
  refine ⟨hp.nodup_iff.2 hn2, sortS_sorted _, fun x => ?_⟩
  rw [hp.mem_iff]
  unfold natI
  rw [List.mem_map]
  constructor
  · rintro ⟨j, hj, rfl⟩
    exact ⟨j, rfl, (v.all j).1 hj⟩
  · rintro ⟨j, rfl, h⟩
    exact ⟨j, (v.all j).2 h, rfl⟩
theorem below_any {n : Nat} {K : KS} {s : SS} (so : SOk n K s) (b0 a : Nat) (ha : a < s.ns.length) {w0 w : World} {R : Heap} {L : List Heap} (rb : Rd R L b0 (stO K s.an s.ns.length s.cn)) (rn : RdH R L s.hN) (hw : H w0 R L w) :
    Calls Try.prog 65 #[.pointer (some ⟨b0, 0, none⟩), .int .i64 (a : Int)] w fun e w' => ∃ v L', e = .returned v ∧ H w0 R L' w' ∧ ∃ ao co l hO, v = .slice ao l.length co ∧ L' = hO :: L ∧ OwT encI 1 3 ao co l hO ∧ Bel s.ns a l := by
  have sm := so.sm
  refine calls_in Try.func65 Try.ntmps65 rfl rfl (hw) ?_
  repeat' first
    | (refine J.isJ ?_; first | (first | (refine J.o 6 ?_; refine J.bx (fun c2 => ?_)) | (refine J.o 9 ?_; first | refine J.mkm (fun bm => ?_) | refine J.ins (ev := evBo) true keyedI ekI_inj (MapT.nil _) (keyI 0 (by omega)) hΓ (fun h1 mp1 => ?_) | refine J.ins (ev := evBo) true keyedI ekI_inj mp1 (keyI 1 (by omega)) hΓ (fun h2 mp2 => ?_) | (refine J.callvx eVisit rfl rfl rfl (fun w hw => visit_any so b0 c5 c6 c7 c2 bm _ a rfl ha [] none 0 [] h2 List.nodup_nil (fun x hx => by cases hx) (OwT.nil (fun _ => rfl)) mp2 (L := [(c7, fnV c5 c6 c7 c2)] :: [(c5, mapO bm)] :: [(c2, ptrS b0)] :: L) ((H.sel (l := [_, _, _, _, _]) (M := L) hw [1, 3, 0, 2, 4]).nilF.perm br1) Rd.hd.tl Rd.hd Rd.hd.tl.tl rb.tl.tl.tl rn.tl.tl.tl) ?_; rintro _ _ ⟨o1, a1, k1, hO1, hM1, rfl, rfl, nod1, rng1, oo1, mp3, vis1⟩; unfold outO; have hln : o1.length ≤ 1048576 := Nat.le_trans (nodup_len nod1 rng1) sm; have hnl : (natI o1).length = o1.length := List.length_map _; rw [← hnl])) | (refine J.o 7 ?_; first | refine J.al (t := 114) hΓ (fun c5 => ?_) | refine J.al (t := 28) hΓ (fun c6 => ?_) | refine J.al (t := 161) hΓ (fun c7 => ?_)) | (refine J.o 14 ?_; refine J.mfV [.pointer (some ⟨c5, 0, none⟩), .pointer (some ⟨c6, 0, none⟩), .pointer (some ⟨c7, 0, none⟩), .pointer (some ⟨c2, 0, none⟩)] hΓ ?_) | (refine J.fc 120 ?_; refine J.perm br1 ?_; refine J.callx eSort rfl rfl (fun w hw => sort_own oo1 (by omega) hw) ?_; rintro _ _ ⟨hO2, rfl, rfl, oo2⟩)) | (first | (refine J.o 0 ?_; refine J.ev' hΓ ?_) | refine J.nil ?_ | (refine J.o 4 ?_; first | refine J.lR hΓ ?_) | (refine J.o 3 ?_; first | refine J.ev' hΓ ?_) | (refine J.o 5 ?_; first | refine J.t0 hΓ ?_) | (refine J.o 6 ?_; refine J.bx (fun _ => ?_)) | (refine J.o 7 ?_; refine J.al hΓ (fun _ => ?_)) | (refine J.o 10 ?_; refine J.ev' hΓ ?_) | (refine J.o 11 ?_; refine J.ev' hΓ ?_)))
    | (first | refine JC.seq ?_ | refine JC.region ?_ | refine JC.ret ?_ | refine thenK.nn ?_)
    | (fail)
    | fail
  all_goals first | (exfalso; omega) | skip
  rw [← sortS_len]
  refine ret1f rfl rfl rfl (fun w1 hw => ⟨_, _, rfl, H.sel (l := [_, _, _, _, _, _]) (M := L) hw [0], a1, k1, sortS (natI o1), hO2, rfl, rfl, oo2, Bel.of nod1 vis1⟩)
theorem Size_any {n : Nat} {K : KS} {s : SS} (so : SOk n K s) (b0 a : Nat) (ha : a < s.ns.length) {w0 w : World} {R : Heap} {L : List Heap} (rb : Rd R L b0 (stO K s.an s.ns.length s.cn)) (rn : RdH R L s.hN) (hw : H w0 R L w) :
    Calls Try.prog 20 #[.pointer (some ⟨b0, 0, none⟩), .int .i64 (a : Int)] w fun e w' => ∃ v L', e = .returned v ∧ H w0 R L' w' ∧ ∃ l, v = .tuple #[.int .i64 ((l.length : Nat) : Int), .int .i64 0] ∧ L' = L ∧ Bel s.ns a l := by
  have two := so.wf.two
  have cChk : ∀ L1 w1 b1, H w0 R L1 w1 → Rd R L1 b0 (stO K s.an s.ns.length s.cn) → Rd R L1 b1 (intO a) → Calls Try.prog 64 #[.pointer (some ⟨b0, 0, none⟩), .slice (some ⟨b1, 0, none⟩) 1 1] w1 fun e w' => e = .returned (.int .i64 0) ∧ Below w1.heap.size w1 w' := fun L1 w1 b1 hw hb hr => by
    have hc := chk_ok (m := s.ns.length) (l := [a]) (by simp only [List.mem_cons, List.not_mem_nil, or_false, forall_eq]; exact ha)
    have := check_any K b0 s.an s.cn s.ns.length two [(b0, stO K s.an s.ns.length s.cn), (b1, intO a)] List.mem_cons_self [(a : Int)] (some ⟨b1, 0, none⟩) 1 ((slArg b1 [(a : Int)] 3).sub fun y hy => List.mem_cons_of_mem _ hy) (by show 1 ≤ 1000; omega) w1 (holds2 (hw.rd hb) (holds2 (hw.rd hr) (Holds.nil _)))
    rw [show chkP s.ns.length [(a : Int)] = true from hc, if_pos rfl] at this
    exact this
  refine calls_in Try.func20 Try.ntmps20 rfl rfl (hw) ?_
  repeat' first
    | (refine J.isJ ?_; first | (first | (refine J.o 9 ?_; refine J.bl hΓ (fun b1 => ?_)) | (refine J.fc 64 ?_; refine J.call0 eCheck rfl rfl (fun w hw => cChk _ w _ hw rb.tl Rd.hd) ?_) | (refine J.fc 65 ?_; refine J.callx eBelow rfl rfl (fun w hw => below_any so b0 a ha rb.tl rn.tl hw) ?_; rintro _ _ ⟨ao, co, l, hO, rfl, rfl, oo, bel⟩)) | (first | (refine J.o 0 ?_; refine J.ev' hΓ ?_) | refine J.nil ?_ | (refine J.o 3 ?_; first | refine J.ev' hΓ ?_) | (refine J.o 9 ?_; refine J.bl hΓ (fun _ => ?_)) | (refine J.o 10 ?_; refine J.ev' hΓ ?_) | (refine J.o 11 ?_; refine J.ev' hΓ ?_)))
    | (first | refine JC.seq ?_ | refine JC.region ?_ | refine JC.ret ?_ | refine JC.skip ?_ | refine thenK.nn ?_ | refine JC.condF rfl ?_)
    | (fail)
    | fail
  all_goals first | (exfalso; omega) | skip
  refine ret2f rfl rfl rfl rfl rfl (fun w1 hw => ⟨_, _, rfl, hw.drop.drop, l, rfl, rfl, bel⟩)
end Go.Proofs.Ytbhgahjeocnfcaa
