/- ObddCompiles: part 6. -/
import Derived.Test.YtbhgahjeocnfcaaCsE
import Derived.Lib.Builder
import Derived.Laws.Externs
namespace Go.Proofs.Ytbhgahjeocnfcaa
open Go Go.Cx Go.RowKit
set_option linter.unusedVariables false
set_option linter.unusedSimpArgs false
set_option maxHeartbeats 4000000
attribute [local irreducible] J JC thenK blockK loopK drawK retK QW Qt pel List.set Calls
open Go.Maps
set_option maxRecDepth 8000
attribute [local irreducible] JE Br eK0 eK3 brK pc
section
variable {P : Program} {n : Nat} {w0 : World} {R : Heap} {K : Exit → Fr → List Heap → Prop} {f : Fr} {L L0 : List Heap} {l0 : List Oper} {rest : List (Nat × Oper)} {Γ : List (Nat × TI)}
variable {d : Nat} {ty : TypeId} {pos : String} {aft : Array Edge} {g : Option (Nat × Bool)} {t : TypeId} {x y : Operand}
theorem JD.st {ti : TI} {b off : Nat} {cs cl cs' : List Value} {e : TypeId} (hΓ : Fits P Γ) (k : JD P n w0 R L0 l0 K rest f ([(b, .cells ⟨cs'⟩ e (0, 0))] :: L)) (hg : wantB n f l0 ⟨none, .store t x y, ty, pos, aft, g⟩ = true := by exact rfl) (hp : Cx.ev n f x = .pointer (some ⟨b, off, none⟩) := by exact rfl) (ht : Cx.look Γ t = some ti := by exact rfl)
    (hv : vcells (Cx.ev n f y) = some cl := by exact rfl) (hn : Nat.beq cl.length ti.size = true := by exact rfl) (h1 : ones cl = true := by exact rfl) (hcs : putE cs off cl = some cs' := by exact rfl) : JD P n w0 R L0 l0 K ((2, ⟨none, .store t x y, ty, pos, aft, g⟩) :: rest) f ([(b, .cells ⟨cs⟩ e (0, 0))] :: L) := fun a ha w hH => by
  unfold putE at hcs
  cases hle : Nat.ble (off + cl.length) cs.length with
  | false => rw [hle] at hcs; cases hcs
  | true =>
    rw [hle] at hcs
    simp only [cond_true, forceL_eq, Option.some.injEq] at hcs
    obtain ⟨w', hr, hw'⟩ := store_ok hΓ ht hv hn h1 (Nat.le_of_ble_eq_true hle) hcs hH
    have hx : (execOp (Cx.ev n f) ⟨none, .store t x y, ty, pos, aft, g⟩).run P w = .ok .skip w' := by simp only [execOp, hp, Sem.run_bind]; rw [hr]; rfl
    have hw : Region.wanted (⟨none, .store t x y, ty, pos, aft, g⟩ : Oper) (yielded l0.toArray a.tmps) = true := by rw [ha.wanted, hg]
    unfold lop
    rw [if_pos hw]
    unfold Oper.wp
    rw [ha.eval, hx]
    exact ⟨_, hw', k _ (ha.put none undef)⟩
theorem JD.perm {L' : List Heap} {l : List (Nat × Oper)} (hp : L.Perm L') (k : JD P n w0 R L0 l0 K l f L') : JD P n w0 R L0 l0 K l f L := fun a ha => by
  have e : H w0 R L = H w0 R L' := by funext w; exact propext ⟨fun h => h.perm hp, fun h => h.perm hp.symm⟩
  rw [e]; exact k a ha
theorem JD.mkm {t : TypeId} (k : ∀ b, (∀ w, H w0 R ([(b, .map ⟨[]⟩ 0)] :: L) w → H w0 R L0 w) ∧ JD P n w0 R L0 l0 K rest (upd f d (.map (some b))) ([(b, .map ⟨[]⟩ 0)] :: L)) (hg : wantB n f l0 ⟨some d, .makeMap t none, ty, pos, aft, g⟩ = true := by exact rfl) :
    JD P n w0 R L0 l0 K ((3, ⟨some d, .makeMap t none, ty, pos, aft, g⟩) :: rest) f L := fun a ha w hH => by
  have hw : Region.wanted (⟨some d, .makeMap t none, ty, pos, aft, g⟩ : Oper) (yielded l0.toArray a.tmps) = true := by rw [ha.wanted, hg]
  have hrun : (execOp (Cx.ev n f) ⟨some d, .makeMap t none, ty, pos, aft, g⟩).run P w = .ok (.value (.map (some w.heap.size))) (w.alloc (.map ⟨[]⟩ 0)) := by simp only [execOp, Sem.run_bind, Option.map_none]; rw [run_makeMap]; rfl
  unfold lop
  rw [if_pos hw]
  unfold Oper.wp
  rw [ha.eval, hrun]
  exact ⟨_, (k w.heap.size).1, hH.alloc _, (k w.heap.size).2 _ (ha.put (some d) _)⟩
theorem JD.iJ {α : Type} {enc : α → List Value} {a : Option Addr} {ts : List α} {h : Heap} {t e : TypeId} {s1 s2 : Nat} {z1 z2 : Option Value} {b1 b2 : Nat} {de : TypeDesc} {x ix : Operand} {len cap : Nat} {kk : IntKind} {i : Nat} (hΓ : Fits P Γ) (hs : SlT enc s2 a ts h) (k : JD P n w0 R L0 l0 K rest (upd f d (pel a s2 i 0)) L) (hg : wantB n f l0 ⟨some d, .indexAddr t x ix, ty, pos, aft, g⟩ = true := by exact rfl) (hx : Cx.ev n f x = .slice a len cap := by exact rfl) (hi : Cx.ev n f ix = .int kk (i : Int) := by exact rfl)
    (ht : Cx.look Γ t = some ⟨.slice e, s1, z1, b1⟩ := by exact rfl) (he : Cx.look Γ e = some ⟨de, s2, z2, b2⟩ := by exact rfl) (hlen : ts.length = len := by first | rfl | omega) (h1 : i < len := by omega) : JD P n w0 R L0 l0 K ((0, ⟨some d, .indexAddr t x ix, ty, pos, aft, g⟩) :: rest) f L :=
  JD.p hg (fun w => by
    have := idx_run (P := P) (cap := cap) (kk := kk) (i := (i : Int)) hΓ ht he hs hlen (by omega) (by omega) w
    simp only [execOp, hx, hi, Sem.run_bind]
    rw [this]
    rfl) k
theorem JD.fP {t : TypeId} {a : Option Addr} {i sz k o : Nat} {x : Operand} {fs : Array Field} {fd : Field} {s1 s2 b1 b2 : Nat} {z1 z2 : Option Value} {de : TypeDesc} (hΓ : Fits P Γ) (kk : JD P n w0 R L0 l0 K rest (upd f d (pel a sz k (o + fd.offset))) L) (hg : wantB n f l0 ⟨some d, .fieldAddr t x i, ty, pos, aft, g⟩ = true := by exact rfl) (hx : Cx.ev n f x = pel a sz k o := by exact rfl)
    (ht : Cx.look Γ t = some ⟨.struct fs, s1, z1, b1⟩ := by exact rfl) (hf : fs[i]? = some fd := by exact rfl) (hl : Cx.look Γ fd.type = some ⟨de, s2, z2, b2⟩ := by exact rfl) (hn : Nat.beq s2 0 = false := by exact rfl) : JD P n w0 R L0 l0 K ((0, ⟨some d, .fieldAddr t x i, ty, pos, aft, g⟩) :: rest) f L :=
  JD.p hg (fun w => by
    have hu := (hΓ t _ ht).1
    have hsz := sizeOf_run hΓ hl w
    have hne : ¬ s2 = 0 := fun e => by rw [e] at hn; cases hn
    simp only [execOp, hx, Sem.run_bind]
    unfold Instr.fieldAt pel
    simp only [Sem.run_bind, run_underlying hu, Result.andThen_ok, hf, Instr.sureAddr, Sem.run_pure]
    unfold fieldPlace
    simp only [Sem.run_bind, hsz, Result.andThen_ok]
    rw [if_neg hne]
    simp only [Sem.run_pure, Result.andThen_ok, Addr_add_add, Nat.add_assoc]) kk
theorem JD.lT {α : Type} {enc : α → List Value} {a : Option Addr} {ts : List α} {h : Heap} {t : TypeId} {sz k o κ : Nat} {x : Operand} {v : Value} (dflt : α) (hΓ : Fits P Γ) (hsub : ∀ w, H w0 R L w → H w0 R L0 w) (hs : SlT enc sz a ts h) (hr : RdH R L0 h) (kk : JD P n w0 R L0 l0 K rest (upd f d v) L) (hg : wantB n f l0 ⟨some d, .load t x, ty, pos, aft, g⟩ = true := by exact rfl) (hx : Cx.ev n f x = pel a sz k o := by exact rfl) (hk : k < ts.length := by omega) (hv : ldEv Γ t (enc (ts.getD k dflt)) o = some v := by exact rfl) :
    JD P n w0 R L0 l0 K ((κ + 4, ⟨some d, .load t x, ty, pos, aft, g⟩) :: rest) f L := fun ac ha => by
  have hw : Region.wanted (⟨some d, .load t x, ty, pos, aft, g⟩ : Oper) (yielded l0.toArray ac.tmps) = true := by rw [ha.wanted, hg]
  refine ⟨rfl, hsub, v, .inl ⟨hw, fun w hH => ?_⟩, kk _ (ha.put (some d) v)⟩
  unfold Oper.quietAt
  have hrun : (execOp (Cx.ev n f) ⟨some d, .load t x, ty, pos, aft, g⟩).run P w = .ok (.value v) w := by
    have := ldP_run (P := P) hΓ hs (hH.rdH hr) hk hv
    simp only [execOp, hx, Sem.run_bind]
    rw [this]
    rfl
  rw [ha.eval, hrun]
  exact ⟨rfl, rfl⟩
end
theorem quietH {P : Program} {fid : FuncId} {args : Array Value} {w0 w : World} {R : Heap} {L : List Heap} {v : Value} (hw : H w0 R L w) (h : Calls P fid args w fun e w' => e = .returned v ∧ Below w.heap.size w w') : Calls P fid args w fun e w' => ∃ v' L', e = .returned v' ∧ H w0 R L' w' ∧ v' = v ∧ L' = L :=
  h.mono fun e w' ⟨h1, h2⟩ => ⟨v, L, h1, hw.grow h2, rfl, rfl⟩
theorem eCountR : Entr Try.prog 75 := Entr.of Try.func75 rfl rfl
theorem eCountS : Entr Try.prog 30 := Entr.of Try.func30 rfl rfl
def DOk (n : Nat) (ns : List N3) (m : List (Int × Nat)) : Prop := ∀ i v, ((i : Nat) : Int) < ns.length → ((i : Int), v) ∈ m → v = cN n ns i
theorem pow17 {n v : Nat} (hn : n ≤ 128) (hv : v ≤ 2 ^ n) : (bytesN v).length ≤ 1000 := by
  have h1 : 2 ^ n ≤ 2 ^ 128 := Nat.pow_le_pow_right (by omega) hn
  have h2 : (2 : Nat) ^ 128 < 256 ^ 17 := by decide
  have := bytesN_len (k := 17) (v := v) (by omega)
  omega
theorem cN_le2 {n : Nat} {ns : List N3} (w : WF n ns) {i : Nat} (hi : i < ns.length) : cN n ns i ≤ 2 ^ n := by
  have h := cN_le w hi
  have hp : 0 < 2 ^ (nd ns i).p := Nat.two_pow_pos _
  exact Nat.le_trans (Nat.le_mul_of_pos_left _ hp) h
def sumQ (n : Nat) (ns : List N3) (a : Nat) : Nat → Nat
  | 0 => 0
  | 1 => 0 + cN n ns (nd ns a).l * 2 ^ ((nd ns (nd ns a).l).p - (nd ns a).p - 1)
  | _ => 0 + cN n ns (nd ns a).l * 2 ^ ((nd ns (nd ns a).l).p - (nd ns a).p - 1) + cN n ns (nd ns a).h * 2 ^ ((nd ns (nd ns a).h).p - (nd ns a).p - 1)
theorem count_any {n : Nat} {K : KS} {s : SS} (so : SOk n K s) (b0 bm : Nat) : ∀ (m a : Nat), n - (nd s.ns a).p = m → a < s.ns.length → ∀ (done : List (Int × Nat)) (hM : Heap), MapT Try.prog 3 ekI natV done bm hM → DOk n s.ns done →
    ∀ {w0 w : World} {R : Heap} {L : List Heap}, H w0 R (hM :: L) w → Rd R L b0 (stO K s.an s.ns.length s.cn) → RdH R L s.hN →
    Calls Try.prog 75 #[.pointer (some ⟨b0, 0, none⟩), .int .i64 (a : Int), .map (some bm)] w fun e w' => ∃ v L', e = .returned v ∧ H w0 R L' w' ∧ ∃ done' hM', v = natV (cN n s.ns a) ∧ L' = hM' :: L ∧ MapT Try.prog 3 ekI natV done' bm hM' ∧ DOk n s.ns done' := by
  intro m
  induction m using Nat.strongRecOn with
  | ind m ih =>
  intro a hm ha done hM mp dok w0 w R L hw rb rn
  have sm := so.sm
  have n8 := so.n8
  have rb' := rb
  unfold stO at rb'
  have hsl := so.ow.sl
  have hkey := keyI (a : Int) (by omega)
  by_cases h2 : a < 2
  · have hcc := cN_const (n := n) (ns := s.ns) h2
    refine calls_in Try.func75 Try.ntmps75 rfl rfl (hw) ?_
    repeat' first
      | (refine J.isJ ?_; first | (first | (refine J.o 7 ?_; refine J.al hΓ (fun b6 => ?_)) | (refine J.o 2 ?_; refine J.gcv hΓ ?_ (hk := wU64 (by omega))) | (refine J.fc 123 ?_; refine J.call0 eOfN rfl rfl (fun w hw => ofN_any a (by omega) w) ?_)) | (first | (refine J.o 0 ?_; refine J.ev' hΓ ?_) | refine J.nil ?_ | (refine J.o 4 ?_; first | refine J.lT default hΓ ?_ | refine J.lR hΓ ?_) | (refine J.o 3 ?_; first | refine J.iJ hΓ ?_ | refine J.fP hΓ ?_ | refine J.iC hΓ ?_ | refine J.ev' hΓ ?_) | (refine J.o 1 ?_; first | refine J.ad ?_) | (refine J.o 5 ?_; first | refine J.t0 hΓ ?_ | refine J.t1 hΓ ?_) | (refine J.o 7 ?_; refine J.al hΓ (fun _ => ?_)) | (refine J.o 9 ?_; refine J.bl hΓ (fun _ => ?_)) | (refine J.o 10 ?_; refine J.ev' hΓ ?_) | (refine J.o 11 ?_; refine J.ev' hΓ ?_)))
      | (first | refine JC.seq ?_ | refine JC.region ?_ | refine JC.block ?_ | refine JC.ret ?_ | refine JC.exit ?_ | refine JC.skip ?_ | refine thenK.nn ?_ | refine thenK.r ?_ | refine thenK.x ?_ | refine blockK.nn ?_ | refine blockK.hit rfl ?_ | refine JC.condT rfl ?_ | refine JC.condF rfl ?_ | (refine JC.cond rfl (fun hc => ?_) (fun hc => ?_) <;> ((try simp only [decide_eq_true_eq, decide_eq_false_iff_not, beq_iff_eq, beq_eq_false_iff_ne, bne_iff_ne, bne_eq_false_iff_eq, Bool.not_eq_true', Bool.not_eq_false', Bool.not_eq_true, Bool.not_eq_false] at hc) <;> first | (first | (exact absurd rfl hc) | (exfalso; omega) | (exact absurd (hc.symm.trans (by assumption : _ = false)) (by decide)) | (exact absurd (hc.symm.trans (by assumption : _ = true)) (by decide))) | skip)) | refine drawK.nn ?_ | refine loopK.x ?_)
      | (fail)
      | fail
    all_goals first | (exfalso; omega) | skip
    exact retC hΓ rfl rfl rfl (by first | exact Rd.hd | exact Rd.hd.tl) rfl (fun w1 hw => ⟨_, _, rfl, hw.drop, done, hM, by rw [hcc]; rfl, rfl, mp, dok⟩)
  cases hget : mget done (a : Int) with
  | some v =>
    have hv := dok a v (by omega) (mget_mem hget)
    refine calls_in Try.func75 Try.ntmps75 rfl rfl (hw) ?_
    repeat' first
      | (refine J.isJ ?_; first | (first | (refine J.o 7 ?_; refine J.al hΓ (fun b6 => ?_)) | (refine J.o 9 ?_; refine J.lk (a := (a : Int)) keyedI ekI_inj mp (by first | exact RdH.hd | exact RdH.hd.tl | exact RdH.hd.tl.tl | exact RdH.hd.tl.tl.tl | exact RdH.hd.tl.tl.tl.tl | exact RdH.hd.tl.tl.tl.tl.tl | exact RdH.hd.tl.tl.tl.tl.tl.tl | exact RdH.hd.tl.tl.tl.tl.tl.tl.tl | exact RdH.old (fun _ hh => hh) | assumption) hkey hΓ ?_; rw [hget]; unfold natV)) | (first | (refine J.o 0 ?_; refine J.ev' hΓ ?_) | refine J.nil ?_ | (refine J.o 4 ?_; first | refine J.lT default hΓ ?_ | refine J.lR hΓ ?_) | (refine J.o 3 ?_; first | refine J.iJ hΓ ?_ | refine J.fP hΓ ?_ | refine J.iC hΓ ?_ | refine J.ev' hΓ ?_) | (refine J.o 1 ?_; first | refine J.ad ?_) | (refine J.o 5 ?_; first | refine J.t0 hΓ ?_ | refine J.t1 hΓ ?_) | (refine J.o 7 ?_; refine J.al hΓ (fun _ => ?_)) | (refine J.o 9 ?_; refine J.bl hΓ (fun _ => ?_)) | (refine J.o 10 ?_; refine J.ev' hΓ ?_) | (refine J.o 11 ?_; refine J.ev' hΓ ?_)))
      | (first | refine JC.seq ?_ | refine JC.region ?_ | refine JC.block ?_ | refine JC.ret ?_ | refine JC.exit ?_ | refine JC.skip ?_ | refine thenK.nn ?_ | refine thenK.r ?_ | refine thenK.x ?_ | refine blockK.nn ?_ | refine blockK.hit rfl ?_ | refine JC.condT rfl ?_ | refine JC.condF rfl ?_ | (refine JC.cond rfl (fun hc => ?_) (fun hc => ?_) <;> ((try simp only [decide_eq_true_eq, decide_eq_false_iff_not, beq_iff_eq, beq_eq_false_iff_ne, bne_iff_ne, bne_eq_false_iff_eq, Bool.not_eq_true', Bool.not_eq_false', Bool.not_eq_true, Bool.not_eq_false] at hc) <;> first | (first | (exact absurd rfl hc) | (exfalso; omega) | (exact absurd (hc.symm.trans (by assumption : _ = false)) (by decide)) | (exact absurd (hc.symm.trans (by assumption : _ = true)) (by decide))) | skip)) | refine drawK.nn ?_ | refine loopK.x ?_)
      | (fail)
      | fail
    all_goals first | (exfalso; omega) | skip
    exact retC hΓ rfl rfl rfl (by first | exact Rd.hd | exact Rd.hd.tl) rfl (fun w1 hw => ⟨_, _, rfl, hw.drop.drop, done, hM, by rw [← hv], rfl, mp, dok⟩)
  | none =>
    refine calls_in Try.func75 Try.ntmps75 rfl rfl (hw) ?_
    repeat' first
      | (refine J.isJ ?_; first | (first | (refine J.o 7 ?_; refine J.al hΓ (fun b6 => ?_)) | (refine J.o 9 ?_; first | (refine J.lk (a := (a : Int)) keyedI ekI_inj mp (by first | exact RdH.hd | exact RdH.hd.tl | exact RdH.hd.tl.tl | exact RdH.hd.tl.tl.tl | exact RdH.hd.tl.tl.tl.tl | exact RdH.hd.tl.tl.tl.tl.tl | exact RdH.hd.tl.tl.tl.tl.tl.tl | exact RdH.hd.tl.tl.tl.tl.tl.tl.tl | exact RdH.old (fun _ hh => hh) | assumption) hkey hΓ ?_; rw [hget]) | refine J.bl hΓ (fun ba => ?_)) | (refine J.o 4 ?_; first | refine J.lR hΓ ?_ (hr := rb'.tl.tl.tl) | refine J.lT default hΓ ?_ (hs := hsl) (hr := rn.tl.tl.tl))) | (first | (refine J.o 0 ?_; refine J.ev' hΓ ?_) | refine J.nil ?_ | (refine J.o 4 ?_; first | refine J.lT default hΓ ?_ | refine J.lR hΓ ?_) | (refine J.o 3 ?_; first | refine J.iJ hΓ ?_ | refine J.fP hΓ ?_ | refine J.iC hΓ ?_ | refine J.ev' hΓ ?_) | (refine J.o 1 ?_; first | refine J.ad ?_) | (refine J.o 5 ?_; first | refine J.t0 hΓ ?_ | refine J.t1 hΓ ?_) | (refine J.o 7 ?_; refine J.al hΓ (fun _ => ?_)) | (refine J.o 9 ?_; refine J.bl hΓ (fun _ => ?_)) | (refine J.o 10 ?_; refine J.ev' hΓ ?_) | (refine J.o 11 ?_; refine J.ev' hΓ ?_)))
      | (first | refine JC.seq ?_ | refine JC.region ?_ | refine JC.block ?_ | refine JC.ret ?_ | refine JC.exit ?_ | refine JC.skip ?_ | refine thenK.nn ?_ | refine thenK.r ?_ | refine thenK.x ?_ | refine blockK.nn ?_ | refine blockK.hit rfl ?_ | refine JC.condT rfl ?_ | refine JC.condF rfl ?_ | (refine JC.cond rfl (fun hc => ?_) (fun hc => ?_) <;> ((try simp only [decide_eq_true_eq, decide_eq_false_iff_not, beq_iff_eq, beq_eq_false_iff_ne, bne_iff_ne, bne_eq_false_iff_eq, Bool.not_eq_true', Bool.not_eq_false', Bool.not_eq_true, Bool.not_eq_false] at hc) <;> first | (first | (exact absurd rfl hc) | (exfalso; omega) | (exact absurd (hc.symm.trans (by assumption : _ = false)) (by decide)) | (exact absurd (hc.symm.trans (by assumption : _ = true)) (by decide))) | skip)) | refine drawK.nn ?_ | refine loopK.x ?_)
      | (fail)
      | fail
    all_goals first | (exfalso; omega) | skip
    rename_i r6 r7 r9
    have hpa := so.wf.pl a (by omega) ha
    have hlp : (nd s.ns a).p < (nd s.ns (nd s.ns a).l).p := so.wf.lp a (by omega) ha
    have hhp : (nd s.ns a).p < (nd s.ns (nd s.ns a).h).p := so.wf.hp a (by omega) ha
    have hl := so.wf.ll a (by omega) ha
    have hh := so.wf.hl a (by omega) ha
    have hlp2 : (s.ns.getD a default).p < (s.ns.getD (s.ns.getD a default).l default).p := hlp
    have hhp2 : (s.ns.getD a default).p < (s.ns.getD (s.ns.getD a default).h default).p := hhp
    have hll := so.wf.ple hl
    have hlh := so.wf.ple hh
    have hl2 : (s.ns.getD a default).l < s.ns.length := hl
    have hh2 : (s.ns.getD a default).h < s.ns.length := hh
    have hll2 : (s.ns.getD (s.ns.getD a default).l default).p ≤ n := hll
    have hlh2 : (s.ns.getD (s.ns.getD a default).h default).p ≤ n := hlh
    have hlp3 : (nd s.ns a).p < (s.ns.getD (nd s.ns a).l default).p := hlp
    have hhp3 : (nd s.ns a).p < (s.ns.getD (nd s.ns a).h default).p := hhp
    have hll3 : (s.ns.getD (nd s.ns a).l default).p ≤ n := hll
    have hlh3 : (s.ns.getD (nd s.ns a).h default).p ≤ n := hlh
    have hs2 : sumQ n s.ns a 2 = cN n s.ns a := by
      rw [cN_node so.wf (by omega) ha]
      show 0 + _ * _ + _ * _ = _
      rw [Nat.zero_add, Nat.mul_comm, Nat.mul_comm (cN n s.ns (nd s.ns a).h)]
    have hca := cN_le2 so.wf ha
    have hs1 : sumQ n s.ns a 1 ≤ sumQ n s.ns a 2 := Nat.le_add_right _ _
    have hml : cN n s.ns (nd s.ns a).l * 2 ^ ((nd s.ns (nd s.ns a).l).p - (nd s.ns a).p - 1) ≤ sumQ n s.ns a 1 := Nat.le_add_left _ _
    have hmh : cN n s.ns (nd s.ns a).h * 2 ^ ((nd s.ns (nd s.ns a).h).p - (nd s.ns a).p - 1) ≤ sumQ n s.ns a 2 := Nat.le_add_left _ _
    have bs0 : (bytesN (sumQ n s.ns a 0)).length ≤ 1000 := by show (bytesN 0).length ≤ 1000; decide
    have bs1 := pow17 (v := sumQ n s.ns a 1) n8 (by omega)
    have bml := pow17 n8 (Nat.le_trans hml (by omega))
    have bmh := pow17 n8 (Nat.le_trans hmh (by omega))
    have bcl := pow17 n8 (cN_le2 so.wf hl)
    have bch := pow17 n8 (cN_le2 so.wf hh)
    have bpl := pow17 n8 (Nat.pow_le_pow_right (n := 2) (by omega) (show (nd s.ns (nd s.ns a).l).p - (nd s.ns a).p - 1 ≤ n by omega))
    have bph := pow17 n8 (Nat.pow_le_pow_right (n := 2) (by omega) (show (nd s.ns (nd s.ns a).h).p - (nd s.ns a).p - 1 ≤ n by omega))
    refine JC.loopG (fun i => i == 12 || i == 13 || Nat.ble 40 i) (fun m g L' => ∃ q dn hM', g 40 = .int .i64 ((q : Nat) : Int) ∧ q + m = 2 ∧ MapT Try.prog 3 ekI natV dn bm hM' ∧ DOk n s.ns dn ∧ L' = [(ba, Obj.cells ⟨[.int .i64 ((nd s.ns a).l : Int), .int .i64 ((nd s.ns a).h : Int)]⟩ 3 (0, 0))] :: [(b6, Obj.cells ⟨[.string (S (bytesN (sumQ n s.ns a q)))]⟩ 58 (0, 0))] :: [(r9, Obj.cells ⟨[.int .i64 ((nd s.ns a).p : Int), .int .i64 ((nd s.ns a).l : Int), .int .i64 ((nd s.ns a).h : Int)]⟩ 107 (0, 0))] :: [(r7, Obj.cells ⟨[.string ByteArray.empty]⟩ 58 (0, 0))] :: [(r6, Obj.cells ⟨[.string ByteArray.empty]⟩ 58 (0, 0))] :: hM' :: L) 2 ⟨0, done, hM, rfl, rfl, mp, dok, rfl⟩ ?_
    rintro m1 g1 L' ⟨q, dn, hM', e40, hq, mp', dok', rfl⟩
    refine JC.pin 40 e40 ?_
    rcases (by omega : q = 2 ∨ q = 0 ∨ q = 1) with rfl | rfl | rfl
    ·
      rw [hs2]
      repeat' first
        | (refine J.isJ ?_; first | (first | (refine J.o 4 ?_; first | refine J.lR hΓ ?_ (hr := Rd.hd.tl.tl)) | (refine J.o 9 ?_; refine J.perm br5 ?_; refine J.mup (a := (a : Int)) (ev := natV) (cN n s.ns a) keyedI ekI_inj mp' hkey hΓ (fun h4 mp4 => ?_)) | (refine J.o 5 ?_; refine J.perm br5 ?_; refine J.t0 hΓ ?_)) | (first | (refine J.o 0 ?_; refine J.ev' hΓ ?_) | refine J.nil ?_ | (refine J.o 4 ?_; first | refine J.lT default hΓ ?_ | refine J.lR hΓ ?_) | (refine J.o 3 ?_; first | refine J.iJ hΓ ?_ | refine J.fP hΓ ?_ | refine J.iC hΓ ?_ | refine J.ev' hΓ ?_) | (refine J.o 1 ?_; first | refine J.ad ?_) | (refine J.o 5 ?_; first | refine J.t0 hΓ ?_ | refine J.t1 hΓ ?_) | (refine J.o 7 ?_; refine J.al hΓ (fun _ => ?_)) | (refine J.o 9 ?_; refine J.bl hΓ (fun _ => ?_)) | (refine J.o 10 ?_; refine J.ev' hΓ ?_) | (refine J.o 11 ?_; refine J.ev' hΓ ?_)))
        | (first | refine JC.seq ?_ | refine JC.region ?_ | refine JC.block ?_ | refine JC.ret ?_ | refine JC.exit ?_ | refine JC.skip ?_ | refine thenK.nn ?_ | refine thenK.r ?_ | refine thenK.x ?_ | refine blockK.nn ?_ | refine blockK.hit rfl ?_ | refine JC.condT rfl ?_ | refine JC.condF rfl ?_ | (refine JC.cond rfl (fun hc => ?_) (fun hc => ?_) <;> ((try simp only [decide_eq_true_eq, decide_eq_false_iff_not, beq_iff_eq, beq_eq_false_iff_ne, bne_iff_ne, bne_eq_false_iff_eq, Bool.not_eq_true', Bool.not_eq_false', Bool.not_eq_true, Bool.not_eq_false] at hc) <;> first | (first | (exact absurd rfl hc) | (exfalso; omega) | (exact absurd (hc.symm.trans (by assumption : _ = false)) (by decide)) | (exact absurd (hc.symm.trans (by assumption : _ = true)) (by decide))) | skip)) | refine drawK.nn ?_ | refine loopK.x ?_)
        | (fail)
        | fail
      all_goals first | (exfalso; omega) | skip
      refine retC hΓ rfl rfl rfl Rd.hd rfl (fun w1 hw => ⟨_, _, rfl, H.sel (l := [_, _, _, _, _, _]) (M := L) hw [1], mput dn (a : Int) (cN n s.ns a), h4, rfl, rfl, mp4, fun i v hi hv => ?_⟩)
      rcases mput_mem hv with hv | ⟨h1, h2⟩
      · exact dok' i v hi hv
      · rw [h2, show i = a by omega]
    ·
      repeat' first
        | (refine J.isJ ?_; first | (first | (refine J.o 4 ?_; first | refine J.lT (0 : Int) hΓ ?_ (hs := slArg ba [((nd s.ns a).l : Int), ((nd s.ns a).h : Int)] 3) (hr := RdH.hd) | refine J.lR hΓ ?_ (hr := rb'.tl.tl.tl.tl.tl.tl) | refine J.lT default hΓ ?_ (hs := hsl) (hr := rn.tl.tl.tl.tl.tl.tl) | refine J.lR hΓ ?_ (hr := Rd.hd.tl.tl)) | (refine J.o 1 ?_; first | refine J.gsub (b := 1) ?_ | refine J.gsub ?_)) | (first | (refine J.o 0 ?_; refine J.ev' hΓ ?_) | refine J.nil ?_ | (refine J.o 4 ?_; first | refine J.lT default hΓ ?_ | refine J.lR hΓ ?_) | (refine J.o 3 ?_; first | refine J.iJ hΓ ?_ | refine J.fP hΓ ?_ | refine J.iC hΓ ?_ | refine J.ev' hΓ ?_) | (refine J.o 1 ?_; first | refine J.ad ?_) | (refine J.o 5 ?_; first | refine J.t0 hΓ ?_ | refine J.t1 hΓ ?_) | (refine J.o 7 ?_; refine J.al hΓ (fun _ => ?_)) | (refine J.o 9 ?_; refine J.bl hΓ (fun _ => ?_)) | (refine J.o 10 ?_; refine J.ev' hΓ ?_) | (refine J.o 11 ?_; refine J.ev' hΓ ?_)))
        | (first | refine JC.seq ?_ | refine JC.region ?_ | refine JC.block ?_ | refine JC.ret ?_ | refine JC.exit ?_ | refine JC.skip ?_ | refine thenK.nn ?_ | refine thenK.r ?_ | refine thenK.x ?_ | refine blockK.nn ?_ | refine blockK.hit rfl ?_ | refine JC.condT rfl ?_ | refine JC.condF rfl ?_ | (refine JC.cond rfl (fun hc => ?_) (fun hc => ?_) <;> ((try simp only [decide_eq_true_eq, decide_eq_false_iff_not, beq_iff_eq, beq_eq_false_iff_ne, bne_iff_ne, bne_eq_false_iff_eq, Bool.not_eq_true', Bool.not_eq_false', Bool.not_eq_true, Bool.not_eq_false] at hc) <;> first | (first | (exact absurd rfl hc) | (exfalso; omega) | (exact absurd (hc.symm.trans (by assumption : _ = false)) (by decide)) | (exact absurd (hc.symm.trans (by assumption : _ = true)) (by decide))) | skip)) | refine drawK.nn ?_ | refine loopK.x ?_)
        | ((refine JC.drawO [(0,0),(0,1),(0,2),(1,3),(0,4),(0,5),(0,6),(1,7),(0,8),(1,9),(0,10),(0,11),(0,12)] (by decide +kernel) (by decide +kernel) ?_))
        | fail
      all_goals first | (exfalso; omega) | skip
      refine JC.drawD ([(b6, Obj.cells ⟨[.string (S (bytesN (sumQ n s.ns a 0)))]⟩ 58 (0, 0))] :: L) [(4,0),(0,1),(0,2),(0,3),(0,5),(3,4),(3,6),(3,7),(2,8),(2,9)] (by kernel_rfl) (by kernel_rfl) ?_
      refine JD.ld hΓ (fun w hw => H.sel (l := [_, _, _, _, _, _]) (M := L) hw [1]) Rd.hd ?_
      refine JD.ev hΓ ?_
      refine JD.ev hΓ ?_
      refine JD.ev hΓ ?_
      refine JD.ev hΓ ?_
      refine JD.callvd eCountR rfl rfl rfl (fun w hw => ih _ (by omega) (nd s.ns a).l rfl hl dn hM' mp' dok' (H.sel (l := [_, _, _, _, _, _]) (M := L) hw [5, 0, 1, 2, 3, 4]) rb.tl.tl.tl.tl.tl rn.tl.tl.tl.tl.tl) ?_
      rintro _ _ ⟨dn2, hM2, rfl, rfl, mp2, dok2⟩
      refine ⟨fun w hw => H.sel (l := [_, _, _, _, _, _]) (M := L) hw [2], ?_⟩
      refine JD.callvd ePow2 rfl rfl rfl (fun w hw => quietH hw (pow2_any ((nd s.ns (nd s.ns a).l).p - (nd s.ns a).p - 1) (by omega) w)) ?_
      rintro _ _ ⟨rfl, rfl⟩
      refine ⟨fun w hw => H.sel (l := [_, _, _, _, _, _]) (M := L) hw [2], ?_⟩
      refine JD.callvd eMul rfl rfl rfl (fun w hw => quietH hw (mul_any (cN n s.ns (nd s.ns a).l) (2 ^ ((nd s.ns (nd s.ns a).l).p - (nd s.ns a).p - 1)) bcl bpl w)) ?_
      rintro _ _ ⟨rfl, rfl⟩
      refine ⟨fun w hw => H.sel (l := [_, _, _, _, _, _]) (M := L) hw [2], ?_⟩
      refine JD.callvx eAddN rfl rfl rfl (fun w hw => quietH hw (add_any2 (sumQ n s.ns a 0) (cN n s.ns (nd s.ns a).l * 2 ^ ((nd s.ns (nd s.ns a).l).p - (nd s.ns a).p - 1)) bs0 bml w)) ?_
      rintro _ _ ⟨rfl, rfl⟩
      refine JD.perm br2 ?_
      refine JD.st hΓ ?_
      refine JD.nil ?_
      repeat' first
        | (refine J.isJ ?_; first | (fail) | (first | (refine J.o 0 ?_; refine J.ev' hΓ ?_) | refine J.nil ?_ | (refine J.o 4 ?_; first | refine J.lT default hΓ ?_ | refine J.lR hΓ ?_) | (refine J.o 3 ?_; first | refine J.iJ hΓ ?_ | refine J.fP hΓ ?_ | refine J.iC hΓ ?_ | refine J.ev' hΓ ?_) | (refine J.o 1 ?_; first | refine J.ad ?_) | (refine J.o 5 ?_; first | refine J.t0 hΓ ?_ | refine J.t1 hΓ ?_) | (refine J.o 7 ?_; refine J.al hΓ (fun _ => ?_)) | (refine J.o 9 ?_; refine J.bl hΓ (fun _ => ?_)) | (refine J.o 10 ?_; refine J.ev' hΓ ?_) | (refine J.o 11 ?_; refine J.ev' hΓ ?_)))
        | (first | refine JC.seq ?_ | refine JC.region ?_ | refine JC.block ?_ | refine JC.ret ?_ | refine JC.exit ?_ | refine JC.skip ?_ | refine thenK.nn ?_ | refine thenK.r ?_ | refine thenK.x ?_ | refine blockK.nn ?_ | refine blockK.hit rfl ?_ | refine JC.condT rfl ?_ | refine JC.condF rfl ?_ | (refine JC.cond rfl (fun hc => ?_) (fun hc => ?_) <;> ((try simp only [decide_eq_true_eq, decide_eq_false_iff_not, beq_iff_eq, beq_eq_false_iff_ne, bne_iff_ne, bne_eq_false_iff_eq, Bool.not_eq_true', Bool.not_eq_false', Bool.not_eq_true, Bool.not_eq_false] at hc) <;> first | (first | (exact absurd rfl hc) | (exfalso; omega) | (exact absurd (hc.symm.trans (by assumption : _ = false)) (by decide)) | (exact absurd (hc.symm.trans (by assumption : _ = true)) (by decide))) | skip)) | refine drawK.nn ?_ | refine loopK.x ?_)
        | (fail)
        | fail
      refine loopK.nn (m1 - 1) (by omega) (by repeat (first | refine Ag.upd rfl ?_ | exact Ag.hv)) ⟨_, ⟨1, dn2, hM2, rfl, by omega, mp2, dok2, rfl⟩, fun w hw => H.sel (l := [_, _, _, _, _, _]) (M := L) hw [2, 0, 3, 4, 5, 1]⟩
    ·
      repeat' first
        | (refine J.isJ ?_; first | (first | (refine J.o 4 ?_; first | refine J.lT (0 : Int) hΓ ?_ (hs := slArg ba [((nd s.ns a).l : Int), ((nd s.ns a).h : Int)] 3) (hr := RdH.hd) | refine J.lR hΓ ?_ (hr := rb'.tl.tl.tl.tl.tl.tl) | refine J.lT default hΓ ?_ (hs := hsl) (hr := rn.tl.tl.tl.tl.tl.tl) | refine J.lR hΓ ?_ (hr := Rd.hd.tl.tl)) | (refine J.o 1 ?_; first | refine J.gsub (b := 1) ?_ | refine J.gsub ?_)) | (first | (refine J.o 0 ?_; refine J.ev' hΓ ?_) | refine J.nil ?_ | (refine J.o 4 ?_; first | refine J.lT default hΓ ?_ | refine J.lR hΓ ?_) | (refine J.o 3 ?_; first | refine J.iJ hΓ ?_ | refine J.fP hΓ ?_ | refine J.iC hΓ ?_ | refine J.ev' hΓ ?_) | (refine J.o 1 ?_; first | refine J.ad ?_) | (refine J.o 5 ?_; first | refine J.t0 hΓ ?_ | refine J.t1 hΓ ?_) | (refine J.o 7 ?_; refine J.al hΓ (fun _ => ?_)) | (refine J.o 9 ?_; refine J.bl hΓ (fun _ => ?_)) | (refine J.o 10 ?_; refine J.ev' hΓ ?_) | (refine J.o 11 ?_; refine J.ev' hΓ ?_)))
        | (first | refine JC.seq ?_ | refine JC.region ?_ | refine JC.block ?_ | refine JC.ret ?_ | refine JC.exit ?_ | refine JC.skip ?_ | refine thenK.nn ?_ | refine thenK.r ?_ | refine thenK.x ?_ | refine blockK.nn ?_ | refine blockK.hit rfl ?_ | refine JC.condT rfl ?_ | refine JC.condF rfl ?_ | (refine JC.cond rfl (fun hc => ?_) (fun hc => ?_) <;> ((try simp only [decide_eq_true_eq, decide_eq_false_iff_not, beq_iff_eq, beq_eq_false_iff_ne, bne_iff_ne, bne_eq_false_iff_eq, Bool.not_eq_true', Bool.not_eq_false', Bool.not_eq_true, Bool.not_eq_false] at hc) <;> first | (first | (exact absurd rfl hc) | (exfalso; omega) | (exact absurd (hc.symm.trans (by assumption : _ = false)) (by decide)) | (exact absurd (hc.symm.trans (by assumption : _ = true)) (by decide))) | skip)) | refine drawK.nn ?_ | refine loopK.x ?_)
        | ((refine JC.drawO [(0,0),(0,1),(0,2),(1,3),(0,4),(0,5),(0,6),(1,7),(0,8),(1,9),(0,10),(0,11),(0,12)] (by decide +kernel) (by decide +kernel) ?_))
        | fail
      all_goals first | (exfalso; omega) | skip
      refine JC.drawD ([(b6, Obj.cells ⟨[.string (S (bytesN (sumQ n s.ns a 1)))]⟩ 58 (0, 0))] :: L) [(4,0),(0,1),(0,2),(0,3),(0,5),(3,4),(3,6),(3,7),(2,8),(2,9)] (by kernel_rfl) (by kernel_rfl) ?_
      refine JD.ld hΓ (fun w hw => H.sel (l := [_, _, _, _, _, _]) (M := L) hw [1]) Rd.hd ?_
      refine JD.ev hΓ ?_
      refine JD.ev hΓ ?_
      refine JD.ev hΓ ?_
      refine JD.ev hΓ ?_
      refine JD.callvd eCountR rfl rfl rfl (fun w hw => ih _ (by omega) (nd s.ns a).h rfl hh dn hM' mp' dok' (H.sel (l := [_, _, _, _, _, _]) (M := L) hw [5, 0, 1, 2, 3, 4]) rb.tl.tl.tl.tl.tl rn.tl.tl.tl.tl.tl) ?_
      rintro _ _ ⟨dn2, hM2, rfl, rfl, mp2, dok2⟩
      refine ⟨fun w hw => H.sel (l := [_, _, _, _, _, _]) (M := L) hw [2], ?_⟩
      refine JD.callvd ePow2 rfl rfl rfl (fun w hw => quietH hw (pow2_any ((nd s.ns (nd s.ns a).h).p - (nd s.ns a).p - 1) (by omega) w)) ?_
      rintro _ _ ⟨rfl, rfl⟩
      refine ⟨fun w hw => H.sel (l := [_, _, _, _, _, _]) (M := L) hw [2], ?_⟩
      refine JD.callvd eMul rfl rfl rfl (fun w hw => quietH hw (mul_any (cN n s.ns (nd s.ns a).h) (2 ^ ((nd s.ns (nd s.ns a).h).p - (nd s.ns a).p - 1)) bch bph w)) ?_
      rintro _ _ ⟨rfl, rfl⟩
      refine ⟨fun w hw => H.sel (l := [_, _, _, _, _, _]) (M := L) hw [2], ?_⟩
      refine JD.callvx eAddN rfl rfl rfl (fun w hw => quietH hw (add_any2 (sumQ n s.ns a 1) (cN n s.ns (nd s.ns a).h * 2 ^ ((nd s.ns (nd s.ns a).h).p - (nd s.ns a).p - 1)) bs1 bmh w)) ?_
      rintro _ _ ⟨rfl, rfl⟩
      refine JD.perm br2 ?_
      refine JD.st hΓ ?_
      refine JD.nil ?_
      repeat' first
        | (refine J.isJ ?_; first | (fail) | (first | (refine J.o 0 ?_; refine J.ev' hΓ ?_) | refine J.nil ?_ | (refine J.o 4 ?_; first | refine J.lT default hΓ ?_ | refine J.lR hΓ ?_) | (refine J.o 3 ?_; first | refine J.iJ hΓ ?_ | refine J.fP hΓ ?_ | refine J.iC hΓ ?_ | refine J.ev' hΓ ?_) | (refine J.o 1 ?_; first | refine J.ad ?_) | (refine J.o 5 ?_; first | refine J.t0 hΓ ?_ | refine J.t1 hΓ ?_) | (refine J.o 7 ?_; refine J.al hΓ (fun _ => ?_)) | (refine J.o 9 ?_; refine J.bl hΓ (fun _ => ?_)) | (refine J.o 10 ?_; refine J.ev' hΓ ?_) | (refine J.o 11 ?_; refine J.ev' hΓ ?_)))
        | (first | refine JC.seq ?_ | refine JC.region ?_ | refine JC.block ?_ | refine JC.ret ?_ | refine JC.exit ?_ | refine JC.skip ?_ | refine thenK.nn ?_ | refine thenK.r ?_ | refine thenK.x ?_ | refine blockK.nn ?_ | refine blockK.hit rfl ?_ | refine JC.condT rfl ?_ | refine JC.condF rfl ?_ | (refine JC.cond rfl (fun hc => ?_) (fun hc => ?_) <;> ((try simp only [decide_eq_true_eq, decide_eq_false_iff_not, beq_iff_eq, beq_eq_false_iff_ne, bne_iff_ne, bne_eq_false_iff_eq, Bool.not_eq_true', Bool.not_eq_false', Bool.not_eq_true, Bool.not_eq_false] at hc) <;> first | (first | (exact absurd rfl hc) | (exfalso; omega) | (exact absurd (hc.symm.trans (by assumption : _ = false)) (by decide)) | (exact absurd (hc.symm.trans (by assumption : _ = true)) (by decide))) | skip)) | refine drawK.nn ?_ | refine loopK.x ?_)
        | (fail)
        | fail
      refine loopK.nn (m1 - 1) (by omega) (by repeat (first | refine Ag.upd rfl ?_ | exact Ag.hv)) ⟨_, ⟨2, dn2, hM2, rfl, by omega, mp2, dok2, rfl⟩, fun w hw => H.sel (l := [_, _, _, _, _, _]) (M := L) hw [2, 0, 3, 4, 5, 1]⟩
theorem Count_any {n : Nat} {K : KS} {s : SS} (so : SOk n K s) (b0 a : Nat) (ha : a < s.ns.length) {w0 w : World} {R : Heap} {L : List Heap} (rb : Rd R L b0 (stO K s.an s.ns.length s.cn)) (rn : RdH R L s.hN) (hw : H w0 R L w) :
    Calls Try.prog 30 #[.pointer (some ⟨b0, 0, none⟩), .int .i64 (a : Int)] w fun e w' => ∃ v L', e = .returned v ∧ H w0 R L' w' ∧ v = .tuple #[natV (2 ^ (nd s.ns a).p * cN n s.ns a), .int .i64 0] ∧ L' = L := by
  have two := so.wf.two
  have n8 := so.n8
  have sm := so.sm
  have rb' := rb
  unfold stO at rb'
  have hsl := so.ow.sl
  have hpl := so.wf.ple ha
  have cChk : ∀ L1 w1 b1, H w0 R L1 w1 → Rd R L1 b0 (stO K s.an s.ns.length s.cn) → Rd R L1 b1 (intO a) → Calls Try.prog 64 #[.pointer (some ⟨b0, 0, none⟩), .slice (some ⟨b1, 0, none⟩) 1 1] w1 fun e w' => e = .returned (.int .i64 0) ∧ Below w1.heap.size w1 w' := fun L1 w1 b1 hw hb hr => by
    have hc := chk_ok (m := s.ns.length) (l := [a]) (by simp only [List.mem_cons, List.not_mem_nil, or_false, forall_eq]; exact ha)
    have := check_any K b0 s.an s.cn s.ns.length two [(b0, stO K s.an s.ns.length s.cn), (b1, intO a)] List.mem_cons_self [(a : Int)] (some ⟨b1, 0, none⟩) 1 ((slArg b1 [(a : Int)] 3).sub fun y hy => List.mem_cons_of_mem _ hy) (by show 1 ≤ 1000; omega) w1 (holds2 (hw.rd hb) (holds2 (hw.rd hr) (Holds.nil _)))
    rw [show chkP s.ns.length [(a : Int)] = true from hc, if_pos rfl] at this
    exact this
  have bc := pow17 n8 (cN_le2 so.wf ha)
  have bp := pow17 n8 (Nat.pow_le_pow_right (n := 2) (by omega) hpl)
  refine calls_in Try.func30 Try.ntmps30 rfl rfl (hw) ?_
  repeat' first
    | (refine J.isJ ?_; first | (first | (refine J.o 7 ?_; refine J.al hΓ (fun b4 => ?_)) | (refine J.o 9 ?_; refine J.bl hΓ (fun b1 => ?_)) | (refine J.fc 64 ?_; refine J.call0 eCheck rfl rfl (fun w hw => cChk _ w _ hw rb.tl.tl Rd.hd) ?_)) | (first | (refine J.o 0 ?_; refine J.ev' hΓ ?_) | refine J.nil ?_ | (refine J.o 3 ?_; first | refine J.ev' hΓ ?_) | (refine J.o 7 ?_; refine J.al hΓ (fun _ => ?_)) | (refine J.o 9 ?_; refine J.bl hΓ (fun _ => ?_)) | (refine J.o 10 ?_; refine J.ev' hΓ ?_) | (refine J.o 11 ?_; refine J.ev' hΓ ?_)))
    | (first | refine JC.seq ?_ | refine JC.region ?_ | refine JC.ret ?_ | refine JC.skip ?_ | refine thenK.nn ?_ | refine JC.condF rfl ?_ | refine drawK.nn ?_)
    | (fail)
    | fail
  all_goals first | (exfalso; omega) | skip
  refine JC.drawD L [(0,0),(0,1),(0,4),(0,5),(0,6),(4,7),(0,8),(0,9),(0,10),(4,11),(3,2),(3,3),(3,12),(3,13),(2,14),(0,15)] (by decide +kernel) (by decide +kernel) ?_
  refine JD.ev hΓ ?_
  refine JD.ev hΓ ?_
  refine JD.ev hΓ ?_
  refine JD.ev hΓ ?_
  refine JD.ev hΓ ?_
  refine JD.ld hΓ (fun w hw => hw.drop.drop) rb' ?_
  refine JD.ev hΓ ?_
  refine JD.iJ hΓ hsl ?_
  refine JD.fP hΓ ?_
  refine JD.lT default hΓ (fun w hw => hw.drop.drop) hsl rn ?_
  refine JD.mkm fun bm => ⟨fun w hw => hw.drop.drop.drop, ?_⟩
  refine JD.callvd eCountR rfl rfl rfl (fun w hw => count_any so b0 bm _ a rfl ha [] [(bm, .map ⟨[]⟩ 0)] (MapT.nil _) (fun i v hi hv => by cases hv) hw rb.tl.tl rn.tl.tl) ?_
  rintro _ _ ⟨dn, hM, rfl, rfl, mp, dok⟩
  refine ⟨fun w hw => hw.drop.drop.drop, ?_⟩
  refine JD.callvd ePow2 rfl rfl rfl (fun w hw => quietH hw (pow2_any (nd s.ns a).p (by omega) w)) ?_
  rintro _ _ ⟨rfl, rfl⟩
  refine ⟨fun w hw => hw.drop.drop.drop, ?_⟩
  refine JD.callvd eMul rfl rfl rfl (fun w hw => quietH hw (mul_any (cN n s.ns a) (2 ^ (nd s.ns a).p) bc bp w)) ?_
  rintro _ _ ⟨rfl, rfl⟩
  refine ⟨fun w hw => hw.drop.drop.drop, ?_⟩
  refine JD.perm br2 ?_
  refine JD.st hΓ ?_
  refine JD.ev hΓ ?_
  refine JD.nil ?_
  repeat' first
    | (refine J.isJ ?_; first | (fail) | (first | (refine J.o 0 ?_; refine J.ev' hΓ ?_) | refine J.nil ?_ | (refine J.o 3 ?_; first | refine J.ev' hΓ ?_) | (refine J.o 7 ?_; refine J.al hΓ (fun _ => ?_)) | (refine J.o 9 ?_; refine J.bl hΓ (fun _ => ?_)) | (refine J.o 10 ?_; refine J.ev' hΓ ?_) | (refine J.o 11 ?_; refine J.ev' hΓ ?_)))
    | (first | refine JC.seq ?_ | refine JC.region ?_ | refine JC.ret ?_ | refine JC.skip ?_ | refine thenK.nn ?_ | refine JC.condF rfl ?_ | refine drawK.nn ?_)
    | (fail)
    | fail
  rw [Nat.mul_comm (cN n s.ns a)]
  exact retCS hΓ rfl rfl rfl rfl Rd.hd rfl rfl (fun w1 hw => ⟨_, _, rfl, hw.drop.drop.drop, rfl, rfl⟩)
end Go.Proofs.Ytbhgahjeocnfcaa
namespace Go.Proofs.Ytbhgahjeocnfcaa
open Go Go.Cx Go.RowKit
set_option linter.unusedVariables false
set_option linter.unusedSimpArgs false
set_option maxHeartbeats 4000000
attribute [local irreducible] J JC thenK blockK loopK drawK retK QW Qt pel List.set Calls
open Go.Maps
set_option maxRecDepth 8000
attribute [local irreducible] JE Br eK0 eK3 brK pc
def asgS (order : List Int) (x : Nat × Nat) : Nat → Bool := fun k => hasB x (order.getD k default)
theorem Eval_any {n : Nat} {K : KS} {s : SS} (so : SOk n K s) {order : List Int} {hO hP : Heap} (po : POk K order hO hP) (b a : Nat) (ha : a < s.ns.length) (x : Nat × Nat) (hx : okS x) (w : World) (hw : Holds (stR K b s hO) w) :
    Calls Try.prog 34 #[.pointer (some ⟨b, 0, none⟩), .int .i64 (a : Int), sv x] w fun e w' => e = .returned (.bool (fn n s.ns a (asgS order x))) ∧ Below w.heap.size w w' := by
  have hno := so.no
  have hpl := po.len
  have hsm := so.sm
  have two := so.wf.two
  have n8 := so.n8
  have hsl : SlT enc3 3 s.an s.ns (stR K b s hO) := so.ow.sl.sub fun y hy => List.mem_cons_of_mem _ (List.mem_append_left _ hy)
  have hso : SlT encI 1 K.ao order (stR K b s hO) := po.ow.sl.sub fun y hy => List.mem_cons_of_mem _ (List.mem_append_right _ hy)
  have rb : ∀ L, Rd (stR K b s hO) L b (stO K s.an s.ns.length s.cn) := fun L => Rd.old List.mem_cons_self
  have q0 : ∀ L, RdH (stR K b s hO) L (stR K b s hO) := fun L => RdH.old fun _ hh => hh
  have cChk : ∀ L1 w1 b1, H w (stR K b s hO) L1 w1 → Rd (stR K b s hO) L1 b1 (intO a) → Calls Try.prog 64 #[.pointer (some ⟨b, 0, none⟩), .slice (some ⟨b1, 0, none⟩) 1 1] w1 fun e w' => e = .returned (.int .i64 0) ∧ Below w1.heap.size w1 w' := fun L1 w1 b1 hw hr => by
    have hc := chk_ok (m := s.ns.length) (l := [a]) (by simp only [List.mem_cons, List.not_mem_nil, or_false, forall_eq]; exact ha)
    have := check_any K b s.an s.cn s.ns.length so.wf.two [(b, stO K s.an s.ns.length s.cn), (b1, intO a)] List.mem_cons_self [(a : Int)] (some ⟨b1, 0, none⟩) 1 ((slArg b1 [(a : Int)] 3).sub fun y hy => List.mem_cons_of_mem _ hy) (by show 1 ≤ 1000; omega) w1 (holds2 (hw.rd (rb _)) (holds2 (hw.rd hr) (Holds.nil _)))
    rw [show chkP s.ns.length [(a : Int)] = true from hc, if_pos rfl] at this
    exact this
  have rb2 := rb
  unfold stO at rb
  refine calls_of_JC (R := (stR K b s hO)) Try.func34 Try.ntmps34 rfl rfl (hw) ?_
  unfold sv
  repeat' first
    | (refine J.isJ ?_; first | (first | (refine J.o 6 ?_; refine J.bx (fun b5 => ?_)) | (refine J.o 9 ?_; refine J.bl hΓ (fun b1 => ?_)) | (refine J.fc 64 ?_; refine J.call0 eCheck rfl rfl (fun w hw => cChk _ w _ hw Rd.hd) ?_)) | (first | (refine J.o 0 ?_; refine J.ev' hΓ ?_) | refine J.nil ?_ | (refine J.o 4 ?_; first | refine J.lT default hΓ ?_ | refine J.lR hΓ ?_) | (refine J.o 3 ?_; first | refine J.iJ hΓ ?_ | refine J.ev' hΓ ?_) | (refine J.o 5 ?_; first | refine J.t0 hΓ ?_) | (refine J.o 6 ?_; refine J.bx (fun _ => ?_)) | (refine J.o 7 ?_; refine J.al hΓ (fun _ => ?_)) | (refine J.o 9 ?_; refine J.bl hΓ (fun _ => ?_)) | (refine J.o 10 ?_; refine J.ev' hΓ ?_) | (refine J.o 11 ?_; refine J.ev' hΓ ?_)))
    | (first | refine JC.seq ?_ | refine JC.region ?_ | refine JC.block ?_ | refine JC.ret ?_ | refine JC.exit ?_ | refine JC.skip ?_ | refine thenK.nn ?_ | refine thenK.x ?_ | refine blockK.nn ?_ | refine blockK.hit rfl ?_ | refine JC.condF rfl ?_ | (refine JC.cond rfl (fun hc => ?_) (fun hc => ?_) <;> ((try simp only [decide_eq_true_eq, decide_eq_false_iff_not, beq_iff_eq, beq_eq_false_iff_ne, bne_iff_ne, bne_eq_false_iff_eq, Bool.not_eq_true', Bool.not_eq_false', Bool.not_eq_true, Bool.not_eq_false] at hc) <;> first | (first | (exact absurd rfl hc) | (exfalso; omega) | (exact absurd (hc.symm.trans (by assumption : _ = false)) (by decide)) | (exact absurd (hc.symm.trans (by assumption : _ = true)) (by decide))) | skip)) | refine drawK.nn ?_ | refine loopK.x ?_)
    | (fail)
    | fail
  all_goals first | (exfalso; omega) | skip
  refine JC.loop (fun i => i == 1 || i == 7 || Nat.ble 13 i) (fun m g L' => ∃ i, g 1 = .int .i64 ((i : Nat) : Int) ∧ i < s.ns.length ∧ n - (nd s.ns i).p = m ∧ fn n s.ns i (asgS order x) = fn n s.ns a (asgS order x) ∧ L' = [[(b1, Obj.cells ⟨[.int .i64 (a : Int)]⟩ 3 (0, 0))], [(b5, Obj.cells ⟨[.int .u64 (x.1 : Int), .int .u64 (x.2 : Int)]⟩ 53 (0, 0))]]) (n - (nd s.ns a).p) ⟨a, rfl, ha, rfl, rfl, rfl⟩ ?_
  rintro m1 g1 L' ⟨i, e1, hi, hm, hfn, rfl⟩
  refine JC.pin 1 e1 ?_
  rcases Nat.lt_or_ge i 2 with h2 | h2
  · have hv : fn n s.ns a (asgS order x) = decide (i = 1) := by rw [← hfn]; unfold fn; exact ev_const _ _ _ h2 _
    repeat' first
      | (refine J.isJ ?_; first | (fail) | (first | (refine J.o 0 ?_; refine J.ev' hΓ ?_) | refine J.nil ?_ | (refine J.o 4 ?_; first | refine J.lT default hΓ ?_ | refine J.lR hΓ ?_) | (refine J.o 3 ?_; first | refine J.iJ hΓ ?_ | refine J.ev' hΓ ?_) | (refine J.o 5 ?_; first | refine J.t0 hΓ ?_) | (refine J.o 6 ?_; refine J.bx (fun _ => ?_)) | (refine J.o 7 ?_; refine J.al hΓ (fun _ => ?_)) | (refine J.o 9 ?_; refine J.bl hΓ (fun _ => ?_)) | (refine J.o 10 ?_; refine J.ev' hΓ ?_) | (refine J.o 11 ?_; refine J.ev' hΓ ?_)))
      | (first | refine JC.seq ?_ | refine JC.region ?_ | refine JC.block ?_ | refine JC.ret ?_ | refine JC.exit ?_ | refine JC.skip ?_ | refine thenK.nn ?_ | refine thenK.x ?_ | refine blockK.nn ?_ | refine blockK.hit rfl ?_ | refine JC.condF rfl ?_ | (refine JC.cond rfl (fun hc => ?_) (fun hc => ?_) <;> ((try simp only [decide_eq_true_eq, decide_eq_false_iff_not, beq_iff_eq, beq_eq_false_iff_ne, bne_iff_ne, bne_eq_false_iff_eq, Bool.not_eq_true', Bool.not_eq_false', Bool.not_eq_true, Bool.not_eq_false] at hc) <;> first | (first | (exact absurd rfl hc) | (exfalso; omega) | (exact absurd (hc.symm.trans (by assumption : _ = false)) (by decide)) | (exact absurd (hc.symm.trans (by assumption : _ = true)) (by decide))) | skip)) | refine drawK.nn ?_ | refine loopK.x ?_)
      | (fail)
      | fail
    all_goals first | (exfalso; omega) | skip
    all_goals (refine ret1f rfl rfl rfl (fun w1 hw => ⟨?_, hw.below⟩))
    rw [hv]
    refine congrArg (fun z : Bool => Ending.returned (Value.bool z)) ?_
    exact decide_eq_decide.2 (by omega)
  · have hp := so.wf.pl i h2 hi
    have hlp := so.wf.lp i h2 hi
    have hhp := so.wf.hp i h2 hi
    have hp1 : (s.ns.getD i default).p < K.no := by rw [hno]; exact hp
    have hp2 : (s.ns.getD i default).p < order.length := by rw [← hpl]; exact hp1
    have cH := fun w => has_any x hx (order.getD (s.ns.getD i default).p default) w
    have cP := fun L1 w1 (hw : H w (stR K b s hO) L1 w1) hi2 => part_any K b s.an s.cn s.ns (stR K b s hO) hsl List.mem_cons_self i (s.ns.getD i default).p hi2 hi w1 (hw.rdH (q0 _))
    repeat' first
      | (refine J.isJ ?_; first | (first | (refine J.o 7 ?_; refine J.al hΓ (fun b7 => ?_)) | (refine J.o 4 ?_; first | refine J.lR hΓ ?_ (hr := rb _) | (refine J.lT default hΓ ?_ (hs := hsl) (hr := q0 _)) | (refine J.lT default hΓ ?_ (hs := hso) (hr := q0 _)) | refine J.lR hΓ ?_ (hr := Rd.hd.tl.tl)) | (refine J.fc 82 ?_; refine J.call0 eHas rfl rfl (fun w hw => cH w) ?_) | (refine J.fc 81 ?_; refine J.call0 ePart rfl rfl (fun w hw => cP _ w hw _) ?_)) | (first | (refine J.o 0 ?_; refine J.ev' hΓ ?_) | refine J.nil ?_ | (refine J.o 4 ?_; first | refine J.lT default hΓ ?_ | refine J.lR hΓ ?_) | (refine J.o 3 ?_; first | refine J.iJ hΓ ?_ | refine J.ev' hΓ ?_) | (refine J.o 5 ?_; first | refine J.t0 hΓ ?_) | (refine J.o 6 ?_; refine J.bx (fun _ => ?_)) | (refine J.o 7 ?_; refine J.al hΓ (fun _ => ?_)) | (refine J.o 9 ?_; refine J.bl hΓ (fun _ => ?_)) | (refine J.o 10 ?_; refine J.ev' hΓ ?_) | (refine J.o 11 ?_; refine J.ev' hΓ ?_)))
      | (first | refine JC.seq ?_ | refine JC.region ?_ | refine JC.block ?_ | refine JC.ret ?_ | refine JC.exit ?_ | refine JC.skip ?_ | refine thenK.nn ?_ | refine thenK.x ?_ | refine blockK.nn ?_ | refine blockK.hit rfl ?_ | refine JC.condF rfl ?_ | (refine JC.cond rfl (fun hc => ?_) (fun hc => ?_) <;> ((try simp only [decide_eq_true_eq, decide_eq_false_iff_not, beq_iff_eq, beq_eq_false_iff_ne, bne_iff_ne, bne_eq_false_iff_eq, Bool.not_eq_true', Bool.not_eq_false', Bool.not_eq_true, Bool.not_eq_false] at hc) <;> first | (first | (exact absurd rfl hc) | (exfalso; omega) | (exact absurd (hc.symm.trans (by assumption : _ = false)) (by decide)) | (exact absurd (hc.symm.trans (by assumption : _ = true)) (by decide))) | skip)) | refine drawK.nn ?_ | refine loopK.x ?_)
      | ((refine JC.drawO [(0,0),(0,1),(0,2),(1,3),(1,4),(0,5),(0,6),(0,7),(1,8),(0,9),(1,10),(0,11),(1,12),(1,13),(1,14),(0,15)] (by decide +kernel) (by decide +kernel) ?_))
      | fail
    all_goals first | (exfalso; omega) | skip
    have hpt : ∀ β, partN s.ns i (nd s.ns i).p β = if β then (nd s.ns i).h else (nd s.ns i).l := fun β => by unfold partN; rw [if_neg (fun h => h rfl)]
    have hst : fn n s.ns (partN s.ns i (nd s.ns i).p (hasB x (order.getD (nd s.ns i).p default))) (asgS order x) = fn n s.ns i (asgS order x) := part_fn so.wf (asgS order x) hi hp
    have hlt := part_lt so.wf (hasB x (order.getD (nd s.ns i).p default)) hi hp
    refine loopK.np (n - (nd s.ns (partN s.ns i (nd s.ns i).p (hasB x (order.getD (nd s.ns i).p default)))).p) [_] _ ?_ (by repeat (first | refine Ag.upd rfl ?_ | exact Ag.hv)) (List.Perm.refl _) ⟨_, rfl, hlt, rfl, hst.trans hfn, rfl⟩
    have := part_p so.wf (hasB x (order.getD (nd s.ns i).p default)) hi hp (Nat.le_refl _)
    have := so.wf.ple hlt
    omega
end Go.Proofs.Ytbhgahjeocnfcaa
namespace Go.Proofs.Ytbhgahjeocnfcaa
open Go Go.Cx Go.RowKit Go.Lib
set_option linter.unusedVariables false
set_option linter.unusedSimpArgs false
set_option maxHeartbeats 4000000
set_option maxRecDepth 8000
section
variable {P : Program} {n : Nat} {w0 : World} {R : Heap} {l0 : List Oper} {K : Exit → Fr → List Heap → Prop} {f : Fr} {L : List Heap} {rest : List (Nat × Oper)} {κ : Nat}
variable {Γ : List (Nat × TI)} {d : Nat} {ty : TypeId} {pos : String} {aft : Array Edge} {g : Option (Nat × Bool)} {t u te : TypeId} {x y : Operand}
theorem J.pS {a : Addr} {s1 b1 s2 b2 : Nat} {z1 z2 : Option Value} {de : TypeDesc} (hΓ : Fits P Γ) (k : J P n w0 R l0 K rest (upd f d (.bool false)) L) (hg : wantB n f l0 ⟨some d, .binOp .neq t x y u, ty, pos, aft, g⟩ = true := by exact rfl) (hx : Cx.ev n f x = .pointer (some a) := by exact rfl) (hy : Cx.ev n f y = .pointer (some a) := by exact rfl) (ht : Go.Cx.look Γ t = some ⟨.pointer te, s1, z1, b1⟩ := by exact rfl) (he : Go.Cx.look Γ te = some ⟨de, s2, z2, b2⟩ := by exact rfl) : J P n w0 R l0 K ((κ, ⟨some d, .binOp .neq t x y u, ty, pos, aft, g⟩) :: rest) f L :=
  J.p hg (fun w => by
    obtain ⟨_, ie, hie, _⟩ := hΓ te _ he
    have h2 := Lib.run_neq_ptr_same (P := P) w a (hΓ t _ ht).1 hie
    have h3 : (eqGuard .neq t x y (.pointer (some a)) (.pointer (some a))).run P w = .ok () w := by simp [eqGuard]
    simp only [execOp, hx, hy, Sem.run_bind, h3, Result.andThen_ok, h2]
    rfl) k
theorem J.cU {t2 : TypeId} {b : Nat} {cs : List Value} {e : TypeId} {fr : Nat × Nat} {s1 b1 s3 b3 : Nat} {z1 z3 : Option Value} {de : TypeDesc} (hΓ : Fits P Γ) (hu2 : P.underlying t2 = some .unsafePointer) (hr : Rd R L b (.cells ⟨cs⟩ e fr)) (k : J P n w0 R l0 K rest (upd f d (.pointer (some ⟨b, 0, none⟩))) L) (hg : wantB n f l0 ⟨some d, .convert t t2 x, ty, pos, aft, g⟩ = true := by exact rfl) (hx : Cx.ev n f x = .pointer (some ⟨b, 0, none⟩) := by exact rfl) (ht : Go.Cx.look Γ t = some ⟨.pointer te, s1, z1, b1⟩ := by exact rfl) (he : Go.Cx.look Γ te = some ⟨de, s3, z3, b3⟩ := by exact rfl) (hs : Nat.ble 1 s3 = true := by exact rfl) (hl : Nat.ble 1 cs.length = true := by exact rfl) : J P n w0 R l0 K ((κ + 1, ⟨some d, .convert t t2 x, ty, pos, aft, g⟩) :: rest) f L :=
  J.q hg (fun w hw => by
    obtain ⟨_, ie, hie, hse, _⟩ := hΓ te _ he
    have hb := hw.rd hr
    have hsh : w.shape? b = some (e, cs.length) := by simp [World.shape?, hb]
    have h2 := Lib.run_to_unsafe (P := P) w ⟨b, 0, none⟩ (hΓ t _ ht).1 hu2 hie (by have := Nat.le_of_ble_eq_true hs; rw [hse]; show s3 ≠ 0; omega) hsh (Nat.le_of_ble_eq_true hl)
    simp only [execOp, hx, Sem.run_bind, h2, Result.andThen_ok]
    rfl) k
theorem J.cP {t2 : TypeId} {b : Nat} {cs : List Value} {e : TypeId} {fr : Nat × Nat} {s1 b1 s3 b3 : Nat} {z1 z3 : Option Value} {de : TypeDesc} (hΓ : Fits P Γ) (hu2 : P.underlying t2 = some .unsafePointer) (hr : Rd R L b (.cells ⟨cs⟩ e fr)) (k : J P n w0 R l0 K rest (upd f d (.pointer (some ⟨b, 0, none⟩))) L) (hlies : liesAt P P.depth e (cs.length / P.cellsOf e) 0 te 1 = true := by kernel_rfl) (hg : wantB n f l0 ⟨some d, .convert t2 t x, ty, pos, aft, g⟩ = true := by exact rfl) (hx : Cx.ev n f x = .pointer (some ⟨b, 0, none⟩) := by exact rfl) (ht : Go.Cx.look Γ t = some ⟨.pointer te, s1, z1, b1⟩ := by exact rfl) (he : Go.Cx.look Γ te = some ⟨de, s3, z3, b3⟩ := by exact rfl) : J P n w0 R l0 K ((κ + 1, ⟨some d, .convert t2 t x, ty, pos, aft, g⟩) :: rest) f L :=
  J.q hg (fun w hw => by
    obtain ⟨_, ie, hie, hse, _⟩ := hΓ te _ he
    have hb := hw.rd hr
    have hsh : w.shape? b = some (e, cs.length) := by simp [World.shape?, hb]
    have h2 := Lib.run_from_unsafe (P := P) w ⟨b, 0, none⟩ hu2 (hΓ t _ ht).1 hie hsh hlies
    simp only [execOp, hx, Sem.run_bind, h2, Result.andThen_ok]
    rfl) k
theorem J.nE {fid : FuncId} {fn : Func} {xs : List Operand} {ats : Array TypeId} {v : Value} (hf : P.funcs[fid]? = some fn) (hn : (fn.name == "runtime.NumGoroutine") = false) (hb : fn.body.isNone = true) (hnx : Extern.findNext fn = none) (hfi : Extern.find fn = some Extern.AbiNoEscape.same) (hg : wantB n f l0 ⟨some d, .call ⟨.value (.func fid), ⟨xs⟩, ats⟩, ty, pos, aft, g⟩ = true) (ha : argsEv (Cx.ev n f) xs = some [v]) (k : J P n w0 R l0 K rest (upd f d v) L) : J P n w0 R l0 K ((κ, ⟨some d, .call ⟨.value (.func fid), ⟨xs⟩, ats⟩, ty, pos, aft, g⟩) :: rest) f L :=
  J.p hg (fun w => by
    have h1 : (⟨xs⟩ : Array Operand).map (Cx.ev n f) = ⟨[v]⟩ := by rw [← argsEv_eq ha]; simp
    have h2 := run_callFunc_extern hf hn hb hnx hfi #[v] w
    rw [Lib.run_noEscape] at h2
    simp only [Result.andThen_ok] at h2
    simp only [execOp, resolve, h1, Cx.ev, Deferred.ofValue, Sem.run_bind, Sem.run_pure, Result.andThen_ok, invoke]
    simpa using h2) k
end
section
variable {P : Program} {n : Nat} {w0 : World} {R : Heap} {l0 : List Oper} {K : Exit → Fr → List Heap → Prop} {f : Fr} {L : List Heap} {rest : List (Nat × Oper)} {κ : Nat}
variable {Γ : List (Nat × TI)} {d : Nat} {op : Op} {ty : TypeId} {pos : String} {aft : Array Edge} {g : Option (Nat × Bool)}
variable {α : Type} {enc : α → List Value} {a : Option Addr} {ts us : List α} {h : Heap} {size e cap : Nat}
theorem app_runC (hΓ : Fits P Γ) {t ty' : TypeId} {s1 b1 b2 : Nat} {z1 : Option Value} {z : Value} {zc : List Value} {de : TypeDesc} (ht : Go.Cx.look Γ t = some ⟨.slice e, s1, z1, b1⟩) (he : Go.Cx.look Γ e = some ⟨de, size, some z, b2⟩) (hz : vcells z = some zc) (hzl : zc.length = size)
    {w : World} (hw : H w0 R (h :: L) w) (ho : OwT enc size e a cap ts h) {ad : Addr} {c : Nat} (hnews : ∀ j u, (us.flatMap enc)[j]? = some u → w.cell? (ad.add j) = some u) (h1 : ones (us.flatMap enc) = true) (hm : 0 < us.length)
    (hb : (ts.length + us.length) * b2 ≤ 140737488355328) (h63 : ts.length + us.length ≤ 9223372036854775807) (hcap : cap ≤ maxLen) (hln : ts.length + us.length ≤ 140737488355328) :
    ∃ a' cap' h' w', (Builtin.append_ #[t, t] ty' #[.slice a ts.length cap, .slice (some ad) us.length c]).run P w = .ok (.slice a' (ts.length + us.length) cap') w' ∧ H w0 R (h' :: L) w' ∧ OwT enc size e a' cap' (ts ++ us) h' ∧ cap' ≤ maxLen := by
  have hu := (hΓ t _ ht).1
  obtain ⟨hue, ie, hie, hse, hze, hbe⟩ := hΓ e _ he
  have hl : (us.flatMap enc).length = us.length * ie.size := by rw [flat_len ho.len, hse]
  have hzs : z.cells.size = size := by rw [vcells_eq hz]; simpa using hzl
  have hsz : ie.size = size := hse
  rcases ho.row with ⟨rfl, rfl, rfl, rfl⟩ | ⟨gb, cs, rfl, rfl, hc1, hc2, hc3⟩
  · -- nothing yet
    have hrun := run_append_nil (P := P) w t ty' e ie z hu hie hze ad us.length c (us.flatMap enc) hl hnews hm (by simp at h63; omega) (by rw [hbe]; show us.length * b2 ≤ _; simp at hb; omega)
    have hge := grownCap_ge w us.length 0 e
    refine ⟨some ⟨w.heap.size, 0, none⟩, grownCap w us.length 0 e, _, _, ?_, (hw.drop.drew (w.drawn + 1)).alloc (.cells ((us.flatMap enc).toArray ++ Builtin.zeroCells z.cells (grownCap w us.length 0 e - us.length)) e), ?_, grownCap_le_maxLen w us.length 0 e (by unfold maxLen; omega)⟩
    · simp only [List.length_nil, Nat.zero_add]
      exact hrun
    · refine ⟨ho.len, .inr ⟨w.heap.size, (us.flatMap enc) ++ (Builtin.zeroCells z.cells (grownCap w us.length 0 e - us.length)).toList, rfl, ?_, ?_, ?_, ?_⟩⟩
      · simp
      · simp only [List.length_append, Array.length_toList, size_zeroCells, hzs, flat_len ho.len]
        rw [← Nat.add_mul]
        congr 1
        omega
      · simpa using hge
      · simp only [List.nil_append]
        rw [List.take_append_of_le_length (by rw [flat_len ho.len]; exact Nat.le_refl _), List.take_of_length_le (by rw [flat_len ho.len]; exact Nat.le_refl _)]
  · have hg : w.heap[gb]? = some (.cells cs.toArray e (0, 0)) := hw.own (gb, _) (by simp)
    by_cases hroom : ts.length + us.length ≤ cap
    · -- there is room
      have hfit : ts.length * ie.size + (us.flatMap enc).length ≤ cs.toArray.size := by
        rw [hl, ← Nat.add_mul, hsz]
        simp only [List.size_toArray, hc1]
        exact Nat.mul_le_mul_right _ hroom
      have hrun := run_append_room (P := P) w t ty' e ie hu hie gb ts.length cap cs.toArray hg ad us.length c (us.flatMap enc) hl hnews (ones_ok h1) hroom hfit
      refine ⟨_, _, [(gb, .cells ⟨ts.flatMap enc ++ us.flatMap enc ++ cs.drop (ts.length * ie.size + (us.flatMap enc).length)⟩ e (0, 0))], _, hrun, ?_, ?_, hcap⟩
      · refine hw.write rfl rfl rfl (by simp) ?_ (fun k hk => setRow_other _ _ _ _ hk)
        rw [setRow_heap w gb _ _ e _ hg]
        simp only [hsz, hc3]
      · refine ⟨ho.len, .inr ⟨gb, _, rfl, rfl, ?_, ?_, ?_⟩⟩
        · simp only [List.length_append, List.length_drop, flat_len ho.len, hsz, hc1]
          simp only [List.size_toArray, hc1, hl, hsz] at hfit
          have := hfit
          omega
        · simpa using hroom
        · rw [List.flatMap_append, List.take_append_of_le_length (by rw [List.length_append, List.length_append, flat_len ho.len, flat_len ho.len, Nat.add_mul]; exact Nat.le_refl _)]
          rw [List.take_of_length_le (by rw [List.length_append, List.length_append, flat_len ho.len, flat_len ho.len, Nat.add_mul]; exact Nat.le_refl _)]
    · -- a new row
      have hlt : cap < ts.length + us.length := by omega
      have hadd : ∀ j, (⟨gb, 0, none⟩ : Addr).add j = ⟨gb, j, none⟩ := fun j => by unfold Addr.add; split <;> simp_all
      have hfit : Builtin.nextslicecap (ts.length + us.length) cap * ie.bytes ≤ 281474976710656 := by
        have h2 := nextslicecap_le hlt
        have h3 : Builtin.nextslicecap (ts.length + us.length) cap * b2 ≤ (2 * (ts.length + us.length)) * b2 := Nat.mul_le_mul_right _ h2
        rw [Nat.mul_assoc] at h3
        rw [hbe]
        show _ * b2 ≤ _
        omega
      have hrun := run_append_grow (P := P) w t ty' e ie z hu hie hze ⟨gb, 0, none⟩ ts.length cap (ts.flatMap enc) (by rw [flat_len ho.len, hsz]) (fun j v hj => by
          rw [hadd, cell_of_row w gb j cs.toArray e (0, 0) hg]
          rw [← hc3, List.getElem?_take] at hj
          split at hj
          · simpa using hj
          · cases hj) ad us.length c (us.flatMap enc) hl hnews hlt (by omega) hfit
      have hge := grownCap_ge w (ts.length + us.length) cap e
      refine ⟨_, _, _, _, hrun, (hw.drop.drew (w.drawn + 1)).alloc _, ?_, grownCap_le_maxLen w (ts.length + us.length) cap e (by unfold maxLen; omega)⟩
      refine ⟨ho.len, .inr ⟨w.heap.size, ts.flatMap enc ++ us.flatMap enc ++ (Builtin.zeroCells z.cells (grownCap w (ts.length + us.length) cap e - (ts.length + us.length))).toList, rfl, ?_, ?_, ?_, ?_⟩⟩
      · simp
      · simp only [List.length_append, Array.length_toList, size_zeroCells, hzs, flat_len ho.len]
        rw [← Nat.add_mul, ← Nat.add_mul]
        congr 1
        omega
      · simpa using hge
      · rw [List.flatMap_append, List.take_append_of_le_length (by rw [List.length_append, List.length_append, flat_len ho.len, flat_len ho.len, Nat.add_mul]; exact Nat.le_refl _)]
        rw [List.take_of_length_le (by rw [List.length_append, List.length_append, flat_len ho.len, flat_len ho.len, Nat.add_mul]; exact Nat.le_refl _)]
theorem J.app1C {t : TypeId} {x y : Operand} {len m c gx : Nat} {cl : List Value} {fr : Nat × Nat} {e' s1 b1 b2 : Nat} {z1 : Option Value} {z : Value} {zc : List Value} {de : TypeDesc} (us : List α) (hΓ : Fits P Γ) (hg : wantB n f l0 ⟨some d, .call ⟨.builtin .append, ⟨[x, y]⟩, ⟨[t, t]⟩⟩, ty, pos, aft, g⟩ = true)
    (hx : Cx.ev n f x = .slice a len cap) (hy : Cx.ev n f y = .slice (some ⟨gx, 0, none⟩) m c) (ht : Go.Cx.look Γ t = some ⟨.slice e, s1, z1, b1⟩) (he : Go.Cx.look Γ e = some ⟨de, size, some z, b2⟩) (hz : vcells z = some zc) (hzl : Nat.beq zc.length size = true)
    (ho : OwT enc size e a cap ts h) (hlen : ts.length = len) (hus : us.flatMap enc = cl) (hm : us.length = m) (h1 : ones cl = true) (hpos : 0 < m) (hb : (len + m) * b2 ≤ 140737488355328) (h63 : len + m ≤ 9223372036854775807) (hcap : cap ≤ maxLen) (hln : len + m ≤ 140737488355328)
    (k : ∀ a' cap' h', OwT enc size e a' cap' (ts ++ us) h' → cap' ≤ maxLen → J P n w0 R l0 K rest (upd f d (.slice a' (len + m) cap')) (h' :: L)) :
    J P n w0 R l0 K ((2, ⟨some d, .call ⟨.builtin .append, ⟨[x, y]⟩, ⟨[t, t]⟩⟩, ty, pos, aft, g⟩) :: rest) f ([(gx, .cells ⟨cl⟩ e' fr)] :: h :: L) := by
  subst hlen hm hus
  refine J.v (Φ := fun v L' => ∃ a' cap' h', v = .slice a' (ts.length + us.length) cap' ∧ L' = h' :: L ∧ OwT enc size e a' cap' (ts ++ us) h' ∧ cap' ≤ maxLen) hg (fun w hw => ?_) (fun v L' ⟨a', cap', h', e1, e2, e3, e4⟩ => by subst e1; subst e2; exact k a' cap' h' e3 e4)
  have hgx : w.heap[gx]? = some (.cells (us.flatMap enc).toArray e' fr) := hw.own (gx, _) (by simp)
  have hadd : ∀ j, (⟨gx, 0, none⟩ : Addr).add j = ⟨gx, j, none⟩ := fun j => by unfold Addr.add; split <;> simp_all
  obtain ⟨a', cap', h', w', hr, hw', ho', hc'⟩ := app_runC (P := P) (ty' := ty) (us := us) (ad := ⟨gx, 0, none⟩) (c := c) hΓ ht he hz (Nat.eq_of_beq_eq_true hzl) hw.drop ho
    (fun j u hj => by rw [hadd, cell_of_row w gx j _ e' fr hgx]; simpa using hj) h1 hpos hb h63 hcap hln
  refine ⟨_, _, w', ?_, hw', a', cap', h', rfl, rfl, ho', hc'⟩
  have h2 : (⟨[x, y]⟩ : Array Operand).map (Cx.ev n f) = #[.slice a ts.length cap, .slice (some ⟨gx, 0, none⟩) us.length c] := by simp [hx, hy]
  simp only [execOp, resolve, h2, Sem.run_bind, Sem.run_pure, Result.andThen_ok, invoke, builtin]
  rw [hr]
  rfl
end
attribute [local irreducible] J JC thenK blockK loopK drawK retK QW Qt pel List.set Calls JE Br eK0 eK3 brK pc
theorem eCopyC : Entr Try.prog 125 := Entr.of Try.func125 rfl rfl
theorem eBStr : Entr Try.prog 80 := Entr.of Try.func80 rfl rfl
theorem eWBy : Entr Try.prog 79 := Entr.of Try.func79 rfl rfl
def bldO (p : Option Addr) (v : Value) : Obj := .cells ⟨[.pointer p, v]⟩ 130 (0, 0)
set_option maxRecDepth 100000 in
theorem copyC_any {w0 w : World} {R : Heap} {L : List Heap} {b : Nat} {p : Option Addr} {v : Value} (hp : p = none ∨ p = some ⟨b, 0, none⟩) (hw : H w0 R ([(b, bldO p v)] :: L) w) :
    Calls Try.prog 125 #[.pointer (some ⟨b, 0, none⟩)] w fun e w' => ∃ v' L', e = .returned v' ∧ H w0 R L' w' ∧ (v' = .tuple #[] ∧ L' = [(b, bldO (some ⟨b, 0, none⟩) v)] :: L) := by
  rcases hp with rfl | rfl
  ·
    refine calls_in Try.func125 Try.ntmps125 rfl rfl (hw) ?_
    unfold bldO
    repeat' first
      | (refine J.isJ ?_; first | (first | (refine J.o 11 ?_; refine J.pN hΓ ?_) | (refine J.o 2 ?_; first | refine J.cU hΓ Try.underlying189 Rd.hd ?_ | refine J.cP hΓ Try.underlying189 Rd.hd ?_) | (refine J.fc 150 ?_; refine J.nE Try.func150 (by kernel_rfl) (by kernel_rfl) (by kernel_rfl) (by kernel_rfl) rfl rfl ?_) | (refine J.o 11 ?_; refine J.pS hΓ ?_)) | (first | (refine J.o 0 ?_; refine J.ev' hΓ ?_) | refine J.nil ?_ | (refine J.o 4 ?_; first | refine J.lR hΓ ?_) | (refine J.o 3 ?_; first | refine J.ev' hΓ ?_) | (refine J.o 5 ?_; first | refine J.t0 hΓ ?_) | (refine J.o 10 ?_; refine J.ev' hΓ ?_) | (refine J.o 11 ?_; refine J.ev' hΓ ?_)))
      | (first | refine JC.seq ?_ | refine JC.region ?_ | refine JC.skip ?_ | refine thenK.nn ?_ | refine JC.condT rfl ?_ | refine JC.condF rfl ?_)
      | (fail)
      | fail
    all_goals first | (exact absurd rfl hc) | skip
    all_goals exact ret0n rfl (fun w1 hw => ⟨_, _, rfl, hw, rfl, rfl⟩)
  ·
    refine calls_in Try.func125 Try.ntmps125 rfl rfl (hw) ?_
    unfold bldO
    repeat' first
      | (refine J.isJ ?_; first | (first | (refine J.o 11 ?_; refine J.pN hΓ ?_) | (refine J.o 11 ?_; refine J.pS hΓ ?_)) | (first | (refine J.o 0 ?_; refine J.ev' hΓ ?_) | refine J.nil ?_ | (refine J.o 4 ?_; first | refine J.lR hΓ ?_) | (refine J.o 3 ?_; first | refine J.ev' hΓ ?_) | (refine J.o 5 ?_; first | refine J.t0 hΓ ?_) | (refine J.o 10 ?_; refine J.ev' hΓ ?_) | (refine J.o 11 ?_; refine J.ev' hΓ ?_)))
      | (first | refine JC.seq ?_ | refine JC.region ?_ | refine JC.skip ?_ | refine thenK.nn ?_ | refine JC.condT rfl ?_ | refine JC.condF rfl ?_)
      | (fail)
      | fail
    all_goals first | (exact absurd rfl hc) | skip
    all_goals exact ret0n rfl (fun w1 hw => ⟨_, _, rfl, hw, rfl, rfl⟩)
theorem wBy_any {w0 w : World} {R : Heap} {L : List Heap} {b : Nat} {p a : Option Addr} {cap : Nat} {bs : List UInt8} {hb : Heap} (c : UInt8) (hp : p = none ∨ p = some ⟨b, 0, none⟩) (ob : OwT encB 1 5 a cap bs hb) (hcap : cap ≤ maxLen) (hlen : bs.length + 1 ≤ 140737488355328) (hw : H w0 R ([(b, bldO p (.slice a bs.length cap))] :: hb :: L) w) :
    Calls Try.prog 79 #[.pointer (some ⟨b, 0, none⟩), .int .u8 (c.toNat : Int)] w fun e w' => ∃ v' L', e = .returned v' ∧ H w0 R L' w' ∧ ∃ a' cap' h', L' = [(b, bldO (some ⟨b, 0, none⟩) (.slice a' (bs ++ [c]).length cap'))] :: h' :: L ∧ OwT encB 1 5 a' cap' (bs ++ [c]) h' ∧ cap' ≤ maxLen := by
  have hl : (bs ++ [c]).length = bs.length + 1 := by simp
  refine calls_in Try.func79 Try.ntmps79 rfl rfl (hw) ?_
  repeat' first
    | (refine J.isJ ?_; first | (first | (refine J.fc 125 ?_; refine J.callx eCopyC rfl rfl (fun w hw => copyC_any hp hw) ?_; rintro _ _ ⟨rfl, rfl⟩; unfold bldO) | (refine J.o 9 ?_; refine J.perm (br1.cons _) ?_; refine J.app1C [c] hΓ rfl rfl rfl rfl rfl rfl rfl ob rfl rfl rfl rfl (by omega) (by omega) (by omega) hcap (by omega) (fun a2 c2 h2 o2 hc2 => ?_)) | (refine J.o 5 ?_; refine J.t1 hΓ ?_)) | (first | (refine J.o 0 ?_; refine J.ev' hΓ ?_) | refine J.nil ?_ | (refine J.o 4 ?_; first | refine J.lR hΓ ?_) | (refine J.o 3 ?_; first | refine J.ev' hΓ ?_) | (refine J.o 5 ?_; first | refine J.t1 hΓ ?_) | (refine J.o 9 ?_; refine J.bl hΓ (fun _ => ?_)) | (refine J.o 10 ?_; refine J.ev' hΓ ?_) | (refine J.o 11 ?_; refine J.ev' hΓ ?_)))
    | (first | refine JC.seq ?_ | refine JC.region ?_ | refine JC.ret ?_ | refine thenK.nn ?_)
    | (fail)
    | fail
  all_goals first | (exfalso; omega) | skip
  rw [hl]
  all_goals exact ret1f rfl rfl rfl (fun w1 hw => ⟨_, _, rfl, hw.perm br1, _, _, _, rfl, o2, hc2⟩)
theorem bytes_flat : ∀ bs : List UInt8, bs.flatMap encB = Lib.byteCells bs
  | [] => rfl
  | x :: bs => by
    have ih := bytes_flat bs
    unfold Lib.byteCells at ih ⊢
    rw [List.flatMap_cons, List.map_cons, ih]
    rfl
theorem bStr_any {w0 w : World} {R : Heap} {L : List Heap} {b : Nat} {p a : Option Addr} {cap : Nat} {bs : List UInt8} {hb : Heap} (hp : p = none ∨ p = some ⟨b, 0, none⟩) (ob : OwT encB 1 5 a cap bs hb) (hcap : cap ≤ maxLen) (hw : H w0 R ([(b, bldO p (.slice a bs.length cap))] :: hb :: L) w) :
    Calls Try.prog 80 #[.pointer (some ⟨b, 0, none⟩)] w fun e w' => ∃ v' L', e = .returned v' ∧ H w0 R L' w' ∧ (v' = .string (S bs) ∧ L' = []) := by
  have hbk : w.heap[b]? = some (bldO p (.slice a bs.length cap)) := hw.rd (Rd.fr (by simp))
  have hbn : w0.heap.size ≤ b := hw.new (b, bldO p (.slice a bs.length cap)) (by simp)
  have hfl := bytes_flat bs
  have hown : w.ownsRow w0.heap.size 5 1 (.slice a bs.length cap) (Lib.byteCells bs).length (Lib.byteCells bs) ∧ (Value.slice a bs.length cap).ownBlock ≠ some b := by
    rw [Lib.byteCells_length]
    rcases ob.row with ⟨rfl, rfl, rfl, rfl⟩ | ⟨g, cs, rfl, rfl, h1, h2, h3⟩
    · exact ⟨⟨by simp [Lib.byteCells], .inl ⟨rfl, rfl⟩⟩, by simp [Value.ownBlock]⟩
    · have hg : w.heap[g]? = some (.cells ⟨cs⟩ 5 (0, 0)) := hw.own (g, _) (by simp)
      have hgn : w0.heap.size ≤ g := hw.new (g, .cells ⟨cs⟩ 5 (0, 0)) (by simp)
      refine ⟨⟨by rw [Lib.byteCells_length]; omega, .inr ⟨g, cap, ⟨cs⟩, rfl, hgn, hg, h2, hcap, by simpa using h1, ?_⟩⟩, ?_⟩
      · rw [← hfl]; exact h3
      · have hnd := hw.nodup
        simp only [List.flatten_cons, List.map_append, List.map_cons, List.map_nil, List.cons_append, List.nil_append] at hnd
        rw [List.nodup_cons] at hnd
        intro e
        simp only [Value.ownBlock, Option.some.injEq] at e
        exact hnd.1 (by rw [← e]; simp)
  have hB : Lib.IsBuilder 130 5 w0.heap.size b (Lib.byteCells bs) w := by
    rcases hp with rfl | rfl
    · exact .inl ⟨hbn, _, hbk, hown.1, hown.2⟩
    · exact .inr ⟨hbn, _, hbk, hown.1, hown.2⟩
  refine (Try.Builder_String_any w0.heap.size b bs w hB hw.below.size).mono ?_
  rintro e w' ⟨rfl, hbel⟩
  exact ⟨_, [], rfl, ⟨hw.below.trans hbel, hw.old, fun x hx => by simp at hx, fun x hx => by simp at hx, by simp⟩, rfl, rfl⟩
end Go.Proofs.Ytbhgahjeocnfcaa
namespace Go.Proofs.Ytbhgahjeocnfcaa
open Go Go.Cx Go.RowKit
set_option linter.unusedVariables false
set_option linter.unusedSimpArgs false
set_option maxHeartbeats 4000000
attribute [local irreducible] J JC thenK blockK loopK drawK retK QW Qt pel List.set Calls
open Go.Lib
set_option maxRecDepth 8000
attribute [local irreducible] JE Br eK0 eK3 brK pc
section
variable {P : Program} {n : Nat} {w0 : World} {R : Heap} {l0 : List Oper} {K : Exit → Fr → List Heap → Prop} {f : Fr} {L : List Heap} {rest : List (Nat × Oper)} {κ : Nat} {Γ : List (Nat × TI)}
variable {d : Nat} {ty : TypeId} {pos : String} {aft : Array Edge} {g : Option (Nat × Bool)} {t u : TypeId} {x y : Operand} {k : IntKind} {a b : Nat}
theorem J.gorE {c : Nat} (h : a ||| b = c) (kk : J P n w0 R l0 K rest (upd f d (.int .u64 (c : Int))) L) (ha : a < 18446744073709551616) (hb : b < 18446744073709551616) (hg : wantB n f l0 ⟨some d, .binOp .or t x y u, ty, pos, aft, g⟩ = true := by exact rfl) (hx : Cx.ev n f x = .int .u64 (a : Int) := by exact rfl) (hy : Cx.ev n f y = .int .u64 (b : Int) := by exact rfl) : J P n w0 R l0 K ((κ, ⟨some d, .binOp .or t x y u, ty, pos, aft, g⟩) :: rest) f L := by
  subst h
  exact J.gor kk hg hx hy ha hb
end
theorem eShrink : Entr Try.prog 78 := Entr.of Try.func78 rfl rfl
theorem eText : Entr Try.prog 33 := Entr.of Try.func33 rfl rfl
theorem shrink_any {a : Option Addr} {c : Nat} {ws : List Nat} {h : Heap} (ow : OwT encW 1 124 a c ws h) (hok : okW ws) (hl : ws.length ≤ 1000) (B : Nat) (hB : 0 < B) (hB2 : B < 4294967296) {w0 w : World} {R : Heap} {L : List Heap} (hw : H w0 R (h :: L) w) :
    Calls Try.prog 78 #[.slice a ws.length c, .int .u32 (B : Int)] w fun e w' => ∃ v L', e = .returned v ∧ H w0 R L' w' ∧ ∃ o h', v = .int .u32 ((valW ws % B : Nat) : Int) ∧ L' = h' :: L ∧ OwT encW 1 124 a c o h' ∧ okW o ∧ o.length = ws.length ∧ valW o = valW ws / B := by
  refine calls_in Try.func78 Try.ntmps78 rfl rfl (hw) ?_
  repeat' first
    | (refine J.isJ ?_; first | (fail) | (first | (refine J.o 0 ?_; refine J.ev' hΓ ?_) | refine J.nil ?_ | (refine J.o 4 ?_; first | refine J.lT default hΓ ?_) | (refine J.o 3 ?_; first | refine J.iJ hΓ ?_ | refine J.ev' hΓ ?_) | (refine J.o 1 ?_; first | refine J.sb ?_) | (refine J.o 5 ?_; first | refine J.tT _ default hΓ (fun _ _ => ?_)) | (refine J.o 10 ?_; refine J.ev' hΓ ?_) | (refine J.o 11 ?_; refine J.ev' hΓ ?_)))
    | (first | refine JC.seq ?_ | refine JC.region ?_ | refine JC.block ?_ | refine JC.ret ?_ | refine JC.exit ?_ | refine JC.skip ?_ | refine thenK.nn ?_ | refine thenK.x ?_ | refine blockK.nn ?_ | refine blockK.hit rfl ?_ | refine JC.condT rfl ?_ | refine JC.condF rfl ?_ | refine loopK.x ?_)
    | (fail)
    | fail
  all_goals first | (exfalso; omega) | skip
  refine JC.loop (fun i => i == 5 || i == 6 || Nat.ble 10 i) (fun m g L' => ∃ o r h', g 6 = .int .i64 ((m : Int) - 1) ∧ g 5 = .int .u64 ((r : Nat) : Int) ∧ m ≤ ws.length ∧ ShrI ws B m o r ∧ OwT encW 1 124 a c o h' ∧ L' = h' :: L) ws.length ⟨ws, 0, h, rfl, rfl, Nat.le_refl _, ShrI.start hB hok, ow, rfl⟩ ?_
  rintro m g L' ⟨o, r, h4, e6, e5, hm, si, o4, rfl⟩
  have lo := si.len
  rcases Nat.eq_zero_or_pos m with h0 | hpos
  · subst h0
    refine JC.pin 6 e6 ?_
    refine JC.pin 5 e5 ?_
    obtain ⟨hv1, hv2⟩ := si.fin hB
    have hr1 := si.r1
    repeat' first
      | (refine J.isJ ?_; first | ((refine J.o 2 ?_; refine J.gcv hΓ ?_ (hk := wU32 (by omega)))) | (first | (refine J.o 0 ?_; refine J.ev' hΓ ?_) | refine J.nil ?_ | (refine J.o 4 ?_; first | refine J.lT default hΓ ?_) | (refine J.o 3 ?_; first | refine J.iJ hΓ ?_ | refine J.ev' hΓ ?_) | (refine J.o 1 ?_; first | refine J.sb ?_) | (refine J.o 5 ?_; first | refine J.tT _ default hΓ (fun _ _ => ?_)) | (refine J.o 10 ?_; refine J.ev' hΓ ?_) | (refine J.o 11 ?_; refine J.ev' hΓ ?_)))
      | (first | refine JC.seq ?_ | refine JC.region ?_ | refine JC.block ?_ | refine JC.ret ?_ | refine JC.exit ?_ | refine JC.skip ?_ | refine thenK.nn ?_ | refine thenK.x ?_ | refine blockK.nn ?_ | refine blockK.hit rfl ?_ | refine JC.condT rfl ?_ | refine JC.condF rfl ?_ | refine loopK.x ?_)
      | (fail)
      | fail
    all_goals first | (exfalso; omega) | skip
    refine ret1f rfl rfl rfl (fun w1 hw => ⟨_, _, rfl, hw, o, h4, ?_, rfl, o4, si.ok, si.len, hv1⟩)
    rw [hv2]
  · obtain ⟨i, rfl⟩ : ∃ i, m = i + 1 := ⟨m - 1, by omega⟩
    have e6' : g 6 = .int .i64 ((i : Nat) : Int) := by rw [e6]; congr 1; omega
    refine JC.pin 6 e6' ?_
    refine JC.pin 5 e5 ?_
    have hr1 := si.r1
    have b1 : o.getD i 0 < 4294967296 := okW_get si.ok i
    have hr2 : r ≤ 4294967294 := by omega
    have hr3 : r * 4294967296 ≤ 4294967294 * 4294967296 := Nat.mul_le_mul_right _ hr2
    have ha1 : r * 2 ^ 32 < 18446744073709551616 := Nat.lt_of_le_of_lt hr3 (by decide)
    have ha2 : o.getD i 0 < 18446744073709551616 := Nat.lt_trans b1 (by decide)
    have hs : r * W32 + o.getD i 0 < 18446744073709551616 := Nat.lt_of_lt_of_le (Nat.add_lt_add_of_le_of_lt hr3 b1) (by decide)
    obtain ⟨hst, hq⟩ := si.step hB hok (show i < ws.length by omega)
    have hq : (r * 4294967296 + o.getD i 0) / B < 4294967296 := hq
    have hor : r * 2 ^ 32 ||| o.getD i 0 = r * W32 + o.getD i 0 := by
      rw [Nat.mul_comm r (2 ^ 32), ← Nat.two_pow_add_eq_or_of_lt b1]
    have hrem : (r * W32 + o.getD i 0) % B < B := Nat.mod_lt _ hB
    have hil : i < o.length := by omega
    repeat' first
      | (refine J.isJ ?_; first | (first | (refine J.o 4 ?_; refine J.lT (0 : Nat) hΓ ?_ (hs := o4.sl) (hr := RdH.hd)) | (refine J.o 1 ?_; first | refine J.gshl (j := 32) ?_ (hw := wU64 ha1) | refine J.gorE hor ?_ ha1 ha2 | refine J.gquo (b := B) ?_ (hw := wU64 (Nat.lt_of_le_of_lt (Nat.div_le_self _ _) hs)) | refine J.grem (b := B) ?_) | (refine J.o 2 ?_; first | refine J.gcv hΓ ?_ (hk := wU64 (by omega)) | refine J.gcv hΓ ?_ (hk := wU32 hq)) | (refine J.o 5 ?_; refine J.tT (enc := encW) _ default hΓ (fun h5 o5 => ?_))) | (first | (refine J.o 0 ?_; refine J.ev' hΓ ?_) | refine J.nil ?_ | (refine J.o 4 ?_; first | refine J.lT default hΓ ?_) | (refine J.o 3 ?_; first | refine J.iJ hΓ ?_ | refine J.ev' hΓ ?_) | (refine J.o 1 ?_; first | refine J.sb ?_) | (refine J.o 5 ?_; first | refine J.tT _ default hΓ (fun _ _ => ?_)) | (refine J.o 10 ?_; refine J.ev' hΓ ?_) | (refine J.o 11 ?_; refine J.ev' hΓ ?_)))
      | (first | refine JC.seq ?_ | refine JC.region ?_ | refine JC.block ?_ | refine JC.ret ?_ | refine JC.exit ?_ | refine JC.skip ?_ | refine thenK.nn ?_ | refine thenK.x ?_ | refine blockK.nn ?_ | refine blockK.hit rfl ?_ | refine JC.condT rfl ?_ | refine JC.condF rfl ?_ | refine loopK.x ?_)
      | (fail)
      | fail
    all_goals first | (exfalso; omega) | skip
    refine loopK.nn i (by omega) (by repeat (first | refine Ag.upd rfl ?_ | exact Ag.hv)) ⟨_, _, h5, rfl, rfl, by omega, hst, o5, rfl⟩
end Go.Proofs.Ytbhgahjeocnfcaa
namespace Go.Proofs.Ytbhgahjeocnfcaa
open Go Go.Cx Go.RowKit
set_option linter.unusedVariables false
set_option linter.unusedSimpArgs false
set_option maxHeartbeats 4000000
attribute [local irreducible] J JC thenK blockK loopK drawK retK QW Qt pel List.set Calls
open Go.Lib
set_option maxRecDepth 8000
attribute [local irreducible] JE Br eK0 eK3 brK pc
theorem words_one {v : Nat} (h0 : 0 < v) (hv : v < 4294967296) : wordsB (bytesN v) = [v] := by
  have h1 := valW_wordsB (bytesN v)
  rw [valB_bytesN] at h1
  have h2 := wordsB_len (bytesN v)
  have h3 : (bytesN v).length ≤ 4 := bytesN_len (k := 4) (by show v < 4294967296; exact hv)
  match hw : wordsB (bytesN v) with
  | [] => rw [hw] at h1; simp only [valW] at h1; omega
  | [x] => rw [hw] at h1; simp only [valW] at h1; rw [show x = v by omega]
  | x :: y :: l => rw [hw] at h2; simp only [List.length_cons] at h2; omega
theorem one_zero {o : List Nat} (hl : o.length = 1) (hv : valW o = 0) : o = [0] := by
  match o, hl with
  | [x], _ => simp only [valW] at hv; rw [show x = 0 by omega]
theorem decN_len : ∀ (k v : Nat), v < 10 ^ k → (decN v).length ≤ k
  | 0, v, h => by rw [show v = 0 by simpa using h]; simp [decN_0]
  | k + 1, v, h => by
    rcases Nat.eq_zero_or_pos v with h0 | h0
    · rw [h0]; simp [decN_0]
    · rw [decN_pos h0, List.length_cons]
      have := decN_len k (v / 10) (by rw [Nat.pow_succ] at h; omega)
      omega
def dig (p : Nat) : UInt8 := UInt8.ofNat (48 + p % 10)
theorem dec_u8 (p : Nat) : IntKind.u8.wrap ((48 + p % 10 : Nat) : Int) = ((UInt8.ofNat (48 + p % 10)).toNat : Int) := wB _
theorem text_zero (w : World) : Calls Try.prog 33 #[natV 0] w fun e w' => e = .returned (.string (S [48])) ∧ Below w.heap.size w w' := by
  have cX := fun w => words_any 0 (by show (bytesN 0).length ≤ 100000; decide) w
  have hb : bytesN 0 = [] := rfl
  have hws : wordsB (bytesN 0) = [] := rfl
  rw [hws] at cX
  refine calls_of_JC (R := []) Try.func33 Try.ntmps33 rfl rfl (Holds.nil _) ?_
  unfold natV
  repeat' first
    | (refine J.isJ ?_; first | (first | (refine J.o 6 ?_; refine J.bx (fun b1 => ?_)) | (refine J.fc 77 ?_; refine J.call1 eWords rfl rfl (fun w hw => cX w) ?_; rintro _ hgx ⟨ax, cx, rfl, ox⟩)) | (first | (refine J.o 0 ?_; refine J.ev' hΓ ?_) | refine J.nil ?_ | (refine J.o 4 ?_; first | refine J.lR hΓ ?_) | (refine J.o 3 ?_; first | refine J.ev' hΓ ?_) | (refine J.o 1 ?_; first | refine J.sb ?_) | (refine J.o 6 ?_; refine J.bx (fun _ => ?_)) | (refine J.o 7 ?_; refine J.al hΓ (fun _ => ?_)) | (refine J.o 10 ?_; refine J.ev' hΓ ?_) | (refine J.o 11 ?_; refine J.ev' hΓ ?_)))
    | (first | refine JC.seq ?_ | refine JC.region ?_ | refine JC.block ?_ | refine JC.ret ?_ | refine JC.exit ?_ | refine thenK.nn ?_ | refine thenK.r ?_ | refine thenK.x ?_ | refine blockK.hit rfl ?_ | refine JC.condT rfl ?_ | refine JC.condF rfl ?_ | refine loopK.x ?_)
    | (fail)
    | fail
  refine JC.loop (fun i => (Nat.ble 3 i && Nat.ble i 6) || Nat.ble 11 i) (fun m g L' => g 3 = .slice ax 0 cx ∧ g 4 = .slice none 0 0 ∧ L' = [hgx, [(b1, Obj.cells ⟨[.string (S (bytesN 0))]⟩ 58 (0, 0))]]) 1 ⟨rfl, rfl, rfl⟩ ?_
  rintro m g L' ⟨e3, e4, rfl⟩
  refine JC.pin 3 e3 ?_
  refine JC.pin 4 e4 ?_
  repeat' first
    | (refine J.isJ ?_; first | (fail) | (first | (refine J.o 0 ?_; refine J.ev' hΓ ?_) | refine J.nil ?_ | (refine J.o 4 ?_; first | refine J.lR hΓ ?_) | (refine J.o 3 ?_; first | refine J.ev' hΓ ?_) | (refine J.o 1 ?_; first | refine J.sb ?_) | (refine J.o 6 ?_; refine J.bx (fun _ => ?_)) | (refine J.o 7 ?_; refine J.al hΓ (fun _ => ?_)) | (refine J.o 10 ?_; refine J.ev' hΓ ?_) | (refine J.o 11 ?_; refine J.ev' hΓ ?_)))
    | (first | refine JC.seq ?_ | refine JC.region ?_ | refine JC.block ?_ | refine JC.ret ?_ | refine JC.exit ?_ | refine thenK.nn ?_ | refine thenK.r ?_ | refine thenK.x ?_ | refine blockK.hit rfl ?_ | refine JC.condT rfl ?_ | refine JC.condF rfl ?_ | refine loopK.x ?_)
    | (fail)
    | fail
  all_goals first | (exfalso; omega) | skip
  refine JC.loop (fun i => i == 8 || Nat.ble 58 i) (fun m g L' => g 8 = .int .i64 (-1) ∧ True) 1 ⟨rfl, trivial⟩ ?_
  rintro m2 g2 L' ⟨e8, _⟩
  refine JC.pin 8 e8 ?_
  repeat' first
    | (refine J.isJ ?_; first | (fail) | (first | (refine J.o 0 ?_; refine J.ev' hΓ ?_) | refine J.nil ?_ | (refine J.o 4 ?_; first | refine J.lR hΓ ?_) | (refine J.o 3 ?_; first | refine J.ev' hΓ ?_) | (refine J.o 1 ?_; first | refine J.sb ?_) | (refine J.o 6 ?_; refine J.bx (fun _ => ?_)) | (refine J.o 7 ?_; refine J.al hΓ (fun _ => ?_)) | (refine J.o 10 ?_; refine J.ev' hΓ ?_) | (refine J.o 11 ?_; refine J.ev' hΓ ?_)))
    | (first | refine JC.seq ?_ | refine JC.region ?_ | refine JC.block ?_ | refine JC.ret ?_ | refine JC.exit ?_ | refine thenK.nn ?_ | refine thenK.r ?_ | refine thenK.x ?_ | refine blockK.hit rfl ?_ | refine JC.condT rfl ?_ | refine JC.condF rfl ?_ | refine loopK.x ?_)
    | (fail)
    | fail
  all_goals first | (exfalso; omega) | skip
  all_goals (refine ret1f rfl rfl rfl (fun w1 hw => ⟨rfl, hw.below⟩))
theorem text_any (v : Nat) (h0 : 0 < v) (hv : v < 1000000000) (w : World) : Calls Try.prog 33 #[natV v] w fun e w' => e = .returned (.string (S (decN v).reverse)) ∧ Below w.heap.size w w' := by
  have hbl : (bytesN v).length ≤ 4 := bytesN_len (k := 4) (by show v < 4294967296; omega)
  have cX := fun w => words_any v (by omega) w
  rw [words_one h0 (by omega)] at cX
  have dl := decN_len 9 v (by show v < 1000000000; exact hv)
  have hok : okW [v] := fun x hx => by rw [List.mem_singleton.1 hx]; show v < 4294967296; omega
  have vm : valW [v] % 1000000000 = v := by simp only [valW]; omega
  have vd : valW [v] / 1000000000 = 0 := by simp only [valW]; omega
  refine calls_of_JC (R := []) Try.func33 Try.ntmps33 rfl rfl (Holds.nil _) ?_
  unfold natV
  repeat' first
    | (refine J.isJ ?_; first | (first | (refine J.o 6 ?_; refine J.bx (fun b1 => ?_)) | (refine J.fc 77 ?_; refine J.call1 eWords rfl rfl (fun w hw => cX w) ?_; rintro _ hgx ⟨ax, cx, rfl, ox⟩)) | (first | (refine J.o 0 ?_; refine J.ev' hΓ ?_) | refine J.nil ?_ | refine J.kd ?_ | (refine J.o 4 ?_; first | refine J.lT default hΓ ?_ | refine J.lR hΓ ?_) | (refine J.o 3 ?_; first | refine J.iJ hΓ ?_ | refine J.ev' hΓ ?_) | (refine J.o 1 ?_; first | refine J.ad ?_ | refine J.sb ?_) | (refine J.o 6 ?_; refine J.bx (fun _ => ?_)) | (refine J.o 7 ?_; refine J.al hΓ (fun _ => ?_)) | (refine J.o 9 ?_; refine J.bl hΓ (fun _ => ?_)) | (refine J.o 10 ?_; refine J.ev' hΓ ?_) | (refine J.o 11 ?_; refine J.ev' hΓ ?_)) | ((fail_if_success refine J.wt ?_); refine J.gc rfl rfl (fun hc => ?_) (fun hc => ?_) <;> ((try simp only [decide_eq_true_eq, decide_eq_false_iff_not, beq_iff_eq, beq_eq_false_iff_ne, bne_iff_ne, bne_eq_false_iff_eq, Bool.not_eq_true', Bool.not_eq_false', Bool.not_eq_true, Bool.not_eq_false] at hc) <;> first | (first | (exact absurd rfl hc) | (exfalso; omega) | (exact absurd (hc.symm.trans (by assumption : _ = false)) (by decide)) | (exact absurd (hc.symm.trans (by assumption : _ = true)) (by decide))) | skip)))
    | (first | refine JC.seq ?_ | refine JC.region ?_ | refine JC.block ?_ | refine JC.ret ?_ | refine JC.exit ?_ | refine JC.skip ?_ | refine thenK.nn ?_ | refine thenK.x ?_ | refine blockK.nn ?_ | refine blockK.hit rfl ?_ | refine JC.condT rfl ?_ | refine JC.condF rfl ?_ | (refine JC.cond rfl (fun hc => ?_) (fun hc => ?_) <;> ((try simp only [decide_eq_true_eq, decide_eq_false_iff_not, beq_iff_eq, beq_eq_false_iff_ne, bne_iff_ne, bne_eq_false_iff_eq, Bool.not_eq_true', Bool.not_eq_false', Bool.not_eq_true, Bool.not_eq_false] at hc) <;> first | (first | (exact absurd rfl hc) | (exfalso; omega) | (exact absurd (hc.symm.trans (by assumption : _ = false)) (by decide)) | (exact absurd (hc.symm.trans (by assumption : _ = true)) (by decide))) | skip)) | refine loopK.x ?_)
    | (fail)
    | fail
  refine JC.weak (L' := [hgx, [], [(b1, Obj.cells ⟨[.string (S (bytesN v))]⟩ 58 (0, 0))]]) (fun w hw => hw.nilF.perm br1) ?_
  refine JC.loop (fun i => (Nat.ble 3 i && Nat.ble i 6) || Nat.ble 11 i) (fun m g L' => ∃ ws a c h bs ao co ho, g 3 = .slice a (List.length (α := Nat) ws) c ∧ g 4 = .slice ao (List.length (α := UInt8) bs) co ∧ OwT encW 1 124 a c ws h ∧ OwT encB 1 5 ao co bs ho ∧ ((ws = [v] ∧ bs = [] ∧ m = 1) ∨ (ws = [] ∧ bs = decN v ∧ m = 0)) ∧ L' = [h, ho, [(b1, Obj.cells ⟨[.string (S (bytesN v))]⟩ 58 (0, 0))]]) 1 ⟨[v], ax, cx, hgx, [], none, 0, [], rfl, rfl, ox, OwT.nil (fun _ => rfl), .inl ⟨rfl, rfl, rfl⟩, rfl⟩ ?_
  rintro m g L' ⟨ws, a, c, h, bs, ao, co, ho, e3, e4, ow, ob, hcase, rfl⟩
  refine JC.pin 3 e3 ?_
  refine JC.pin 4 e4 ?_
  rcases hcase with ⟨rfl, rfl, rfl⟩ | ⟨rfl, rfl, rfl⟩
  ·
    repeat' first
      | (refine J.isJ ?_; first | ((refine J.fc 78 ?_; refine J.callx eShrink rfl rfl (fun w hw => shrink_any ow hok (by show 1 ≤ 1000; omega) 1000000000 (by omega) (by omega) hw) ?_; rintro _ _ ⟨o, h5, rfl, rfl, o5, ok5, ol5, ov5⟩; rw [vm])) | (first | (refine J.o 0 ?_; refine J.ev' hΓ ?_) | refine J.nil ?_ | refine J.kd ?_ | (refine J.o 4 ?_; first | refine J.lT default hΓ ?_ | refine J.lR hΓ ?_) | (refine J.o 3 ?_; first | refine J.iJ hΓ ?_ | refine J.ev' hΓ ?_) | (refine J.o 1 ?_; first | refine J.ad ?_ | refine J.sb ?_) | (refine J.o 6 ?_; refine J.bx (fun _ => ?_)) | (refine J.o 7 ?_; refine J.al hΓ (fun _ => ?_)) | (refine J.o 9 ?_; refine J.bl hΓ (fun _ => ?_)) | (refine J.o 10 ?_; refine J.ev' hΓ ?_) | (refine J.o 11 ?_; refine J.ev' hΓ ?_)) | ((fail_if_success refine J.wt ?_); refine J.gc rfl rfl (fun hc => ?_) (fun hc => ?_) <;> ((try simp only [decide_eq_true_eq, decide_eq_false_iff_not, beq_iff_eq, beq_eq_false_iff_ne, bne_iff_ne, bne_eq_false_iff_eq, Bool.not_eq_true', Bool.not_eq_false', Bool.not_eq_true, Bool.not_eq_false] at hc) <;> first | (first | (exact absurd rfl hc) | (exfalso; omega) | (exact absurd (hc.symm.trans (by assumption : _ = false)) (by decide)) | (exact absurd (hc.symm.trans (by assumption : _ = true)) (by decide))) | skip)))
      | (first | refine JC.seq ?_ | refine JC.region ?_ | refine JC.block ?_ | refine JC.ret ?_ | refine JC.exit ?_ | refine JC.skip ?_ | refine thenK.nn ?_ | refine thenK.x ?_ | refine blockK.nn ?_ | refine blockK.hit rfl ?_ | refine JC.condT rfl ?_ | refine JC.condF rfl ?_ | (refine JC.cond rfl (fun hc => ?_) (fun hc => ?_) <;> ((try simp only [decide_eq_true_eq, decide_eq_false_iff_not, beq_iff_eq, beq_eq_false_iff_ne, bne_iff_ne, bne_eq_false_iff_eq, Bool.not_eq_true', Bool.not_eq_false', Bool.not_eq_true, Bool.not_eq_false] at hc) <;> first | (first | (exact absurd rfl hc) | (exfalso; omega) | (exact absurd (hc.symm.trans (by assumption : _ = false)) (by decide)) | (exact absurd (hc.symm.trans (by assumption : _ = true)) (by decide))) | skip)) | refine loopK.x ?_)
      | (fail)
      | fail
    all_goals first | (exfalso; omega) | skip
    obtain rfl := one_zero ol5 (ov5.trans vd)
    have o0 : OwT encW 1 124 a c [] h5 := OwT.take o5 0
    refine JC.loop (fun i => i == 3 || Nat.ble 16 i) (fun m g L' => ((m = 1 ∧ g 3 = .slice a 1 c) ∨ (m = 0 ∧ g 3 = .slice a 0 c)) ∧ L' = [h5, ho, [(b1, Obj.cells ⟨[.string (S (bytesN v))]⟩ 58 (0, 0))]]) 1 ⟨.inl ⟨rfl, rfl⟩, rfl⟩ ?_
    rintro m2 g2 L' ⟨hcase, rfl⟩
    rcases hcase with ⟨rfl, e3b⟩ | ⟨rfl, e3b⟩
    · refine JC.pin 3 e3b ?_
      repeat' first
        | (refine J.isJ ?_; first | (first | (refine J.o 3 ?_; refine J.iJ hΓ ?_ (hs := o5.sl)) | (refine J.o 4 ?_; refine J.lT (0 : Nat) hΓ ?_ (hs := o5.sl) (hr := RdH.hd)) | (refine J.o 13 ?_; refine J.slF (m := 0) hΓ ?_)) | (first | (refine J.o 0 ?_; refine J.ev' hΓ ?_) | refine J.nil ?_ | refine J.kd ?_ | (refine J.o 4 ?_; first | refine J.lT default hΓ ?_ | refine J.lR hΓ ?_) | (refine J.o 3 ?_; first | refine J.iJ hΓ ?_ | refine J.ev' hΓ ?_) | (refine J.o 1 ?_; first | refine J.ad ?_ | refine J.sb ?_) | (refine J.o 6 ?_; refine J.bx (fun _ => ?_)) | (refine J.o 7 ?_; refine J.al hΓ (fun _ => ?_)) | (refine J.o 9 ?_; refine J.bl hΓ (fun _ => ?_)) | (refine J.o 10 ?_; refine J.ev' hΓ ?_) | (refine J.o 11 ?_; refine J.ev' hΓ ?_)) | ((fail_if_success refine J.wt ?_); refine J.gc rfl rfl (fun hc => ?_) (fun hc => ?_) <;> ((try simp only [decide_eq_true_eq, decide_eq_false_iff_not, beq_iff_eq, beq_eq_false_iff_ne, bne_iff_ne, bne_eq_false_iff_eq, Bool.not_eq_true', Bool.not_eq_false', Bool.not_eq_true, Bool.not_eq_false] at hc) <;> first | (first | (exact absurd rfl hc) | (exfalso; omega) | (exact absurd (hc.symm.trans (by assumption : _ = false)) (by decide)) | (exact absurd (hc.symm.trans (by assumption : _ = true)) (by decide))) | skip)))
        | (first | refine JC.seq ?_ | refine JC.region ?_ | refine JC.block ?_ | refine JC.ret ?_ | refine JC.exit ?_ | refine JC.skip ?_ | refine thenK.nn ?_ | refine thenK.x ?_ | refine blockK.nn ?_ | refine blockK.hit rfl ?_ | refine JC.condT rfl ?_ | refine JC.condF rfl ?_ | (refine JC.cond rfl (fun hc => ?_) (fun hc => ?_) <;> ((try simp only [decide_eq_true_eq, decide_eq_false_iff_not, beq_iff_eq, beq_eq_false_iff_ne, bne_iff_ne, bne_eq_false_iff_eq, Bool.not_eq_true', Bool.not_eq_false', Bool.not_eq_true, Bool.not_eq_false] at hc) <;> first | (first | (exact absurd rfl hc) | (exfalso; omega) | (exact absurd (hc.symm.trans (by assumption : _ = false)) (by decide)) | (exact absurd (hc.symm.trans (by assumption : _ = true)) (by decide))) | skip)) | refine loopK.x ?_)
        | (fail)
        | fail
      all_goals first | (exfalso; omega) | skip
      all_goals first | (exact absurd rfl hc) | skip
      refine loopK.nn 0 (by omega) (by repeat (first | refine Ag.upd rfl ?_ | exact Ag.hv)) ⟨.inr ⟨rfl, rfl⟩, rfl⟩
    refine JC.pin 3 e3b ?_
    repeat' first
      | (refine J.isJ ?_; first | (fail) | (first | (refine J.o 0 ?_; refine J.ev' hΓ ?_) | refine J.nil ?_ | refine J.kd ?_ | (refine J.o 4 ?_; first | refine J.lT default hΓ ?_ | refine J.lR hΓ ?_) | (refine J.o 3 ?_; first | refine J.iJ hΓ ?_ | refine J.ev' hΓ ?_) | (refine J.o 1 ?_; first | refine J.ad ?_ | refine J.sb ?_) | (refine J.o 6 ?_; refine J.bx (fun _ => ?_)) | (refine J.o 7 ?_; refine J.al hΓ (fun _ => ?_)) | (refine J.o 9 ?_; refine J.bl hΓ (fun _ => ?_)) | (refine J.o 10 ?_; refine J.ev' hΓ ?_) | (refine J.o 11 ?_; refine J.ev' hΓ ?_)) | ((fail_if_success refine J.wt ?_); refine J.gc rfl rfl (fun hc => ?_) (fun hc => ?_) <;> ((try simp only [decide_eq_true_eq, decide_eq_false_iff_not, beq_iff_eq, beq_eq_false_iff_ne, bne_iff_ne, bne_eq_false_iff_eq, Bool.not_eq_true', Bool.not_eq_false', Bool.not_eq_true, Bool.not_eq_false] at hc) <;> first | (first | (exact absurd rfl hc) | (exfalso; omega) | (exact absurd (hc.symm.trans (by assumption : _ = false)) (by decide)) | (exact absurd (hc.symm.trans (by assumption : _ = true)) (by decide))) | skip)))
      | (first | refine JC.seq ?_ | refine JC.region ?_ | refine JC.block ?_ | refine JC.ret ?_ | refine JC.exit ?_ | refine JC.skip ?_ | refine thenK.nn ?_ | refine thenK.x ?_ | refine blockK.nn ?_ | refine blockK.hit rfl ?_ | refine JC.condT rfl ?_ | refine JC.condF rfl ?_ | (refine JC.cond rfl (fun hc => ?_) (fun hc => ?_) <;> ((try simp only [decide_eq_true_eq, decide_eq_false_iff_not, beq_iff_eq, beq_eq_false_iff_ne, bne_iff_ne, bne_eq_false_iff_eq, Bool.not_eq_true', Bool.not_eq_false', Bool.not_eq_true, Bool.not_eq_false] at hc) <;> first | (first | (exact absurd rfl hc) | (exfalso; omega) | (exact absurd (hc.symm.trans (by assumption : _ = false)) (by decide)) | (exact absurd (hc.symm.trans (by assumption : _ = true)) (by decide))) | skip)) | refine loopK.x ?_)
      | (fail)
      | fail
    all_goals first | (exfalso; omega) | skip
    refine JC.loop (fun i => (Nat.ble 4 i && Nat.ble i 6) || Nat.ble 33 i) (fun m g L' => ∃ k p bs ao co ho, g 6 = .int .i64 ((k : Nat) : Int) ∧ g 5 = .int .u32 ((p : Nat) : Int) ∧ g 4 = .slice ao (List.length (α := UInt8) bs) co ∧ OwT encB 1 5 ao co bs ho ∧ decN v = bs ++ decN p ∧ p < 10 ^ (9 - k) ∧ k ≤ 9 ∧ m = p ∧ bs.length ≤ 9 ∧ L' = [h5, ho, [(b1, Obj.cells ⟨[.string (S (bytesN v))]⟩ 58 (0, 0))]]) v ⟨0, v, [], ao, co, ho, rfl, rfl, rfl, ob, rfl, by show v < 1000000000; exact hv, by omega, rfl, by show 0 ≤ 9; omega, rfl⟩ ?_
    rintro m3 g3 L' ⟨k, p, bs, ao2, co2, ho2, e6, e5, e4b, ob2, hdec, hp, hk, rfl, hbl9, rfl⟩
    refine JC.pin 6 e6 ?_
    refine JC.pin 5 e5 ?_
    refine JC.pin 4 e4b ?_
    rcases Nat.eq_zero_or_pos m3 with hz | hpos
    · subst hz
      rw [decN_0, List.append_nil] at hdec
      subst hdec
      repeat' first
        | (refine J.isJ ?_; first | (fail) | (first | (refine J.o 0 ?_; refine J.ev' hΓ ?_) | refine J.nil ?_ | refine J.kd ?_ | (refine J.o 4 ?_; first | refine J.lT default hΓ ?_ | refine J.lR hΓ ?_) | (refine J.o 3 ?_; first | refine J.iJ hΓ ?_ | refine J.ev' hΓ ?_) | (refine J.o 1 ?_; first | refine J.ad ?_ | refine J.sb ?_) | (refine J.o 6 ?_; refine J.bx (fun _ => ?_)) | (refine J.o 7 ?_; refine J.al hΓ (fun _ => ?_)) | (refine J.o 9 ?_; refine J.bl hΓ (fun _ => ?_)) | (refine J.o 10 ?_; refine J.ev' hΓ ?_) | (refine J.o 11 ?_; refine J.ev' hΓ ?_)) | ((fail_if_success refine J.wt ?_); refine J.gc rfl rfl (fun hc => ?_) (fun hc => ?_) <;> ((try simp only [decide_eq_true_eq, decide_eq_false_iff_not, beq_iff_eq, beq_eq_false_iff_ne, bne_iff_ne, bne_eq_false_iff_eq, Bool.not_eq_true', Bool.not_eq_false', Bool.not_eq_true, Bool.not_eq_false] at hc) <;> first | (first | (exact absurd rfl hc) | (exfalso; omega) | (exact absurd (hc.symm.trans (by assumption : _ = false)) (by decide)) | (exact absurd (hc.symm.trans (by assumption : _ = true)) (by decide))) | skip)))
        | (first | refine JC.seq ?_ | refine JC.region ?_ | refine JC.block ?_ | refine JC.ret ?_ | refine JC.exit ?_ | refine JC.skip ?_ | refine thenK.nn ?_ | refine thenK.x ?_ | refine blockK.nn ?_ | refine blockK.hit rfl ?_ | refine JC.condT rfl ?_ | refine JC.condF rfl ?_ | (refine JC.cond rfl (fun hc => ?_) (fun hc => ?_) <;> ((try simp only [decide_eq_true_eq, decide_eq_false_iff_not, beq_iff_eq, beq_eq_false_iff_ne, bne_iff_ne, bne_eq_false_iff_eq, Bool.not_eq_true', Bool.not_eq_false', Bool.not_eq_true, Bool.not_eq_false] at hc) <;> first | (first | (exact absurd rfl hc) | (exfalso; omega) | (exact absurd (hc.symm.trans (by assumption : _ = false)) (by decide)) | (exact absurd (hc.symm.trans (by assumption : _ = true)) (by decide))) | skip)) | refine loopK.x ?_)
        | (fail)
        | fail
      all_goals first | (exfalso; omega) | skip
      all_goals (refine loopK.nn 0 (by omega) (by repeat (first | refine Ag.upd rfl ?_ | exact Ag.hv | refine Ag.hv2 (fun i hi => by simp at hi ⊢; omega) ?_)) ⟨[], a, c, h5, _, ao2, co2, ho2, rfl, rfl, o0, ob2, .inr ⟨rfl, rfl, rfl⟩, rfl⟩)
    · have hk9 : k < 9 := by
        rcases Nat.lt_or_ge k 9 with h | h
        · exact h
        · rw [show 9 - k = 0 by omega] at hp; omega
      have hst := decN_pos hpos
      have hp2 : m3 < 10 ^ (9 - (k + 1)) * 10 := by rw [← Nat.pow_succ, show (9 - (k + 1)).succ = 9 - k by omega]; exact hp
      have hln : (bs ++ [UInt8.ofNat (48 + m3 % 10)]).length = bs.length + 1 := by simp
      have hdl : bs.length + (decN m3).length = (decN v).length := by rw [hdec, List.length_append]
      rw [hst, List.length_cons] at hdl
      have hmb : m3 < 4294967296 := by
        have : 10 ^ (9 - k) ≤ 10 ^ 9 := Nat.pow_le_pow_right (by omega) (by omega)
        omega
      repeat' first
        | (refine J.isJ ?_; first | (first | (refine J.o 1 ?_; first | refine J.grem (b := 10) ?_ | refine J.gadd (a := 48) ?_ (hw := wU32 (by omega)) | refine J.gquo (b := 10) ?_ (hw := wU32 (by omega))) | (refine J.o 2 ?_; refine J.gcv hΓ ?_ (hk := dec_u8 m3)) | ((refine J.o 9 ?_; first | (first | (refine J.ap1 (enc := encB) [dig m3] hΓ (fun a6 c6 h6 o6 => ?_)) | (refine J.perm (br1.cons _) ?_; refine J.ap1 (enc := encB) [dig m3] hΓ (fun a6 c6 h6 o6 => ?_)) | (refine J.perm (br2.cons _) ?_; refine J.ap1 (enc := encB) [dig m3] hΓ (fun a6 c6 h6 o6 => ?_)) | (refine J.perm (br3.cons _) ?_; refine J.ap1 (enc := encB) [dig m3] hΓ (fun a6 c6 h6 o6 => ?_)) | (refine J.perm (br4.cons _) ?_; refine J.ap1 (enc := encB) [dig m3] hΓ (fun a6 c6 h6 o6 => ?_)) | (refine J.perm (br5.cons _) ?_; refine J.ap1 (enc := encB) [dig m3] hΓ (fun a6 c6 h6 o6 => ?_))) | (refine J.perm br1 ?_; first | (refine J.ap1 (enc := encB) [dig m3] hΓ (fun a6 c6 h6 o6 => ?_)) | (refine J.perm (br1.cons _) ?_; refine J.ap1 (enc := encB) [dig m3] hΓ (fun a6 c6 h6 o6 => ?_)) | (refine J.perm (br2.cons _) ?_; refine J.ap1 (enc := encB) [dig m3] hΓ (fun a6 c6 h6 o6 => ?_)) | (refine J.perm (br3.cons _) ?_; refine J.ap1 (enc := encB) [dig m3] hΓ (fun a6 c6 h6 o6 => ?_)) | (refine J.perm (br4.cons _) ?_; refine J.ap1 (enc := encB) [dig m3] hΓ (fun a6 c6 h6 o6 => ?_)) | (refine J.perm (br5.cons _) ?_; refine J.ap1 (enc := encB) [dig m3] hΓ (fun a6 c6 h6 o6 => ?_))) | (refine J.perm br2 ?_; first | (refine J.ap1 (enc := encB) [dig m3] hΓ (fun a6 c6 h6 o6 => ?_)) | (refine J.perm (br1.cons _) ?_; refine J.ap1 (enc := encB) [dig m3] hΓ (fun a6 c6 h6 o6 => ?_)) | (refine J.perm (br2.cons _) ?_; refine J.ap1 (enc := encB) [dig m3] hΓ (fun a6 c6 h6 o6 => ?_)) | (refine J.perm (br3.cons _) ?_; refine J.ap1 (enc := encB) [dig m3] hΓ (fun a6 c6 h6 o6 => ?_)) | (refine J.perm (br4.cons _) ?_; refine J.ap1 (enc := encB) [dig m3] hΓ (fun a6 c6 h6 o6 => ?_)) | (refine J.perm (br5.cons _) ?_; refine J.ap1 (enc := encB) [dig m3] hΓ (fun a6 c6 h6 o6 => ?_)))))) | (first | (refine J.o 0 ?_; refine J.ev' hΓ ?_) | refine J.nil ?_ | refine J.kd ?_ | (refine J.o 4 ?_; first | refine J.lT default hΓ ?_ | refine J.lR hΓ ?_) | (refine J.o 3 ?_; first | refine J.iJ hΓ ?_ | refine J.ev' hΓ ?_) | (refine J.o 1 ?_; first | refine J.ad ?_ | refine J.sb ?_) | (refine J.o 6 ?_; refine J.bx (fun _ => ?_)) | (refine J.o 7 ?_; refine J.al hΓ (fun _ => ?_)) | (refine J.o 9 ?_; refine J.bl hΓ (fun _ => ?_)) | (refine J.o 10 ?_; refine J.ev' hΓ ?_) | (refine J.o 11 ?_; refine J.ev' hΓ ?_)) | ((fail_if_success refine J.wt ?_); refine J.gc rfl rfl (fun hc => ?_) (fun hc => ?_) <;> ((try simp only [decide_eq_true_eq, decide_eq_false_iff_not, beq_iff_eq, beq_eq_false_iff_ne, bne_iff_ne, bne_eq_false_iff_eq, Bool.not_eq_true', Bool.not_eq_false', Bool.not_eq_true, Bool.not_eq_false] at hc) <;> first | (first | (exact absurd rfl hc) | (exfalso; omega) | (exact absurd (hc.symm.trans (by assumption : _ = false)) (by decide)) | (exact absurd (hc.symm.trans (by assumption : _ = true)) (by decide))) | skip)))
        | (first | refine JC.seq ?_ | refine JC.region ?_ | refine JC.block ?_ | refine JC.ret ?_ | refine JC.exit ?_ | refine JC.skip ?_ | refine thenK.nn ?_ | refine thenK.x ?_ | refine blockK.nn ?_ | refine blockK.hit rfl ?_ | refine JC.condT rfl ?_ | refine JC.condF rfl ?_ | (refine JC.cond rfl (fun hc => ?_) (fun hc => ?_) <;> ((try simp only [decide_eq_true_eq, decide_eq_false_iff_not, beq_iff_eq, beq_eq_false_iff_ne, bne_iff_ne, bne_eq_false_iff_eq, Bool.not_eq_true', Bool.not_eq_false', Bool.not_eq_true, Bool.not_eq_false] at hc) <;> first | (first | (exact absurd rfl hc) | (exfalso; omega) | (exact absurd (hc.symm.trans (by assumption : _ = false)) (by decide)) | (exact absurd (hc.symm.trans (by assumption : _ = true)) (by decide))) | skip)) | refine loopK.x ?_)
        | (fail)
        | fail
      all_goals first | (exfalso; omega) | skip
      have hln2 : (bs ++ [dig m3]).length = bs.length + 1 := hln
      all_goals (refine loopK.np (m3 / 10) [] _ (by omega) (by repeat (first | refine Ag.upd rfl ?_ | exact Ag.hv)) br1 ⟨k + 1, m3 / 10, bs ++ [dig m3], a6, c6, h6, ?_, rfl, rfl, o6, ?_, by omega, by omega, rfl, by omega, rfl⟩)
      · show Value.int .i64 _ = _; congr 1
      · rw [hdec, hst, List.append_assoc]; rfl
  ·
    have hpos : 0 < (decN v).length := by rw [decN_pos h0, List.length_cons]; omega
    repeat' first
      | (refine J.isJ ?_; first | ((refine J.o 7 ?_; refine J.al hΓ (fun b7 => ?_))) | (first | (refine J.o 0 ?_; refine J.ev' hΓ ?_) | refine J.nil ?_ | refine J.kd ?_ | (refine J.o 4 ?_; first | refine J.lT default hΓ ?_ | refine J.lR hΓ ?_) | (refine J.o 3 ?_; first | refine J.iJ hΓ ?_ | refine J.ev' hΓ ?_) | (refine J.o 1 ?_; first | refine J.ad ?_ | refine J.sb ?_) | (refine J.o 6 ?_; refine J.bx (fun _ => ?_)) | (refine J.o 7 ?_; refine J.al hΓ (fun _ => ?_)) | (refine J.o 9 ?_; refine J.bl hΓ (fun _ => ?_)) | (refine J.o 10 ?_; refine J.ev' hΓ ?_) | (refine J.o 11 ?_; refine J.ev' hΓ ?_)) | ((fail_if_success refine J.wt ?_); refine J.gc rfl rfl (fun hc => ?_) (fun hc => ?_) <;> ((try simp only [decide_eq_true_eq, decide_eq_false_iff_not, beq_iff_eq, beq_eq_false_iff_ne, bne_iff_ne, bne_eq_false_iff_eq, Bool.not_eq_true', Bool.not_eq_false', Bool.not_eq_true, Bool.not_eq_false] at hc) <;> first | (first | (exact absurd rfl hc) | (exfalso; omega) | (exact absurd (hc.symm.trans (by assumption : _ = false)) (by decide)) | (exact absurd (hc.symm.trans (by assumption : _ = true)) (by decide))) | skip)))
      | (first | refine JC.seq ?_ | refine JC.region ?_ | refine JC.block ?_ | refine JC.ret ?_ | refine JC.exit ?_ | refine JC.skip ?_ | refine thenK.nn ?_ | refine thenK.x ?_ | refine blockK.nn ?_ | refine blockK.hit rfl ?_ | refine JC.condT rfl ?_ | refine JC.condF rfl ?_ | (refine JC.cond rfl (fun hc => ?_) (fun hc => ?_) <;> ((try simp only [decide_eq_true_eq, decide_eq_false_iff_not, beq_iff_eq, beq_eq_false_iff_ne, bne_iff_ne, bne_eq_false_iff_eq, Bool.not_eq_true', Bool.not_eq_false', Bool.not_eq_true, Bool.not_eq_false] at hc) <;> first | (first | (exact absurd rfl hc) | (exfalso; omega) | (exact absurd (hc.symm.trans (by assumption : _ = false)) (by decide)) | (exact absurd (hc.symm.trans (by assumption : _ = true)) (by decide))) | skip)) | refine loopK.x ?_)
      | (fail)
      | fail
    all_goals first | (exfalso; omega) | skip
    refine JC.weak (L' := [[(b7, bldO none (.slice none ([] : List UInt8).length 0))], [], h, ho, [(b1, Obj.cells ⟨[.string (S (bytesN v))]⟩ 58 (0, 0))]]) (fun w hw => hw.nilF.perm br1) ?_
    refine JC.loop (fun i => i == 8 || Nat.ble 58 i) (fun m g L' => ∃ p a' c' hb, g 8 = .int .i64 ((m : Int) - 1) ∧ m ≤ (decN v).length ∧ (p = none ∨ p = some ⟨b7, 0, none⟩) ∧ OwT encB 1 5 a' c' (((decN v).drop m).reverse) hb ∧ c' ≤ maxLen ∧ L' = [[(b7, bldO p (.slice a' (((decN v).drop m).reverse).length c'))], hb, h, ho, [(b1, Obj.cells ⟨[.string (S (bytesN v))]⟩ 58 (0, 0))]]) (decN v).length ⟨none, none, 0, [], rfl, Nat.le_refl _, .inl rfl, by rw [List.drop_of_length_le (Nat.le_refl _)]; exact OwT.nil (fun _ => rfl), Nat.zero_le _, by rw [List.drop_of_length_le (Nat.le_refl _)]; rfl⟩ ?_
    rintro m g9 L' ⟨p, a7, c7, hb, e8, hm, hp, obb, hc7, rfl⟩
    rcases Nat.eq_zero_or_pos m with hz | hpm
    · subst hz
      refine JC.pin 8 e8 ?_
      rw [List.drop_zero] at obb ⊢
      repeat' first
        | (refine J.isJ ?_; first | ((refine J.fc 80 ?_; refine J.callx eBStr rfl rfl (fun w hw => bStr_any hp obb hc7 hw) ?_; rintro _ _ ⟨rfl, rfl⟩)) | (first | (refine J.o 0 ?_; refine J.ev' hΓ ?_) | refine J.nil ?_ | refine J.kd ?_ | (refine J.o 4 ?_; first | refine J.lT default hΓ ?_ | refine J.lR hΓ ?_) | (refine J.o 3 ?_; first | refine J.iJ hΓ ?_ | refine J.ev' hΓ ?_) | (refine J.o 1 ?_; first | refine J.ad ?_ | refine J.sb ?_) | (refine J.o 6 ?_; refine J.bx (fun _ => ?_)) | (refine J.o 7 ?_; refine J.al hΓ (fun _ => ?_)) | (refine J.o 9 ?_; refine J.bl hΓ (fun _ => ?_)) | (refine J.o 10 ?_; refine J.ev' hΓ ?_) | (refine J.o 11 ?_; refine J.ev' hΓ ?_)) | ((fail_if_success refine J.wt ?_); refine J.gc rfl rfl (fun hc => ?_) (fun hc => ?_) <;> ((try simp only [decide_eq_true_eq, decide_eq_false_iff_not, beq_iff_eq, beq_eq_false_iff_ne, bne_iff_ne, bne_eq_false_iff_eq, Bool.not_eq_true', Bool.not_eq_false', Bool.not_eq_true, Bool.not_eq_false] at hc) <;> first | (first | (exact absurd rfl hc) | (exfalso; omega) | (exact absurd (hc.symm.trans (by assumption : _ = false)) (by decide)) | (exact absurd (hc.symm.trans (by assumption : _ = true)) (by decide))) | skip)))
        | (first | refine JC.seq ?_ | refine JC.region ?_ | refine JC.block ?_ | refine JC.ret ?_ | refine JC.exit ?_ | refine JC.skip ?_ | refine thenK.nn ?_ | refine thenK.x ?_ | refine blockK.nn ?_ | refine blockK.hit rfl ?_ | refine JC.condT rfl ?_ | refine JC.condF rfl ?_ | (refine JC.cond rfl (fun hc => ?_) (fun hc => ?_) <;> ((try simp only [decide_eq_true_eq, decide_eq_false_iff_not, beq_iff_eq, beq_eq_false_iff_ne, bne_iff_ne, bne_eq_false_iff_eq, Bool.not_eq_true', Bool.not_eq_false', Bool.not_eq_true, Bool.not_eq_false] at hc) <;> first | (first | (exact absurd rfl hc) | (exfalso; omega) | (exact absurd (hc.symm.trans (by assumption : _ = false)) (by decide)) | (exact absurd (hc.symm.trans (by assumption : _ = true)) (by decide))) | skip)) | refine loopK.x ?_)
        | (fail)
        | fail
      all_goals first | (exfalso; omega) | skip
      all_goals (refine ret1f rfl rfl rfl (fun w1 hw => ⟨rfl, hw.below⟩))
    · obtain ⟨i, rfl⟩ : ∃ i, m = i + 1 := ⟨m - 1, by omega⟩
      have e8' : g9 8 = .int .i64 ((i : Nat) : Int) := by rw [e8]; congr 1; omega
      refine JC.pin 8 e8' ?_
      have hdr : (decN v).drop i = (decN v).getD i default :: (decN v).drop (i + 1) := by
        rw [List.drop_eq_getElem_cons (by omega), List.getD_eq_getElem?_getD, List.getElem?_eq_getElem (by omega)]; rfl
      have hrl : (((decN v).drop (i + 1)).reverse).length + 1 ≤ 140737488355328 := by rw [List.length_reverse, List.length_drop]; omega
      repeat' first
        | (refine J.isJ ?_; first | (first | (refine J.o 3 ?_; refine J.iJ hΓ ?_ (hs := ob.sl)) | (refine J.o 4 ?_; refine J.lT default hΓ ?_ (hs := ob.sl) (hr := RdH.hd.tl.tl.tl)) | (refine J.fc 79 ?_; refine J.callx eWBy rfl rfl (fun w hw => wBy_any ((decN v).getD i default) hp obb hc7 hrl hw) ?_; rintro _ _ ⟨a9, c9, h9, rfl, o9, hc9⟩)) | (first | (refine J.o 0 ?_; refine J.ev' hΓ ?_) | refine J.nil ?_ | refine J.kd ?_ | (refine J.o 4 ?_; first | refine J.lT default hΓ ?_ | refine J.lR hΓ ?_) | (refine J.o 3 ?_; first | refine J.iJ hΓ ?_ | refine J.ev' hΓ ?_) | (refine J.o 1 ?_; first | refine J.ad ?_ | refine J.sb ?_) | (refine J.o 6 ?_; refine J.bx (fun _ => ?_)) | (refine J.o 7 ?_; refine J.al hΓ (fun _ => ?_)) | (refine J.o 9 ?_; refine J.bl hΓ (fun _ => ?_)) | (refine J.o 10 ?_; refine J.ev' hΓ ?_) | (refine J.o 11 ?_; refine J.ev' hΓ ?_)) | ((fail_if_success refine J.wt ?_); refine J.gc rfl rfl (fun hc => ?_) (fun hc => ?_) <;> ((try simp only [decide_eq_true_eq, decide_eq_false_iff_not, beq_iff_eq, beq_eq_false_iff_ne, bne_iff_ne, bne_eq_false_iff_eq, Bool.not_eq_true', Bool.not_eq_false', Bool.not_eq_true, Bool.not_eq_false] at hc) <;> first | (first | (exact absurd rfl hc) | (exfalso; omega) | (exact absurd (hc.symm.trans (by assumption : _ = false)) (by decide)) | (exact absurd (hc.symm.trans (by assumption : _ = true)) (by decide))) | skip)))
        | (first | refine JC.seq ?_ | refine JC.region ?_ | refine JC.block ?_ | refine JC.ret ?_ | refine JC.exit ?_ | refine JC.skip ?_ | refine thenK.nn ?_ | refine thenK.x ?_ | refine blockK.nn ?_ | refine blockK.hit rfl ?_ | refine JC.condT rfl ?_ | refine JC.condF rfl ?_ | (refine JC.cond rfl (fun hc => ?_) (fun hc => ?_) <;> ((try simp only [decide_eq_true_eq, decide_eq_false_iff_not, beq_iff_eq, beq_eq_false_iff_ne, bne_iff_ne, bne_eq_false_iff_eq, Bool.not_eq_true', Bool.not_eq_false', Bool.not_eq_true, Bool.not_eq_false] at hc) <;> first | (first | (exact absurd rfl hc) | (exfalso; omega) | (exact absurd (hc.symm.trans (by assumption : _ = false)) (by decide)) | (exact absurd (hc.symm.trans (by assumption : _ = true)) (by decide))) | skip)) | refine loopK.x ?_)
        | (fail)
        | fail
      all_goals first | (exfalso; omega) | skip
      have hrv : ((decN v).drop (i + 1)).reverse ++ [(decN v).getD i default] = ((decN v).drop i).reverse := by rw [hdr, List.reverse_cons]
      rw [hrv] at o9 ⊢
      refine loopK.nn i (by omega) (by repeat (first | refine Ag.upd rfl ?_ | exact Ag.hv)) ⟨some ⟨b7, 0, none⟩, a9, c9, h9, rfl, by omega, .inr rfl, o9, hc9, rfl⟩
end Go.Proofs.Ytbhgahjeocnfcaa
namespace Go.Proofs.Ytbhgahjeocnfcaa
open Go Go.Cx
set_option linter.unusedVariables false
set_option linter.unusedSimpArgs false
def stepB (half : Nat) (acc : List (List Bool)) (b : List Bool) : List (List Bool) := if b.take half = b.drop half ∨ b ∈ acc then acc else acc ++ [b]
def stepN (ns : List N3) (k : Nat) (acc : List Nat) (j : Nat) : List Nat := if (nd ns j).p ≠ k ∨ j ∈ acc then acc else acc ++ [j]
theorem blk_half {n : Nat} {ns : List N3} (w : WF n ns) {k j : Nat} (hk : k < n) (hp : k ≤ (nd ns j).p) (hj : j < ns.length) : ((blk n ns k j).take (2 ^ (n - k - 1)) = (blk n ns k j).drop (2 ^ (n - k - 1))) ↔ (nd ns j).p ≠ k := by
  have hl : ∀ x, (blk n ns (k + 1) x).length = 2 ^ (n - k - 1) := fun x => by rw [blk_len, Nat.sub_add_eq]
  rcases Nat.lt_or_ge k (nd ns j).p with h | h
  · rw [blk_later w hj h, List.take_left' (hl j), List.drop_left' (hl j)]
    exact ⟨fun _ => by omega, fun _ => rfl⟩
  · have e : (nd ns j).p = k := by omega
    have h2 := w.nonconst (show (nd ns j).p < n by omega)
    have hb := blk_node w h2 hj
    rw [e] at hb
    have hlp := w.lp j h2 hj
    have hhp := w.hp j h2 hj
    rw [hb, List.take_left' (hl _), List.drop_left' (hl _), blk_eq w (by omega) (by omega) (w.ll j h2 hj) (w.hl j h2 hj)]
    exact ⟨fun h => (w.ne j h2 hj h).elim, fun h => (h e).elim⟩
theorem fold_BN {n : Nat} {ns : List N3} (w : WF n ns) {k : Nat} (hk : k < n) : ∀ (js acc : List Nat), (∀ j ∈ js, j < ns.length ∧ k ≤ (nd ns j).p) → (∀ j ∈ acc, j < ns.length ∧ k ≤ (nd ns j).p) →
    (js.map (blk n ns k)).foldl (stepB (2 ^ (n - k - 1))) (acc.map (blk n ns k)) = (js.foldl (stepN ns k) acc).map (blk n ns k)
  | [], acc, _, _ => rfl
  | j :: js, acc, h1, h2 => by
    obtain ⟨hj, hp⟩ := h1 j (by simp)
    have hmem : blk n ns k j ∈ acc.map (blk n ns k) ↔ j ∈ acc := by
      rw [List.mem_map]
      constructor
      · rintro ⟨x, hx, he⟩
        obtain ⟨g1, g2⟩ := h2 x hx
        rw [← (blk_eq w g2 hp g1 hj).1 he]; exact hx
      · intro h; exact ⟨j, h, rfl⟩
    have hc := blk_half w hk hp hj
    have hs : stepB (2 ^ (n - k - 1)) (acc.map (blk n ns k)) (blk n ns k j) = (stepN ns k acc j).map (blk n ns k) := by
      unfold stepB stepN
      by_cases h : (nd ns j).p ≠ k ∨ j ∈ acc
      · rw [if_pos h, if_pos (h.imp hc.2 hmem.2)]
      · rw [if_neg h, if_neg (fun g => h (g.imp hc.1 hmem.1)), List.map_append]; rfl
    rw [List.map_cons, List.foldl_cons, List.foldl_cons, hs]
    refine fold_BN w hk js _ (fun x hx => h1 x (by simp [hx])) (fun x hx => ?_)
    unfold stepN at hx
    split at hx
    · exact h2 x hx
    · rcases List.mem_append.1 hx with hx | hx
      · exact h2 x hx
      · rw [List.mem_singleton.1 hx]; exact ⟨hj, hp⟩
theorem foldN_mem (ns : List N3) (k : Nat) : ∀ (js acc : List Nat) (x : Nat), x ∈ js.foldl (stepN ns k) acc ↔ x ∈ acc ∨ (x ∈ js ∧ (nd ns x).p = k)
  | [], acc, x => by simp
  | j :: js, acc, x => by
    rw [List.foldl_cons, foldN_mem ns k js]
    unfold stepN
    split
    · rename_i h
      constructor
      · rintro (h1 | ⟨h1, h2⟩)
        · exact .inl h1
        · exact .inr ⟨by simp [h1], h2⟩
      · rintro (h1 | ⟨h1, h2⟩)
        · exact .inl h1
        · rcases List.mem_cons.1 h1 with rfl | h1
          · rcases h with h | h
            · exact absurd h2 h
            · exact .inl h
          · exact .inr ⟨h1, h2⟩
    · rename_i h
      have hp : (nd ns j).p = k := Classical.byContradiction fun g => h (.inl g)
      rw [List.mem_append, List.mem_singleton]
      constructor
      · rintro ((h1 | rfl) | ⟨h1, h2⟩)
        · exact .inl h1
        · exact .inr ⟨by simp, hp⟩
        · exact .inr ⟨by simp [h1], h2⟩
      · rintro (h1 | ⟨h1, h2⟩)
        · exact .inl (.inl h1)
        · rcases List.mem_cons.1 h1 with rfl | h1
          · exact .inl (.inr rfl)
          · exact .inr ⟨h1, h2⟩
theorem foldN_nodup (ns : List N3) (k : Nat) : ∀ (js acc : List Nat), acc.Nodup → (js.foldl (stepN ns k) acc).Nodup
  | [], acc, h => h
  | j :: js, acc, h => by
    rw [List.foldl_cons]
    refine foldN_nodup ns k js _ ?_
    unfold stepN
    split
    · exact h
    · rename_i hn
      rw [List.nodup_append]
      refine ⟨h, by simp, fun x hx y hy => ?_⟩
      rw [List.mem_singleton.1 hy]
      intro e; subst e
      exact hn (.inr hx)
def chunks (m c : Nat) (t : List Bool) : List (List Bool) := (List.range c).map fun q => (t.drop (q * m)).take m
theorem chunks_flat (m : Nat) : ∀ (L : List (List Bool)), (∀ b ∈ L, b.length = m) → chunks m L.length L.flatten = L
  | [], _ => rfl
  | b :: L, h => by
    have ih := chunks_flat m L fun x hx => h x (by simp [hx])
    have hb := h b (by simp)
    unfold chunks at ih ⊢
    rw [List.length_cons, List.range_succ_eq_map, List.map_cons, List.map_map, List.flatten_cons]
    congr 1
    · rw [Nat.zero_mul, List.drop_zero, ← hb, List.take_left']; rfl
    · conv => rhs; rw [← ih]
      refine List.map_congr_left fun q _ => ?_
      show ((b ++ L.flatten).drop ((q + 1) * m)).take m = _
      rw [show (q + 1) * m = b.length + q * m by rw [hb, Nat.add_mul]; omega, List.drop_append]
      rw [List.drop_of_length_le (by omega), List.nil_append]
      congr 2; omega
def lvC (n k : Nat) (t : List Bool) : Nat := ((chunks (2 ^ (n - k)) (2 ^ k) t).foldl (stepB (2 ^ (n - k - 1))) []).length
def sizeT (n : Nat) (t : List Bool) : Nat := ((List.range n).map fun k => lvC n k t).sum
theorem lvl_len (n : Nat) (ns : List N3) (i : Nat) : ∀ k, (lvl n ns i k).length = 2 ^ k
  | 0 => rfl
  | k + 1 => by
    have : ∀ l : List Nat, (l.flatMap fun j => if (nd ns j).p = k then [(nd ns j).l, (nd ns j).h] else [j, j]).length = 2 * l.length := fun l => by
      induction l with
      | nil => rfl
      | cons x l ih => rw [List.flatMap_cons, List.length_append, ih, List.length_cons]; split <;> simp <;> omega
    rw [lvl, this, lvl_len n ns i k, Nat.pow_succ, Nat.mul_comm]
theorem lvC_eq {n : Nat} {ns : List N3} (w : WF n ns) {i k : Nat} (hi : i < ns.length) (hk : k < n) : lvC n k (tab n ns i) = ((lvl n ns i k).foldl (stepN ns k) []).length := by
  have ht := tab_lvl w hi k (by omega)
  have hch := chunks_flat (2 ^ (n - k)) ((lvl n ns i k).map (blk n ns k)) (fun b hb => by
    obtain ⟨j, _, rfl⟩ := List.mem_map.1 hb; exact blk_len n ns k j)
  rw [List.length_map, lvl_len] at hch
  have hf : (lvl n ns i k).flatMap (blk n ns k) = ((lvl n ns i k).map (blk n ns k)).flatten := rfl
  unfold lvC
  rw [ht, hf, hch]
  have := fold_BN w hk (lvl n ns i k) [] (fun j hj => by obtain ⟨h1, h2, _⟩ := lvl_ok w hi k (by omega) j hj; exact ⟨h1, h2⟩) (fun j hj => by cases hj)
  rw [List.map_nil] at this
  rw [this, List.length_map]
def allN (n : Nat) (ns : List N3) (i : Nat) : Nat → List Nat
  | 0 => []
  | m + 1 => allN n ns i m ++ (lvl n ns i m).foldl (stepN ns m) []
theorem allN_mem {n : Nat} {ns : List N3} (w : WF n ns) {i : Nat} (hi : i < ns.length) : ∀ m, m ≤ n → ∀ j, j ∈ allN n ns i m ↔ (Rch ns i j ∧ 2 ≤ j ∧ (nd ns j).p < m)
  | 0, _, j => by simp [allN]
  | m + 1, hm, j => by
    rw [allN, List.mem_append, allN_mem w hi m (by omega), foldN_mem, lvl_iff w hi (by omega)]
    constructor
    · rintro (⟨h1, h2, h3⟩ | h | ⟨h1, h2, h3⟩)
      · exact ⟨h1, h2, by omega⟩
      · cases h
      · exact ⟨h1, h2, by omega⟩
    · rintro ⟨h1, h2, h3⟩
      rcases Nat.lt_or_ge (nd ns j).p m with h | h
      · exact .inl ⟨h1, h2, h⟩
      · exact .inr (.inr ⟨h1, h2, by omega⟩)
theorem allN_nodup {n : Nat} {ns : List N3} (w : WF n ns) {i : Nat} (hi : i < ns.length) : ∀ m, m ≤ n → (allN n ns i m).Nodup
  | 0, _ => List.nodup_nil
  | m + 1, hm => by
    rw [allN, List.nodup_append]
    refine ⟨allN_nodup w hi m (by omega), foldN_nodup ns m _ _ List.nodup_nil, fun x hx y hy e => ?_⟩
    subst e
    have h1 := ((allN_mem w hi m (by omega) x).1 hx).2.2
    rcases (foldN_mem ns m _ _ x).1 hy with h | ⟨_, h⟩
    · cases h
    · omega
theorem allN_len {n : Nat} {ns : List N3} (w : WF n ns) {i : Nat} (hi : i < ns.length) : ∀ m, m ≤ n → (allN n ns i m).length = ((List.range m).map fun k => lvC n k (tab n ns i)).sum
  | 0, _ => rfl
  | m + 1, hm => by
    rw [allN, List.length_append, allN_len w hi m (by omega), List.range_succ, List.map_append, List.sum_append, ← lvC_eq w hi (by omega)]
    simp
theorem nodup_sub {α : Type} : ∀ (l m : List α), l.Nodup → (∀ x ∈ l, x ∈ m) → l.length ≤ m.length
  | [], _, _, _ => Nat.zero_le _
  | x :: l, m, hn, hs => by
    obtain ⟨h1, h2⟩ := List.nodup_cons.1 hn
    obtain ⟨s, t, rfl⟩ := List.append_of_mem (hs x (by simp))
    have := nodup_sub l (s ++ t) h2 fun y hy => by
      have h3 := hs y (by simp [hy])
      rcases List.mem_append.1 h3 with h4 | h4
      · exact List.mem_append_left _ h4
      · rcases List.mem_cons.1 h4 with h5 | h5
        · subst h5; exact absurd hy h1
        · exact List.mem_append_right _ h5
    simp only [List.length_append, List.length_cons] at this ⊢
    omega
theorem size_eq {n : Nat} {ns : List N3} (w : WF n ns) {i : Nat} (hi : i < ns.length) {l : List Int} (hn : l.Nodup) (hm : ∀ x : Int, x ∈ l ↔ ∃ j : Nat, x = (j : Int) ∧ 2 ≤ j ∧ Rch ns i j) : l.length = sizeT n (tab n ns i) := by
  have h1 := allN_nodup w hi n (Nat.le_refl n)
  have h2 := allN_len w hi n (Nat.le_refl n)
  have h3 : ∀ j, j ∈ allN n ns i n ↔ (2 ≤ j ∧ Rch ns i j) := fun j => by
    rw [allN_mem w hi n (Nat.le_refl n)]
    constructor
    · rintro ⟨g1, g2, _⟩; exact ⟨g2, g1⟩
    · rintro ⟨g1, g2⟩; exact ⟨g2, g1, w.pl j g1 (g2.lt w hi)⟩
  have h4 : ((allN n ns i n).map fun j : Nat => (j : Int)).Nodup := by
    rw [List.Nodup, List.pairwise_map]
    exact h1.imp fun h e => h (by omega)
  unfold sizeT
  rw [← h2]
  have a1 := nodup_sub l ((allN n ns i n).map fun j : Nat => (j : Int)) hn fun x hx => by
    obtain ⟨j, rfl, g⟩ := (hm x).1 hx
    exact List.mem_map.2 ⟨j, (h3 j).2 g, rfl⟩
  have a2 := nodup_sub ((allN n ns i n).map fun j : Nat => (j : Int)) l h4 fun x hx => by
    obtain ⟨j, hj, rfl⟩ := List.mem_map.1 hx
    exact (hm _).2 ⟨j, rfl, (h3 j).1 hj⟩
  rw [List.length_map] at a1 a2
  omega
end Go.Proofs.Ytbhgahjeocnfcaa
namespace Go.Proofs.Ytbhgahjeocnfcaa
open Go Go.Cx Go.RowKit
set_option linter.unusedVariables false
set_option linter.unusedSimpArgs false
set_option maxHeartbeats 4000000
attribute [local irreducible] J JC thenK blockK loopK drawK retK QW Qt pel List.set Calls
open Go.Maps Go.Lib
set_option maxRecDepth 8000
attribute [local irreducible] JE Br eK0 eK3 brK pc
theorem eSized : Entr Try.prog 73 := Entr.of Try.func73 rfl rfl
theorem eWorks30 : Entr Try.prog 29 := Entr.of Try.func29 rfl rfl
theorem tab_fn {n : Nat} {ns : List N3} {i : Nat} {g : (Nat → Bool) → Bool} (h : ∀ α, fn n ns i α = g α) : tab n ns i = (List.range (2 ^ n)).map fun r => g (asg n r) := by
  unfold tab blk
  rw [Nat.sub_zero]
  exact List.map_congr_left fun r _ => h _
theorem seven : (decN 7).reverse = [55] := by decide
def gW (p1 p2 p3 p4 : Nat) (α : Nat → Bool) : Bool := Bool.or (α p4 && α p3) (α p1 && α p2)
theorem sized_any (order : List Int) (a : Option Addr) (c : Nat) (h : Heap) (hs : SlT encI 1 a order h) (ho : okOrd order) (hn : order.length = 4) (pl : Nat → Nat) (hrk : ∀ j : Nat, 1 ≤ j → j ≤ 4 → rk order (j : Int) 0 = some (pl j)) (want : Nat)
    (hsz : sizeT 4 ((List.range (2 ^ 4)).map fun r => gW (pl 1) (pl 2) (pl 3) (pl 4) (asg 4 r)) = want) (hct : ((List.range (2 ^ 4)).map fun r => gW (pl 1) (pl 2) (pl 3) (pl 4) (asg 4 r)).count true = 7) (w : World) (hw : Holds h w) :
    Calls Try.prog 73 #[.slice a 4 c, .int .i64 (want : Int)] w fun e w' => e = .returned (.bool true) ∧ Below w.heap.size w w' := by
  have q0 : ∀ L, RdH h L h := fun L => RdH.old fun _ hh => hh
  have hget : ∀ j : Nat, 1 ≤ j → j ≤ 4 → order.getD (pl j) default = (j : Int) := fun j h1 h2 => (rk_some (hrk j h1 h2)).2.2
  have cN := fun {w0 w : World} (hw : H w0 h [] w) => new_any order a c h hs ho (q0 _) hw
  rw [hn] at cN
  refine calls_of_JC (R := h) Try.func73 Try.ntmps73 rfl rfl (hw) ?_
  repeat' first
    | (refine J.isJ ?_; first | (first | (refine J.fc 25 ?_; refine J.callx eNew rfl rfl (fun w hw => cN hw) ?_; rintro _ _ ⟨b0, K, s0, hO, hP, rfl, rfl, so0, hns, po⟩) | (refine J.o 7 ?_; refine J.al hΓ (fun b7 => ?_))) | (first | (refine J.o 0 ?_; refine J.ev' hΓ ?_) | refine J.nil ?_ | (refine J.o 4 ?_; first | refine J.lR hΓ ?_) | (refine J.o 3 ?_; first | refine J.iA hΓ ?_ | refine J.ev' hΓ ?_) | (refine J.o 1 ?_; first | refine J.ad ?_) | (refine J.o 5 ?_; first | refine J.t0 hΓ ?_) | (refine J.o 7 ?_; refine J.al hΓ (fun _ => ?_)) | (refine J.o 8 ?_; refine J.bd hΓ ?_) | (refine J.o 10 ?_; refine J.ev' hΓ ?_) | (refine J.o 11 ?_; refine J.ev' hΓ ?_)) | ((fail_if_success refine J.wt ?_); refine J.gc rfl rfl (fun hc => ?_) (fun hc => ?_) <;> ((try simp only [decide_eq_true_eq, decide_eq_false_iff_not, beq_iff_eq, beq_eq_false_iff_ne, bne_iff_ne, bne_eq_false_iff_eq, Bool.not_eq_true', Bool.not_eq_false', Bool.not_eq_true, Bool.not_eq_false] at hc) <;> first | (first | (exact absurd rfl hc) | (exfalso; omega) | (exact absurd (hc.symm.trans (by assumption : _ = false)) (by decide)) | (exact absurd (hc.symm.trans (by assumption : _ = true)) (by decide))) | skip)))
    | (first | refine JC.seq ?_ | refine JC.region ?_ | refine JC.block ?_ | refine JC.ret ?_ | refine JC.exit ?_ | refine JC.skip ?_ | refine thenK.nn ?_ | refine thenK.x ?_ | refine blockK.nn ?_ | refine blockK.hit rfl ?_ | refine JC.condT rfl ?_ | refine JC.condF rfl ?_ | refine loopK.x ?_)
    | (fail)
    | fail
  all_goals first | (exfalso; omega) | skip
  refine JC.loop (fun i => i == 8 || Nat.ble 26 i) (fun m g L' => ∃ q s Y, g 8 = .int .i64 ((q : Nat) : Int) ∧ q + m = 5 ∧ 1 ≤ q ∧ SOk 4 K s ∧ s.ns.length ≤ 1 + q ∧ (∀ j, 1 ≤ j → j < q → Y j < s.ns.length ∧ ∀ α, fn 4 s.ns (Y j) α = α (pl j)) ∧ (∀ j, q ≤ j → Y j = 0) ∧ L' = [(b7, Obj.cells ⟨[.int .i64 0, .int .i64 (Y 1 : Int), .int .i64 (Y 2 : Int), .int .i64 (Y 3 : Int), .int .i64 (Y 4 : Int)]⟩ 166 (0, 0))] :: (sF K b0 s ++ [hO, hP])) 4 ⟨1, s0, fun _ => 0, rfl, rfl, Nat.le_refl _, so0, by rw [hns]; exact Nat.le_refl _, fun j h1 h2 => by omega, fun _ _ => rfl, rfl⟩ ?_
  rintro m1 g1 L' ⟨q, s, Y, e8, hq, hq1, so, hln, hY, hY0, rfl⟩
  refine JC.pin 8 e8 ?_
  unfold sF
  simp only [List.cons_append, List.nil_append]
  rcases (by omega : q = 5 ∨ q = 1 ∨ q = 2 ∨ q = 3 ∨ q = 4) with rfl | rfl | rfl | rfl | rfl
  ·
    obtain ⟨a1, f1⟩ := hY 1 (by omega) (by omega)
    obtain ⟨a2, f2⟩ := hY 2 (by omega) (by omega)
    obtain ⟨a3, f3⟩ := hY 3 (by omega) (by omega)
    obtain ⟨a4, f4⟩ := hY 4 (by omega) (by omega)
    generalize Y 1 = y1 at a1 f1 ⊢
    generalize Y 2 = y2 at a2 f2 ⊢
    generalize Y 3 = y3 at a3 f3 ⊢
    generalize Y 4 = y4 at a4 f4 ⊢
    have p4 : (2 : Nat) ^ 4 = 16 := rfl
    repeat' first
      | (refine J.isJ ?_; first | (fail) | (first | (refine J.o 0 ?_; refine J.ev' hΓ ?_) | refine J.nil ?_ | (refine J.o 4 ?_; first | refine J.lR hΓ ?_) | (refine J.o 3 ?_; first | refine J.iA hΓ ?_ | refine J.ev' hΓ ?_) | (refine J.o 1 ?_; first | refine J.ad ?_) | (refine J.o 5 ?_; first | refine J.t0 hΓ ?_) | (refine J.o 7 ?_; refine J.al hΓ (fun _ => ?_)) | (refine J.o 8 ?_; refine J.bd hΓ ?_) | (refine J.o 10 ?_; refine J.ev' hΓ ?_) | (refine J.o 11 ?_; refine J.ev' hΓ ?_)) | ((fail_if_success refine J.wt ?_); refine J.gc rfl rfl (fun hc => ?_) (fun hc => ?_) <;> ((try simp only [decide_eq_true_eq, decide_eq_false_iff_not, beq_iff_eq, beq_eq_false_iff_ne, bne_iff_ne, bne_eq_false_iff_eq, Bool.not_eq_true', Bool.not_eq_false', Bool.not_eq_true, Bool.not_eq_false] at hc) <;> first | (first | (exact absurd rfl hc) | (exfalso; omega) | (exact absurd (hc.symm.trans (by assumption : _ = false)) (by decide)) | (exact absurd (hc.symm.trans (by assumption : _ = true)) (by decide))) | skip)))
      | (first | refine JC.seq ?_ | refine JC.region ?_ | refine JC.block ?_ | refine JC.ret ?_ | refine JC.exit ?_ | refine JC.skip ?_ | refine thenK.nn ?_ | refine thenK.x ?_ | refine blockK.nn ?_ | refine blockK.hit rfl ?_ | refine JC.condT rfl ?_ | refine JC.condF rfl ?_ | refine loopK.x ?_)
      | (fail)
      | fail
    all_goals first | (exfalso; omega) | skip
    refine J.isJ ?_
    refine J.fc 28 ?_
    refine J.callx eAnd rfl rfl (fun w hw => And_any so y1 a1 y2 a2 (by omega) (L := hO :: hP :: [_]) (H.sel (l := [_, _, _, _, _, _, _]) (M := []) hw [1, 2, 3, 4, 5, 6, 0])) ?_
    rintro _ _ ⟨s1, ya, rfl, rfl, ad1, hf1⟩
    have l1 := ad1.le
    have b3 : y3 < s1.ns.length := Nat.lt_of_lt_of_le a3 ad1.ext.le
    have b4 : y4 < s1.ns.length := Nat.lt_of_lt_of_le a4 ad1.ext.le
    unfold sF
    simp only [List.cons_append, List.nil_append]
    repeat' first
      | (refine J.isJ ?_; first | ((refine J.o 4 ?_; refine J.lR hΓ ?_ (hr := Rd.hd.tl.tl.tl.tl.tl.tl))) | (first | (refine J.o 0 ?_; refine J.ev' hΓ ?_) | refine J.nil ?_ | (refine J.o 4 ?_; first | refine J.lR hΓ ?_) | (refine J.o 3 ?_; first | refine J.iA hΓ ?_ | refine J.ev' hΓ ?_) | (refine J.o 1 ?_; first | refine J.ad ?_) | (refine J.o 5 ?_; first | refine J.t0 hΓ ?_) | (refine J.o 7 ?_; refine J.al hΓ (fun _ => ?_)) | (refine J.o 8 ?_; refine J.bd hΓ ?_) | (refine J.o 10 ?_; refine J.ev' hΓ ?_) | (refine J.o 11 ?_; refine J.ev' hΓ ?_)) | ((fail_if_success refine J.wt ?_); refine J.gc rfl rfl (fun hc => ?_) (fun hc => ?_) <;> ((try simp only [decide_eq_true_eq, decide_eq_false_iff_not, beq_iff_eq, beq_eq_false_iff_ne, bne_iff_ne, bne_eq_false_iff_eq, Bool.not_eq_true', Bool.not_eq_false', Bool.not_eq_true, Bool.not_eq_false] at hc) <;> first | (first | (exact absurd rfl hc) | (exfalso; omega) | (exact absurd (hc.symm.trans (by assumption : _ = false)) (by decide)) | (exact absurd (hc.symm.trans (by assumption : _ = true)) (by decide))) | skip)))
      | (first | refine JC.seq ?_ | refine JC.region ?_ | refine JC.block ?_ | refine JC.ret ?_ | refine JC.exit ?_ | refine JC.skip ?_ | refine thenK.nn ?_ | refine thenK.x ?_ | refine blockK.nn ?_ | refine blockK.hit rfl ?_ | refine JC.condT rfl ?_ | refine JC.condF rfl ?_ | refine loopK.x ?_)
      | (fail)
      | fail
    refine J.isJ ?_
    refine J.fc 28 ?_
    refine J.callx eAnd rfl rfl (fun w hw => And_any ad1.ok y4 b4 y3 b3 (by omega) hw) ?_
    rintro _ _ ⟨s2, yb, rfl, rfl, ad2, hf2⟩
    have l2 := ad2.le
    have ba : ya < s2.ns.length := Nat.lt_of_lt_of_le ad1.lt ad2.ext.le
    unfold sF
    simp only [List.cons_append, List.nil_append]
    repeat' first
      | (refine J.isJ ?_; first | (fail) | (first | (refine J.o 0 ?_; refine J.ev' hΓ ?_) | refine J.nil ?_ | (refine J.o 4 ?_; first | refine J.lR hΓ ?_) | (refine J.o 3 ?_; first | refine J.iA hΓ ?_ | refine J.ev' hΓ ?_) | (refine J.o 1 ?_; first | refine J.ad ?_) | (refine J.o 5 ?_; first | refine J.t0 hΓ ?_) | (refine J.o 7 ?_; refine J.al hΓ (fun _ => ?_)) | (refine J.o 8 ?_; refine J.bd hΓ ?_) | (refine J.o 10 ?_; refine J.ev' hΓ ?_) | (refine J.o 11 ?_; refine J.ev' hΓ ?_)) | ((fail_if_success refine J.wt ?_); refine J.gc rfl rfl (fun hc => ?_) (fun hc => ?_) <;> ((try simp only [decide_eq_true_eq, decide_eq_false_iff_not, beq_iff_eq, beq_eq_false_iff_ne, bne_iff_ne, bne_eq_false_iff_eq, Bool.not_eq_true', Bool.not_eq_false', Bool.not_eq_true, Bool.not_eq_false] at hc) <;> first | (first | (exact absurd rfl hc) | (exfalso; omega) | (exact absurd (hc.symm.trans (by assumption : _ = false)) (by decide)) | (exact absurd (hc.symm.trans (by assumption : _ = true)) (by decide))) | skip)))
      | (first | refine JC.seq ?_ | refine JC.region ?_ | refine JC.block ?_ | refine JC.ret ?_ | refine JC.exit ?_ | refine JC.skip ?_ | refine thenK.nn ?_ | refine thenK.x ?_ | refine blockK.nn ?_ | refine blockK.hit rfl ?_ | refine JC.condT rfl ?_ | refine JC.condF rfl ?_ | refine loopK.x ?_)
      | (fail)
      | fail
    refine J.isJ ?_
    refine J.fc 94 ?_
    refine J.callx eOr rfl rfl (fun w hw => Or_any ad2.ok yb ad2.lt ya ba (by omega) hw) ?_
    rintro _ _ ⟨s3, yc, rfl, rfl, ad3, hf3⟩
    have hfc : ∀ α, fn 4 s3.ns yc α = gW (pl 1) (pl 2) (pl 3) (pl 4) α := fun α => by
      rw [hf3 α]
      show Bool.or (fn 4 s2.ns yb α) (fn 4 s2.ns ya α) = _
      rw [hf2 α, fn_ext ad1.ok.wf ad2.ext ad1.lt, hf1 α]
      show Bool.or (fn 4 s1.ns y4 α && fn 4 s1.ns y3 α) (fn 4 s.ns y1 α && fn 4 s.ns y2 α) = _
      rw [fn_ext so.wf ad1.ext a4, fn_ext so.wf ad1.ext a3, f1, f2, f3, f4]; rfl
    have htab := tab_fn hfc
    have cT := fun w => text_any 7 (by omega) (by omega) w
    rw [seven] at cT
    have hval : ∀ x : Nat × Nat, fn 4 s3.ns yc (asgS order x) = gW 1 2 3 4 (fun j => hasB x (j : Int)) := fun x => by
      rw [hfc]
      unfold gW asgS
      rw [hget 1 (by omega) (by omega), hget 2 (by omega) (by omega), hget 3 (by omega) (by omega), hget 4 (by omega) (by omega)]
    have cE : ∀ (x : Nat × Nat), okS x → ∀ L1 w1, H w h L1 w1 → Rd h L1 b0 (stO K s3.an s3.ns.length s3.cn) → RdH h L1 s3.hN → RdH h L1 hO → Calls Try.prog 34 #[.pointer (some ⟨b0, 0, none⟩), .int .i64 (yc : Int), sv x] w1 fun e w' => e = .returned (.bool (gW 1 2 3 4 (fun j => hasB x (j : Int)))) ∧ Below w1.heap.size w1 w' := fun x hx L1 w1 hw hb hn ho => by
      rw [← hval x]
      exact Eval_any ad3.ok po b0 yc ad3.lt x hx w1 (holds2 (hw.rd hb) ((hw.rdH hn).append (hw.rdH ho)))
    have v12 : gW 1 2 3 4 (fun j => hasB (12, 0) (j : Int)) = true := by decide
    have v5 : gW 1 2 3 4 (fun j => hasB (5, 0) (j : Int)) = false := by decide
    have c12 := cE (12, 0) ⟨by decide, by decide⟩
    have c5 := cE (5, 0) ⟨by decide, by decide⟩
    rw [v12] at c12
    rw [v5] at c5
    have hcnt := tab_count ad3.ok.wf ad3.lt
    rw [htab, hct] at hcnt
    have so3 := ad3.ok
    have lt3 := ad3.lt
    unfold sF
    simp only [List.cons_append, List.nil_append]
    repeat' first
      | (refine J.isJ ?_; first | (first | (refine J.fc 20 ?_; refine J.callx eSize rfl rfl (fun w hw => Size_any so3 b0 yc lt3 Rd.hd RdH.hd.tl hw) ?_; rintro _ _ ⟨l, rfl, rfl, bel⟩; have hlw : l.length = want := (size_eq so3.wf lt3 bel.nodup bel.mem).trans (htab ▸ hsz)) | (refine J.fc 30 ?_; refine J.callx eCountS rfl rfl (fun w hw => Count_any so3 b0 yc lt3 Rd.hd RdH.hd.tl hw) ?_; rintro _ _ ⟨rfl, rfl⟩; rw [hcnt]; unfold natV) | (refine J.o 7 ?_; refine J.al hΓ (fun b17 => ?_)) | (refine J.fc 33 ?_; refine J.call0 eText rfl rfl (fun w hw => cT w) ?_) | (refine J.o 11 ?_; refine J.eS ?_) | (refine J.fc 34 ?_; refine J.call0 eEvalS rfl rfl (fun w hw => c12 _ w hw Rd.hd.tl RdH.hd.tl.tl RdH.hd.tl.tl.tl.tl.tl) ?_) | (refine J.fc 34 ?_; refine J.call0 eEvalS rfl rfl (fun w hw => c5 _ w hw Rd.hd.tl RdH.hd.tl.tl RdH.hd.tl.tl.tl.tl.tl) ?_)) | (first | (refine J.o 0 ?_; refine J.ev' hΓ ?_) | refine J.nil ?_ | (refine J.o 4 ?_; first | refine J.lR hΓ ?_) | (refine J.o 3 ?_; first | refine J.iA hΓ ?_ | refine J.ev' hΓ ?_) | (refine J.o 1 ?_; first | refine J.ad ?_) | (refine J.o 5 ?_; first | refine J.t0 hΓ ?_) | (refine J.o 7 ?_; refine J.al hΓ (fun _ => ?_)) | (refine J.o 8 ?_; refine J.bd hΓ ?_) | (refine J.o 10 ?_; refine J.ev' hΓ ?_) | (refine J.o 11 ?_; refine J.ev' hΓ ?_)) | ((fail_if_success refine J.wt ?_); refine J.gc rfl rfl (fun hc => ?_) (fun hc => ?_) <;> ((try simp only [decide_eq_true_eq, decide_eq_false_iff_not, beq_iff_eq, beq_eq_false_iff_ne, bne_iff_ne, bne_eq_false_iff_eq, Bool.not_eq_true', Bool.not_eq_false', Bool.not_eq_true, Bool.not_eq_false] at hc) <;> first | (first | (exact absurd rfl hc) | (exfalso; omega) | (exact absurd (hc.symm.trans (by assumption : _ = false)) (by decide)) | (exact absurd (hc.symm.trans (by assumption : _ = true)) (by decide))) | skip)))
      | (first | refine JC.seq ?_ | refine JC.region ?_ | refine JC.block ?_ | refine JC.ret ?_ | refine JC.exit ?_ | refine JC.skip ?_ | refine thenK.nn ?_ | refine thenK.x ?_ | refine blockK.nn ?_ | refine blockK.hit rfl ?_ | refine JC.condT rfl ?_ | refine JC.condF rfl ?_ | refine loopK.x ?_)
      | (fail)
      | fail
    all_goals first | (exfalso; omega) | skip
    refine ret1f rfl rfl rfl (fun w1 hw => ⟨rfl, hw.below⟩)
  ·
    repeat' first
      | (refine J.isJ ?_; first | (first | (refine J.fc 26 ?_; refine J.callx eVarS rfl rfl (fun w hw => Var_any so po (1 : Int) (by omega) (pl 1) (hrk 1 (by omega) (by omega)) (by omega) (L := [_]) (H.sel (l := [_, _, _, _, _, _, _]) (M := []) hw [1, 2, 3, 4, 5, 6, 0])) ?_; rintro _ _ ⟨s1, y1, rfl, rfl, ad1, hf1⟩; unfold sF; simp only [List.cons_append, List.nil_append]) | (refine J.o 5 ?_; first | (refine J.perm br3 ?_; refine J.t0 hΓ ?_) | (refine J.perm br4 ?_; refine J.t0 hΓ ?_) | (refine J.perm br5 ?_; refine J.t0 hΓ ?_) | (refine J.perm br6 ?_; refine J.t0 hΓ ?_) | (refine J.perm br7 ?_; refine J.t0 hΓ ?_))) | (first | (refine J.o 0 ?_; refine J.ev' hΓ ?_) | refine J.nil ?_ | (refine J.o 4 ?_; first | refine J.lR hΓ ?_) | (refine J.o 3 ?_; first | refine J.iA hΓ ?_ | refine J.ev' hΓ ?_) | (refine J.o 1 ?_; first | refine J.ad ?_) | (refine J.o 5 ?_; first | refine J.t0 hΓ ?_) | (refine J.o 7 ?_; refine J.al hΓ (fun _ => ?_)) | (refine J.o 8 ?_; refine J.bd hΓ ?_) | (refine J.o 10 ?_; refine J.ev' hΓ ?_) | (refine J.o 11 ?_; refine J.ev' hΓ ?_)) | ((fail_if_success refine J.wt ?_); refine J.gc rfl rfl (fun hc => ?_) (fun hc => ?_) <;> ((try simp only [decide_eq_true_eq, decide_eq_false_iff_not, beq_iff_eq, beq_eq_false_iff_ne, bne_iff_ne, bne_eq_false_iff_eq, Bool.not_eq_true', Bool.not_eq_false', Bool.not_eq_true, Bool.not_eq_false] at hc) <;> first | (first | (exact absurd rfl hc) | (exfalso; omega) | (exact absurd (hc.symm.trans (by assumption : _ = false)) (by decide)) | (exact absurd (hc.symm.trans (by assumption : _ = true)) (by decide))) | skip)))
      | (first | refine JC.seq ?_ | refine JC.region ?_ | refine JC.block ?_ | refine JC.ret ?_ | refine JC.exit ?_ | refine JC.skip ?_ | refine thenK.nn ?_ | refine thenK.x ?_ | refine blockK.nn ?_ | refine blockK.hit rfl ?_ | refine JC.condT rfl ?_ | refine JC.condF rfl ?_ | refine loopK.x ?_)
      | (fail)
      | fail
    all_goals first | (exfalso; omega) | skip
    have l1 := ad1.le
    refine loopK.nn (m1 - 1) (by omega) (by repeat (first | refine Ag.upd rfl ?_ | exact Ag.hv)) ⟨1 + 1, s1, fun j => if j = 1 then y1 else Y j, rfl, by omega, by omega, ad1.ok, by omega, fun j h1 h2 => ?_, fun j h1 => ?_, rfl⟩
    · show (if j = 1 then y1 else Y j) < s1.ns.length ∧ ∀ α, fn 4 s1.ns (if j = 1 then y1 else Y j) α = α (pl j)
      by_cases hj : j = 1
      · rw [if_pos hj, hj]; exact ⟨ad1.lt, hf1⟩
      · rw [if_neg hj]
        obtain ⟨g1, g2⟩ := hY j h1 (by omega)
        exact ⟨Nat.lt_of_lt_of_le g1 ad1.ext.le, fun α => by rw [fn_ext so.wf ad1.ext g1]; exact g2 α⟩
    · show (if j = 1 then y1 else Y j) = 0
      rw [if_neg (by omega)]; exact hY0 j (by omega)
  ·
    repeat' first
      | (refine J.isJ ?_; first | (first | (refine J.fc 26 ?_; refine J.callx eVarS rfl rfl (fun w hw => Var_any so po (2 : Int) (by omega) (pl 2) (hrk 2 (by omega) (by omega)) (by omega) (L := [_]) (H.sel (l := [_, _, _, _, _, _, _]) (M := []) hw [1, 2, 3, 4, 5, 6, 0])) ?_; rintro _ _ ⟨s1, y1, rfl, rfl, ad1, hf1⟩; unfold sF; simp only [List.cons_append, List.nil_append]) | (refine J.o 5 ?_; first | (refine J.perm br3 ?_; refine J.t0 hΓ ?_) | (refine J.perm br4 ?_; refine J.t0 hΓ ?_) | (refine J.perm br5 ?_; refine J.t0 hΓ ?_) | (refine J.perm br6 ?_; refine J.t0 hΓ ?_) | (refine J.perm br7 ?_; refine J.t0 hΓ ?_))) | (first | (refine J.o 0 ?_; refine J.ev' hΓ ?_) | refine J.nil ?_ | (refine J.o 4 ?_; first | refine J.lR hΓ ?_) | (refine J.o 3 ?_; first | refine J.iA hΓ ?_ | refine J.ev' hΓ ?_) | (refine J.o 1 ?_; first | refine J.ad ?_) | (refine J.o 5 ?_; first | refine J.t0 hΓ ?_) | (refine J.o 7 ?_; refine J.al hΓ (fun _ => ?_)) | (refine J.o 8 ?_; refine J.bd hΓ ?_) | (refine J.o 10 ?_; refine J.ev' hΓ ?_) | (refine J.o 11 ?_; refine J.ev' hΓ ?_)) | ((fail_if_success refine J.wt ?_); refine J.gc rfl rfl (fun hc => ?_) (fun hc => ?_) <;> ((try simp only [decide_eq_true_eq, decide_eq_false_iff_not, beq_iff_eq, beq_eq_false_iff_ne, bne_iff_ne, bne_eq_false_iff_eq, Bool.not_eq_true', Bool.not_eq_false', Bool.not_eq_true, Bool.not_eq_false] at hc) <;> first | (first | (exact absurd rfl hc) | (exfalso; omega) | (exact absurd (hc.symm.trans (by assumption : _ = false)) (by decide)) | (exact absurd (hc.symm.trans (by assumption : _ = true)) (by decide))) | skip)))
      | (first | refine JC.seq ?_ | refine JC.region ?_ | refine JC.block ?_ | refine JC.ret ?_ | refine JC.exit ?_ | refine JC.skip ?_ | refine thenK.nn ?_ | refine thenK.x ?_ | refine blockK.nn ?_ | refine blockK.hit rfl ?_ | refine JC.condT rfl ?_ | refine JC.condF rfl ?_ | refine loopK.x ?_)
      | (fail)
      | fail
    all_goals first | (exfalso; omega) | skip
    have l1 := ad1.le
    refine loopK.nn (m1 - 1) (by omega) (by repeat (first | refine Ag.upd rfl ?_ | exact Ag.hv)) ⟨2 + 1, s1, fun j => if j = 2 then y1 else Y j, rfl, by omega, by omega, ad1.ok, by omega, fun j h1 h2 => ?_, fun j h1 => ?_, rfl⟩
    · show (if j = 2 then y1 else Y j) < s1.ns.length ∧ ∀ α, fn 4 s1.ns (if j = 2 then y1 else Y j) α = α (pl j)
      by_cases hj : j = 2
      · rw [if_pos hj, hj]; exact ⟨ad1.lt, hf1⟩
      · rw [if_neg hj]
        obtain ⟨g1, g2⟩ := hY j h1 (by omega)
        exact ⟨Nat.lt_of_lt_of_le g1 ad1.ext.le, fun α => by rw [fn_ext so.wf ad1.ext g1]; exact g2 α⟩
    · show (if j = 2 then y1 else Y j) = 0
      rw [if_neg (by omega)]; exact hY0 j (by omega)
  ·
    repeat' first
      | (refine J.isJ ?_; first | (first | (refine J.fc 26 ?_; refine J.callx eVarS rfl rfl (fun w hw => Var_any so po (3 : Int) (by omega) (pl 3) (hrk 3 (by omega) (by omega)) (by omega) (L := [_]) (H.sel (l := [_, _, _, _, _, _, _]) (M := []) hw [1, 2, 3, 4, 5, 6, 0])) ?_; rintro _ _ ⟨s1, y1, rfl, rfl, ad1, hf1⟩; unfold sF; simp only [List.cons_append, List.nil_append]) | (refine J.o 5 ?_; first | (refine J.perm br3 ?_; refine J.t0 hΓ ?_) | (refine J.perm br4 ?_; refine J.t0 hΓ ?_) | (refine J.perm br5 ?_; refine J.t0 hΓ ?_) | (refine J.perm br6 ?_; refine J.t0 hΓ ?_) | (refine J.perm br7 ?_; refine J.t0 hΓ ?_))) | (first | (refine J.o 0 ?_; refine J.ev' hΓ ?_) | refine J.nil ?_ | (refine J.o 4 ?_; first | refine J.lR hΓ ?_) | (refine J.o 3 ?_; first | refine J.iA hΓ ?_ | refine J.ev' hΓ ?_) | (refine J.o 1 ?_; first | refine J.ad ?_) | (refine J.o 5 ?_; first | refine J.t0 hΓ ?_) | (refine J.o 7 ?_; refine J.al hΓ (fun _ => ?_)) | (refine J.o 8 ?_; refine J.bd hΓ ?_) | (refine J.o 10 ?_; refine J.ev' hΓ ?_) | (refine J.o 11 ?_; refine J.ev' hΓ ?_)) | ((fail_if_success refine J.wt ?_); refine J.gc rfl rfl (fun hc => ?_) (fun hc => ?_) <;> ((try simp only [decide_eq_true_eq, decide_eq_false_iff_not, beq_iff_eq, beq_eq_false_iff_ne, bne_iff_ne, bne_eq_false_iff_eq, Bool.not_eq_true', Bool.not_eq_false', Bool.not_eq_true, Bool.not_eq_false] at hc) <;> first | (first | (exact absurd rfl hc) | (exfalso; omega) | (exact absurd (hc.symm.trans (by assumption : _ = false)) (by decide)) | (exact absurd (hc.symm.trans (by assumption : _ = true)) (by decide))) | skip)))
      | (first | refine JC.seq ?_ | refine JC.region ?_ | refine JC.block ?_ | refine JC.ret ?_ | refine JC.exit ?_ | refine JC.skip ?_ | refine thenK.nn ?_ | refine thenK.x ?_ | refine blockK.nn ?_ | refine blockK.hit rfl ?_ | refine JC.condT rfl ?_ | refine JC.condF rfl ?_ | refine loopK.x ?_)
      | (fail)
      | fail
    all_goals first | (exfalso; omega) | skip
    have l1 := ad1.le
    refine loopK.nn (m1 - 1) (by omega) (by repeat (first | refine Ag.upd rfl ?_ | exact Ag.hv)) ⟨3 + 1, s1, fun j => if j = 3 then y1 else Y j, rfl, by omega, by omega, ad1.ok, by omega, fun j h1 h2 => ?_, fun j h1 => ?_, rfl⟩
    · show (if j = 3 then y1 else Y j) < s1.ns.length ∧ ∀ α, fn 4 s1.ns (if j = 3 then y1 else Y j) α = α (pl j)
      by_cases hj : j = 3
      · rw [if_pos hj, hj]; exact ⟨ad1.lt, hf1⟩
      · rw [if_neg hj]
        obtain ⟨g1, g2⟩ := hY j h1 (by omega)
        exact ⟨Nat.lt_of_lt_of_le g1 ad1.ext.le, fun α => by rw [fn_ext so.wf ad1.ext g1]; exact g2 α⟩
    · show (if j = 3 then y1 else Y j) = 0
      rw [if_neg (by omega)]; exact hY0 j (by omega)
  ·
    repeat' first
      | (refine J.isJ ?_; first | (first | (refine J.fc 26 ?_; refine J.callx eVarS rfl rfl (fun w hw => Var_any so po (4 : Int) (by omega) (pl 4) (hrk 4 (by omega) (by omega)) (by omega) (L := [_]) (H.sel (l := [_, _, _, _, _, _, _]) (M := []) hw [1, 2, 3, 4, 5, 6, 0])) ?_; rintro _ _ ⟨s1, y1, rfl, rfl, ad1, hf1⟩; unfold sF; simp only [List.cons_append, List.nil_append]) | (refine J.o 5 ?_; first | (refine J.perm br3 ?_; refine J.t0 hΓ ?_) | (refine J.perm br4 ?_; refine J.t0 hΓ ?_) | (refine J.perm br5 ?_; refine J.t0 hΓ ?_) | (refine J.perm br6 ?_; refine J.t0 hΓ ?_) | (refine J.perm br7 ?_; refine J.t0 hΓ ?_))) | (first | (refine J.o 0 ?_; refine J.ev' hΓ ?_) | refine J.nil ?_ | (refine J.o 4 ?_; first | refine J.lR hΓ ?_) | (refine J.o 3 ?_; first | refine J.iA hΓ ?_ | refine J.ev' hΓ ?_) | (refine J.o 1 ?_; first | refine J.ad ?_) | (refine J.o 5 ?_; first | refine J.t0 hΓ ?_) | (refine J.o 7 ?_; refine J.al hΓ (fun _ => ?_)) | (refine J.o 8 ?_; refine J.bd hΓ ?_) | (refine J.o 10 ?_; refine J.ev' hΓ ?_) | (refine J.o 11 ?_; refine J.ev' hΓ ?_)) | ((fail_if_success refine J.wt ?_); refine J.gc rfl rfl (fun hc => ?_) (fun hc => ?_) <;> ((try simp only [decide_eq_true_eq, decide_eq_false_iff_not, beq_iff_eq, beq_eq_false_iff_ne, bne_iff_ne, bne_eq_false_iff_eq, Bool.not_eq_true', Bool.not_eq_false', Bool.not_eq_true, Bool.not_eq_false] at hc) <;> first | (first | (exact absurd rfl hc) | (exfalso; omega) | (exact absurd (hc.symm.trans (by assumption : _ = false)) (by decide)) | (exact absurd (hc.symm.trans (by assumption : _ = true)) (by decide))) | skip)))
      | (first | refine JC.seq ?_ | refine JC.region ?_ | refine JC.block ?_ | refine JC.ret ?_ | refine JC.exit ?_ | refine JC.skip ?_ | refine thenK.nn ?_ | refine thenK.x ?_ | refine blockK.nn ?_ | refine blockK.hit rfl ?_ | refine JC.condT rfl ?_ | refine JC.condF rfl ?_ | refine loopK.x ?_)
      | (fail)
      | fail
    all_goals first | (exfalso; omega) | skip
    have l1 := ad1.le
    refine loopK.nn (m1 - 1) (by omega) (by repeat (first | refine Ag.upd rfl ?_ | exact Ag.hv)) ⟨4 + 1, s1, fun j => if j = 4 then y1 else Y j, rfl, by omega, by omega, ad1.ok, by omega, fun j h1 h2 => ?_, fun j h1 => ?_, rfl⟩
    · show (if j = 4 then y1 else Y j) < s1.ns.length ∧ ∀ α, fn 4 s1.ns (if j = 4 then y1 else Y j) α = α (pl j)
      by_cases hj : j = 4
      · rw [if_pos hj, hj]; exact ⟨ad1.lt, hf1⟩
      · rw [if_neg hj]
        obtain ⟨g1, g2⟩ := hY j h1 (by omega)
        exact ⟨Nat.lt_of_lt_of_le g1 ad1.ext.le, fun α => by rw [fn_ext so.wf ad1.ext g1]; exact g2 α⟩
    · show (if j = 4 then y1 else Y j) = 0
      rw [if_neg (by omega)]; exact hY0 j (by omega)
def plA (j : Nat) : Nat := j - 1
def plB (j : Nat) : Nat := if j = 2 then 2 else if j = 3 then 1 else j - 1
theorem works_any (w : World) : Calls Try.prog 29 #[] w fun e w' => e = .returned (.bool true) ∧ Below w.heap.size w w' := by
  have cA := fun b w => sized_any [1, 2, 3, 4] (some ⟨b, 0, none⟩) 4 _ (slArg b [1, 2, 3, 4] 3) ⟨by decide, by decide⟩ rfl plA (fun j h1 h2 => by rcases (by omega : j = 1 ∨ j = 2 ∨ j = 3 ∨ j = 4) with rfl | rfl | rfl | rfl <;> rfl) 4 (by decide +kernel) (by decide +kernel) w
  have cB := fun b w => sized_any [1, 3, 2, 4] (some ⟨b, 0, none⟩) 4 _ (slArg b [1, 3, 2, 4] 3) ⟨by decide, by decide⟩ rfl plB (fun j h1 h2 => by rcases (by omega : j = 1 ∨ j = 2 ∨ j = 3 ∨ j = 4) with rfl | rfl | rfl | rfl <;> rfl) 6 (by decide +kernel) (by decide +kernel) w
  refine calls_of_JC (R := []) Try.func29 Try.ntmps29 rfl rfl (Holds.nil _) ?_
  repeat' first
    | (refine J.isJ ?_; first | (first | (refine J.o 9 ?_; refine J.bl hΓ (fun b1 => ?_)) | (refine J.fc 73 ?_; refine J.call0 eSized rfl rfl (fun w hw => cA _ w (hw.rdH RdH.hd)) ?_) | (refine J.fc 73 ?_; refine J.call0 eSized rfl rfl (fun w hw => cB _ w (hw.rdH RdH.hd)) ?_)) | (first | (refine J.o 0 ?_; refine J.ev' hΓ ?_) | refine J.nil ?_ | (refine J.o 3 ?_; first | refine J.ev' hΓ ?_) | (refine J.o 9 ?_; refine J.bl hΓ (fun _ => ?_)) | (refine J.o 10 ?_; refine J.ev' hΓ ?_) | (refine J.o 11 ?_; refine J.ev' hΓ ?_)))
    | (first | refine JC.seq ?_ | refine JC.region ?_ | refine JC.ret ?_ | refine thenK.nn ?_)
    | fail
  all_goals first | (exfalso; omega) | skip
  all_goals (refine ret1f rfl rfl rfl (fun w1 hw => ⟨rfl, hw.below⟩))
end Go.Proofs.Ytbhgahjeocnfcaa
