/- m[x]++ of a map of the call's own; censusref05: Eval, Models; EncodeOne. -/
import Derived.Test.YtinpcimogojefaaMd
import Derived.Test.YtinpcimogojefaaKs
import Derived.WideKeyEntry
import Derived.DeepKeys4
namespace Go.Proofs.Ytinpcimogojefaa
open Go Go.Cx Go.RowKit Go.Maps
set_option linter.unusedVariables false
set_option linter.unusedSimpArgs false
set_option maxHeartbeats 4000000
/-- a map's block, an entry of it to be stored yet -/
def PendT {κ β : Type} [DecidableEq κ] (P : Program) (t k : TypeId) (ek : κ → Value) (ev : β → Value) (z : Value) (m : List (κ × β)) (x : κ) (b st : Nat) (h1 : Heap) : Prop :=
  (∃ mm1, MapT P k ek ev mm1 b h1 ∧ ∀ z0 : β, z = ev z0 → (mget mm1 x).getD z0 = (mget m x).getD z0) ∧ ∃ es1 clock1, h1 = [(b, .map es1 clock1)] ∧ ∀ (w2 : World) (y : β), w2.heap[b]? = some (.map es1 clock1) → ∃ es' clock', (Instr.entryStore t (.map (some b)) (goInt st) (ev y)).run P w2 = .ok () { w2 with heap := w2.heap.setIfInBounds b (.map es' clock') } ∧ MapT P k ek ev (mput m x y) b [(b, .map es' clock')]
theorem store_run {P : Program} {t : TypeId} {w2 : World} {b clk st i : Nat} {A B : Array MapEntry} {v : Value} (hb : w2.heap[b]? = some (.map A clk)) (hidx : A.findIdx? (fun e => ((e.born : Nat) : Int) == ((st : Nat) : Int)) = some i) (hmod : A.modify i (fun e => { e with val := v }) = B) :
    (Instr.entryStore t (.map (some b)) (goInt st) v).run P w2 = .ok () { w2 with heap := w2.heap.setIfInBounds b (.map B clk) } := by
  simp [Instr.entryStore, MapKept.run_getObj_map hb, asInt, asIntOf, goInt, hidx, hmod, MapKept.run_setObj_map _ hb, Result.andThen]
theorem entry_run {P : Program} {t k e : TypeId} {w : World} {b clk j : Nat} {A : Array MapEntry} {x v : Value} {l : Lit} {e0 : MapEntry} (K : Keyed P k) (ht : P.underlying t = some (.map k e)) (hl : keyOf P k x = some l) (hb : w.heap[b]? = some (.map A clk)) (h1 : (Instr.findKey k x A.toList).run P w = .ok (some (j, v)) w) (hj : A[j]? = some e0) (hkj : e0.key = x) (hsame : A.modify j (fun e => { e with key := x }) = A) :
    (Instr.mapEntry t (.map (some b)) x).run P w = .ok (.tuple #[v, goInt e0.born]) { w with heap := w.heap.setIfInBounds b (.map A clk) } := by
  simp [Instr.mapEntry, run_underlying ht, MapKept.run_getObj_map hb, K.check w false hl, h1, hj, hkj, K.stays w hl, hsame, MapKept.run_setObj_map _ hb, Result.andThen]
section
variable {κ β : Type} [DecidableEq κ] {P : Program} {k : TypeId} {ek : κ → Value} {ev : β → Value}
theorem MapT.entry {m : List (κ × β)} {b : Nat} {h : Heap} {t e : TypeId} {w0 w : World} {R : Heap} {L : List Heap} {z : Value} (K : Keyed P k) (inj : ∀ x y, ek x = ek y → x = y) (mt : MapT P k ek ev m b h) (ht : P.underlying t = some (.map k e)) (x : κ) (hx : ∃ l, keyOf P k (ek x) = some l) (z0 : β) (hz0 : z = ev z0) (evi : ∀ x y, ev x = ev y → x = y) (hz : ∀ u : World, (zeroValue e).run P u = .ok z u) (hw : H w0 R (h :: L) w) :
    ∃ (v0 : Value) (st : Nat) (h1 : Heap) (w1 : World), (Instr.mapEntry t (.map (some b)) (ek x)).run P w = .ok (.tuple #[v0, goInt st]) w1 ∧ H w0 R (h1 :: L) w1 ∧ PendT P t k ek ev z m x b st h1 := by
  obtain ⟨es, clock, he, hrow, hst⟩ := mt.row
  have hb : w.heap[b]? = some (.map ⟨es⟩ clock) := hw.rd (Rd.fr (by rw [he]; simp))
  have hlt : b < w.heap.size := (Array.getElem?_eq_some_iff.1 hb).1
  have hupd : ∀ y es' clock', (Instr.mapUpdate t (.map (some b)) (ek x) (ev y)).run P w = .ok () { w with heap := w.heap.setIfInBounds b (.map es' clock') } → MapT P k ek ev (mput m x y) b [(b, .map es' clock')] := fun y es' clock' hr => by
    obtain ⟨w', h', hr', hH, mt'⟩ := mt.update K inj ht x hx y hw
    rw [hr] at hr'
    have hwe : { w with heap := w.heap.setIfInBounds b (.map es' clock') } = w' := by injection hr'
    obtain ⟨es2, c2, e2, _, _⟩ := mt'.row
    have hb2 : w'.heap[b]? = some (.map ⟨es2⟩ c2) := hH.rd (Rd.fr (by rw [e2]; simp))
    rw [← hwe] at hb2
    have hb3 : (w.heap.setIfInBounds b (.map es' clock'))[b]? = some (.map ⟨es2⟩ c2) := hb2
    rw [Array.getElem?_setIfInBounds, if_pos rfl, if_pos hlt] at hb3
    have h4 := Option.some.inj hb3
    rw [h4, ← e2]
    exact mt'
  have hwr : ∀ o', H w0 R ([(b, o')] :: L) { w with heap := w.heap.setIfInBounds b o' } := fun o' => by
    rw [he] at hw
    exact hw.write rfl rfl rfl (by simp) (by simp [hlt]) (fun j hj => by simp [Array.getElem?_setIfInBounds, Ne.symm hj])
  obtain ⟨l, hl⟩ := hx
  obtain ⟨s1, s2, _⟩ := hst
  rcases mt.find K inj x ⟨l, hl⟩ he w with ⟨h1, h2⟩ | ⟨j, y0, h1, h2, h3⟩
  · have hrun : (Instr.mapEntry t (.map (some b)) (ek x)).run P w = .ok (.tuple #[z, goInt clock]) { w with heap := w.heap.setIfInBounds b (.map (Array.push ⟨es⟩ ⟨ek x, z, clock⟩) (clock + 1)) } := by
      simp [Instr.mapEntry, run_underlying ht, MapKept.run_getObj_map hb, K.check w false hl, h1, hz, MapKept.run_setObj_map _ hb, Result.andThen]
    have hpush : ∀ y : β, MapT P k ek ev (mput m x y) b [(b, .map (Array.push ⟨es⟩ ⟨ek x, ev y, clock⟩) (clock + 1))] := fun y => hupd y _ _ (by
      simp [Instr.mapUpdate, run_underlying ht, MapKept.run_getObj_map hb, K.check w _ hl, h1, MapKept.run_setObj_map _ hb, Result.andThen])
    have hp0 := hpush z0
    rw [← hz0] at hp0
    refine ⟨_, _, _, _, hrun, hwr _, ⟨_, hp0, fun z1 hz1 => ?_⟩, _, _, rfl, fun w2 y hw2 => ⟨Array.push ⟨es⟩ ⟨ek x, ev y, clock⟩, clock + 1, ?_, hpush y⟩⟩
    · rw [mget_mput, if_pos rfl, h2]
      exact evi _ _ (hz0.symm.trans hz1)
    · have hidx : (Array.push ⟨es⟩ ⟨ek x, z, clock⟩ : Array MapEntry).findIdx? (fun e => ((e.born : Nat) : Int) == ((clock : Nat) : Int)) = some es.length := by
        rw [WideElems.findIdx_arr]
        exact WideElems.findIdx_born (l := (Array.push ⟨es⟩ ⟨ek x, z, clock⟩ : Array MapEntry).toList) (j := es.length) (e0 := ⟨ek x, z, clock⟩) (by
          simp only [Array.toList_push, List.map_append, List.map_cons, List.map_nil]
          refine List.nodup_append.2 ⟨s2, by simp, fun a ha c hc e1 => ?_⟩
          simp only [List.mem_singleton] at hc
          obtain ⟨x, hx, rfl⟩ := List.mem_map.1 ha
          have := s1 x hx
          omega) (by simp)
      have hmod : (Array.push ⟨es⟩ ⟨ek x, z, clock⟩ : Array MapEntry).modify es.length (fun e => { e with val := ev y }) = Array.push ⟨es⟩ ⟨ek x, ev y, clock⟩ := by
        apply Array.ext'
        rw [Array.toList_modify, Array.toList_push, Array.toList_push]
        exact WideElems.modify_last _ _ _
      exact store_run hw2 hidx hmod
  · have hjl : j < es.length := by
      have h4 : (m.map (fun p => (ek p.1, ev p.2)))[j]? = some (ek x, ev y0) := by rw [List.getElem?_map, h3]; rfl
      rw [← hrow, List.getElem?_map] at h4
      rcases Nat.lt_or_ge j es.length with h | h
      · exact h
      · rw [List.getElem?_eq_none h] at h4; cases h4
    have hkj : es[j].key = ek x := by
      have h4 : (m.map (fun p => (ek p.1, ev p.2)))[j]? = some (ek x, ev y0) := by rw [List.getElem?_map, h3]; rfl
      rw [← hrow, List.getElem?_map, List.getElem?_eq_getElem hjl] at h4
      simp at h4
      exact h4.1
    have h2e : es[j]? = some es[j] := List.getElem?_eq_getElem hjl
    have hsame : (⟨es⟩ : Array MapEntry).modify j (fun e => { e with key := ek x }) = ⟨es⟩ := by
      apply Array.ext'
      rw [Array.toList_modify, ChangeMaps.modify_eq_set _ _ _ _ h2e]
      have : ({ es[j] with key := ek x } : MapEntry) = es[j] := by rw [← hkj]
      rw [this]
      exact WideElems.set_self _ _ _ h2e
    have hrun : (Instr.mapEntry t (.map (some b)) (ek x)).run P w = .ok (.tuple #[ev y0, goInt es[j].born]) { w with heap := w.heap.setIfInBounds b (.map ⟨es⟩ clock) } := entry_run K ht hl hb h1 (by simp [hjl]) hkj hsame
    refine ⟨_, _, _, _, hrun, hwr _, ⟨m, he ▸ mt, fun _ _ => rfl⟩, _, _, rfl, fun w2 y hw2 => ⟨(⟨es⟩ : Array MapEntry).modify j (fun e' => { e' with key := ek x, val := ev y }), clock, ?_, hupd y _ _ ?_⟩⟩
    · have hidx : (⟨es⟩ : Array MapEntry).findIdx? (fun e => ((e.born : Nat) : Int) == ((es[j].born : Nat) : Int)) = some j := by
        rw [WideElems.findIdx_arr]
        exact WideElems.findIdx_born s2 h2e
      have hmod : (⟨es⟩ : Array MapEntry).modify j (fun e => { e with val := ev y }) = (⟨es⟩ : Array MapEntry).modify j (fun e' => { e' with key := ek x, val := ev y }) := by
        apply Array.ext'
        rw [Array.toList_modify, Array.toList_modify, ChangeMaps.modify_eq_set _ _ _ _ h2e, ChangeMaps.modify_eq_set _ _ _ _ h2e, ← hkj]
      exact store_run hw2 hidx hmod
    · simp [Instr.mapUpdate, run_underlying ht, MapKept.run_getObj_map hb, K.check w _ hl, h1, hjl, hkj, K.stays w hl, MapKept.run_setObj_map _ hb, Result.andThen]
end
section
variable {P : Program} {n : Nat} {w0 : World} {R : Heap} {K0 : Exit → Fr → List Heap → Prop} {f : Fr} {L : List Heap} {l0 : List Oper} {rest : List (Nat × Oper)} {q : Nat}
variable {Γ : List (Nat × TI)} {d : Nat} {ty : TypeId} {pos : String} {aft : Array Edge} {g : Option (Nat × Bool)}
variable {κ β : Type} [DecidableEq κ] {kt e : TypeId} {ek : κ → Value} {ev : β → Value}
/-- the entry of m[x] op= y; the map's fragment lies first -/
theorem J.men {t : TypeId} {m x : Operand} {mm : List (κ × β)} {b : Nat} {h : Heap} {a : κ} {s1 b1 s2 b2 : Nat} {z1 : Option Value} {z : Value} {de : TypeDesc} (z0 : β) (evi : ∀ x y, ev x = ev y → x = y) (K : Keyed P kt) (inj : ∀ x y, ek x = ek y → x = y) (mt : MapT P kt ek ev mm b h) (hkey : ∃ l, keyOf P kt (ek a) = some l) (hΓ : Fits P Γ)
    (k : ∀ v0 st h1, PendT P t kt ek ev z mm a b st h1 → J P n w0 R l0 K0 rest (upd f d (.tuple #[v0, .int .i64 (st : Int)])) (h1 :: L))
    (hg : wantB n f l0 ⟨some d, .mapEntry t m x, ty, pos, aft, g⟩ = true := by exact rfl) (hm : Cx.ev n f m = .map (some b) := by exact rfl) (hx : Cx.ev n f x = ek a := by exact rfl) (ht : Go.Cx.look Γ t = some ⟨.map kt e, s1, z1, b1⟩ := by exact rfl) (he : Go.Cx.look Γ e = some ⟨de, s2, some z, b2⟩ := by exact rfl) (hz0 : z = ev z0 := by exact rfl) :
    J P n w0 R l0 K0 ((2, ⟨some d, .mapEntry t m x, ty, pos, aft, g⟩) :: rest) f (h :: L) := fun ac ha w hC => by
  have hw : Region.wanted (⟨some d, .mapEntry t m x, ty, pos, aft, g⟩ : Oper) (yielded l0.toArray ac.tmps) = true := by rw [ha.wanted, hg]
  obtain ⟨_, ie, hie, _, hze, _⟩ := hΓ e _ he
  have hzr : ∀ w, (zeroValue e).run P w = .ok z w := fun w => by simp [zeroValue, typeInfo, hie, hze, go_sem]
  obtain ⟨v0, st, h1, w1, hrun, hH, hp⟩ := MapT.entry K inj mt (hΓ t _ ht).1 a hkey z0 hz0 evi hzr hC
  unfold lop
  rw [if_pos hw]
  unfold Oper.wp
  rw [ha.eval]
  simp only [execOp, hm, hx, Sem.run_bind, hrun]
  exact ⟨_, fun h => absurd rfl h, hH, k v0 st h1 hp _ (ha.put (some d) _)⟩
/-- .. stored; the map's fragment lies first -/
theorem J.est {t : TypeId} {m s v : Operand} {mm : List (κ × β)} {b st : Nat} {h1 : Heap} {a : κ} {z : Value} (y : β) (hp : PendT P t kt ek ev z mm a b st h1)
    (k : ∀ h', MapT P kt ek ev (mput mm a y) b h' → J P n w0 R l0 K0 rest f (h' :: L))
    (hg : wantB n f l0 ⟨none, .entryStore t m s v, ty, pos, aft, g⟩ = true := by exact rfl) (hm : Cx.ev n f m = .map (some b) := by exact rfl) (hs : Cx.ev n f s = .int .i64 (st : Int) := by exact rfl) (hv : Cx.ev n f v = ev y := by exact rfl) :
    J P n w0 R l0 K0 ((2, ⟨none, .entryStore t m s v, ty, pos, aft, g⟩) :: rest) f (h1 :: L) := fun ac ha w hC => by
  have hw : Region.wanted (⟨none, .entryStore t m s v, ty, pos, aft, g⟩ : Oper) (yielded l0.toArray ac.tmps) = true := by rw [ha.wanted, hg]
  obtain ⟨_, es1, clock1, rfl, hst⟩ := hp
  have hb : w.heap[b]? = some (.map es1 clock1) := hC.rd (Rd.fr (by simp))
  have hlt : b < w.heap.size := (Array.getElem?_eq_some_iff.1 hb).1
  obtain ⟨es', clock', hrun, mt'⟩ := hst w y hb
  have hH : H w0 R ([(b, .map es' clock')] :: L) { w with heap := w.heap.setIfInBounds b (.map es' clock') } := hC.write rfl rfl rfl (by simp) (by simp [hlt]) (fun j hj => by simp [Array.getElem?_setIfInBounds, Ne.symm hj])
  unfold lop
  rw [if_pos hw]
  unfold Oper.wp
  rw [ha.eval]
  have hrun2 : (Instr.entryStore t (.map (some b)) (.int .i64 (st : Int)) (ev y)).run P w = .ok () { w with heap := w.heap.setIfInBounds b (.map es' clock') } := hrun
  simp only [execOp, hm, hs, hv, Sem.run_bind, hrun2]
  exact ⟨_, fun h => absurd rfl h, hH, k _ mt' _ (ha.put none undef)⟩
/-- m[x] of a map to numbers -/
theorem J.lkI {t : TypeId} {m x : Operand} {mm : List (κ × Int)} {b : Nat} {h : Heap} {a : κ} {s1 s2 b1 b2 : Nat} {z1 : Option Value} {de : TypeDesc} (c : Int) (K : Keyed P kt) (inj : ∀ x y, ek x = ek y → x = y) (mt : MapT P kt ek evI mm b h) (hr : RdH R L h) (hkey : ∃ l, keyOf P kt (ek a) = some l) (hΓ : Fits P Γ) (hget : (mget mm a).getD 0 = c)
    (k : J P n w0 R l0 K0 rest (upd f d (.int .i64 c)) L)
    (hg : wantB n f l0 ⟨some d, .lookup t m x false, ty, pos, aft, g⟩ = true := by exact rfl) (hm : Cx.ev n f m = .map (some b) := by exact rfl) (hx : Cx.ev n f x = ek a := by exact rfl) (ht : Go.Cx.look Γ t = some ⟨.map kt e, s1, z1, b1⟩ := by exact rfl) (he : Go.Cx.look Γ e = some ⟨de, s2, some (.int .i64 0), b2⟩ := by exact rfl) :
    J P n w0 R l0 K0 ((q + 1, ⟨some d, .lookup t m x false, ty, pos, aft, g⟩) :: rest) f L := by
  refine J.lk K inj mt hr hkey hΓ ?_ hg hm hx ht he
  subst hget
  cases hmm : mget mm a with
  | some y => rw [hmm] at k; exact k
  | none => rw [hmm] at k; exact k
end
theorem laidOutM : laidOutB Try.prog = true := by kernel_rfl
theorem set_keyed : Keyed Try.prog 52 := Keyed.of_law (deep_law_laid laidOutM (m := 2) (by omega) (by decide +kernel) (by kernel_rfl) (by rw [Try.underlying52]))
theorem sv_inj (a b : Nat × Nat) (h : sv a = sv b) : a = b := by
  unfold sv at h
  injection h with h
  injection h with h
  injection h with h1 h2
  injection h2 with h3 h4
  injection h1 with _ h5
  injection h3 with _ h6
  exact Prod.ext (by omega) (by omega)
theorem set_key (a : Nat × Nat) (h : okS a) : ∃ l, keyOf Try.prog 52 (sv a) = some l := by
  obtain ⟨h1, h2⟩ := h
  have u : Try.prog.underlying 52 = some (.array 2 50) := Try.underlying52
  have u2 : Try.prog.underlying 50 = some (.int .u64) := Try.underlying50
  have hk : Try.prog.keyType 52 = true := by kernel_rfl
  have hf : (sv a).formed Try.prog 52 = true := by
    unfold Value.formed sv
    rw [u]
    kernel_rfl
  have hc : Try.prog.cellsOf 52 = 2 := by kernel_rfl
  have hc2 : Try.prog.cellsOf 50 = 1 := by kernel_rfl
  obtain ⟨d, hd⟩ : ∃ d, Try.prog.types.size = d + 1 := ⟨Try.prog.types.size - 1, by kernel_rfl⟩
  have w1 : (Lit.int .u64 (a.1 : Int)).wf = true := by
    simp only [Lit.wf, Bool.and_eq_true, decide_eq_true_eq]
    have e1 : IntKind.u64.min = 0 := rfl
    have e2 : IntKind.u64.max = 18446744073709551615 := rfl
    omega
  have w2 : (Lit.int .u64 (a.2 : Int)).wf = true := by
    simp only [Lit.wf, Bool.and_eq_true, decide_eq_true_eq]
    have e1 : IntKind.u64.min = 0 := rfl
    have e2 : IntKind.u64.max = 18446744073709551615 := rfl
    omega
  have hl : Try.prog.keyLits (Try.prog.types.size + 1) 52 (sv a).cells.toList = some [.int .u64 (a.1 : Int), .int .u64 (a.2 : Int)] := by
    rw [hd]
    unfold Program.keyLits
    rw [u]
    have hcl : (sv a).cells.toList = [.int .u64 (a.1 : Int), .int .u64 (a.2 : Int)] := rfl
    rw [hcl]
    dsimp only
    rw [if_pos (by rw [hc]; rfl), hc2]
    have g : ∀ x : Nat, (Lit.int .u64 (x : Int)).wf = true → Try.prog.keyLits (d + 1) 50 [.int .u64 (x : Int)] = some [.int .u64 (x : Int)] := fun x hx => by
      unfold Program.keyLits
      rw [u2]
      exact if_pos ⟨rfl, hx⟩
    have g1 := g a.1 w1
    have g2 := g a.2 w2
    rw [show List.range 2 = [0, 1] from rfl]
    simp [List.mapM_cons, g1, g2]
  unfold keyOf
  rw [u]
  refine ⟨.string (keyBytes [.int .u64 (a.1 : Int), .int .u64 (a.2 : Int)]), ?_⟩
  show (if (Try.prog.keyType 52 && (sv a).formed Try.prog 52) = true then _ else none) = _
  rw [hk, hf, if_pos (by rfl), hl]
  rfl
attribute [local irreducible] J JC thenK blockK loopK roundK drawK retK QW Qt pel List.set Calls
attribute [local irreducible] JE Br eK0 eK2 eK3 brK
theorem eEval05 : Entr Try.prog 46 := Entr.of Try.func46 rfl rfl
theorem eModels : Entr Try.prog 26 := Entr.of Try.func26 rfl rfl
def evT (b : Int → Bool) (T : List (List Int)) : Bool := T.all fun c => c.any (litT b)
theorem evT_iff (b : Int → Bool) (T : List (List Int)) : evT b T = true ↔ modT b T := by
  unfold evT modT clT
  rw [List.all_eq_true]
  refine forall_congr' fun c => ?_
  rw [List.any_eq_true]
theorem litT_05 (b : Int → Bool) {l : Int} (hl : l ≠ 0) : (if l < 0 then !b (-l) else b l) = litT b l := by
  unfold litT
  by_cases h : l < 0
  · rw [if_pos h, if_neg (by omega)]
  · rw [if_neg h, if_pos (by omega)]
set_option maxHeartbeats 8000000 in
theorem eval05_any (N : Nat) (a : Option Addr) (cap : Nat) (vs : List HV) (s : Nat × Nat) (hs : okS s) (h : Heap) (hr : LLR a vs h) (hok : OkT N (vs.map (·.l))) (hN : N ≤ 128) (hl : vs.length ≤ 4096) (hsub : ∀ u, hasB s u = true → u ≤ N) (w : World) (hw : Holds h w) :
    Calls Try.prog 46 #[.agg ⟨[.int .i64 (N : Int), .slice a vs.length cap]⟩, sv s] w fun e w' => e = .returned (.bool (evT (hasB s) (vs.map (·.l)))) ∧ Below w.heap.size w w' := by
  have q0 : ∀ L, RdH h L h := fun L => RdH.old fun _ hh => hh
  have cC := fun w hw => check05_any N a cap vs h hr hok ⟨by omega, by omega⟩ hl w hw
  have cA := fun w => assignm_any s hs N hN hsub w
  obtain ⟨ho, hi⟩ := hr
  refine calls_of_JC (R := h) Try.func46 Try.ntmps46 rfl rfl (hw) ?_
  repeat' first
    | (refine J.isJ ?_; first | (first | (refine J.fc 30 ?_; refine J.call0 eCheck05 rfl rfl (fun w hw => cC w (hw.rdH (q0 _))) ?_) | (refine J.fc 67 ?_; refine J.call0 eAssignm rfl rfl (fun w hw => cA w) ?_)) | (first | (refine J.o 0 ?_; refine J.ev' hΓ ?_) | refine J.nil ?_ | refine J.kd ?_ | (refine J.o 4 ?_; first | refine J.e0 hΓ ?_ | refine J.lT default hΓ ?_ | refine J.e1 hΓ ?_ | refine J.e2 hΓ ?_ | refine J.lR hΓ ?_) | (refine J.o 3 ?_; first | refine J.iA hΓ ?_ | refine J.iJ hΓ ?_ | refine J.fP hΓ ?_ | refine J.iC hΓ ?_ | refine J.ev' hΓ ?_) | (refine J.o 1 ?_; first | refine J.ad ?_ | refine J.sb ?_ | refine J.ng ?_ | refine J.mu ?_) | (refine J.o 5 ?_; first | refine J.t0 hΓ ?_ | refine J.t1 hΓ ?_ | refine J.t2 hΓ ?_) | (refine J.o 6 ?_; refine J.bx (fun _ => ?_)) | (refine J.o 7 ?_; refine J.al hΓ (fun _ => ?_)) | (refine J.o 8 ?_; refine J.bd hΓ ?_) | (refine J.o 9 ?_; refine J.bl hΓ (fun _ => ?_)) | (refine J.o 10 ?_; first | refine J.ls hΓ ?_ | refine J.ev' hΓ ?_) | (refine J.o 11 ?_; refine J.ev' hΓ ?_) | refine J.kn ?_) | ((fail_if_success refine J.wt ?_); refine J.gc rfl rfl (fun hc => ?_) (fun hc => ?_) <;> ((try simp only [decide_eq_true_eq, decide_eq_false_iff_not, beq_iff_eq, beq_eq_false_iff_ne, bne_iff_ne, bne_eq_false_iff_eq, Bool.not_eq_true', Bool.not_eq_false', Bool.not_eq_true, Bool.not_eq_false] at hc) <;> first | (first | (exact absurd rfl hc) | (exfalso; omega) | (exact absurd (hc.symm.trans (by assumption : _ = false)) (by decide)) | (exact absurd (hc.symm.trans (by assumption : _ = true)) (by decide))) | skip)))
    | (first | refine JC.seq ?_ | refine JC.region ?_ | refine JC.block ?_ | refine JC.ret ?_ | refine JC.exit ?_ | refine JC.skip ?_ | refine thenK.nn ?_ | refine thenK.r ?_ | refine thenK.x ?_ | refine blockK.nn ?_ | refine blockK.r ?_ | refine blockK.hit rfl ?_ | refine blockK.miss rfl ?_ | refine JC.condT rfl ?_ | refine JC.condF rfl ?_ | (refine JC.cond rfl (fun hc => ?_) (fun hc => ?_) <;> ((try simp only [decide_eq_true_eq, decide_eq_false_iff_not, beq_iff_eq, beq_eq_false_iff_ne, bne_iff_ne, bne_eq_false_iff_eq, Bool.not_eq_true', Bool.not_eq_false', Bool.not_eq_true, Bool.not_eq_false] at hc) <;> first | (first | (exact absurd rfl hc) | (exfalso; omega) | (exact absurd (hc.symm.trans (by assumption : _ = false)) (by decide)) | (exact absurd (hc.symm.trans (by assumption : _ = true)) (by decide))) | skip)) | (refine JC.drawA [] (by kernel_rfl) (by kernel_rfl) ?_) | refine drawK.nn ?_ | refine roundK.nn ?_ | refine roundK.r ?_ | refine roundK.x ?_ | refine loopK.r ?_ | refine loopK.x ?_)
    | (fail)
    | fail
  all_goals first | (exfalso; omega) | skip
  rename_i b2 b3
  refine JC.gen [(2, .pointer (some ⟨b2, 0, none⟩)), (3, .pointer (some ⟨b3, 0, none⟩)), (5, .int .i64 0)] ⟨rfl, rfl, rfl, trivial⟩ (fun F => ?_)
  refine JC.loop (fun i => i == 4 || i == 5 || i == 6 || i == 7 || Nat.ble 18 i) (fun m g L => ∃ (k : Nat), g 5 = .int .i64 (k : Int) ∧ k + m = vs.length ∧ (((vs.map (·.l)).take k).all fun c => c.any (litT (hasB s))) = true ∧ L = _) vs.length ⟨0, rfl, by omega, rfl, rfl⟩ ?_
  rintro m g L ⟨k, e5, hkm, hall, rfl⟩
  refine JC.pin 5 e5 ?_
  clear e5
  rcases Nat.lt_or_ge k vs.length with hk | hk
  case inr =>
    rw [List.take_of_length_le (by rw [List.length_map]; exact hk)] at hall
    repeat' first
      | (refine J.isJ ?_; (first | (first | (refine J.o 0 ?_; refine J.ev' hΓ ?_) | refine J.nil ?_ | refine J.kd ?_ | (refine J.o 4 ?_; first | refine J.e0 hΓ ?_ | refine J.lT default hΓ ?_ | refine J.e1 hΓ ?_ | refine J.e2 hΓ ?_ | refine J.lR hΓ ?_) | (refine J.o 3 ?_; first | refine J.iA hΓ ?_ | refine J.iJ hΓ ?_ | refine J.fP hΓ ?_ | refine J.iC hΓ ?_ | refine J.ev' hΓ ?_) | (refine J.o 1 ?_; first | refine J.ad ?_ | refine J.sb ?_ | refine J.ng ?_ | refine J.mu ?_) | (refine J.o 5 ?_; first | refine J.t0 hΓ ?_ | refine J.t1 hΓ ?_ | refine J.t2 hΓ ?_) | (refine J.o 6 ?_; refine J.bx (fun _ => ?_)) | (refine J.o 7 ?_; refine J.al hΓ (fun _ => ?_)) | (refine J.o 8 ?_; refine J.bd hΓ ?_) | (refine J.o 9 ?_; refine J.bl hΓ (fun _ => ?_)) | (refine J.o 10 ?_; first | refine J.ls hΓ ?_ | refine J.ev' hΓ ?_) | (refine J.o 11 ?_; refine J.ev' hΓ ?_) | refine J.kn ?_) | ((fail_if_success refine J.wt ?_); refine J.gc rfl rfl (fun hc => ?_) (fun hc => ?_) <;> ((try simp only [decide_eq_true_eq, decide_eq_false_iff_not, beq_iff_eq, beq_eq_false_iff_ne, bne_iff_ne, bne_eq_false_iff_eq, Bool.not_eq_true', Bool.not_eq_false', Bool.not_eq_true, Bool.not_eq_false] at hc) <;> first | (first | (exact absurd rfl hc) | (exfalso; omega) | (exact absurd (hc.symm.trans (by assumption : _ = false)) (by decide)) | (exact absurd (hc.symm.trans (by assumption : _ = true)) (by decide))) | skip))))
      | (first | refine JC.seq ?_ | refine JC.region ?_ | refine JC.block ?_ | refine JC.ret ?_ | refine JC.exit ?_ | refine JC.skip ?_ | refine thenK.nn ?_ | refine thenK.r ?_ | refine thenK.x ?_ | refine blockK.nn ?_ | refine blockK.r ?_ | refine blockK.hit rfl ?_ | refine blockK.miss rfl ?_ | refine JC.condT rfl ?_ | refine JC.condF rfl ?_ | (refine JC.cond rfl (fun hc => ?_) (fun hc => ?_) <;> ((try simp only [decide_eq_true_eq, decide_eq_false_iff_not, beq_iff_eq, beq_eq_false_iff_ne, bne_iff_ne, bne_eq_false_iff_eq, Bool.not_eq_true', Bool.not_eq_false', Bool.not_eq_true, Bool.not_eq_false] at hc) <;> first | (first | (exact absurd rfl hc) | (exfalso; omega) | (exact absurd (hc.symm.trans (by assumption : _ = false)) (by decide)) | (exact absurd (hc.symm.trans (by assumption : _ = true)) (by decide))) | skip)) | (refine JC.drawA [] (by kernel_rfl) (by kernel_rfl) ?_) | refine drawK.nn ?_ | refine roundK.nn ?_ | refine roundK.r ?_ | refine roundK.x ?_ | refine loopK.r ?_ | refine loopK.x ?_)
      | fail
    all_goals first | (exfalso; omega) | exact ret1f rfl rfl rfl (fun w1 hw => ⟨retB hall.symm, hw.below⟩)
  have hm := mem_g vs k hk
  have hik := hi _ hm
  have hml : (vs.getD k default).l ∈ vs.map (·.l) := List.mem_map_of_mem (f := (·.l)) hm
  have hck := hok _ hml
  have hcn := hck.n
  repeat' first
    | (refine J.isJ ?_; (first | (first | (refine J.o 0 ?_; refine J.ev' hΓ ?_) | refine J.nil ?_ | refine J.kd ?_ | (refine J.o 4 ?_; first | refine J.e0 hΓ ?_ | refine J.lT default hΓ ?_ | refine J.e1 hΓ ?_ | refine J.e2 hΓ ?_ | refine J.lR hΓ ?_) | (refine J.o 3 ?_; first | refine J.iA hΓ ?_ | refine J.iJ hΓ ?_ | refine J.fP hΓ ?_ | refine J.iC hΓ ?_ | refine J.ev' hΓ ?_) | (refine J.o 1 ?_; first | refine J.ad ?_ | refine J.sb ?_ | refine J.ng ?_ | refine J.mu ?_) | (refine J.o 5 ?_; first | refine J.t0 hΓ ?_ | refine J.t1 hΓ ?_ | refine J.t2 hΓ ?_) | (refine J.o 6 ?_; refine J.bx (fun _ => ?_)) | (refine J.o 7 ?_; refine J.al hΓ (fun _ => ?_)) | (refine J.o 8 ?_; refine J.bd hΓ ?_) | (refine J.o 9 ?_; refine J.bl hΓ (fun _ => ?_)) | (refine J.o 10 ?_; first | refine J.ls hΓ ?_ | refine J.ev' hΓ ?_) | (refine J.o 11 ?_; refine J.ev' hΓ ?_) | refine J.kn ?_) | ((fail_if_success refine J.wt ?_); refine J.gc rfl rfl (fun hc => ?_) (fun hc => ?_) <;> ((try simp only [decide_eq_true_eq, decide_eq_false_iff_not, beq_iff_eq, beq_eq_false_iff_ne, bne_iff_ne, bne_eq_false_iff_eq, Bool.not_eq_true', Bool.not_eq_false', Bool.not_eq_true, Bool.not_eq_false] at hc) <;> first | (first | (exact absurd rfl hc) | (exfalso; omega) | (exact absurd (hc.symm.trans (by assumption : _ = false)) (by decide)) | (exact absurd (hc.symm.trans (by assumption : _ = true)) (by decide))) | skip))))
    | (first | refine JC.seq ?_ | refine JC.region ?_ | refine JC.block ?_ | refine JC.ret ?_ | refine JC.exit ?_ | refine JC.skip ?_ | refine thenK.nn ?_ | refine thenK.r ?_ | refine thenK.x ?_ | refine blockK.nn ?_ | refine blockK.r ?_ | refine blockK.hit rfl ?_ | refine blockK.miss rfl ?_ | refine JC.condT rfl ?_ | refine JC.condF rfl ?_ | (refine JC.cond rfl (fun hc => ?_) (fun hc => ?_) <;> ((try simp only [decide_eq_true_eq, decide_eq_false_iff_not, beq_iff_eq, beq_eq_false_iff_ne, bne_iff_ne, bne_eq_false_iff_eq, Bool.not_eq_true', Bool.not_eq_false', Bool.not_eq_true, Bool.not_eq_false] at hc) <;> first | (first | (exact absurd rfl hc) | (exfalso; omega) | (exact absurd (hc.symm.trans (by assumption : _ = false)) (by decide)) | (exact absurd (hc.symm.trans (by assumption : _ = true)) (by decide))) | skip)) | (refine JC.drawA [] (by kernel_rfl) (by kernel_rfl) ?_) | refine drawK.nn ?_ | refine roundK.nn ?_ | refine roundK.r ?_ | refine roundK.x ?_ | refine loopK.r ?_ | refine loopK.x ?_)
    | fail
  all_goals first | (exfalso; omega) | skip
  refine JC.loop (fun i => i == 6 || i == 7 || (Nat.ble 25 i && Nat.ble i 47)) (fun m g L => ∃ (j : Nat), g 7 = .int .i64 (j : Int) ∧ g 6 = .bool (((vs.getD k default).l.take j).any (litT (hasB s))) ∧ j + m = (vs.getD k default).l.length ∧ L = _) (vs.getD k default).l.length ⟨0, rfl, rfl, by omega, rfl⟩ ?_
  rintro m3 g3 L3 ⟨j, e7, e6, hjm, rfl⟩
  refine JC.pin 7 e7 (JC.pin 6 e6 ?_)
  clear e7 e6
  rcases Nat.lt_or_ge j (vs.getD k default).l.length with hj | hj
  case inl =>
    have hv := hck.v _ (getD_mem (vs.getD k default).l j hj)
    have cH := fun w => holds05_any s hs ((vs.getD k default).l.getD j default) (by omega) w
    rw [litT_05 (hasB s) hv.1] at cH
    have hsn : ((vs.getD k default).l.take (j + 1)).any (litT (hasB s)) = (((vs.getD k default).l.take j).any (litT (hasB s)) || litT (hasB s) ((vs.getD k default).l.getD j default)) := by
      rw [take_g _ j hj, List.any_append, List.any_cons, List.any_nil, Bool.or_false]
    generalize ((vs.getD k default).l.take j).any (litT (hasB s)) = is at *
    cases is with
    | true =>
      repeat' first
        | (refine J.isJ ?_; (first | (first | (refine J.o 0 ?_; refine J.ev' hΓ ?_) | refine J.nil ?_ | refine J.kd ?_ | (refine J.o 4 ?_; first | refine J.e0 hΓ ?_ | refine J.lT default hΓ ?_ | refine J.e1 hΓ ?_ | refine J.e2 hΓ ?_ | refine J.lR hΓ ?_) | (refine J.o 3 ?_; first | refine J.iA hΓ ?_ | refine J.iJ hΓ ?_ | refine J.fP hΓ ?_ | refine J.iC hΓ ?_ | refine J.ev' hΓ ?_) | (refine J.o 1 ?_; first | refine J.ad ?_ | refine J.sb ?_ | refine J.ng ?_ | refine J.mu ?_) | (refine J.o 5 ?_; first | refine J.t0 hΓ ?_ | refine J.t1 hΓ ?_ | refine J.t2 hΓ ?_) | (refine J.o 6 ?_; refine J.bx (fun _ => ?_)) | (refine J.o 7 ?_; refine J.al hΓ (fun _ => ?_)) | (refine J.o 8 ?_; refine J.bd hΓ ?_) | (refine J.o 9 ?_; refine J.bl hΓ (fun _ => ?_)) | (refine J.o 10 ?_; first | refine J.ls hΓ ?_ | refine J.ev' hΓ ?_) | (refine J.o 11 ?_; refine J.ev' hΓ ?_) | refine J.kn ?_) | ((fail_if_success refine J.wt ?_); refine J.gc rfl rfl (fun hc => ?_) (fun hc => ?_) <;> ((try simp only [decide_eq_true_eq, decide_eq_false_iff_not, beq_iff_eq, beq_eq_false_iff_ne, bne_iff_ne, bne_eq_false_iff_eq, Bool.not_eq_true', Bool.not_eq_false', Bool.not_eq_true, Bool.not_eq_false] at hc) <;> first | (first | (exact absurd rfl hc) | (exfalso; omega) | (exact absurd (hc.symm.trans (by assumption : _ = false)) (by decide)) | (exact absurd (hc.symm.trans (by assumption : _ = true)) (by decide))) | skip))))
        | (first | refine JC.seq ?_ | refine JC.region ?_ | refine JC.block ?_ | refine JC.ret ?_ | refine JC.exit ?_ | refine JC.skip ?_ | refine thenK.nn ?_ | refine thenK.r ?_ | refine thenK.x ?_ | refine blockK.nn ?_ | refine blockK.r ?_ | refine blockK.hit rfl ?_ | refine blockK.miss rfl ?_ | refine JC.condT rfl ?_ | refine JC.condF rfl ?_ | (refine JC.cond rfl (fun hc => ?_) (fun hc => ?_) <;> ((try simp only [decide_eq_true_eq, decide_eq_false_iff_not, beq_iff_eq, beq_eq_false_iff_ne, bne_iff_ne, bne_eq_false_iff_eq, Bool.not_eq_true', Bool.not_eq_false', Bool.not_eq_true, Bool.not_eq_false] at hc) <;> first | (first | (exact absurd rfl hc) | (exfalso; omega) | (exact absurd (hc.symm.trans (by assumption : _ = false)) (by decide)) | (exact absurd (hc.symm.trans (by assumption : _ = true)) (by decide))) | skip)) | (refine JC.drawA [] (by kernel_rfl) (by kernel_rfl) ?_) | refine drawK.nn ?_ | refine roundK.nn ?_ | refine roundK.r ?_ | refine roundK.x ?_ | refine loopK.r ?_ | refine loopK.x ?_)
        | fail
      all_goals first | (exfalso; omega) | skip
      all_goals refine loopK.nn (m3 - 1) (by omega) (by repeat (first | refine Ag.upd rfl ?_ | exact Ag.hv)) ⟨j + 1, ?_, ?_, by omega, rfl⟩
      · show Value.int .i64 _ = _; congr 1
      · rw [hsn]; rfl
    | false =>
      repeat' first
        | (refine J.isJ ?_; first | ((refine J.fc 68 ?_; refine J.call0 eHolds05 rfl rfl (fun w hw => cH w) ?_)) | (first | (refine J.o 0 ?_; refine J.ev' hΓ ?_) | refine J.nil ?_ | refine J.kd ?_ | (refine J.o 4 ?_; first | refine J.e0 hΓ ?_ | refine J.lT default hΓ ?_ | refine J.e1 hΓ ?_ | refine J.e2 hΓ ?_ | refine J.lR hΓ ?_) | (refine J.o 3 ?_; first | refine J.iA hΓ ?_ | refine J.iJ hΓ ?_ | refine J.fP hΓ ?_ | refine J.iC hΓ ?_ | refine J.ev' hΓ ?_) | (refine J.o 1 ?_; first | refine J.ad ?_ | refine J.sb ?_ | refine J.ng ?_ | refine J.mu ?_) | (refine J.o 5 ?_; first | refine J.t0 hΓ ?_ | refine J.t1 hΓ ?_ | refine J.t2 hΓ ?_) | (refine J.o 6 ?_; refine J.bx (fun _ => ?_)) | (refine J.o 7 ?_; refine J.al hΓ (fun _ => ?_)) | (refine J.o 8 ?_; refine J.bd hΓ ?_) | (refine J.o 9 ?_; refine J.bl hΓ (fun _ => ?_)) | (refine J.o 10 ?_; first | refine J.ls hΓ ?_ | refine J.ev' hΓ ?_) | (refine J.o 11 ?_; refine J.ev' hΓ ?_) | refine J.kn ?_) | ((fail_if_success refine J.wt ?_); refine J.gc rfl rfl (fun hc => ?_) (fun hc => ?_) <;> ((try simp only [decide_eq_true_eq, decide_eq_false_iff_not, beq_iff_eq, beq_eq_false_iff_ne, bne_iff_ne, bne_eq_false_iff_eq, Bool.not_eq_true', Bool.not_eq_false', Bool.not_eq_true, Bool.not_eq_false] at hc) <;> first | (first | (exact absurd rfl hc) | (exfalso; omega) | (exact absurd (hc.symm.trans (by assumption : _ = false)) (by decide)) | (exact absurd (hc.symm.trans (by assumption : _ = true)) (by decide))) | skip)))
        | (first | refine JC.seq ?_ | refine JC.region ?_ | refine JC.block ?_ | refine JC.ret ?_ | refine JC.exit ?_ | refine JC.skip ?_ | refine thenK.nn ?_ | refine thenK.r ?_ | refine thenK.x ?_ | refine blockK.nn ?_ | refine blockK.r ?_ | refine blockK.hit rfl ?_ | refine blockK.miss rfl ?_ | refine JC.condT rfl ?_ | refine JC.condF rfl ?_ | (refine JC.cond rfl (fun hc => ?_) (fun hc => ?_) <;> ((try simp only [decide_eq_true_eq, decide_eq_false_iff_not, beq_iff_eq, beq_eq_false_iff_ne, bne_iff_ne, bne_eq_false_iff_eq, Bool.not_eq_true', Bool.not_eq_false', Bool.not_eq_true, Bool.not_eq_false] at hc) <;> first | (first | (exact absurd rfl hc) | (exfalso; omega) | (exact absurd (hc.symm.trans (by assumption : _ = false)) (by decide)) | (exact absurd (hc.symm.trans (by assumption : _ = true)) (by decide))) | skip)) | (refine JC.drawA [] (by kernel_rfl) (by kernel_rfl) ?_) | refine drawK.nn ?_ | refine roundK.nn ?_ | refine roundK.r ?_ | refine roundK.x ?_ | refine loopK.r ?_ | refine loopK.x ?_)
        | (fail)
        | fail
      all_goals first | (exfalso; omega) | skip
      all_goals refine loopK.nn (m3 - 1) (by omega) (by repeat (first | refine Ag.upd rfl ?_ | exact Ag.hv)) ⟨j + 1, ?_, ?_, by omega, rfl⟩
      · show Value.int .i64 _ = _; congr 1
      · rw [hsn]; rfl
  rw [List.take_of_length_le hj]
  cases hb : (vs.getD k default).l.any (litT (hasB s)) with
  | true =>
    have hall2 : (((vs.map (·.l)).take (k + 1)).all fun c => c.any (litT (hasB s))) = true := by
      rw [← List.map_take, take_g vs k hk, List.map_append, List.all_append, List.map_take, hall]
      simp only [List.map_cons, List.map_nil, List.all_cons, List.all_nil, hb, Bool.and_self]
    repeat' first
      | (refine J.isJ ?_; (first | (first | (refine J.o 0 ?_; refine J.ev' hΓ ?_) | refine J.nil ?_ | refine J.kd ?_ | (refine J.o 4 ?_; first | refine J.e0 hΓ ?_ | refine J.lT default hΓ ?_ | refine J.e1 hΓ ?_ | refine J.e2 hΓ ?_ | refine J.lR hΓ ?_) | (refine J.o 3 ?_; first | refine J.iA hΓ ?_ | refine J.iJ hΓ ?_ | refine J.fP hΓ ?_ | refine J.iC hΓ ?_ | refine J.ev' hΓ ?_) | (refine J.o 1 ?_; first | refine J.ad ?_ | refine J.sb ?_ | refine J.ng ?_ | refine J.mu ?_) | (refine J.o 5 ?_; first | refine J.t0 hΓ ?_ | refine J.t1 hΓ ?_ | refine J.t2 hΓ ?_) | (refine J.o 6 ?_; refine J.bx (fun _ => ?_)) | (refine J.o 7 ?_; refine J.al hΓ (fun _ => ?_)) | (refine J.o 8 ?_; refine J.bd hΓ ?_) | (refine J.o 9 ?_; refine J.bl hΓ (fun _ => ?_)) | (refine J.o 10 ?_; first | refine J.ls hΓ ?_ | refine J.ev' hΓ ?_) | (refine J.o 11 ?_; refine J.ev' hΓ ?_) | refine J.kn ?_) | ((fail_if_success refine J.wt ?_); refine J.gc rfl rfl (fun hc => ?_) (fun hc => ?_) <;> ((try simp only [decide_eq_true_eq, decide_eq_false_iff_not, beq_iff_eq, beq_eq_false_iff_ne, bne_iff_ne, bne_eq_false_iff_eq, Bool.not_eq_true', Bool.not_eq_false', Bool.not_eq_true, Bool.not_eq_false] at hc) <;> first | (first | (exact absurd rfl hc) | (exfalso; omega) | (exact absurd (hc.symm.trans (by assumption : _ = false)) (by decide)) | (exact absurd (hc.symm.trans (by assumption : _ = true)) (by decide))) | skip))))
      | (first | refine JC.seq ?_ | refine JC.region ?_ | refine JC.block ?_ | refine JC.ret ?_ | refine JC.exit ?_ | refine JC.skip ?_ | refine thenK.nn ?_ | refine thenK.r ?_ | refine thenK.x ?_ | refine blockK.nn ?_ | refine blockK.r ?_ | refine blockK.hit rfl ?_ | refine blockK.miss rfl ?_ | refine JC.condT rfl ?_ | refine JC.condF rfl ?_ | (refine JC.cond rfl (fun hc => ?_) (fun hc => ?_) <;> ((try simp only [decide_eq_true_eq, decide_eq_false_iff_not, beq_iff_eq, beq_eq_false_iff_ne, bne_iff_ne, bne_eq_false_iff_eq, Bool.not_eq_true', Bool.not_eq_false', Bool.not_eq_true, Bool.not_eq_false] at hc) <;> first | (first | (exact absurd rfl hc) | (exfalso; omega) | (exact absurd (hc.symm.trans (by assumption : _ = false)) (by decide)) | (exact absurd (hc.symm.trans (by assumption : _ = true)) (by decide))) | skip)) | (refine JC.drawA [] (by kernel_rfl) (by kernel_rfl) ?_) | refine drawK.nn ?_ | refine roundK.nn ?_ | refine roundK.r ?_ | refine roundK.x ?_ | refine loopK.r ?_ | refine loopK.x ?_)
      | fail
    all_goals first | (exfalso; omega) | skip
    all_goals refine loopK.nn (m - 1) (by omega) (by repeat (first | refine Ag.upd rfl ?_ | exact Ag.hv | refine Ag.hv2 (fun i hi => by simp at hi ⊢; omega) ?_)) ⟨k + 1, ?_, by omega, hall2, rfl⟩
    all_goals (show Value.int .i64 _ = _; congr 1)
  | false =>
    have hno : evT (hasB s) (vs.map (·.l)) = false := by
      unfold evT
      rw [List.all_eq_false]
      exact ⟨_, hml, by rw [hb]; decide⟩
    repeat' first
      | (refine J.isJ ?_; (first | (first | (refine J.o 0 ?_; refine J.ev' hΓ ?_) | refine J.nil ?_ | refine J.kd ?_ | (refine J.o 4 ?_; first | refine J.e0 hΓ ?_ | refine J.lT default hΓ ?_ | refine J.e1 hΓ ?_ | refine J.e2 hΓ ?_ | refine J.lR hΓ ?_) | (refine J.o 3 ?_; first | refine J.iA hΓ ?_ | refine J.iJ hΓ ?_ | refine J.fP hΓ ?_ | refine J.iC hΓ ?_ | refine J.ev' hΓ ?_) | (refine J.o 1 ?_; first | refine J.ad ?_ | refine J.sb ?_ | refine J.ng ?_ | refine J.mu ?_) | (refine J.o 5 ?_; first | refine J.t0 hΓ ?_ | refine J.t1 hΓ ?_ | refine J.t2 hΓ ?_) | (refine J.o 6 ?_; refine J.bx (fun _ => ?_)) | (refine J.o 7 ?_; refine J.al hΓ (fun _ => ?_)) | (refine J.o 8 ?_; refine J.bd hΓ ?_) | (refine J.o 9 ?_; refine J.bl hΓ (fun _ => ?_)) | (refine J.o 10 ?_; first | refine J.ls hΓ ?_ | refine J.ev' hΓ ?_) | (refine J.o 11 ?_; refine J.ev' hΓ ?_) | refine J.kn ?_) | ((fail_if_success refine J.wt ?_); refine J.gc rfl rfl (fun hc => ?_) (fun hc => ?_) <;> ((try simp only [decide_eq_true_eq, decide_eq_false_iff_not, beq_iff_eq, beq_eq_false_iff_ne, bne_iff_ne, bne_eq_false_iff_eq, Bool.not_eq_true', Bool.not_eq_false', Bool.not_eq_true, Bool.not_eq_false] at hc) <;> first | (first | (exact absurd rfl hc) | (exfalso; omega) | (exact absurd (hc.symm.trans (by assumption : _ = false)) (by decide)) | (exact absurd (hc.symm.trans (by assumption : _ = true)) (by decide))) | skip))))
      | (first | refine JC.seq ?_ | refine JC.region ?_ | refine JC.block ?_ | refine JC.ret ?_ | refine JC.exit ?_ | refine JC.skip ?_ | refine thenK.nn ?_ | refine thenK.r ?_ | refine thenK.x ?_ | refine blockK.nn ?_ | refine blockK.r ?_ | refine blockK.hit rfl ?_ | refine blockK.miss rfl ?_ | refine JC.condT rfl ?_ | refine JC.condF rfl ?_ | (refine JC.cond rfl (fun hc => ?_) (fun hc => ?_) <;> ((try simp only [decide_eq_true_eq, decide_eq_false_iff_not, beq_iff_eq, beq_eq_false_iff_ne, bne_iff_ne, bne_eq_false_iff_eq, Bool.not_eq_true', Bool.not_eq_false', Bool.not_eq_true, Bool.not_eq_false] at hc) <;> first | (first | (exact absurd rfl hc) | (exfalso; omega) | (exact absurd (hc.symm.trans (by assumption : _ = false)) (by decide)) | (exact absurd (hc.symm.trans (by assumption : _ = true)) (by decide))) | skip)) | (refine JC.drawA [] (by kernel_rfl) (by kernel_rfl) ?_) | refine drawK.nn ?_ | refine roundK.nn ?_ | refine roundK.r ?_ | refine roundK.x ?_ | refine loopK.r ?_ | refine loopK.x ?_)
      | fail
    all_goals first | (exfalso; omega) | exact ret1f rfl rfl rfl (fun w1 hw => ⟨retB hno.symm, hw.below⟩)
def encW (s : Nat × Nat) : List Value := [.int .u64 (s.1 : Int), .int .u64 (s.2 : Int)]
def asg (N k : Nat) : Nat × Nat := (revN k N, 0)
def msF (N : Nat) (T : List (List Int)) (m : Nat) : List (Nat × Nat) := ((List.range m).map (asg N)).filter fun s => evT (hasB s) T
theorem msF_succ (N : Nat) (T : List (List Int)) (m : Nat) : msF N T (m + 1) = msF N T m ++ if evT (hasB (asg N m)) T = true then [asg N m] else [] := by
  unfold msF
  rw [List.range_succ, List.map_append, List.filter_append]
  congr 1
  rw [List.map_cons, List.map_nil, List.filter_cons, List.filter_nil]
theorem okS_asg (N k : Nat) (hN : N ≤ 60) : okS (asg N k) := ⟨Nat.lt_of_lt_of_le (revN_lt k N) (Nat.pow_le_pow_right (by omega) (by omega)), show (0 : Nat) < 2 ^ 64 by decide⟩
theorem msF_len (N : Nat) (T : List (List Int)) (m : Nat) : (msF N T m).length ≤ m := by
  unfold msF
  have := List.length_filter_le (fun s => evT (hasB s) T) ((List.range m).map (asg N))
  rw [List.length_map, List.length_range] at this
  exact this
set_option maxHeartbeats 8000000 in
theorem models_any (N : Nat) (a : Option Addr) (cap : Nat) (vs : List HV) (h : Heap) (hr : LLR a vs h) (hok : OkT N (vs.map (·.l))) (hN : N ≤ 11) (hl : vs.length ≤ 4096) (w : World) (hw : Holds h w) :
    Calls Try.prog 26 #[.agg ⟨[.int .i64 (N : Int), .slice a vs.length cap]⟩] w (Gives (fun v g => ∃ am cm, v = .slice am (msF N (vs.map (·.l)) (2 ^ N)).length cm ∧ OwT encW 2 52 am cm (msF N (vs.map (·.l)) (2 ^ N)) g) w) := by
  have q0 : ∀ L, RdH h L h := fun L => RdH.old fun _ hh => hh
  have cC := fun w hw => check05_any N a cap vs h hr hok ⟨by omega, by omega⟩ hl w hw
  have hp : 2 ^ N ≤ 2 ^ 11 := Nat.pow_le_pow_right (by omega) hN
  have hp2 : ((N : Int)).toNat = N := by omega
  refine calls_of_JC (R := h) Try.func26 Try.ntmps26 rfl rfl (hw) ?_
  repeat' first
    | (refine J.isJ ?_; first | (first | (refine J.fc 30 ?_; refine J.call0 eCheck05 rfl rfl (fun w hw => cC w (hw.rdH (q0 _))) ?_)) | (first | (refine J.o 0 ?_; refine J.ev' hΓ ?_) | refine J.nil ?_ | refine J.kd ?_ | (refine J.o 4 ?_; first | refine J.e0 hΓ ?_ | refine J.lT default hΓ ?_ | refine J.e1 hΓ ?_ | refine J.e2 hΓ ?_ | refine J.lR hΓ ?_) | (refine J.o 3 ?_; first | refine J.iA hΓ ?_ | refine J.iJ hΓ ?_ | refine J.fP hΓ ?_ | refine J.iC hΓ ?_ | refine J.ev' hΓ ?_) | (refine J.o 1 ?_; first | refine J.ad ?_ | refine J.sb ?_ | refine J.ng ?_ | refine J.mu ?_) | (refine J.o 5 ?_; first | refine J.t0 hΓ ?_ | refine J.t1 hΓ ?_ | refine J.t2 hΓ ?_) | (refine J.o 6 ?_; refine J.bx (fun _ => ?_)) | (refine J.o 7 ?_; refine J.al hΓ (fun _ => ?_)) | (refine J.o 8 ?_; refine J.bd hΓ ?_) | (refine J.o 9 ?_; refine J.bl hΓ (fun _ => ?_)) | (refine J.o 10 ?_; first | refine J.ls hΓ ?_ | refine J.ev' hΓ ?_) | (refine J.o 11 ?_; refine J.ev' hΓ ?_) | refine J.kn ?_) | ((fail_if_success refine J.wt ?_); refine J.gc rfl rfl (fun hc => ?_) (fun hc => ?_) <;> ((try simp only [decide_eq_true_eq, decide_eq_false_iff_not, beq_iff_eq, beq_eq_false_iff_ne, bne_iff_ne, bne_eq_false_iff_eq, Bool.not_eq_true', Bool.not_eq_false', Bool.not_eq_true, Bool.not_eq_false] at hc) <;> first | (first | (exact absurd rfl hc) | (exfalso; omega) | (exact absurd (hc.symm.trans (by assumption : _ = false)) (by decide)) | (exact absurd (hc.symm.trans (by assumption : _ = true)) (by decide))) | skip)))
    | (first | refine JC.seq ?_ | refine JC.region ?_ | refine JC.block ?_ | refine JC.ret ?_ | refine JC.exit ?_ | refine JC.skip ?_ | refine thenK.nn ?_ | refine thenK.r ?_ | refine thenK.x ?_ | refine blockK.nn ?_ | refine blockK.r ?_ | refine blockK.hit rfl ?_ | refine blockK.miss rfl ?_ | refine JC.condT rfl ?_ | refine JC.condF rfl ?_ | (refine JC.cond rfl (fun hc => ?_) (fun hc => ?_) <;> ((try simp only [decide_eq_true_eq, decide_eq_false_iff_not, beq_iff_eq, beq_eq_false_iff_ne, bne_iff_ne, bne_eq_false_iff_eq, Bool.not_eq_true', Bool.not_eq_false', Bool.not_eq_true, Bool.not_eq_false] at hc) <;> first | (first | (exact absurd rfl hc) | (exfalso; omega) | (exact absurd (hc.symm.trans (by assumption : _ = false)) (by decide)) | (exact absurd (hc.symm.trans (by assumption : _ = true)) (by decide))) | skip)) | (refine JC.drawA [] (by kernel_rfl) (by kernel_rfl) ?_) | refine drawK.nn ?_ | refine roundK.nn ?_ | refine roundK.r ?_ | refine roundK.x ?_ | refine loopK.r ?_ | refine loopK.x ?_)
    | (fail)
    | fail
  all_goals first | (exfalso; omega) | skip
  rename_i b1
  refine JC.nilF ?_
  refine JC.gen [(1, .pointer (some ⟨b1, 0, none⟩)), (3, .slice none 0 0), (4, .int .i64 0)] ⟨rfl, rfl, rfl, trivial⟩ (fun F => ?_)
  refine JC.loopG (fun i => i == 3 || i == 4 || i == 5 || Nat.ble 14 i) (fun m g L => ∃ (k : Nat) (am : Option Addr) (cm : Nat) (hm : Heap), g 4 = .int .i64 (k : Int) ∧ k + m = 2 ^ N ∧ g 3 = .slice am (msF N (vs.map (·.l)) k).length cm ∧ OwT encW 2 52 am cm (msF N (vs.map (·.l)) k) hm ∧ L = [hm, [(b1, .cells ⟨[.int .i64 (N : Int), .slice a vs.length cap]⟩ 37 (0, 0))]]) (2 ^ N) ⟨0, none, 0, [], rfl, by omega, rfl, OwT.nil (fun _ => rfl), rfl⟩ ?_
  rintro m g L ⟨k, am, cm, hm, e4, hkm, e3, om, rfl⟩
  refine JC.pin 4 e4 (JC.pin 3 e3 ?_)
  clear e4 e3
  have hml := msF_len N (vs.map (·.l)) k
  rcases Nat.lt_or_ge k (2 ^ N) with hk | hk
  case inr =>
    obtain rfl : k = 2 ^ N := by omega
    repeat' first
      | (refine J.isJ ?_; first | (first | (refine J.o 2 ?_; refine J.cv _ hΓ ?_) | (refine J.o 1 ?_; refine J.s2 ?_)) | (first | (refine J.o 0 ?_; refine J.ev' hΓ ?_) | refine J.nil ?_ | refine J.kd ?_ | (refine J.o 4 ?_; first | refine J.e0 hΓ ?_ | refine J.lT default hΓ ?_ | refine J.e1 hΓ ?_ | refine J.e2 hΓ ?_ | refine J.lR hΓ ?_) | (refine J.o 3 ?_; first | refine J.iA hΓ ?_ | refine J.iJ hΓ ?_ | refine J.fP hΓ ?_ | refine J.iC hΓ ?_ | refine J.ev' hΓ ?_) | (refine J.o 1 ?_; first | refine J.ad ?_ | refine J.sb ?_ | refine J.ng ?_ | refine J.mu ?_) | (refine J.o 5 ?_; first | refine J.t0 hΓ ?_ | refine J.t1 hΓ ?_ | refine J.t2 hΓ ?_) | (refine J.o 6 ?_; refine J.bx (fun _ => ?_)) | (refine J.o 7 ?_; refine J.al hΓ (fun _ => ?_)) | (refine J.o 8 ?_; refine J.bd hΓ ?_) | (refine J.o 9 ?_; refine J.bl hΓ (fun _ => ?_)) | (refine J.o 10 ?_; first | refine J.ls hΓ ?_ | refine J.ev' hΓ ?_) | (refine J.o 11 ?_; refine J.ev' hΓ ?_) | refine J.kn ?_) | ((fail_if_success refine J.wt ?_); refine J.gc rfl rfl (fun hc => ?_) (fun hc => ?_) <;> ((try simp only [decide_eq_true_eq, decide_eq_false_iff_not, beq_iff_eq, beq_eq_false_iff_ne, bne_iff_ne, bne_eq_false_iff_eq, Bool.not_eq_true', Bool.not_eq_false', Bool.not_eq_true, Bool.not_eq_false] at hc) <;> first | (first | (exact absurd rfl hc) | (exfalso; omega) | (exact absurd (hc.symm.trans (by assumption : _ = false)) (by decide)) | (exact absurd (hc.symm.trans (by assumption : _ = true)) (by decide))) | skip)))
      | (first | refine JC.seq ?_ | refine JC.region ?_ | refine JC.block ?_ | refine JC.ret ?_ | refine JC.exit ?_ | refine JC.skip ?_ | refine thenK.nn ?_ | refine thenK.r ?_ | refine thenK.x ?_ | refine blockK.nn ?_ | refine blockK.r ?_ | refine blockK.hit rfl ?_ | refine blockK.miss rfl ?_ | refine JC.condT rfl ?_ | refine JC.condF rfl ?_ | (refine JC.cond rfl (fun hc => ?_) (fun hc => ?_) <;> ((try simp only [decide_eq_true_eq, decide_eq_false_iff_not, beq_iff_eq, beq_eq_false_iff_ne, bne_iff_ne, bne_eq_false_iff_eq, Bool.not_eq_true', Bool.not_eq_false', Bool.not_eq_true, Bool.not_eq_false] at hc) <;> first | (first | (exact absurd rfl hc) | (exfalso; omega) | (exact absurd (hc.symm.trans (by assumption : _ = false)) (by decide)) | (exact absurd (hc.symm.trans (by assumption : _ = true)) (by decide))) | skip)) | (refine JC.drawA [] (by kernel_rfl) (by kernel_rfl) ?_) | refine drawK.nn ?_ | refine roundK.nn ?_ | refine roundK.r ?_ | refine roundK.x ?_ | refine loopK.r ?_ | refine loopK.x ?_)
      | (fail)
      | fail
    all_goals first | (exfalso; rw [hp2] at *; omega) | skip
    all_goals exact ret1f rfl rfl rfl (fun w1 hw => Gives.of (H.sel (l := [_, _]) (M := []) hw [0]) ⟨am, cm, rfl, om⟩)
  have cA := fun w => assign_any k N (by omega) (by omega) w
  have hsc := msF_succ N (vs.map (·.l)) k
  have cE := fun w hw => eval05_any N a cap vs (asg N k) (okS_asg N k (by omega)) h hr hok (by omega) hl (fun u hu => by
    unfold asg at hu
    rw [has_rev k N (by omega), Bool.and_eq_true] at hu
    exact (of_decide_eq_true hu.1).2) w hw
  cases hb : evT (hasB (asg N k)) (vs.map (·.l)) with
  | true =>
    rw [hb] at cE
    rw [if_pos hb] at hsc
    repeat' first
      | (refine J.isJ ?_; first | (first | (refine J.o 2 ?_; refine J.cv _ hΓ ?_) | (refine J.o 1 ?_; refine J.s2 ?_) | (refine J.fc 45 ?_; refine J.call0 eAssign rfl rfl (fun w hw => cA w) ?_) | (refine J.fc 46 ?_; refine J.call0 eEval05 rfl rfl (fun w hw => cE w (hw.rdH (q0 _))) ?_) | (refine J.o 9 ?_; refine J.perm (br1.cons _) (J.ap1 (enc := encW) [asg N k] hΓ (fun a4 c4 h4 o4 => ?_)))) | (first | (refine J.o 0 ?_; refine J.ev' hΓ ?_) | refine J.nil ?_ | refine J.kd ?_ | (refine J.o 4 ?_; first | refine J.e0 hΓ ?_ | refine J.lT default hΓ ?_ | refine J.e1 hΓ ?_ | refine J.e2 hΓ ?_ | refine J.lR hΓ ?_) | (refine J.o 3 ?_; first | refine J.iA hΓ ?_ | refine J.iJ hΓ ?_ | refine J.fP hΓ ?_ | refine J.iC hΓ ?_ | refine J.ev' hΓ ?_) | (refine J.o 1 ?_; first | refine J.ad ?_ | refine J.sb ?_ | refine J.ng ?_ | refine J.mu ?_) | (refine J.o 5 ?_; first | refine J.t0 hΓ ?_ | refine J.t1 hΓ ?_ | refine J.t2 hΓ ?_) | (refine J.o 6 ?_; refine J.bx (fun _ => ?_)) | (refine J.o 7 ?_; refine J.al hΓ (fun _ => ?_)) | (refine J.o 8 ?_; refine J.bd hΓ ?_) | (refine J.o 9 ?_; refine J.bl hΓ (fun _ => ?_)) | (refine J.o 10 ?_; first | refine J.ls hΓ ?_ | refine J.ev' hΓ ?_) | (refine J.o 11 ?_; refine J.ev' hΓ ?_) | refine J.kn ?_) | ((fail_if_success refine J.wt ?_); refine J.gc rfl rfl (fun hc => ?_) (fun hc => ?_) <;> ((try simp only [decide_eq_true_eq, decide_eq_false_iff_not, beq_iff_eq, beq_eq_false_iff_ne, bne_iff_ne, bne_eq_false_iff_eq, Bool.not_eq_true', Bool.not_eq_false', Bool.not_eq_true, Bool.not_eq_false] at hc) <;> first | (first | (exact absurd rfl hc) | (exfalso; omega) | (exact absurd (hc.symm.trans (by assumption : _ = false)) (by decide)) | (exact absurd (hc.symm.trans (by assumption : _ = true)) (by decide))) | skip)))
      | (first | refine JC.seq ?_ | refine JC.region ?_ | refine JC.block ?_ | refine JC.ret ?_ | refine JC.exit ?_ | refine JC.skip ?_ | refine thenK.nn ?_ | refine thenK.r ?_ | refine thenK.x ?_ | refine blockK.nn ?_ | refine blockK.r ?_ | refine blockK.hit rfl ?_ | refine blockK.miss rfl ?_ | refine JC.condT rfl ?_ | refine JC.condF rfl ?_ | (refine JC.cond rfl (fun hc => ?_) (fun hc => ?_) <;> ((try simp only [decide_eq_true_eq, decide_eq_false_iff_not, beq_iff_eq, beq_eq_false_iff_ne, bne_iff_ne, bne_eq_false_iff_eq, Bool.not_eq_true', Bool.not_eq_false', Bool.not_eq_true, Bool.not_eq_false] at hc) <;> first | (first | (exact absurd rfl hc) | (exfalso; omega) | (exact absurd (hc.symm.trans (by assumption : _ = false)) (by decide)) | (exact absurd (hc.symm.trans (by assumption : _ = true)) (by decide))) | skip)) | (refine JC.drawA [] (by kernel_rfl) (by kernel_rfl) ?_) | refine drawK.nn ?_ | refine roundK.nn ?_ | refine roundK.r ?_ | refine roundK.x ?_ | refine loopK.r ?_ | refine loopK.x ?_)
      | (fail)
      | fail
    all_goals first | (exfalso; rw [hp2] at *; omega) | skip
    rw [← hsc] at o4 ⊢
    refine loopK.nn (m - 1) (by omega) (by repeat (first | refine Ag.upd rfl ?_ | exact Ag.hv)) ⟨_, ⟨k + 1, a4, c4, h4, ?_, by omega, rfl, o4, rfl⟩, fun w hw => H.sel (l := [_, _, _]) (M := []) hw [0, 2]⟩
    show Value.int .i64 _ = _; congr 1
  | false =>
    rw [hb] at cE
    rw [if_neg (by rw [hb]; decide), List.append_nil] at hsc
    repeat' first
      | (refine J.isJ ?_; first | (first | (refine J.o 2 ?_; refine J.cv _ hΓ ?_) | (refine J.o 1 ?_; refine J.s2 ?_) | (refine J.fc 45 ?_; refine J.call0 eAssign rfl rfl (fun w hw => cA w) ?_) | (refine J.fc 46 ?_; refine J.call0 eEval05 rfl rfl (fun w hw => cE w (hw.rdH (q0 _))) ?_) | (refine J.o 9 ?_; refine J.perm (br1.cons _) (J.ap1 (enc := encW) [asg N k] hΓ (fun a4 c4 h4 o4 => ?_)))) | (first | (refine J.o 0 ?_; refine J.ev' hΓ ?_) | refine J.nil ?_ | refine J.kd ?_ | (refine J.o 4 ?_; first | refine J.e0 hΓ ?_ | refine J.lT default hΓ ?_ | refine J.e1 hΓ ?_ | refine J.e2 hΓ ?_ | refine J.lR hΓ ?_) | (refine J.o 3 ?_; first | refine J.iA hΓ ?_ | refine J.iJ hΓ ?_ | refine J.fP hΓ ?_ | refine J.iC hΓ ?_ | refine J.ev' hΓ ?_) | (refine J.o 1 ?_; first | refine J.ad ?_ | refine J.sb ?_ | refine J.ng ?_ | refine J.mu ?_) | (refine J.o 5 ?_; first | refine J.t0 hΓ ?_ | refine J.t1 hΓ ?_ | refine J.t2 hΓ ?_) | (refine J.o 6 ?_; refine J.bx (fun _ => ?_)) | (refine J.o 7 ?_; refine J.al hΓ (fun _ => ?_)) | (refine J.o 8 ?_; refine J.bd hΓ ?_) | (refine J.o 9 ?_; refine J.bl hΓ (fun _ => ?_)) | (refine J.o 10 ?_; first | refine J.ls hΓ ?_ | refine J.ev' hΓ ?_) | (refine J.o 11 ?_; refine J.ev' hΓ ?_) | refine J.kn ?_) | ((fail_if_success refine J.wt ?_); refine J.gc rfl rfl (fun hc => ?_) (fun hc => ?_) <;> ((try simp only [decide_eq_true_eq, decide_eq_false_iff_not, beq_iff_eq, beq_eq_false_iff_ne, bne_iff_ne, bne_eq_false_iff_eq, Bool.not_eq_true', Bool.not_eq_false', Bool.not_eq_true, Bool.not_eq_false] at hc) <;> first | (first | (exact absurd rfl hc) | (exfalso; omega) | (exact absurd (hc.symm.trans (by assumption : _ = false)) (by decide)) | (exact absurd (hc.symm.trans (by assumption : _ = true)) (by decide))) | skip)))
      | (first | refine JC.seq ?_ | refine JC.region ?_ | refine JC.block ?_ | refine JC.ret ?_ | refine JC.exit ?_ | refine JC.skip ?_ | refine thenK.nn ?_ | refine thenK.r ?_ | refine thenK.x ?_ | refine blockK.nn ?_ | refine blockK.r ?_ | refine blockK.hit rfl ?_ | refine blockK.miss rfl ?_ | refine JC.condT rfl ?_ | refine JC.condF rfl ?_ | (refine JC.cond rfl (fun hc => ?_) (fun hc => ?_) <;> ((try simp only [decide_eq_true_eq, decide_eq_false_iff_not, beq_iff_eq, beq_eq_false_iff_ne, bne_iff_ne, bne_eq_false_iff_eq, Bool.not_eq_true', Bool.not_eq_false', Bool.not_eq_true, Bool.not_eq_false] at hc) <;> first | (first | (exact absurd rfl hc) | (exfalso; omega) | (exact absurd (hc.symm.trans (by assumption : _ = false)) (by decide)) | (exact absurd (hc.symm.trans (by assumption : _ = true)) (by decide))) | skip)) | (refine JC.drawA [] (by kernel_rfl) (by kernel_rfl) ?_) | refine drawK.nn ?_ | refine roundK.nn ?_ | refine roundK.r ?_ | refine roundK.x ?_ | refine loopK.r ?_ | refine loopK.x ?_)
      | (fail)
      | fail
    all_goals first | (exfalso; rw [hp2] at *; omega) | skip
    all_goals refine loopK.nn (m - 1) (by omega) (by repeat (first | refine Ag.upd rfl ?_ | exact Ag.hv)) ⟨_, ⟨k + 1, am, cm, hm, ?_, by omega, by rw [hsc]; rfl, by rw [hsc]; exact om, rfl⟩, fun w hw => H.sel (l := [_, _, _]) (M := []) hw [1, 2]⟩
    all_goals (show Value.int .i64 _ = _; congr 1)
def fromB (f : Nat → Bool) : Nat → Nat
  | 0 => 0
  | j + 1 => 2 * fromB f j + if f j = true then 1 else 0
theorem fromB_lt (f : Nat → Bool) : ∀ j, fromB f j < 2 ^ j
  | 0 => by simp [fromB]
  | j + 1 => by
    have := fromB_lt f j
    rw [fromB, Nat.pow_succ]
    split <;> omega
theorem fromB_bit (f : Nat → Bool) : ∀ (j i : Nat), (fromB f j).testBit i = (decide (i < j) && f (j - 1 - i))
  | 0, i => by simp [fromB]
  | j + 1, 0 => by
    rw [fromB, Nat.testBit_zero, show j + 1 - 1 - 0 = j by omega]
    cases f j <;> simp <;> omega
  | j + 1, i + 1 => by
    rw [fromB, Nat.testBit_succ, show (2 * fromB f j + if f j = true then 1 else 0) / 2 = fromB f j by split <;> omega, fromB_bit f j i]
    rw [show j + 1 - 1 - (i + 1) = j - 1 - i by omega]
    simp
theorem asg_of (e : Int → Bool) (N : Nat) (hN : N ≤ 60) : ∃ k, k < 2 ^ N ∧ ∀ u, hasB (asg N k) u = (decide (1 ≤ u ∧ u ≤ N) && e u) := by
  refine ⟨fromB (fun j => e ((j : Int) + 1)) N, fromB_lt _ _, fun u => ?_⟩
  unfold asg
  rw [has_rev _ N hN, fromB_bit]
  by_cases h : 1 ≤ u ∧ u ≤ N
  · rw [decide_eq_true h, decide_eq_true (by omega), Bool.true_and, Bool.true_and, Bool.true_and]
    congr 1
    omega
  · rw [decide_eq_false h]
    rfl
theorem asg_inj {N i j : Nat} (hN : N ≤ 60) (hi : i < 2 ^ N) (hj : j < 2 ^ N) (h : ∀ u : Int, 1 ≤ u → u ≤ N → hasB (asg N i) u = hasB (asg N j) u) : i = j := by
  apply Nat.eq_of_testBit_eq
  intro b
  rcases Nat.lt_or_ge b N with hb | hb
  · have := h ((N : Int) - b) (by omega) (by omega)
    unfold asg at this
    rw [has_rev _ N hN, has_rev _ N hN, decide_eq_true (by omega), Bool.true_and, Bool.true_and, show ((N : Int) - ((N : Int) - b)).toNat = b by omega] at this
    exact this
  · rw [Nat.testBit_lt_two_pow (Nat.lt_of_lt_of_le hi (Nat.pow_le_pow_right (by omega) hb)), Nat.testBit_lt_two_pow (Nat.lt_of_lt_of_le hj (Nat.pow_le_pow_right (by omega) hb))]
theorem count_one (P : Nat → Bool) (i : Nat) : ∀ m, (∀ k, k < m → P k = decide (k = i)) → ((List.range m).filter P).length = if i < m then 1 else 0
  | 0, _ => by simp
  | m + 1, h => by
    have ih := count_one P i m fun k hk => h k (by omega)
    rw [List.range_succ, List.filter_append, List.length_append, ih, List.filter_cons, List.filter_nil, h m (by omega)]
    by_cases h1 : m = i
    · subst h1
      rw [decide_eq_true rfl, if_neg (by omega), if_pos rfl, if_pos (by omega)]
      rfl
    · rw [decide_eq_false h1]
      by_cases h2 : i < m
      · rw [if_pos h2, if_neg (by decide), if_pos (by omega)]
        rfl
      · rw [if_neg h2, if_neg (by decide), if_neg (by omega)]
        rfl
theorem count_none (P : Nat → Bool) (m : Nat) (h : ∀ k, k < m → P k = false) : ((List.range m).filter P).length = 0 := by
  rw [List.length_eq_zero_iff, List.filter_eq_nil_iff]
  intro k hk
  rw [h k (List.mem_range.1 hk)]
  decide
/-- how many of some sets are one on the variables 1 to q -/
def cntQ (ms : List (Nat × Nat)) (q : Nat) (x : Nat × Nat) : Nat := (ms.filter fun b => decide (cutS b (allS q) = x)).length
theorem cntQ_snoc (ms : List (Nat × Nat)) (b : Nat × Nat) (q : Nat) (x : Nat × Nat) : cntQ (ms ++ [b]) q x = cntQ ms q x + if x = cutS b (allS q) then 1 else 0 := by
  unfold cntQ
  rw [List.filter_append, List.length_append, List.filter_cons, List.filter_nil]
  by_cases h : cutS b (allS q) = x
  · rw [decide_eq_true h, if_pos rfl, if_pos h.symm]
    rfl
  · rw [decide_eq_false h, if_neg (by decide), if_neg (fun e => h e.symm)]
    rfl
theorem cntQ_le (ms : List (Nat × Nat)) (q : Nat) (x : Nat × Nat) : cntQ ms q x ≤ ms.length := List.length_filter_le _ _
theorem cnt_models {q : Nat} {l : List PS} (hE : (encR q l).1 = 0) (M : Nat) (hM : (encR q l).2.1 = M) (h11 : M ≤ 11) (hok : OkT M (encR q l).2.2) (a : Nat × Nat) (ha : okS a) (haq : ∀ u, hasB a u = true → 1 ≤ u ∧ u ≤ q) (Qb : Bool) (hQb : Qb = true ↔ ∀ x, x ∈ l → holdP (hasB a) x) :
    cntQ (msF M (encR q l).2.2 (2 ^ M)) q a = if Qb = true then 1 else 0 := by
  obtain ⟨hn, hl, hc, _⟩ := enc_zero hE
  have hqM : q ≤ M := by have := (enc_mod hE (hasB a)).2.1; omega
  have e0 : cntQ (msF M (encR q l).2.2 (2 ^ M)) q a = ((List.range (2 ^ M)).filter fun k => evT (hasB (asg M k)) (encR q l).2.2 && decide (cutS (asg M k) (allS q) = a)).length := by
    unfold cntQ msF
    rw [List.filter_filter, List.filter_map, List.length_map]
    congr 1
    apply List.filter_congr
    intro k _
    rw [Bool.and_comm]
    rfl
  rw [e0]
  have hagree : ∀ b : Nat × Nat, cutS b (allS q) = a → ∀ v, 1 ≤ v → v ≤ (q : Int) → hasB b v = hasB a v := fun b hb v h1 h2 => by
    have := has_cut b (allS q) v
    rw [hb, (has_all q v (by omega)).2 ⟨h1, h2⟩, Bool.and_true] at this
    exact this.symm
  have hfwd : ∀ k, (evT (hasB (asg M k)) (encR q l).2.2 && decide (cutS (asg M k) (allS q) = a)) = true → (∀ x, x ∈ l → holdP (hasB a) x) ∧ ∀ v, 1 ≤ v → v ≤ (M : Int) → hasB (asg M k) v = extB (hasB a) q l v := fun k hk => by
    rw [Bool.and_eq_true] at hk
    have h1 := (evT_iff _ _).1 hk.1
    have h2 := hagree _ (of_decide_eq_true hk.2)
    have hm := (enc_mod hE (hasB (asg M k))).1.1 h1
    refine ⟨fun x hx => (holdP_congr h2 (hc x hx)).1 (hm.1 x hx), fun v h3 h4 => ?_⟩
    by_cases h5 : v ≤ (q : Int)
    · rw [h2 v h3 h5]
      exact (if_pos h5).symm
    · rw [hm.2 v (by omega) (by omega)]
      unfold extB
      rw [if_neg h5, if_neg h5, valsR_congr h2 l hc]
  cases Qb with
  | false =>
    have hno : ¬ ∀ x, x ∈ l → holdP (hasB a) x := fun h => absurd (hQb.2 h) (by decide)
    rw [if_neg (by decide)]
    refine count_none _ _ fun k hk => ?_
    cases hb : (evT (hasB (asg M k)) (encR q l).2.2 && decide (cutS (asg M k) (allS q) = a)) with
    | false => rfl
    | true => exact absurd (hfwd k hb).1 hno
  | true =>
    have hyes := hQb.1 rfl
    rw [if_pos rfl]
    obtain ⟨i, hi, hiu⟩ := asg_of (extB (hasB a) q l) M (by omega)
    have hie : ∀ v, 1 ≤ v → v ≤ (M : Int) → extB (hasB a) q l v = hasB (asg M i) v := fun v h1 h2 => by
      rw [hiu v, decide_eq_true ⟨h1, h2⟩]
      rfl
    have key := count_one (fun k => evT (hasB (asg M k)) (encR q l).2.2 && decide (cutS (asg M k) (allS q) = a)) i (2 ^ M) fun k hk => by
      by_cases hki : k = i
      · subst hki
        rw [decide_eq_true rfl, Bool.and_eq_true]
        refine ⟨(evT_iff _ _).2 (modT_congr hok hie (enc_ext hE (hasB a) hyes)), decide_eq_true (okS_ext (okS_cut (okS_asg M k (by omega))) ha fun u => ?_)⟩
        rw [has_cut]
        cases hu : hasB a u with
        | true =>
          have h1 := haq u hu
          have h2 : extB (hasB a) q l u = hasB a u := if_pos h1.2
          rw [(has_all q u (by omega)).2 h1, ← hie u h1.1 (by omega), h2, hu]
          rfl
        | false =>
          cases h3 : hasB (allS q) u with
          | false => exact Bool.and_false _
          | true =>
            have h4 := (has_all q u (by omega)).1 h3
            have h2 : extB (hasB a) q l u = hasB a u := if_pos h4.2
            rw [← hie u h4.1 (by omega), h2, hu]
            rfl
      · rw [decide_eq_false hki]
        cases hb : (evT (hasB (asg M k)) (encR q l).2.2 && decide (cutS (asg M k) (allS q) = a)) with
        | false => rfl
        | true => exact absurd (asg_inj (by omega) hk hi fun u h1 h2 => by rw [(hfwd k hb).2 u h1 h2, hie u h1 h2]) hki
    rw [if_pos hi] at key
    exact key
theorem msF_ok {N : Nat} (hN : N ≤ 60) {T : List (List Int)} {m : Nat} {b : Nat × Nat} (h : b ∈ msF N T m) : okS b := by
  unfold msF at h
  rw [List.mem_filter, List.mem_map] at h
  obtain ⟨⟨k, _, rfl⟩, _⟩ := h
  exact okS_asg N k hN
theorem evI_inj (x y : Int) (h : evI x = evI y) : x = y := by
  unfold evI at h
  injection h
set_option maxHeartbeats 16000000 in
theorem one_walk (n : Int) (a : Option Addr) (cap : Nat) (ss : List SV) (h : Heap) (hs : SumsIn a ss h) (hl : ss.length ≤ 9223372036854775807) (w : World) (hw : Holds h w) :
    Calls Try.prog 11 #[.int .i64 n, .slice a ss.length cap] w fun e w' => e = .returned (.bool true) ∧ Below w.heap.size w w' := by
  have q0 : ∀ L, RdH h L h := fun L => RdH.old fun _ hh => hh
  have cL := fun w hw => light_any a cap ss h hs hl w hw
  refine calls_of_JC (R := h) Try.func11 Try.ntmps11 rfl rfl (hw) ?_
  cases hlt : lightP ss with
  | false =>
    rw [hlt] at cL
    repeat' first
      | (refine J.isJ ?_; first | (first | (refine J.fc 13 ?_; refine J.call0 eLight rfl rfl (fun w hw => cL w (hw.rdH (q0 _))) ?_) | (refine J.fc 14 ?_; refine J.call0 eWorks rfl rfl (fun w hw => works_any w) ?_)) | (first | (refine J.o 0 ?_; refine J.ev' hΓ ?_) | refine J.nil ?_ | refine J.kd ?_ | (refine J.o 4 ?_; first | refine J.e0 hΓ ?_ | refine J.lT default hΓ ?_ | refine J.e1 hΓ ?_ | refine J.e2 hΓ ?_ | refine J.lR hΓ ?_) | (refine J.o 3 ?_; first | refine J.iA hΓ ?_ | refine J.iJ hΓ ?_ | refine J.fP hΓ ?_ | refine J.iC hΓ ?_ | refine J.ev' hΓ ?_) | (refine J.o 1 ?_; first | refine J.ad ?_ | refine J.sb ?_ | refine J.ng ?_ | refine J.mu ?_) | (refine J.o 5 ?_; first | refine J.t0 hΓ ?_ | refine J.t1 hΓ ?_ | refine J.t2 hΓ ?_) | (refine J.o 6 ?_; refine J.bx (fun _ => ?_)) | (refine J.o 7 ?_; refine J.al hΓ (fun _ => ?_)) | (refine J.o 8 ?_; refine J.bd hΓ ?_) | (refine J.o 9 ?_; refine J.bl hΓ (fun _ => ?_)) | (refine J.o 10 ?_; first | refine J.ls hΓ ?_ | refine J.ev' hΓ ?_) | (refine J.o 11 ?_; refine J.ev' hΓ ?_) | refine J.kn ?_) | ((fail_if_success refine J.wt ?_); refine J.gc rfl rfl (fun hc => ?_) (fun hc => ?_) <;> ((try simp only [decide_eq_true_eq, decide_eq_false_iff_not, beq_iff_eq, beq_eq_false_iff_ne, bne_iff_ne, bne_eq_false_iff_eq, Bool.not_eq_true', Bool.not_eq_false', Bool.not_eq_true, Bool.not_eq_false] at hc) <;> first | (first | (exact absurd rfl hc) | (exfalso; omega) | (exact absurd (hc.symm.trans (by assumption : _ = false)) (by decide)) | (exact absurd (hc.symm.trans (by assumption : _ = true)) (by decide))) | skip)))
      | (first | refine JC.seq ?_ | refine JC.region ?_ | refine JC.block ?_ | refine JC.ret ?_ | refine JC.exit ?_ | refine JC.skip ?_ | refine thenK.nn ?_ | refine thenK.r ?_ | refine thenK.x ?_ | refine blockK.nn ?_ | refine blockK.r ?_ | refine blockK.hit rfl ?_ | refine blockK.miss rfl ?_ | refine JC.condT rfl ?_ | refine JC.condF rfl ?_ | (refine JC.cond rfl (fun hc => ?_) (fun hc => ?_) <;> ((try simp only [decide_eq_true_eq, decide_eq_false_iff_not, beq_iff_eq, beq_eq_false_iff_ne, bne_iff_ne, bne_eq_false_iff_eq, Bool.not_eq_true', Bool.not_eq_false', Bool.not_eq_true, Bool.not_eq_false] at hc) <;> first | (first | (exact absurd rfl hc) | (exfalso; omega) | (exact absurd (hc.symm.trans (by assumption : _ = false)) (by decide)) | (exact absurd (hc.symm.trans (by assumption : _ = true)) (by decide))) | skip)) | (refine JC.drawA [] (by kernel_rfl) (by kernel_rfl) ?_) | refine drawK.nn ?_ | refine roundK.nn ?_ | refine roundK.r ?_ | refine roundK.x ?_ | refine loopK.r ?_ | refine loopK.x ?_)
      | (fail)
      | fail
    all_goals first | (exfalso; omega) | exact ret1f rfl rfl rfl (fun w1 hw => ⟨rfl, hw.below⟩)
  | true =>
    rw [hlt] at cL
    obtain ⟨hsz, h40⟩ := light40 hlt
    by_cases h07 : 0 ≤ n ∧ n ≤ 7
    case neg =>
      repeat' first
        | (refine J.isJ ?_; first | (first | (refine J.fc 13 ?_; refine J.call0 eLight rfl rfl (fun w hw => cL w (hw.rdH (q0 _))) ?_) | (refine J.fc 14 ?_; refine J.call0 eWorks rfl rfl (fun w hw => works_any w) ?_)) | (first | (refine J.o 0 ?_; refine J.ev' hΓ ?_) | refine J.nil ?_ | refine J.kd ?_ | (refine J.o 4 ?_; first | refine J.e0 hΓ ?_ | refine J.lT default hΓ ?_ | refine J.e1 hΓ ?_ | refine J.e2 hΓ ?_ | refine J.lR hΓ ?_) | (refine J.o 3 ?_; first | refine J.iA hΓ ?_ | refine J.iJ hΓ ?_ | refine J.fP hΓ ?_ | refine J.iC hΓ ?_ | refine J.ev' hΓ ?_) | (refine J.o 1 ?_; first | refine J.ad ?_ | refine J.sb ?_ | refine J.ng ?_ | refine J.mu ?_) | (refine J.o 5 ?_; first | refine J.t0 hΓ ?_ | refine J.t1 hΓ ?_ | refine J.t2 hΓ ?_) | (refine J.o 6 ?_; refine J.bx (fun _ => ?_)) | (refine J.o 7 ?_; refine J.al hΓ (fun _ => ?_)) | (refine J.o 8 ?_; refine J.bd hΓ ?_) | (refine J.o 9 ?_; refine J.bl hΓ (fun _ => ?_)) | (refine J.o 10 ?_; first | refine J.ls hΓ ?_ | refine J.ev' hΓ ?_) | (refine J.o 11 ?_; refine J.ev' hΓ ?_) | refine J.kn ?_) | ((fail_if_success refine J.wt ?_); refine J.gc rfl rfl (fun hc => ?_) (fun hc => ?_) <;> ((try simp only [decide_eq_true_eq, decide_eq_false_iff_not, beq_iff_eq, beq_eq_false_iff_ne, bne_iff_ne, bne_eq_false_iff_eq, Bool.not_eq_true', Bool.not_eq_false', Bool.not_eq_true, Bool.not_eq_false] at hc) <;> first | (first | (exact absurd rfl hc) | (exfalso; omega) | (exact absurd (hc.symm.trans (by assumption : _ = false)) (by decide)) | (exact absurd (hc.symm.trans (by assumption : _ = true)) (by decide))) | skip)))
        | (first | refine JC.seq ?_ | refine JC.region ?_ | refine JC.block ?_ | refine JC.ret ?_ | refine JC.exit ?_ | refine JC.skip ?_ | refine thenK.nn ?_ | refine thenK.r ?_ | refine thenK.x ?_ | refine blockK.nn ?_ | refine blockK.r ?_ | refine blockK.hit rfl ?_ | refine blockK.miss rfl ?_ | refine JC.condT rfl ?_ | refine JC.condF rfl ?_ | (refine JC.cond rfl (fun hc => ?_) (fun hc => ?_) <;> ((try simp only [decide_eq_true_eq, decide_eq_false_iff_not, beq_iff_eq, beq_eq_false_iff_ne, bne_iff_ne, bne_eq_false_iff_eq, Bool.not_eq_true', Bool.not_eq_false', Bool.not_eq_true, Bool.not_eq_false] at hc) <;> first | (first | (exact absurd rfl hc) | (exfalso; omega) | (exact absurd (hc.symm.trans (by assumption : _ = false)) (by decide)) | (exact absurd (hc.symm.trans (by assumption : _ = true)) (by decide))) | skip)) | (refine JC.drawA [] (by kernel_rfl) (by kernel_rfl) ?_) | refine drawK.nn ?_ | refine roundK.nn ?_ | refine roundK.r ?_ | refine roundK.x ?_ | refine loopK.r ?_ | refine loopK.x ?_)
        | (fail)
        | fail
      all_goals first | (exfalso; omega) | exact ret1f rfl rfl rfl (fun w1 hw => ⟨rfl, hw.below⟩)
    have cE : ∀ w, Holds h w → Calls Try.prog 20 #[.int .i64 n, .slice a ss.length cap] w (Gives (fun v g => ∃ a cap vs, v = .tuple #[.agg ⟨[.int .i64 (encR n (ss.map psV)).2.1, .slice a vs.length cap]⟩, .int .i64 (encR n (ss.map psV)).1] ∧ LLS a vs g ∧ vs.map (·.l) = (encR n (ss.map psV)).2.2) w) := fun w hw => by
      refine (encode_any n a cap ss h hs (by omega) w hw).mono ?_
      rintro e w' ⟨v, g, h1, h2, h3, h4, h5, tv, g0, g1, h6, rfl, h8⟩
      obtain ⟨aa, ka, vs, rfl, lls, hvs⟩ := encR_lls h8
      exact ⟨v, _, h1, h2, h3, h4, h5, aa, ka, vs, h6, lls, hvs⟩
    by_cases he : (encR n (ss.map psV)).1 = 0 ∧ (encR n (ss.map psV)).2.1 ≤ 11
    case neg =>
      generalize (encR n (ss.map psV)).1 = ec at *
      generalize (encR n (ss.map psV)).2.1 = eN at *
      repeat' first
        | (refine J.isJ ?_; first | (first | (refine J.fc 13 ?_; refine J.call0 eLight rfl rfl (fun w hw => cL w (hw.rdH (q0 _))) ?_) | (refine J.fc 20 ?_; refine J.call1 eEncode rfl rfl (fun w hw => cE w (hw.rdH (q0 _))) ?_; rintro _ hgA ⟨aA, kA, vA, rfl, llA, hvA⟩) | (refine J.fc 14 ?_; refine J.call0 eWorks rfl rfl (fun w hw => works_any w) ?_)) | (first | (refine J.o 0 ?_; refine J.ev' hΓ ?_) | refine J.nil ?_ | refine J.kd ?_ | (refine J.o 4 ?_; first | refine J.e0 hΓ ?_ | refine J.lT default hΓ ?_ | refine J.e1 hΓ ?_ | refine J.e2 hΓ ?_ | refine J.lR hΓ ?_) | (refine J.o 3 ?_; first | refine J.iA hΓ ?_ | refine J.iJ hΓ ?_ | refine J.fP hΓ ?_ | refine J.iC hΓ ?_ | refine J.ev' hΓ ?_) | (refine J.o 1 ?_; first | refine J.ad ?_ | refine J.sb ?_ | refine J.ng ?_ | refine J.mu ?_) | (refine J.o 5 ?_; first | refine J.t0 hΓ ?_ | refine J.t1 hΓ ?_ | refine J.t2 hΓ ?_) | (refine J.o 6 ?_; refine J.bx (fun _ => ?_)) | (refine J.o 7 ?_; refine J.al hΓ (fun _ => ?_)) | (refine J.o 8 ?_; refine J.bd hΓ ?_) | (refine J.o 9 ?_; refine J.bl hΓ (fun _ => ?_)) | (refine J.o 10 ?_; first | refine J.ls hΓ ?_ | refine J.ev' hΓ ?_) | (refine J.o 11 ?_; refine J.ev' hΓ ?_) | refine J.kn ?_) | ((fail_if_success refine J.wt ?_); refine J.gc rfl rfl (fun hc => ?_) (fun hc => ?_) <;> ((try simp only [decide_eq_true_eq, decide_eq_false_iff_not, beq_iff_eq, beq_eq_false_iff_ne, bne_iff_ne, bne_eq_false_iff_eq, Bool.not_eq_true', Bool.not_eq_false', Bool.not_eq_true, Bool.not_eq_false] at hc) <;> first | (first | (exact absurd rfl hc) | (exfalso; omega) | (exact absurd (hc.symm.trans (by assumption : _ = false)) (by decide)) | (exact absurd (hc.symm.trans (by assumption : _ = true)) (by decide))) | skip)))
        | (first | refine JC.seq ?_ | refine JC.region ?_ | refine JC.block ?_ | refine JC.ret ?_ | refine JC.exit ?_ | refine JC.skip ?_ | refine thenK.nn ?_ | refine thenK.r ?_ | refine thenK.x ?_ | refine blockK.nn ?_ | refine blockK.r ?_ | refine blockK.hit rfl ?_ | refine blockK.miss rfl ?_ | refine JC.condT rfl ?_ | refine JC.condF rfl ?_ | (refine JC.cond rfl (fun hc => ?_) (fun hc => ?_) <;> ((try simp only [decide_eq_true_eq, decide_eq_false_iff_not, beq_iff_eq, beq_eq_false_iff_ne, bne_iff_ne, bne_eq_false_iff_eq, Bool.not_eq_true', Bool.not_eq_false', Bool.not_eq_true, Bool.not_eq_false] at hc) <;> first | (first | (exact absurd rfl hc) | (exfalso; omega) | (exact absurd (hc.symm.trans (by assumption : _ = false)) (by decide)) | (exact absurd (hc.symm.trans (by assumption : _ = true)) (by decide))) | skip)) | (refine JC.drawA [] (by kernel_rfl) (by kernel_rfl) ?_) | refine drawK.nn ?_ | refine roundK.nn ?_ | refine roundK.r ?_ | refine roundK.x ?_ | refine loopK.r ?_ | refine loopK.x ?_)
        | (fail)
        | fail
      all_goals first | (exfalso; omega) | skip
      all_goals exact ret1f rfl rfl rfl (fun w1 hw => ⟨rfl, hw.below⟩)
    obtain ⟨he, h11⟩ := he
    obtain ⟨hn, hl4, hc, _⟩ := enc_zero he
    have hval := valid_ok he
    have hem := fun b => enc_mod he b
    obtain ⟨q, rfl⟩ : ∃ q : Nat, n = (q : Int) := ⟨n.toNat, by omega⟩
    obtain ⟨M, hM⟩ : ∃ M : Nat, (encR (q : Int) (ss.map psV)).2.1 = (M : Int) := ⟨_, (hem (fun _ => true)).2.1.trans (by rw [← Int.natCast_add])⟩
    have hMb : q ≤ M ∧ M ≤ 11 := by have := (hem (fun _ => true)).2; omega
    have hcs : ∀ x, x ∈ ss → checkS x.cs x.ls x.least 128 = 0 := fun x hx => check_128 (hc _ (List.mem_map_of_mem hx))
    have hvT := hval.t
    rw [hM] at hvT
    have hcnt := fun (x : Nat × Nat) (hx : okS x) (hxq : ∀ u, hasB x u = true → 1 ≤ u ∧ u ≤ (q : Int)) => cnt_models he M hM hMb.2 hvT x hx hxq (ss.all (evS x)) all_holds
    have hcl : ∀ (aA : Option Addr) (kA : Nat) (vA : List HV) (hgA : Heap), LLS aA vA hgA → vA.map (·.l) = (encR (q : Int) (ss.map psV)).2.2 → LLR aA vA hgA ∧ OkT (M : Int) (vA.map (·.l)) ∧ vA.length ≤ 4096 := fun aA kA vA hgA llA hvA => ⟨llA.r, by rw [hvA]; exact hvT, by have := congrArg List.length hvA; rw [List.length_map] at this; have := hval.len; omega⟩
    have cA := fun w => all_any q (by omega) w
    have hmok : ∀ b, b ∈ msF M (encR (q : Int) (ss.map psV)).2.2 (2 ^ M) → okS b := fun b hb => msF_ok (by omega) hb
    have hmlen := msF_len M (encR (q : Int) (ss.map psV)).2.2 (2 ^ M)
    have hp11 : 2 ^ M ≤ 2 ^ 11 := Nat.pow_le_pow_right (by omega) hMb.2
    have hpq : 2 ^ q ≤ 2 ^ 7 := Nat.pow_le_pow_right (by omega) (by omega)
    rw [he, hM] at cE
    generalize hET : (encR (q : Int) (ss.map psV)).2.2 = eT at *
    clear hem hval hl4
    repeat' first
      | (refine J.isJ ?_; first | (first | (refine J.fc 13 ?_; refine J.call0 eLight rfl rfl (fun w hw => cL w (hw.rdH (q0 _))) ?_) | (refine J.fc 20 ?_; refine J.call1 eEncode rfl rfl (fun w hw => cE w (hw.rdH (q0 _))) ?_; rintro _ hgA ⟨aA, kA, vA, rfl, llA, hvA⟩; have hcp := hcl aA kA vA hgA llA hvA) | (refine J.o 9 ?_; refine J.mkm (fun bm => ?_)) | (refine J.fc 26 ?_; refine J.call1 eModels rfl rfl (fun w hw => models_any M aA kA vA hgA hcp.1 hcp.2.1 hMb.2 hcp.2.2 w (hw.rdH (by first | exact RdH.hd | exact RdH.hd.tl | exact RdH.hd.tl.tl | exact RdH.hd.tl.tl.tl | exact RdH.hd.tl.tl.tl.tl | exact RdH.hd.tl.tl.tl.tl.tl | exact RdH.hd.tl.tl.tl.tl.tl.tl | exact RdH.hd.tl.tl.tl.tl.tl.tl.tl | exact RdH.old (fun _ hh => hh) | assumption))) ?_; rw [hvA]; rintro _ hms ⟨am, cm, rfl, om⟩)) | (first | (refine J.o 0 ?_; refine J.ev' hΓ ?_) | refine J.nil ?_ | refine J.kd ?_ | (refine J.o 4 ?_; first | refine J.e0 hΓ ?_ | refine J.lT default hΓ ?_ | refine J.e1 hΓ ?_ | refine J.e2 hΓ ?_ | refine J.lR hΓ ?_) | (refine J.o 3 ?_; first | refine J.iA hΓ ?_ | refine J.iJ hΓ ?_ | refine J.fP hΓ ?_ | refine J.iC hΓ ?_ | refine J.ev' hΓ ?_) | (refine J.o 1 ?_; first | refine J.ad ?_ | refine J.sb ?_ | refine J.ng ?_ | refine J.mu ?_) | (refine J.o 5 ?_; first | refine J.t0 hΓ ?_ | refine J.t1 hΓ ?_ | refine J.t2 hΓ ?_) | (refine J.o 6 ?_; refine J.bx (fun _ => ?_)) | (refine J.o 7 ?_; refine J.al hΓ (fun _ => ?_)) | (refine J.o 8 ?_; refine J.bd hΓ ?_) | (refine J.o 9 ?_; refine J.bl hΓ (fun _ => ?_)) | (refine J.o 10 ?_; first | refine J.ls hΓ ?_ | refine J.ev' hΓ ?_) | (refine J.o 11 ?_; refine J.ev' hΓ ?_) | refine J.kn ?_) | ((fail_if_success refine J.wt ?_); refine J.gc rfl rfl (fun hc => ?_) (fun hc => ?_) <;> ((try simp only [decide_eq_true_eq, decide_eq_false_iff_not, beq_iff_eq, beq_eq_false_iff_ne, bne_iff_ne, bne_eq_false_iff_eq, Bool.not_eq_true', Bool.not_eq_false', Bool.not_eq_true, Bool.not_eq_false] at hc) <;> first | (first | (exact absurd rfl hc) | (exfalso; omega) | (exact absurd (hc.symm.trans (by assumption : _ = false)) (by decide)) | (exact absurd (hc.symm.trans (by assumption : _ = true)) (by decide))) | skip)))
      | (first | refine JC.seq ?_ | refine JC.region ?_ | refine JC.block ?_ | refine JC.ret ?_ | refine JC.exit ?_ | refine JC.skip ?_ | refine thenK.nn ?_ | refine thenK.r ?_ | refine thenK.x ?_ | refine blockK.nn ?_ | refine blockK.r ?_ | refine blockK.hit rfl ?_ | refine blockK.miss rfl ?_ | refine JC.condT rfl ?_ | refine JC.condF rfl ?_ | (refine JC.cond rfl (fun hc => ?_) (fun hc => ?_) <;> ((try simp only [decide_eq_true_eq, decide_eq_false_iff_not, beq_iff_eq, beq_eq_false_iff_ne, bne_iff_ne, bne_eq_false_iff_eq, Bool.not_eq_true', Bool.not_eq_false', Bool.not_eq_true, Bool.not_eq_false] at hc) <;> first | (first | (exact absurd rfl hc) | (exfalso; omega) | (exact absurd (hc.symm.trans (by assumption : _ = false)) (by decide)) | (exact absurd (hc.symm.trans (by assumption : _ = true)) (by decide))) | skip)) | (refine JC.drawA [] (by kernel_rfl) (by kernel_rfl) ?_) | refine drawK.nn ?_ | refine roundK.nn ?_ | refine roundK.r ?_ | refine roundK.x ?_ | refine loopK.r ?_ | refine loopK.x ?_)
      | (fail)
      | fail
    all_goals first | (exfalso; omega) | skip
    rename_i b5
    generalize msF M eT (2 ^ M) = ms at *
    refine JC.weak (L' := [hms, [(bm, .map ⟨[]⟩ 0)]]) (fun w hw => H.sel (l := [_, _, _, _]) (M := []) hw [0, 1]) ?_
    refine JC.gen [(0, .int .i64 (q : Int)), (1, .slice a ss.length cap), (7, .map (some bm)), (41, .slice am ms.length cm), (42, .int .i64 ms.length), (43, .int .i64 0)] ⟨rfl, rfl, rfl, rfl, rfl, rfl, trivial⟩ (fun F => ?_)
    refine JC.loopG (fun i => i == 9 || (Nat.ble 43 i && Nat.ble i 56)) (fun m g L => ∃ (j : Nat) (mm : List ((Nat × Nat) × Int)) (hm : Heap), g 43 = .int .i64 (j : Int) ∧ j + m = ms.length ∧ MapT Try.prog 52 sv evI mm bm hm ∧ (∀ x, (mget mm x).getD 0 = (cntQ (ms.take j) q x : Nat)) ∧ L = [hms, hm]) ms.length ⟨0, [], _, rfl, by omega, MapT.nil bm, fun x => rfl, rfl⟩ ?_
    rintro m g L ⟨j, mm, hm, e43, hjm, mt, hmm, rfl⟩
    refine JC.pin 43 e43 ?_
    clear e43
    have som := om.sl
    rcases Nat.lt_or_ge j ms.length with hj | hj
    case inl =>
      have hbm := mem_g ms j hj
      have hbo := hmok _ hbm
      have cC := fun w => cut_any (ms.getD j default) (allS q) hbo (okS_all q) w
      have hco := okS_cut (t := allS q) hbo
      have hsnoc := fun x => cntQ_snoc (ms.take j) (ms.getD j default) q x
      rw [← take_g ms j hj] at hsnoc
      have hcle := cntQ_le (ms.take j) q (cutS (ms.getD j default) (allS q))
      rw [List.length_take] at hcle
      generalize cutS (ms.getD j default) (allS q) = cx at *
      have hnew : ∀ x, (mget (mput mm cx (((cntQ (ms.take j) q cx : Nat) : Int) + 1)) x).getD 0 = (cntQ (ms.take (j + 1)) q x : Nat) := fun x => by
        rw [mget_mput, hsnoc x]
        by_cases hx : x = cx
        · rw [if_pos hx, if_pos hx, hx]
          rfl
        · rw [if_neg hx, if_neg hx, Nat.add_zero]
          exact hmm x
      repeat' first
        | (refine J.isJ ?_; first | ((refine J.o 4 ?_; refine J.lT default hΓ ?_ (hs := som) (hr := RdH.hd))) | (first | (refine J.o 0 ?_; refine J.ev' hΓ ?_) | refine J.nil ?_ | refine J.kd ?_ | (refine J.o 4 ?_; first | refine J.e0 hΓ ?_ | refine J.lT default hΓ ?_ | refine J.e1 hΓ ?_ | refine J.e2 hΓ ?_ | refine J.lR hΓ ?_) | (refine J.o 3 ?_; first | refine J.iA hΓ ?_ | refine J.iJ hΓ ?_ | refine J.fP hΓ ?_ | refine J.iC hΓ ?_ | refine J.ev' hΓ ?_) | (refine J.o 1 ?_; first | refine J.ad ?_ | refine J.sb ?_ | refine J.ng ?_ | refine J.mu ?_) | (refine J.o 5 ?_; first | refine J.t0 hΓ ?_ | refine J.t1 hΓ ?_ | refine J.t2 hΓ ?_) | (refine J.o 6 ?_; refine J.bx (fun _ => ?_)) | (refine J.o 7 ?_; refine J.al hΓ (fun _ => ?_)) | (refine J.o 8 ?_; refine J.bd hΓ ?_) | (refine J.o 9 ?_; refine J.bl hΓ (fun _ => ?_)) | (refine J.o 10 ?_; first | refine J.ls hΓ ?_ | refine J.ev' hΓ ?_) | (refine J.o 11 ?_; refine J.ev' hΓ ?_) | refine J.kn ?_) | ((fail_if_success refine J.wt ?_); refine J.gc rfl rfl (fun hc => ?_) (fun hc => ?_) <;> ((try simp only [decide_eq_true_eq, decide_eq_false_iff_not, beq_iff_eq, beq_eq_false_iff_ne, bne_iff_ne, bne_eq_false_iff_eq, Bool.not_eq_true', Bool.not_eq_false', Bool.not_eq_true, Bool.not_eq_false] at hc) <;> first | (first | (exact absurd rfl hc) | (exfalso; omega) | (exact absurd (hc.symm.trans (by assumption : _ = false)) (by decide)) | (exact absurd (hc.symm.trans (by assumption : _ = true)) (by decide))) | skip)))
        | (first | refine JC.seq ?_ | refine JC.region ?_ | refine JC.block ?_ | refine JC.ret ?_ | refine JC.exit ?_ | refine JC.skip ?_ | refine thenK.nn ?_ | refine thenK.r ?_ | refine thenK.x ?_ | refine blockK.nn ?_ | refine blockK.r ?_ | refine blockK.hit rfl ?_ | refine blockK.miss rfl ?_ | refine JC.condT rfl ?_ | refine JC.condF rfl ?_ | (refine JC.cond rfl (fun hc => ?_) (fun hc => ?_) <;> ((try simp only [decide_eq_true_eq, decide_eq_false_iff_not, beq_iff_eq, beq_eq_false_iff_ne, bne_iff_ne, bne_eq_false_iff_eq, Bool.not_eq_true', Bool.not_eq_false', Bool.not_eq_true, Bool.not_eq_false] at hc) <;> first | (first | (exact absurd rfl hc) | (exfalso; omega) | (exact absurd (hc.symm.trans (by assumption : _ = false)) (by decide)) | (exact absurd (hc.symm.trans (by assumption : _ = true)) (by decide))) | skip)) | refine drawK.nn ?_ | refine roundK.nn ?_ | refine roundK.r ?_ | refine roundK.x ?_ | refine loopK.r ?_ | refine loopK.x ?_)
        | (fail)
        | fail
      all_goals first | (exfalso; omega) | skip
      rename_i b9
      refine JC.drawE [[(b9, .cells ⟨[.int .u64 ((ms.getD j default).1 : Int), .int .u64 ((ms.getD j default).2 : Int)]⟩ 52 (0, 0))]] [3, 4, 5, 7, 9] [3, 4, 5, 7, 9] [(0,0),(4,1),(0,2),(3,3),(3,4)] 5 _ (by kernel_rfl) (by kernel_rfl) rfl ?_
      repeat' first
        | (refine J.isJ ?_; first | (first | (refine J.fc 28 ?_; refine J.call0 eAll rfl rfl (fun w hw => cA w) ?_) | (refine J.fc 27 ?_; refine J.call0 eCut rfl rfl (fun w hw => cC w) ?_)) | (first | (refine J.o 0 ?_; refine J.ev' hΓ ?_) | refine J.nil ?_ | refine J.kd ?_ | (refine J.o 4 ?_; first | refine J.e0 hΓ ?_ | refine J.lT default hΓ ?_ | refine J.e1 hΓ ?_ | refine J.e2 hΓ ?_ | refine J.lR hΓ ?_) | (refine J.o 3 ?_; first | refine J.iA hΓ ?_ | refine J.iJ hΓ ?_ | refine J.fP hΓ ?_ | refine J.iC hΓ ?_ | refine J.ev' hΓ ?_) | (refine J.o 1 ?_; first | refine J.ad ?_ | refine J.sb ?_ | refine J.ng ?_ | refine J.mu ?_) | (refine J.o 5 ?_; first | refine J.t0 hΓ ?_ | refine J.t1 hΓ ?_ | refine J.t2 hΓ ?_) | (refine J.o 6 ?_; refine J.bx (fun _ => ?_)) | (refine J.o 7 ?_; refine J.al hΓ (fun _ => ?_)) | (refine J.o 8 ?_; refine J.bd hΓ ?_) | (refine J.o 9 ?_; refine J.bl hΓ (fun _ => ?_)) | (refine J.o 10 ?_; first | refine J.ls hΓ ?_ | refine J.ev' hΓ ?_) | (refine J.o 11 ?_; refine J.ev' hΓ ?_) | refine J.kn ?_) | ((fail_if_success refine J.wt ?_); refine J.gc rfl rfl (fun hc => ?_) (fun hc => ?_) <;> ((try simp only [decide_eq_true_eq, decide_eq_false_iff_not, beq_iff_eq, beq_eq_false_iff_ne, bne_iff_ne, bne_eq_false_iff_eq, Bool.not_eq_true', Bool.not_eq_false', Bool.not_eq_true, Bool.not_eq_false] at hc) <;> first | (first | (exact absurd rfl hc) | (exfalso; omega) | (exact absurd (hc.symm.trans (by assumption : _ = false)) (by decide)) | (exact absurd (hc.symm.trans (by assumption : _ = true)) (by decide))) | skip)))
        | (first | (refine JE.is ?_; first | refine JE.s0 ?_ | refine JE.s1 ?_ | refine JE.s2 ?_ | refine JE.s3 ?_ | refine JE.nil ?_ | refine JE.s4 rfl (fun w hw => hw.subl (by repeat (first | exact List.nil_sublist _ | exact List.Sublist.refl _ | refine List.Sublist.cons_cons _ ?_ | refine List.Sublist.cons _ ?_))) ?_) | refine eK0.nn ?_ | refine eK2.nn ?_ | (refine eK3.is ?_; refine eK3.nn (fun w hw => hw.subl (by repeat (first | exact List.nil_sublist _ | exact List.Sublist.refl _ | refine List.Sublist.cons_cons _ ?_ | refine List.Sublist.cons _ ?_))) ?_) | refine brK.nn ?_)
        | (first | refine JC.seq ?_ | refine JC.region ?_ | refine JC.block ?_ | refine JC.ret ?_ | refine JC.exit ?_ | refine JC.skip ?_ | refine thenK.nn ?_ | refine thenK.r ?_ | refine thenK.x ?_ | refine blockK.nn ?_ | refine blockK.r ?_ | refine blockK.hit rfl ?_ | refine blockK.miss rfl ?_ | refine JC.condT rfl ?_ | refine JC.condF rfl ?_ | (refine JC.cond rfl (fun hc => ?_) (fun hc => ?_) <;> ((try simp only [decide_eq_true_eq, decide_eq_false_iff_not, beq_iff_eq, beq_eq_false_iff_ne, bne_iff_ne, bne_eq_false_iff_eq, Bool.not_eq_true', Bool.not_eq_false', Bool.not_eq_true, Bool.not_eq_false] at hc) <;> first | (first | (exact absurd rfl hc) | (exfalso; omega) | (exact absurd (hc.symm.trans (by assumption : _ = false)) (by decide)) | (exact absurd (hc.symm.trans (by assumption : _ = true)) (by decide))) | skip)) | refine drawK.nn ?_ | refine roundK.nn ?_ | refine roundK.r ?_ | refine roundK.x ?_ | refine loopK.r ?_ | refine loopK.x ?_)
        | (fail)
        | fail
      refine Br.two (c1 := 1) (c2 := 1) (m1 := 0) (m2 := 0) 5 7 [(0, 6), (3, 7), (0, 8), (3, 9)] [(0, 8), (3, 5), (0, 6), (3, 9)] (by decide +kernel) rfl rfl (by decide +kernel) rfl (by decide +kernel) rfl ?_ ?_
      ·
        repeat' first
          | (refine J.isJ ?_; first | (first | (refine J.o 9 ?_; refine J.lkI (a := cx) _ set_keyed sv_inj mt RdH.hd.tl.tl (set_key cx hco) hΓ (hmm cx) ?_) | (refine J.o 9 ?_; refine J.perm br2 ?_; refine J.men (a := cx) (0 : Int) evI_inj set_keyed sv_inj mt (set_key cx hco) hΓ (fun v0 st h1 hp1 => ?_)) | (refine J.o 9 ?_; refine J.est (((cntQ (ms.take j) q cx : Nat) : Int) + 1) hp1 (fun h2 mt2 => ?_))) | (first | (refine J.o 0 ?_; refine J.ev' hΓ ?_) | refine J.nil ?_ | refine J.kd ?_ | (refine J.o 4 ?_; first | refine J.e0 hΓ ?_ | refine J.lT default hΓ ?_ | refine J.e1 hΓ ?_ | refine J.e2 hΓ ?_ | refine J.lR hΓ ?_) | (refine J.o 3 ?_; first | refine J.iA hΓ ?_ | refine J.iJ hΓ ?_ | refine J.fP hΓ ?_ | refine J.iC hΓ ?_ | refine J.ev' hΓ ?_) | (refine J.o 1 ?_; first | refine J.ad ?_ | refine J.sb ?_ | refine J.ng ?_ | refine J.mu ?_) | (refine J.o 5 ?_; first | refine J.t0 hΓ ?_ | refine J.t1 hΓ ?_ | refine J.t2 hΓ ?_) | (refine J.o 6 ?_; refine J.bx (fun _ => ?_)) | (refine J.o 7 ?_; refine J.al hΓ (fun _ => ?_)) | (refine J.o 8 ?_; refine J.bd hΓ ?_) | (refine J.o 9 ?_; refine J.bl hΓ (fun _ => ?_)) | (refine J.o 10 ?_; first | refine J.ls hΓ ?_ | refine J.ev' hΓ ?_) | (refine J.o 11 ?_; refine J.ev' hΓ ?_) | refine J.kn ?_) | ((fail_if_success refine J.wt ?_); refine J.gc rfl rfl (fun hc => ?_) (fun hc => ?_) <;> ((try simp only [decide_eq_true_eq, decide_eq_false_iff_not, beq_iff_eq, beq_eq_false_iff_ne, bne_iff_ne, bne_eq_false_iff_eq, Bool.not_eq_true', Bool.not_eq_false', Bool.not_eq_true, Bool.not_eq_false] at hc) <;> first | (first | (exact absurd rfl hc) | (exfalso; omega) | (exact absurd (hc.symm.trans (by assumption : _ = false)) (by decide)) | (exact absurd (hc.symm.trans (by assumption : _ = true)) (by decide))) | skip)))
          | (first | (refine JE.is ?_; first | refine JE.s0 ?_ | refine JE.s1 ?_ | refine JE.s2 ?_ | refine JE.s3 ?_ | refine JE.nil ?_ | refine JE.s4 rfl (fun w hw => hw.subl (by repeat (first | exact List.nil_sublist _ | exact List.Sublist.refl _ | refine List.Sublist.cons_cons _ ?_ | refine List.Sublist.cons _ ?_))) ?_) | refine eK0.nn ?_ | refine eK2.nn ?_ | (refine eK3.is ?_; refine eK3.nn (fun w hw => hw.subl (by repeat (first | exact List.nil_sublist _ | exact List.Sublist.refl _ | refine List.Sublist.cons_cons _ ?_ | refine List.Sublist.cons _ ?_))) ?_) | refine brK.nn ?_)
          | (first | refine JC.seq ?_ | refine JC.region ?_ | refine JC.block ?_ | refine JC.ret ?_ | refine JC.exit ?_ | refine JC.skip ?_ | refine thenK.nn ?_ | refine thenK.r ?_ | refine thenK.x ?_ | refine blockK.nn ?_ | refine blockK.r ?_ | refine blockK.hit rfl ?_ | refine blockK.miss rfl ?_ | refine JC.condT rfl ?_ | refine JC.condF rfl ?_ | (refine JC.cond rfl (fun hc => ?_) (fun hc => ?_) <;> ((try simp only [decide_eq_true_eq, decide_eq_false_iff_not, beq_iff_eq, beq_eq_false_iff_ne, bne_iff_ne, bne_eq_false_iff_eq, Bool.not_eq_true', Bool.not_eq_false', Bool.not_eq_true, Bool.not_eq_false] at hc) <;> first | (first | (exact absurd rfl hc) | (exfalso; omega) | (exact absurd (hc.symm.trans (by assumption : _ = false)) (by decide)) | (exact absurd (hc.symm.trans (by assumption : _ = true)) (by decide))) | skip)) | refine drawK.nn ?_ | refine roundK.nn ?_ | refine roundK.r ?_ | refine roundK.x ?_ | refine loopK.r ?_ | refine loopK.x ?_)
          | (fail)
          | fail
        all_goals first | (exfalso; omega) | skip
        refine Br.done (by kernel_rfl) ?_
        repeat' first
          | (refine J.isJ ?_; first | (fail) | (first | (refine J.o 0 ?_; refine J.ev' hΓ ?_) | refine J.nil ?_ | refine J.kd ?_ | (refine J.o 4 ?_; first | refine J.e0 hΓ ?_ | refine J.lT default hΓ ?_ | refine J.e1 hΓ ?_ | refine J.e2 hΓ ?_ | refine J.lR hΓ ?_) | (refine J.o 3 ?_; first | refine J.iA hΓ ?_ | refine J.iJ hΓ ?_ | refine J.fP hΓ ?_ | refine J.iC hΓ ?_ | refine J.ev' hΓ ?_) | (refine J.o 1 ?_; first | refine J.ad ?_ | refine J.sb ?_ | refine J.ng ?_ | refine J.mu ?_) | (refine J.o 5 ?_; first | refine J.t0 hΓ ?_ | refine J.t1 hΓ ?_ | refine J.t2 hΓ ?_) | (refine J.o 6 ?_; refine J.bx (fun _ => ?_)) | (refine J.o 7 ?_; refine J.al hΓ (fun _ => ?_)) | (refine J.o 8 ?_; refine J.bd hΓ ?_) | (refine J.o 9 ?_; refine J.bl hΓ (fun _ => ?_)) | (refine J.o 10 ?_; first | refine J.ls hΓ ?_ | refine J.ev' hΓ ?_) | (refine J.o 11 ?_; refine J.ev' hΓ ?_) | refine J.kn ?_) | ((fail_if_success refine J.wt ?_); refine J.gc rfl rfl (fun hc => ?_) (fun hc => ?_) <;> ((try simp only [decide_eq_true_eq, decide_eq_false_iff_not, beq_iff_eq, beq_eq_false_iff_ne, bne_iff_ne, bne_eq_false_iff_eq, Bool.not_eq_true', Bool.not_eq_false', Bool.not_eq_true, Bool.not_eq_false] at hc) <;> first | (first | (exact absurd rfl hc) | (exfalso; omega) | (exact absurd (hc.symm.trans (by assumption : _ = false)) (by decide)) | (exact absurd (hc.symm.trans (by assumption : _ = true)) (by decide))) | skip)))
          | (first | refine JC.seq ?_ | refine JC.region ?_ | refine JC.block ?_ | refine JC.ret ?_ | refine JC.exit ?_ | refine JC.skip ?_ | refine thenK.nn ?_ | refine thenK.r ?_ | refine thenK.x ?_ | refine blockK.nn ?_ | refine blockK.r ?_ | refine blockK.hit rfl ?_ | refine blockK.miss rfl ?_ | refine JC.condT rfl ?_ | refine JC.condF rfl ?_ | (refine JC.cond rfl (fun hc => ?_) (fun hc => ?_) <;> ((try simp only [decide_eq_true_eq, decide_eq_false_iff_not, beq_iff_eq, beq_eq_false_iff_ne, bne_iff_ne, bne_eq_false_iff_eq, Bool.not_eq_true', Bool.not_eq_false', Bool.not_eq_true, Bool.not_eq_false] at hc) <;> first | (first | (exact absurd rfl hc) | (exfalso; omega) | (exact absurd (hc.symm.trans (by assumption : _ = false)) (by decide)) | (exact absurd (hc.symm.trans (by assumption : _ = true)) (by decide))) | skip)) | refine drawK.nn ?_ | refine roundK.nn ?_ | refine roundK.r ?_ | refine roundK.x ?_ | refine loopK.r ?_ | refine loopK.x ?_)
          | (fail)
          | fail
        all_goals first | (exfalso; omega) | skip
        all_goals refine loopK.nn (m - 1) (by omega) (by repeat (first | refine Ag.upd rfl ?_ | exact Ag.hv)) ⟨_, ⟨j + 1, _, h2, ?_, by omega, mt2, hnew, rfl⟩, fun w hw => H.sel (l := [_, _, _]) (M := []) hw [2, 0]⟩
        all_goals (show Value.int .i64 _ = _; congr 1)
      ·
        repeat' first
          | (refine J.isJ ?_; first | (first | (refine J.o 9 ?_; refine J.lkI (a := cx) ((cntQ (ms.take j) q cx : Nat) : Int) set_keyed sv_inj mt1 RdH.hd (set_key cx hco) hΓ ((hz1 (0 : Int) rfl).trans (hmm cx)) ?_) | (refine J.o 9 ?_; refine J.perm br2 ?_; refine J.men (a := cx) (0 : Int) evI_inj set_keyed sv_inj mt (set_key cx hco) hΓ (fun v0 st h1 hp1 => ?_); obtain ⟨⟨mm1, mt1, hz1⟩, _⟩ := id hp1) | (refine J.o 9 ?_; refine J.est (((cntQ (ms.take j) q cx : Nat) : Int) + 1) hp1 (fun h2 mt2 => ?_))) | (first | (refine J.o 0 ?_; refine J.ev' hΓ ?_) | refine J.nil ?_ | refine J.kd ?_ | (refine J.o 4 ?_; first | refine J.e0 hΓ ?_ | refine J.lT default hΓ ?_ | refine J.e1 hΓ ?_ | refine J.e2 hΓ ?_ | refine J.lR hΓ ?_) | (refine J.o 3 ?_; first | refine J.iA hΓ ?_ | refine J.iJ hΓ ?_ | refine J.fP hΓ ?_ | refine J.iC hΓ ?_ | refine J.ev' hΓ ?_) | (refine J.o 1 ?_; first | refine J.ad ?_ | refine J.sb ?_ | refine J.ng ?_ | refine J.mu ?_) | (refine J.o 5 ?_; first | refine J.t0 hΓ ?_ | refine J.t1 hΓ ?_ | refine J.t2 hΓ ?_) | (refine J.o 6 ?_; refine J.bx (fun _ => ?_)) | (refine J.o 7 ?_; refine J.al hΓ (fun _ => ?_)) | (refine J.o 8 ?_; refine J.bd hΓ ?_) | (refine J.o 9 ?_; refine J.bl hΓ (fun _ => ?_)) | (refine J.o 10 ?_; first | refine J.ls hΓ ?_ | refine J.ev' hΓ ?_) | (refine J.o 11 ?_; refine J.ev' hΓ ?_) | refine J.kn ?_) | ((fail_if_success refine J.wt ?_); refine J.gc rfl rfl (fun hc => ?_) (fun hc => ?_) <;> ((try simp only [decide_eq_true_eq, decide_eq_false_iff_not, beq_iff_eq, beq_eq_false_iff_ne, bne_iff_ne, bne_eq_false_iff_eq, Bool.not_eq_true', Bool.not_eq_false', Bool.not_eq_true, Bool.not_eq_false] at hc) <;> first | (first | (exact absurd rfl hc) | (exfalso; omega) | (exact absurd (hc.symm.trans (by assumption : _ = false)) (by decide)) | (exact absurd (hc.symm.trans (by assumption : _ = true)) (by decide))) | skip)))
          | (first | (refine JE.is ?_; first | refine JE.s0 ?_ | refine JE.s1 ?_ | refine JE.s2 ?_ | refine JE.s3 ?_ | refine JE.nil ?_ | refine JE.s4 rfl (fun w hw => hw.subl (by repeat (first | exact List.nil_sublist _ | exact List.Sublist.refl _ | refine List.Sublist.cons_cons _ ?_ | refine List.Sublist.cons _ ?_))) ?_) | refine eK0.nn ?_ | refine eK2.nn ?_ | (refine eK3.is ?_; refine eK3.nn (fun w hw => hw.subl (by repeat (first | exact List.nil_sublist _ | exact List.Sublist.refl _ | refine List.Sublist.cons_cons _ ?_ | refine List.Sublist.cons _ ?_))) ?_) | refine brK.nn ?_)
          | (first | refine JC.seq ?_ | refine JC.region ?_ | refine JC.block ?_ | refine JC.ret ?_ | refine JC.exit ?_ | refine JC.skip ?_ | refine thenK.nn ?_ | refine thenK.r ?_ | refine thenK.x ?_ | refine blockK.nn ?_ | refine blockK.r ?_ | refine blockK.hit rfl ?_ | refine blockK.miss rfl ?_ | refine JC.condT rfl ?_ | refine JC.condF rfl ?_ | (refine JC.cond rfl (fun hc => ?_) (fun hc => ?_) <;> ((try simp only [decide_eq_true_eq, decide_eq_false_iff_not, beq_iff_eq, beq_eq_false_iff_ne, bne_iff_ne, bne_eq_false_iff_eq, Bool.not_eq_true', Bool.not_eq_false', Bool.not_eq_true, Bool.not_eq_false] at hc) <;> first | (first | (exact absurd rfl hc) | (exfalso; omega) | (exact absurd (hc.symm.trans (by assumption : _ = false)) (by decide)) | (exact absurd (hc.symm.trans (by assumption : _ = true)) (by decide))) | skip)) | refine drawK.nn ?_ | refine roundK.nn ?_ | refine roundK.r ?_ | refine roundK.x ?_ | refine loopK.r ?_ | refine loopK.x ?_)
          | (fail)
          | fail
        all_goals first | (exfalso; omega) | skip
        refine Br.done (by kernel_rfl) ?_
        repeat' first
          | (refine J.isJ ?_; first | (fail) | (first | (refine J.o 0 ?_; refine J.ev' hΓ ?_) | refine J.nil ?_ | refine J.kd ?_ | (refine J.o 4 ?_; first | refine J.e0 hΓ ?_ | refine J.lT default hΓ ?_ | refine J.e1 hΓ ?_ | refine J.e2 hΓ ?_ | refine J.lR hΓ ?_) | (refine J.o 3 ?_; first | refine J.iA hΓ ?_ | refine J.iJ hΓ ?_ | refine J.fP hΓ ?_ | refine J.iC hΓ ?_ | refine J.ev' hΓ ?_) | (refine J.o 1 ?_; first | refine J.ad ?_ | refine J.sb ?_ | refine J.ng ?_ | refine J.mu ?_) | (refine J.o 5 ?_; first | refine J.t0 hΓ ?_ | refine J.t1 hΓ ?_ | refine J.t2 hΓ ?_) | (refine J.o 6 ?_; refine J.bx (fun _ => ?_)) | (refine J.o 7 ?_; refine J.al hΓ (fun _ => ?_)) | (refine J.o 8 ?_; refine J.bd hΓ ?_) | (refine J.o 9 ?_; refine J.bl hΓ (fun _ => ?_)) | (refine J.o 10 ?_; first | refine J.ls hΓ ?_ | refine J.ev' hΓ ?_) | (refine J.o 11 ?_; refine J.ev' hΓ ?_) | refine J.kn ?_) | ((fail_if_success refine J.wt ?_); refine J.gc rfl rfl (fun hc => ?_) (fun hc => ?_) <;> ((try simp only [decide_eq_true_eq, decide_eq_false_iff_not, beq_iff_eq, beq_eq_false_iff_ne, bne_iff_ne, bne_eq_false_iff_eq, Bool.not_eq_true', Bool.not_eq_false', Bool.not_eq_true, Bool.not_eq_false] at hc) <;> first | (first | (exact absurd rfl hc) | (exfalso; omega) | (exact absurd (hc.symm.trans (by assumption : _ = false)) (by decide)) | (exact absurd (hc.symm.trans (by assumption : _ = true)) (by decide))) | skip)))
          | (first | refine JC.seq ?_ | refine JC.region ?_ | refine JC.block ?_ | refine JC.ret ?_ | refine JC.exit ?_ | refine JC.skip ?_ | refine thenK.nn ?_ | refine thenK.r ?_ | refine thenK.x ?_ | refine blockK.nn ?_ | refine blockK.r ?_ | refine blockK.hit rfl ?_ | refine blockK.miss rfl ?_ | refine JC.condT rfl ?_ | refine JC.condF rfl ?_ | (refine JC.cond rfl (fun hc => ?_) (fun hc => ?_) <;> ((try simp only [decide_eq_true_eq, decide_eq_false_iff_not, beq_iff_eq, beq_eq_false_iff_ne, bne_iff_ne, bne_eq_false_iff_eq, Bool.not_eq_true', Bool.not_eq_false', Bool.not_eq_true, Bool.not_eq_false] at hc) <;> first | (first | (exact absurd rfl hc) | (exfalso; omega) | (exact absurd (hc.symm.trans (by assumption : _ = false)) (by decide)) | (exact absurd (hc.symm.trans (by assumption : _ = true)) (by decide))) | skip)) | refine drawK.nn ?_ | refine roundK.nn ?_ | refine roundK.r ?_ | refine roundK.x ?_ | refine loopK.r ?_ | refine loopK.x ?_)
          | (fail)
          | fail
        all_goals first | (exfalso; omega) | skip
        all_goals refine loopK.nn (m - 1) (by omega) (by repeat (first | refine Ag.upd rfl ?_ | exact Ag.hv)) ⟨_, ⟨j + 1, _, h2, ?_, by omega, mt2, hnew, rfl⟩, fun w hw => H.sel (l := [_, _, _]) (M := []) hw [2, 0]⟩
        all_goals (show Value.int .i64 _ = _; congr 1)
    rw [List.take_of_length_le hj] at hmm
    clear hc
    repeat' first
      | (refine J.isJ ?_; first | (first | (refine J.o 2 ?_; refine J.cv _ hΓ ?_) | (refine J.o 1 ?_; refine J.s2 ?_)) | (first | (refine J.o 0 ?_; refine J.ev' hΓ ?_) | refine J.nil ?_ | refine J.kd ?_ | (refine J.o 4 ?_; first | refine J.e0 hΓ ?_ | refine J.lT default hΓ ?_ | refine J.e1 hΓ ?_ | refine J.e2 hΓ ?_ | refine J.lR hΓ ?_) | (refine J.o 3 ?_; first | refine J.iA hΓ ?_ | refine J.iJ hΓ ?_ | refine J.fP hΓ ?_ | refine J.iC hΓ ?_ | refine J.ev' hΓ ?_) | (refine J.o 1 ?_; first | refine J.ad ?_ | refine J.sb ?_ | refine J.ng ?_ | refine J.mu ?_) | (refine J.o 5 ?_; first | refine J.t0 hΓ ?_ | refine J.t1 hΓ ?_ | refine J.t2 hΓ ?_) | (refine J.o 6 ?_; refine J.bx (fun _ => ?_)) | (refine J.o 7 ?_; refine J.al hΓ (fun _ => ?_)) | (refine J.o 8 ?_; refine J.bd hΓ ?_) | (refine J.o 9 ?_; refine J.bl hΓ (fun _ => ?_)) | (refine J.o 10 ?_; first | refine J.ls hΓ ?_ | refine J.ev' hΓ ?_) | (refine J.o 11 ?_; refine J.ev' hΓ ?_) | refine J.kn ?_) | ((fail_if_success refine J.wt ?_); refine J.gc rfl rfl (fun hc => ?_) (fun hc => ?_) <;> ((try simp only [decide_eq_true_eq, decide_eq_false_iff_not, beq_iff_eq, beq_eq_false_iff_ne, bne_iff_ne, bne_eq_false_iff_eq, Bool.not_eq_true', Bool.not_eq_false', Bool.not_eq_true, Bool.not_eq_false] at hc) <;> first | (first | (exact absurd rfl hc) | (exfalso; omega) | (exact absurd (hc.symm.trans (by assumption : _ = false)) (by decide)) | (exact absurd (hc.symm.trans (by assumption : _ = true)) (by decide))) | skip)))
      | (first | refine JC.seq ?_ | refine JC.region ?_ | refine JC.block ?_ | refine JC.ret ?_ | refine JC.exit ?_ | refine JC.skip ?_ | refine thenK.nn ?_ | refine thenK.r ?_ | refine thenK.x ?_ | refine blockK.nn ?_ | refine blockK.r ?_ | refine blockK.hit rfl ?_ | refine blockK.miss rfl ?_ | refine JC.condT rfl ?_ | refine JC.condF rfl ?_ | (refine JC.cond rfl (fun hc => ?_) (fun hc => ?_) <;> ((try simp only [decide_eq_true_eq, decide_eq_false_iff_not, beq_iff_eq, beq_eq_false_iff_ne, bne_iff_ne, bne_eq_false_iff_eq, Bool.not_eq_true', Bool.not_eq_false', Bool.not_eq_true, Bool.not_eq_false] at hc) <;> first | (first | (exact absurd rfl hc) | (exfalso; omega) | (exact absurd (hc.symm.trans (by assumption : _ = false)) (by decide)) | (exact absurd (hc.symm.trans (by assumption : _ = true)) (by decide))) | skip)) | (refine JC.drawA [] (by kernel_rfl) (by kernel_rfl) ?_) | refine drawK.nn ?_ | refine roundK.nn ?_ | refine roundK.r ?_ | refine roundK.x ?_ | refine loopK.r ?_ | refine loopK.x ?_)
      | (fail)
      | fail
    all_goals first | (exfalso; omega) | skip
    refine JC.weak (L' := [hm]) (fun w hw => H.sel (l := [_, _]) (M := []) hw [1]) ?_
    obtain ⟨Q, hQ⟩ : ∃ Q : Nat, Q = 2 ^ ((q : Int)).toNat := ⟨_, rfl⟩
    have hQ2 : Q = 2 ^ q := by rw [hQ]; rfl
    refine JC.gen [(1, .slice a ss.length cap), (7, .map (some bm)), (59, .int .i64 (Q : Int)), (60, .int .i64 0)] ⟨rfl, rfl, (by rw [hQ]; rfl), rfl, trivial⟩ (fun F => ?_)
    refine JC.loopG (fun i => i == 10 || i == 11 || i == 12 || Nat.ble 60 i) (fun m g L => ∃ (k : Nat), g 60 = .int .i64 (k : Int) ∧ k + m = Q ∧ L = [hm]) Q ⟨0, rfl, by omega, rfl⟩ ?_
    rintro m g L ⟨k, e60, hkm, rfl⟩
    refine JC.pin 60 e60 ?_
    clear e60
    rcases Nat.lt_or_ge k Q with hk | hk
    case inr =>
      repeat' first
        | (refine J.isJ ?_; first | ((refine J.fc 14 ?_; refine J.call0 eWorks rfl rfl (fun w hw => works_any w) ?_)) | (first | (refine J.o 0 ?_; refine J.ev' hΓ ?_) | refine J.nil ?_ | refine J.kd ?_ | (refine J.o 4 ?_; first | refine J.e0 hΓ ?_ | refine J.lT default hΓ ?_ | refine J.e1 hΓ ?_ | refine J.e2 hΓ ?_ | refine J.lR hΓ ?_) | (refine J.o 3 ?_; first | refine J.iA hΓ ?_ | refine J.iJ hΓ ?_ | refine J.fP hΓ ?_ | refine J.iC hΓ ?_ | refine J.ev' hΓ ?_) | (refine J.o 1 ?_; first | refine J.ad ?_ | refine J.sb ?_ | refine J.ng ?_ | refine J.mu ?_) | (refine J.o 5 ?_; first | refine J.t0 hΓ ?_ | refine J.t1 hΓ ?_ | refine J.t2 hΓ ?_) | (refine J.o 6 ?_; refine J.bx (fun _ => ?_)) | (refine J.o 7 ?_; refine J.al hΓ (fun _ => ?_)) | (refine J.o 8 ?_; refine J.bd hΓ ?_) | (refine J.o 9 ?_; refine J.bl hΓ (fun _ => ?_)) | (refine J.o 10 ?_; first | refine J.ls hΓ ?_ | refine J.ev' hΓ ?_) | (refine J.o 11 ?_; refine J.ev' hΓ ?_) | refine J.kn ?_) | ((fail_if_success refine J.wt ?_); refine J.gc rfl rfl (fun hc => ?_) (fun hc => ?_) <;> ((try simp only [decide_eq_true_eq, decide_eq_false_iff_not, beq_iff_eq, beq_eq_false_iff_ne, bne_iff_ne, bne_eq_false_iff_eq, Bool.not_eq_true', Bool.not_eq_false', Bool.not_eq_true, Bool.not_eq_false] at hc) <;> first | (first | (exact absurd rfl hc) | (exfalso; omega) | (exact absurd (hc.symm.trans (by assumption : _ = false)) (by decide)) | (exact absurd (hc.symm.trans (by assumption : _ = true)) (by decide))) | skip)))
        | (first | refine JC.seq ?_ | refine JC.region ?_ | refine JC.block ?_ | refine JC.ret ?_ | refine JC.exit ?_ | refine JC.skip ?_ | refine thenK.nn ?_ | refine thenK.r ?_ | refine thenK.x ?_ | refine blockK.nn ?_ | refine blockK.r ?_ | refine blockK.hit rfl ?_ | refine blockK.miss rfl ?_ | refine JC.condT rfl ?_ | refine JC.condF rfl ?_ | (refine JC.cond rfl (fun hc => ?_) (fun hc => ?_) <;> ((try simp only [decide_eq_true_eq, decide_eq_false_iff_not, beq_iff_eq, beq_eq_false_iff_ne, bne_iff_ne, bne_eq_false_iff_eq, Bool.not_eq_true', Bool.not_eq_false', Bool.not_eq_true, Bool.not_eq_false] at hc) <;> first | (first | (exact absurd rfl hc) | (exfalso; omega) | (exact absurd (hc.symm.trans (by assumption : _ = false)) (by decide)) | (exact absurd (hc.symm.trans (by assumption : _ = true)) (by decide))) | skip)) | (refine JC.drawA [] (by kernel_rfl) (by kernel_rfl) ?_) | refine drawK.nn ?_ | refine roundK.nn ?_ | refine roundK.r ?_ | refine roundK.x ?_ | refine loopK.r ?_ | refine loopK.x ?_)
        | (fail)
        | fail
      all_goals first | (exfalso; omega) | exact ret1f rfl rfl rfl (fun w1 hw => ⟨rfl, hw.below⟩)
    have hko : okS (k, 0) := ⟨show k < 2 ^ 64 by omega, show 0 < 2 ^ 64 by decide⟩
    have hkq : ∀ u, hasB (k, 0) u = true → 1 ≤ u ∧ u ≤ (q : Int) := fun u hu => by
      unfold hasB at hu
      split at hu
      · rename_i h1
        refine ⟨h1.1, Decidable.byContradiction fun h2 => ?_⟩
        rw [Nat.testBit_lt_two_pow (Nat.lt_of_lt_of_le (show k < 2 ^ q by omega) (Nat.pow_le_pow_right (by omega) (by omega)))] at hu
        cases hu
      · split at hu
        · rw [Nat.zero_testBit] at hu; cases hu
        · cases hu
    have cH := fun w hw => holdsLaw_any a cap ss (k, 0) hko h hs (by omega) hcs w hw
    have hcx := (hmm (k, 0)).trans (congrArg Int.ofNat (hcnt (k, 0) hko hkq))
    cases hb : ss.all (evS (k, 0)) with
    | true =>
      rw [hb] at cH hcx
      rw [if_pos rfl] at hcx
      repeat' first
        | (refine J.isJ ?_; first | (first | (refine J.o 2 ?_; refine J.cv _ hΓ ?_) | (refine J.fc 29 ?_; refine J.call0 eHoldsLaw rfl rfl (fun w hw => cH w (hw.rdH (q0 _))) ?_) | (refine J.o 9 ?_; refine J.lkI (a := (k, 0)) 1 set_keyed sv_inj mt RdH.hd.tl (set_key (k, 0) hko) hΓ hcx ?_)) | (first | (refine J.o 0 ?_; refine J.ev' hΓ ?_) | refine J.nil ?_ | refine J.kd ?_ | (refine J.o 4 ?_; first | refine J.e0 hΓ ?_ | refine J.lT default hΓ ?_ | refine J.e1 hΓ ?_ | refine J.e2 hΓ ?_ | refine J.lR hΓ ?_) | (refine J.o 3 ?_; first | refine J.iA hΓ ?_ | refine J.iJ hΓ ?_ | refine J.fP hΓ ?_ | refine J.iC hΓ ?_ | refine J.ev' hΓ ?_) | (refine J.o 1 ?_; first | refine J.ad ?_ | refine J.sb ?_ | refine J.ng ?_ | refine J.mu ?_) | (refine J.o 5 ?_; first | refine J.t0 hΓ ?_ | refine J.t1 hΓ ?_ | refine J.t2 hΓ ?_) | (refine J.o 6 ?_; refine J.bx (fun _ => ?_)) | (refine J.o 7 ?_; refine J.al hΓ (fun _ => ?_)) | (refine J.o 8 ?_; refine J.bd hΓ ?_) | (refine J.o 9 ?_; refine J.bl hΓ (fun _ => ?_)) | (refine J.o 10 ?_; first | refine J.ls hΓ ?_ | refine J.ev' hΓ ?_) | (refine J.o 11 ?_; refine J.ev' hΓ ?_) | refine J.kn ?_) | ((fail_if_success refine J.wt ?_); refine J.gc rfl rfl (fun hc => ?_) (fun hc => ?_) <;> ((try simp only [decide_eq_true_eq, decide_eq_false_iff_not, beq_iff_eq, beq_eq_false_iff_ne, bne_iff_ne, bne_eq_false_iff_eq, Bool.not_eq_true', Bool.not_eq_false', Bool.not_eq_true, Bool.not_eq_false] at hc) <;> first | (first | (exact absurd rfl hc) | (exfalso; omega) | (exact absurd (hc.symm.trans (by assumption : _ = false)) (by decide)) | (exact absurd (hc.symm.trans (by assumption : _ = true)) (by decide))) | skip)))
        | (first | refine JC.seq ?_ | refine JC.region ?_ | refine JC.block ?_ | refine JC.ret ?_ | refine JC.exit ?_ | refine JC.skip ?_ | refine thenK.nn ?_ | refine thenK.r ?_ | refine thenK.x ?_ | refine blockK.nn ?_ | refine blockK.r ?_ | refine blockK.hit rfl ?_ | refine blockK.miss rfl ?_ | refine JC.condT rfl ?_ | refine JC.condF rfl ?_ | (refine JC.cond rfl (fun hc => ?_) (fun hc => ?_) <;> ((try simp only [decide_eq_true_eq, decide_eq_false_iff_not, beq_iff_eq, beq_eq_false_iff_ne, bne_iff_ne, bne_eq_false_iff_eq, Bool.not_eq_true', Bool.not_eq_false', Bool.not_eq_true, Bool.not_eq_false] at hc) <;> first | (first | (exact absurd rfl hc) | (exfalso; omega) | (exact absurd (hc.symm.trans (by assumption : _ = false)) (by decide)) | (exact absurd (hc.symm.trans (by assumption : _ = true)) (by decide))) | skip)) | (refine JC.drawA [] (by kernel_rfl) (by kernel_rfl) ?_) | refine drawK.nn ?_ | refine roundK.nn ?_ | refine roundK.r ?_ | refine roundK.x ?_ | refine loopK.r ?_ | refine loopK.x ?_)
        | (fail)
        | fail
      all_goals first | (exfalso; omega) | skip
      all_goals refine loopK.nn (m - 1) (by omega) (by repeat (first | refine Ag.upd rfl ?_ | exact Ag.hv)) ⟨_, ⟨k + 1, ?_, by omega, rfl⟩, fun w hw => H.sel (l := [_, _]) (M := []) hw [1]⟩
      all_goals (show Value.int .i64 _ = _; congr 1)
    | false =>
      rw [hb] at cH hcx
      rw [if_neg (by decide)] at hcx
      repeat' first
        | (refine J.isJ ?_; first | (first | (refine J.o 2 ?_; refine J.cv _ hΓ ?_) | (refine J.fc 29 ?_; refine J.call0 eHoldsLaw rfl rfl (fun w hw => cH w (hw.rdH (q0 _))) ?_) | (refine J.o 9 ?_; refine J.lkI (a := (k, 0)) 0 set_keyed sv_inj mt RdH.hd.tl (set_key (k, 0) hko) hΓ hcx ?_)) | (first | (refine J.o 0 ?_; refine J.ev' hΓ ?_) | refine J.nil ?_ | refine J.kd ?_ | (refine J.o 4 ?_; first | refine J.e0 hΓ ?_ | refine J.lT default hΓ ?_ | refine J.e1 hΓ ?_ | refine J.e2 hΓ ?_ | refine J.lR hΓ ?_) | (refine J.o 3 ?_; first | refine J.iA hΓ ?_ | refine J.iJ hΓ ?_ | refine J.fP hΓ ?_ | refine J.iC hΓ ?_ | refine J.ev' hΓ ?_) | (refine J.o 1 ?_; first | refine J.ad ?_ | refine J.sb ?_ | refine J.ng ?_ | refine J.mu ?_) | (refine J.o 5 ?_; first | refine J.t0 hΓ ?_ | refine J.t1 hΓ ?_ | refine J.t2 hΓ ?_) | (refine J.o 6 ?_; refine J.bx (fun _ => ?_)) | (refine J.o 7 ?_; refine J.al hΓ (fun _ => ?_)) | (refine J.o 8 ?_; refine J.bd hΓ ?_) | (refine J.o 9 ?_; refine J.bl hΓ (fun _ => ?_)) | (refine J.o 10 ?_; first | refine J.ls hΓ ?_ | refine J.ev' hΓ ?_) | (refine J.o 11 ?_; refine J.ev' hΓ ?_) | refine J.kn ?_) | ((fail_if_success refine J.wt ?_); refine J.gc rfl rfl (fun hc => ?_) (fun hc => ?_) <;> ((try simp only [decide_eq_true_eq, decide_eq_false_iff_not, beq_iff_eq, beq_eq_false_iff_ne, bne_iff_ne, bne_eq_false_iff_eq, Bool.not_eq_true', Bool.not_eq_false', Bool.not_eq_true, Bool.not_eq_false] at hc) <;> first | (first | (exact absurd rfl hc) | (exfalso; omega) | (exact absurd (hc.symm.trans (by assumption : _ = false)) (by decide)) | (exact absurd (hc.symm.trans (by assumption : _ = true)) (by decide))) | skip)))
        | (first | refine JC.seq ?_ | refine JC.region ?_ | refine JC.block ?_ | refine JC.ret ?_ | refine JC.exit ?_ | refine JC.skip ?_ | refine thenK.nn ?_ | refine thenK.r ?_ | refine thenK.x ?_ | refine blockK.nn ?_ | refine blockK.r ?_ | refine blockK.hit rfl ?_ | refine blockK.miss rfl ?_ | refine JC.condT rfl ?_ | refine JC.condF rfl ?_ | (refine JC.cond rfl (fun hc => ?_) (fun hc => ?_) <;> ((try simp only [decide_eq_true_eq, decide_eq_false_iff_not, beq_iff_eq, beq_eq_false_iff_ne, bne_iff_ne, bne_eq_false_iff_eq, Bool.not_eq_true', Bool.not_eq_false', Bool.not_eq_true, Bool.not_eq_false] at hc) <;> first | (first | (exact absurd rfl hc) | (exfalso; omega) | (exact absurd (hc.symm.trans (by assumption : _ = false)) (by decide)) | (exact absurd (hc.symm.trans (by assumption : _ = true)) (by decide))) | skip)) | (refine JC.drawA [] (by kernel_rfl) (by kernel_rfl) ?_) | refine drawK.nn ?_ | refine roundK.nn ?_ | refine roundK.r ?_ | refine roundK.x ?_ | refine loopK.r ?_ | refine loopK.x ?_)
        | (fail)
        | fail
      all_goals first | (exfalso; omega) | skip
      all_goals refine loopK.nn (m - 1) (by omega) (by repeat (first | refine Ag.upd rfl ?_ | exact Ag.hv)) ⟨_, ⟨k + 1, ?_, by omega, rfl⟩, fun w hw => H.sel (l := [_, _]) (M := []) hw [1]⟩
      all_goals (show Value.int .i64 _ = _; congr 1)
end Go.Proofs.Ytinpcimogojefaa
