/- strings.Builder: copyCheck, WriteByte, String; nat.shrink. -/
import Derived.Test.YthnhijdfcmcnhaaGd
import Derived.Test.YthnhijdfcmcnhaaCxU
import Derived.Lib.Builder
import Derived.Laws.Externs
namespace Go.Proofs.Ythnhijdfcmcnhaa
open Go Go.Cx Go.RowKit Go.Lib
set_option linter.unusedVariables false
set_option linter.unusedSimpArgs false
set_option maxHeartbeats 4000000
set_option maxRecDepth 8000
section
variable {P : Program} {n : Nat} {w0 : World} {R : Heap} {l0 : List Oper} {K : Exit → Fr → List Heap → Prop} {f : Fr} {L : List Heap} {rest : List (Nat × Oper)} {κ : Nat}
variable {Γ : List (Nat × TI)} {d : Nat} {ty : TypeId} {pos : String} {aft : Array Edge} {g : Option (Nat × Bool)} {t u te : TypeId} {x y : Operand}
/-- a pointer held against itself -/
theorem J.pS {a : Addr} {s1 b1 s2 b2 : Nat} {z1 z2 : Option Value} {de : TypeDesc} (hΓ : Fits P Γ) (k : J P n w0 R l0 K rest (upd f d (.bool false)) L) (hg : wantB n f l0 ⟨some d, .binOp .neq t x y u, ty, pos, aft, g⟩ = true := by exact rfl) (hx : Cx.ev n f x = .pointer (some a) := by exact rfl) (hy : Cx.ev n f y = .pointer (some a) := by exact rfl) (ht : Go.Cx.look Γ t = some ⟨.pointer te, s1, z1, b1⟩ := by exact rfl) (he : Go.Cx.look Γ te = some ⟨de, s2, z2, b2⟩ := by exact rfl) : J P n w0 R l0 K ((κ, ⟨some d, .binOp .neq t x y u, ty, pos, aft, g⟩) :: rest) f L :=
  J.p hg (fun w => by
    obtain ⟨_, ie, hie, _⟩ := hΓ te _ he
    have h2 := Lib.run_neq_ptr_same (P := P) w a (hΓ t _ ht).1 hie
    have h3 : (eqGuard .neq t x y (.pointer (some a)) (.pointer (some a))).run P w = .ok () w := by simp [eqGuard]
    simp only [execOp, hx, hy, Sem.run_bind, h3, Result.andThen_ok, h2]
    rfl) k
/-- a pointer to a block's head turned to unsafe.Pointer -/
theorem J.cU {t2 : TypeId} {b : Nat} {cs : List Value} {e : TypeId} {fr : Nat × Nat} {s1 b1 s3 b3 : Nat} {z1 z3 : Option Value} {de : TypeDesc} (hΓ : Fits P Γ) (hu2 : P.underlying t2 = some .unsafePointer) (hr : Rd R L b (.cells ⟨cs⟩ e fr)) (k : J P n w0 R l0 K rest (upd f d (.pointer (some ⟨b, 0, none⟩))) L) (hg : wantB n f l0 ⟨some d, .convert t t2 x, ty, pos, aft, g⟩ = true := by exact rfl) (hx : Cx.ev n f x = .pointer (some ⟨b, 0, none⟩) := by exact rfl) (ht : Go.Cx.look Γ t = some ⟨.pointer te, s1, z1, b1⟩ := by exact rfl) (he : Go.Cx.look Γ te = some ⟨de, s3, z3, b3⟩ := by exact rfl) (hs : Nat.ble 1 s3 = true := by exact rfl) (hl : Nat.ble 1 cs.length = true := by exact rfl) : J P n w0 R l0 K ((κ + 1, ⟨some d, .convert t t2 x, ty, pos, aft, g⟩) :: rest) f L :=
  J.q hg (fun w hw => by
    obtain ⟨_, ie, hie, hse, _⟩ := hΓ te _ he
    have hb := hw.rd hr
    have hsh : w.shape? b = some (e, cs.length) := by simp [World.shape?, hb]
    have h2 := Lib.run_to_unsafe (P := P) w ⟨b, 0, none⟩ (hΓ t _ ht).1 hu2 hie (by have := Nat.le_of_ble_eq_true hs; rw [hse]; show s3 ≠ 0; omega) hsh (Nat.le_of_ble_eq_true hl)
    simp only [execOp, hx, Sem.run_bind, h2, Result.andThen_ok]
    rfl) k
/-- .. and back -/
theorem J.cP {t2 : TypeId} {b : Nat} {cs : List Value} {e : TypeId} {fr : Nat × Nat} {s1 b1 s3 b3 : Nat} {z1 z3 : Option Value} {de : TypeDesc} (hΓ : Fits P Γ) (hu2 : P.underlying t2 = some .unsafePointer) (hr : Rd R L b (.cells ⟨cs⟩ e fr)) (k : J P n w0 R l0 K rest (upd f d (.pointer (some ⟨b, 0, none⟩))) L) (hlies : liesAt P P.depth e (cs.length / P.cellsOf e) 0 te 1 = true := by kernel_rfl) (hg : wantB n f l0 ⟨some d, .convert t2 t x, ty, pos, aft, g⟩ = true := by exact rfl) (hx : Cx.ev n f x = .pointer (some ⟨b, 0, none⟩) := by exact rfl) (ht : Go.Cx.look Γ t = some ⟨.pointer te, s1, z1, b1⟩ := by exact rfl) (he : Go.Cx.look Γ te = some ⟨de, s3, z3, b3⟩ := by exact rfl) : J P n w0 R l0 K ((κ + 1, ⟨some d, .convert t2 t x, ty, pos, aft, g⟩) :: rest) f L :=
  J.q hg (fun w hw => by
    obtain ⟨_, ie, hie, hse, _⟩ := hΓ te _ he
    have hb := hw.rd hr
    have hsh : w.shape? b = some (e, cs.length) := by simp [World.shape?, hb]
    have h2 := Lib.run_from_unsafe (P := P) w ⟨b, 0, none⟩ hu2 (hΓ t _ ht).1 hie hsh hlies
    simp only [execOp, hx, Sem.run_bind, h2, Result.andThen_ok]
    rfl) k
/-- abi.NoEscape: the pointer as it is -/
theorem J.nE {fid : FuncId} {fn : Func} {xs : List Operand} {ats : Array TypeId} {v : Value} (hf : P.funcs[fid]? = some fn) (hn : (fn.name == "runtime.NumGoroutine") = false) (hb : fn.body.isNone = true) (hnx : Extern.findNext fn = none) (hfi : Extern.find fn = some Extern.AbiNoEscape.same) (hg : wantB n f l0 ⟨some d, .call ⟨.value (.func fid), ⟨xs⟩, ats⟩, ty, pos, aft, g⟩ = true) (ha : argsEv (Cx.ev n f) xs = some [v]) (k : J P n w0 R l0 K rest (upd f d v) L) : J P n w0 R l0 K ((κ, ⟨some d, .call ⟨.value (.func fid), ⟨xs⟩, ats⟩, ty, pos, aft, g⟩) :: rest) f L :=
  J.p hg (fun w => by
    have h1 : (⟨xs⟩ : Array Operand).map (Cx.ev n f) = ⟨[v]⟩ := by rw [← argsEv_eq ha]; simp
    have h2 := run_callFunc_extern hf hn hb hnx hfi #[v] w
    rw [Lib.run_noEscape] at h2
    simp only [Result.andThen_ok] at h2
    simp only [execOp, resolve, h1, Cx.ev, Deferred.ofValue, Sem.run_bind, Sem.run_pure, Result.andThen_ok, invoke]
    simpa using h2) k
end
section
variable {P : Program} {n : Nat} {w0 : World} {R : Heap} {l0 : List Oper} {K : Exit → Fr → List Heap → Prop} {f : Fr} {L : List Heap} {rest : List (Nat × Oper)} {κ : Nat}
variable {Γ : List (Nat × TI)} {d : Nat} {op : Op} {ty : TypeId} {pos : String} {aft : Array Edge} {g : Option (Nat × Bool)}
variable {α : Type} {enc : α → List Value} {a : Option Addr} {ts us : List α} {h : Heap} {size e cap : Nat}
theorem app_runC (hΓ : Fits P Γ) {t ty' : TypeId} {s1 b1 b2 : Nat} {z1 : Option Value} {z : Value} {zc : List Value} {de : TypeDesc} (ht : Go.Cx.look Γ t = some ⟨.slice e, s1, z1, b1⟩) (he : Go.Cx.look Γ e = some ⟨de, size, some z, b2⟩) (hz : vcells z = some zc) (hzl : zc.length = size)
    {w : World} (hw : H w0 R (h :: L) w) (ho : OwT enc size e a cap ts h) {ad : Addr} {c : Nat} (hnews : ∀ j u, (us.flatMap enc)[j]? = some u → w.cell? (ad.add j) = some u) (h1 : ones (us.flatMap enc) = true) (hm : 0 < us.length)
    (hb : (ts.length + us.length) * b2 ≤ 140737488355328) (h63 : ts.length + us.length ≤ 9223372036854775807) (hcap : cap ≤ maxLen) (hln : ts.length + us.length ≤ 140737488355328) :
    ∃ a' cap' h' w', (Builtin.append_ #[t, t] ty' #[.slice a ts.length cap, .slice (some ad) us.length c]).run P w = .ok (.slice a' (ts.length + us.length) cap') w' ∧ H w0 R (h' :: L) w' ∧ OwT enc size e a' cap' (ts ++ us) h' ∧ cap' ≤ maxLen := by
  have hu := (hΓ t _ ht).1
  obtain ⟨hue, ie, hie, hse, hze, hbe⟩ := hΓ e _ he
  have hl : (us.flatMap enc).length = us.length * ie.size := by rw [flat_len ho.len, hse]
  have hzs : z.cells.size = size := by rw [vcells_eq hz]; simpa using hzl
  have hsz : ie.size = size := hse
  rcases ho.row with ⟨rfl, rfl, rfl, rfl⟩ | ⟨gb, cs, rfl, rfl, hc1, hc2, hc3⟩
  · -- nothing yet
    have hrun := run_append_nil (P := P) w t ty' e ie z hu hie hze ad us.length c (us.flatMap enc) hl hnews hm (by simp at h63; omega) (by rw [hbe]; show us.length * b2 ≤ _; simp at hb; omega)
    have hge := grownCap_ge w us.length 0 e
    refine ⟨some ⟨w.heap.size, 0, none⟩, grownCap w us.length 0 e, _, _, ?_, (hw.drop.drew (w.drawn + 1)).alloc (.cells ((us.flatMap enc).toArray ++ Builtin.zeroCells z.cells (grownCap w us.length 0 e - us.length)) e), ?_, grownCap_le_maxLen w us.length 0 e (by unfold maxLen; omega)⟩
    · simp only [List.length_nil, Nat.zero_add]
      exact hrun
    · refine ⟨ho.len, .inr ⟨w.heap.size, (us.flatMap enc) ++ (Builtin.zeroCells z.cells (grownCap w us.length 0 e - us.length)).toList, rfl, ?_, ?_, ?_, ?_⟩⟩
      · simp
      · simp only [List.length_append, Array.length_toList, size_zeroCells, hzs, flat_len ho.len]
        rw [← Nat.add_mul]
        congr 1
        omega
      · simpa using hge
      · simp only [List.nil_append]
        rw [List.take_append_of_le_length (by rw [flat_len ho.len]; exact Nat.le_refl _), List.take_of_length_le (by rw [flat_len ho.len]; exact Nat.le_refl _)]
  · have hg : w.heap[gb]? = some (.cells cs.toArray e (0, 0)) := hw.own (gb, _) (by simp)
    by_cases hroom : ts.length + us.length ≤ cap
    · -- there is room
      have hfit : ts.length * ie.size + (us.flatMap enc).length ≤ cs.toArray.size := by
        rw [hl, ← Nat.add_mul, hsz]
        simp only [List.size_toArray, hc1]
        exact Nat.mul_le_mul_right _ hroom
      have hrun := run_append_room (P := P) w t ty' e ie hu hie gb ts.length cap cs.toArray hg ad us.length c (us.flatMap enc) hl hnews (ones_ok h1) hroom hfit
      refine ⟨_, _, [(gb, .cells ⟨ts.flatMap enc ++ us.flatMap enc ++ cs.drop (ts.length * ie.size + (us.flatMap enc).length)⟩ e (0, 0))], _, hrun, ?_, ?_, hcap⟩
      · refine hw.write rfl rfl rfl (by simp) ?_ (fun k hk => setRow_other _ _ _ _ hk)
        rw [setRow_heap w gb _ _ e _ hg]
        simp only [hsz, hc3]
      · refine ⟨ho.len, .inr ⟨gb, _, rfl, rfl, ?_, ?_, ?_⟩⟩
        · simp only [List.length_append, List.length_drop, flat_len ho.len, hsz, hc1]
          simp only [List.size_toArray, hc1, hl, hsz] at hfit
          have := hfit
          omega
        · simpa using hroom
        · rw [List.flatMap_append, List.take_append_of_le_length (by rw [List.length_append, List.length_append, flat_len ho.len, flat_len ho.len, Nat.add_mul]; exact Nat.le_refl _)]
          rw [List.take_of_length_le (by rw [List.length_append, List.length_append, flat_len ho.len, flat_len ho.len, Nat.add_mul]; exact Nat.le_refl _)]
    · -- a new row
      have hlt : cap < ts.length + us.length := by omega
      have hadd : ∀ j, (⟨gb, 0, none⟩ : Addr).add j = ⟨gb, j, none⟩ := fun j => by unfold Addr.add; split <;> simp_all
      have hfit : Builtin.nextslicecap (ts.length + us.length) cap * ie.bytes ≤ 281474976710656 := by
        have h2 := nextslicecap_le hlt
        have h3 : Builtin.nextslicecap (ts.length + us.length) cap * b2 ≤ (2 * (ts.length + us.length)) * b2 := Nat.mul_le_mul_right _ h2
        rw [Nat.mul_assoc] at h3
        rw [hbe]
        show _ * b2 ≤ _
        omega
      have hrun := run_append_grow (P := P) w t ty' e ie z hu hie hze ⟨gb, 0, none⟩ ts.length cap (ts.flatMap enc) (by rw [flat_len ho.len, hsz]) (fun j v hj => by
          rw [hadd, cell_of_row w gb j cs.toArray e (0, 0) hg]
          rw [← hc3, List.getElem?_take] at hj
          split at hj
          · simpa using hj
          · cases hj) ad us.length c (us.flatMap enc) hl hnews hlt (by omega) hfit
      have hge := grownCap_ge w (ts.length + us.length) cap e
      refine ⟨_, _, _, _, hrun, (hw.drop.drew (w.drawn + 1)).alloc _, ?_, grownCap_le_maxLen w (ts.length + us.length) cap e (by unfold maxLen; omega)⟩
      refine ⟨ho.len, .inr ⟨w.heap.size, ts.flatMap enc ++ us.flatMap enc ++ (Builtin.zeroCells z.cells (grownCap w (ts.length + us.length) cap e - (ts.length + us.length))).toList, rfl, ?_, ?_, ?_, ?_⟩⟩
      · simp
      · simp only [List.length_append, Array.length_toList, size_zeroCells, hzs, flat_len ho.len]
        rw [← Nat.add_mul, ← Nat.add_mul]
        congr 1
        omega
      · simpa using hge
      · rw [List.flatMap_append, List.take_append_of_le_length (by rw [List.length_append, List.length_append, flat_len ho.len, flat_len ho.len, Nat.add_mul]; exact Nat.le_refl _)]
        rw [List.take_of_length_le (by rw [List.length_append, List.length_append, flat_len ho.len, flat_len ho.len, Nat.add_mul]; exact Nat.le_refl _)]

theorem J.app1C {t : TypeId} {x y : Operand} {len m c gx : Nat} {cl : List Value} {fr : Nat × Nat} {e' s1 b1 b2 : Nat} {z1 : Option Value} {z : Value} {zc : List Value} {de : TypeDesc} (us : List α) (hΓ : Fits P Γ) (hg : wantB n f l0 ⟨some d, .call ⟨.builtin .append, ⟨[x, y]⟩, ⟨[t, t]⟩⟩, ty, pos, aft, g⟩ = true)
    (hx : Cx.ev n f x = .slice a len cap) (hy : Cx.ev n f y = .slice (some ⟨gx, 0, none⟩) m c) (ht : Go.Cx.look Γ t = some ⟨.slice e, s1, z1, b1⟩) (he : Go.Cx.look Γ e = some ⟨de, size, some z, b2⟩) (hz : vcells z = some zc) (hzl : Nat.beq zc.length size = true)
    (ho : OwT enc size e a cap ts h) (hlen : ts.length = len) (hus : us.flatMap enc = cl) (hm : us.length = m) (h1 : ones cl = true) (hpos : 0 < m) (hb : (len + m) * b2 ≤ 140737488355328) (h63 : len + m ≤ 9223372036854775807) (hcap : cap ≤ maxLen) (hln : len + m ≤ 140737488355328)
    (k : ∀ a' cap' h', OwT enc size e a' cap' (ts ++ us) h' → cap' ≤ maxLen → J P n w0 R l0 K rest (upd f d (.slice a' (len + m) cap')) (h' :: L)) :
    J P n w0 R l0 K ((2, ⟨some d, .call ⟨.builtin .append, ⟨[x, y]⟩, ⟨[t, t]⟩⟩, ty, pos, aft, g⟩) :: rest) f ([(gx, .cells ⟨cl⟩ e' fr)] :: h :: L) := by
  subst hlen hm hus
  refine J.v (Φ := fun v L' => ∃ a' cap' h', v = .slice a' (ts.length + us.length) cap' ∧ L' = h' :: L ∧ OwT enc size e a' cap' (ts ++ us) h' ∧ cap' ≤ maxLen) hg (fun w hw => ?_) (fun v L' ⟨a', cap', h', e1, e2, e3, e4⟩ => by subst e1; subst e2; exact k a' cap' h' e3 e4)
  have hgx : w.heap[gx]? = some (.cells (us.flatMap enc).toArray e' fr) := hw.own (gx, _) (by simp)
  have hadd : ∀ j, (⟨gx, 0, none⟩ : Addr).add j = ⟨gx, j, none⟩ := fun j => by unfold Addr.add; split <;> simp_all
  obtain ⟨a', cap', h', w', hr, hw', ho', hc'⟩ := app_runC (P := P) (ty' := ty) (us := us) (ad := ⟨gx, 0, none⟩) (c := c) hΓ ht he hz (Nat.eq_of_beq_eq_true hzl) hw.drop ho
    (fun j u hj => by rw [hadd, cell_of_row w gx j _ e' fr hgx]; simpa using hj) h1 hpos hb h63 hcap hln
  refine ⟨_, _, w', ?_, hw', a', cap', h', rfl, rfl, ho', hc'⟩
  have h2 : (⟨[x, y]⟩ : Array Operand).map (Cx.ev n f) = #[.slice a ts.length cap, .slice (some ⟨gx, 0, none⟩) us.length c] := by simp [hx, hy]
  simp only [execOp, resolve, h2, Sem.run_bind, Sem.run_pure, Result.andThen_ok, invoke, builtin]
  rw [hr]
  rfl

end
attribute [local irreducible] J JC thenK blockK loopK roundK drawK retK QW Qt pel List.set Calls JE Br eK0 eK2 eK3 brK pc
theorem eCopyC : Entr Try.prog 134 := Entr.of Try.func134 rfl rfl
theorem eBStr : Entr Try.prog 82 := Entr.of Try.func82 rfl rfl
theorem eWBy : Entr Try.prog 81 := Entr.of Try.func81 rfl rfl
def bldO (p : Option Addr) (v : Value) : Obj := .cells ⟨[.pointer p, v]⟩ 128 (0, 0)
set_option maxRecDepth 100000 in
theorem copyC_any {w0 w : World} {R : Heap} {L : List Heap} {b : Nat} {p : Option Addr} {v : Value} (hp : p = none ∨ p = some ⟨b, 0, none⟩) (hw : H w0 R ([(b, bldO p v)] :: L) w) :
    Calls Try.prog 134 #[.pointer (some ⟨b, 0, none⟩)] w fun e w' => ∃ v' L', e = .returned v' ∧ H w0 R L' w' ∧ (v' = .tuple #[] ∧ L' = [(b, bldO (some ⟨b, 0, none⟩) v)] :: L) := by
  rcases hp with rfl | rfl
  ·
    refine calls_in Try.func134 Try.ntmps134 rfl rfl (hw) ?_
    unfold bldO
    repeat' first
      | (refine J.isJ ?_; first | (first | (refine J.o 11 ?_; refine J.pN hΓ ?_) | (refine J.o 2 ?_; first | refine J.cU hΓ Try.underlying183 Rd.hd ?_ | refine J.cP hΓ Try.underlying183 Rd.hd ?_) | (refine J.fc 149 ?_; refine J.nE Try.func149 (by kernel_rfl) (by kernel_rfl) (by kernel_rfl) (by kernel_rfl) rfl rfl ?_) | (refine J.o 11 ?_; refine J.pS hΓ ?_)) | (first | (refine J.o 0 ?_; refine J.ev' hΓ ?_) | refine J.nil ?_ | refine J.kd ?_ | (refine J.o 4 ?_; first | refine J.lT default hΓ ?_ | refine J.lR hΓ ?_) | (refine J.o 3 ?_; first | refine J.iA hΓ ?_ | refine J.iJ hΓ ?_ | refine J.fP hΓ ?_ | refine J.iC hΓ ?_ | refine J.ev' hΓ ?_) | (refine J.o 1 ?_; first | refine J.ad ?_ | refine J.sb ?_ | refine J.ng ?_ | refine J.mu ?_) | (refine J.o 5 ?_; first | refine J.t0 hΓ ?_ | refine J.t1 hΓ ?_ | refine J.t2 hΓ ?_ | refine J.tT _ default hΓ (fun _ _ => ?_) | refine J.tT1 _ default hΓ (fun _ _ => ?_) | refine J.tT2 _ default hΓ (fun _ _ => ?_)) | (refine J.o 6 ?_; refine J.bx (fun _ => ?_)) | (refine J.o 7 ?_; refine J.al hΓ (fun _ => ?_)) | (refine J.o 8 ?_; refine J.bd hΓ ?_) | (refine J.o 9 ?_; refine J.bl hΓ (fun _ => ?_)) | (refine J.o 10 ?_; refine J.ev' hΓ ?_) | (refine J.o 11 ?_; refine J.ev' hΓ ?_) | (refine J.o 14 ?_; refine J.mf hΓ ?_) | refine J.kn ?_) | ((fail_if_success refine J.wt ?_); refine J.gc rfl rfl (fun hc => ?_) (fun hc => ?_) <;> ((try simp only [decide_eq_true_eq, decide_eq_false_iff_not, beq_iff_eq, beq_eq_false_iff_ne, bne_iff_ne, bne_eq_false_iff_eq, Bool.not_eq_true', Bool.not_eq_false', Bool.not_eq_true, Bool.not_eq_false] at hc) <;> first | (first | (exact absurd rfl hc) | (exfalso; omega) | (exact absurd (hc.symm.trans (by assumption : _ = false)) (by decide)) | (exact absurd (hc.symm.trans (by assumption : _ = true)) (by decide))) | skip)))
      | (first | refine JC.seq ?_ | refine JC.region ?_ | refine JC.block ?_ | refine JC.ret ?_ | refine JC.exit ?_ | refine JC.skip ?_ | refine thenK.nn ?_ | refine thenK.r ?_ | refine thenK.x ?_ | refine blockK.nn ?_ | refine blockK.r ?_ | refine blockK.hit rfl ?_ | refine blockK.miss rfl ?_ | refine JC.condT rfl ?_ | refine JC.condF rfl ?_ | (refine JC.cond rfl (fun hc => ?_) (fun hc => ?_) <;> ((try simp only [decide_eq_true_eq, decide_eq_false_iff_not, beq_iff_eq, beq_eq_false_iff_ne, bne_iff_ne, bne_eq_false_iff_eq, Bool.not_eq_true', Bool.not_eq_false', Bool.not_eq_true, Bool.not_eq_false] at hc) <;> first | (first | (exact absurd rfl hc) | (exfalso; omega) | (exact absurd (hc.symm.trans (by assumption : _ = false)) (by decide)) | (exact absurd (hc.symm.trans (by assumption : _ = true)) (by decide))) | skip)) | (refine JC.drawA [] (by kernel_rfl) (by kernel_rfl) ?_) | refine drawK.nn ?_ | refine roundK.nn ?_ | refine roundK.r ?_ | refine roundK.x ?_ | refine loopK.r ?_ | refine loopK.x ?_)
      | (fail)
      | fail
    all_goals first | (exact absurd rfl hc) | skip
    all_goals exact ret0n rfl (fun w1 hw => ⟨_, _, rfl, hw, rfl, rfl⟩)
  ·
    refine calls_in Try.func134 Try.ntmps134 rfl rfl (hw) ?_
    unfold bldO
    repeat' first
      | (refine J.isJ ?_; first | (first | (refine J.o 11 ?_; refine J.pN hΓ ?_) | (refine J.o 11 ?_; refine J.pS hΓ ?_)) | (first | (refine J.o 0 ?_; refine J.ev' hΓ ?_) | refine J.nil ?_ | refine J.kd ?_ | (refine J.o 4 ?_; first | refine J.lT default hΓ ?_ | refine J.lR hΓ ?_) | (refine J.o 3 ?_; first | refine J.iA hΓ ?_ | refine J.iJ hΓ ?_ | refine J.fP hΓ ?_ | refine J.iC hΓ ?_ | refine J.ev' hΓ ?_) | (refine J.o 1 ?_; first | refine J.ad ?_ | refine J.sb ?_ | refine J.ng ?_ | refine J.mu ?_) | (refine J.o 5 ?_; first | refine J.t0 hΓ ?_ | refine J.t1 hΓ ?_ | refine J.t2 hΓ ?_ | refine J.tT _ default hΓ (fun _ _ => ?_) | refine J.tT1 _ default hΓ (fun _ _ => ?_) | refine J.tT2 _ default hΓ (fun _ _ => ?_)) | (refine J.o 6 ?_; refine J.bx (fun _ => ?_)) | (refine J.o 7 ?_; refine J.al hΓ (fun _ => ?_)) | (refine J.o 8 ?_; refine J.bd hΓ ?_) | (refine J.o 9 ?_; refine J.bl hΓ (fun _ => ?_)) | (refine J.o 10 ?_; refine J.ev' hΓ ?_) | (refine J.o 11 ?_; refine J.ev' hΓ ?_) | (refine J.o 14 ?_; refine J.mf hΓ ?_) | refine J.kn ?_) | ((fail_if_success refine J.wt ?_); refine J.gc rfl rfl (fun hc => ?_) (fun hc => ?_) <;> ((try simp only [decide_eq_true_eq, decide_eq_false_iff_not, beq_iff_eq, beq_eq_false_iff_ne, bne_iff_ne, bne_eq_false_iff_eq, Bool.not_eq_true', Bool.not_eq_false', Bool.not_eq_true, Bool.not_eq_false] at hc) <;> first | (first | (exact absurd rfl hc) | (exfalso; omega) | (exact absurd (hc.symm.trans (by assumption : _ = false)) (by decide)) | (exact absurd (hc.symm.trans (by assumption : _ = true)) (by decide))) | skip)))
      | (first | refine JC.seq ?_ | refine JC.region ?_ | refine JC.block ?_ | refine JC.ret ?_ | refine JC.exit ?_ | refine JC.skip ?_ | refine thenK.nn ?_ | refine thenK.r ?_ | refine thenK.x ?_ | refine blockK.nn ?_ | refine blockK.r ?_ | refine blockK.hit rfl ?_ | refine blockK.miss rfl ?_ | refine JC.condT rfl ?_ | refine JC.condF rfl ?_ | (refine JC.cond rfl (fun hc => ?_) (fun hc => ?_) <;> ((try simp only [decide_eq_true_eq, decide_eq_false_iff_not, beq_iff_eq, beq_eq_false_iff_ne, bne_iff_ne, bne_eq_false_iff_eq, Bool.not_eq_true', Bool.not_eq_false', Bool.not_eq_true, Bool.not_eq_false] at hc) <;> first | (first | (exact absurd rfl hc) | (exfalso; omega) | (exact absurd (hc.symm.trans (by assumption : _ = false)) (by decide)) | (exact absurd (hc.symm.trans (by assumption : _ = true)) (by decide))) | skip)) | (refine JC.drawA [] (by kernel_rfl) (by kernel_rfl) ?_) | refine drawK.nn ?_ | refine roundK.nn ?_ | refine roundK.r ?_ | refine roundK.x ?_ | refine loopK.r ?_ | refine loopK.x ?_)
      | (fail)
      | fail
    all_goals first | (exact absurd rfl hc) | skip
    all_goals exact ret0n rfl (fun w1 hw => ⟨_, _, rfl, hw, rfl, rfl⟩)
theorem wBy_any {w0 w : World} {R : Heap} {L : List Heap} {b : Nat} {p a : Option Addr} {cap : Nat} {bs : List UInt8} {hb : Heap} (c : UInt8) (hp : p = none ∨ p = some ⟨b, 0, none⟩) (ob : OwT encB 1 5 a cap bs hb) (hcap : cap ≤ maxLen) (hlen : bs.length + 1 ≤ 140737488355328) (hw : H w0 R ([(b, bldO p (.slice a bs.length cap))] :: hb :: L) w) :
    Calls Try.prog 81 #[.pointer (some ⟨b, 0, none⟩), .int .u8 (c.toNat : Int)] w fun e w' => ∃ v' L', e = .returned v' ∧ H w0 R L' w' ∧ ∃ a' cap' h', L' = [(b, bldO (some ⟨b, 0, none⟩) (.slice a' (bs ++ [c]).length cap'))] :: h' :: L ∧ OwT encB 1 5 a' cap' (bs ++ [c]) h' ∧ cap' ≤ maxLen := by
  have hl : (bs ++ [c]).length = bs.length + 1 := by simp
  refine calls_in Try.func81 Try.ntmps81 rfl rfl (hw) ?_
  repeat' first
    | (refine J.isJ ?_; first | (first | (refine J.fc 134 ?_; refine J.callx eCopyC rfl rfl (fun w hw => copyC_any hp hw) ?_; rintro _ _ ⟨rfl, rfl⟩; unfold bldO) | (refine J.o 9 ?_; refine J.perm (br1.cons _) ?_; refine J.app1C [c] hΓ rfl rfl rfl rfl rfl rfl rfl ob rfl rfl rfl rfl (by omega) (by omega) (by omega) hcap (by omega) (fun a2 c2 h2 o2 hc2 => ?_)) | (refine J.o 5 ?_; refine J.t1 hΓ ?_)) | (first | (refine J.o 0 ?_; refine J.ev' hΓ ?_) | refine J.nil ?_ | refine J.kd ?_ | (refine J.o 4 ?_; first | refine J.lT default hΓ ?_ | refine J.lR hΓ ?_) | (refine J.o 3 ?_; first | refine J.iA hΓ ?_ | refine J.iJ hΓ ?_ | refine J.fP hΓ ?_ | refine J.iC hΓ ?_ | refine J.ev' hΓ ?_) | (refine J.o 1 ?_; first | refine J.ad ?_ | refine J.sb ?_ | refine J.ng ?_ | refine J.mu ?_) | (refine J.o 5 ?_; first | refine J.t0 hΓ ?_ | refine J.t1 hΓ ?_ | refine J.t2 hΓ ?_ | refine J.tT _ default hΓ (fun _ _ => ?_) | refine J.tT1 _ default hΓ (fun _ _ => ?_) | refine J.tT2 _ default hΓ (fun _ _ => ?_)) | (refine J.o 6 ?_; refine J.bx (fun _ => ?_)) | (refine J.o 7 ?_; refine J.al hΓ (fun _ => ?_)) | (refine J.o 8 ?_; refine J.bd hΓ ?_) | (refine J.o 9 ?_; refine J.bl hΓ (fun _ => ?_)) | (refine J.o 10 ?_; refine J.ev' hΓ ?_) | (refine J.o 11 ?_; refine J.ev' hΓ ?_) | (refine J.o 14 ?_; refine J.mf hΓ ?_) | refine J.kn ?_) | ((fail_if_success refine J.wt ?_); refine J.gc rfl rfl (fun hc => ?_) (fun hc => ?_) <;> ((try simp only [decide_eq_true_eq, decide_eq_false_iff_not, beq_iff_eq, beq_eq_false_iff_ne, bne_iff_ne, bne_eq_false_iff_eq, Bool.not_eq_true', Bool.not_eq_false', Bool.not_eq_true, Bool.not_eq_false] at hc) <;> first | (first | (exact absurd rfl hc) | (exfalso; omega) | (exact absurd (hc.symm.trans (by assumption : _ = false)) (by decide)) | (exact absurd (hc.symm.trans (by assumption : _ = true)) (by decide))) | skip)))
    | (first | refine JC.seq ?_ | refine JC.region ?_ | refine JC.block ?_ | refine JC.ret ?_ | refine JC.exit ?_ | refine JC.skip ?_ | refine thenK.nn ?_ | refine thenK.r ?_ | refine thenK.x ?_ | refine blockK.nn ?_ | refine blockK.r ?_ | refine blockK.hit rfl ?_ | refine blockK.miss rfl ?_ | refine JC.condT rfl ?_ | refine JC.condF rfl ?_ | (refine JC.cond rfl (fun hc => ?_) (fun hc => ?_) <;> ((try simp only [decide_eq_true_eq, decide_eq_false_iff_not, beq_iff_eq, beq_eq_false_iff_ne, bne_iff_ne, bne_eq_false_iff_eq, Bool.not_eq_true', Bool.not_eq_false', Bool.not_eq_true, Bool.not_eq_false] at hc) <;> first | (first | (exact absurd rfl hc) | (exfalso; omega) | (exact absurd (hc.symm.trans (by assumption : _ = false)) (by decide)) | (exact absurd (hc.symm.trans (by assumption : _ = true)) (by decide))) | skip)) | (refine JC.drawA [] (by kernel_rfl) (by kernel_rfl) ?_) | refine drawK.nn ?_ | refine roundK.nn ?_ | refine roundK.r ?_ | refine roundK.x ?_ | refine loopK.r ?_ | refine loopK.x ?_)
    | (fail)
    | fail
  all_goals first | (exfalso; omega) | skip
  rw [hl]
  all_goals exact ret1f rfl rfl rfl (fun w1 hw => ⟨_, _, rfl, hw.perm br1, _, _, _, rfl, o2, hc2⟩)
theorem bytes_flat : ∀ bs : List UInt8, bs.flatMap encB = Lib.byteCells bs
  | [] => rfl
  | x :: bs => by
    have ih := bytes_flat bs
    unfold Lib.byteCells at ih ⊢
    rw [List.flatMap_cons, List.map_cons, ih]
    rfl
theorem bStr_any {w0 w : World} {R : Heap} {L : List Heap} {b : Nat} {p a : Option Addr} {cap : Nat} {bs : List UInt8} {hb : Heap} (hp : p = none ∨ p = some ⟨b, 0, none⟩) (ob : OwT encB 1 5 a cap bs hb) (hcap : cap ≤ maxLen) (hw : H w0 R ([(b, bldO p (.slice a bs.length cap))] :: hb :: L) w) :
    Calls Try.prog 82 #[.pointer (some ⟨b, 0, none⟩)] w fun e w' => ∃ v' L', e = .returned v' ∧ H w0 R L' w' ∧ (v' = .string (S bs) ∧ L' = []) := by
  have hbk : w.heap[b]? = some (bldO p (.slice a bs.length cap)) := hw.rd (Rd.fr (by simp))
  have hbn : w0.heap.size ≤ b := hw.new (b, bldO p (.slice a bs.length cap)) (by simp)
  have hfl := bytes_flat bs
  have hown : w.ownsRow w0.heap.size 5 1 (.slice a bs.length cap) (Lib.byteCells bs).length (Lib.byteCells bs) ∧ (Value.slice a bs.length cap).ownBlock ≠ some b := by
    rw [Lib.byteCells_length]
    rcases ob.row with ⟨rfl, rfl, rfl, rfl⟩ | ⟨g, cs, rfl, rfl, h1, h2, h3⟩
    · exact ⟨⟨by simp [Lib.byteCells], .inl ⟨rfl, rfl⟩⟩, by simp [Value.ownBlock]⟩
    · have hg : w.heap[g]? = some (.cells ⟨cs⟩ 5 (0, 0)) := hw.own (g, _) (by simp)
      have hgn : w0.heap.size ≤ g := hw.new (g, .cells ⟨cs⟩ 5 (0, 0)) (by simp)
      refine ⟨⟨by rw [Lib.byteCells_length]; omega, .inr ⟨g, cap, ⟨cs⟩, rfl, hgn, hg, h2, hcap, by simpa using h1, ?_⟩⟩, ?_⟩
      · rw [← hfl]; exact h3
      · have hnd := hw.nodup
        simp only [List.flatten_cons, List.map_append, List.map_cons, List.map_nil, List.cons_append, List.nil_append] at hnd
        rw [List.nodup_cons] at hnd
        intro e
        simp only [Value.ownBlock, Option.some.injEq] at e
        exact hnd.1 (by rw [← e]; simp)
  have hB : Lib.IsBuilder 128 5 w0.heap.size b (Lib.byteCells bs) w := by
    rcases hp with rfl | rfl
    · exact .inl ⟨hbn, _, hbk, hown.1, hown.2⟩
    · exact .inr ⟨hbn, _, hbk, hown.1, hown.2⟩
  refine (Try.Builder_String_any w0.heap.size b bs w hB hw.below.size).mono ?_
  rintro e w' ⟨rfl, hbel⟩
  exact ⟨_, [], rfl, ⟨hw.below.trans hbel, hw.old, fun x hx => by simp at hx, fun x hx => by simp at hx, by simp⟩, rfl, rfl⟩
end Go.Proofs.Ythnhijdfcmcnhaa

/- nat.shrink, nat.Text of numbers of one part. -/
namespace Go.Proofs.Ythnhijdfcmcnhaa
open Go Go.Cx Go.RowKit
set_option linter.unusedVariables false
set_option linter.unusedSimpArgs false
set_option maxHeartbeats 4000000
attribute [local irreducible] J JC thenK blockK loopK roundK drawK retK QW Qt pel List.set Calls
open Go.Lib
set_option maxRecDepth 8000
attribute [local irreducible] JE Br eK0 eK2 eK3 brK pc
section
variable {P : Program} {n : Nat} {w0 : World} {R : Heap} {l0 : List Oper} {K : Exit → Fr → List Heap → Prop} {f : Fr} {L : List Heap} {rest : List (Nat × Oper)} {κ : Nat} {Γ : List (Nat × TI)}
variable {d : Nat} {ty : TypeId} {pos : String} {aft : Array Edge} {g : Option (Nat × Bool)} {t u : TypeId} {x y : Operand} {k : IntKind} {a b : Nat}
theorem J.gorE {c : Nat} (h : a ||| b = c) (kk : J P n w0 R l0 K rest (upd f d (.int .u64 (c : Int))) L) (ha : a < 18446744073709551616) (hb : b < 18446744073709551616) (hg : wantB n f l0 ⟨some d, .binOp .or t x y u, ty, pos, aft, g⟩ = true := by exact rfl) (hx : Cx.ev n f x = .int .u64 (a : Int) := by exact rfl) (hy : Cx.ev n f y = .int .u64 (b : Int) := by exact rfl) : J P n w0 R l0 K ((κ, ⟨some d, .binOp .or t x y u, ty, pos, aft, g⟩) :: rest) f L := by
  subst h
  exact J.gor kk hg hx hy ha hb
end
theorem eShrink : Entr Try.prog 80 := Entr.of Try.func80 rfl rfl
theorem eText : Entr Try.prog 31 := Entr.of Try.func31 rfl rfl
theorem shrink_any {a : Option Addr} {c : Nat} {ws : List Nat} {h : Heap} (ow : OwT encW 1 120 a c ws h) (hok : okW ws) (hl : ws.length ≤ 1000) (B : Nat) (hB : 0 < B) (hB2 : B < 4294967296) {w0 w : World} {R : Heap} {L : List Heap} (hw : H w0 R (h :: L) w) :
    Calls Try.prog 80 #[.slice a ws.length c, .int .u32 (B : Int)] w fun e w' => ∃ v L', e = .returned v ∧ H w0 R L' w' ∧ ∃ o h', v = .int .u32 ((valW ws % B : Nat) : Int) ∧ L' = h' :: L ∧ OwT encW 1 120 a c o h' ∧ okW o ∧ o.length = ws.length ∧ valW o = valW ws / B := by
  refine calls_in Try.func80 Try.ntmps80 rfl rfl (hw) ?_
  repeat' first
    | (refine J.isJ ?_; first | (fail) | (first | (refine J.o 0 ?_; refine J.ev' hΓ ?_) | refine J.nil ?_ | refine J.kd ?_ | (refine J.o 4 ?_; first | refine J.lT default hΓ ?_ | refine J.lR hΓ ?_) | (refine J.o 3 ?_; first | refine J.iA hΓ ?_ | refine J.iJ hΓ ?_ | refine J.fP hΓ ?_ | refine J.iC hΓ ?_ | refine J.ev' hΓ ?_) | (refine J.o 1 ?_; first | refine J.ad ?_ | refine J.sb ?_ | refine J.ng ?_ | refine J.mu ?_) | (refine J.o 5 ?_; first | refine J.t0 hΓ ?_ | refine J.t1 hΓ ?_ | refine J.t2 hΓ ?_ | refine J.tT _ default hΓ (fun _ _ => ?_) | refine J.tT1 _ default hΓ (fun _ _ => ?_) | refine J.tT2 _ default hΓ (fun _ _ => ?_)) | (refine J.o 6 ?_; refine J.bx (fun _ => ?_)) | (refine J.o 7 ?_; refine J.al hΓ (fun _ => ?_)) | (refine J.o 8 ?_; refine J.bd hΓ ?_) | (refine J.o 9 ?_; refine J.bl hΓ (fun _ => ?_)) | (refine J.o 10 ?_; refine J.ev' hΓ ?_) | (refine J.o 11 ?_; refine J.ev' hΓ ?_) | (refine J.o 14 ?_; refine J.mf hΓ ?_) | refine J.kn ?_) | ((fail_if_success refine J.wt ?_); refine J.gc rfl rfl (fun hc => ?_) (fun hc => ?_) <;> ((try simp only [decide_eq_true_eq, decide_eq_false_iff_not, beq_iff_eq, beq_eq_false_iff_ne, bne_iff_ne, bne_eq_false_iff_eq, Bool.not_eq_true', Bool.not_eq_false', Bool.not_eq_true, Bool.not_eq_false] at hc) <;> first | (first | (exact absurd rfl hc) | (exfalso; omega) | (exact absurd (hc.symm.trans (by assumption : _ = false)) (by decide)) | (exact absurd (hc.symm.trans (by assumption : _ = true)) (by decide))) | skip)))
    | (first | refine JC.seq ?_ | refine JC.region ?_ | refine JC.block ?_ | refine JC.ret ?_ | refine JC.exit ?_ | refine JC.skip ?_ | refine thenK.nn ?_ | refine thenK.r ?_ | refine thenK.x ?_ | refine blockK.nn ?_ | refine blockK.r ?_ | refine blockK.hit rfl ?_ | refine blockK.miss rfl ?_ | refine JC.condT rfl ?_ | refine JC.condF rfl ?_ | (refine JC.cond rfl (fun hc => ?_) (fun hc => ?_) <;> ((try simp only [decide_eq_true_eq, decide_eq_false_iff_not, beq_iff_eq, beq_eq_false_iff_ne, bne_iff_ne, bne_eq_false_iff_eq, Bool.not_eq_true', Bool.not_eq_false', Bool.not_eq_true, Bool.not_eq_false] at hc) <;> first | (first | (exact absurd rfl hc) | (exfalso; omega) | (exact absurd (hc.symm.trans (by assumption : _ = false)) (by decide)) | (exact absurd (hc.symm.trans (by assumption : _ = true)) (by decide))) | skip)) | refine drawK.nn ?_ | refine roundK.nn ?_ | refine roundK.r ?_ | refine roundK.x ?_ | refine loopK.r ?_ | refine loopK.x ?_)
    | (fail)
    | fail
  all_goals first | (exfalso; omega) | skip
  refine JC.loop (fun i => i == 5 || i == 6 || Nat.ble 10 i) (fun m g L' => ∃ o r h', g 6 = .int .i64 ((m : Int) - 1) ∧ g 5 = .int .u64 ((r : Nat) : Int) ∧ m ≤ ws.length ∧ ShrI ws B m o r ∧ OwT encW 1 120 a c o h' ∧ L' = h' :: L) ws.length ⟨ws, 0, h, rfl, rfl, Nat.le_refl _, ShrI.start hB hok, ow, rfl⟩ ?_
  rintro m g L' ⟨o, r, h4, e6, e5, hm, si, o4, rfl⟩
  have lo := si.len
  rcases Nat.eq_zero_or_pos m with h0 | hpos
  · subst h0
    refine JC.pin 6 e6 ?_
    refine JC.pin 5 e5 ?_
    obtain ⟨hv1, hv2⟩ := si.fin hB
    have hr1 := si.r1
    repeat' first
      | (refine J.isJ ?_; first | ((refine J.o 2 ?_; refine J.gcv hΓ ?_ (hk := wU32 (by omega)))) | (first | (refine J.o 0 ?_; refine J.ev' hΓ ?_) | refine J.nil ?_ | refine J.kd ?_ | (refine J.o 4 ?_; first | refine J.lT default hΓ ?_ | refine J.lR hΓ ?_) | (refine J.o 3 ?_; first | refine J.iA hΓ ?_ | refine J.iJ hΓ ?_ | refine J.fP hΓ ?_ | refine J.iC hΓ ?_ | refine J.ev' hΓ ?_) | (refine J.o 1 ?_; first | refine J.ad ?_ | refine J.sb ?_ | refine J.ng ?_ | refine J.mu ?_) | (refine J.o 5 ?_; first | refine J.t0 hΓ ?_ | refine J.t1 hΓ ?_ | refine J.t2 hΓ ?_ | refine J.tT _ default hΓ (fun _ _ => ?_) | refine J.tT1 _ default hΓ (fun _ _ => ?_) | refine J.tT2 _ default hΓ (fun _ _ => ?_)) | (refine J.o 6 ?_; refine J.bx (fun _ => ?_)) | (refine J.o 7 ?_; refine J.al hΓ (fun _ => ?_)) | (refine J.o 8 ?_; refine J.bd hΓ ?_) | (refine J.o 9 ?_; refine J.bl hΓ (fun _ => ?_)) | (refine J.o 10 ?_; refine J.ev' hΓ ?_) | (refine J.o 11 ?_; refine J.ev' hΓ ?_) | (refine J.o 14 ?_; refine J.mf hΓ ?_) | refine J.kn ?_) | ((fail_if_success refine J.wt ?_); refine J.gc rfl rfl (fun hc => ?_) (fun hc => ?_) <;> ((try simp only [decide_eq_true_eq, decide_eq_false_iff_not, beq_iff_eq, beq_eq_false_iff_ne, bne_iff_ne, bne_eq_false_iff_eq, Bool.not_eq_true', Bool.not_eq_false', Bool.not_eq_true, Bool.not_eq_false] at hc) <;> first | (first | (exact absurd rfl hc) | (exfalso; omega) | (exact absurd (hc.symm.trans (by assumption : _ = false)) (by decide)) | (exact absurd (hc.symm.trans (by assumption : _ = true)) (by decide))) | skip)))
      | (first | refine JC.seq ?_ | refine JC.region ?_ | refine JC.block ?_ | refine JC.ret ?_ | refine JC.exit ?_ | refine JC.skip ?_ | refine thenK.nn ?_ | refine thenK.r ?_ | refine thenK.x ?_ | refine blockK.nn ?_ | refine blockK.r ?_ | refine blockK.hit rfl ?_ | refine blockK.miss rfl ?_ | refine JC.condT rfl ?_ | refine JC.condF rfl ?_ | (refine JC.cond rfl (fun hc => ?_) (fun hc => ?_) <;> ((try simp only [decide_eq_true_eq, decide_eq_false_iff_not, beq_iff_eq, beq_eq_false_iff_ne, bne_iff_ne, bne_eq_false_iff_eq, Bool.not_eq_true', Bool.not_eq_false', Bool.not_eq_true, Bool.not_eq_false] at hc) <;> first | (first | (exact absurd rfl hc) | (exfalso; omega) | (exact absurd (hc.symm.trans (by assumption : _ = false)) (by decide)) | (exact absurd (hc.symm.trans (by assumption : _ = true)) (by decide))) | skip)) | refine drawK.nn ?_ | refine roundK.nn ?_ | refine roundK.r ?_ | refine roundK.x ?_ | refine loopK.r ?_ | refine loopK.x ?_)
      | (fail)
      | fail
    all_goals first | (exfalso; omega) | skip
    refine ret1f rfl rfl rfl (fun w1 hw => ⟨_, _, rfl, hw, o, h4, ?_, rfl, o4, si.ok, si.len, hv1⟩)
    rw [hv2]
  · obtain ⟨i, rfl⟩ : ∃ i, m = i + 1 := ⟨m - 1, by omega⟩
    have e6' : g 6 = .int .i64 ((i : Nat) : Int) := by rw [e6]; congr 1; omega
    refine JC.pin 6 e6' ?_
    refine JC.pin 5 e5 ?_
    have hr1 := si.r1
    have b1 : o.getD i 0 < 4294967296 := okW_get si.ok i
    have hr2 : r ≤ 4294967294 := by omega
    have hr3 : r * 4294967296 ≤ 4294967294 * 4294967296 := Nat.mul_le_mul_right _ hr2
    have ha1 : r * 2 ^ 32 < 18446744073709551616 := Nat.lt_of_le_of_lt hr3 (by decide)
    have ha2 : o.getD i 0 < 18446744073709551616 := Nat.lt_trans b1 (by decide)
    have hs : r * W32 + o.getD i 0 < 18446744073709551616 := Nat.lt_of_lt_of_le (Nat.add_lt_add_of_le_of_lt hr3 b1) (by decide)
    obtain ⟨hst, hq⟩ := si.step hB hok (show i < ws.length by omega)
    have hq : (r * 4294967296 + o.getD i 0) / B < 4294967296 := hq
    have hor : r * 2 ^ 32 ||| o.getD i 0 = r * W32 + o.getD i 0 := by
      rw [Nat.mul_comm r (2 ^ 32), ← Nat.two_pow_add_eq_or_of_lt b1]
    have hrem : (r * W32 + o.getD i 0) % B < B := Nat.mod_lt _ hB
    have hil : i < o.length := by omega
    repeat' first
      | (refine J.isJ ?_; first | (first | (refine J.o 4 ?_; refine J.lT (0 : Nat) hΓ ?_ (hs := o4.sl) (hr := RdH.hd)) | (refine J.o 1 ?_; first | refine J.gshl (j := 32) ?_ (hw := wU64 ha1) | refine J.gorE hor ?_ ha1 ha2 | refine J.gquo (b := B) ?_ (hw := wU64 (Nat.lt_of_le_of_lt (Nat.div_le_self _ _) hs)) | refine J.grem (b := B) ?_) | (refine J.o 2 ?_; first | refine J.gcv hΓ ?_ (hk := wU64 (by omega)) | refine J.gcv hΓ ?_ (hk := wU32 hq)) | (refine J.o 5 ?_; refine J.tT (enc := encW) _ default hΓ (fun h5 o5 => ?_))) | (first | (refine J.o 0 ?_; refine J.ev' hΓ ?_) | refine J.nil ?_ | refine J.kd ?_ | (refine J.o 4 ?_; first | refine J.lT default hΓ ?_ | refine J.lR hΓ ?_) | (refine J.o 3 ?_; first | refine J.iA hΓ ?_ | refine J.iJ hΓ ?_ | refine J.fP hΓ ?_ | refine J.iC hΓ ?_ | refine J.ev' hΓ ?_) | (refine J.o 1 ?_; first | refine J.ad ?_ | refine J.sb ?_ | refine J.ng ?_ | refine J.mu ?_) | (refine J.o 5 ?_; first | refine J.t0 hΓ ?_ | refine J.t1 hΓ ?_ | refine J.t2 hΓ ?_ | refine J.tT _ default hΓ (fun _ _ => ?_) | refine J.tT1 _ default hΓ (fun _ _ => ?_) | refine J.tT2 _ default hΓ (fun _ _ => ?_)) | (refine J.o 6 ?_; refine J.bx (fun _ => ?_)) | (refine J.o 7 ?_; refine J.al hΓ (fun _ => ?_)) | (refine J.o 8 ?_; refine J.bd hΓ ?_) | (refine J.o 9 ?_; refine J.bl hΓ (fun _ => ?_)) | (refine J.o 10 ?_; refine J.ev' hΓ ?_) | (refine J.o 11 ?_; refine J.ev' hΓ ?_) | (refine J.o 14 ?_; refine J.mf hΓ ?_) | refine J.kn ?_) | ((fail_if_success refine J.wt ?_); refine J.gc rfl rfl (fun hc => ?_) (fun hc => ?_) <;> ((try simp only [decide_eq_true_eq, decide_eq_false_iff_not, beq_iff_eq, beq_eq_false_iff_ne, bne_iff_ne, bne_eq_false_iff_eq, Bool.not_eq_true', Bool.not_eq_false', Bool.not_eq_true, Bool.not_eq_false] at hc) <;> first | (first | (exact absurd rfl hc) | (exfalso; omega) | (exact absurd (hc.symm.trans (by assumption : _ = false)) (by decide)) | (exact absurd (hc.symm.trans (by assumption : _ = true)) (by decide))) | skip)))
      | (first | refine JC.seq ?_ | refine JC.region ?_ | refine JC.block ?_ | refine JC.ret ?_ | refine JC.exit ?_ | refine JC.skip ?_ | refine thenK.nn ?_ | refine thenK.r ?_ | refine thenK.x ?_ | refine blockK.nn ?_ | refine blockK.r ?_ | refine blockK.hit rfl ?_ | refine blockK.miss rfl ?_ | refine JC.condT rfl ?_ | refine JC.condF rfl ?_ | (refine JC.cond rfl (fun hc => ?_) (fun hc => ?_) <;> ((try simp only [decide_eq_true_eq, decide_eq_false_iff_not, beq_iff_eq, beq_eq_false_iff_ne, bne_iff_ne, bne_eq_false_iff_eq, Bool.not_eq_true', Bool.not_eq_false', Bool.not_eq_true, Bool.not_eq_false] at hc) <;> first | (first | (exact absurd rfl hc) | (exfalso; omega) | (exact absurd (hc.symm.trans (by assumption : _ = false)) (by decide)) | (exact absurd (hc.symm.trans (by assumption : _ = true)) (by decide))) | skip)) | refine drawK.nn ?_ | refine roundK.nn ?_ | refine roundK.r ?_ | refine roundK.x ?_ | refine loopK.r ?_ | refine loopK.x ?_)
      | (fail)
      | fail
    all_goals first | (exfalso; omega) | skip
    refine loopK.nn i (by omega) (by repeat (first | refine Ag.upd rfl ?_ | exact Ag.hv)) ⟨_, _, h5, rfl, rfl, by omega, hst, o5, rfl⟩
end Go.Proofs.Ythnhijdfcmcnhaa

/- nat.Text of numbers below 10 to the power 9. -/
namespace Go.Proofs.Ythnhijdfcmcnhaa
open Go Go.Cx Go.RowKit
set_option linter.unusedVariables false
set_option linter.unusedSimpArgs false
set_option maxHeartbeats 4000000
attribute [local irreducible] J JC thenK blockK loopK roundK drawK retK QW Qt pel List.set Calls
open Go.Lib
set_option maxRecDepth 8000
attribute [local irreducible] JE Br eK0 eK2 eK3 brK pc
theorem words_one {v : Nat} (h0 : 0 < v) (hv : v < 4294967296) : wordsB (bytesN v) = [v] := by
  have h1 := valW_wordsB (bytesN v)
  rw [valB_bytesN] at h1
  have h2 := wordsB_len (bytesN v)
  have h3 : (bytesN v).length ≤ 4 := bytesN_len (k := 4) (by show v < 4294967296; exact hv)
  match hw : wordsB (bytesN v) with
  | [] => rw [hw] at h1; simp only [valW] at h1; omega
  | [x] => rw [hw] at h1; simp only [valW] at h1; rw [show x = v by omega]
  | x :: y :: l => rw [hw] at h2; simp only [List.length_cons] at h2; omega
theorem one_zero {o : List Nat} (hl : o.length = 1) (hv : valW o = 0) : o = [0] := by
  match o, hl with
  | [x], _ => simp only [valW] at hv; rw [show x = 0 by omega]
theorem decN_len : ∀ (k v : Nat), v < 10 ^ k → (decN v).length ≤ k
  | 0, v, h => by rw [show v = 0 by simpa using h]; simp [decN_0]
  | k + 1, v, h => by
    rcases Nat.eq_zero_or_pos v with h0 | h0
    · rw [h0]; simp [decN_0]
    · rw [decN_pos h0, List.length_cons]
      have := decN_len k (v / 10) (by rw [Nat.pow_succ] at h; omega)
      omega
def dig (p : Nat) : UInt8 := UInt8.ofNat (48 + p % 10)
theorem dec_u8 (p : Nat) : IntKind.u8.wrap ((48 + p % 10 : Nat) : Int) = ((UInt8.ofNat (48 + p % 10)).toNat : Int) := wB _
theorem text_zero (w : World) : Calls Try.prog 31 #[natV 0] w fun e w' => e = .returned (.string (S [48])) ∧ Below w.heap.size w w' := by
  have cX := fun w => words_any 0 (by show (bytesN 0).length ≤ 100000; decide) w
  have hb : bytesN 0 = [] := rfl
  have hws : wordsB (bytesN 0) = [] := rfl
  rw [hws] at cX
  refine calls_of_JC (R := []) Try.func31 Try.ntmps31 rfl rfl (Holds.nil _) ?_
  unfold natV
  repeat' first
    | (refine J.isJ ?_; first | (first | (refine J.o 6 ?_; refine J.bx (fun b1 => ?_)) | (refine J.fc 79 ?_; refine J.call1 eWords rfl rfl (fun w hw => cX w) ?_; rintro _ hgx ⟨ax, cx, rfl, ox⟩)) | (first | (refine J.o 0 ?_; refine J.ev' hΓ ?_) | refine J.nil ?_ | refine J.kd ?_ | (refine J.o 4 ?_; first | refine J.lT default hΓ ?_ | refine J.lR hΓ ?_) | (refine J.o 3 ?_; first | refine J.iA hΓ ?_ | refine J.iJ hΓ ?_ | refine J.fP hΓ ?_ | refine J.iC hΓ ?_ | refine J.ev' hΓ ?_) | (refine J.o 1 ?_; first | refine J.ad ?_ | refine J.sb ?_ | refine J.ng ?_ | refine J.mu ?_) | (refine J.o 5 ?_; first | refine J.t0 hΓ ?_ | refine J.t1 hΓ ?_ | refine J.t2 hΓ ?_ | refine J.tT _ default hΓ (fun _ _ => ?_) | refine J.tT1 _ default hΓ (fun _ _ => ?_) | refine J.tT2 _ default hΓ (fun _ _ => ?_)) | (refine J.o 6 ?_; refine J.bx (fun _ => ?_)) | (refine J.o 7 ?_; refine J.al hΓ (fun _ => ?_)) | (refine J.o 8 ?_; refine J.bd hΓ ?_) | (refine J.o 9 ?_; refine J.bl hΓ (fun _ => ?_)) | (refine J.o 10 ?_; refine J.ev' hΓ ?_) | (refine J.o 11 ?_; refine J.ev' hΓ ?_) | (refine J.o 14 ?_; refine J.mf hΓ ?_) | refine J.kn ?_) | ((fail_if_success refine J.wt ?_); refine J.gc rfl rfl (fun hc => ?_) (fun hc => ?_) <;> ((try simp only [decide_eq_true_eq, decide_eq_false_iff_not, beq_iff_eq, beq_eq_false_iff_ne, bne_iff_ne, bne_eq_false_iff_eq, Bool.not_eq_true', Bool.not_eq_false', Bool.not_eq_true, Bool.not_eq_false] at hc) <;> first | (first | (exact absurd rfl hc) | (exfalso; omega) | (exact absurd (hc.symm.trans (by assumption : _ = false)) (by decide)) | (exact absurd (hc.symm.trans (by assumption : _ = true)) (by decide))) | skip)))
    | (first | refine JC.seq ?_ | refine JC.region ?_ | refine JC.block ?_ | refine JC.ret ?_ | refine JC.exit ?_ | refine JC.skip ?_ | refine thenK.nn ?_ | refine thenK.r ?_ | refine thenK.x ?_ | refine blockK.nn ?_ | refine blockK.r ?_ | refine blockK.hit rfl ?_ | refine blockK.miss rfl ?_ | refine JC.condT rfl ?_ | refine JC.condF rfl ?_ | (refine JC.cond rfl (fun hc => ?_) (fun hc => ?_) <;> ((try simp only [decide_eq_true_eq, decide_eq_false_iff_not, beq_iff_eq, beq_eq_false_iff_ne, bne_iff_ne, bne_eq_false_iff_eq, Bool.not_eq_true', Bool.not_eq_false', Bool.not_eq_true, Bool.not_eq_false] at hc) <;> first | (first | (exact absurd rfl hc) | (exfalso; omega) | (exact absurd (hc.symm.trans (by assumption : _ = false)) (by decide)) | (exact absurd (hc.symm.trans (by assumption : _ = true)) (by decide))) | skip)) | refine drawK.nn ?_ | refine roundK.nn ?_ | refine roundK.r ?_ | refine roundK.x ?_ | refine loopK.r ?_ | refine loopK.x ?_)
    | (fail)
    | fail
  refine JC.loop (fun i => (Nat.ble 3 i && Nat.ble i 6) || Nat.ble 11 i) (fun m g L' => g 3 = .slice ax 0 cx ∧ g 4 = .slice none 0 0 ∧ L' = [hgx, [(b1, Obj.cells ⟨[.string (S (bytesN 0))]⟩ 46 (0, 0))]]) 1 ⟨rfl, rfl, rfl⟩ ?_
  rintro m g L' ⟨e3, e4, rfl⟩
  refine JC.pin 3 e3 ?_
  refine JC.pin 4 e4 ?_
  repeat' first
    | (refine J.isJ ?_; first | (fail) | (first | (refine J.o 0 ?_; refine J.ev' hΓ ?_) | refine J.nil ?_ | refine J.kd ?_ | (refine J.o 4 ?_; first | refine J.lT default hΓ ?_ | refine J.lR hΓ ?_) | (refine J.o 3 ?_; first | refine J.iA hΓ ?_ | refine J.iJ hΓ ?_ | refine J.fP hΓ ?_ | refine J.iC hΓ ?_ | refine J.ev' hΓ ?_) | (refine J.o 1 ?_; first | refine J.ad ?_ | refine J.sb ?_ | refine J.ng ?_ | refine J.mu ?_) | (refine J.o 5 ?_; first | refine J.t0 hΓ ?_ | refine J.t1 hΓ ?_ | refine J.t2 hΓ ?_ | refine J.tT _ default hΓ (fun _ _ => ?_) | refine J.tT1 _ default hΓ (fun _ _ => ?_) | refine J.tT2 _ default hΓ (fun _ _ => ?_)) | (refine J.o 6 ?_; refine J.bx (fun _ => ?_)) | (refine J.o 7 ?_; refine J.al hΓ (fun _ => ?_)) | (refine J.o 8 ?_; refine J.bd hΓ ?_) | (refine J.o 9 ?_; refine J.bl hΓ (fun _ => ?_)) | (refine J.o 10 ?_; refine J.ev' hΓ ?_) | (refine J.o 11 ?_; refine J.ev' hΓ ?_) | (refine J.o 14 ?_; refine J.mf hΓ ?_) | refine J.kn ?_) | ((fail_if_success refine J.wt ?_); refine J.gc rfl rfl (fun hc => ?_) (fun hc => ?_) <;> ((try simp only [decide_eq_true_eq, decide_eq_false_iff_not, beq_iff_eq, beq_eq_false_iff_ne, bne_iff_ne, bne_eq_false_iff_eq, Bool.not_eq_true', Bool.not_eq_false', Bool.not_eq_true, Bool.not_eq_false] at hc) <;> first | (first | (exact absurd rfl hc) | (exfalso; omega) | (exact absurd (hc.symm.trans (by assumption : _ = false)) (by decide)) | (exact absurd (hc.symm.trans (by assumption : _ = true)) (by decide))) | skip)))
    | (first | refine JC.seq ?_ | refine JC.region ?_ | refine JC.block ?_ | refine JC.ret ?_ | refine JC.exit ?_ | refine JC.skip ?_ | refine thenK.nn ?_ | refine thenK.r ?_ | refine thenK.x ?_ | refine blockK.nn ?_ | refine blockK.r ?_ | refine blockK.hit rfl ?_ | refine blockK.miss rfl ?_ | refine JC.condT rfl ?_ | refine JC.condF rfl ?_ | (refine JC.cond rfl (fun hc => ?_) (fun hc => ?_) <;> ((try simp only [decide_eq_true_eq, decide_eq_false_iff_not, beq_iff_eq, beq_eq_false_iff_ne, bne_iff_ne, bne_eq_false_iff_eq, Bool.not_eq_true', Bool.not_eq_false', Bool.not_eq_true, Bool.not_eq_false] at hc) <;> first | (first | (exact absurd rfl hc) | (exfalso; omega) | (exact absurd (hc.symm.trans (by assumption : _ = false)) (by decide)) | (exact absurd (hc.symm.trans (by assumption : _ = true)) (by decide))) | skip)) | refine drawK.nn ?_ | refine roundK.nn ?_ | refine roundK.r ?_ | refine roundK.x ?_ | refine loopK.r ?_ | refine loopK.x ?_)
    | (fail)
    | fail
  all_goals first | (exfalso; omega) | skip
  refine JC.loop (fun i => i == 8 || Nat.ble 58 i) (fun m g L' => g 8 = .int .i64 (-1) ∧ True) 1 ⟨rfl, trivial⟩ ?_
  rintro m2 g2 L' ⟨e8, _⟩
  refine JC.pin 8 e8 ?_
  repeat' first
    | (refine J.isJ ?_; first | (fail) | (first | (refine J.o 0 ?_; refine J.ev' hΓ ?_) | refine J.nil ?_ | refine J.kd ?_ | (refine J.o 4 ?_; first | refine J.lT default hΓ ?_ | refine J.lR hΓ ?_) | (refine J.o 3 ?_; first | refine J.iA hΓ ?_ | refine J.iJ hΓ ?_ | refine J.fP hΓ ?_ | refine J.iC hΓ ?_ | refine J.ev' hΓ ?_) | (refine J.o 1 ?_; first | refine J.ad ?_ | refine J.sb ?_ | refine J.ng ?_ | refine J.mu ?_) | (refine J.o 5 ?_; first | refine J.t0 hΓ ?_ | refine J.t1 hΓ ?_ | refine J.t2 hΓ ?_ | refine J.tT _ default hΓ (fun _ _ => ?_) | refine J.tT1 _ default hΓ (fun _ _ => ?_) | refine J.tT2 _ default hΓ (fun _ _ => ?_)) | (refine J.o 6 ?_; refine J.bx (fun _ => ?_)) | (refine J.o 7 ?_; refine J.al hΓ (fun _ => ?_)) | (refine J.o 8 ?_; refine J.bd hΓ ?_) | (refine J.o 9 ?_; refine J.bl hΓ (fun _ => ?_)) | (refine J.o 10 ?_; refine J.ev' hΓ ?_) | (refine J.o 11 ?_; refine J.ev' hΓ ?_) | (refine J.o 14 ?_; refine J.mf hΓ ?_) | refine J.kn ?_) | ((fail_if_success refine J.wt ?_); refine J.gc rfl rfl (fun hc => ?_) (fun hc => ?_) <;> ((try simp only [decide_eq_true_eq, decide_eq_false_iff_not, beq_iff_eq, beq_eq_false_iff_ne, bne_iff_ne, bne_eq_false_iff_eq, Bool.not_eq_true', Bool.not_eq_false', Bool.not_eq_true, Bool.not_eq_false] at hc) <;> first | (first | (exact absurd rfl hc) | (exfalso; omega) | (exact absurd (hc.symm.trans (by assumption : _ = false)) (by decide)) | (exact absurd (hc.symm.trans (by assumption : _ = true)) (by decide))) | skip)))
    | (first | refine JC.seq ?_ | refine JC.region ?_ | refine JC.block ?_ | refine JC.ret ?_ | refine JC.exit ?_ | refine JC.skip ?_ | refine thenK.nn ?_ | refine thenK.r ?_ | refine thenK.x ?_ | refine blockK.nn ?_ | refine blockK.r ?_ | refine blockK.hit rfl ?_ | refine blockK.miss rfl ?_ | refine JC.condT rfl ?_ | refine JC.condF rfl ?_ | (refine JC.cond rfl (fun hc => ?_) (fun hc => ?_) <;> ((try simp only [decide_eq_true_eq, decide_eq_false_iff_not, beq_iff_eq, beq_eq_false_iff_ne, bne_iff_ne, bne_eq_false_iff_eq, Bool.not_eq_true', Bool.not_eq_false', Bool.not_eq_true, Bool.not_eq_false] at hc) <;> first | (first | (exact absurd rfl hc) | (exfalso; omega) | (exact absurd (hc.symm.trans (by assumption : _ = false)) (by decide)) | (exact absurd (hc.symm.trans (by assumption : _ = true)) (by decide))) | skip)) | refine drawK.nn ?_ | refine roundK.nn ?_ | refine roundK.r ?_ | refine roundK.x ?_ | refine loopK.r ?_ | refine loopK.x ?_)
    | (fail)
    | fail
  all_goals first | (exfalso; omega) | skip
  all_goals (refine ret1f rfl rfl rfl (fun w1 hw => ⟨rfl, hw.below⟩))
theorem text_any (v : Nat) (h0 : 0 < v) (hv : v < 1000000000) (w : World) : Calls Try.prog 31 #[natV v] w fun e w' => e = .returned (.string (S (decN v).reverse)) ∧ Below w.heap.size w w' := by
  have hbl : (bytesN v).length ≤ 4 := bytesN_len (k := 4) (by show v < 4294967296; omega)
  have cX := fun w => words_any v (by omega) w
  rw [words_one h0 (by omega)] at cX
  have dl := decN_len 9 v (by show v < 1000000000; exact hv)
  have hok : okW [v] := fun x hx => by rw [List.mem_singleton.1 hx]; show v < 4294967296; omega
  have vm : valW [v] % 1000000000 = v := by simp only [valW]; omega
  have vd : valW [v] / 1000000000 = 0 := by simp only [valW]; omega
  refine calls_of_JC (R := []) Try.func31 Try.ntmps31 rfl rfl (Holds.nil _) ?_
  unfold natV
  repeat' first
    | (refine J.isJ ?_; first | (first | (refine J.o 6 ?_; refine J.bx (fun b1 => ?_)) | (refine J.fc 79 ?_; refine J.call1 eWords rfl rfl (fun w hw => cX w) ?_; rintro _ hgx ⟨ax, cx, rfl, ox⟩)) | (first | (refine J.o 0 ?_; refine J.ev' hΓ ?_) | refine J.nil ?_ | refine J.kd ?_ | (refine J.o 4 ?_; first | refine J.lT default hΓ ?_ | refine J.lR hΓ ?_) | (refine J.o 3 ?_; first | refine J.iA hΓ ?_ | refine J.iJ hΓ ?_ | refine J.fP hΓ ?_ | refine J.iC hΓ ?_ | refine J.ev' hΓ ?_) | (refine J.o 1 ?_; first | refine J.ad ?_ | refine J.sb ?_ | refine J.ng ?_ | refine J.mu ?_) | (refine J.o 5 ?_; first | refine J.t0 hΓ ?_ | refine J.t1 hΓ ?_ | refine J.t2 hΓ ?_ | refine J.tT _ default hΓ (fun _ _ => ?_) | refine J.tT1 _ default hΓ (fun _ _ => ?_) | refine J.tT2 _ default hΓ (fun _ _ => ?_)) | (refine J.o 6 ?_; refine J.bx (fun _ => ?_)) | (refine J.o 7 ?_; refine J.al hΓ (fun _ => ?_)) | (refine J.o 8 ?_; refine J.bd hΓ ?_) | (refine J.o 9 ?_; refine J.bl hΓ (fun _ => ?_)) | (refine J.o 10 ?_; refine J.ev' hΓ ?_) | (refine J.o 11 ?_; refine J.ev' hΓ ?_) | (refine J.o 14 ?_; refine J.mf hΓ ?_) | refine J.kn ?_) | ((fail_if_success refine J.wt ?_); refine J.gc rfl rfl (fun hc => ?_) (fun hc => ?_) <;> ((try simp only [decide_eq_true_eq, decide_eq_false_iff_not, beq_iff_eq, beq_eq_false_iff_ne, bne_iff_ne, bne_eq_false_iff_eq, Bool.not_eq_true', Bool.not_eq_false', Bool.not_eq_true, Bool.not_eq_false] at hc) <;> first | (first | (exact absurd rfl hc) | (exfalso; omega) | (exact absurd (hc.symm.trans (by assumption : _ = false)) (by decide)) | (exact absurd (hc.symm.trans (by assumption : _ = true)) (by decide))) | skip)))
    | (first | refine JC.seq ?_ | refine JC.region ?_ | refine JC.block ?_ | refine JC.ret ?_ | refine JC.exit ?_ | refine JC.skip ?_ | refine thenK.nn ?_ | refine thenK.r ?_ | refine thenK.x ?_ | refine blockK.nn ?_ | refine blockK.r ?_ | refine blockK.hit rfl ?_ | refine blockK.miss rfl ?_ | refine JC.condT rfl ?_ | refine JC.condF rfl ?_ | (refine JC.cond rfl (fun hc => ?_) (fun hc => ?_) <;> ((try simp only [decide_eq_true_eq, decide_eq_false_iff_not, beq_iff_eq, beq_eq_false_iff_ne, bne_iff_ne, bne_eq_false_iff_eq, Bool.not_eq_true', Bool.not_eq_false', Bool.not_eq_true, Bool.not_eq_false] at hc) <;> first | (first | (exact absurd rfl hc) | (exfalso; omega) | (exact absurd (hc.symm.trans (by assumption : _ = false)) (by decide)) | (exact absurd (hc.symm.trans (by assumption : _ = true)) (by decide))) | skip)) | refine drawK.nn ?_ | refine roundK.nn ?_ | refine roundK.r ?_ | refine roundK.x ?_ | refine loopK.r ?_ | refine loopK.x ?_)
    | (fail)
    | fail
  refine JC.weak (L' := [hgx, [], [(b1, Obj.cells ⟨[.string (S (bytesN v))]⟩ 46 (0, 0))]]) (fun w hw => hw.nilF.perm br1) ?_
  refine JC.loop (fun i => (Nat.ble 3 i && Nat.ble i 6) || Nat.ble 11 i) (fun m g L' => ∃ ws a c h bs ao co ho, g 3 = .slice a (List.length (α := Nat) ws) c ∧ g 4 = .slice ao (List.length (α := UInt8) bs) co ∧ OwT encW 1 120 a c ws h ∧ OwT encB 1 5 ao co bs ho ∧ ((ws = [v] ∧ bs = [] ∧ m = 1) ∨ (ws = [] ∧ bs = decN v ∧ m = 0)) ∧ L' = [h, ho, [(b1, Obj.cells ⟨[.string (S (bytesN v))]⟩ 46 (0, 0))]]) 1 ⟨[v], ax, cx, hgx, [], none, 0, [], rfl, rfl, ox, OwT.nil (fun _ => rfl), .inl ⟨rfl, rfl, rfl⟩, rfl⟩ ?_
  rintro m g L' ⟨ws, a, c, h, bs, ao, co, ho, e3, e4, ow, ob, hcase, rfl⟩
  refine JC.pin 3 e3 ?_
  refine JC.pin 4 e4 ?_
  rcases hcase with ⟨rfl, rfl, rfl⟩ | ⟨rfl, rfl, rfl⟩
  ·
    repeat' first
      | (refine J.isJ ?_; first | ((refine J.fc 80 ?_; refine J.callx eShrink rfl rfl (fun w hw => shrink_any ow hok (by show 1 ≤ 1000; omega) 1000000000 (by omega) (by omega) hw) ?_; rintro _ _ ⟨o, h5, rfl, rfl, o5, ok5, ol5, ov5⟩; rw [vm])) | (first | (refine J.o 0 ?_; refine J.ev' hΓ ?_) | refine J.nil ?_ | refine J.kd ?_ | (refine J.o 4 ?_; first | refine J.lT default hΓ ?_ | refine J.lR hΓ ?_) | (refine J.o 3 ?_; first | refine J.iA hΓ ?_ | refine J.iJ hΓ ?_ | refine J.fP hΓ ?_ | refine J.iC hΓ ?_ | refine J.ev' hΓ ?_) | (refine J.o 1 ?_; first | refine J.ad ?_ | refine J.sb ?_ | refine J.ng ?_ | refine J.mu ?_) | (refine J.o 5 ?_; first | refine J.t0 hΓ ?_ | refine J.t1 hΓ ?_ | refine J.t2 hΓ ?_ | refine J.tT _ default hΓ (fun _ _ => ?_) | refine J.tT1 _ default hΓ (fun _ _ => ?_) | refine J.tT2 _ default hΓ (fun _ _ => ?_)) | (refine J.o 6 ?_; refine J.bx (fun _ => ?_)) | (refine J.o 7 ?_; refine J.al hΓ (fun _ => ?_)) | (refine J.o 8 ?_; refine J.bd hΓ ?_) | (refine J.o 9 ?_; refine J.bl hΓ (fun _ => ?_)) | (refine J.o 10 ?_; refine J.ev' hΓ ?_) | (refine J.o 11 ?_; refine J.ev' hΓ ?_) | (refine J.o 14 ?_; refine J.mf hΓ ?_) | refine J.kn ?_) | ((fail_if_success refine J.wt ?_); refine J.gc rfl rfl (fun hc => ?_) (fun hc => ?_) <;> ((try simp only [decide_eq_true_eq, decide_eq_false_iff_not, beq_iff_eq, beq_eq_false_iff_ne, bne_iff_ne, bne_eq_false_iff_eq, Bool.not_eq_true', Bool.not_eq_false', Bool.not_eq_true, Bool.not_eq_false] at hc) <;> first | (first | (exact absurd rfl hc) | (exfalso; omega) | (exact absurd (hc.symm.trans (by assumption : _ = false)) (by decide)) | (exact absurd (hc.symm.trans (by assumption : _ = true)) (by decide))) | skip)))
      | (first | refine JC.seq ?_ | refine JC.region ?_ | refine JC.block ?_ | refine JC.ret ?_ | refine JC.exit ?_ | refine JC.skip ?_ | refine thenK.nn ?_ | refine thenK.r ?_ | refine thenK.x ?_ | refine blockK.nn ?_ | refine blockK.r ?_ | refine blockK.hit rfl ?_ | refine blockK.miss rfl ?_ | refine JC.condT rfl ?_ | refine JC.condF rfl ?_ | (refine JC.cond rfl (fun hc => ?_) (fun hc => ?_) <;> ((try simp only [decide_eq_true_eq, decide_eq_false_iff_not, beq_iff_eq, beq_eq_false_iff_ne, bne_iff_ne, bne_eq_false_iff_eq, Bool.not_eq_true', Bool.not_eq_false', Bool.not_eq_true, Bool.not_eq_false] at hc) <;> first | (first | (exact absurd rfl hc) | (exfalso; omega) | (exact absurd (hc.symm.trans (by assumption : _ = false)) (by decide)) | (exact absurd (hc.symm.trans (by assumption : _ = true)) (by decide))) | skip)) | refine drawK.nn ?_ | refine roundK.nn ?_ | refine roundK.r ?_ | refine roundK.x ?_ | refine loopK.r ?_ | refine loopK.x ?_)
      | (fail)
      | fail
    all_goals first | (exfalso; omega) | skip
    obtain rfl := one_zero ol5 (ov5.trans vd)
    have o0 : OwT encW 1 120 a c [] h5 := OwT.take o5 0
    refine JC.loop (fun i => i == 3 || Nat.ble 16 i) (fun m g L' => ((m = 1 ∧ g 3 = .slice a 1 c) ∨ (m = 0 ∧ g 3 = .slice a 0 c)) ∧ L' = [h5, ho, [(b1, Obj.cells ⟨[.string (S (bytesN v))]⟩ 46 (0, 0))]]) 1 ⟨.inl ⟨rfl, rfl⟩, rfl⟩ ?_
    rintro m2 g2 L' ⟨hcase, rfl⟩
    rcases hcase with ⟨rfl, e3b⟩ | ⟨rfl, e3b⟩
    · refine JC.pin 3 e3b ?_
      repeat' first
        | (refine J.isJ ?_; first | (first | (refine J.o 3 ?_; refine J.iJ hΓ ?_ (hs := o5.sl)) | (refine J.o 4 ?_; refine J.lT (0 : Nat) hΓ ?_ (hs := o5.sl) (hr := RdH.hd)) | (refine J.o 13 ?_; refine J.slF (m := 0) hΓ ?_)) | (first | (refine J.o 0 ?_; refine J.ev' hΓ ?_) | refine J.nil ?_ | refine J.kd ?_ | (refine J.o 4 ?_; first | refine J.lT default hΓ ?_ | refine J.lR hΓ ?_) | (refine J.o 3 ?_; first | refine J.iA hΓ ?_ | refine J.iJ hΓ ?_ | refine J.fP hΓ ?_ | refine J.iC hΓ ?_ | refine J.ev' hΓ ?_) | (refine J.o 1 ?_; first | refine J.ad ?_ | refine J.sb ?_ | refine J.ng ?_ | refine J.mu ?_) | (refine J.o 5 ?_; first | refine J.t0 hΓ ?_ | refine J.t1 hΓ ?_ | refine J.t2 hΓ ?_ | refine J.tT _ default hΓ (fun _ _ => ?_) | refine J.tT1 _ default hΓ (fun _ _ => ?_) | refine J.tT2 _ default hΓ (fun _ _ => ?_)) | (refine J.o 6 ?_; refine J.bx (fun _ => ?_)) | (refine J.o 7 ?_; refine J.al hΓ (fun _ => ?_)) | (refine J.o 8 ?_; refine J.bd hΓ ?_) | (refine J.o 9 ?_; refine J.bl hΓ (fun _ => ?_)) | (refine J.o 10 ?_; refine J.ev' hΓ ?_) | (refine J.o 11 ?_; refine J.ev' hΓ ?_) | (refine J.o 14 ?_; refine J.mf hΓ ?_) | refine J.kn ?_) | ((fail_if_success refine J.wt ?_); refine J.gc rfl rfl (fun hc => ?_) (fun hc => ?_) <;> ((try simp only [decide_eq_true_eq, decide_eq_false_iff_not, beq_iff_eq, beq_eq_false_iff_ne, bne_iff_ne, bne_eq_false_iff_eq, Bool.not_eq_true', Bool.not_eq_false', Bool.not_eq_true, Bool.not_eq_false] at hc) <;> first | (first | (exact absurd rfl hc) | (exfalso; omega) | (exact absurd (hc.symm.trans (by assumption : _ = false)) (by decide)) | (exact absurd (hc.symm.trans (by assumption : _ = true)) (by decide))) | skip)))
        | (first | refine JC.seq ?_ | refine JC.region ?_ | refine JC.block ?_ | refine JC.ret ?_ | refine JC.exit ?_ | refine JC.skip ?_ | refine thenK.nn ?_ | refine thenK.r ?_ | refine thenK.x ?_ | refine blockK.nn ?_ | refine blockK.r ?_ | refine blockK.hit rfl ?_ | refine blockK.miss rfl ?_ | refine JC.condT rfl ?_ | refine JC.condF rfl ?_ | (refine JC.cond rfl (fun hc => ?_) (fun hc => ?_) <;> ((try simp only [decide_eq_true_eq, decide_eq_false_iff_not, beq_iff_eq, beq_eq_false_iff_ne, bne_iff_ne, bne_eq_false_iff_eq, Bool.not_eq_true', Bool.not_eq_false', Bool.not_eq_true, Bool.not_eq_false] at hc) <;> first | (first | (exact absurd rfl hc) | (exfalso; omega) | (exact absurd (hc.symm.trans (by assumption : _ = false)) (by decide)) | (exact absurd (hc.symm.trans (by assumption : _ = true)) (by decide))) | skip)) | refine drawK.nn ?_ | refine roundK.nn ?_ | refine roundK.r ?_ | refine roundK.x ?_ | refine loopK.r ?_ | refine loopK.x ?_)
        | (fail)
        | fail
      all_goals first | (exfalso; omega) | skip
      all_goals first | (exact absurd rfl hc) | skip
      refine loopK.nn 0 (by omega) (by repeat (first | refine Ag.upd rfl ?_ | exact Ag.hv)) ⟨.inr ⟨rfl, rfl⟩, rfl⟩
    refine JC.pin 3 e3b ?_
    repeat' first
      | (refine J.isJ ?_; first | (fail) | (first | (refine J.o 0 ?_; refine J.ev' hΓ ?_) | refine J.nil ?_ | refine J.kd ?_ | (refine J.o 4 ?_; first | refine J.lT default hΓ ?_ | refine J.lR hΓ ?_) | (refine J.o 3 ?_; first | refine J.iA hΓ ?_ | refine J.iJ hΓ ?_ | refine J.fP hΓ ?_ | refine J.iC hΓ ?_ | refine J.ev' hΓ ?_) | (refine J.o 1 ?_; first | refine J.ad ?_ | refine J.sb ?_ | refine J.ng ?_ | refine J.mu ?_) | (refine J.o 5 ?_; first | refine J.t0 hΓ ?_ | refine J.t1 hΓ ?_ | refine J.t2 hΓ ?_ | refine J.tT _ default hΓ (fun _ _ => ?_) | refine J.tT1 _ default hΓ (fun _ _ => ?_) | refine J.tT2 _ default hΓ (fun _ _ => ?_)) | (refine J.o 6 ?_; refine J.bx (fun _ => ?_)) | (refine J.o 7 ?_; refine J.al hΓ (fun _ => ?_)) | (refine J.o 8 ?_; refine J.bd hΓ ?_) | (refine J.o 9 ?_; refine J.bl hΓ (fun _ => ?_)) | (refine J.o 10 ?_; refine J.ev' hΓ ?_) | (refine J.o 11 ?_; refine J.ev' hΓ ?_) | (refine J.o 14 ?_; refine J.mf hΓ ?_) | refine J.kn ?_) | ((fail_if_success refine J.wt ?_); refine J.gc rfl rfl (fun hc => ?_) (fun hc => ?_) <;> ((try simp only [decide_eq_true_eq, decide_eq_false_iff_not, beq_iff_eq, beq_eq_false_iff_ne, bne_iff_ne, bne_eq_false_iff_eq, Bool.not_eq_true', Bool.not_eq_false', Bool.not_eq_true, Bool.not_eq_false] at hc) <;> first | (first | (exact absurd rfl hc) | (exfalso; omega) | (exact absurd (hc.symm.trans (by assumption : _ = false)) (by decide)) | (exact absurd (hc.symm.trans (by assumption : _ = true)) (by decide))) | skip)))
      | (first | refine JC.seq ?_ | refine JC.region ?_ | refine JC.block ?_ | refine JC.ret ?_ | refine JC.exit ?_ | refine JC.skip ?_ | refine thenK.nn ?_ | refine thenK.r ?_ | refine thenK.x ?_ | refine blockK.nn ?_ | refine blockK.r ?_ | refine blockK.hit rfl ?_ | refine blockK.miss rfl ?_ | refine JC.condT rfl ?_ | refine JC.condF rfl ?_ | (refine JC.cond rfl (fun hc => ?_) (fun hc => ?_) <;> ((try simp only [decide_eq_true_eq, decide_eq_false_iff_not, beq_iff_eq, beq_eq_false_iff_ne, bne_iff_ne, bne_eq_false_iff_eq, Bool.not_eq_true', Bool.not_eq_false', Bool.not_eq_true, Bool.not_eq_false] at hc) <;> first | (first | (exact absurd rfl hc) | (exfalso; omega) | (exact absurd (hc.symm.trans (by assumption : _ = false)) (by decide)) | (exact absurd (hc.symm.trans (by assumption : _ = true)) (by decide))) | skip)) | refine drawK.nn ?_ | refine roundK.nn ?_ | refine roundK.r ?_ | refine roundK.x ?_ | refine loopK.r ?_ | refine loopK.x ?_)
      | (fail)
      | fail
    all_goals first | (exfalso; omega) | skip
    refine JC.loop (fun i => (Nat.ble 4 i && Nat.ble i 6) || Nat.ble 33 i) (fun m g L' => ∃ k p bs ao co ho, g 6 = .int .i64 ((k : Nat) : Int) ∧ g 5 = .int .u32 ((p : Nat) : Int) ∧ g 4 = .slice ao (List.length (α := UInt8) bs) co ∧ OwT encB 1 5 ao co bs ho ∧ decN v = bs ++ decN p ∧ p < 10 ^ (9 - k) ∧ k ≤ 9 ∧ m = p ∧ bs.length ≤ 9 ∧ L' = [h5, ho, [(b1, Obj.cells ⟨[.string (S (bytesN v))]⟩ 46 (0, 0))]]) v ⟨0, v, [], ao, co, ho, rfl, rfl, rfl, ob, rfl, by show v < 1000000000; exact hv, by omega, rfl, by show 0 ≤ 9; omega, rfl⟩ ?_
    rintro m3 g3 L' ⟨k, p, bs, ao2, co2, ho2, e6, e5, e4b, ob2, hdec, hp, hk, rfl, hbl9, rfl⟩
    refine JC.pin 6 e6 ?_
    refine JC.pin 5 e5 ?_
    refine JC.pin 4 e4b ?_
    rcases Nat.eq_zero_or_pos m3 with hz | hpos
    · subst hz
      rw [decN_0, List.append_nil] at hdec
      subst hdec
      repeat' first
        | (refine J.isJ ?_; first | (fail) | (first | (refine J.o 0 ?_; refine J.ev' hΓ ?_) | refine J.nil ?_ | refine J.kd ?_ | (refine J.o 4 ?_; first | refine J.lT default hΓ ?_ | refine J.lR hΓ ?_) | (refine J.o 3 ?_; first | refine J.iA hΓ ?_ | refine J.iJ hΓ ?_ | refine J.fP hΓ ?_ | refine J.iC hΓ ?_ | refine J.ev' hΓ ?_) | (refine J.o 1 ?_; first | refine J.ad ?_ | refine J.sb ?_ | refine J.ng ?_ | refine J.mu ?_) | (refine J.o 5 ?_; first | refine J.t0 hΓ ?_ | refine J.t1 hΓ ?_ | refine J.t2 hΓ ?_ | refine J.tT _ default hΓ (fun _ _ => ?_) | refine J.tT1 _ default hΓ (fun _ _ => ?_) | refine J.tT2 _ default hΓ (fun _ _ => ?_)) | (refine J.o 6 ?_; refine J.bx (fun _ => ?_)) | (refine J.o 7 ?_; refine J.al hΓ (fun _ => ?_)) | (refine J.o 8 ?_; refine J.bd hΓ ?_) | (refine J.o 9 ?_; refine J.bl hΓ (fun _ => ?_)) | (refine J.o 10 ?_; refine J.ev' hΓ ?_) | (refine J.o 11 ?_; refine J.ev' hΓ ?_) | (refine J.o 14 ?_; refine J.mf hΓ ?_) | refine J.kn ?_) | ((fail_if_success refine J.wt ?_); refine J.gc rfl rfl (fun hc => ?_) (fun hc => ?_) <;> ((try simp only [decide_eq_true_eq, decide_eq_false_iff_not, beq_iff_eq, beq_eq_false_iff_ne, bne_iff_ne, bne_eq_false_iff_eq, Bool.not_eq_true', Bool.not_eq_false', Bool.not_eq_true, Bool.not_eq_false] at hc) <;> first | (first | (exact absurd rfl hc) | (exfalso; omega) | (exact absurd (hc.symm.trans (by assumption : _ = false)) (by decide)) | (exact absurd (hc.symm.trans (by assumption : _ = true)) (by decide))) | skip)))
        | (first | refine JC.seq ?_ | refine JC.region ?_ | refine JC.block ?_ | refine JC.ret ?_ | refine JC.exit ?_ | refine JC.skip ?_ | refine thenK.nn ?_ | refine thenK.r ?_ | refine thenK.x ?_ | refine blockK.nn ?_ | refine blockK.r ?_ | refine blockK.hit rfl ?_ | refine blockK.miss rfl ?_ | refine JC.condT rfl ?_ | refine JC.condF rfl ?_ | (refine JC.cond rfl (fun hc => ?_) (fun hc => ?_) <;> ((try simp only [decide_eq_true_eq, decide_eq_false_iff_not, beq_iff_eq, beq_eq_false_iff_ne, bne_iff_ne, bne_eq_false_iff_eq, Bool.not_eq_true', Bool.not_eq_false', Bool.not_eq_true, Bool.not_eq_false] at hc) <;> first | (first | (exact absurd rfl hc) | (exfalso; omega) | (exact absurd (hc.symm.trans (by assumption : _ = false)) (by decide)) | (exact absurd (hc.symm.trans (by assumption : _ = true)) (by decide))) | skip)) | refine drawK.nn ?_ | refine roundK.nn ?_ | refine roundK.r ?_ | refine roundK.x ?_ | refine loopK.r ?_ | refine loopK.x ?_)
        | (fail)
        | fail
      all_goals first | (exfalso; omega) | skip
      all_goals (refine loopK.nn 0 (by omega) (by repeat (first | refine Ag.upd rfl ?_ | exact Ag.hv | refine Ag.hv2 (fun i hi => by simp at hi ⊢; omega) ?_)) ⟨[], a, c, h5, _, ao2, co2, ho2, rfl, rfl, o0, ob2, .inr ⟨rfl, rfl, rfl⟩, rfl⟩)
    · have hk9 : k < 9 := by
        rcases Nat.lt_or_ge k 9 with h | h
        · exact h
        · rw [show 9 - k = 0 by omega] at hp; omega
      have hst := decN_pos hpos
      have hp2 : m3 < 10 ^ (9 - (k + 1)) * 10 := by rw [← Nat.pow_succ, show (9 - (k + 1)).succ = 9 - k by omega]; exact hp
      have hln : (bs ++ [UInt8.ofNat (48 + m3 % 10)]).length = bs.length + 1 := by simp
      have hdl : bs.length + (decN m3).length = (decN v).length := by rw [hdec, List.length_append]
      rw [hst, List.length_cons] at hdl
      have hmb : m3 < 4294967296 := by
        have : 10 ^ (9 - k) ≤ 10 ^ 9 := Nat.pow_le_pow_right (by omega) (by omega)
        omega
      repeat' first
        | (refine J.isJ ?_; first | (first | (refine J.o 1 ?_; first | refine J.grem (b := 10) ?_ | refine J.gadd (a := 48) ?_ (hw := wU32 (by omega)) | refine J.gquo (b := 10) ?_ (hw := wU32 (by omega))) | (refine J.o 2 ?_; refine J.gcv hΓ ?_ (hk := dec_u8 m3)) | ((refine J.o 9 ?_; first | (first | (refine J.ap1 (enc := encB) [dig m3] hΓ (fun a6 c6 h6 o6 => ?_)) | (refine J.perm (br1.cons _) ?_; refine J.ap1 (enc := encB) [dig m3] hΓ (fun a6 c6 h6 o6 => ?_)) | (refine J.perm (br2.cons _) ?_; refine J.ap1 (enc := encB) [dig m3] hΓ (fun a6 c6 h6 o6 => ?_)) | (refine J.perm (br3.cons _) ?_; refine J.ap1 (enc := encB) [dig m3] hΓ (fun a6 c6 h6 o6 => ?_)) | (refine J.perm (br4.cons _) ?_; refine J.ap1 (enc := encB) [dig m3] hΓ (fun a6 c6 h6 o6 => ?_)) | (refine J.perm (br5.cons _) ?_; refine J.ap1 (enc := encB) [dig m3] hΓ (fun a6 c6 h6 o6 => ?_))) | (refine J.perm br1 ?_; first | (refine J.ap1 (enc := encB) [dig m3] hΓ (fun a6 c6 h6 o6 => ?_)) | (refine J.perm (br1.cons _) ?_; refine J.ap1 (enc := encB) [dig m3] hΓ (fun a6 c6 h6 o6 => ?_)) | (refine J.perm (br2.cons _) ?_; refine J.ap1 (enc := encB) [dig m3] hΓ (fun a6 c6 h6 o6 => ?_)) | (refine J.perm (br3.cons _) ?_; refine J.ap1 (enc := encB) [dig m3] hΓ (fun a6 c6 h6 o6 => ?_)) | (refine J.perm (br4.cons _) ?_; refine J.ap1 (enc := encB) [dig m3] hΓ (fun a6 c6 h6 o6 => ?_)) | (refine J.perm (br5.cons _) ?_; refine J.ap1 (enc := encB) [dig m3] hΓ (fun a6 c6 h6 o6 => ?_))) | (refine J.perm br2 ?_; first | (refine J.ap1 (enc := encB) [dig m3] hΓ (fun a6 c6 h6 o6 => ?_)) | (refine J.perm (br1.cons _) ?_; refine J.ap1 (enc := encB) [dig m3] hΓ (fun a6 c6 h6 o6 => ?_)) | (refine J.perm (br2.cons _) ?_; refine J.ap1 (enc := encB) [dig m3] hΓ (fun a6 c6 h6 o6 => ?_)) | (refine J.perm (br3.cons _) ?_; refine J.ap1 (enc := encB) [dig m3] hΓ (fun a6 c6 h6 o6 => ?_)) | (refine J.perm (br4.cons _) ?_; refine J.ap1 (enc := encB) [dig m3] hΓ (fun a6 c6 h6 o6 => ?_)) | (refine J.perm (br5.cons _) ?_; refine J.ap1 (enc := encB) [dig m3] hΓ (fun a6 c6 h6 o6 => ?_)))))) | (first | (refine J.o 0 ?_; refine J.ev' hΓ ?_) | refine J.nil ?_ | refine J.kd ?_ | (refine J.o 4 ?_; first | refine J.lT default hΓ ?_ | refine J.lR hΓ ?_) | (refine J.o 3 ?_; first | refine J.iA hΓ ?_ | refine J.iJ hΓ ?_ | refine J.fP hΓ ?_ | refine J.iC hΓ ?_ | refine J.ev' hΓ ?_) | (refine J.o 1 ?_; first | refine J.ad ?_ | refine J.sb ?_ | refine J.ng ?_ | refine J.mu ?_) | (refine J.o 5 ?_; first | refine J.t0 hΓ ?_ | refine J.t1 hΓ ?_ | refine J.t2 hΓ ?_ | refine J.tT _ default hΓ (fun _ _ => ?_) | refine J.tT1 _ default hΓ (fun _ _ => ?_) | refine J.tT2 _ default hΓ (fun _ _ => ?_)) | (refine J.o 6 ?_; refine J.bx (fun _ => ?_)) | (refine J.o 7 ?_; refine J.al hΓ (fun _ => ?_)) | (refine J.o 8 ?_; refine J.bd hΓ ?_) | (refine J.o 9 ?_; refine J.bl hΓ (fun _ => ?_)) | (refine J.o 10 ?_; refine J.ev' hΓ ?_) | (refine J.o 11 ?_; refine J.ev' hΓ ?_) | (refine J.o 14 ?_; refine J.mf hΓ ?_) | refine J.kn ?_) | ((fail_if_success refine J.wt ?_); refine J.gc rfl rfl (fun hc => ?_) (fun hc => ?_) <;> ((try simp only [decide_eq_true_eq, decide_eq_false_iff_not, beq_iff_eq, beq_eq_false_iff_ne, bne_iff_ne, bne_eq_false_iff_eq, Bool.not_eq_true', Bool.not_eq_false', Bool.not_eq_true, Bool.not_eq_false] at hc) <;> first | (first | (exact absurd rfl hc) | (exfalso; omega) | (exact absurd (hc.symm.trans (by assumption : _ = false)) (by decide)) | (exact absurd (hc.symm.trans (by assumption : _ = true)) (by decide))) | skip)))
        | (first | refine JC.seq ?_ | refine JC.region ?_ | refine JC.block ?_ | refine JC.ret ?_ | refine JC.exit ?_ | refine JC.skip ?_ | refine thenK.nn ?_ | refine thenK.r ?_ | refine thenK.x ?_ | refine blockK.nn ?_ | refine blockK.r ?_ | refine blockK.hit rfl ?_ | refine blockK.miss rfl ?_ | refine JC.condT rfl ?_ | refine JC.condF rfl ?_ | (refine JC.cond rfl (fun hc => ?_) (fun hc => ?_) <;> ((try simp only [decide_eq_true_eq, decide_eq_false_iff_not, beq_iff_eq, beq_eq_false_iff_ne, bne_iff_ne, bne_eq_false_iff_eq, Bool.not_eq_true', Bool.not_eq_false', Bool.not_eq_true, Bool.not_eq_false] at hc) <;> first | (first | (exact absurd rfl hc) | (exfalso; omega) | (exact absurd (hc.symm.trans (by assumption : _ = false)) (by decide)) | (exact absurd (hc.symm.trans (by assumption : _ = true)) (by decide))) | skip)) | refine drawK.nn ?_ | refine roundK.nn ?_ | refine roundK.r ?_ | refine roundK.x ?_ | refine loopK.r ?_ | refine loopK.x ?_)
        | (fail)
        | fail
      all_goals first | (exfalso; omega) | skip
      have hln2 : (bs ++ [dig m3]).length = bs.length + 1 := hln
      all_goals (refine loopK.np (m3 / 10) [] _ (by omega) (by repeat (first | refine Ag.upd rfl ?_ | exact Ag.hv)) br1 ⟨k + 1, m3 / 10, bs ++ [dig m3], a6, c6, h6, ?_, rfl, rfl, o6, ?_, by omega, by omega, rfl, by omega, rfl⟩)
      · show Value.int .i64 _ = _; congr 1
      · rw [hdec, hst, List.append_assoc]; rfl
  ·
    have hpos : 0 < (decN v).length := by rw [decN_pos h0, List.length_cons]; omega
    repeat' first
      | (refine J.isJ ?_; first | ((refine J.o 7 ?_; refine J.al hΓ (fun b7 => ?_))) | (first | (refine J.o 0 ?_; refine J.ev' hΓ ?_) | refine J.nil ?_ | refine J.kd ?_ | (refine J.o 4 ?_; first | refine J.lT default hΓ ?_ | refine J.lR hΓ ?_) | (refine J.o 3 ?_; first | refine J.iA hΓ ?_ | refine J.iJ hΓ ?_ | refine J.fP hΓ ?_ | refine J.iC hΓ ?_ | refine J.ev' hΓ ?_) | (refine J.o 1 ?_; first | refine J.ad ?_ | refine J.sb ?_ | refine J.ng ?_ | refine J.mu ?_) | (refine J.o 5 ?_; first | refine J.t0 hΓ ?_ | refine J.t1 hΓ ?_ | refine J.t2 hΓ ?_ | refine J.tT _ default hΓ (fun _ _ => ?_) | refine J.tT1 _ default hΓ (fun _ _ => ?_) | refine J.tT2 _ default hΓ (fun _ _ => ?_)) | (refine J.o 6 ?_; refine J.bx (fun _ => ?_)) | (refine J.o 7 ?_; refine J.al hΓ (fun _ => ?_)) | (refine J.o 8 ?_; refine J.bd hΓ ?_) | (refine J.o 9 ?_; refine J.bl hΓ (fun _ => ?_)) | (refine J.o 10 ?_; refine J.ev' hΓ ?_) | (refine J.o 11 ?_; refine J.ev' hΓ ?_) | (refine J.o 14 ?_; refine J.mf hΓ ?_) | refine J.kn ?_) | ((fail_if_success refine J.wt ?_); refine J.gc rfl rfl (fun hc => ?_) (fun hc => ?_) <;> ((try simp only [decide_eq_true_eq, decide_eq_false_iff_not, beq_iff_eq, beq_eq_false_iff_ne, bne_iff_ne, bne_eq_false_iff_eq, Bool.not_eq_true', Bool.not_eq_false', Bool.not_eq_true, Bool.not_eq_false] at hc) <;> first | (first | (exact absurd rfl hc) | (exfalso; omega) | (exact absurd (hc.symm.trans (by assumption : _ = false)) (by decide)) | (exact absurd (hc.symm.trans (by assumption : _ = true)) (by decide))) | skip)))
      | (first | refine JC.seq ?_ | refine JC.region ?_ | refine JC.block ?_ | refine JC.ret ?_ | refine JC.exit ?_ | refine JC.skip ?_ | refine thenK.nn ?_ | refine thenK.r ?_ | refine thenK.x ?_ | refine blockK.nn ?_ | refine blockK.r ?_ | refine blockK.hit rfl ?_ | refine blockK.miss rfl ?_ | refine JC.condT rfl ?_ | refine JC.condF rfl ?_ | (refine JC.cond rfl (fun hc => ?_) (fun hc => ?_) <;> ((try simp only [decide_eq_true_eq, decide_eq_false_iff_not, beq_iff_eq, beq_eq_false_iff_ne, bne_iff_ne, bne_eq_false_iff_eq, Bool.not_eq_true', Bool.not_eq_false', Bool.not_eq_true, Bool.not_eq_false] at hc) <;> first | (first | (exact absurd rfl hc) | (exfalso; omega) | (exact absurd (hc.symm.trans (by assumption : _ = false)) (by decide)) | (exact absurd (hc.symm.trans (by assumption : _ = true)) (by decide))) | skip)) | refine drawK.nn ?_ | refine roundK.nn ?_ | refine roundK.r ?_ | refine roundK.x ?_ | refine loopK.r ?_ | refine loopK.x ?_)
      | (fail)
      | fail
    all_goals first | (exfalso; omega) | skip
    refine JC.weak (L' := [[(b7, bldO none (.slice none ([] : List UInt8).length 0))], [], h, ho, [(b1, Obj.cells ⟨[.string (S (bytesN v))]⟩ 46 (0, 0))]]) (fun w hw => hw.nilF.perm br1) ?_
    refine JC.loop (fun i => i == 8 || Nat.ble 58 i) (fun m g L' => ∃ p a' c' hb, g 8 = .int .i64 ((m : Int) - 1) ∧ m ≤ (decN v).length ∧ (p = none ∨ p = some ⟨b7, 0, none⟩) ∧ OwT encB 1 5 a' c' (((decN v).drop m).reverse) hb ∧ c' ≤ maxLen ∧ L' = [[(b7, bldO p (.slice a' (((decN v).drop m).reverse).length c'))], hb, h, ho, [(b1, Obj.cells ⟨[.string (S (bytesN v))]⟩ 46 (0, 0))]]) (decN v).length ⟨none, none, 0, [], rfl, Nat.le_refl _, .inl rfl, by rw [List.drop_of_length_le (Nat.le_refl _)]; exact OwT.nil (fun _ => rfl), Nat.zero_le _, by rw [List.drop_of_length_le (Nat.le_refl _)]; rfl⟩ ?_
    rintro m g9 L' ⟨p, a7, c7, hb, e8, hm, hp, obb, hc7, rfl⟩
    rcases Nat.eq_zero_or_pos m with hz | hpm
    · subst hz
      refine JC.pin 8 e8 ?_
      rw [List.drop_zero] at obb ⊢
      repeat' first
        | (refine J.isJ ?_; first | ((refine J.fc 82 ?_; refine J.callx eBStr rfl rfl (fun w hw => bStr_any hp obb hc7 hw) ?_; rintro _ _ ⟨rfl, rfl⟩)) | (first | (refine J.o 0 ?_; refine J.ev' hΓ ?_) | refine J.nil ?_ | refine J.kd ?_ | (refine J.o 4 ?_; first | refine J.lT default hΓ ?_ | refine J.lR hΓ ?_) | (refine J.o 3 ?_; first | refine J.iA hΓ ?_ | refine J.iJ hΓ ?_ | refine J.fP hΓ ?_ | refine J.iC hΓ ?_ | refine J.ev' hΓ ?_) | (refine J.o 1 ?_; first | refine J.ad ?_ | refine J.sb ?_ | refine J.ng ?_ | refine J.mu ?_) | (refine J.o 5 ?_; first | refine J.t0 hΓ ?_ | refine J.t1 hΓ ?_ | refine J.t2 hΓ ?_ | refine J.tT _ default hΓ (fun _ _ => ?_) | refine J.tT1 _ default hΓ (fun _ _ => ?_) | refine J.tT2 _ default hΓ (fun _ _ => ?_)) | (refine J.o 6 ?_; refine J.bx (fun _ => ?_)) | (refine J.o 7 ?_; refine J.al hΓ (fun _ => ?_)) | (refine J.o 8 ?_; refine J.bd hΓ ?_) | (refine J.o 9 ?_; refine J.bl hΓ (fun _ => ?_)) | (refine J.o 10 ?_; refine J.ev' hΓ ?_) | (refine J.o 11 ?_; refine J.ev' hΓ ?_) | (refine J.o 14 ?_; refine J.mf hΓ ?_) | refine J.kn ?_) | ((fail_if_success refine J.wt ?_); refine J.gc rfl rfl (fun hc => ?_) (fun hc => ?_) <;> ((try simp only [decide_eq_true_eq, decide_eq_false_iff_not, beq_iff_eq, beq_eq_false_iff_ne, bne_iff_ne, bne_eq_false_iff_eq, Bool.not_eq_true', Bool.not_eq_false', Bool.not_eq_true, Bool.not_eq_false] at hc) <;> first | (first | (exact absurd rfl hc) | (exfalso; omega) | (exact absurd (hc.symm.trans (by assumption : _ = false)) (by decide)) | (exact absurd (hc.symm.trans (by assumption : _ = true)) (by decide))) | skip)))
        | (first | refine JC.seq ?_ | refine JC.region ?_ | refine JC.block ?_ | refine JC.ret ?_ | refine JC.exit ?_ | refine JC.skip ?_ | refine thenK.nn ?_ | refine thenK.r ?_ | refine thenK.x ?_ | refine blockK.nn ?_ | refine blockK.r ?_ | refine blockK.hit rfl ?_ | refine blockK.miss rfl ?_ | refine JC.condT rfl ?_ | refine JC.condF rfl ?_ | (refine JC.cond rfl (fun hc => ?_) (fun hc => ?_) <;> ((try simp only [decide_eq_true_eq, decide_eq_false_iff_not, beq_iff_eq, beq_eq_false_iff_ne, bne_iff_ne, bne_eq_false_iff_eq, Bool.not_eq_true', Bool.not_eq_false', Bool.not_eq_true, Bool.not_eq_false] at hc) <;> first | (first | (exact absurd rfl hc) | (exfalso; omega) | (exact absurd (hc.symm.trans (by assumption : _ = false)) (by decide)) | (exact absurd (hc.symm.trans (by assumption : _ = true)) (by decide))) | skip)) | refine drawK.nn ?_ | refine roundK.nn ?_ | refine roundK.r ?_ | refine roundK.x ?_ | refine loopK.r ?_ | refine loopK.x ?_)
        | (fail)
        | fail
      all_goals first | (exfalso; omega) | skip
      all_goals (refine ret1f rfl rfl rfl (fun w1 hw => ⟨rfl, hw.below⟩))
    · obtain ⟨i, rfl⟩ : ∃ i, m = i + 1 := ⟨m - 1, by omega⟩
      have e8' : g9 8 = .int .i64 ((i : Nat) : Int) := by rw [e8]; congr 1; omega
      refine JC.pin 8 e8' ?_
      have hdr : (decN v).drop i = (decN v).getD i default :: (decN v).drop (i + 1) := by
        rw [List.drop_eq_getElem_cons (by omega), List.getD_eq_getElem?_getD, List.getElem?_eq_getElem (by omega)]; rfl
      have hrl : (((decN v).drop (i + 1)).reverse).length + 1 ≤ 140737488355328 := by rw [List.length_reverse, List.length_drop]; omega
      repeat' first
        | (refine J.isJ ?_; first | (first | (refine J.o 3 ?_; refine J.iJ hΓ ?_ (hs := ob.sl)) | (refine J.o 4 ?_; refine J.lT default hΓ ?_ (hs := ob.sl) (hr := RdH.hd.tl.tl.tl)) | (refine J.fc 81 ?_; refine J.callx eWBy rfl rfl (fun w hw => wBy_any ((decN v).getD i default) hp obb hc7 hrl hw) ?_; rintro _ _ ⟨a9, c9, h9, rfl, o9, hc9⟩)) | (first | (refine J.o 0 ?_; refine J.ev' hΓ ?_) | refine J.nil ?_ | refine J.kd ?_ | (refine J.o 4 ?_; first | refine J.lT default hΓ ?_ | refine J.lR hΓ ?_) | (refine J.o 3 ?_; first | refine J.iA hΓ ?_ | refine J.iJ hΓ ?_ | refine J.fP hΓ ?_ | refine J.iC hΓ ?_ | refine J.ev' hΓ ?_) | (refine J.o 1 ?_; first | refine J.ad ?_ | refine J.sb ?_ | refine J.ng ?_ | refine J.mu ?_) | (refine J.o 5 ?_; first | refine J.t0 hΓ ?_ | refine J.t1 hΓ ?_ | refine J.t2 hΓ ?_ | refine J.tT _ default hΓ (fun _ _ => ?_) | refine J.tT1 _ default hΓ (fun _ _ => ?_) | refine J.tT2 _ default hΓ (fun _ _ => ?_)) | (refine J.o 6 ?_; refine J.bx (fun _ => ?_)) | (refine J.o 7 ?_; refine J.al hΓ (fun _ => ?_)) | (refine J.o 8 ?_; refine J.bd hΓ ?_) | (refine J.o 9 ?_; refine J.bl hΓ (fun _ => ?_)) | (refine J.o 10 ?_; refine J.ev' hΓ ?_) | (refine J.o 11 ?_; refine J.ev' hΓ ?_) | (refine J.o 14 ?_; refine J.mf hΓ ?_) | refine J.kn ?_) | ((fail_if_success refine J.wt ?_); refine J.gc rfl rfl (fun hc => ?_) (fun hc => ?_) <;> ((try simp only [decide_eq_true_eq, decide_eq_false_iff_not, beq_iff_eq, beq_eq_false_iff_ne, bne_iff_ne, bne_eq_false_iff_eq, Bool.not_eq_true', Bool.not_eq_false', Bool.not_eq_true, Bool.not_eq_false] at hc) <;> first | (first | (exact absurd rfl hc) | (exfalso; omega) | (exact absurd (hc.symm.trans (by assumption : _ = false)) (by decide)) | (exact absurd (hc.symm.trans (by assumption : _ = true)) (by decide))) | skip)))
        | (first | refine JC.seq ?_ | refine JC.region ?_ | refine JC.block ?_ | refine JC.ret ?_ | refine JC.exit ?_ | refine JC.skip ?_ | refine thenK.nn ?_ | refine thenK.r ?_ | refine thenK.x ?_ | refine blockK.nn ?_ | refine blockK.r ?_ | refine blockK.hit rfl ?_ | refine blockK.miss rfl ?_ | refine JC.condT rfl ?_ | refine JC.condF rfl ?_ | (refine JC.cond rfl (fun hc => ?_) (fun hc => ?_) <;> ((try simp only [decide_eq_true_eq, decide_eq_false_iff_not, beq_iff_eq, beq_eq_false_iff_ne, bne_iff_ne, bne_eq_false_iff_eq, Bool.not_eq_true', Bool.not_eq_false', Bool.not_eq_true, Bool.not_eq_false] at hc) <;> first | (first | (exact absurd rfl hc) | (exfalso; omega) | (exact absurd (hc.symm.trans (by assumption : _ = false)) (by decide)) | (exact absurd (hc.symm.trans (by assumption : _ = true)) (by decide))) | skip)) | refine drawK.nn ?_ | refine roundK.nn ?_ | refine roundK.r ?_ | refine roundK.x ?_ | refine loopK.r ?_ | refine loopK.x ?_)
        | (fail)
        | fail
      all_goals first | (exfalso; omega) | skip
      have hrv : ((decN v).drop (i + 1)).reverse ++ [(decN v).getD i default] = ((decN v).drop i).reverse := by rw [hdr, List.reverse_cons]
      rw [hrv] at o9 ⊢
      refine loopK.nn i (by omega) (by repeat (first | refine Ag.upd rfl ?_ | exact Ag.hv)) ⟨some ⟨b7, 0, none⟩, a9, c9, h9, rfl, by omega, .inr rfl, o9, hc9, rfl⟩
end Go.Proofs.Ythnhijdfcmcnhaa
