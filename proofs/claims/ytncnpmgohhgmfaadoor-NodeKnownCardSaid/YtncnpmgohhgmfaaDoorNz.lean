/- NodeKnown's walk. -/
import Derived.Test.YtncnpmgohhgmfaaDoorNr
namespace Go.Proofs.YtncnpmgohhgmfaaDoor
open Go Go.Cx Go.RowKit
set_option linter.unusedVariables false
set_option linter.unusedSimpArgs false
set_option maxHeartbeats 4000000
attribute [local irreducible] J JC thenK blockK loopK roundK drawK retK QW Qt pel List.set Calls
attribute [local irreducible] JE Br eK0 eK2 eK3 brK
section
variable {P : Program} {n : Nat} {w0 : World} {R : Heap} {l0 : List Oper} {K : Exit → Fr → List Heap → Prop} {f : Fr} {L : List Heap} {rest : List (Nat × Oper)}
variable {Γ : List (Nat × TI)} {d : Nat} {ty : TypeId} {pos : String} {aft : Array Edge} {g : Option (Nat × Bool)}
variable {α : Type} {enc : α → List Value} {size : Nat} {e : TypeId} {a b : Option Addr} {ts us : List α} {hs : Heap}
theorem slT_cells {w : World} (hus : SlT enc size b us hs) (hr : ∀ x, x ∈ hs → w.heap[x.1]? = some x.2) {bb off : Nat} (hb : b = some ⟨bb, off, none⟩) : ∀ j u, (us.flatMap enc)[j]? = some u → w.cell? ((⟨bb, off, none⟩ : Addr).add j) = some u := fun j u hj => by
  have hsz : 0 < size := by
    rcases Nat.eq_zero_or_pos size with h0 | h0
    · have hl0 := Cx.flat_len hus.len us
      rw [h0, Nat.mul_zero] at hl0
      rw [List.eq_nil_of_length_eq_zero hl0] at hj
      simp at hj
    · exact h0
  have hjl : j < us.length * size := by rw [← Cx.flat_len hus.len]; exact (List.getElem?_eq_some_iff.1 hj).1
  have hi : j / size < us.length := Nat.div_lt_of_lt_mul (by rw [Nat.mul_comm]; exact hjl)
  obtain ⟨b2', off2, cs, e2, fr2, e1, hm2, hf2, hc2⟩ := hus.at_ (j / size) hi
  rw [hb] at e1
  simp only [Option.some.injEq, Addr.mk.injEq, and_true] at e1
  obtain ⟨rfl, rfl⟩ := e1
  have hadd : (⟨bb, off, none⟩ : Addr).add j = ⟨bb, off + j, none⟩ := by unfold Addr.add; split <;> simp_all
  have hbk := hr _ hm2
  rw [hadd, cell_of_row w bb (off + j) _ e2 fr2 hbk]
  have hfa := flat_at hus.len us (j / size) hi
  have hmod : j / size * size + j % size = j := by rw [Nat.mul_comm]; exact Nat.div_add_mod j size
  have hml := Nat.mod_lt j hsz
  have e3 : ((us.flatMap enc).drop (j / size * size) |>.take size)[j % size]? = some u := by
    rw [List.getElem?_take, if_pos hml, List.getElem?_drop, hmod, hj]
  rw [hfa, ← hc2, List.getElem?_take, if_pos hml, List.getElem?_drop] at e3
  rw [show off + j = off + j / size * size + j % size by omega]
  simpa using e3
/-- append(x, y...) where x is full: a new block, the old one stays -/
theorem apG {t : TypeId} {x y : Operand} {len m c : Nat} {kx ky : Heap} {s1 b1 b2 : Nat} {z1 : Option Value} {z : Value} {zc : List Value} {de : TypeDesc} (hΓ : Fits P Γ) (hts : SlT enc size a ts kx) (hus : SlT enc size b us ky) (hrx : RdH R L kx) (hry : RdH R L ky)
    (k : ∀ a' cap' h', OwT enc size e a' cap' (ts ++ us) h' → J P n w0 R l0 K rest (upd f d (.slice a' (len + m) cap')) (h' :: L))
    (hg : wantB n f l0 ⟨some d, .call ⟨.builtin .append, ⟨[x, y]⟩, ⟨[t, t]⟩⟩, ty, pos, aft, g⟩ = true := by exact rfl)
    (hx : Cx.ev n f x = .slice a len len := by exact rfl) (hy : Cx.ev n f y = .slice b m c := by exact rfl) (ht : Go.Cx.look Γ t = some ⟨.slice e, s1, z1, b1⟩ := by exact rfl) (he : Go.Cx.look Γ e = some ⟨de, size, some z, b2⟩ := by exact rfl) (hz : vcells z = some zc := by exact rfl) (hzl : Nat.beq zc.length size = true := by exact rfl)
    (hlen : ts.length = len := by first | rfl | assumption | omega) (hm : us.length = m := by first | rfl | assumption | omega) (hl0 : 0 < len := by omega) (hm0 : 0 < m := by omega) (hb : (len + m) * b2 ≤ 140737488355328 := by omega) (h63 : len + m ≤ 9223372036854775807 := by omega) :
    J P n w0 R l0 K ((2, ⟨some d, .call ⟨.builtin .append, ⟨[x, y]⟩, ⟨[t, t]⟩⟩, ty, pos, aft, g⟩) :: rest) f L := by
  subst hlen hm
  refine J.v (Φ := fun v L' => ∃ a' cap' h', v = .slice a' (ts.length + us.length) cap' ∧ L' = h' :: L ∧ OwT enc size e a' cap' (ts ++ us) h') hg (fun w hw => ?_) (fun v L' ⟨a', cap', h', e1, e2, e3⟩ => by subst e1; subst e2; exact k a' cap' h' e3)
  obtain ⟨bx, ox, _, _, _, rfl, _, _, _⟩ := hts.at_ 0 hl0
  obtain ⟨by', oy, _, _, _, rfl, _, _, _⟩ := hus.at_ 0 hm0
  have hu := (hΓ t _ ht).1
  obtain ⟨hue, ie, hie, hse, hze, hbe⟩ := hΓ e _ he
  have hsz : ie.size = size := hse
  have hzs : z.cells.size = size := by rw [vcells_eq hz]; simpa using Nat.eq_of_beq_eq_true hzl
  have hlt : ts.length < ts.length + us.length := by omega
  have hfit : Builtin.nextslicecap (ts.length + us.length) ts.length * ie.bytes ≤ 281474976710656 := by
    rw [hbe]
    exact growslice_fits hlt hb
  have hrun := run_append_grow (P := P) w t ty e ie z hu hie hze ⟨bx, ox, none⟩ ts.length ts.length (ts.flatMap enc) (by rw [Cx.flat_len hts.len, hsz]) (slT_cells hts (fun x h => hw.rd (hrx x h)) rfl) ⟨by', oy, none⟩ us.length c (us.flatMap enc) (by rw [Cx.flat_len hus.len, hsz]) (slT_cells hus (fun x h => hw.rd (hry x h)) rfl) hlt (by omega) hfit
  have hge := grownCap_ge w (ts.length + us.length) ts.length e
  have hex : (execOp (Cx.ev n f) ⟨some d, .call ⟨.builtin .append, ⟨[x, y]⟩, ⟨[t, t]⟩⟩, ty, pos, aft, g⟩).run P w = .ok (.value (.slice (some ⟨w.heap.size, 0, none⟩) (ts.length + us.length) (grownCap w (ts.length + us.length) ts.length e))) (w.drew.alloc (.cells ((ts.flatMap enc).toArray ++ (us.flatMap enc).toArray ++ Builtin.zeroCells z.cells (grownCap w (ts.length + us.length) ts.length e - (ts.length + us.length))) e)) := by
    have h2 : (⟨[x, y]⟩ : Array Operand).map (Cx.ev n f) = #[.slice (some ⟨bx, ox, none⟩) ts.length ts.length, .slice (some ⟨by', oy, none⟩) us.length c] := by simp [hx, hy]
    simp only [execOp, resolve, h2, Sem.run_bind, Sem.run_pure, Result.andThen_ok, invoke, builtin]
    rw [hrun]
    rfl
  refine ⟨_, _, _, hex, (hw.drew (w.drawn + 1)).alloc _, _, _, _, rfl, rfl, hts.len, .inr ⟨w.heap.size, ts.flatMap enc ++ us.flatMap enc ++ (Builtin.zeroCells z.cells (grownCap w (ts.length + us.length) ts.length e - (ts.length + us.length))).toList, rfl, ?_, ?_, ?_, ?_⟩⟩
  · simp
  · simp only [List.length_append, Array.length_toList, size_zeroCells, hzs, Cx.flat_len hts.len]
    rw [← Nat.add_mul, ← Nat.add_mul]
    congr 1
    omega
  · simpa using hge
  · rw [List.flatMap_append, List.take_append_of_le_length (by rw [List.length_append, List.length_append, Cx.flat_len hts.len, Cx.flat_len hts.len, Nat.add_mul]; exact Nat.le_refl _)]
    rw [List.take_of_length_le (by rw [List.length_append, List.length_append, Cx.flat_len hts.len, Cx.flat_len hts.len, Nat.add_mul]; exact Nat.le_refl _)]
end
def litsV : List NV := [⟨2, 1, none, 0, []⟩, ⟨2, -1, none, 0, []⟩]
def twoO (x y : Int) : Obj := .cells ⟨[.int .i64 x, .int .i64 y]⟩ 3 (0, 0)
def nodeK (k : Int) (b : Nat) (x y : Int) : NV := ⟨k, 0, some ⟨b, 0, none⟩, 2, [x, y]⟩
theorem two_sl (b : Nat) (x y : Int) (h : Heap) (hh : (b, twoO x y) ∈ h) : SlT encI 1 (some ⟨b, 0, none⟩) [x, y] h := (litO (enc := encI) (fun _ => rfl) b 3 [x, y] rfl).sl.sub fun z hz => by rw [List.mem_singleton.1 hz]; exact hh
theorem lits_net (a : Option Addr) (k : Int) (b : Nat) (x y : Int) (hA : Heap) (hs : SlT encNV 3 a (litsV ++ [nodeK k b x y]) hA) : NetIn a (litsV ++ [nodeK k b x y]) (hA ++ [(b, twoO x y)]) := by
  refine ⟨hs.sub fun z hz => List.mem_append_left _ hz, fun v hv => ?_, fun v hv => ?_, by show 3 ≤ 1000000; decide⟩
  · unfold litsV nodeK at hv
    simp only [List.mem_append, List.mem_cons, List.not_mem_nil, or_false] at hv
    rcases hv with (rfl | rfl) | rfl
    · exact lit_slg _ _
    · exact lit_slg _ _
    · exact two_sl b x y _ (List.mem_append_right _ List.mem_cons_self)
  · unfold litsV nodeK at hv
    simp only [List.mem_append, List.mem_cons, List.not_mem_nil, or_false] at hv
    rcases hv with (rfl | rfl) | rfl <;> simp
theorem lit1_net (v : NV) (hv : v.l = []) (b : Nat) : NetIn (some ⟨b, 0, none⟩) [v] [(b, .cells ⟨encNV v⟩ 40 (0, 0))] := by
  refine ⟨(litO (enc := encNV) (fun _ => rfl) b 40 [v] (by simp)).sl, fun u hu => ?_, fun u hu => ?_, by show 1 ≤ 1000000; decide⟩
  · rw [List.mem_singleton.1 hu, hv]; exact lit_slg _ _
  · rw [List.mem_singleton.1 hu, hv]; exact Nat.zero_le _
theorem known_1 : checkP 1 [(2, 1, []), (2, -1, []), (4, 0, [0, 1])] = true ∧ redP [(2, 1, []), (2, -1, []), (4, 0, [0, 1])] = [(1, 0, [])] := by decide +kernel
theorem known_2 : checkP 1 [(2, 1, []), (2, -1, []), (3, 0, [0, 0])] = true ∧ redP [(2, 1, []), (2, -1, []), (3, 0, [0, 0])] = [(2, 1, [])] := by decide +kernel
theorem known_3 : checkP 0 [(3, 0, [])] = true ∧ redP [(3, 0, [])] = [(1, 0, [])] := by decide +kernel
theorem known_4 : checkP 2 [(2, 2, []), (2, 1, []), (4, 0, [1, 0]), (3, 0, [2, 0])] = true ∧ sumP [(2, 2, []), (2, 1, []), (4, 0, [1, 0]), (3, 0, [2, 0])] = 4 ∧ evalP (2, 0) 2 [(2, 2, []), (2, 1, []), (4, 0, [1, 0]), (3, 0, [2, 0])] = true ∧ evalP (3, 0) 2 [(2, 2, []), (2, 1, []), (4, 0, [1, 0]), (3, 0, [2, 0])] = true ∧ evalP (1, 0) 2 [(2, 2, []), (2, 1, []), (4, 0, [1, 0]), (3, 0, [2, 0])] = false ∧ checkP 0 [] = false := by decide +kernel
theorem reduce_kn (N : Int) (a : Option Addr) (cap : Nat) (vs : List NV) (h : Heap) (Y : List PN) (hr : NetIn a vs h) (hC : checkP N (vs.map pnV) = true) (hY : redP (vs.map pnV) = Y) {w0 w : World} {R : Heap} {L : List Heap} (rl : RdH R L h) (hT : Tab w0) (hw : H w0 R L w) :
    Calls Tryd.prog 17 #[.agg ⟨[.int .i64 N, .slice a vs.length cap]⟩] w fun e w' => ∃ v' L', e = .returned v' ∧ H w0 R L' w' ∧ ∃ ao co os hO hI, v' = .tuple #[.agg ⟨[.int .i64 N, .slice ao os.length co]⟩, .int .i64 0] ∧ L' = hO :: hI :: L ∧ NetO ao co os hO hI ∧ os.map pnV = Y := by
  have := reduce_any N a cap vs h hr rl hT hw
  rw [hC, if_pos rfl, if_pos rfl, if_pos rfl, hY] at this
  exact this
theorem kn_net {a : Option Addr} {c : Nat} {os : List NV} {hO hI : Heap} {k t : Int} (no : NetO a c os hO hI) (h : os.map pnV = [(k, t, [])]) : NetIn a os (hO ++ hI) := no.netIn (by have := congrArg List.length h; rw [List.length_map] at this; have : os.length = 1 := this; omega) (by rw [h]; intro x hx; rw [List.mem_singleton.1 hx]; exact Nat.zero_le _)
theorem same_lit (N : Int) (ao : Option Addr) (co : Nat) (os : List NV) (h : Heap) (ni : NetIn ao os h) (v : NV) (hv : v.l = []) (he : os.map pnV = [pnV v]) (b : Nat) (c : Nat) (h2 : Heap) (ni2 : NetIn (some ⟨b, 0, none⟩) [v] h2) (w : World) (hw : Holds (h ++ h2) w) :
    Calls Tryd.prog 19 #[.agg ⟨[.int .i64 N, .slice ao os.length co]⟩, .agg ⟨[.int .i64 N, .slice (some ⟨b, 0, none⟩) 1 c]⟩] w fun e w' => e = .returned (.bool true) ∧ Below w.heap.size w w' := by
  have := sameR_any N N ao (some ⟨b, 0, none⟩) co c os [v] (h ++ h2) (ni.sub fun y hy => List.mem_append_left _ hy) (ni2.sub fun y hy => List.mem_append_right _ hy) w hw
  rw [decide_eq_true ⟨rfl, he⟩] at this
  exact this
set_option maxHeartbeats 16000000 in
theorem nodeKnown_walk (w : World) (hT : Tab w) : Calls Tryd.prog 9 #[] w fun e w' => e = .returned (.bool true) ∧ Below w.heap.size w w' := by
  obtain ⟨k1, k2⟩ := known_1
  obtain ⟨k3, k4⟩ := known_2
  obtain ⟨k5, k6⟩ := known_3
  obtain ⟨k7, k8, k9, k10, k11, k12⟩ := known_4
  refine calls_of_JC (R := []) Tryd.func9 Tryd.ntmps9 rfl rfl (Holds.nil _) ?_
  repeat' first
    | (refine J.isJ ?_; first | (fail) | (first | (refine J.o 0 ?_; refine J.ev' hΓ ?_) | refine J.nil ?_ | refine J.kd ?_ | (refine J.o 4 ?_; first | refine J.e0 hΓ ?_ | refine J.lT default hΓ ?_ | refine J.e1 hΓ ?_ | refine J.e2 hΓ ?_ | refine J.lR hΓ ?_) | (refine J.o 3 ?_; first | refine J.iA hΓ ?_ | refine J.iJ hΓ ?_ | refine J.fP hΓ ?_ | refine J.iC hΓ ?_ | refine J.ev' hΓ ?_) | (refine J.o 1 ?_; first | refine J.ad ?_ | refine J.ct ?_ | refine J.sb ?_ | refine J.mu ?_ | refine J.ng ?_ | refine J.qu ?_ | refine J.rm ?_ | refine J.s1 ?_ | refine J.sr ?_ | refine J.aW ?_ | refine J.oW ?_ | refine J.nW ?_) | (refine J.o 2 ?_; refine J.cv _ hΓ ?_) | (refine J.o 5 ?_; first | refine J.t0 hΓ ?_ | refine J.t1 hΓ ?_ | refine J.t2 hΓ ?_ | refine J.tT _ default hΓ (fun _ _ => ?_) | refine J.tT1 _ default hΓ (fun _ _ => ?_) | refine J.tT2 _ default hΓ (fun _ _ => ?_) | refine J.tT3 _ default hΓ (fun _ _ => ?_)) | (refine J.o 6 ?_; refine J.bx (fun _ => ?_)) | (refine J.o 7 ?_; refine J.al hΓ (fun _ => ?_)) | (refine J.o 8 ?_; refine J.bd hΓ ?_) | (refine J.o 9 ?_; refine J.bl hΓ (fun _ => ?_)) | (refine J.o 10 ?_; first | refine J.ls hΓ ?_ | refine J.ev' hΓ ?_) | (refine J.o 11 ?_; first | refine J.eS ?_ | refine J.xS ?_ | refine J.ev' hΓ ?_ | refine J.nT hΓ ?_) | (refine J.o 12 ?_; refine J.ix hΓ ?_) | (refine J.o 13 ?_; first | refine J.sL hΓ ?_ | refine J.sH hΓ ?_) | (refine J.o 14 ?_; refine J.mf hΓ ?_) | refine J.kn ?_) | ((fail_if_success refine J.wt ?_); refine J.gc rfl rfl (fun hc => ?_) (fun hc => ?_) <;> ((try simp only [decide_eq_true_eq, decide_eq_false_iff_not, beq_iff_eq, beq_eq_false_iff_ne, bne_iff_ne, bne_eq_false_iff_eq, Bool.not_eq_true', Bool.not_eq_false', Bool.not_eq_true, Bool.not_eq_false] at hc) <;> first | (first | (exact absurd rfl hc) | (exfalso; omega) | (exact absurd (hc.symm.trans (by assumption : _ = false)) (by decide)) | (exact absurd (hc.symm.trans (by assumption : _ = true)) (by decide))) | skip)))
    | (first | refine JC.seq ?_ | refine JC.region ?_ | refine JC.block ?_ | refine JC.ret ?_ | refine JC.exit ?_ | refine JC.skip ?_ | refine thenK.nn ?_ | refine thenK.r ?_ | refine thenK.x ?_ | refine blockK.nn ?_ | refine blockK.r ?_ | refine blockK.hit rfl ?_ | refine blockK.miss rfl ?_ | refine JC.condT rfl ?_ | refine JC.condF rfl ?_ | (refine JC.cond rfl (fun hc => ?_) (fun hc => ?_) <;> ((try simp only [decide_eq_true_eq, decide_eq_false_iff_not, beq_iff_eq, beq_eq_false_iff_ne, bne_iff_ne, bne_eq_false_iff_eq, Bool.not_eq_true', Bool.not_eq_false', Bool.not_eq_true, Bool.not_eq_false] at hc) <;> first | (first | (exact absurd rfl hc) | (exfalso; omega) | (exact absurd (hc.symm.trans (by assumption : _ = false)) (by decide)) | (exact absurd (hc.symm.trans (by assumption : _ = true)) (by decide))) | skip)) | refine drawK.nn ?_ | refine roundK.nn ?_ | refine roundK.r ?_ | refine roundK.x ?_ | refine loopK.r ?_ | refine loopK.x ?_)
    | (fail)
    | fail
  rename_i n11 n14 n16
  have sL : ∀ b : Nat, SlT encNV 3 (some ⟨b, 0, none⟩) litsV [(b, .cells ⟨[.int .i64 2, .int .i64 1, .slice none 0 0, .int .i64 2, .int .i64 (-1), .slice none 0 0]⟩ 40 (0, 0))] := fun b => (litO (enc := encNV) (fun _ => rfl) b 40 litsV rfl).sl
  have sK : ∀ (k : Int) (b c : Nat) (x y : Int), SlT encNV 3 (some ⟨c, 0, none⟩) [nodeK k b x y] [(c, .cells ⟨[.int .i64 k, .int .i64 0, .slice (some ⟨b, 0, none⟩) 2 2]⟩ 40 (0, 0))] := fun k b c x y => (litO (enc := encNV) (fun _ => rfl) c 40 [nodeK k b x y] rfl).sl
  refine J.o 9 ?_
  refine apG hΓ (sL n11) (sK 4 n14 n16 0 1) RdH.hd.tl.tl RdH.hd (fun aA cA hA oA => ?_)
  have niA := lits_net aA 4 n14 0 1 hA oA.sl
  repeat' first
    | (refine J.isJ ?_; first | ((refine J.fc 17 ?_; refine J.callx eReduce rfl rfl (fun w hw => reduce_kn 1 aA cA (litsV ++ [nodeK 4 n14 0 1]) (hA ++ [(n14, twoO 0 1)]) _ niA k1 k2 (RdH.append RdH.hd RdH.hd.tl.tl) hT hw) ?_; rintro _ _ ⟨a1, c1, o1, hO1, hI1, rfl, rfl, no1, hos1⟩)) | (first | (refine J.o 0 ?_; refine J.ev' hΓ ?_) | refine J.nil ?_ | refine J.kd ?_ | (refine J.o 4 ?_; first | refine J.e0 hΓ ?_ | refine J.lT default hΓ ?_ | refine J.e1 hΓ ?_ | refine J.e2 hΓ ?_ | refine J.lR hΓ ?_) | (refine J.o 3 ?_; first | refine J.iA hΓ ?_ | refine J.iJ hΓ ?_ | refine J.fP hΓ ?_ | refine J.iC hΓ ?_ | refine J.ev' hΓ ?_) | (refine J.o 1 ?_; first | refine J.ad ?_ | refine J.ct ?_ | refine J.sb ?_ | refine J.mu ?_ | refine J.ng ?_ | refine J.qu ?_ | refine J.rm ?_ | refine J.s1 ?_ | refine J.sr ?_ | refine J.aW ?_ | refine J.oW ?_ | refine J.nW ?_) | (refine J.o 2 ?_; refine J.cv _ hΓ ?_) | (refine J.o 5 ?_; first | refine J.t0 hΓ ?_ | refine J.t1 hΓ ?_ | refine J.t2 hΓ ?_ | refine J.tT _ default hΓ (fun _ _ => ?_) | refine J.tT1 _ default hΓ (fun _ _ => ?_) | refine J.tT2 _ default hΓ (fun _ _ => ?_) | refine J.tT3 _ default hΓ (fun _ _ => ?_)) | (refine J.o 6 ?_; refine J.bx (fun _ => ?_)) | (refine J.o 7 ?_; refine J.al hΓ (fun _ => ?_)) | (refine J.o 8 ?_; refine J.bd hΓ ?_) | (refine J.o 9 ?_; refine J.bl hΓ (fun _ => ?_)) | (refine J.o 10 ?_; first | refine J.ls hΓ ?_ | refine J.ev' hΓ ?_) | (refine J.o 11 ?_; first | refine J.eS ?_ | refine J.xS ?_ | refine J.ev' hΓ ?_ | refine J.nT hΓ ?_) | (refine J.o 12 ?_; refine J.ix hΓ ?_) | (refine J.o 13 ?_; first | refine J.sL hΓ ?_ | refine J.sH hΓ ?_) | (refine J.o 14 ?_; refine J.mf hΓ ?_) | refine J.kn ?_) | ((fail_if_success refine J.wt ?_); refine J.gc rfl rfl (fun hc => ?_) (fun hc => ?_) <;> ((try simp only [decide_eq_true_eq, decide_eq_false_iff_not, beq_iff_eq, beq_eq_false_iff_ne, bne_iff_ne, bne_eq_false_iff_eq, Bool.not_eq_true', Bool.not_eq_false', Bool.not_eq_true, Bool.not_eq_false] at hc) <;> first | (first | (exact absurd rfl hc) | (exfalso; omega) | (exact absurd (hc.symm.trans (by assumption : _ = false)) (by decide)) | (exact absurd (hc.symm.trans (by assumption : _ = true)) (by decide))) | skip)))
    | (first | refine JC.seq ?_ | refine JC.region ?_ | refine JC.block ?_ | refine JC.ret ?_ | refine JC.exit ?_ | refine JC.skip ?_ | refine thenK.nn ?_ | refine thenK.r ?_ | refine thenK.x ?_ | refine blockK.nn ?_ | refine blockK.r ?_ | refine blockK.hit rfl ?_ | refine blockK.miss rfl ?_ | refine JC.condT rfl ?_ | refine JC.condF rfl ?_ | (refine JC.cond rfl (fun hc => ?_) (fun hc => ?_) <;> ((try simp only [decide_eq_true_eq, decide_eq_false_iff_not, beq_iff_eq, beq_eq_false_iff_ne, bne_iff_ne, bne_eq_false_iff_eq, Bool.not_eq_true', Bool.not_eq_false', Bool.not_eq_true, Bool.not_eq_false] at hc) <;> first | (first | (exact absurd rfl hc) | (exfalso; omega) | (exact absurd (hc.symm.trans (by assumption : _ = false)) (by decide)) | (exact absurd (hc.symm.trans (by assumption : _ = true)) (by decide))) | skip)) | refine drawK.nn ?_ | refine roundK.nn ?_ | refine roundK.r ?_ | refine roundK.x ?_ | refine loopK.r ?_ | refine loopK.x ?_)
    | (fail)
    | fail
  rename_i n2 n24 n26
  refine J.o 9 ?_
  refine apG hΓ (sL n11) (sK 3 n24 n26 0 0) RdH.hd.tl.tl.tl.tl.tl.tl.tl.tl RdH.hd (fun aB cB hB oB => ?_)
  have niB := lits_net aB 3 n24 0 0 hB oB.sl
  repeat' first
    | (refine J.isJ ?_; first | ((refine J.fc 17 ?_; refine J.callx eReduce rfl rfl (fun w hw => reduce_kn 1 aB cB (litsV ++ [nodeK 3 n24 0 0]) (hB ++ [(n24, twoO 0 0)]) _ niB k3 k4 (RdH.append RdH.hd RdH.hd.tl.tl) hT hw) ?_; rintro _ _ ⟨a2, c2, o2, hO2, hI2, rfl, rfl, no2, hos2⟩)) | (first | (refine J.o 0 ?_; refine J.ev' hΓ ?_) | refine J.nil ?_ | refine J.kd ?_ | (refine J.o 4 ?_; first | refine J.e0 hΓ ?_ | refine J.lT default hΓ ?_ | refine J.e1 hΓ ?_ | refine J.e2 hΓ ?_ | refine J.lR hΓ ?_) | (refine J.o 3 ?_; first | refine J.iA hΓ ?_ | refine J.iJ hΓ ?_ | refine J.fP hΓ ?_ | refine J.iC hΓ ?_ | refine J.ev' hΓ ?_) | (refine J.o 1 ?_; first | refine J.ad ?_ | refine J.ct ?_ | refine J.sb ?_ | refine J.mu ?_ | refine J.ng ?_ | refine J.qu ?_ | refine J.rm ?_ | refine J.s1 ?_ | refine J.sr ?_ | refine J.aW ?_ | refine J.oW ?_ | refine J.nW ?_) | (refine J.o 2 ?_; refine J.cv _ hΓ ?_) | (refine J.o 5 ?_; first | refine J.t0 hΓ ?_ | refine J.t1 hΓ ?_ | refine J.t2 hΓ ?_ | refine J.tT _ default hΓ (fun _ _ => ?_) | refine J.tT1 _ default hΓ (fun _ _ => ?_) | refine J.tT2 _ default hΓ (fun _ _ => ?_) | refine J.tT3 _ default hΓ (fun _ _ => ?_)) | (refine J.o 6 ?_; refine J.bx (fun _ => ?_)) | (refine J.o 7 ?_; refine J.al hΓ (fun _ => ?_)) | (refine J.o 8 ?_; refine J.bd hΓ ?_) | (refine J.o 9 ?_; refine J.bl hΓ (fun _ => ?_)) | (refine J.o 10 ?_; first | refine J.ls hΓ ?_ | refine J.ev' hΓ ?_) | (refine J.o 11 ?_; first | refine J.eS ?_ | refine J.xS ?_ | refine J.ev' hΓ ?_ | refine J.nT hΓ ?_) | (refine J.o 12 ?_; refine J.ix hΓ ?_) | (refine J.o 13 ?_; first | refine J.sL hΓ ?_ | refine J.sH hΓ ?_) | (refine J.o 14 ?_; refine J.mf hΓ ?_) | refine J.kn ?_) | ((fail_if_success refine J.wt ?_); refine J.gc rfl rfl (fun hc => ?_) (fun hc => ?_) <;> ((try simp only [decide_eq_true_eq, decide_eq_false_iff_not, beq_iff_eq, beq_eq_false_iff_ne, bne_iff_ne, bne_eq_false_iff_eq, Bool.not_eq_true', Bool.not_eq_false', Bool.not_eq_true, Bool.not_eq_false] at hc) <;> first | (first | (exact absurd rfl hc) | (exfalso; omega) | (exact absurd (hc.symm.trans (by assumption : _ = false)) (by decide)) | (exact absurd (hc.symm.trans (by assumption : _ = true)) (by decide))) | skip)))
    | (first | refine JC.seq ?_ | refine JC.region ?_ | refine JC.block ?_ | refine JC.ret ?_ | refine JC.exit ?_ | refine JC.skip ?_ | refine thenK.nn ?_ | refine thenK.r ?_ | refine thenK.x ?_ | refine blockK.nn ?_ | refine blockK.r ?_ | refine blockK.hit rfl ?_ | refine blockK.miss rfl ?_ | refine JC.condT rfl ?_ | refine JC.condF rfl ?_ | (refine JC.cond rfl (fun hc => ?_) (fun hc => ?_) <;> ((try simp only [decide_eq_true_eq, decide_eq_false_iff_not, beq_iff_eq, beq_eq_false_iff_ne, bne_iff_ne, bne_eq_false_iff_eq, Bool.not_eq_true', Bool.not_eq_false', Bool.not_eq_true, Bool.not_eq_false] at hc) <;> first | (first | (exact absurd rfl hc) | (exfalso; omega) | (exact absurd (hc.symm.trans (by assumption : _ = false)) (by decide)) | (exact absurd (hc.symm.trans (by assumption : _ = true)) (by decide))) | skip)) | refine drawK.nn ?_ | refine roundK.nn ?_ | refine roundK.r ?_ | refine roundK.x ?_ | refine loopK.r ?_ | refine loopK.x ?_)
    | (fail)
    | fail
  rename_i n4 n34
  have niC := lit1_net ⟨3, 0, none, 0, []⟩ rfl n34
  refine J.fc 17 ?_
  refine J.callx eReduce rfl rfl (fun w hw => reduce_kn 0 (some ⟨n34, 0, none⟩) 1 [⟨3, 0, none, 0, []⟩] _ _ niC k5 k6 RdH.hd hT hw) ?_
  rintro _ _ ⟨a3, c3, o3, hO3, hI3, rfl, rfl, no3, hos3⟩
  repeat' first
    | (refine J.isJ ?_; first | (fail) | (first | (refine J.o 0 ?_; refine J.ev' hΓ ?_) | refine J.nil ?_ | refine J.kd ?_ | (refine J.o 4 ?_; first | refine J.e0 hΓ ?_ | refine J.lT default hΓ ?_ | refine J.e1 hΓ ?_ | refine J.e2 hΓ ?_ | refine J.lR hΓ ?_) | (refine J.o 3 ?_; first | refine J.iA hΓ ?_ | refine J.iJ hΓ ?_ | refine J.fP hΓ ?_ | refine J.iC hΓ ?_ | refine J.ev' hΓ ?_) | (refine J.o 1 ?_; first | refine J.ad ?_ | refine J.ct ?_ | refine J.sb ?_ | refine J.mu ?_ | refine J.ng ?_ | refine J.qu ?_ | refine J.rm ?_ | refine J.s1 ?_ | refine J.sr ?_ | refine J.aW ?_ | refine J.oW ?_ | refine J.nW ?_) | (refine J.o 2 ?_; refine J.cv _ hΓ ?_) | (refine J.o 5 ?_; first | refine J.t0 hΓ ?_ | refine J.t1 hΓ ?_ | refine J.t2 hΓ ?_ | refine J.tT _ default hΓ (fun _ _ => ?_) | refine J.tT1 _ default hΓ (fun _ _ => ?_) | refine J.tT2 _ default hΓ (fun _ _ => ?_) | refine J.tT3 _ default hΓ (fun _ _ => ?_)) | (refine J.o 6 ?_; refine J.bx (fun _ => ?_)) | (refine J.o 7 ?_; refine J.al hΓ (fun _ => ?_)) | (refine J.o 8 ?_; refine J.bd hΓ ?_) | (refine J.o 9 ?_; refine J.bl hΓ (fun _ => ?_)) | (refine J.o 10 ?_; first | refine J.ls hΓ ?_ | refine J.ev' hΓ ?_) | (refine J.o 11 ?_; first | refine J.eS ?_ | refine J.xS ?_ | refine J.ev' hΓ ?_ | refine J.nT hΓ ?_) | (refine J.o 12 ?_; refine J.ix hΓ ?_) | (refine J.o 13 ?_; first | refine J.sL hΓ ?_ | refine J.sH hΓ ?_) | (refine J.o 14 ?_; refine J.mf hΓ ?_) | refine J.kn ?_) | ((fail_if_success refine J.wt ?_); refine J.gc rfl rfl (fun hc => ?_) (fun hc => ?_) <;> ((try simp only [decide_eq_true_eq, decide_eq_false_iff_not, beq_iff_eq, beq_eq_false_iff_ne, bne_iff_ne, bne_eq_false_iff_eq, Bool.not_eq_true', Bool.not_eq_false', Bool.not_eq_true, Bool.not_eq_false] at hc) <;> first | (first | (exact absurd rfl hc) | (exfalso; omega) | (exact absurd (hc.symm.trans (by assumption : _ = false)) (by decide)) | (exact absurd (hc.symm.trans (by assumption : _ = true)) (by decide))) | skip)))
    | (first | refine JC.seq ?_ | refine JC.region ?_ | refine JC.block ?_ | refine JC.ret ?_ | refine JC.exit ?_ | refine JC.skip ?_ | refine thenK.nn ?_ | refine thenK.r ?_ | refine thenK.x ?_ | refine blockK.nn ?_ | refine blockK.r ?_ | refine blockK.hit rfl ?_ | refine blockK.miss rfl ?_ | refine JC.condT rfl ?_ | refine JC.condF rfl ?_ | (refine JC.cond rfl (fun hc => ?_) (fun hc => ?_) <;> ((try simp only [decide_eq_true_eq, decide_eq_false_iff_not, beq_iff_eq, beq_eq_false_iff_ne, bne_iff_ne, bne_eq_false_iff_eq, Bool.not_eq_true', Bool.not_eq_false', Bool.not_eq_true, Bool.not_eq_false] at hc) <;> first | (first | (exact absurd rfl hc) | (exfalso; omega) | (exact absurd (hc.symm.trans (by assumption : _ = false)) (by decide)) | (exact absurd (hc.symm.trans (by assumption : _ = true)) (by decide))) | skip)) | refine drawK.nn ?_ | refine roundK.nn ?_ | refine roundK.r ?_ | refine roundK.x ?_ | refine loopK.r ?_ | refine loopK.x ?_)
    | (fail)
    | fail
  rename_i n6 n41 n43 n45 n8
  refine JC.weak (L' := [_, _, _, _, _, _, _, _, _, _, _, _, _, _]) (fun w hw => H.sel (l := [_, _, _, _, _, _, _, _, _, _, _, _, _, _, _, _, _, _, _, _, _]) (M := []) hw [14, 8, 4, 0, 20, 15, 16, 9, 10, 5, 6, 3, 2, 1]) ?_
  have ni1 := kn_net no1 hos1
  have ni2 := kn_net no2 hos2
  have ni3 := kn_net no3 hos3
  have niL : NetIn (some ⟨n11, 0, none⟩) [⟨2, 1, none, 0, []⟩] [(n11, .cells ⟨[.int .i64 2, .int .i64 1, .slice none 0 0, .int .i64 2, .int .i64 (-1), .slice none 0 0]⟩ 40 (0, 0))] := ⟨slT_take (sL n11) 1, fun u hu => by rw [List.mem_singleton.1 hu]; exact lit_slg _ _, fun u hu => by rw [List.mem_singleton.1 hu]; exact Nat.zero_le _, by show 1 ≤ 1000000; decide⟩
  have niX : NetIn (some ⟨n45, 0, none⟩) [⟨2, 2, none, 0, []⟩, ⟨2, 1, none, 0, []⟩, nodeK 4 n41 1 0, nodeK 3 n43 2 0] [(n45, .cells ⟨[.int .i64 2, .int .i64 2, .slice none 0 0, .int .i64 2, .int .i64 1, .slice none 0 0, .int .i64 4, .int .i64 0, .slice (some ⟨n41, 0, none⟩) 2 2, .int .i64 3, .int .i64 0, .slice (some ⟨n43, 0, none⟩) 2 2]⟩ 40 (0, 0)), (n41, twoO 1 0), (n43, twoO 2 0)] := by
    refine ⟨(litO (enc := encNV) (fun _ => rfl) n45 40 [⟨2, 2, none, 0, []⟩, ⟨2, 1, none, 0, []⟩, nodeK 4 n41 1 0, nodeK 3 n43 2 0] rfl).sl.sub (fun z hz => by rw [List.mem_singleton.1 hz]; exact List.mem_cons_self), fun u hu => ?_, fun u hu => ?_, by show 4 ≤ 1000000; decide⟩
    · simp only [List.mem_cons, List.not_mem_nil, or_false] at hu
      rcases hu with rfl | rfl | rfl | rfl
      · exact lit_slg _ _
      · exact lit_slg _ _
      · exact two_sl n41 1 0 _ (by simp)
      · exact two_sl n43 2 0 _ (by simp)
    · simp only [List.mem_cons, List.not_mem_nil, or_false] at hu
      rcases hu with rfl | rfl | rfl | rfl <;> simp [nodeK]
  have cZ := fun w hw => size_any 2 _ 4 _ _ niX w hw
  have hzX : sizeP 2 ([⟨2, 2, none, 0, []⟩, ⟨2, 1, none, 0, []⟩, nodeK 4 n41 1 0, nodeK 3 n43 2 0].map pnV) = 4 := by
    show (if checkP 2 [(2, 2, []), (2, 1, []), (4, 0, [1, 0]), (3, 0, [2, 0])] = true then sumP [(2, 2, []), (2, 1, []), (4, 0, [1, 0]), (3, 0, [2, 0])] else 0) = 4
    rw [if_pos k7, k8]
  rw [hzX] at cZ
  have cE2 := fun w hw => eval_any (2, 0) ⟨by decide, by decide⟩ 2 _ 4 _ _ niX w hw
  have cE3 := fun w hw => eval_any (3, 0) ⟨by decide, by decide⟩ 2 _ 4 _ _ niX w hw
  have cE1 := fun w hw => eval_any (1, 0) ⟨by decide, by decide⟩ 2 _ 4 _ _ niX w hw
  rw [show evalP (2, 0) 2 ([⟨2, 2, none, 0, []⟩, ⟨2, 1, none, 0, []⟩, nodeK 4 n41 1 0, nodeK 3 n43 2 0].map pnV) = true from k9] at cE2
  rw [show evalP (3, 0) 2 ([⟨2, 2, none, 0, []⟩, ⟨2, 1, none, 0, []⟩, nodeK 4 n41 1 0, nodeK 3 n43 2 0].map pnV) = true from k10] at cE3
  rw [show evalP (1, 0) 2 ([⟨2, 2, none, 0, []⟩, ⟨2, 1, none, 0, []⟩, nodeK 4 n41 1 0, nodeK 3 n43 2 0].map pnV) = false from k11] at cE1
  have cK := fun w => check_any 0 none 0 [] [] ⟨⟨fun _ => rfl, fun i hi => absurd hi (Nat.not_lt_zero _)⟩, fun u hu => absurd hu List.not_mem_nil, fun u hu => absurd hu List.not_mem_nil, Nat.zero_le _⟩ w (Holds.nil w)
  rw [show checkP 0 ([].map pnV) = false from k12, if_neg (by decide)] at cK
  have rX : ∀ (x y a b c d e f g h i j k l m n : Heap) {o1 o2 o3 : Obj} {b1 b2 b3 : Nat}, RdH [] [x, y, a, b, c, d, e, f, g, h, i, j, k, [(b2, o2)], [(b3, o3)], [(b1, o1)]] [(b1, o1), (b2, o2), (b3, o3)] := fun x y a b c d e f g h i j k l m n o1 o2 o3 b1 b2 b3 => rdc Rd.hd.tl.tl.tl.tl.tl.tl.tl.tl.tl.tl.tl.tl.tl.tl.tl (rdc Rd.hd.tl.tl.tl.tl.tl.tl.tl.tl.tl.tl.tl.tl.tl (rdc Rd.hd.tl.tl.tl.tl.tl.tl.tl.tl.tl.tl.tl.tl.tl.tl RdH.nil))
  repeat' first
    | (refine J.isJ ?_; first | (first | (refine J.o 4 ?_; first | refine J.lR hΓ ?_ (hr := Rd.hd.tl) | refine J.lR hΓ ?_ (hr := Rd.hd.tl.tl) | refine J.lR hΓ ?_ (hr := Rd.hd.tl.tl.tl) | refine J.lR hΓ ?_ (hr := Rd.hd.tl.tl.tl.tl) | refine J.lR hΓ ?_ (hr := Rd.hd.tl.tl.tl.tl.tl)) | (refine J.o 13 ?_; refine J.slF (m := 1) hΓ ?_) | (refine J.fc 19 ?_; first | refine J.call0 eSameR rfl rfl (fun w hw => same_lit 1 a1 c1 o1 _ ni1 ⟨1, 0, none, 0, []⟩ rfl hos1 _ 1 _ (lit1_net _ rfl _) w (hw.rdH (RdH.append (RdH.append RdH.hd.tl.tl.tl.tl.tl.tl RdH.hd.tl.tl.tl.tl.tl.tl.tl) RdH.hd))) ?_ | refine J.call0 eSameR rfl rfl (fun w hw => same_lit 1 a2 c2 o2 _ ni2 ⟨2, 1, none, 0, []⟩ rfl hos2 _ 2 _ niL w (hw.rdH (RdH.append (RdH.append RdH.hd.tl.tl.tl.tl.tl.tl.tl.tl RdH.hd.tl.tl.tl.tl.tl.tl.tl.tl.tl) RdH.hd.tl.tl.tl.tl.tl))) ?_ | refine J.call0 eSameR rfl rfl (fun w hw => same_lit 0 a3 c3 o3 _ ni3 ⟨1, 0, none, 0, []⟩ rfl hos3 _ 1 _ (lit1_net _ rfl _) w (hw.rdH (RdH.append (RdH.append RdH.hd.tl.tl.tl.tl.tl.tl.tl.tl.tl.tl.tl RdH.hd.tl.tl.tl.tl.tl.tl.tl.tl.tl.tl.tl.tl) RdH.hd))) ?_) | (refine J.fc 27 ?_; refine J.call0 eSize rfl rfl (fun w hw => cZ w (hw.rdH (rX _ _ _ _ _ _ _ _ _ _ _ _ _ [] [] []))) ?_) | (refine J.fc 13 ?_; first | refine J.call0 eEval rfl rfl (fun w hw => cE2 w (hw.rdH (rX _ _ _ _ _ _ _ _ _ _ _ _ _ [] [] []))) ?_ | refine J.call0 eEval rfl rfl (fun w hw => cE3 w (hw.rdH (rX _ _ _ _ _ _ _ _ _ _ _ _ _ [] [] []))) ?_ | refine J.call0 eEval rfl rfl (fun w hw => cE1 w (hw.rdH (rX _ _ _ _ _ _ _ _ _ _ _ _ _ [] [] []))) ?_) | (refine J.fc 25 ?_; refine J.call0 eCheck rfl rfl (fun w hw => cK w) ?_) | (refine J.fc 15 ?_; refine J.call0 eWorks rfl rfl (fun w hw => works_any w (hT.below hw.below)) ?_)) | (first | (refine J.o 0 ?_; refine J.ev' hΓ ?_) | refine J.nil ?_ | refine J.kd ?_ | (refine J.o 4 ?_; first | refine J.e0 hΓ ?_ | refine J.lT default hΓ ?_ | refine J.e1 hΓ ?_ | refine J.e2 hΓ ?_ | refine J.lR hΓ ?_) | (refine J.o 3 ?_; first | refine J.iA hΓ ?_ | refine J.iJ hΓ ?_ | refine J.fP hΓ ?_ | refine J.iC hΓ ?_ | refine J.ev' hΓ ?_) | (refine J.o 1 ?_; first | refine J.ad ?_ | refine J.ct ?_ | refine J.sb ?_ | refine J.mu ?_ | refine J.ng ?_ | refine J.qu ?_ | refine J.rm ?_ | refine J.s1 ?_ | refine J.sr ?_ | refine J.aW ?_ | refine J.oW ?_ | refine J.nW ?_) | (refine J.o 2 ?_; refine J.cv _ hΓ ?_) | (refine J.o 5 ?_; first | refine J.t0 hΓ ?_ | refine J.t1 hΓ ?_ | refine J.t2 hΓ ?_ | refine J.tT _ default hΓ (fun _ _ => ?_) | refine J.tT1 _ default hΓ (fun _ _ => ?_) | refine J.tT2 _ default hΓ (fun _ _ => ?_) | refine J.tT3 _ default hΓ (fun _ _ => ?_)) | (refine J.o 6 ?_; refine J.bx (fun _ => ?_)) | (refine J.o 7 ?_; refine J.al hΓ (fun _ => ?_)) | (refine J.o 8 ?_; refine J.bd hΓ ?_) | (refine J.o 9 ?_; refine J.bl hΓ (fun _ => ?_)) | (refine J.o 10 ?_; first | refine J.ls hΓ ?_ | refine J.ev' hΓ ?_) | (refine J.o 11 ?_; first | refine J.eS ?_ | refine J.xS ?_ | refine J.ev' hΓ ?_ | refine J.nT hΓ ?_) | (refine J.o 12 ?_; refine J.ix hΓ ?_) | (refine J.o 13 ?_; first | refine J.sL hΓ ?_ | refine J.sH hΓ ?_) | (refine J.o 14 ?_; refine J.mf hΓ ?_) | refine J.kn ?_) | ((fail_if_success refine J.wt ?_); refine J.gc rfl rfl (fun hc => ?_) (fun hc => ?_) <;> ((try simp only [decide_eq_true_eq, decide_eq_false_iff_not, beq_iff_eq, beq_eq_false_iff_ne, bne_iff_ne, bne_eq_false_iff_eq, Bool.not_eq_true', Bool.not_eq_false', Bool.not_eq_true, Bool.not_eq_false] at hc) <;> first | (first | (exact absurd rfl hc) | (exfalso; omega) | (exact absurd (hc.symm.trans (by assumption : _ = false)) (by decide)) | (exact absurd (hc.symm.trans (by assumption : _ = true)) (by decide))) | skip)))
    | (first | refine JC.seq ?_ | refine JC.region ?_ | refine JC.block ?_ | refine JC.ret ?_ | refine JC.exit ?_ | refine JC.skip ?_ | refine thenK.nn ?_ | refine thenK.r ?_ | refine thenK.x ?_ | refine blockK.nn ?_ | refine blockK.r ?_ | refine blockK.hit rfl ?_ | refine blockK.miss rfl ?_ | refine JC.condT rfl ?_ | refine JC.condF rfl ?_ | (refine JC.cond rfl (fun hc => ?_) (fun hc => ?_) <;> ((try simp only [decide_eq_true_eq, decide_eq_false_iff_not, beq_iff_eq, beq_eq_false_iff_ne, bne_iff_ne, bne_eq_false_iff_eq, Bool.not_eq_true', Bool.not_eq_false', Bool.not_eq_true, Bool.not_eq_false] at hc) <;> first | (first | (exact absurd rfl hc) | (exfalso; omega) | (exact absurd (hc.symm.trans (by assumption : _ = false)) (by decide)) | (exact absurd (hc.symm.trans (by assumption : _ = true)) (by decide))) | skip)) | refine drawK.nn ?_ | refine roundK.nn ?_ | refine roundK.r ?_ | refine roundK.x ?_ | refine loopK.r ?_ | refine loopK.x ?_)
    | ((refine JC.drawN [] [] (by kernel_rfl) (by kernel_rfl) ?_))
    | fail
  all_goals first | (exfalso; omega) | exact ret1f rfl rfl rfl (fun w1 hw => ⟨rfl, hw.below⟩) | trace_state
end Go.Proofs.YtncnpmgohhgmfaaDoor
