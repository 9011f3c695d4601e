/- Net. -/
import Derived.Test.YtncnpmgohhgmfaaDoorNl
namespace Go.Proofs.YtncnpmgohhgmfaaDoor
open Go Go.Cx Go.RowKit
set_option linter.unusedVariables false
set_option linter.unusedSimpArgs false
set_option maxHeartbeats 4000000
attribute [local irreducible] J JC thenK blockK loopK roundK drawK retK QW Qt pel List.set Calls
attribute [local irreducible] JE Br eK0 eK2 eK3 brK
theorem eNet : Entr Tryd.prog 23 := Entr.of Tryd.func23 rfl rfl
/-- a net of the call's own -/
structure NetO (a : Option Addr) (c : Nat) (os : List NV) (hO hI : Heap) : Prop where
  ow : OwT encNV 3 40 a c os hO
  ins : ∀ v, v ∈ os → SlT encI 1 v.a v.l hI
  own : ∀ v, v ∈ os → v.l = [] ∨ ∃ g cs, v.a = some ⟨g, 0, none⟩ ∧ (g, Obj.cells ⟨cs⟩ 3 (0, 0)) ∈ hI ∧ v.l.length ≤ cs.length
def netOb (N : Int) (a : Option Addr) (len c : Nat) : Obj := .cells ⟨[.int .i64 N, .slice a len c]⟩ 24 (0, 0)
theorem slT_take {α : Type} {enc : α → List Value} {size : Nat} {a : Option Addr} {ts : List α} {h : Heap} (hs : SlT enc size a ts h) (k : Nat) : SlT enc size a (ts.take k) h := by
  refine ⟨hs.len, fun i hi => ?_⟩
  rw [List.length_take] at hi
  obtain ⟨b, off, cs, e, fr, h1, h2, h3, h4⟩ := hs.at_ i (by omega)
  exact ⟨b, off, cs, e, fr, h1, h2, h3, by rw [h4, List.getElem_take]⟩
theorem take_getD {α : Type} [Inhabited α] (l : List α) (n k : Nat) (h : k < n) : (l.take n).getD k default = l.getD k default := by
  rw [List.getD_eq_getElem?_getD, List.getD_eq_getElem?_getD, List.getElem?_take_of_lt h]
/-- a list of which the first q elements were turned -/
def turn (f : Int → Int) (l : List Int) (q : Nat) : List Int := (l.take q).map f ++ l.drop q
theorem turn_len (f : Int → Int) (l : List Int) (q : Nat) : (turn f l q).length = l.length := by
  unfold turn; rw [List.length_append, List.length_map, ← List.length_append, List.take_append_drop]
theorem turn_getD (f : Int → Int) (l : List Int) (q : Nat) (h : q < l.length) : (turn f l q).getD q default = l.getD q default := by
  unfold turn
  have hl : ((l.take q).map f).length = q := by rw [List.length_map, List.length_take]; omega
  rw [List.getD_eq_getElem?_getD, List.getElem?_append_right (by omega), hl, Nat.sub_self, List.getElem?_drop, List.getD_eq_getElem?_getD]; rfl
theorem turn_set (f : Int → Int) (l : List Int) (q : Nat) (h : q < l.length) : (turn f l q).set q (f (l.getD q default)) = turn f l (q + 1) := by
  unfold turn
  have hl : ((l.take q).map f).length = q := by rw [List.length_map, List.length_take]; omega
  rw [List.set_append_right _ _ (by omega), hl, Nat.sub_self, drop_g l q h, take_g l q h, List.map_append, List.append_assoc, List.set_cons_zero]; rfl
theorem turn_all (f : Int → Int) (l : List Int) : turn f l l.length = l.map f := by
  unfold turn; rw [List.take_length, List.drop_length, List.append_nil]
theorem rk_le (U : List Bool) : ∀ i, 0 ≤ rk U i ∧ rk U i ≤ i
  | 0 => ⟨Int.le_refl 0, Int.le_refl 0⟩
  | i + 1 => by
    have := rk_le U i
    unfold rk b2i
    split <;> omega
theorem mapb_getD (U : List Bool) (k : Nat) : (U.map b2i).getD k default = b2i (U.getD k false) := by
  rw [List.getD_eq_getElem?_getD, List.getD_eq_getElem?_getD, List.getElem?_map]
  cases U[k]? with
  | none => rfl
  | some v => rfl
theorem rep_b2i (n : Nat) : List.replicate n (0 : Int) = (List.replicate n false).map b2i := by rw [List.map_replicate]; rfl
set_option maxHeartbeats 16000000 in
theorem net_any (r : Nat) {w0 w : World} {R : Heap} {L : List Heap} {N : Int} {b cap bm : Nat} {a : Option Addr} {vs : List NV} {ho hi hm : Heap} (hr : r < vs.length) (bs : BS vs a cap bm ho hi hm) (op : OkP (vs.map pnV)) (od : Ord (vs.map pnV)) (hv65 : vs.length ≤ 65536) (hw : H w0 R (bL N b a vs cap bm ho hi hm ++ L) w) :
    Calls Tryd.prog 23 #[.pointer (some ⟨b, 0, none⟩), .int .i64 (r : Int)] w fun e w' => ∃ v' L', e = .returned v' ∧ H w0 R L' w' ∧ ∃ ao co os hO hI, v' = .tuple #[.agg ⟨[.int .i64 N, .slice ao os.length co]⟩, .int .i64 0] ∧ L' = hO :: hI :: (bL N b a vs cap bm ho hi hm ++ L) ∧ NetO ao co os hO hI ∧ os.map pnV = netP (vs.map pnV) r := by
  obtain ⟨ow, ins, mp⟩ := bs
  obtain ⟨okv, rng⟩ := op.okB hv65
  have hcap : vs.length ≤ cap := by
    rcases ow.row with ⟨_, _, h, _⟩ | ⟨g, cs, _, _, _, h, _⟩
    · rw [h] at hr; exact absurd hr (Nat.not_lt_zero _)
    · exact h
  have hvl1 : ∀ v, v ∈ vs → v.l.length ≤ 1000000 := fun v hv => (okv v hv).n
  have hord : ∀ i, i < vs.length → ∀ k, k ∈ (vs.getD i default).l → 0 ≤ k ∧ k < i := fun i hi k hk => od i k (by rw [inP_of]; exact hk)
  have hlA : (List.replicate (r + 1) (0 : Int)).length = r + 1 := List.length_replicate ..
  unfold bL at hw ⊢
  simp only [List.cons_append, List.nil_append] at hw ⊢
  refine calls_in Tryd.func23 Tryd.ntmps23 rfl rfl (hw) ?_
  unfold bO
  repeat' first
    | (refine J.isJ ?_; first | (first | (refine J.o 11 ?_; first | refine J.pN hΓ ?_ | refine J.mN hΓ ?_) | (refine J.o 9 ?_; refine J.make (enc := encI) (m := r + 1) (0 : Int) hΓ rfl rfl rfl rfl rfl rfl (fun _ => rfl) (by omega) (by omega) (fun bA hA oA => ?_); generalize (some (⟨bA, 0, none⟩ : Addr)) = aA at oA ⊢)) | (first | (refine J.o 0 ?_; refine J.ev' hΓ ?_) | refine J.nil ?_ | refine J.kd ?_ | (refine J.o 4 ?_; first | refine J.e0 hΓ ?_ | refine J.e1 hΓ ?_ | refine J.e2 hΓ ?_ | refine J.lT default hΓ ?_ | refine J.lR hΓ ?_) | (refine J.o 3 ?_; first | refine J.iJ hΓ ?_ | refine J.fP hΓ ?_ | refine J.iC hΓ ?_ | refine J.ev' hΓ ?_) | (refine J.o 1 ?_; first | refine J.ad ?_ | refine J.sb ?_ | refine J.ng ?_) | (refine J.o 5 ?_; first | refine J.t0 hΓ ?_ | refine J.t1 hΓ ?_ | refine J.t2 hΓ ?_ | refine J.tT _ default hΓ (fun _ _ => ?_) | refine J.tT1 _ default hΓ (fun _ _ => ?_) | refine J.tT2 _ default hΓ (fun _ _ => ?_)) | (refine J.o 6 ?_; refine J.bx (fun _ => ?_)) | (refine J.o 7 ?_; refine J.al hΓ (fun _ => ?_)) | (refine J.o 8 ?_; refine J.bd hΓ ?_) | (refine J.o 9 ?_; refine J.bl hΓ (fun _ => ?_)) | (refine J.o 10 ?_; refine J.ev' hΓ ?_) | (refine J.o 11 ?_; refine J.ev' hΓ ?_) | refine J.kn ?_) | ((fail_if_success refine J.wt ?_); refine J.gc rfl rfl (fun hc => ?_) (fun hc => ?_) <;> ((try simp only [decide_eq_true_eq, decide_eq_false_iff_not, beq_iff_eq, beq_eq_false_iff_ne, bne_iff_ne, bne_eq_false_iff_eq, Bool.not_eq_true', Bool.not_eq_false', Bool.not_eq_true, Bool.not_eq_false] at hc) <;> first | (first | (exact absurd rfl hc) | (exfalso; omega) | (exact absurd (hc.symm.trans (by assumption : _ = false)) (by decide)) | (exact absurd (hc.symm.trans (by assumption : _ = true)) (by decide))) | skip)))
    | (first | refine JC.seq ?_ | refine JC.region ?_ | refine JC.block ?_ | refine JC.ret ?_ | refine JC.exit ?_ | refine JC.skip ?_ | refine thenK.nn ?_ | refine thenK.r ?_ | refine thenK.x ?_ | refine blockK.nn ?_ | refine blockK.r ?_ | refine blockK.hit rfl ?_ | refine blockK.miss rfl ?_ | refine JC.condT rfl ?_ | refine JC.condF rfl ?_ | (refine JC.cond rfl (fun hc => ?_) (fun hc => ?_) <;> ((try simp only [decide_eq_true_eq, decide_eq_false_iff_not, beq_iff_eq, beq_eq_false_iff_ne, bne_iff_ne, bne_eq_false_iff_eq, Bool.not_eq_true', Bool.not_eq_false', Bool.not_eq_true, Bool.not_eq_false] at hc) <;> first | (first | (exact absurd rfl hc) | (exfalso; omega) | (exact absurd (hc.symm.trans (by assumption : _ = false)) (by decide)) | (exact absurd (hc.symm.trans (by assumption : _ = true)) (by decide))) | skip)) | refine drawK.nn ?_ | refine roundK.nn ?_ | refine roundK.r ?_ | refine roundK.x ?_ | refine loopK.r ?_ | refine loopK.x ?_)
    | ((refine JC.drawN [] [] (by kernel_rfl) (by kernel_rfl) ?_))
    | fail
  all_goals first | (exfalso; omega) | skip
  rename_i n4 hA2 oA
  rw [rep_b2i, ← show b2i true = 1 from rfl, ← List.map_set] at oA
  have hcl : ∀ i, i < r + 1 → (markN (vs.map pnV) r (r + 1)).getD i false = true → ∀ k, k ∈ inP (vs.map pnV) i → (markN (vs.map pnV) r (r + 1)).getD k.toNat false = true := mk_closed od (r + 1) ((List.replicate (r + 1) false).set r true) (by simp)
  have hPn : netP (vs.map pnV) r = netTo (vs.map pnV) (markN (vs.map pnV) r (r + 1)) (r + 1) := rfl
  rw [hPn]
  generalize hF : markN (vs.map pnV) r (r + 1) = F at *
  refine JC.gen [(0, .pointer (some ⟨b, 0, none⟩)), (1, .int .i64 (r : Int)), (4, .pointer (some ⟨n4, 0, none⟩)), (6, .slice aA (r + 1) (r + 1)), (7, .int .i64 (r : Int))] ⟨rfl, rfl, rfl, rfl, rfl, trivial⟩ (fun F0 => ?_)
  refine JC.loop (fun i => i == 5 || i == 7 || i == 9 || Nat.ble 10 i) (fun m g L' => ∃ (U : List Bool) (hA : Heap), g 7 = .int .i64 ((m : Int) - 1) ∧ m ≤ r + 1 ∧ U.length = r + 1 ∧ mk (vs.map pnV) m U = F ∧ OwT encI 1 3 aA (r + 1) (U.map b2i) hA ∧ L' = hA :: [(n4, netOb 0 none 0 0)] :: [(b, bO N a vs.length cap bm)] :: ho :: hi :: hm :: L) (r + 1) ⟨_, hA2, ?_, Nat.le_refl _, ?_, hF, oA, rfl⟩ ?_
  · show Value.int .i64 _ = _; congr 1; omega
  · rw [List.length_set, List.length_replicate]
  rintro m g L' ⟨U, hA, e7, hmr, hUl, hU, oA, rfl⟩
  unfold netOb bO
  rcases Nat.eq_zero_or_pos m with hm0 | hm0
  case inl =>
    subst hm0
    refine JC.pin 7 e7 ?_
    clear e7
    have hU : U = F := hU
    subst hU
    have ow3 : SlT encNV 3 a (vs.take (r + 1)) ho := slT_take ow.sl (r + 1)
    have hl3 : (vs.take (r + 1)).length = r + 1 := by rw [List.length_take]; omega
    repeat' first
      | (refine J.isJ ?_; first | (first | (refine J.o 4 ?_; first | refine J.e3 hΓ ?_ | refine J.e4 hΓ ?_) | (refine J.o 13 ?_; refine J.slF (m := r + 1) hΓ ?_)) | (first | (refine J.o 0 ?_; refine J.ev' hΓ ?_) | refine J.nil ?_ | refine J.kd ?_ | (refine J.o 4 ?_; first | refine J.e0 hΓ ?_ | refine J.e1 hΓ ?_ | refine J.e2 hΓ ?_ | refine J.lT default hΓ ?_ | refine J.lR hΓ ?_) | (refine J.o 3 ?_; first | refine J.iJ hΓ ?_ | refine J.fP hΓ ?_ | refine J.iC hΓ ?_ | refine J.ev' hΓ ?_) | (refine J.o 1 ?_; first | refine J.ad ?_ | refine J.sb ?_ | refine J.ng ?_) | (refine J.o 5 ?_; first | refine J.t0 hΓ ?_ | refine J.t1 hΓ ?_ | refine J.t2 hΓ ?_ | refine J.tT _ default hΓ (fun _ _ => ?_) | refine J.tT1 _ default hΓ (fun _ _ => ?_) | refine J.tT2 _ default hΓ (fun _ _ => ?_)) | (refine J.o 6 ?_; refine J.bx (fun _ => ?_)) | (refine J.o 7 ?_; refine J.al hΓ (fun _ => ?_)) | (refine J.o 8 ?_; refine J.bd hΓ ?_) | (refine J.o 9 ?_; refine J.bl hΓ (fun _ => ?_)) | (refine J.o 10 ?_; refine J.ev' hΓ ?_) | (refine J.o 11 ?_; refine J.ev' hΓ ?_) | refine J.kn ?_) | ((fail_if_success refine J.wt ?_); refine J.gc rfl rfl (fun hc => ?_) (fun hc => ?_) <;> ((try simp only [decide_eq_true_eq, decide_eq_false_iff_not, beq_iff_eq, beq_eq_false_iff_ne, bne_iff_ne, bne_eq_false_iff_eq, Bool.not_eq_true', Bool.not_eq_false', Bool.not_eq_true, Bool.not_eq_false] at hc) <;> first | (first | (exact absurd rfl hc) | (exfalso; omega) | (exact absurd (hc.symm.trans (by assumption : _ = false)) (by decide)) | (exact absurd (hc.symm.trans (by assumption : _ = true)) (by decide))) | skip)))
      | (first | refine JC.seq ?_ | refine JC.region ?_ | refine JC.block ?_ | refine JC.ret ?_ | refine JC.exit ?_ | refine JC.skip ?_ | refine thenK.nn ?_ | refine thenK.r ?_ | refine thenK.x ?_ | refine blockK.nn ?_ | refine blockK.r ?_ | refine blockK.hit rfl ?_ | refine blockK.miss rfl ?_ | refine JC.condT rfl ?_ | refine JC.condF rfl ?_ | (refine JC.cond rfl (fun hc => ?_) (fun hc => ?_) <;> ((try simp only [decide_eq_true_eq, decide_eq_false_iff_not, beq_iff_eq, beq_eq_false_iff_ne, bne_iff_ne, bne_eq_false_iff_eq, Bool.not_eq_true', Bool.not_eq_false', Bool.not_eq_true, Bool.not_eq_false] at hc) <;> first | (first | (exact absurd rfl hc) | (exfalso; omega) | (exact absurd (hc.symm.trans (by assumption : _ = false)) (by decide)) | (exact absurd (hc.symm.trans (by assumption : _ = true)) (by decide))) | skip)) | refine drawK.nn ?_ | refine roundK.nn ?_ | refine roundK.r ?_ | refine roundK.x ?_ | refine loopK.r ?_ | refine loopK.x ?_)
      | (fail)
      | fail
    all_goals first | (exfalso; omega) | skip
    rename_i n10
    refine JC.weak (L' := hA :: [(n10, netOb N none 0 0)] :: [] :: [] :: [(n4, netOb 0 none 0 0)] :: [(b, bO N a vs.length cap bm)] :: ho :: hi :: hm :: L) (fun w hw => H.sel (l := [_, _, _, _]) (M := [(n4, netOb 0 none 0 0)] :: [(b, bO N a vs.length cap bm)] :: ho :: hi :: hm :: L) hw.nilF.nilF [3, 2, 0, 1]) ?_
    refine JC.gen [(0, .pointer (some ⟨b, 0, none⟩)), (1, .int .i64 (r : Int)), (4, .pointer (some ⟨n4, 0, none⟩)), (6, .slice aA (r + 1) (r + 1)), (10, .pointer (some ⟨n10, 0, none⟩)), (82, .slice a (r + 1) cap), (83, .int .i64 ((r + 1 : Nat) : Int)), (84, .int .i64 0)] ⟨rfl, rfl, rfl, rfl, rfl, rfl, rfl, rfl, trivial⟩ (fun F1 => ?_)
    refine JC.loopG (fun i => i == 5 || i == 11 || i == 12 || i == 13 || Nat.ble 84 i) (fun m g L' => ∃ (k : Nat) (ts : List Int) (hA : Heap) (ao : Option Addr) (co : Nat) (os : List NV) (hO hI : Heap), g 84 = .int .i64 (k : Int) ∧ k + m = r + 1 ∧ OwT encI 1 3 aA (r + 1) ts hA ∧ ts.length = r + 1 ∧ (∀ j, j < r + 1 → ts.getD j default = if j < k then (if U.getD j false = true then rk U j else 0) else b2i (U.getD j false)) ∧ NetO ao co os hO hI ∧ os.map pnV = netTo (vs.map pnV) U k ∧ L' = hA :: [(n10, netOb N ao os.length co)] :: hO :: hI :: [(n4, netOb 0 none 0 0)] :: [(b, bO N a vs.length cap bm)] :: ho :: hi :: hm :: L) (r + 1) ⟨0, U.map b2i, hA, none, 0, [], [], [], rfl, by omega, oA, by rw [List.length_map]; exact hUl, fun j hj => by rw [if_neg (Nat.not_lt_zero _)]; exact mapb_getD U j, ⟨OwT.nil (fun _ => rfl), fun v hv => absurd hv List.not_mem_nil, fun v hv => absurd hv List.not_mem_nil⟩, rfl, rfl⟩ ?_
    clear oA
    rintro m g L' ⟨k, ts, hA, ao, co, os, hO, hI, e84, hkm, oA, htl, hts, no, hos, rfl⟩
    refine JC.pin 84 e84 ?_
    clear e84
    unfold netOb bO
    have hlen := netTo_len (vs.map pnV) U k
    rw [← hos, List.length_map] at hlen
    have hrk := rk_le U k
    have hol : os.length ≤ 65536 := by omega
    rcases Nat.lt_or_ge k (r + 1) with hk | hk
    case inr =>
      have hkr : k = r + 1 := by omega
      subst hkr
      repeat' first
        | (refine J.isJ ?_; first | ((refine J.o 5 ?_; first | (refine J.perm br3 ?_; refine J.t0 hΓ ?_) | (refine J.perm br4 ?_; refine J.t0 hΓ ?_) | (refine J.perm br5 ?_; refine J.t0 hΓ ?_) | (refine J.perm br6 ?_; refine J.t0 hΓ ?_) | (refine J.perm br7 ?_; refine J.t0 hΓ ?_))) | (first | (refine J.o 0 ?_; refine J.ev' hΓ ?_) | refine J.nil ?_ | refine J.kd ?_ | (refine J.o 4 ?_; first | refine J.e0 hΓ ?_ | refine J.e1 hΓ ?_ | refine J.e2 hΓ ?_ | refine J.lT default hΓ ?_ | refine J.lR hΓ ?_) | (refine J.o 3 ?_; first | refine J.iJ hΓ ?_ | refine J.fP hΓ ?_ | refine J.iC hΓ ?_ | refine J.ev' hΓ ?_) | (refine J.o 1 ?_; first | refine J.ad ?_ | refine J.sb ?_ | refine J.ng ?_) | (refine J.o 5 ?_; first | refine J.t0 hΓ ?_ | refine J.t1 hΓ ?_ | refine J.t2 hΓ ?_ | refine J.tT _ default hΓ (fun _ _ => ?_) | refine J.tT1 _ default hΓ (fun _ _ => ?_) | refine J.tT2 _ default hΓ (fun _ _ => ?_)) | (refine J.o 6 ?_; refine J.bx (fun _ => ?_)) | (refine J.o 7 ?_; refine J.al hΓ (fun _ => ?_)) | (refine J.o 8 ?_; refine J.bd hΓ ?_) | (refine J.o 9 ?_; refine J.bl hΓ (fun _ => ?_)) | (refine J.o 10 ?_; refine J.ev' hΓ ?_) | (refine J.o 11 ?_; refine J.ev' hΓ ?_) | refine J.kn ?_) | ((fail_if_success refine J.wt ?_); refine J.gc rfl rfl (fun hc => ?_) (fun hc => ?_) <;> ((try simp only [decide_eq_true_eq, decide_eq_false_iff_not, beq_iff_eq, beq_eq_false_iff_ne, bne_iff_ne, bne_eq_false_iff_eq, Bool.not_eq_true', Bool.not_eq_false', Bool.not_eq_true, Bool.not_eq_false] at hc) <;> first | (first | (exact absurd rfl hc) | (exfalso; omega) | (exact absurd (hc.symm.trans (by assumption : _ = false)) (by decide)) | (exact absurd (hc.symm.trans (by assumption : _ = true)) (by decide))) | skip)))
        | (first | refine JC.seq ?_ | refine JC.region ?_ | refine JC.block ?_ | refine JC.ret ?_ | refine JC.exit ?_ | refine JC.skip ?_ | refine thenK.nn ?_ | refine thenK.r ?_ | refine thenK.x ?_ | refine blockK.nn ?_ | refine blockK.r ?_ | refine blockK.hit rfl ?_ | refine blockK.miss rfl ?_ | refine JC.condT rfl ?_ | refine JC.condF rfl ?_ | (refine JC.cond rfl (fun hc => ?_) (fun hc => ?_) <;> ((try simp only [decide_eq_true_eq, decide_eq_false_iff_not, beq_iff_eq, beq_eq_false_iff_ne, bne_iff_ne, bne_eq_false_iff_eq, Bool.not_eq_true', Bool.not_eq_false', Bool.not_eq_true, Bool.not_eq_false] at hc) <;> first | (first | (exact absurd rfl hc) | (exfalso; omega) | (exact absurd (hc.symm.trans (by assumption : _ = false)) (by decide)) | (exact absurd (hc.symm.trans (by assumption : _ = true)) (by decide))) | skip)) | refine drawK.nn ?_ | refine roundK.nn ?_ | refine roundK.r ?_ | refine roundK.x ?_ | refine loopK.r ?_ | refine loopK.x ?_)
        | (fail)
        | fail
      all_goals first | (exfalso; omega) | skip
      exact retCS hΓ rfl rfl rfl rfl Rd.hd rfl rfl (fun w1 hw => ⟨_, _, rfl, H.sel (l := [_, _, _, _, _, _, _, _, _]) (M := L) hw [3, 4, 5, 6, 7, 8], ao, co, os, hO, hI, rfl, rfl, no, hos⟩)
    have hkv : k < vs.length := by omega
    have hmk := mem_g vs k hkv
    have hgt := take_getD vs (r + 1) k hk
    have htk := hts k hk
    rw [if_neg (Nat.lt_irrefl k)] at htk
    have hnst : netTo (vs.map pnV) U (k + 1) = netTo (vs.map pnV) U k ++ (if U.getD k false = true then [((vs.getD k default).kind, (vs.getD k default).lit, (vs.getD k default).l.map fun q => rk U q.toNat)] else []) := by
      show netTo (vs.map pnV) U k ++ _ = _
      rw [kindP_of, litP_of, inP_of]
    cases hUk : U.getD k false with
    | false =>
      rw [hUk] at htk hnst
      rw [if_neg (by decide), List.append_nil] at hnst
      repeat' first
        | (refine J.isJ ?_; first | (first | (refine J.o 4 ?_; first | refine J.e3 hΓ ?_ | refine J.e4 hΓ ?_) | (refine J.o 4 ?_; first | (refine J.lT default hΓ ?_ (hs := ow3) (hr := RdH.hd.tl.tl.tl.tl.tl.tl); rw [hgt]) | (refine J.lT default hΓ ?_ (hs := oA.sl) (hr := RdH.hd.tl); rw [htk]))) | (first | (refine J.o 0 ?_; refine J.ev' hΓ ?_) | refine J.nil ?_ | refine J.kd ?_ | (refine J.o 4 ?_; first | refine J.e0 hΓ ?_ | refine J.e1 hΓ ?_ | refine J.e2 hΓ ?_ | refine J.lT default hΓ ?_ | refine J.lR hΓ ?_) | (refine J.o 3 ?_; first | refine J.iJ hΓ ?_ | refine J.fP hΓ ?_ | refine J.iC hΓ ?_ | refine J.ev' hΓ ?_) | (refine J.o 1 ?_; first | refine J.ad ?_ | refine J.sb ?_ | refine J.ng ?_) | (refine J.o 5 ?_; first | refine J.t0 hΓ ?_ | refine J.t1 hΓ ?_ | refine J.t2 hΓ ?_ | refine J.tT _ default hΓ (fun _ _ => ?_) | refine J.tT1 _ default hΓ (fun _ _ => ?_) | refine J.tT2 _ default hΓ (fun _ _ => ?_)) | (refine J.o 6 ?_; refine J.bx (fun _ => ?_)) | (refine J.o 7 ?_; refine J.al hΓ (fun _ => ?_)) | (refine J.o 8 ?_; refine J.bd hΓ ?_) | (refine J.o 9 ?_; refine J.bl hΓ (fun _ => ?_)) | (refine J.o 10 ?_; refine J.ev' hΓ ?_) | (refine J.o 11 ?_; refine J.ev' hΓ ?_) | refine J.kn ?_) | ((fail_if_success refine J.wt ?_); refine J.gc rfl rfl (fun hc => ?_) (fun hc => ?_) <;> ((try simp only [decide_eq_true_eq, decide_eq_false_iff_not, beq_iff_eq, beq_eq_false_iff_ne, bne_iff_ne, bne_eq_false_iff_eq, Bool.not_eq_true', Bool.not_eq_false', Bool.not_eq_true, Bool.not_eq_false] at hc) <;> first | (first | (exact absurd rfl hc) | (exfalso; omega) | (exact absurd (hc.symm.trans (by assumption : _ = false)) (by decide)) | (exact absurd (hc.symm.trans (by assumption : _ = true)) (by decide))) | skip)))
        | (first | refine JC.seq ?_ | refine JC.region ?_ | refine JC.block ?_ | refine JC.ret ?_ | refine JC.exit ?_ | refine JC.skip ?_ | refine thenK.nn ?_ | refine thenK.r ?_ | refine thenK.x ?_ | refine blockK.nn ?_ | refine blockK.r ?_ | refine blockK.hit rfl ?_ | refine blockK.miss rfl ?_ | refine JC.condT rfl ?_ | refine JC.condF rfl ?_ | (refine JC.cond rfl (fun hc => ?_) (fun hc => ?_) <;> ((try simp only [decide_eq_true_eq, decide_eq_false_iff_not, beq_iff_eq, beq_eq_false_iff_ne, bne_iff_ne, bne_eq_false_iff_eq, Bool.not_eq_true', Bool.not_eq_false', Bool.not_eq_true, Bool.not_eq_false] at hc) <;> first | (first | (exact absurd rfl hc) | (exfalso; omega) | (exact absurd (hc.symm.trans (by assumption : _ = false)) (by decide)) | (exact absurd (hc.symm.trans (by assumption : _ = true)) (by decide))) | skip)) | refine drawK.nn ?_ | refine roundK.nn ?_ | refine roundK.r ?_ | refine roundK.x ?_ | refine loopK.r ?_ | refine loopK.x ?_)
        | (fail)
        | fail
      all_goals first | (exfalso; omega) | skip
      refine loopK.nn (m - 1) (by omega) (by repeat (first | refine Ag.upd rfl ?_ | exact Ag.hv)) ⟨_, ⟨k + 1, ts, hA, ao, co, os, hO, hI, ?_, by omega, oA, htl, fun j hj => ?_, no, by rw [hnst]; exact hos, rfl⟩, fun w hw => hw.drop⟩
      · show Value.int .i64 _ = _; congr 1
      · by_cases hjk : j = k
        · subst hjk
          rw [htk, hUk, if_pos (by omega), if_neg (by decide)]; rfl
        · rw [hts j hj]
          by_cases hlt : j < k
          · rw [if_pos hlt, if_pos (show j < k + 1 by omega)]
          · rw [if_neg hlt, if_neg (show ¬ j < k + 1 by omega)]
    | true =>
      rw [hUk] at htk hnst
      rw [if_pos rfl] at hnst
      have hVl := hvl1 _ hmk
      have hVs := ins _ hmk
      have hVo := hord k hkv
      obtain ⟨noo, noi, noo2⟩ := no
      repeat' first
        | (refine J.isJ ?_; first | (first | (refine J.o 4 ?_; first | refine J.e3 hΓ ?_ | refine J.e4 hΓ ?_) | (refine J.o 4 ?_; first | (refine J.lT default hΓ ?_ (hs := ow3) (hr := RdH.hd.tl.tl.tl.tl.tl.tl); rw [hgt]) | (refine J.lT default hΓ ?_ (hs := oA.sl) (hr := RdH.hd.tl); rw [htk])) | (refine J.fc 39 ?_; refine J.call1 eClone rfl rfl (fun w hw => clone_any (vs.getD k default).a (vs.getD k default).c (vs.getD k default).l hi hVs hVl w (hw.rdH RdH.hd.tl.tl.tl.tl.tl.tl.tl.tl)) ?_; rintro _ hc ⟨ac, cc, rfl, oc⟩)) | (first | (refine J.o 0 ?_; refine J.ev' hΓ ?_) | refine J.nil ?_ | refine J.kd ?_ | (refine J.o 4 ?_; first | refine J.e0 hΓ ?_ | refine J.e1 hΓ ?_ | refine J.e2 hΓ ?_ | refine J.lT default hΓ ?_ | refine J.lR hΓ ?_) | (refine J.o 3 ?_; first | refine J.iJ hΓ ?_ | refine J.fP hΓ ?_ | refine J.iC hΓ ?_ | refine J.ev' hΓ ?_) | (refine J.o 1 ?_; first | refine J.ad ?_ | refine J.sb ?_ | refine J.ng ?_) | (refine J.o 5 ?_; first | refine J.t0 hΓ ?_ | refine J.t1 hΓ ?_ | refine J.t2 hΓ ?_ | refine J.tT _ default hΓ (fun _ _ => ?_) | refine J.tT1 _ default hΓ (fun _ _ => ?_) | refine J.tT2 _ default hΓ (fun _ _ => ?_)) | (refine J.o 6 ?_; refine J.bx (fun _ => ?_)) | (refine J.o 7 ?_; refine J.al hΓ (fun _ => ?_)) | (refine J.o 8 ?_; refine J.bd hΓ ?_) | (refine J.o 9 ?_; refine J.bl hΓ (fun _ => ?_)) | (refine J.o 10 ?_; refine J.ev' hΓ ?_) | (refine J.o 11 ?_; refine J.ev' hΓ ?_) | refine J.kn ?_) | ((fail_if_success refine J.wt ?_); refine J.gc rfl rfl (fun hc => ?_) (fun hc => ?_) <;> ((try simp only [decide_eq_true_eq, decide_eq_false_iff_not, beq_iff_eq, beq_eq_false_iff_ne, bne_iff_ne, bne_eq_false_iff_eq, Bool.not_eq_true', Bool.not_eq_false', Bool.not_eq_true, Bool.not_eq_false] at hc) <;> first | (first | (exact absurd rfl hc) | (exfalso; omega) | (exact absurd (hc.symm.trans (by assumption : _ = false)) (by decide)) | (exact absurd (hc.symm.trans (by assumption : _ = true)) (by decide))) | skip)))
        | (first | refine JC.seq ?_ | refine JC.region ?_ | refine JC.block ?_ | refine JC.ret ?_ | refine JC.exit ?_ | refine JC.skip ?_ | refine thenK.nn ?_ | refine thenK.r ?_ | refine thenK.x ?_ | refine blockK.nn ?_ | refine blockK.r ?_ | refine blockK.hit rfl ?_ | refine blockK.miss rfl ?_ | refine JC.condT rfl ?_ | refine JC.condF rfl ?_ | (refine JC.cond rfl (fun hc => ?_) (fun hc => ?_) <;> ((try simp only [decide_eq_true_eq, decide_eq_false_iff_not, beq_iff_eq, beq_eq_false_iff_ne, bne_iff_ne, bne_eq_false_iff_eq, Bool.not_eq_true', Bool.not_eq_false', Bool.not_eq_true, Bool.not_eq_false] at hc) <;> first | (first | (exact absurd rfl hc) | (exfalso; omega) | (exact absurd (hc.symm.trans (by assumption : _ = false)) (by decide)) | (exact absurd (hc.symm.trans (by assumption : _ = true)) (by decide))) | skip)) | refine drawK.nn ?_ | refine roundK.nn ?_ | refine roundK.r ?_ | refine roundK.x ?_ | refine loopK.r ?_ | refine loopK.x ?_)
        | (fail)
        | fail
      all_goals first | (exfalso; omega) | skip
      rename_i n12
      refine JC.loop (fun i => i == 13 || Nat.ble 101 i) (fun m g L' => ∃ (q : Nat) (hc : Heap), g 101 = .int .i64 (q : Int) ∧ q + m = (vs.getD k default).l.length ∧ OwT encI 1 3 ac cc (turn (fun q => rk U q.toNat) (vs.getD k default).l q) hc ∧ L' = hc :: [(n12, .cells ⟨[.int .i64 (vs.getD k default).kind, .int .i64 (vs.getD k default).lit, .slice ac (vs.getD k default).l.length cc]⟩ 40 (0, 0))] :: hA :: [(n10, netOb N ao os.length co)] :: hO :: hI :: [(n4, netOb 0 none 0 0)] :: [(b, bO N a vs.length cap bm)] :: ho :: hi :: hm :: L) (vs.getD k default).l.length ⟨0, hc, rfl, by omega, oc, rfl⟩ ?_
      clear oc
      rintro m2 g2 L' ⟨q, hK, e101, hqm, oc, rfl⟩
      refine JC.pin 101 e101 ?_
      clear e101
      unfold netOb bO
      have hl4 := turn_len (fun q => rk U q.toNat) (vs.getD k default).l q
      rcases Nat.lt_or_ge q (vs.getD k default).l.length with hq | hq
      case inr =>
        have hqe : q = (vs.getD k default).l.length := by omega
        rw [hqe, turn_all] at oc
        have hus1 : ([⟨(vs.getD k default).kind, (vs.getD k default).lit, ac, cc, (vs.getD k default).l.map fun q => rk U q.toNat⟩] : List NV).flatMap encNV = [.int .i64 (vs.getD k default).kind, .int .i64 (vs.getD k default).lit, .slice ac (vs.getD k default).l.length cc] := by
          show encNV _ ++ [] = _
          unfold encNV
          simp only [List.length_map, List.append_nil]
        repeat' first
          | (refine J.isJ ?_; first | (first | (refine J.o 4 ?_; first | refine J.e3 hΓ ?_ | refine J.e4 hΓ ?_) | (refine J.o 5 ?_; first | (refine J.perm br3 ?_; refine J.t0 hΓ ?_) | (refine J.perm br4 ?_; refine J.t0 hΓ ?_) | (refine J.perm br5 ?_; refine J.t0 hΓ ?_) | (refine J.perm br6 ?_; refine J.t0 hΓ ?_) | (refine J.perm br7 ?_; refine J.t0 hΓ ?_)) | (refine J.o 9 ?_; first | (first | (refine J.ap1 (enc := encNV) [⟨(vs.getD k default).kind, (vs.getD k default).lit, ac, cc, (vs.getD k default).l.map fun q => rk U q.toNat⟩] hΓ (fun a2 c2 h2 o2 => ?_) (hus := hus1)) | (refine J.perm (br1.cons _) ?_; refine J.ap1 (enc := encNV) [⟨(vs.getD k default).kind, (vs.getD k default).lit, ac, cc, (vs.getD k default).l.map fun q => rk U q.toNat⟩] hΓ (fun a2 c2 h2 o2 => ?_) (hus := hus1)) | (refine J.perm (br2.cons _) ?_; refine J.ap1 (enc := encNV) [⟨(vs.getD k default).kind, (vs.getD k default).lit, ac, cc, (vs.getD k default).l.map fun q => rk U q.toNat⟩] hΓ (fun a2 c2 h2 o2 => ?_) (hus := hus1)) | (refine J.perm (br3.cons _) ?_; refine J.ap1 (enc := encNV) [⟨(vs.getD k default).kind, (vs.getD k default).lit, ac, cc, (vs.getD k default).l.map fun q => rk U q.toNat⟩] hΓ (fun a2 c2 h2 o2 => ?_) (hus := hus1)) | (refine J.perm (br4.cons _) ?_; refine J.ap1 (enc := encNV) [⟨(vs.getD k default).kind, (vs.getD k default).lit, ac, cc, (vs.getD k default).l.map fun q => rk U q.toNat⟩] hΓ (fun a2 c2 h2 o2 => ?_) (hus := hus1)) | (refine J.perm (br5.cons _) ?_; refine J.ap1 (enc := encNV) [⟨(vs.getD k default).kind, (vs.getD k default).lit, ac, cc, (vs.getD k default).l.map fun q => rk U q.toNat⟩] hΓ (fun a2 c2 h2 o2 => ?_) (hus := hus1))) | (refine J.perm br1 ?_; first | (refine J.ap1 (enc := encNV) [⟨(vs.getD k default).kind, (vs.getD k default).lit, ac, cc, (vs.getD k default).l.map fun q => rk U q.toNat⟩] hΓ (fun a2 c2 h2 o2 => ?_) (hus := hus1)) | (refine J.perm (br1.cons _) ?_; refine J.ap1 (enc := encNV) [⟨(vs.getD k default).kind, (vs.getD k default).lit, ac, cc, (vs.getD k default).l.map fun q => rk U q.toNat⟩] hΓ (fun a2 c2 h2 o2 => ?_) (hus := hus1)) | (refine J.perm (br2.cons _) ?_; refine J.ap1 (enc := encNV) [⟨(vs.getD k default).kind, (vs.getD k default).lit, ac, cc, (vs.getD k default).l.map fun q => rk U q.toNat⟩] hΓ (fun a2 c2 h2 o2 => ?_) (hus := hus1)) | (refine J.perm (br3.cons _) ?_; refine J.ap1 (enc := encNV) [⟨(vs.getD k default).kind, (vs.getD k default).lit, ac, cc, (vs.getD k default).l.map fun q => rk U q.toNat⟩] hΓ (fun a2 c2 h2 o2 => ?_) (hus := hus1)) | (refine J.perm (br4.cons _) ?_; refine J.ap1 (enc := encNV) [⟨(vs.getD k default).kind, (vs.getD k default).lit, ac, cc, (vs.getD k default).l.map fun q => rk U q.toNat⟩] hΓ (fun a2 c2 h2 o2 => ?_) (hus := hus1)) | (refine J.perm (br5.cons _) ?_; refine J.ap1 (enc := encNV) [⟨(vs.getD k default).kind, (vs.getD k default).lit, ac, cc, (vs.getD k default).l.map fun q => rk U q.toNat⟩] hΓ (fun a2 c2 h2 o2 => ?_) (hus := hus1))) | (refine J.perm br2 ?_; first | (refine J.ap1 (enc := encNV) [⟨(vs.getD k default).kind, (vs.getD k default).lit, ac, cc, (vs.getD k default).l.map fun q => rk U q.toNat⟩] hΓ (fun a2 c2 h2 o2 => ?_) (hus := hus1)) | (refine J.perm (br1.cons _) ?_; refine J.ap1 (enc := encNV) [⟨(vs.getD k default).kind, (vs.getD k default).lit, ac, cc, (vs.getD k default).l.map fun q => rk U q.toNat⟩] hΓ (fun a2 c2 h2 o2 => ?_) (hus := hus1)) | (refine J.perm (br2.cons _) ?_; refine J.ap1 (enc := encNV) [⟨(vs.getD k default).kind, (vs.getD k default).lit, ac, cc, (vs.getD k default).l.map fun q => rk U q.toNat⟩] hΓ (fun a2 c2 h2 o2 => ?_) (hus := hus1)) | (refine J.perm (br3.cons _) ?_; refine J.ap1 (enc := encNV) [⟨(vs.getD k default).kind, (vs.getD k default).lit, ac, cc, (vs.getD k default).l.map fun q => rk U q.toNat⟩] hΓ (fun a2 c2 h2 o2 => ?_) (hus := hus1)) | (refine J.perm (br4.cons _) ?_; refine J.ap1 (enc := encNV) [⟨(vs.getD k default).kind, (vs.getD k default).lit, ac, cc, (vs.getD k default).l.map fun q => rk U q.toNat⟩] hΓ (fun a2 c2 h2 o2 => ?_) (hus := hus1)) | (refine J.perm (br5.cons _) ?_; refine J.ap1 (enc := encNV) [⟨(vs.getD k default).kind, (vs.getD k default).lit, ac, cc, (vs.getD k default).l.map fun q => rk U q.toNat⟩] hΓ (fun a2 c2 h2 o2 => ?_) (hus := hus1))))) | (first | (refine J.o 0 ?_; refine J.ev' hΓ ?_) | refine J.nil ?_ | refine J.kd ?_ | (refine J.o 4 ?_; first | refine J.e0 hΓ ?_ | refine J.e1 hΓ ?_ | refine J.e2 hΓ ?_ | refine J.lT default hΓ ?_ | refine J.lR hΓ ?_) | (refine J.o 3 ?_; first | refine J.iJ hΓ ?_ | refine J.fP hΓ ?_ | refine J.iC hΓ ?_ | refine J.ev' hΓ ?_) | (refine J.o 1 ?_; first | refine J.ad ?_ | refine J.sb ?_ | refine J.ng ?_) | (refine J.o 5 ?_; first | refine J.t0 hΓ ?_ | refine J.t1 hΓ ?_ | refine J.t2 hΓ ?_ | refine J.tT _ default hΓ (fun _ _ => ?_) | refine J.tT1 _ default hΓ (fun _ _ => ?_) | refine J.tT2 _ default hΓ (fun _ _ => ?_)) | (refine J.o 6 ?_; refine J.bx (fun _ => ?_)) | (refine J.o 7 ?_; refine J.al hΓ (fun _ => ?_)) | (refine J.o 8 ?_; refine J.bd hΓ ?_) | (refine J.o 9 ?_; refine J.bl hΓ (fun _ => ?_)) | (refine J.o 10 ?_; refine J.ev' hΓ ?_) | (refine J.o 11 ?_; refine J.ev' hΓ ?_) | refine J.kn ?_) | ((fail_if_success refine J.wt ?_); refine J.gc rfl rfl (fun hc => ?_) (fun hc => ?_) <;> ((try simp only [decide_eq_true_eq, decide_eq_false_iff_not, beq_iff_eq, beq_eq_false_iff_ne, bne_iff_ne, bne_eq_false_iff_eq, Bool.not_eq_true', Bool.not_eq_false', Bool.not_eq_true, Bool.not_eq_false] at hc) <;> first | (first | (exact absurd rfl hc) | (exfalso; omega) | (exact absurd (hc.symm.trans (by assumption : _ = false)) (by decide)) | (exact absurd (hc.symm.trans (by assumption : _ = true)) (by decide))) | skip)))
          | (first | refine JC.seq ?_ | refine JC.region ?_ | refine JC.block ?_ | refine JC.ret ?_ | refine JC.exit ?_ | refine JC.skip ?_ | refine thenK.nn ?_ | refine thenK.r ?_ | refine thenK.x ?_ | refine blockK.nn ?_ | refine blockK.r ?_ | refine blockK.hit rfl ?_ | refine blockK.miss rfl ?_ | refine JC.condT rfl ?_ | refine JC.condF rfl ?_ | (refine JC.cond rfl (fun hc => ?_) (fun hc => ?_) <;> ((try simp only [decide_eq_true_eq, decide_eq_false_iff_not, beq_iff_eq, beq_eq_false_iff_ne, bne_iff_ne, bne_eq_false_iff_eq, Bool.not_eq_true', Bool.not_eq_false', Bool.not_eq_true, Bool.not_eq_false] at hc) <;> first | (first | (exact absurd rfl hc) | (exfalso; omega) | (exact absurd (hc.symm.trans (by assumption : _ = false)) (by decide)) | (exact absurd (hc.symm.trans (by assumption : _ = true)) (by decide))) | skip)) | refine drawK.nn ?_ | refine roundK.nn ?_ | refine roundK.r ?_ | refine roundK.x ?_ | refine loopK.r ?_ | refine loopK.x ?_)
          | (fail)
          | fail
        all_goals first | (exfalso; omega) | skip
        rename_i oA2 _
        have hsetk : ∀ j, j < r + 1 → (ts.set k (os.length : Int)).getD j default = if j < k + 1 then (if U.getD j false = true then rk U j else 0) else b2i (U.getD j false) := fun j hj => by
          rw [List.getD_eq_getElem?_getD, List.getElem?_set]
          by_cases hjk : k = j
          · subst hjk
            rw [if_pos rfl, if_pos (by omega), if_pos (show k < k + 1 by omega), hUk, if_pos rfl, ← hlen]; rfl
          · rw [if_neg hjk, ← List.getD_eq_getElem?_getD, hts j hj]
            by_cases hlt : j < k
            · rw [if_pos hlt, if_pos (show j < k + 1 by omega)]
            · rw [if_neg hlt, if_neg (show ¬ j < k + 1 by omega)]
        refine loopK.nn (m - 1) (by omega) (by repeat (first | refine Ag.upd rfl ?_ | exact Ag.hv | refine Ag.hv2 (fun i hi => by simp at hi ⊢; omega) ?_)) ⟨_, ⟨k + 1, _, _, a2, c2, os ++ [(⟨(vs.getD k default).kind, (vs.getD k default).lit, ac, cc, (vs.getD k default).l.map fun q => rk U q.toNat⟩ : NV)], h2, hI ++ hK, ?_, by omega, oA2, by rw [List.length_set]; exact htl, hsetk, ⟨o2, fun v hv => ?_, fun v hv => ?_⟩, ?_, rfl⟩, fun w hw => H.sel (l := [_, _, _, _]) (M := [(n4, netOb 0 none 0 0)] :: [(b, bO N a vs.length cap bm)] :: ho :: hi :: hm :: L) (H.sel (l := [_, _, _, _, _, _]) (M := [(n4, netOb 0 none 0 0)] :: [(b, bO N a vs.length cap bm)] :: ho :: hi :: hm :: L) hw [5, 2, 4, 0, 1]).mg1 [1, 2, 3, 0]⟩
        · show Value.int .i64 _ = _; congr 1
        · rcases List.mem_append.1 hv with hv | hv
          · exact (noi v hv).sub fun y hy => List.mem_append_left _ hy
          · rw [List.mem_singleton.1 hv]; exact oc.sl.sub fun y hy => List.mem_append_right _ hy
        · rcases List.mem_append.1 hv with hv | hv
          · rcases noo2 v hv with h | ⟨g, cs, h1, h2, h3⟩
            · exact .inl h
            · exact .inr ⟨g, cs, h1, List.mem_append_left _ h2, h3⟩
          · rw [List.mem_singleton.1 hv]
            rcases oc.row with ⟨_, _, h, _⟩ | ⟨g, cs, h1, h2, h3, h4, _⟩
            · exact .inl h
            · refine .inr ⟨g, cs, h1, by rw [h2]; exact List.mem_append_right _ List.mem_cons_self, ?_⟩
              simp only [Nat.mul_one] at *
              omega
        · rw [hnst, List.map_append, hos]; rfl
      have hxq := hVo _ (mem_g (vs.getD k default).l q hq)
      have hgq := turn_getD (fun q => rk U q.toNat) (vs.getD k default).l q hq
      have hUq : U.getD ((vs.getD k default).l.getD q default).toNat false = true := hcl k hk hUk _ (by rw [inP_of]; exact mem_g (vs.getD k default).l q hq)
      have htq : ts.getD ((vs.getD k default).l.getD q default).toNat default = rk U ((vs.getD k default).l.getD q default).toNat := by
        rw [hts _ (by omega), if_pos (by omega), if_pos hUq]
      have hst := turn_set (fun q => rk U q.toNat) (vs.getD k default).l q hq
      repeat' first
        | (refine J.isJ ?_; first | (first | (refine J.o 4 ?_; first | (refine J.lT default hΓ ?_ (hs := oc.sl) (hr := RdH.hd); rw [hgq]) | (refine J.lT default hΓ ?_ (hs := oA.sl) (hr := RdH.hd.tl.tl); rw [htq]))) | (first | (refine J.o 0 ?_; refine J.ev' hΓ ?_) | refine J.nil ?_ | refine J.kd ?_ | (refine J.o 4 ?_; first | refine J.e0 hΓ ?_ | refine J.e1 hΓ ?_ | refine J.e2 hΓ ?_ | refine J.lT default hΓ ?_ | refine J.lR hΓ ?_) | (refine J.o 3 ?_; first | refine J.iJ hΓ ?_ | refine J.fP hΓ ?_ | refine J.iC hΓ ?_ | refine J.ev' hΓ ?_) | (refine J.o 1 ?_; first | refine J.ad ?_ | refine J.sb ?_ | refine J.ng ?_) | (refine J.o 5 ?_; first | refine J.t0 hΓ ?_ | refine J.t1 hΓ ?_ | refine J.t2 hΓ ?_ | refine J.tT _ default hΓ (fun _ _ => ?_) | refine J.tT1 _ default hΓ (fun _ _ => ?_) | refine J.tT2 _ default hΓ (fun _ _ => ?_)) | (refine J.o 6 ?_; refine J.bx (fun _ => ?_)) | (refine J.o 7 ?_; refine J.al hΓ (fun _ => ?_)) | (refine J.o 8 ?_; refine J.bd hΓ ?_) | (refine J.o 9 ?_; refine J.bl hΓ (fun _ => ?_)) | (refine J.o 10 ?_; refine J.ev' hΓ ?_) | (refine J.o 11 ?_; refine J.ev' hΓ ?_) | refine J.kn ?_) | ((fail_if_success refine J.wt ?_); refine J.gc rfl rfl (fun hc => ?_) (fun hc => ?_) <;> ((try simp only [decide_eq_true_eq, decide_eq_false_iff_not, beq_iff_eq, beq_eq_false_iff_ne, bne_iff_ne, bne_eq_false_iff_eq, Bool.not_eq_true', Bool.not_eq_false', Bool.not_eq_true, Bool.not_eq_false] at hc) <;> first | (first | (exact absurd rfl hc) | (exfalso; omega) | (exact absurd (hc.symm.trans (by assumption : _ = false)) (by decide)) | (exact absurd (hc.symm.trans (by assumption : _ = true)) (by decide))) | skip)))
        | (first | refine JC.seq ?_ | refine JC.region ?_ | refine JC.block ?_ | refine JC.ret ?_ | refine JC.exit ?_ | refine JC.skip ?_ | refine thenK.nn ?_ | refine thenK.r ?_ | refine thenK.x ?_ | refine blockK.nn ?_ | refine blockK.r ?_ | refine blockK.hit rfl ?_ | refine blockK.miss rfl ?_ | refine JC.condT rfl ?_ | refine JC.condF rfl ?_ | (refine JC.cond rfl (fun hc => ?_) (fun hc => ?_) <;> ((try simp only [decide_eq_true_eq, decide_eq_false_iff_not, beq_iff_eq, beq_eq_false_iff_ne, bne_iff_ne, bne_eq_false_iff_eq, Bool.not_eq_true', Bool.not_eq_false', Bool.not_eq_true, Bool.not_eq_false] at hc) <;> first | (first | (exact absurd rfl hc) | (exfalso; omega) | (exact absurd (hc.symm.trans (by assumption : _ = false)) (by decide)) | (exact absurd (hc.symm.trans (by assumption : _ = true)) (by decide))) | skip)) | refine drawK.nn ?_ | refine roundK.nn ?_ | refine roundK.r ?_ | refine roundK.x ?_ | refine loopK.r ?_ | refine loopK.x ?_)
        | ((refine JC.drawN [] [] (by kernel_rfl) (by kernel_rfl) ?_))
        | fail
      all_goals first | (exfalso; omega) | skip
      rename_i oc2
      have oc3 : OwT encI 1 3 ac cc (turn (fun q => rk U q.toNat) (vs.getD k default).l (q + 1)) _ := hst ▸ oc2
      refine loopK.nn (m2 - 1) (by omega) (by repeat (first | refine Ag.upd rfl ?_ | exact Ag.hv)) ⟨q + 1, _, ?_, by omega, oc3, rfl⟩
      show Value.int .i64 _ = _; congr 1
  obtain ⟨i, rfl⟩ : ∃ i, m = i + 1 := ⟨m - 1, by omega⟩
  have e7' : g 7 = .int .i64 (i : Int) := e7.trans (congrArg (Value.int .i64) (by omega))
  refine JC.pin 7 e7' ?_
  clear e7 e7'
  have hiv : i < vs.length := by omega
  have hmi := mem_g vs i hiv
  have hVl := hvl1 _ hmi
  have hVs := ins _ hmi
  have hVo := hord i hiv
  have hlU : (U.map b2i).length = r + 1 := by rw [List.length_map]; exact hUl
  have hU2 : mk (vs.map pnV) i (orS U (vs.getD i default).l (U.getD i false)) = F := by rw [← hU]; show _ = mk _ i (orS U (inP _ i) _); rw [inP_of]
  repeat' first
    | (refine J.isJ ?_; first | (first | (refine J.o 4 ?_; refine J.lT default hΓ ?_ (hs := ow.sl) (hr := RdH.hd.tl.tl.tl))) | (first | (refine J.o 0 ?_; refine J.ev' hΓ ?_) | refine J.nil ?_ | refine J.kd ?_ | (refine J.o 4 ?_; first | refine J.e0 hΓ ?_ | refine J.e1 hΓ ?_ | refine J.e2 hΓ ?_ | refine J.lT default hΓ ?_ | refine J.lR hΓ ?_) | (refine J.o 3 ?_; first | refine J.iJ hΓ ?_ | refine J.fP hΓ ?_ | refine J.iC hΓ ?_ | refine J.ev' hΓ ?_) | (refine J.o 1 ?_; first | refine J.ad ?_ | refine J.sb ?_ | refine J.ng ?_) | (refine J.o 5 ?_; first | refine J.t0 hΓ ?_ | refine J.t1 hΓ ?_ | refine J.t2 hΓ ?_ | refine J.tT _ default hΓ (fun _ _ => ?_) | refine J.tT1 _ default hΓ (fun _ _ => ?_) | refine J.tT2 _ default hΓ (fun _ _ => ?_)) | (refine J.o 6 ?_; refine J.bx (fun _ => ?_)) | (refine J.o 7 ?_; refine J.al hΓ (fun _ => ?_)) | (refine J.o 8 ?_; refine J.bd hΓ ?_) | (refine J.o 9 ?_; refine J.bl hΓ (fun _ => ?_)) | (refine J.o 10 ?_; refine J.ev' hΓ ?_) | (refine J.o 11 ?_; refine J.ev' hΓ ?_) | refine J.kn ?_) | ((fail_if_success refine J.wt ?_); refine J.gc rfl rfl (fun hc => ?_) (fun hc => ?_) <;> ((try simp only [decide_eq_true_eq, decide_eq_false_iff_not, beq_iff_eq, beq_eq_false_iff_ne, bne_iff_ne, bne_eq_false_iff_eq, Bool.not_eq_true', Bool.not_eq_false', Bool.not_eq_true, Bool.not_eq_false] at hc) <;> first | (first | (exact absurd rfl hc) | (exfalso; omega) | (exact absurd (hc.symm.trans (by assumption : _ = false)) (by decide)) | (exact absurd (hc.symm.trans (by assumption : _ = true)) (by decide))) | skip)))
    | (first | refine JC.seq ?_ | refine JC.region ?_ | refine JC.block ?_ | refine JC.ret ?_ | refine JC.exit ?_ | refine JC.skip ?_ | refine thenK.nn ?_ | refine thenK.r ?_ | refine thenK.x ?_ | refine blockK.nn ?_ | refine blockK.r ?_ | refine blockK.hit rfl ?_ | refine blockK.miss rfl ?_ | refine JC.condT rfl ?_ | refine JC.condF rfl ?_ | (refine JC.cond rfl (fun hc => ?_) (fun hc => ?_) <;> ((try simp only [decide_eq_true_eq, decide_eq_false_iff_not, beq_iff_eq, beq_eq_false_iff_ne, bne_iff_ne, bne_eq_false_iff_eq, Bool.not_eq_true', Bool.not_eq_false', Bool.not_eq_true, Bool.not_eq_false] at hc) <;> first | (first | (exact absurd rfl hc) | (exfalso; omega) | (exact absurd (hc.symm.trans (by assumption : _ = false)) (by decide)) | (exact absurd (hc.symm.trans (by assumption : _ = true)) (by decide))) | skip)) | refine drawK.nn ?_ | refine roundK.nn ?_ | refine roundK.r ?_ | refine roundK.x ?_ | refine loopK.r ?_ | refine loopK.x ?_)
    | (fail)
    | fail
  all_goals first | (exfalso; omega) | skip
  refine JC.loop (fun i => i == 9 || Nat.ble 56 i) (fun m g L' => ∃ (q : Nat) (hA : Heap), g 56 = .int .i64 (q : Int) ∧ q + m = (vs.getD i default).l.length ∧ OwT encI 1 3 aA (r + 1) ((orS U ((vs.getD i default).l.take q) (U.getD i false)).map b2i) hA ∧ L' = hA :: [(n4, netOb 0 none 0 0)] :: [(b, bO N a vs.length cap bm)] :: ho :: hi :: hm :: L) (vs.getD i default).l.length ⟨0, hA, rfl, by omega, oA, rfl⟩ ?_
  clear oA hlU
  rintro m2 g2 L' ⟨q, hA, e56, hqm, oA, rfl⟩
  refine JC.pin 56 e56 ?_
  clear e56
  unfold netOb bO
  have hlU : ((orS U ((vs.getD i default).l.take q) (U.getD i false)).map b2i).length = r + 1 := by rw [List.length_map, orS_len]; exact hUl
  rcases Nat.lt_or_ge q (vs.getD i default).l.length with hq | hq
  case inr =>
    rw [List.take_of_length_le hq] at oA
    repeat' first
      | (refine J.isJ ?_; first | (fail) | (first | (refine J.o 0 ?_; refine J.ev' hΓ ?_) | refine J.nil ?_ | refine J.kd ?_ | (refine J.o 4 ?_; first | refine J.e0 hΓ ?_ | refine J.e1 hΓ ?_ | refine J.e2 hΓ ?_ | refine J.lT default hΓ ?_ | refine J.lR hΓ ?_) | (refine J.o 3 ?_; first | refine J.iJ hΓ ?_ | refine J.fP hΓ ?_ | refine J.iC hΓ ?_ | refine J.ev' hΓ ?_) | (refine J.o 1 ?_; first | refine J.ad ?_ | refine J.sb ?_ | refine J.ng ?_) | (refine J.o 5 ?_; first | refine J.t0 hΓ ?_ | refine J.t1 hΓ ?_ | refine J.t2 hΓ ?_ | refine J.tT _ default hΓ (fun _ _ => ?_) | refine J.tT1 _ default hΓ (fun _ _ => ?_) | refine J.tT2 _ default hΓ (fun _ _ => ?_)) | (refine J.o 6 ?_; refine J.bx (fun _ => ?_)) | (refine J.o 7 ?_; refine J.al hΓ (fun _ => ?_)) | (refine J.o 8 ?_; refine J.bd hΓ ?_) | (refine J.o 9 ?_; refine J.bl hΓ (fun _ => ?_)) | (refine J.o 10 ?_; refine J.ev' hΓ ?_) | (refine J.o 11 ?_; refine J.ev' hΓ ?_) | refine J.kn ?_) | ((fail_if_success refine J.wt ?_); refine J.gc rfl rfl (fun hc => ?_) (fun hc => ?_) <;> ((try simp only [decide_eq_true_eq, decide_eq_false_iff_not, beq_iff_eq, beq_eq_false_iff_ne, bne_iff_ne, bne_eq_false_iff_eq, Bool.not_eq_true', Bool.not_eq_false', Bool.not_eq_true, Bool.not_eq_false] at hc) <;> first | (first | (exact absurd rfl hc) | (exfalso; omega) | (exact absurd (hc.symm.trans (by assumption : _ = false)) (by decide)) | (exact absurd (hc.symm.trans (by assumption : _ = true)) (by decide))) | skip)))
      | (first | refine JC.seq ?_ | refine JC.region ?_ | refine JC.block ?_ | refine JC.ret ?_ | refine JC.exit ?_ | refine JC.skip ?_ | refine thenK.nn ?_ | refine thenK.r ?_ | refine thenK.x ?_ | refine blockK.nn ?_ | refine blockK.r ?_ | refine blockK.hit rfl ?_ | refine blockK.miss rfl ?_ | refine JC.condT rfl ?_ | refine JC.condF rfl ?_ | (refine JC.cond rfl (fun hc => ?_) (fun hc => ?_) <;> ((try simp only [decide_eq_true_eq, decide_eq_false_iff_not, beq_iff_eq, beq_eq_false_iff_ne, bne_iff_ne, bne_eq_false_iff_eq, Bool.not_eq_true', Bool.not_eq_false', Bool.not_eq_true, Bool.not_eq_false] at hc) <;> first | (first | (exact absurd rfl hc) | (exfalso; omega) | (exact absurd (hc.symm.trans (by assumption : _ = false)) (by decide)) | (exact absurd (hc.symm.trans (by assumption : _ = true)) (by decide))) | skip)) | refine drawK.nn ?_ | refine roundK.nn ?_ | refine roundK.r ?_ | refine roundK.x ?_ | refine loopK.r ?_ | refine loopK.x ?_)
      | (fail)
      | fail
    all_goals first | (exfalso; omega) | skip
    refine loopK.nn i (by omega) (by repeat (first | refine Ag.upd rfl ?_ | exact Ag.hv | refine Ag.hv2 (fun i hi => by simp at hi ⊢; omega) ?_)) ⟨_, hA, ?_, by omega, by rw [orS_len]; exact hUl, hU2, oA, rfl⟩
    show Value.int .i64 _ = _; congr 1
  have hxq := hVo _ (mem_g (vs.getD i default).l q hq)
  have hxi : (orS U ((vs.getD i default).l.take q) (U.getD i false)).getD i false = U.getD i false := orS_ne _ _ _ _ fun k hk => by have := hVo k (List.mem_of_mem_take hk); omega
  have hsn : (orS U ((vs.getD i default).l.take q) (U.getD i false)).set ((vs.getD i default).l.getD q default).toNat ((orS U ((vs.getD i default).l.take q) (U.getD i false)).getD ((vs.getD i default).l.getD q default).toNat false || U.getD i false) = orS U ((vs.getD i default).l.take (q + 1)) (U.getD i false) := by rw [take_g _ _ hq, orS_snoc]
  repeat' first
    | (refine J.isJ ?_; first | (first | (refine J.o 4 ?_; first | (refine J.lT default hΓ ?_ (hs := hVs) (hr := RdH.hd.tl.tl.tl.tl)) | (refine J.lT default hΓ ?_ (hs := oA.sl) (hr := RdH.hd); rw [mapb_getD])) | (refine J.o 1 ?_; refine J.oB ?_; rw [hxi])) | (first | (refine J.o 0 ?_; refine J.ev' hΓ ?_) | refine J.nil ?_ | refine J.kd ?_ | (refine J.o 4 ?_; first | refine J.e0 hΓ ?_ | refine J.e1 hΓ ?_ | refine J.e2 hΓ ?_ | refine J.lT default hΓ ?_ | refine J.lR hΓ ?_) | (refine J.o 3 ?_; first | refine J.iJ hΓ ?_ | refine J.fP hΓ ?_ | refine J.iC hΓ ?_ | refine J.ev' hΓ ?_) | (refine J.o 1 ?_; first | refine J.ad ?_ | refine J.sb ?_ | refine J.ng ?_) | (refine J.o 5 ?_; first | refine J.t0 hΓ ?_ | refine J.t1 hΓ ?_ | refine J.t2 hΓ ?_ | refine J.tT _ default hΓ (fun _ _ => ?_) | refine J.tT1 _ default hΓ (fun _ _ => ?_) | refine J.tT2 _ default hΓ (fun _ _ => ?_)) | (refine J.o 6 ?_; refine J.bx (fun _ => ?_)) | (refine J.o 7 ?_; refine J.al hΓ (fun _ => ?_)) | (refine J.o 8 ?_; refine J.bd hΓ ?_) | (refine J.o 9 ?_; refine J.bl hΓ (fun _ => ?_)) | (refine J.o 10 ?_; refine J.ev' hΓ ?_) | (refine J.o 11 ?_; refine J.ev' hΓ ?_) | refine J.kn ?_) | ((fail_if_success refine J.wt ?_); refine J.gc rfl rfl (fun hc => ?_) (fun hc => ?_) <;> ((try simp only [decide_eq_true_eq, decide_eq_false_iff_not, beq_iff_eq, beq_eq_false_iff_ne, bne_iff_ne, bne_eq_false_iff_eq, Bool.not_eq_true', Bool.not_eq_false', Bool.not_eq_true, Bool.not_eq_false] at hc) <;> first | (first | (exact absurd rfl hc) | (exfalso; omega) | (exact absurd (hc.symm.trans (by assumption : _ = false)) (by decide)) | (exact absurd (hc.symm.trans (by assumption : _ = true)) (by decide))) | skip)))
    | (first | refine JC.seq ?_ | refine JC.region ?_ | refine JC.block ?_ | refine JC.ret ?_ | refine JC.exit ?_ | refine JC.skip ?_ | refine thenK.nn ?_ | refine thenK.r ?_ | refine thenK.x ?_ | refine blockK.nn ?_ | refine blockK.r ?_ | refine blockK.hit rfl ?_ | refine blockK.miss rfl ?_ | refine JC.condT rfl ?_ | refine JC.condF rfl ?_ | (refine JC.cond rfl (fun hc => ?_) (fun hc => ?_) <;> ((try simp only [decide_eq_true_eq, decide_eq_false_iff_not, beq_iff_eq, beq_eq_false_iff_ne, bne_iff_ne, bne_eq_false_iff_eq, Bool.not_eq_true', Bool.not_eq_false', Bool.not_eq_true, Bool.not_eq_false] at hc) <;> first | (first | (exact absurd rfl hc) | (exfalso; omega) | (exact absurd (hc.symm.trans (by assumption : _ = false)) (by decide)) | (exact absurd (hc.symm.trans (by assumption : _ = true)) (by decide))) | skip)) | refine drawK.nn ?_ | refine roundK.nn ?_ | refine roundK.r ?_ | refine roundK.x ?_ | refine loopK.r ?_ | refine loopK.x ?_)
    | ((refine JC.drawN [] [] (by kernel_rfl) (by kernel_rfl) ?_))
    | fail
  all_goals first | (exfalso; omega) | skip
  rename_i oA2
  rw [← List.map_set, hsn] at oA2
  refine loopK.nn (m2 - 1) (by omega) (by repeat (first | refine Ag.upd rfl ?_ | exact Ag.hv)) ⟨q + 1, _, ?_, by omega, oA2, rfl⟩
  show Value.int .i64 _ = _; congr 1
end Go.Proofs.YtncnpmgohhgmfaaDoor
