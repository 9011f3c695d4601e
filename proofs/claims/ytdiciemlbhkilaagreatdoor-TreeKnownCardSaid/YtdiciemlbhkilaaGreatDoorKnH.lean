/- TreeKnown: part 8. -/
import Derived.Test.YtdiciemlbhkilaaGreatDoorKnG
namespace Go.Proofs.YtdiciemlbhkilaaGreatDoor
open Go Go.Cx Go.RowKit
set_option linter.unusedVariables false
set_option linter.unusedSimpArgs false
set_option maxHeartbeats 4000000
attribute [local irreducible] J JC thenK blockK loopK roundK drawK retK QW Qt pel List.set Calls
attribute [local irreducible] JE Br eK0 eK3 brK
theorem eNet : Entr Tryz.prog 43 := Entr.of Tryz.func43 rfl rfl
structure NetO (a : Option Addr) (c : Nat) (os : List NV) (hO hI : Heap) : Prop where
  ow : OwT encNV 3 82 a c os hO
  ins : ∀ v, v ∈ os → SlT encI 1 v.a v.l hI
  own : ∀ v, v ∈ os → v.l = [] ∨ ∃ g cs, v.a = some ⟨g, 0, none⟩ ∧ (g, Obj.cells ⟨cs⟩ 3 (0, 0)) ∈ hI ∧ v.l.length ≤ cs.length
def netOb (N : Int) (a : Option Addr) (len c : Nat) : Obj := .cells ⟨[.int .i64 N, .slice a len c]⟩ 31 (0, 0)
theorem slT_take {α : Type} {enc : α → List Value} {size : Nat} {a : Option Addr} {ts : List α} {h : Heap} (hs : SlT enc size a ts h) (k : Nat) : SlT enc size a (ts.take k) h := by
  refine ⟨hs.len, fun i hi => ?_⟩
  rw [List.length_take] at hi
  obtain ⟨b, off, cs, e, fr, h1, h2, h3, h4⟩ := hs.at_ i (by omega)
  exact ⟨b, off, cs, e, fr, h1, h2, h3, by rw [h4, List.getElem_take]⟩
theorem take_getD {α : Type} [Inhabited α] (l : List α) (n k : Nat) (h : k < n) : (l.take n).getD k default = l.getD k default := by
  rw [List.getD_eq_getElem?_getD, List.getD_eq_getElem?_getD, List.getElem?_take_of_lt h]
def turn (f : Int → Int) (l : List Int) (q : Nat) : List Int := (l.take q).map f ++ l.drop q
theorem turn_len (f : Int → Int) (l : List Int) (q : Nat) : (turn f l q).length = l.length := by
  unfold turn; rw [List.length_append, List.length_map, ← List.length_append, List.take_append_drop]
theorem turn_getD (f : Int → Int) (l : List Int) (q : Nat) (h : q < l.length) : (turn f l q).getD q default = l.getD q default := by
  unfold turn
  have hl : ((l.take q).map f).length = q := by rw [List.length_map, List.length_take]; omega
  rw [List.getD_eq_getElem?_getD, List.getElem?_append_right (by omega), hl, Nat.sub_self, List.getElem?_drop, List.getD_eq_getElem?_getD]; rfl
theorem turn_set (f : Int → Int) (l : List Int) (q : Nat) (h : q < l.length) : (turn f l q).set q (f (l.getD q default)) = turn f l (q + 1) := by
  unfold turn
  have hl : ((l.take q).map f).length = q := by rw [List.length_map, List.length_take]; omega
  rw [List.set_append_right _ _ (by omega), hl, Nat.sub_self, drop_g l q h, take_g l q h, List.map_append, List.append_assoc, List.set_cons_zero]; rfl
theorem turn_all (f : Int → Int) (l : List Int) : turn f l l.length = l.map f := by
  unfold turn; rw [List.take_length, List.drop_length, List.append_nil]
theorem rk_le (U : List Bool) : ∀ i, 0 ≤ rk U i ∧ rk U i ≤ i
  | 0 => ⟨Int.le_refl 0, Int.le_refl 0⟩
  | i + 1 => by
    have := rk_le U i
    unfold rk b2i
    split <;> omega
theorem mapb_getD (U : List Bool) (k : Nat) : (U.map b2i).getD k default = b2i (U.getD k false) := by
  rw [List.getD_eq_getElem?_getD, List.getD_eq_getElem?_getD, List.getElem?_map]
  cases U[k]? with
  | none => rfl
  | some v => rfl
theorem rep_b2i (n : Nat) : List.replicate n (0 : Int) = (List.replicate n false).map b2i := by rw [List.map_replicate]; rfl
set_option maxHeartbeats 16000000 in
theorem net_any (r : Nat) {w0 w : World} {R : Heap} {L : List Heap} {N : Int} {b cap bm : Nat} {a : Option Addr} {vs : List NV} {ho hi hm : Heap} (hr : r < vs.length) (bs : BS vs a cap bm ho hi hm) (op : OkP (vs.map pnV)) (od : Ord (vs.map pnV)) (hv65 : vs.length ≤ 65536) (hw : H w0 R (bL N b a vs cap bm ho hi hm ++ L) w) :
    Calls Tryz.prog 43 #[.pointer (some ⟨b, 0, none⟩), .int .i64 (r : Int)] w fun e w' => ∃ v' L', e = .returned v' ∧ H w0 R L' w' ∧ ∃ ao co os hO hI, v' = .tuple #[.agg ⟨[.int .i64 N, .slice ao os.length co]⟩, .int .i64 0] ∧ L' = hO :: hI :: (bL N b a vs cap bm ho hi hm ++ L) ∧ NetO ao co os hO hI ∧ os.map pnV = netP (vs.map pnV) r := by
  obtain ⟨ow, ins, mp⟩ := bs
  obtain ⟨okv, rng⟩ := op.okB hv65
  have hcap : vs.length ≤ cap := by
    rcases ow.row with ⟨_, _, h, _⟩ | ⟨g, cs, _, _, _, h, _⟩
    · rw [h] at hr; exact absurd hr (Nat.not_lt_zero _)
    · exact h
  have hvl1 : ∀ v, v ∈ vs → v.l.length ≤ 1000000 := fun v hv => (okv v hv).n
  have hord : ∀ i, i < vs.length → ∀ k, k ∈ (vs.getD i default).l → 0 ≤ k ∧ k < i := fun i hi k hk => od i k (by rw [inP_of]; exact hk)
  have hlA : (List.replicate (r + 1) (0 : Int)).length = r + 1 := List.length_replicate ..
  unfold bL at hw ⊢
  simp only [List.cons_append, List.nil_append] at hw ⊢
  refine calls_in Tryz.func43 Tryz.ntmps43 rfl rfl (hw) ?_
  unfold bO
  repeat' first
    | (refine J.isJ ?_; first | (first | (refine J.o 11 ?_; first | refine J.pN hΓ ?_ | refine J.mN hΓ ?_) | (refine J.o 9 ?_; refine J.make (enc := encI) (m := r + 1) (0 : Int) hΓ rfl rfl rfl rfl rfl rfl (fun _ => rfl) (by omega) (by omega) (fun bA hA oA => ?_); generalize (some (⟨bA, 0, none⟩ : Addr)) = aA at oA ⊢)) | (first | (refine J.o 0 ?_; refine J.ev' hΓ ?_) | refine J.nil ?_ | (refine J.o 4 ?_; first | refine J.e0 hΓ ?_ | refine J.e1 hΓ ?_ | refine J.e2 hΓ ?_ | refine J.lT default hΓ ?_) | (refine J.o 3 ?_; first | refine J.iJ hΓ ?_ | refine J.fP hΓ ?_ | refine J.ev' hΓ ?_) | (refine J.o 1 ?_; first | refine J.ad ?_ | refine J.sb ?_) | (refine J.o 5 ?_; first | refine J.t0 hΓ ?_ | refine J.t1 hΓ ?_ | refine J.tT _ default hΓ (fun _ _ => ?_) | refine J.tT2 _ default hΓ (fun _ _ => ?_)) | (refine J.o 7 ?_; refine J.al hΓ (fun _ => ?_)) | (refine J.o 8 ?_; refine J.bd hΓ ?_) | (refine J.o 9 ?_; refine J.bl hΓ (fun _ => ?_)) | (refine J.o 10 ?_; refine J.ev' hΓ ?_) | (refine J.o 11 ?_; refine J.ev' hΓ ?_)))
    | (first | refine JC.seq ?_ | refine JC.region ?_ | refine JC.block ?_ | refine JC.ret ?_ | refine JC.exit ?_ | refine JC.skip ?_ | refine thenK.nn ?_ | refine thenK.x ?_ | refine blockK.nn ?_ | refine blockK.hit rfl ?_ | refine JC.condT rfl ?_ | refine JC.condF rfl ?_ | (refine JC.cond rfl (fun hc => ?_) (fun hc => ?_) <;> ((try simp only [tcS] at hc) <;> first | (first | (exact absurd rfl hc) | (exfalso; omega) | (exact (tF hc (by assumption)).elim) | (exact (fT hc (by assumption)).elim)) | skip)) | refine drawK.nn ?_ | refine loopK.x ?_)
    | ((refine JC.drawN [] [] (by kernel_rfl) (by kernel_rfl) ?_))
    | fail
  all_goals first | (exfalso; omega) | skip
  rename_i n4 hA2 oA
  rw [rep_b2i, ← show b2i true = 1 from rfl, ← List.map_set] at oA
  have hcl : ∀ i, i < r + 1 → (markN (vs.map pnV) r (r + 1)).getD i false = true → ∀ k, k ∈ inP (vs.map pnV) i → (markN (vs.map pnV) r (r + 1)).getD k.toNat false = true := mk_closed od (r + 1) ((List.replicate (r + 1) false).set r true) (by simp)
  have hPn : netP (vs.map pnV) r = netTo (vs.map pnV) (markN (vs.map pnV) r (r + 1)) (r + 1) := rfl
  rw [hPn]
  generalize hF : markN (vs.map pnV) r (r + 1) = F at *
  refine JC.gen [(0, .pointer (some ⟨b, 0, none⟩)), (1, .int .i64 (r : Int)), (4, .pointer (some ⟨n4, 0, none⟩)), (6, .slice aA (r + 1) (r + 1)), (7, .int .i64 (r : Int))] ⟨rfl, rfl, rfl, rfl, rfl, trivial⟩ (fun F0 => ?_)
  refine JC.loop (fun i => i == 5 || i == 7 || i == 9 || Nat.ble 10 i) (fun m g L' => ∃ (U : List Bool) (hA : Heap), g 7 = .int .i64 ((m : Int) - 1) ∧ m ≤ r + 1 ∧ U.length = r + 1 ∧ mk (vs.map pnV) m U = F ∧ OwT encI 1 3 aA (r + 1) (U.map b2i) hA ∧ L' = hA :: [(n4, netOb 0 none 0 0)] :: [(b, bO N a vs.length cap bm)] :: ho :: hi :: hm :: L) (r + 1) ⟨_, hA2, ?_, Nat.le_refl _, ?_, hF, oA, rfl⟩ ?_
  · show Value.int .i64 _ = _; congr 1; omega
  · rw [List.length_set, List.length_replicate]
  rintro m g L' ⟨U, hA, e7, hmr, hUl, hU, oA, rfl⟩
  unfold netOb bO
  rcases Nat.eq_zero_or_pos m with hm0 | hm0
  case inl =>
    subst hm0
    refine JC.pin 7 e7 ?_
    clear e7
    have hU : U = F := hU
    subst hU
    have ow3 : SlT encNV 3 a (vs.take (r + 1)) ho := slT_take ow.sl (r + 1)
    have hl3 : (vs.take (r + 1)).length = r + 1 := by rw [List.length_take]; omega
    repeat' first
      | (refine J.isJ ?_; first | (first | (refine J.o 4 ?_; first | refine J.e3 hΓ ?_) | (refine J.o 13 ?_; refine J.slF (m := r + 1) hΓ ?_)) | (first | (refine J.o 0 ?_; refine J.ev' hΓ ?_) | refine J.nil ?_ | (refine J.o 4 ?_; first | refine J.e0 hΓ ?_ | refine J.e1 hΓ ?_ | refine J.e2 hΓ ?_ | refine J.lT default hΓ ?_) | (refine J.o 3 ?_; first | refine J.iJ hΓ ?_ | refine J.fP hΓ ?_ | refine J.ev' hΓ ?_) | (refine J.o 1 ?_; first | refine J.ad ?_ | refine J.sb ?_) | (refine J.o 5 ?_; first | refine J.t0 hΓ ?_ | refine J.t1 hΓ ?_ | refine J.tT _ default hΓ (fun _ _ => ?_) | refine J.tT2 _ default hΓ (fun _ _ => ?_)) | (refine J.o 7 ?_; refine J.al hΓ (fun _ => ?_)) | (refine J.o 8 ?_; refine J.bd hΓ ?_) | (refine J.o 9 ?_; refine J.bl hΓ (fun _ => ?_)) | (refine J.o 10 ?_; refine J.ev' hΓ ?_) | (refine J.o 11 ?_; refine J.ev' hΓ ?_)))
      | (first | refine JC.seq ?_ | refine JC.region ?_ | refine JC.block ?_ | refine JC.ret ?_ | refine JC.exit ?_ | refine JC.skip ?_ | refine thenK.nn ?_ | refine thenK.x ?_ | refine blockK.nn ?_ | refine blockK.hit rfl ?_ | refine JC.condT rfl ?_ | refine JC.condF rfl ?_ | (refine JC.cond rfl (fun hc => ?_) (fun hc => ?_) <;> ((try simp only [tcS] at hc) <;> first | (first | (exact absurd rfl hc) | (exfalso; omega) | (exact (tF hc (by assumption)).elim) | (exact (fT hc (by assumption)).elim)) | skip)) | refine drawK.nn ?_ | refine loopK.x ?_)
      | (fail)
      | fail
    all_goals first | (exfalso; omega) | skip
    rename_i n10
    refine JC.weak (L' := hA :: [(n10, netOb N none 0 0)] :: [] :: [] :: [(n4, netOb 0 none 0 0)] :: [(b, bO N a vs.length cap bm)] :: ho :: hi :: hm :: L) (fun w hw => H.sel (l := [_, _, _, _]) (M := [(n4, netOb 0 none 0 0)] :: [(b, bO N a vs.length cap bm)] :: ho :: hi :: hm :: L) hw.nilF.nilF [3, 2, 0, 1]) ?_
    refine JC.gen [(0, .pointer (some ⟨b, 0, none⟩)), (1, .int .i64 (r : Int)), (4, .pointer (some ⟨n4, 0, none⟩)), (6, .slice aA (r + 1) (r + 1)), (10, .pointer (some ⟨n10, 0, none⟩)), (82, .slice a (r + 1) cap), (83, .int .i64 ((r + 1 : Nat) : Int)), (84, .int .i64 0)] ⟨rfl, rfl, rfl, rfl, rfl, rfl, rfl, rfl, trivial⟩ (fun F1 => ?_)
    refine JC.loopG (fun i => i == 5 || i == 11 || i == 12 || i == 13 || Nat.ble 84 i) (fun m g L' => ∃ (k : Nat) (ts : List Int) (hA : Heap) (ao : Option Addr) (co : Nat) (os : List NV) (hO hI : Heap), g 84 = .int .i64 (k : Int) ∧ k + m = r + 1 ∧ OwT encI 1 3 aA (r + 1) ts hA ∧ ts.length = r + 1 ∧ (∀ j, j < r + 1 → ts.getD j default = if j < k then (if U.getD j false = true then rk U j else 0) else b2i (U.getD j false)) ∧ NetO ao co os hO hI ∧ os.map pnV = netTo (vs.map pnV) U k ∧ L' = hA :: [(n10, netOb N ao os.length co)] :: hO :: hI :: [(n4, netOb 0 none 0 0)] :: [(b, bO N a vs.length cap bm)] :: ho :: hi :: hm :: L) (r + 1) ⟨0, U.map b2i, hA, none, 0, [], [], [], rfl, by omega, oA, by rw [List.length_map]; exact hUl, fun j hj => by rw [if_neg (Nat.not_lt_zero _)]; exact mapb_getD U j, ⟨OwT.nil (fun _ => rfl), fun v hv => absurd hv List.not_mem_nil, fun v hv => absurd hv List.not_mem_nil⟩, rfl, rfl⟩ ?_
    clear oA
    rintro m g L' ⟨k, ts, hA, ao, co, os, hO, hI, e84, hkm, oA, htl, hts, no, hos, rfl⟩
    refine JC.pin 84 e84 ?_
    clear e84
    unfold netOb bO
    have hlen := netTo_len (vs.map pnV) U k
    rw [← hos, List.length_map] at hlen
    have hrk := rk_le U k
    have hol : os.length ≤ 65536 := by omega
    rcases Nat.lt_or_ge k (r + 1) with hk | hk
    case inr =>
      have hkr : k = r + 1 := by omega
      subst hkr
      repeat' first
        | (refine J.isJ ?_; first | ((refine J.o 5 ?_; first | (refine J.perm br3 ?_; refine J.t0 hΓ ?_) | (refine J.perm br4 ?_; refine J.t0 hΓ ?_) | (refine J.perm br5 ?_; refine J.t0 hΓ ?_) | (refine J.perm br6 ?_; refine J.t0 hΓ ?_) | (refine J.perm br7 ?_; refine J.t0 hΓ ?_))) | (first | (refine J.o 0 ?_; refine J.ev' hΓ ?_) | refine J.nil ?_ | (refine J.o 4 ?_; first | refine J.e0 hΓ ?_ | refine J.e1 hΓ ?_ | refine J.e2 hΓ ?_ | refine J.lT default hΓ ?_) | (refine J.o 3 ?_; first | refine J.iJ hΓ ?_ | refine J.fP hΓ ?_ | refine J.ev' hΓ ?_) | (refine J.o 1 ?_; first | refine J.ad ?_ | refine J.sb ?_) | (refine J.o 5 ?_; first | refine J.t0 hΓ ?_ | refine J.t1 hΓ ?_ | refine J.tT _ default hΓ (fun _ _ => ?_) | refine J.tT2 _ default hΓ (fun _ _ => ?_)) | (refine J.o 7 ?_; refine J.al hΓ (fun _ => ?_)) | (refine J.o 8 ?_; refine J.bd hΓ ?_) | (refine J.o 9 ?_; refine J.bl hΓ (fun _ => ?_)) | (refine J.o 10 ?_; refine J.ev' hΓ ?_) | (refine J.o 11 ?_; refine J.ev' hΓ ?_)))
        | (first | refine JC.seq ?_ | refine JC.region ?_ | refine JC.block ?_ | refine JC.ret ?_ | refine JC.exit ?_ | refine JC.skip ?_ | refine thenK.nn ?_ | refine thenK.x ?_ | refine blockK.nn ?_ | refine blockK.hit rfl ?_ | refine JC.condT rfl ?_ | refine JC.condF rfl ?_ | (refine JC.cond rfl (fun hc => ?_) (fun hc => ?_) <;> ((try simp only [tcS] at hc) <;> first | (first | (exact absurd rfl hc) | (exfalso; omega) | (exact (tF hc (by assumption)).elim) | (exact (fT hc (by assumption)).elim)) | skip)) | refine drawK.nn ?_ | refine loopK.x ?_)
        | (fail)
        | fail
      all_goals first | (exfalso; omega) | skip
      exact retCS hΓ rfl rfl rfl rfl Rd.hd rfl rfl (fun w1 hw => ⟨_, _, rfl, H.sel (l := [_, _, _, _, _, _, _, _, _]) (M := L) hw [3, 4, 5, 6, 7, 8], ao, co, os, hO, hI, rfl, rfl, no, hos⟩)
    have hkv : k < vs.length := by omega
    have hmk := mem_g vs k hkv
    have hgt := take_getD vs (r + 1) k hk
    have htk := hts k hk
    rw [if_neg (Nat.lt_irrefl k)] at htk
    have hnst : netTo (vs.map pnV) U (k + 1) = netTo (vs.map pnV) U k ++ (if U.getD k false = true then [((vs.getD k default).kind, (vs.getD k default).lit, (vs.getD k default).l.map fun q => rk U q.toNat)] else []) := by
      show netTo (vs.map pnV) U k ++ _ = _
      rw [kindP_of, litP_of, inP_of]
    cases hUk : U.getD k false with
    | false =>
      rw [hUk] at htk hnst
      rw [if_neg (by decide), List.append_nil] at hnst
      repeat' first
        | (refine J.isJ ?_; first | (first | (refine J.o 4 ?_; first | refine J.e3 hΓ ?_) | (refine J.o 4 ?_; first | (refine J.lT default hΓ ?_ (hs := ow3) (hr := RdH.hd.tl.tl.tl.tl.tl.tl); rw [hgt]) | (refine J.lT default hΓ ?_ (hs := oA.sl) (hr := RdH.hd.tl); rw [htk]))) | (first | (refine J.o 0 ?_; refine J.ev' hΓ ?_) | refine J.nil ?_ | (refine J.o 4 ?_; first | refine J.e0 hΓ ?_ | refine J.e1 hΓ ?_ | refine J.e2 hΓ ?_ | refine J.lT default hΓ ?_) | (refine J.o 3 ?_; first | refine J.iJ hΓ ?_ | refine J.fP hΓ ?_ | refine J.ev' hΓ ?_) | (refine J.o 1 ?_; first | refine J.ad ?_ | refine J.sb ?_) | (refine J.o 5 ?_; first | refine J.t0 hΓ ?_ | refine J.t1 hΓ ?_ | refine J.tT _ default hΓ (fun _ _ => ?_) | refine J.tT2 _ default hΓ (fun _ _ => ?_)) | (refine J.o 7 ?_; refine J.al hΓ (fun _ => ?_)) | (refine J.o 8 ?_; refine J.bd hΓ ?_) | (refine J.o 9 ?_; refine J.bl hΓ (fun _ => ?_)) | (refine J.o 10 ?_; refine J.ev' hΓ ?_) | (refine J.o 11 ?_; refine J.ev' hΓ ?_)))
        | (first | refine JC.seq ?_ | refine JC.region ?_ | refine JC.block ?_ | refine JC.ret ?_ | refine JC.exit ?_ | refine JC.skip ?_ | refine thenK.nn ?_ | refine thenK.x ?_ | refine blockK.nn ?_ | refine blockK.hit rfl ?_ | refine JC.condT rfl ?_ | refine JC.condF rfl ?_ | (refine JC.cond rfl (fun hc => ?_) (fun hc => ?_) <;> ((try simp only [tcS] at hc) <;> first | (first | (exact absurd rfl hc) | (exfalso; omega) | (exact (tF hc (by assumption)).elim) | (exact (fT hc (by assumption)).elim)) | skip)) | refine drawK.nn ?_ | refine loopK.x ?_)
        | (fail)
        | fail
      all_goals first | (exfalso; omega) | skip
      refine loopK.nn (m - 1) (by omega) (by repeat (first | refine Ag.upd rfl ?_ | exact Ag.hv)) ⟨_, ⟨k + 1, ts, hA, ao, co, os, hO, hI, ?_, by omega, oA, htl, fun j hj => ?_, no, by rw [hnst]; exact hos, rfl⟩, fun w hw => hw.drop⟩
      · show Value.int .i64 _ = _; congr 1
      · by_cases hjk : j = k
        · subst hjk
          rw [htk, hUk, if_pos (by omega), if_neg (by decide)]; rfl
        · rw [hts j hj]
          by_cases hlt : j < k
          · rw [if_pos hlt, if_pos (show j < k + 1 by omega)]
          · rw [if_neg hlt, if_neg (show ¬ j < k + 1 by omega)]
    | true =>
      rw [hUk] at htk hnst
      rw [if_pos rfl] at hnst
      have hVl := hvl1 _ hmk
      have hVs := ins _ hmk
      have hVo := hord k hkv
      obtain ⟨noo, noi, noo2⟩ := no
      repeat' first
        | (refine J.isJ ?_; first | (first | (refine J.o 4 ?_; first | refine J.e3 hΓ ?_) | (refine J.o 4 ?_; first | (refine J.lT default hΓ ?_ (hs := ow3) (hr := RdH.hd.tl.tl.tl.tl.tl.tl); rw [hgt]) | (refine J.lT default hΓ ?_ (hs := oA.sl) (hr := RdH.hd.tl); rw [htk])) | (refine J.fc 84 ?_; refine J.call1 eClone rfl rfl (fun w hw => clone_any (vs.getD k default).a (vs.getD k default).c (vs.getD k default).l hi hVs hVl w (hw.rdH RdH.hd.tl.tl.tl.tl.tl.tl.tl.tl)) ?_; rintro _ hc ⟨ac, cc, rfl, oc⟩)) | (first | (refine J.o 0 ?_; refine J.ev' hΓ ?_) | refine J.nil ?_ | (refine J.o 4 ?_; first | refine J.e0 hΓ ?_ | refine J.e1 hΓ ?_ | refine J.e2 hΓ ?_ | refine J.lT default hΓ ?_) | (refine J.o 3 ?_; first | refine J.iJ hΓ ?_ | refine J.fP hΓ ?_ | refine J.ev' hΓ ?_) | (refine J.o 1 ?_; first | refine J.ad ?_ | refine J.sb ?_) | (refine J.o 5 ?_; first | refine J.t0 hΓ ?_ | refine J.t1 hΓ ?_ | refine J.tT _ default hΓ (fun _ _ => ?_) | refine J.tT2 _ default hΓ (fun _ _ => ?_)) | (refine J.o 7 ?_; refine J.al hΓ (fun _ => ?_)) | (refine J.o 8 ?_; refine J.bd hΓ ?_) | (refine J.o 9 ?_; refine J.bl hΓ (fun _ => ?_)) | (refine J.o 10 ?_; refine J.ev' hΓ ?_) | (refine J.o 11 ?_; refine J.ev' hΓ ?_)))
        | (first | refine JC.seq ?_ | refine JC.region ?_ | refine JC.block ?_ | refine JC.ret ?_ | refine JC.exit ?_ | refine JC.skip ?_ | refine thenK.nn ?_ | refine thenK.x ?_ | refine blockK.nn ?_ | refine blockK.hit rfl ?_ | refine JC.condT rfl ?_ | refine JC.condF rfl ?_ | (refine JC.cond rfl (fun hc => ?_) (fun hc => ?_) <;> ((try simp only [tcS] at hc) <;> first | (first | (exact absurd rfl hc) | (exfalso; omega) | (exact (tF hc (by assumption)).elim) | (exact (fT hc (by assumption)).elim)) | skip)) | refine drawK.nn ?_ | refine loopK.x ?_)
        | (fail)
        | fail
      all_goals first | (exfalso; omega) | skip
      rename_i n12
      refine JC.loop (fun i => i == 13 || Nat.ble 101 i) (fun m g L' => ∃ (q : Nat) (hc : Heap), g 101 = .int .i64 (q : Int) ∧ q + m = (vs.getD k default).l.length ∧ OwT encI 1 3 ac cc (turn (fun q => rk U q.toNat) (vs.getD k default).l q) hc ∧ L' = hc :: [(n12, .cells ⟨[.int .i64 (vs.getD k default).kind, .int .i64 (vs.getD k default).lit, .slice ac (vs.getD k default).l.length cc]⟩ 82 (0, 0))] :: hA :: [(n10, netOb N ao os.length co)] :: hO :: hI :: [(n4, netOb 0 none 0 0)] :: [(b, bO N a vs.length cap bm)] :: ho :: hi :: hm :: L) (vs.getD k default).l.length ⟨0, hc, rfl, by omega, oc, rfl⟩ ?_
      clear oc
      rintro m2 g2 L' ⟨q, hK, e101, hqm, oc, rfl⟩
      refine JC.pin 101 e101 ?_
      clear e101
      unfold netOb bO
      have hl4 := turn_len (fun q => rk U q.toNat) (vs.getD k default).l q
      rcases Nat.lt_or_ge q (vs.getD k default).l.length with hq | hq
      case inr =>
        have hqe : q = (vs.getD k default).l.length := by omega
        rw [hqe, turn_all] at oc
        have hus1 : ([⟨(vs.getD k default).kind, (vs.getD k default).lit, ac, cc, (vs.getD k default).l.map fun q => rk U q.toNat⟩] : List NV).flatMap encNV = [.int .i64 (vs.getD k default).kind, .int .i64 (vs.getD k default).lit, .slice ac (vs.getD k default).l.length cc] := by
          show encNV _ ++ [] = _
          unfold encNV
          simp only [List.length_map, List.append_nil]
        repeat' first
          | (refine J.isJ ?_; first | (first | (refine J.o 4 ?_; first | refine J.e3 hΓ ?_) | (refine J.o 5 ?_; first | (refine J.perm br3 ?_; refine J.t0 hΓ ?_) | (refine J.perm br4 ?_; refine J.t0 hΓ ?_) | (refine J.perm br5 ?_; refine J.t0 hΓ ?_) | (refine J.perm br6 ?_; refine J.t0 hΓ ?_) | (refine J.perm br7 ?_; refine J.t0 hΓ ?_)) | (refine J.o 9 ?_; first | (first | (refine J.ap1 (enc := encNV) [⟨(vs.getD k default).kind, (vs.getD k default).lit, ac, cc, (vs.getD k default).l.map fun q => rk U q.toNat⟩] hΓ (fun a2 c2 h2 o2 => ?_) (hus := hus1)) | (refine J.perm (br1.cons _) ?_; refine J.ap1 (enc := encNV) [⟨(vs.getD k default).kind, (vs.getD k default).lit, ac, cc, (vs.getD k default).l.map fun q => rk U q.toNat⟩] hΓ (fun a2 c2 h2 o2 => ?_) (hus := hus1)) | (refine J.perm (br2.cons _) ?_; refine J.ap1 (enc := encNV) [⟨(vs.getD k default).kind, (vs.getD k default).lit, ac, cc, (vs.getD k default).l.map fun q => rk U q.toNat⟩] hΓ (fun a2 c2 h2 o2 => ?_) (hus := hus1)) | (refine J.perm (br3.cons _) ?_; refine J.ap1 (enc := encNV) [⟨(vs.getD k default).kind, (vs.getD k default).lit, ac, cc, (vs.getD k default).l.map fun q => rk U q.toNat⟩] hΓ (fun a2 c2 h2 o2 => ?_) (hus := hus1)) | (refine J.perm (br4.cons _) ?_; refine J.ap1 (enc := encNV) [⟨(vs.getD k default).kind, (vs.getD k default).lit, ac, cc, (vs.getD k default).l.map fun q => rk U q.toNat⟩] hΓ (fun a2 c2 h2 o2 => ?_) (hus := hus1)) | (refine J.perm (br5.cons _) ?_; refine J.ap1 (enc := encNV) [⟨(vs.getD k default).kind, (vs.getD k default).lit, ac, cc, (vs.getD k default).l.map fun q => rk U q.toNat⟩] hΓ (fun a2 c2 h2 o2 => ?_) (hus := hus1))) | (refine J.perm br1 ?_; first | (refine J.ap1 (enc := encNV) [⟨(vs.getD k default).kind, (vs.getD k default).lit, ac, cc, (vs.getD k default).l.map fun q => rk U q.toNat⟩] hΓ (fun a2 c2 h2 o2 => ?_) (hus := hus1)) | (refine J.perm (br1.cons _) ?_; refine J.ap1 (enc := encNV) [⟨(vs.getD k default).kind, (vs.getD k default).lit, ac, cc, (vs.getD k default).l.map fun q => rk U q.toNat⟩] hΓ (fun a2 c2 h2 o2 => ?_) (hus := hus1)) | (refine J.perm (br2.cons _) ?_; refine J.ap1 (enc := encNV) [⟨(vs.getD k default).kind, (vs.getD k default).lit, ac, cc, (vs.getD k default).l.map fun q => rk U q.toNat⟩] hΓ (fun a2 c2 h2 o2 => ?_) (hus := hus1)) | (refine J.perm (br3.cons _) ?_; refine J.ap1 (enc := encNV) [⟨(vs.getD k default).kind, (vs.getD k default).lit, ac, cc, (vs.getD k default).l.map fun q => rk U q.toNat⟩] hΓ (fun a2 c2 h2 o2 => ?_) (hus := hus1)) | (refine J.perm (br4.cons _) ?_; refine J.ap1 (enc := encNV) [⟨(vs.getD k default).kind, (vs.getD k default).lit, ac, cc, (vs.getD k default).l.map fun q => rk U q.toNat⟩] hΓ (fun a2 c2 h2 o2 => ?_) (hus := hus1)) | (refine J.perm (br5.cons _) ?_; refine J.ap1 (enc := encNV) [⟨(vs.getD k default).kind, (vs.getD k default).lit, ac, cc, (vs.getD k default).l.map fun q => rk U q.toNat⟩] hΓ (fun a2 c2 h2 o2 => ?_) (hus := hus1))) | (refine J.perm br2 ?_; first | (refine J.ap1 (enc := encNV) [⟨(vs.getD k default).kind, (vs.getD k default).lit, ac, cc, (vs.getD k default).l.map fun q => rk U q.toNat⟩] hΓ (fun a2 c2 h2 o2 => ?_) (hus := hus1)) | (refine J.perm (br1.cons _) ?_; refine J.ap1 (enc := encNV) [⟨(vs.getD k default).kind, (vs.getD k default).lit, ac, cc, (vs.getD k default).l.map fun q => rk U q.toNat⟩] hΓ (fun a2 c2 h2 o2 => ?_) (hus := hus1)) | (refine J.perm (br2.cons _) ?_; refine J.ap1 (enc := encNV) [⟨(vs.getD k default).kind, (vs.getD k default).lit, ac, cc, (vs.getD k default).l.map fun q => rk U q.toNat⟩] hΓ (fun a2 c2 h2 o2 => ?_) (hus := hus1)) | (refine J.perm (br3.cons _) ?_; refine J.ap1 (enc := encNV) [⟨(vs.getD k default).kind, (vs.getD k default).lit, ac, cc, (vs.getD k default).l.map fun q => rk U q.toNat⟩] hΓ (fun a2 c2 h2 o2 => ?_) (hus := hus1)) | (refine J.perm (br4.cons _) ?_; refine J.ap1 (enc := encNV) [⟨(vs.getD k default).kind, (vs.getD k default).lit, ac, cc, (vs.getD k default).l.map fun q => rk U q.toNat⟩] hΓ (fun a2 c2 h2 o2 => ?_) (hus := hus1)) | (refine J.perm (br5.cons _) ?_; refine J.ap1 (enc := encNV) [⟨(vs.getD k default).kind, (vs.getD k default).lit, ac, cc, (vs.getD k default).l.map fun q => rk U q.toNat⟩] hΓ (fun a2 c2 h2 o2 => ?_) (hus := hus1))))) | (first | (refine J.o 0 ?_; refine J.ev' hΓ ?_) | refine J.nil ?_ | (refine J.o 4 ?_; first | refine J.e0 hΓ ?_ | refine J.e1 hΓ ?_ | refine J.e2 hΓ ?_ | refine J.lT default hΓ ?_) | (refine J.o 3 ?_; first | refine J.iJ hΓ ?_ | refine J.fP hΓ ?_ | refine J.ev' hΓ ?_) | (refine J.o 1 ?_; first | refine J.ad ?_ | refine J.sb ?_) | (refine J.o 5 ?_; first | refine J.t0 hΓ ?_ | refine J.t1 hΓ ?_ | refine J.tT _ default hΓ (fun _ _ => ?_) | refine J.tT2 _ default hΓ (fun _ _ => ?_)) | (refine J.o 7 ?_; refine J.al hΓ (fun _ => ?_)) | (refine J.o 8 ?_; refine J.bd hΓ ?_) | (refine J.o 9 ?_; refine J.bl hΓ (fun _ => ?_)) | (refine J.o 10 ?_; refine J.ev' hΓ ?_) | (refine J.o 11 ?_; refine J.ev' hΓ ?_)))
          | (first | refine JC.seq ?_ | refine JC.region ?_ | refine JC.block ?_ | refine JC.ret ?_ | refine JC.exit ?_ | refine JC.skip ?_ | refine thenK.nn ?_ | refine thenK.x ?_ | refine blockK.nn ?_ | refine blockK.hit rfl ?_ | refine JC.condT rfl ?_ | refine JC.condF rfl ?_ | (refine JC.cond rfl (fun hc => ?_) (fun hc => ?_) <;> ((try simp only [tcS] at hc) <;> first | (first | (exact absurd rfl hc) | (exfalso; omega) | (exact (tF hc (by assumption)).elim) | (exact (fT hc (by assumption)).elim)) | skip)) | refine drawK.nn ?_ | refine loopK.x ?_)
          | (fail)
          | fail
        all_goals first | (exfalso; omega) | skip
        rename_i oA2 _
        have hsetk : ∀ j, j < r + 1 → (ts.set k (os.length : Int)).getD j default = if j < k + 1 then (if U.getD j false = true then rk U j else 0) else b2i (U.getD j false) := fun j hj => by
          rw [List.getD_eq_getElem?_getD, List.getElem?_set]
          by_cases hjk : k = j
          · subst hjk
            rw [if_pos rfl, if_pos (by omega), if_pos (show k < k + 1 by omega), hUk, if_pos rfl, ← hlen]; rfl
          · rw [if_neg hjk, ← List.getD_eq_getElem?_getD, hts j hj]
            by_cases hlt : j < k
            · rw [if_pos hlt, if_pos (show j < k + 1 by omega)]
            · rw [if_neg hlt, if_neg (show ¬ j < k + 1 by omega)]
        refine loopK.nn (m - 1) (by omega) (by repeat (first | refine Ag.upd rfl ?_ | exact Ag.hv | refine Ag.hv2 (fun i hi => by simp at hi ⊢; omega) ?_)) ⟨_, ⟨k + 1, _, _, a2, c2, os ++ [(⟨(vs.getD k default).kind, (vs.getD k default).lit, ac, cc, (vs.getD k default).l.map fun q => rk U q.toNat⟩ : NV)], h2, hI ++ hK, ?_, by omega, oA2, by rw [List.length_set]; exact htl, hsetk, ⟨o2, fun v hv => ?_, fun v hv => ?_⟩, ?_, rfl⟩, fun w hw => H.sel (l := [_, _, _, _]) (M := [(n4, netOb 0 none 0 0)] :: [(b, bO N a vs.length cap bm)] :: ho :: hi :: hm :: L) (H.sel (l := [_, _, _, _, _, _]) (M := [(n4, netOb 0 none 0 0)] :: [(b, bO N a vs.length cap bm)] :: ho :: hi :: hm :: L) hw [5, 2, 4, 0, 1]).mg1 [1, 2, 3, 0]⟩
        · show Value.int .i64 _ = _; congr 1
        · rcases List.mem_append.1 hv with hv | hv
          · exact (noi v hv).sub fun y hy => List.mem_append_left _ hy
          · rw [List.mem_singleton.1 hv]; exact oc.sl.sub fun y hy => List.mem_append_right _ hy
        · rcases List.mem_append.1 hv with hv | hv
          · rcases noo2 v hv with h | ⟨g, cs, h1, h2, h3⟩
            · exact .inl h
            · exact .inr ⟨g, cs, h1, List.mem_append_left _ h2, h3⟩
          · rw [List.mem_singleton.1 hv]
            rcases oc.row with ⟨_, _, h, _⟩ | ⟨g, cs, h1, h2, h3, h4, _⟩
            · exact .inl h
            · refine .inr ⟨g, cs, h1, by rw [h2]; exact List.mem_append_right _ List.mem_cons_self, ?_⟩
              simp only [Nat.mul_one] at *
              omega
        · rw [hnst, List.map_append, hos]; rfl
      have hxq := hVo _ (mem_g (vs.getD k default).l q hq)
      have hgq := turn_getD (fun q => rk U q.toNat) (vs.getD k default).l q hq
      have hUq : U.getD ((vs.getD k default).l.getD q default).toNat false = true := hcl k hk hUk _ (by rw [inP_of]; exact mem_g (vs.getD k default).l q hq)
      have htq : ts.getD ((vs.getD k default).l.getD q default).toNat default = rk U ((vs.getD k default).l.getD q default).toNat := by
        rw [hts _ (by omega), if_pos (by omega), if_pos hUq]
      have hst := turn_set (fun q => rk U q.toNat) (vs.getD k default).l q hq
      repeat' first
        | (refine J.isJ ?_; first | (first | (refine J.o 4 ?_; first | (refine J.lT default hΓ ?_ (hs := oc.sl) (hr := RdH.hd); rw [hgq]) | (refine J.lT default hΓ ?_ (hs := oA.sl) (hr := RdH.hd.tl.tl); rw [htq]))) | (first | (refine J.o 0 ?_; refine J.ev' hΓ ?_) | refine J.nil ?_ | (refine J.o 4 ?_; first | refine J.e0 hΓ ?_ | refine J.e1 hΓ ?_ | refine J.e2 hΓ ?_ | refine J.lT default hΓ ?_) | (refine J.o 3 ?_; first | refine J.iJ hΓ ?_ | refine J.fP hΓ ?_ | refine J.ev' hΓ ?_) | (refine J.o 1 ?_; first | refine J.ad ?_ | refine J.sb ?_) | (refine J.o 5 ?_; first | refine J.t0 hΓ ?_ | refine J.t1 hΓ ?_ | refine J.tT _ default hΓ (fun _ _ => ?_) | refine J.tT2 _ default hΓ (fun _ _ => ?_)) | (refine J.o 7 ?_; refine J.al hΓ (fun _ => ?_)) | (refine J.o 8 ?_; refine J.bd hΓ ?_) | (refine J.o 9 ?_; refine J.bl hΓ (fun _ => ?_)) | (refine J.o 10 ?_; refine J.ev' hΓ ?_) | (refine J.o 11 ?_; refine J.ev' hΓ ?_)))
        | (first | refine JC.seq ?_ | refine JC.region ?_ | refine JC.block ?_ | refine JC.ret ?_ | refine JC.exit ?_ | refine JC.skip ?_ | refine thenK.nn ?_ | refine thenK.x ?_ | refine blockK.nn ?_ | refine blockK.hit rfl ?_ | refine JC.condT rfl ?_ | refine JC.condF rfl ?_ | (refine JC.cond rfl (fun hc => ?_) (fun hc => ?_) <;> ((try simp only [tcS] at hc) <;> first | (first | (exact absurd rfl hc) | (exfalso; omega) | (exact (tF hc (by assumption)).elim) | (exact (fT hc (by assumption)).elim)) | skip)) | refine drawK.nn ?_ | refine loopK.x ?_)
        | ((refine JC.drawN [] [] (by kernel_rfl) (by kernel_rfl) ?_))
        | fail
      all_goals first | (exfalso; omega) | skip
      rename_i oc2
      have oc3 : OwT encI 1 3 ac cc (turn (fun q => rk U q.toNat) (vs.getD k default).l (q + 1)) _ := hst ▸ oc2
      refine loopK.nn (m2 - 1) (by omega) (by repeat (first | refine Ag.upd rfl ?_ | exact Ag.hv)) ⟨q + 1, _, ?_, by omega, oc3, rfl⟩
      show Value.int .i64 _ = _; congr 1
  obtain ⟨i, rfl⟩ : ∃ i, m = i + 1 := ⟨m - 1, by omega⟩
  have e7' : g 7 = .int .i64 (i : Int) := e7.trans (congrArg (Value.int .i64) (by omega))
  refine JC.pin 7 e7' ?_
  clear e7 e7'
  have hiv : i < vs.length := by omega
  have hmi := mem_g vs i hiv
  have hVl := hvl1 _ hmi
  have hVs := ins _ hmi
  have hVo := hord i hiv
  have hlU : (U.map b2i).length = r + 1 := by rw [List.length_map]; exact hUl
  have hU2 : mk (vs.map pnV) i (orS U (vs.getD i default).l (U.getD i false)) = F := by rw [← hU]; show _ = mk _ i (orS U (inP _ i) _); rw [inP_of]
  repeat' first
    | (refine J.isJ ?_; first | (first | (refine J.o 4 ?_; refine J.lT default hΓ ?_ (hs := ow.sl) (hr := RdH.hd.tl.tl.tl))) | (first | (refine J.o 0 ?_; refine J.ev' hΓ ?_) | refine J.nil ?_ | (refine J.o 4 ?_; first | refine J.e0 hΓ ?_ | refine J.e1 hΓ ?_ | refine J.e2 hΓ ?_ | refine J.lT default hΓ ?_) | (refine J.o 3 ?_; first | refine J.iJ hΓ ?_ | refine J.fP hΓ ?_ | refine J.ev' hΓ ?_) | (refine J.o 1 ?_; first | refine J.ad ?_ | refine J.sb ?_) | (refine J.o 5 ?_; first | refine J.t0 hΓ ?_ | refine J.t1 hΓ ?_ | refine J.tT _ default hΓ (fun _ _ => ?_) | refine J.tT2 _ default hΓ (fun _ _ => ?_)) | (refine J.o 7 ?_; refine J.al hΓ (fun _ => ?_)) | (refine J.o 8 ?_; refine J.bd hΓ ?_) | (refine J.o 9 ?_; refine J.bl hΓ (fun _ => ?_)) | (refine J.o 10 ?_; refine J.ev' hΓ ?_) | (refine J.o 11 ?_; refine J.ev' hΓ ?_)))
    | (first | refine JC.seq ?_ | refine JC.region ?_ | refine JC.block ?_ | refine JC.ret ?_ | refine JC.exit ?_ | refine JC.skip ?_ | refine thenK.nn ?_ | refine thenK.x ?_ | refine blockK.nn ?_ | refine blockK.hit rfl ?_ | refine JC.condT rfl ?_ | refine JC.condF rfl ?_ | (refine JC.cond rfl (fun hc => ?_) (fun hc => ?_) <;> ((try simp only [tcS] at hc) <;> first | (first | (exact absurd rfl hc) | (exfalso; omega) | (exact (tF hc (by assumption)).elim) | (exact (fT hc (by assumption)).elim)) | skip)) | refine drawK.nn ?_ | refine loopK.x ?_)
    | (fail)
    | fail
  all_goals first | (exfalso; omega) | skip
  refine JC.loop (fun i => i == 9 || Nat.ble 56 i) (fun m g L' => ∃ (q : Nat) (hA : Heap), g 56 = .int .i64 (q : Int) ∧ q + m = (vs.getD i default).l.length ∧ OwT encI 1 3 aA (r + 1) ((orS U ((vs.getD i default).l.take q) (U.getD i false)).map b2i) hA ∧ L' = hA :: [(n4, netOb 0 none 0 0)] :: [(b, bO N a vs.length cap bm)] :: ho :: hi :: hm :: L) (vs.getD i default).l.length ⟨0, hA, rfl, by omega, oA, rfl⟩ ?_
  clear oA hlU
  rintro m2 g2 L' ⟨q, hA, e56, hqm, oA, rfl⟩
  refine JC.pin 56 e56 ?_
  clear e56
  unfold netOb bO
  have hlU : ((orS U ((vs.getD i default).l.take q) (U.getD i false)).map b2i).length = r + 1 := by rw [List.length_map, orS_len]; exact hUl
  rcases Nat.lt_or_ge q (vs.getD i default).l.length with hq | hq
  case inr =>
    rw [List.take_of_length_le hq] at oA
    repeat' first
      | (refine J.isJ ?_; first | (fail) | (first | (refine J.o 0 ?_; refine J.ev' hΓ ?_) | refine J.nil ?_ | (refine J.o 4 ?_; first | refine J.e0 hΓ ?_ | refine J.e1 hΓ ?_ | refine J.e2 hΓ ?_ | refine J.lT default hΓ ?_) | (refine J.o 3 ?_; first | refine J.iJ hΓ ?_ | refine J.fP hΓ ?_ | refine J.ev' hΓ ?_) | (refine J.o 1 ?_; first | refine J.ad ?_ | refine J.sb ?_) | (refine J.o 5 ?_; first | refine J.t0 hΓ ?_ | refine J.t1 hΓ ?_ | refine J.tT _ default hΓ (fun _ _ => ?_) | refine J.tT2 _ default hΓ (fun _ _ => ?_)) | (refine J.o 7 ?_; refine J.al hΓ (fun _ => ?_)) | (refine J.o 8 ?_; refine J.bd hΓ ?_) | (refine J.o 9 ?_; refine J.bl hΓ (fun _ => ?_)) | (refine J.o 10 ?_; refine J.ev' hΓ ?_) | (refine J.o 11 ?_; refine J.ev' hΓ ?_)))
      | (first | refine JC.seq ?_ | refine JC.region ?_ | refine JC.block ?_ | refine JC.ret ?_ | refine JC.exit ?_ | refine JC.skip ?_ | refine thenK.nn ?_ | refine thenK.x ?_ | refine blockK.nn ?_ | refine blockK.hit rfl ?_ | refine JC.condT rfl ?_ | refine JC.condF rfl ?_ | (refine JC.cond rfl (fun hc => ?_) (fun hc => ?_) <;> ((try simp only [tcS] at hc) <;> first | (first | (exact absurd rfl hc) | (exfalso; omega) | (exact (tF hc (by assumption)).elim) | (exact (fT hc (by assumption)).elim)) | skip)) | refine drawK.nn ?_ | refine loopK.x ?_)
      | (fail)
      | fail
    all_goals first | (exfalso; omega) | skip
    refine loopK.nn i (by omega) (by repeat (first | refine Ag.upd rfl ?_ | exact Ag.hv | refine Ag.hv2 (fun i hi => by simp at hi ⊢; omega) ?_)) ⟨_, hA, ?_, by omega, by rw [orS_len]; exact hUl, hU2, oA, rfl⟩
    show Value.int .i64 _ = _; congr 1
  have hxq := hVo _ (mem_g (vs.getD i default).l q hq)
  have hxi : (orS U ((vs.getD i default).l.take q) (U.getD i false)).getD i false = U.getD i false := orS_ne _ _ _ _ fun k hk => by have := hVo k (List.mem_of_mem_take hk); omega
  have hsn : (orS U ((vs.getD i default).l.take q) (U.getD i false)).set ((vs.getD i default).l.getD q default).toNat ((orS U ((vs.getD i default).l.take q) (U.getD i false)).getD ((vs.getD i default).l.getD q default).toNat false || U.getD i false) = orS U ((vs.getD i default).l.take (q + 1)) (U.getD i false) := by rw [take_g _ _ hq, orS_snoc]
  repeat' first
    | (refine J.isJ ?_; first | (first | (refine J.o 4 ?_; first | (refine J.lT default hΓ ?_ (hs := hVs) (hr := RdH.hd.tl.tl.tl.tl)) | (refine J.lT default hΓ ?_ (hs := oA.sl) (hr := RdH.hd); rw [mapb_getD])) | (refine J.o 1 ?_; refine J.oB ?_; rw [hxi])) | (first | (refine J.o 0 ?_; refine J.ev' hΓ ?_) | refine J.nil ?_ | (refine J.o 4 ?_; first | refine J.e0 hΓ ?_ | refine J.e1 hΓ ?_ | refine J.e2 hΓ ?_ | refine J.lT default hΓ ?_) | (refine J.o 3 ?_; first | refine J.iJ hΓ ?_ | refine J.fP hΓ ?_ | refine J.ev' hΓ ?_) | (refine J.o 1 ?_; first | refine J.ad ?_ | refine J.sb ?_) | (refine J.o 5 ?_; first | refine J.t0 hΓ ?_ | refine J.t1 hΓ ?_ | refine J.tT _ default hΓ (fun _ _ => ?_) | refine J.tT2 _ default hΓ (fun _ _ => ?_)) | (refine J.o 7 ?_; refine J.al hΓ (fun _ => ?_)) | (refine J.o 8 ?_; refine J.bd hΓ ?_) | (refine J.o 9 ?_; refine J.bl hΓ (fun _ => ?_)) | (refine J.o 10 ?_; refine J.ev' hΓ ?_) | (refine J.o 11 ?_; refine J.ev' hΓ ?_)))
    | (first | refine JC.seq ?_ | refine JC.region ?_ | refine JC.block ?_ | refine JC.ret ?_ | refine JC.exit ?_ | refine JC.skip ?_ | refine thenK.nn ?_ | refine thenK.x ?_ | refine blockK.nn ?_ | refine blockK.hit rfl ?_ | refine JC.condT rfl ?_ | refine JC.condF rfl ?_ | (refine JC.cond rfl (fun hc => ?_) (fun hc => ?_) <;> ((try simp only [tcS] at hc) <;> first | (first | (exact absurd rfl hc) | (exfalso; omega) | (exact (tF hc (by assumption)).elim) | (exact (fT hc (by assumption)).elim)) | skip)) | refine drawK.nn ?_ | refine loopK.x ?_)
    | ((refine JC.drawN [] [] (by kernel_rfl) (by kernel_rfl) ?_))
    | fail
  all_goals first | (exfalso; omega) | skip
  rename_i oA2
  rw [← List.map_set, hsn] at oA2
  refine loopK.nn (m2 - 1) (by omega) (by repeat (first | refine Ag.upd rfl ?_ | exact Ag.hv)) ⟨q + 1, _, ?_, by omega, oA2, rfl⟩
  show Value.int .i64 _ = _; congr 1
end Go.Proofs.YtdiciemlbhkilaaGreatDoor
namespace Go.Proofs.YtdiciemlbhkilaaGreatDoor
open Go Go.Cx Go.RowKit
set_option linter.unusedVariables false
set_option linter.unusedSimpArgs false
set_option maxHeartbeats 4000000
attribute [local irreducible] J JC thenK blockK loopK roundK drawK retK QW Qt pel List.set Calls
attribute [local irreducible] JE Br eK0 eK3 brK
theorem add_cases {B : List PN} (h : OkP B) {N : Int} (hN : 0 ≤ N ∧ N ≤ 128) {x : PN} (hf : formedP x N B.length = true) : (∃ y, addP B x = (y, B) ∧ 0 ≤ y ∧ y < B.length) ∨ ∃ z, addP B x = putP B z ∧ OkX B.length z := by
  have hr := formed_rng hf
  have hc := fun hk => formed_const (m := B.length) hN hf hk
  obtain ⟨kind, lt, l⟩ := x
  simp only at hr hc
  by_cases hk : kind = 3 ∨ kind = 4
  case neg =>
    rw [add_const (x := (kind, lt, l)) ⟨fun e => hk (.inl e), fun e => hk (.inr e)⟩]
    exact .inr ⟨_, rfl, hc hk⟩
  rw [add_gate h hk _ rfl]
  generalize hs : (flatP B kind l).foldl (addS B (dropK kind) (endK kind)) ⟨[], [], true⟩ = s
  have hdk : 0 ≤ dropK kind ∧ dropK kind ≤ 1 := by unfold dropK; split <;> decide
  have hek : 0 ≤ endK kind ∧ endK kind ≤ 1 := by unfold endK; split <;> decide
  by_cases ho : s.open_ = true
  case neg => rw [if_neg ho]; exact .inr ⟨_, rfl, okX_const (by omega) (by omega)⟩
  have of := out_facts h hr s hs.symm ho
  have hln := sortS_len s.out
  rw [if_pos ho]
  split
  · exact .inr ⟨_, rfl, okX_const (by omega) (by omega)⟩
  · split
    · have hm := mem_g (sortS s.out) 0 (by omega)
      have := of.2.2 _ hm
      exact .inl ⟨_, rfl, this.1, this.2⟩
    · refine .inr ⟨_, rfl, ⟨by show 0 ≤ kind ∧ kind ≤ 4; omega, ⟨(by decide : (-128 : Int) ≤ 0), (by decide : (0 : Int) ≤ 128)⟩, fun e => ?_, of.1, of.2.2⟩⟩
      have e : kind = 2 := e
      omega
theorem formAll_at (N : Int) : ∀ (B : List PN) (k : Int), formAll N B k = true → ∀ j, j < B.length → formedP (B.getD j default) N (k + j) = true
  | [], k, _, j, hj => absurd hj (Nat.not_lt_zero _)
  | x :: B, k, h, j, hj => by
    unfold formAll at h
    rw [Bool.and_eq_true] at h
    cases j with
    | zero => rw [Int.natCast_zero, Int.add_zero]; exact h.1
    | succ j =>
      have := formAll_at N B (k + 1) h.2 j (by rw [List.length_cons] at hj; omega)
      rw [show k + ((j + 1 : Nat) : Int) = k + 1 + (j : Int) by omega]
      exact this
theorem check_facts {N : Int} {X : List PN} (h : checkP N X = true) : (0 ≤ N ∧ N ≤ 128) ∧ (1 ≤ X.length ∧ X.length ≤ 65536) ∧ formAll N X 0 = true := by
  unfold checkP at h
  simp only [Bool.and_eq_true, decide_eq_true_eq] at h
  exact ⟨h.1, h.2.1, h.2.2⟩
end Go.Proofs.YtdiciemlbhkilaaGreatDoor
namespace Go.Proofs.YtdiciemlbhkilaaGreatDoor
open Go Go.Cx Go.RowKit
set_option linter.unusedVariables false
set_option linter.unusedSimpArgs false
set_option maxHeartbeats 4000000
attribute [local irreducible] J JC thenK blockK loopK roundK drawK retK QW Qt pel List.set Calls
attribute [local irreducible] JE Br eK0 eK3 brK
def truS (s : Nat × Nat) (T : List Bool) (x : PN) : Bool := if x.1 = 1 then true else if x.1 = 2 then decide (hasB s (absI x.2.1) = decide (0 < x.2.1)) else if x.1 = 3 then !(x.2.2.any fun k => !(T.getD k.toNat default)) else if x.1 = 4 then x.2.2.any fun k => T.getD k.toNat default else false
def truT (s : Nat × Nat) (X : List PN) : List Bool := X.foldl (fun T x => T ++ [truS s T x]) []
def evalP (s : Nat × Nat) (N : Int) (X : List PN) : Bool := checkP N X && (truT s X).getD (X.length - 1) default
theorem truT_snoc (s : Nat × Nat) (X : List PN) (x : PN) : truT s (X ++ [x]) = truT s X ++ [truS s (truT s X) x] := by
  unfold truT; rw [List.foldl_append]; rfl
theorem truT_len (s : Nat × Nat) (X : List PN) : (truT s X).length = X.length := by
  have h : ∀ (X : List PN) (T : List Bool), (X.foldl (fun T x => T ++ [truS s T x]) T).length = T.length + X.length := fun X => by
    induction X with
    | nil => intro T; rfl
    | cons x X ih => intro T; rw [List.foldl_cons, ih]; simp only [List.length_append, List.length_cons, List.length_nil]; omega
  have := h X []
  rw [List.length_nil, Nat.zero_add] at this
  exact this
theorem any_congr {l : List Int} {p q : Int → Bool} (h : ∀ x, x ∈ l → p x = q x) : l.any p = l.any q := by
  induction l with
  | nil => rfl
  | cons x l ih => rw [List.any_cons, List.any_cons, h x List.mem_cons_self, ih fun y hy => h y (List.mem_cons_of_mem _ hy)]
theorem formed_kinds {x : PN} {N bf : Int} (hf : formedP x N bf = true) : x.1 = 0 ∨ x.1 = 1 ∨ (x.1 = 2 ∧ x.2.1 ≠ 0 ∧ -N ≤ x.2.1 ∧ x.2.1 ≤ N) ∨ x.1 = 3 ∨ x.1 = 4 := by
  unfold formedP at hf
  rw [Bool.and_eq_true] at hf
  have h2 := hf.2
  split at h2
  · rename_i h; rcases h with h | h
    · exact .inl h
    · exact .inr (.inl h)
  · split at h2
    · rename_i h
      rw [Bool.and_eq_true] at h2
      have := h2.1
      unfold validB at this
      exact .inr (.inr (.inl ⟨h, by simpa using this⟩))
    · split at h2
      · rename_i h; rcases h with h | h
        · exact .inr (.inr (.inr (.inl h)))
        · exact .inr (.inr (.inr (.inr h)))
      · cases h2
end Go.Proofs.YtdiciemlbhkilaaGreatDoor
namespace Go.Proofs.YtdiciemlbhkilaaGreatDoor
open Go Go.Cx Go.RowKit
set_option linter.unusedVariables false
set_option linter.unusedSimpArgs false
set_option maxHeartbeats 4000000
attribute [local irreducible] J JC thenK blockK loopK roundK drawK retK QW Qt pel List.set Calls
def GateX (B : List PN) (x : PN) : Prop := 2 ≤ x.2.2.length ∧ x.2.2.Pairwise (· < ·) ∧ (∀ i, i ∈ x.2.2 → kindP B i ≠ x.1 ∧ 2 ≤ kindP B i) ∧ ∀ i k, i ∈ x.2.2 → k ∈ x.2.2 → kindP B i = 2 → kindP B k = 2 → litP B i ≠ -(litP B k)
def isG (x : PN) : Prop := x.1 = 3 ∨ x.1 = 4
structure Simp (N : Int) (B : List PN) : Prop where
  nd : B.Nodup
  fm : ∀ i : Nat, i < B.length → formedP (B.getD i default) N i = true
  gt : ∀ i : Nat, i < B.length → isG (B.getD i default) → GateX B (B.getD i default)
theorem kindP_nat (B : List PN) (i : Nat) : kindP B i = (B.getD i default).1 := by unfold kindP; rw [Int.toNat_natCast]
theorem litP_nat (B : List PN) (i : Nat) : litP B i = (B.getD i default).2.1 := by unfold litP; rw [Int.toNat_natCast]
theorem inP_nat (B : List PN) (i : Nat) : inP B i = (B.getD i default).2.2 := by unfold inP; rw [Int.toNat_natCast]
theorem getD_app {α : Type} [Inhabited α] (B C : List α) (i : Nat) (h : i < B.length) : (B ++ C).getD i default = B.getD i default := by
  rw [List.getD_eq_getElem?_getD, List.getD_eq_getElem?_getD, List.getElem?_append_left h]
theorem getD_lastN {α : Type} [Inhabited α] (B : List α) (x : α) : (B ++ [x]).getD B.length default = x := by
  rw [List.getD_eq_getElem?_getD, List.getElem?_append_right (Nat.le_refl _), Nat.sub_self]; rfl
theorem getD_last2 {α : Type} [Inhabited α] (B : List α) (x : α) (n : Nat) (h : B.length = n) : (B ++ [x]).getD n default = x := by
  subst h; exact getD_lastN B x
theorem getD_past {α : Type} [Inhabited α] (B : List α) (i : Nat) (h : B.length ≤ i) : B.getD i default = default := by
  rw [List.getD_eq_getElem?_getD, List.getElem?_eq_none h]; rfl
theorem kindP_app (B C : List PN) (i : Int) (h : i.toNat < B.length) : kindP (B ++ C) i = kindP B i := by unfold kindP; rw [getD_app _ _ _ h]
theorem litP_app (B C : List PN) (i : Int) (h : i.toNat < B.length) : litP (B ++ C) i = litP B i := by unfold litP; rw [getD_app _ _ _ h]
theorem inP_app (B C : List PN) (i : Int) (h : i.toNat < B.length) : inP (B ++ C) i = inP B i := by unfold inP; rw [getD_app _ _ _ h]
theorem mem_getD {B : List PN} {x : PN} (h : x ∈ B) : ∃ i, i < B.length ∧ B.getD i default = x := by
  obtain ⟨i, hi, rfl⟩ := List.mem_iff_getElem.1 h
  exact ⟨i, hi, by rw [List.getD_eq_getElem?_getD, List.getElem?_eq_getElem hi]; rfl⟩
theorem formed_low {x : PN} {N bf : Int} (h : formedP x N bf = true) (hk : ¬ isG x) : x.2.2 = [] := by
  obtain ⟨k, t, l⟩ := x
  unfold formedP at h
  unfold isG at hk
  simp only [Bool.and_eq_true, Bool.not_eq_true'] at h hk ⊢
  have h2 := h.2
  split at h2
  · simp only [Bool.and_eq_true, decide_eq_true_eq] at h2; exact List.length_eq_zero_iff.1 h2.2
  · split at h2
    · simp only [Bool.and_eq_true, decide_eq_true_eq] at h2; exact List.length_eq_zero_iff.1 h2.2
    · first | cases h2 | (split at h2 <;> first | contradiction | cases h2)
theorem formed_gate {kind : Int} {N bf : Int} {l : List Int} (hk : kind = 3 ∨ kind = 4) (hl : ∀ i, i ∈ l → 0 ≤ i ∧ i < bf) : formedP (kind, 0, l) N bf = true := by
  unfold formedP
  simp only [Bool.and_eq_true, Bool.not_eq_true']
  refine ⟨List.any_eq_false.2 fun i hi => ?_, ?_⟩
  · have := hl i hi
    unfold badI
    simp only [Bool.or_eq_true, decide_eq_true_eq]
    omega
  · rw [if_neg (by omega), if_neg (by omega), if_pos hk]; rfl
theorem formed_c {kind : Int} {N bf : Int} (hk : kind = 0 ∨ kind = 1) : formedP (kind, 0, []) N bf = true := by
  unfold formedP
  simp only [List.any_nil, Bool.not_false, Bool.true_and]
  rw [if_pos hk]; rfl
theorem formed_empty {x : PN} {N bf : Int} (h : formedP x N bf = true) (hk : ¬ isG x) : formedP (x.1, x.2.1, []) N bf = true := by
  have := formed_low h hk
  obtain ⟨k, t, l⟩ := x
  simp only at this
  subst this
  exact h
theorem GateX.congr {B C : List PN} {x : PN} (h : GateX B x) (hr : ∀ i, i ∈ x.2.2 → i.toNat < B.length) : GateX (B ++ C) x := by
  obtain ⟨h1, h2, h3, h4⟩ := h
  refine ⟨h1, h2, fun i hi => ?_, fun i k hi hk => ?_⟩
  · rw [kindP_app _ _ _ (hr i hi)]; exact h3 i hi
  · rw [kindP_app _ _ _ (hr i hi), kindP_app _ _ _ (hr k hk), litP_app _ _ _ (hr i hi), litP_app _ _ _ (hr k hk)]; exact h4 i k hi hk
theorem Simp.nil (N : Int) : Simp N [] := ⟨List.nodup_nil, fun i hi => absurd hi (Nat.not_lt_zero _), fun i hi => absurd hi (Nat.not_lt_zero _)⟩
theorem Simp.ord {N : Int} {B : List PN} (h : Simp N B) : Ord B := fun i k hk => by
  rw [inP_nat] at hk
  by_cases hi : i < B.length
  · exact formed_rng (h.fm i hi) k hk
  · rw [getD_past _ _ (by omega)] at hk; exact absurd hk List.not_mem_nil
theorem Simp.put {N : Int} {B : List PN} (h : Simp N B) {z : PN} (hf : formedP z N B.length = true) (hg : isG z → GateX B z) : Simp N (putP B z).2 := by
  unfold putP
  by_cases hz : z ∈ B
  · rw [if_pos hz]; exact h
  · rw [if_neg hz]
    have hlen : (B ++ [z]).length = B.length + 1 := by rw [List.length_append]; rfl
    refine ⟨?_, fun i hi => ?_, fun i hi hgi => ?_⟩
    · rw [List.nodup_append]
      exact ⟨h.nd, by simp, fun a ha b hb => by rw [List.mem_singleton.1 hb]; exact fun e => hz (e ▸ ha)⟩
    · by_cases hb : i < B.length
      · show formedP ((B ++ [z]).getD i default) N i = true
        rw [getD_app _ _ _ hb]; exact h.fm i hb
      · have : i = B.length := by have : i < (B ++ [z]).length := hi; omega
        subst this
        show formedP ((B ++ [z]).getD B.length default) N B.length = true
        rw [getD_lastN]; exact hf
    · show GateX (B ++ [z]) ((B ++ [z]).getD i default)
      have hgi : isG ((B ++ [z]).getD i default) := hgi
      by_cases hb : i < B.length
      · rw [getD_app _ _ _ hb] at hgi ⊢
        exact (h.gt i hb hgi).congr fun k hk => by have := formed_rng (h.fm i hb) k hk; omega
      · have : i = B.length := by have : i < (B ++ [z]).length := hi; omega
        subst this
        rw [getD_lastN] at hgi ⊢
        exact (hg hgi).congr fun k hk => by have := formed_rng hf k hk; omega
theorem kind_rng {N : Int} {B : List PN} (h : Simp N B) (i : Int) : 0 ≤ kindP B i ∧ kindP B i ≤ 4 := by
  unfold kindP
  by_cases hb : i.toNat < B.length
  · rcases formed_kinds (h.fm _ hb) with e | e | e | e | e
    · omega
    · omega
    · omega
    · omega
    · omega
  · rw [getD_past _ _ (by omega)]; exact ⟨Int.le_refl 0, (by decide : (0 : Int) ≤ 4)⟩
theorem flat_kind {N : Int} {B : List PN} (h : Simp N B) {kind : Int} (hk : kind = 3 ∨ kind = 4) {l : List Int} (hl : ∀ i, i ∈ l → 0 ≤ i ∧ i < B.length) : ∀ i, i ∈ flatP B kind l → kindP B i ≠ kind := fun i hi => by
  unfold flatP at hi
  obtain ⟨j, hj, hi⟩ := List.mem_flatMap.1 hi
  have hjr := hl j hj
  split at hi
  · rename_i hkj
    have hjl : j.toNat < B.length := by omega
    have hg : isG (B.getD j.toNat default) := by
      have : (B.getD j.toNat default).1 = kind := hkj
      unfold isG; rw [this]; exact hk
    have hG := h.gt _ hjl hg
    have h3 := (hG.2.2.1 i hi).1
    have hkj : (B.getD j.toNat default).1 = kind := hkj
    rw [hkj] at h3
    exact h3
  · rename_i hkj
    rw [List.mem_singleton.1 hi]; exact hkj
structure GIn (B : List PN) (kind : Int) (l D : List Int) : Prop where
  mem : ∀ x, x ∈ D ↔ x ∈ flatP B kind l ∧ kindP B x ≠ dropK kind
  nd : D.Nodup
  rg : ∀ i, i ∈ D → 0 ≤ i ∧ i < B.length
theorem gin {B : List PN} (h : OkP B) (kind : Int) {l : List Int} (hl : ∀ i, i ∈ l → 0 ≤ i ∧ i < B.length) : GIn B kind l (inputsR B kind (dropK kind) l) := by
  have ag := agree_all (B := B) (drop := dropK kind) (end_ := endK kind) (by unfold dropK endK; split <;> decide) (by unfold dropK; split <;> decide) (lit_ne h) (flatP B kind l)
  exact ⟨ag.mem, ag.nd, fun i hi => flat_rng h kind hl i ((ag.mem i).1 hi).1⟩
theorem add_doc {B : List PN} {kind lt : Int} {l : List Int} (hk : kind = 3 ∨ kind = 4) : addP B (kind, lt, l) = (if decR B (inputsR B kind (dropK kind) l) (endK kind) = true then putP B (endK kind, 0, []) else match inputsR B kind (dropK kind) l with
      | [] => putP B (dropK kind, 0, [])
      | [y] => (y, B)
      | _ => putP B (kind, 0, sortS (inputsR B kind (dropK kind) l))) := by
  unfold addP
  rw [if_neg (by omega)]
  rfl
theorem dropK_c (kind : Int) : dropK kind = 0 ∨ dropK kind = 1 := by unfold dropK; split <;> omega
theorem endK_c (kind : Int) : endK kind = 0 ∨ endK kind = 1 := by unfold endK; split <;> omega
theorem add_simp {N : Int} {B : List PN} (h : Simp N B) (ho : OkP B) {x : PN} (hf : formedP x N B.length = true) : Simp N (addP B x).2 := by
  have hr := formed_rng hf
  have hL := fun hk => formed_empty hf hk
  obtain ⟨kind, lt, l⟩ := x
  simp only at hr hL
  by_cases hk : kind = 3 ∨ kind = 4
  case neg =>
    rw [add_const (x := (kind, lt, l)) ⟨fun e => hk (.inl e), fun e => hk (.inr e)⟩]
    exact h.put (hL hk) fun hg => absurd hg hk
  have gi := gin ho kind hr
  have hfk := flat_kind h hk hr
  rw [add_doc hk]
  generalize inputsR B kind (dropK kind) l = D at gi
  have hnG : ∀ c : Int, c = 0 ∨ c = 1 → ¬ isG (c, 0, []) := fun c hc hg => by
    have hg : c = 3 ∨ c = 4 := hg
    omega
  by_cases hd : decR B D (endK kind) = true
  · rw [if_pos hd]; exact h.put (formed_c (endK_c kind)) fun hg => absurd hg (hnG _ (endK_c kind))
  rw [if_neg hd]
  rcases hD : D with _ | ⟨y, _ | ⟨z, t⟩⟩
  · exact h.put (formed_c (dropK_c kind)) fun hg => absurd hg (hnG _ (dropK_c kind))
  · exact h
  · show Simp N (putP B (kind, 0, sortS (y :: z :: t))).2
    rw [← hD]
    have hs := sortS_perm D
    have hln := sortS_len D
    have hmem : ∀ i, i ∈ sortS D ↔ i ∈ D := fun i => hs.mem_iff
    refine h.put (formed_gate hk fun i hi => gi.rg i ((hmem i).1 hi)) fun _ => ⟨?_, sorted_lt (sortS_sorted _) (hs.nodup_iff.2 gi.nd), fun i hi => ?_, fun i k hi hk2 ha hb hc => ?_⟩
    · show 2 ≤ (sortS D).length
      rw [hln, hD]; simp only [List.length_cons]; omega
    · have hi := (hmem i).1 hi
      have h1 := (gi.mem i).1 hi
      refine ⟨hfk i h1.1, ?_⟩
      have h2 := kind_rng h i
      have h3 : kindP B i ≠ endK kind := fun e => hd ((dec_iff B D (endK kind)).2 ⟨i, hi, .inl e⟩)
      have h4 := h1.2
      unfold endK dropK at *
      split at h3 <;> omega
    · exact hd ((dec_iff B D (endK kind)).2 ⟨i, (hmem i).1 hi, .inr ⟨k, (hmem k).1 hk2, ha, hb, hc⟩⟩)
theorem rk_lt {U : List Bool} {k i : Nat} (h : k < i) (hk : U.getD k false = true) : rk U k < rk U i := by
  induction i with
  | zero => omega
  | succ i ih =>
    rw [rk]
    by_cases e : k = i
    · subst e; rw [hk]; unfold b2i; simp; omega
    · have := ih (by omega)
      unfold b2i; split <;> omega
theorem rk_inj {U : List Bool} {i k : Nat} (hi : U.getD i false = true) (hk : U.getD k false = true) (h : rk U i = rk U k) : i = k := by
  rcases Nat.lt_trichotomy i k with e | e | e
  · have := rk_lt e hi; omega
  · exact e
  · have := rk_lt e hk; omega
def nodeN (B : List PN) (U : List Bool) (i : Nat) : PN := (kindP B i, litP B i, (inP B i).map fun k => rk U k.toNat)
theorem netTo_succ (B : List PN) (U : List Bool) (n : Nat) : netTo B U (n + 1) = netTo B U n ++ (if U.getD n false = true then [nodeN B U n] else []) := rfl
theorem net_at (B : List PN) (U : List Bool) : ∀ n i, i < n → U.getD i false = true → (netTo B U n).getD (rk U i).toNat default = nodeN B U i
  | 0, i, h, _ => absurd h (Nat.not_lt_zero _)
  | n + 1, i, h, hu => by
    have hl := netTo_len B U n
    rw [netTo_succ]
    by_cases e : i = n
    · subst e
      rw [hu, if_pos rfl, ← hl, Int.toNat_natCast, getD_lastN]
    · have := rk_lt (U := U) (show i < n by omega) hu
      have := rk_le U i
      rw [getD_app _ _ _ (by omega)]
      exact net_at B U n i (by omega) hu
theorem net_idx (B : List PN) (U : List Bool) : ∀ n j, j < (netTo B U n).length → ∃ i, i < n ∧ U.getD i false = true ∧ rk U i = j
  | 0, j, h => absurd h (Nat.not_lt_zero _)
  | n + 1, j, h => by
    have hl := netTo_len B U n
    rw [netTo_succ, List.length_append] at h
    by_cases e : j < (netTo B U n).length
    · obtain ⟨i, h1, h2, h3⟩ := net_idx B U n j e
      exact ⟨i, by omega, h2, h3⟩
    · cases hu : U.getD n false with
      | false => rw [hu, if_neg (by decide)] at h; simp only [List.length_nil] at h; omega
      | true =>
        rw [hu, if_pos rfl] at h
        simp only [List.length_cons, List.length_nil] at h
        exact ⟨n, by omega, hu, by omega⟩
theorem orS_cases : ∀ (l : List Int) (U : List Bool) (x : Bool) (j : Nat), (orS U l x).getD j false = true → U.getD j false = true ∨ (x = true ∧ ∃ k, k ∈ l ∧ k.toNat = j)
  | [], U, x, j, h => .inl h
  | k :: l, U, x, j, h => by
    rw [orS_cons] at h
    rcases orS_cases l _ x j h with h | ⟨h1, q, hq, e⟩
    · rw [getD_setB] at h
      split at h
      · rename_i hc
        rw [Bool.or_eq_true] at h
        rcases h with h | h
        · left; rw [← hc.1]; exact h
        · exact .inr ⟨h, k, List.mem_cons_self, hc.1⟩
      · exact .inl h
    · exact .inr ⟨h1, q, List.mem_cons_of_mem _ hq, e⟩
theorem mk_parent (B : List PN) : ∀ (n : Nat) (U : List Bool) (j : Nat), (mk B n U).getD j false = true → U.getD j false = true ∨ ∃ i, i < n ∧ (mk B n U).getD i false = true ∧ ∃ k, k ∈ inP B i ∧ k.toNat = j
  | 0, U, j, h => .inl h
  | n + 1, U, j, h => by
    rw [mk] at h ⊢
    rcases mk_parent B n _ j h with h1 | ⟨i, h1, h2, h3⟩
    · rcases orS_cases _ _ _ _ h1 with h2 | ⟨h2, h3⟩
      · exact .inl h2
      · exact .inr ⟨n, by omega, mk_mono B n _ _ (orS_mono _ _ _ _ h2), h3⟩
    · exact .inr ⟨i, by omega, h2, h3⟩
structure Marks (B : List PN) (r : Nat) (U : List Bool) : Prop where
  rt : U.getD r false = true
  cl : ∀ i, i < r + 1 → U.getD i false = true → ∀ k, k ∈ inP B i → U.getD k.toNat false = true
  pa : ∀ j, U.getD j false = true → j ≠ r → ∃ i, i < r + 1 ∧ U.getD i false = true ∧ (j : Int) ∈ inP B i ∧ j < i
theorem marks {B : List PN} (hB : Ord B) (r : Nat) : Marks B r (markN B r (r + 1)) := by
  have hr : ((List.replicate (r + 1) false).set r true).getD r false = true := by rw [getD_setB, if_pos ⟨rfl, by simp⟩]
  refine ⟨mk_mono B _ _ _ hr, mk_closed hB (r + 1) _ (by simp), fun j hj hne => ?_⟩
  rcases mk_parent B (r + 1) _ j hj with h | ⟨i, h1, h2, k, h3, h4⟩
  · rw [getD_setB, if_neg (fun e => hne e.1.symm), List.getD_eq_getElem?_getD, List.getElem?_replicate] at h
    split at h <;> cases h
  · have := hB i k h3
    exact ⟨i, h1, h2, by rw [show (j : Int) = k by omega]; exact h3, by omega⟩
theorem net_last {B : List PN} {r : Nat} {U : List Bool} (m : Marks B r U) : ((netTo B U (r + 1)).length : Int) = rk U r + 1 := by
  rw [netTo_len, rk, m.rt]; rfl
theorem nodeN_form {N : Int} {B : List PN} (h : Simp N B) {r : Nat} {U : List Bool} (m : Marks B r U) {i : Nat} (hi : i < r + 1) (hib : i < B.length) (hu : U.getD i false = true) : formedP (nodeN B U i) N (rk U i) = true := by
  have hf := h.fm i hib
  have hr := formed_rng hf
  unfold formedP at hf ⊢
  simp only [Bool.and_eq_true, Bool.not_eq_true'] at hf ⊢
  refine ⟨List.any_eq_false.2 fun q hq => ?_, ?_⟩
  · obtain ⟨k, hk, rfl⟩ := List.mem_map.1 hq
    have hk2 := m.cl i hi hu k hk
    rw [inP_nat] at hk
    have := hr k hk
    have := rk_lt (U := U) (show k.toNat < i by omega) hk2
    have := rk_le U k.toNat
    unfold badI
    simp only [Bool.or_eq_true, decide_eq_true_eq]
    omega
  · unfold nodeN
    simp only [List.length_map]
    rw [kindP_nat, litP_nat, inP_nat]
    exact hf.2
theorem kind_net {B : List PN} {U : List Bool} {n i : Nat} (h : i < n) (hu : U.getD i false = true) : kindP (netTo B U n) (rk U i) = kindP B i := by
  show ((netTo B U n).getD (rk U i).toNat default).1 = _
  rw [net_at B U n i h hu]; rfl
theorem lit_net {B : List PN} {U : List Bool} {n i : Nat} (h : i < n) (hu : U.getD i false = true) : litP (netTo B U n) (rk U i) = litP B i := by
  show ((netTo B U n).getD (rk U i).toNat default).2.1 = _
  rw [net_at B U n i h hu]; rfl
theorem in_net {B : List PN} {U : List Bool} {n i : Nat} (h : i < n) (hu : U.getD i false = true) : inP (netTo B U n) (rk U i) = (inP B i).map fun k => rk U k.toNat := by
  show ((netTo B U n).getD (rk U i).toNat default).2.2 = _
  rw [net_at B U n i h hu]; rfl
theorem map_inj_on {f : Int → Int} : ∀ {a b : List Int}, (∀ x, x ∈ a → ∀ y, y ∈ b → f x = f y → x = y) → a.map f = b.map f → a = b
  | [], [], _, _ => rfl
  | [], y :: b, _, h => by cases h
  | x :: a, [], _, h => by cases h
  | x :: a, y :: b, hi, h => by
    rw [List.map_cons, List.map_cons, List.cons.injEq] at h
    rw [hi x List.mem_cons_self y List.mem_cons_self h.1, map_inj_on (fun u hu v hv => hi u (List.mem_cons_of_mem _ hu) v (List.mem_cons_of_mem _ hv)) h.2]
theorem net_simp {N : Int} {B : List PN} (h : Simp N B) {r : Nat} (hr : r < B.length) {U : List Bool} (m : Marks B r U) : Simp N (netTo B U (r + 1)) := by
  have hpair : ∀ i, i < r + 1 → (inP B i).Pairwise (· < ·) ∨ inP B i = [] := fun i hi => by
    rw [inP_nat]
    by_cases hg : isG (B.getD i default)
    · exact .inl (h.gt i (by omega) hg).2.1
    · exact .inr (formed_low (h.fm i (by omega)) hg)
  refine ⟨?_, fun j hj => ?_, fun j hj hg => ?_⟩
  · rw [List.nodup_iff_pairwise_ne, List.pairwise_iff_getElem]
    intro a b ha hb hab e
    obtain ⟨i, h1, h2, h3⟩ := net_idx B U (r + 1) a ha
    obtain ⟨k, k1, k2, k3⟩ := net_idx B U (r + 1) b hb
    have e1 := net_at B U (r + 1) i h1 h2
    have e2 := net_at B U (r + 1) k k1 k2
    rw [h3, Int.toNat_natCast, List.getD_eq_getElem?_getD, List.getElem?_eq_getElem ha] at e1
    rw [k3, Int.toNat_natCast, List.getD_eq_getElem?_getD, List.getElem?_eq_getElem hb] at e2
    have e3 : nodeN B U i = nodeN B U k := by rw [← e1, ← e2]; exact e
    unfold nodeN at e3
    simp only [Prod.mk.injEq] at e3
    have e4 : inP B i = inP B k := map_inj_on (fun x hx y hy hxy => by
      have o1 := h.ord i x hx
      have o2 := h.ord k y hy
      have := rk_inj (m.cl i h1 h2 x hx) (m.cl k k1 k2 y hy) hxy
      omega) e3.2.2
    have e5 : B.getD i default = B.getD k default := Prod.ext (by rw [← kindP_nat, ← kindP_nat]; exact e3.1) (Prod.ext (by rw [← litP_nat, ← litP_nat]; exact e3.2.1) (by rw [← inP_nat, ← inP_nat]; exact e4))
    have hne : i ≠ k := fun e => by subst e; omega
    have hnd := h.nd
    rw [List.nodup_iff_pairwise_ne, List.pairwise_iff_getElem] at hnd
    rw [List.getD_eq_getElem?_getD, List.getD_eq_getElem?_getD, List.getElem?_eq_getElem (show i < B.length by omega), List.getElem?_eq_getElem (show k < B.length by omega)] at e5
    have e5 : B[i] = B[k] := e5
    rcases Nat.lt_or_gt_of_ne hne with hlt | hlt
    · exact hnd i k (by omega) (by omega) hlt e5
    · exact hnd k i (by omega) (by omega) hlt e5.symm
  · obtain ⟨i, h1, h2, h3⟩ := net_idx B U (r + 1) j hj
    have e1 := net_at B U (r + 1) i h1 h2
    rw [h3, Int.toNat_natCast] at e1
    rw [e1, ← h3]
    exact nodeN_form h m h1 (by omega) h2
  · obtain ⟨i, h1, h2, h3⟩ := net_idx B U (r + 1) j hj
    have e1 := net_at B U (r + 1) i h1 h2
    rw [h3, Int.toNat_natCast] at e1
    rw [e1] at hg ⊢
    have hg2 : isG (B.getD i default) := by unfold isG at hg ⊢; rw [← kindP_nat]; exact hg
    obtain ⟨g1, g2, g3, g4⟩ := h.gt i (by omega) hg2
    rw [← inP_nat] at g1 g2 g3 g4
    rw [← kindP_nat] at g3
    have hcl := m.cl i h1 h2
    have hor := h.ord i
    refine ⟨by show 2 ≤ ((inP B i).map _).length; rw [List.length_map]; exact g1, ?_, fun q hq => ?_, fun q q2 hq hq2 => ?_⟩
    · show ((inP B i).map _).Pairwise (· < ·)
      rw [List.pairwise_map]
      refine List.Pairwise.imp_of_mem ?_ g2
      intro a b ha hb hab
      exact rk_lt (by have := hor a ha; have := hor b hb; omega) (hcl a ha)
    · obtain ⟨k, hk, rfl⟩ := List.mem_map.1 hq
      have hkr := hor k hk
      rw [kind_net (by omega) (hcl k hk), show ((k.toNat : Nat) : Int) = k by omega]
      exact g3 k hk
    · obtain ⟨k, hk, rfl⟩ := List.mem_map.1 hq
      obtain ⟨k2, hk2, rfl⟩ := List.mem_map.1 hq2
      have hkr := hor k hk
      have hkr2 := hor k2 hk2
      rw [kind_net (by omega) (hcl k hk), kind_net (by omega) (hcl k2 hk2), lit_net (by omega) (hcl k hk), lit_net (by omega) (hcl k2 hk2), show ((k.toNat : Nat) : Int) = k by omega, show ((k2.toNat : Nat) : Int) = k2 by omega]
      exact g4 k k2 hk hk2
structure Full (X : List PN) : Prop where
  us : ∀ j, j + 1 < X.length → ∃ i, j < i ∧ i < X.length ∧ (j : Int) ∈ inP X i
  co : ∀ i, i < X.length → (X.getD i default).1 < 2 → X.length = 1
  ne : 1 ≤ X.length
theorem rk_zero (U : List Bool) : ∀ n, (∀ j, j < n → U.getD j false = false) → rk U n = 0
  | 0, _ => rfl
  | n + 1, h => by rw [rk, rk_zero U n fun j hj => h j (by omega), h n (by omega)]; rfl
theorem net_full {N : Int} {B : List PN} (h : Simp N B) {r : Nat} (hr : r < B.length) {U : List Bool} (m : Marks B r U) : Full (netTo B U (r + 1)) := by
  have hl := net_last m
  have hrk := rk_le U r
  refine ⟨fun j hj => ?_, fun j hj hk => ?_, by omega⟩
  · obtain ⟨i, h1, h2, h3⟩ := net_idx B U (r + 1) j (by omega)
    have hne : i ≠ r := fun e => by subst e; omega
    obtain ⟨q, q1, q2, q3, q4⟩ := m.pa i h2 hne
    have hlt := rk_lt q4 h2
    have hlq : rk U q < rk U (r + 1) := rk_lt q1 q2
    rw [← netTo_len B U (r + 1)] at hlq
    have hq0 := rk_le U q
    refine ⟨(rk U q).toNat, by omega, by omega, ?_⟩
    rw [show (((rk U q).toNat : Nat) : Int) = rk U q by omega, in_net q1 q2]
    exact List.mem_map.2 ⟨(i : Int), q3, by rw [Int.toNat_natCast]; exact h3⟩
  · obtain ⟨i, h1, h2, h3⟩ := net_idx B U (r + 1) j hj
    have e1 := net_at B U (r + 1) i h1 h2
    rw [h3, Int.toNat_natCast] at e1
    rw [e1] at hk
    have hk : kindP B i < 2 := hk
    have hir : i = r := Decidable.byContradiction fun hne => by
      obtain ⟨q, q1, q2, q3, q4⟩ := m.pa i h2 hne
      rw [inP_nat] at q3
      by_cases hg : isG (B.getD q default)
      · have := ((h.gt q (by omega) hg).2.2.1 i q3).2
        omega
      · rw [formed_low (h.fm q (by omega)) hg] at q3; exact absurd q3 List.not_mem_nil
    subst hir
    have hin : inP B i = [] := by
      rw [inP_nat]
      refine formed_low (h.fm i hr) fun hg => ?_
      unfold isG at hg
      rw [← kindP_nat] at hg
      omega
    have hnone : ∀ d j, j < i → i - j ≤ d → U.getD j false = false := fun d => by
      induction d with
      | zero => intro j hj hd; omega
      | succ d ih =>
        intro j hj hd
        cases hu : U.getD j false with
        | false => rfl
        | true =>
          obtain ⟨q, q1, q2, q3, q4⟩ := m.pa j hu (by omega)
          by_cases e : q = i
          · subst e; rw [hin] at q3; exact absurd q3 List.not_mem_nil
          · rw [ih q (by omega) (by omega)] at q2; cases q2
    have hz := rk_zero U i fun j hj => hnone (i - j) j hj (Nat.le_refl _)
    omega
theorem flat_id {B : List PN} {kind : Int} : ∀ (l : List Int), (∀ i, i ∈ l → kindP B i ≠ kind) → flatP B kind l = l
  | [], _ => rfl
  | x :: l, h => by
    have ih := flat_id l fun i hi => h i (List.mem_cons_of_mem _ hi)
    unfold flatP at ih ⊢
    rw [List.flatMap_cons, if_neg (h x List.mem_cons_self), ih]; rfl
end Go.Proofs.YtdiciemlbhkilaaGreatDoor
namespace Go.Proofs.YtdiciemlbhkilaaGreatDoor
open Go Go.Cx Go.RowKit
set_option linter.unusedVariables false
set_option linter.unusedSimpArgs false
set_option maxHeartbeats 4000000
attribute [local irreducible] J JC thenK blockK loopK roundK drawK retK QW Qt pel List.set Calls
theorem truS_congr (s : Nat × Nat) {T V : List Bool} {x : PN} (h : ∀ k, k ∈ x.2.2 → T.getD k.toNat default = V.getD k.toNat default) : truS s T x = truS s V x := by
  unfold truS
  rw [any_congr (p := fun k => !(T.getD k.toNat default)) (q := fun k => !(V.getD k.toNat default)) fun k hk => by rw [h k hk], any_congr (p := fun k => T.getD k.toNat default) (q := fun k => V.getD k.toNat default) fun k hk => by rw [h k hk]]
theorem truS_map (s : Nat × Nat) {T V : List Bool} {f : Int → Int} (a b : Int) (l : List Int) (h : ∀ k, k ∈ l → T.getD (f k).toNat default = V.getD k.toNat default) : truS s T (a, b, l.map f) = truS s V (a, b, l) := by
  unfold truS
  simp only [List.any_map]
  rw [any_congr (p := (fun k : Int => !(T.getD k.toNat default)) ∘ f) (q := fun k => !(V.getD k.toNat default)) fun k hk => by show (!_) = _; rw [h k hk], any_congr (p := (fun k : Int => T.getD k.toNat default) ∘ f) (q := fun k => V.getD k.toNat default) fun k hk => h k hk]
def valN (s : Nat × Nat) (B : List PN) (i : Int) : Bool := (truT s B).getD i.toNat default
theorem val_app (s : Nat × Nat) (B : List PN) (x : PN) (i : Int) (h : i.toNat < B.length) : valN s (B ++ [x]) i = valN s B i := by
  unfold valN; rw [truT_snoc, getD_app _ _ _ (by rw [truT_len]; exact h)]
theorem valN_last (s : Nat × Nat) (B : List PN) (x : PN) : valN s (B ++ [x]) B.length = truS s (truT s B) x := by
  unfold valN; rw [truT_snoc, Int.toNat_natCast, ← truT_len s B, getD_lastN]
theorem val_take (s : Nat × Nat) (B : List PN) (k j : Nat) (h : j < k) (hk : k ≤ B.length) : (truT s (B.take k)).getD j default = (truT s B).getD j default := by
  have : ∀ d, k + d ≤ B.length → (truT s (B.take (k + d))).getD j default = (truT s (B.take k)).getD j default := fun d => by
    induction d with
    | zero => intro _; rfl
    | succ d ih =>
      intro hd
      rw [show k + (d + 1) = (k + d) + 1 by omega, take_g B (k + d) (by omega), truT_snoc, getD_app _ _ _ (by rw [truT_len, List.length_take]; omega)]
      exact ih (by omega)
  have h2 := this (B.length - k) (by omega)
  rw [show k + (B.length - k) = B.length by omega, List.take_length] at h2
  exact h2.symm
theorem val_at (s : Nat × Nat) {B : List PN} (hB : Ord B) (i : Nat) (hi : i < B.length) : valN s B i = truS s (truT s B) (B.getD i default) := by
  have h1 : valN s B i = truS s (truT s (B.take i)) (B.getD i default) := by
    unfold valN
    rw [Int.toNat_natCast, ← val_take s B (i + 1) i (by omega) (by omega), take_g B i hi, truT_snoc]
    exact getD_last2 _ _ _ (by rw [truT_len, List.length_take]; omega)
  rw [h1]
  refine truS_congr s fun k hk => ?_
  have := hB i k (by rw [inP_nat]; exact hk)
  exact val_take s B i k.toNat (by omega) (by omega)
theorem val_put (s : Nat × Nat) {B : List PN} (hB : Ord B) (z : PN) : valN s (putP B z).2 (putP B z).1 = truS s (truT s B) z ∧ ∀ i : Int, i.toNat < B.length → valN s (putP B z).2 i = valN s B i := by
  unfold putP
  by_cases hz : z ∈ B
  · rw [if_pos hz]
    have hb := idx_nat B z hz
    have hat := idxP_at z B 0 hz
    rw [Int.sub_zero] at hat
    refine ⟨?_, fun i _ => rfl⟩
    have := val_at s hB (idxP B z 0).toNat (by omega)
    rw [hat, show (((idxP B z 0).toNat : Nat) : Int) = idxP B z 0 by omega] at this
    exact this
  · rw [if_neg hz]
    exact ⟨valN_last s B z, fun i hi => val_app s B z i hi⟩
def ask (kind : Int) (v : Bool) : Bool := if kind = 4 then v else !v
theorem truS_gate (s : Nat × Nat) (T : List Bool) {kind : Int} (lt : Int) (l : List Int) (hk : kind = 3 ∨ kind = 4) : truS s T (kind, lt, l) = ask kind (l.any fun k => ask kind (T.getD k.toNat default)) := by
  unfold truS ask
  rcases hk with rfl | rfl
  · rfl
  · rfl
theorem ask_ask (kind : Int) (v : Bool) : ask kind (ask kind v) = v := by unfold ask; split <;> simp
theorem any_mem {p : Int → Bool} {a b : List Int} (h : ∀ x, x ∈ a ↔ x ∈ b) : a.any p = b.any p := by
  rw [Bool.eq_iff_iff, List.any_eq_true, List.any_eq_true]
  exact ⟨fun ⟨x, h1, h2⟩ => ⟨x, (h x).1 h1, h2⟩, fun ⟨x, h1, h2⟩ => ⟨x, (h x).2 h1, h2⟩⟩
theorem any_flat (s : Nat × Nat) {B : List PN} (hB : Ord B) {kind : Int} (hk : kind = 3 ∨ kind = 4) : ∀ (l : List Int), (∀ i, i ∈ l → 0 ≤ i ∧ i < B.length) → (flatP B kind l).any (fun k => ask kind (valN s B k)) = l.any (fun k => ask kind (valN s B k))
  | [], _ => rfl
  | x :: l, h => by
    have ih := any_flat s hB hk l fun i hi => h i (List.mem_cons_of_mem _ hi)
    have hx := h x List.mem_cons_self
    unfold flatP at ih ⊢
    rw [List.flatMap_cons, List.any_append, List.any_cons, ih]
    congr 1
    split
    · rename_i hkx
      have h1 := val_at s hB x.toNat (by omega)
      rw [show ((x.toNat : Nat) : Int) = x by omega] at h1
      have h2 : B.getD x.toNat default = (kind, litP B x, inP B x) := by rw [← hkx]; rfl
      rw [h2, truS_gate s _ _ _ hk] at h1
      rw [h1, ask_ask]; rfl
    · rw [List.any_cons, List.any_nil, Bool.or_false]
theorem val_lit (s : Nat × Nat) {B : List PN} (hB : Ord B) (i : Int) (h : 0 ≤ i ∧ i < B.length) (hk : kindP B i = 2) : valN s B i = decide (hasB s (absI (litP B i)) = decide (0 < litP B i)) := by
  have h1 := val_at s hB i.toNat (by omega)
  rw [show ((i.toNat : Nat) : Int) = i by omega] at h1
  have h2 : B.getD i.toNat default = (2, litP B i, inP B i) := by rw [← hk]; rfl
  rw [h1, h2]; rfl
theorem val_const (s : Nat × Nat) {B : List PN} (hB : Ord B) (i : Int) (h : 0 ≤ i ∧ i < B.length) (hk : kindP B i = 0 ∨ kindP B i = 1) : valN s B i = decide (kindP B i = 1) := by
  have h1 := val_at s hB i.toNat (by omega)
  rw [show ((i.toNat : Nat) : Int) = i by omega] at h1
  have h2 : B.getD i.toNat default = (kindP B i, litP B i, inP B i) := rfl
  rw [h1, h2]
  rcases hk with e | e <;> rw [e] <;> rfl
theorem val_add (s : Nat × Nat) {N : Int} {B : List PN} (hB : Ord B) (ho : OkP B) {x : PN} (hf : formedP x N B.length = true) : valN s (addP B x).2 (addP B x).1 = truS s (truT s B) x ∧ ∀ i : Int, i.toNat < B.length → valN s (addP B x).2 i = valN s B i := by
  have hr := formed_rng hf
  have hL := fun hk => formed_low hf hk
  obtain ⟨kind, lt, l⟩ := x
  simp only at hr hL
  by_cases hk : kind = 3 ∨ kind = 4
  case neg =>
    have := hL hk
    subst this
    rw [add_const (x := (kind, lt, [])) ⟨fun e => hk (.inl e), fun e => hk (.inr e)⟩]
    exact val_put s hB _
  have gi := gin ho kind hr
  have hfl := any_flat s hB hk l hr
  have hT : truS s (truT s B) (kind, lt, l) = ask kind (l.any fun k => ask kind (valN s B k)) := truS_gate s _ _ _ hk
  rw [hT, add_doc hk, ← hfl]
  generalize inputsR B kind (dropK kind) l = D at gi
  have hdrop : ∀ i, i ∈ flatP B kind l → kindP B i = dropK kind → ask kind (valN s B i) = false := fun i hi e => by
    have hri := flat_rng ho kind hr i hi
    rw [val_const s hB i hri (by rcases dropK_c kind with h | h <;> omega), e]
    unfold dropK ask
    split <;> rfl
  have hAD : (flatP B kind l).any (fun k => ask kind (valN s B k)) = D.any (fun k => ask kind (valN s B k)) := by
    rw [Bool.eq_iff_iff, List.any_eq_true, List.any_eq_true]
    constructor
    · rintro ⟨x, h1, h2⟩
      refine ⟨x, (gi.mem x).2 ⟨h1, fun e => ?_⟩, h2⟩
      rw [hdrop x h1 e] at h2; cases h2
    · rintro ⟨x, h1, h2⟩
      exact ⟨x, ((gi.mem x).1 h1).1, h2⟩
  rw [hAD]
  by_cases hd : decR B D (endK kind) = true
  · rw [if_pos hd]
    have hA : D.any (fun k => ask kind (valN s B k)) = true := by
      rw [List.any_eq_true]
      obtain ⟨i, hi, h | ⟨q, hq, h1, h2, h3⟩⟩ := (dec_iff B D (endK kind)).1 hd
      · refine ⟨i, hi, ?_⟩
        rw [val_const s hB i (gi.rg i hi) (by rcases endK_c kind with h4 | h4 <;> omega), h]
        unfold endK ask
        split <;> rfl
      · have v1 := val_lit s hB i (gi.rg i hi) h1
        have v2 := val_lit s hB q (gi.rg q hq) h2
        have hz := lit_ne ho q h2
        rw [h3, absI_neg] at v1
        have hn : valN s B i = !(valN s B q) := by
          rw [v1, v2]
          rcases Int.lt_or_gt_of_ne hz with h | h
          · rw [decide_eq_true (show 0 < -(litP B q) by omega), decide_eq_false (show ¬ 0 < litP B q by omega)]
            cases hasB s (absI (litP B q)) <;> rfl
          · rw [decide_eq_false (show ¬ 0 < -(litP B q) by omega), decide_eq_true h]
            cases hasB s (absI (litP B q)) <;> rfl
        by_cases hv : ask kind (valN s B i) = true
        · exact ⟨i, hi, hv⟩
        · refine ⟨q, hq, ?_⟩
          rw [hn] at hv
          unfold ask at hv ⊢
          split
          · rename_i h; rw [if_pos h] at hv; simpa using hv
          · rename_i h; rw [if_neg h] at hv; simpa using hv
    rw [hA]
    have := val_put s hB (endK kind, 0, [])
    refine ⟨this.1.trans ?_, this.2⟩
    unfold truS endK ask
    rcases hk with rfl | rfl <;> rfl
  rw [if_neg hd]
  rcases hD : D with _ | ⟨y, _ | ⟨z, t⟩⟩
  · have := val_put s hB (dropK kind, 0, [])
    refine ⟨this.1.trans ?_, this.2⟩
    unfold truS dropK ask
    rcases hk with rfl | rfl <;> rfl
  · refine ⟨?_, fun i _ => rfl⟩
    show valN s B y = _
    rw [List.any_cons, List.any_nil, Bool.or_false, ask_ask]
  · show valN s (putP B (kind, 0, sortS (y :: z :: t))).2 (putP B (kind, 0, sortS (y :: z :: t))).1 = _ ∧ ∀ i : Int, i.toNat < B.length → valN s (putP B (kind, 0, sortS (y :: z :: t))).2 i = valN s B i
    rw [← hD]
    have := val_put s hB (kind, 0, sortS D)
    refine ⟨this.1.trans ?_, this.2⟩
    rw [truS_gate s _ _ _ hk, any_mem fun x => (sortS_perm D).mem_iff]; rfl
theorem val_net (s : Nat × Nat) {B : List PN} (hB : Ord B) {r : Nat} (hr : r < B.length) {U : List Bool} (m : Marks B r U) : ∀ n, n ≤ r + 1 → ∀ i, i < n → U.getD i false = true → valN s (netTo B U n) (rk U i) = valN s B i := fun n => by
  induction n with
  | zero => intro _ i hi; omega
  | succ n ih =>
    intro hn i hi hu
    have ih := ih (by omega)
    have hl := netTo_len B U n
    rw [netTo_succ]
    by_cases e : i < n
    · have := rk_lt e hu
      have := rk_le U i
      have h2 : valN s (netTo B U n ++ if U.getD n false = true then [nodeN B U n] else []) (rk U i) = valN s (netTo B U n) (rk U i) := by
        split
        · exact val_app s _ _ _ (by omega)
        · rw [List.append_nil]
      rw [h2]
      exact ih i e hu
    · have e : i = n := by omega
      subst e
      rw [hu, if_pos rfl, ← hl, valN_last, val_at s hB i (by omega)]
      have hx : B.getD i default = (kindP B i, litP B i, inP B i) := by rw [kindP_nat, litP_nat, inP_nat]
      rw [hx]
      have hv : ∀ k, k ∈ inP B i → (truT s (netTo B U i)).getD (rk U k.toNat).toNat default = (truT s B).getD k.toNat default := fun k hk => by
        have := hB i k hk
        have h3 := ih k.toNat (by omega) (m.cl i (by omega) hu k hk)
        unfold valN at h3
        rw [Int.toNat_natCast] at h3
        exact h3
      exact truS_map s _ _ _ hv
theorem formAll_of (N : Int) : ∀ (B : List PN) (k : Int), (∀ j : Nat, j < B.length → formedP (B.getD j default) N (k + j) = true) → formAll N B k = true
  | [], k, _ => rfl
  | x :: B, k, h => by
    unfold formAll
    rw [Bool.and_eq_true]
    refine ⟨?_, formAll_of N B (k + 1) fun j hj => ?_⟩
    · have := h 0 (by rw [List.length_cons]; omega)
      rw [Int.natCast_zero, Int.add_zero] at this
      exact this
    · have := h (j + 1) (by rw [List.length_cons]; omega)
      rw [show k + ((j + 1 : Nat) : Int) = k + 1 + (j : Int) by omega] at this
      exact this
end Go.Proofs.YtdiciemlbhkilaaGreatDoor
namespace Go.Proofs.YtdiciemlbhkilaaGreatDoor
open Go Go.Cx Go.RowKit
set_option linter.unusedVariables false
set_option linter.unusedSimpArgs false
set_option maxHeartbeats 4000000
attribute [local irreducible] J JC thenK blockK loopK roundK drawK retK QW Qt pel List.set Calls
attribute [local irreducible] JE Br eK0 eK3 brK
theorem litO {α : Type} {enc : α → List Value} {size : Nat} (hE : ∀ t, (enc t).length = size) (b : Nat) (t : TypeId) (ts : List α) {cs : List Value} (hc : cs = ts.flatMap enc) : OwT enc size t (some ⟨b, 0, none⟩) ts.length ts [(b, .cells ⟨cs⟩ t (0, 0))] := by
  subst hc
  have hl : (ts.flatMap enc).length = ts.length * size := by
    induction ts with
    | nil => simp
    | cons x ts ih => rw [List.flatMap_cons, List.length_append, ih, hE, List.length_cons, Nat.succ_mul]; omega
  exact ⟨hE, .inr ⟨b, _, rfl, rfl, hl, Nat.le_refl _, by rw [← hl, List.take_length]⟩⟩
def uniS (s t : Nat × Nat) : Nat × Nat := (s.1 ||| t.1, s.2 ||| t.2)
theorem okS_uni {s t : Nat × Nat} (hs : okS s) (ht : okS t) : okS (uniS s t) := ⟨Nat.or_lt_two_pow hs.1 ht.1, Nat.or_lt_two_pow hs.2 ht.2⟩
theorem has_uni (s t : Nat × Nat) (u : Int) : hasB (uniS s t) u = (hasB s u || hasB t u) := by
  unfold hasB uniS
  split
  · exact Nat.testBit_or _ _ _
  · split
    · exact Nat.testBit_or _ _ _
    · rfl
theorem okS_zero : okS (0, 0) := ⟨by decide, by decide⟩
theorem eOf : Entr Tryz.prog 132 := Entr.of Tryz.func132 rfl rfl
theorem eUnion : Entr Tryz.prog 129 := Entr.of Tryz.func129 rfl rfl
theorem eVarsN : Entr Tryz.prog 103 := Entr.of Tryz.func103 rfl rfl
def ofS (l : List Int) : Nat × Nat := l.foldl withS (0, 0)
theorem okS_of : ∀ (l : List Int) (s : Nat × Nat), okS s → okS (l.foldl withS s)
  | [], s, h => h
  | x :: l, s, h => by rw [List.foldl_cons]; exact okS_of l _ (okS_with h x)
def setO (s : Nat × Nat) : Obj := .cells ⟨[.int .u64 (s.1 : Int), .int .u64 (s.2 : Int)]⟩ 40 (0, 0)
theorem of_any (a : Option Addr) (c : Nat) (l : List Int) (h : Heap) (hs : SlT encI 1 a l h) (hl : l.length ≤ 1000000) (w : World) (hw : Holds h w) :
    Calls Tryz.prog 132 #[.slice a l.length c] w fun e w' => e = .returned (sv (ofS l)) ∧ Below w.heap.size w w' := by
  have q0 : ∀ L, RdH h L h := fun L => RdH.old fun _ hh => hh
  refine calls_of_JC (R := h) Tryz.func132 Tryz.ntmps132 rfl rfl (hw) ?_
  repeat' first
    | (refine J.isJ ?_; first | (fail) | (first | (refine J.o 0 ?_; refine J.ev' hΓ ?_) | refine J.nil ?_ | (refine J.o 4 ?_; first | refine J.e0 hΓ ?_ | refine J.lT default hΓ ?_) | (refine J.o 3 ?_; first | refine J.iJ hΓ ?_ | refine J.ev' hΓ ?_) | (refine J.o 1 ?_; first | refine J.ad ?_) | (refine J.o 5 ?_; first | refine J.t0 hΓ ?_ | refine J.t1 hΓ ?_) | (refine J.o 7 ?_; refine J.al hΓ (fun _ => ?_)) | (refine J.o 10 ?_; first | refine J.ev' hΓ ?_) | (refine J.o 11 ?_; first | refine J.ev' hΓ ?_)))
    | (first | refine JC.seq ?_ | refine JC.region ?_ | refine JC.block ?_ | refine JC.ret ?_ | refine JC.exit ?_ | refine JC.skip ?_ | refine thenK.nn ?_ | refine thenK.x ?_ | refine blockK.nn ?_ | refine blockK.hit rfl ?_ | (refine JC.cond rfl (fun hc => ?_) (fun hc => ?_) <;> ((try simp only [tcS] at hc) <;> first | (first | (exact absurd rfl hc) | (exfalso; omega) | (exact (tF hc (by assumption)).elim) | (exact (fT hc (by assumption)).elim)) | skip)) | refine loopK.x ?_)
    | (fail)
    | fail
  all_goals first | (exfalso; omega) | skip
  rename_i n2 n3
  refine JC.gen [(2, .pointer (some ⟨n2, 0, none⟩)), (3, .pointer (some ⟨n3, 0, none⟩)), (6, .slice a l.length c), (7, .int .i64 l.length), (8, .int .i64 0)] ⟨rfl, rfl, rfl, rfl, rfl, trivial⟩ (fun F1 => ?_)
  refine JC.loop (fun i => i == 5 || Nat.ble 8 i) (fun m g L' => ∃ (k : Nat), g 8 = .int .i64 (k : Int) ∧ k + m = l.length ∧ L' = [[(n3, setO (ofS (l.take k)))], [(n2, setO (0, 0))]]) l.length ⟨0, rfl, by omega, rfl⟩ ?_
  rintro m g L' ⟨k, e8, hkm, rfl⟩
  refine JC.pin 8 e8 ?_
  clear e8
  unfold setO
  have hok : okS (ofS (l.take k)) := okS_of _ _ okS_zero
  rcases Nat.lt_or_ge k l.length with hk | hk
  case inr =>
    rw [List.take_of_length_le hk] at hok ⊢
    repeat' first
      | (refine J.isJ ?_; first | (fail) | (first | (refine J.o 0 ?_; refine J.ev' hΓ ?_) | refine J.nil ?_ | (refine J.o 4 ?_; first | refine J.e0 hΓ ?_ | refine J.lT default hΓ ?_) | (refine J.o 3 ?_; first | refine J.iJ hΓ ?_ | refine J.ev' hΓ ?_) | (refine J.o 1 ?_; first | refine J.ad ?_) | (refine J.o 5 ?_; first | refine J.t0 hΓ ?_ | refine J.t1 hΓ ?_) | (refine J.o 7 ?_; refine J.al hΓ (fun _ => ?_)) | (refine J.o 10 ?_; first | refine J.ev' hΓ ?_) | (refine J.o 11 ?_; first | refine J.ev' hΓ ?_)))
      | (first | refine JC.seq ?_ | refine JC.region ?_ | refine JC.block ?_ | refine JC.ret ?_ | refine JC.exit ?_ | refine JC.skip ?_ | refine thenK.nn ?_ | refine thenK.x ?_ | refine blockK.nn ?_ | refine blockK.hit rfl ?_ | (refine JC.cond rfl (fun hc => ?_) (fun hc => ?_) <;> ((try simp only [tcS] at hc) <;> first | (first | (exact absurd rfl hc) | (exfalso; omega) | (exact (tF hc (by assumption)).elim) | (exact (fT hc (by assumption)).elim)) | skip)) | refine loopK.x ?_)
      | (fail)
      | fail
    all_goals first | (exfalso; omega) | skip
    exact retC hΓ rfl rfl rfl (by first | exact Rd.hd | exact Rd.hd.tl) rfl (fun w1 hw => ⟨rfl, hw.below⟩)
  have hst : withS (ofS (l.take k)) (l.getD k default) = ofS (l.take (k + 1)) := by
    unfold ofS; rw [take_g l k hk, List.foldl_append]; rfl
  have cW := fun w => with_any (ofS (l.take k)) hok (l.getD k default) w
  rw [hst] at cW
  repeat' first
    | (refine J.isJ ?_; first | (first | (refine J.o 4 ?_; refine J.lT default hΓ ?_ (hs := hs) (hr := q0 _)) | (refine J.fc 52 ?_; refine J.call0 eWith rfl rfl (fun w hw => cW w) ?_)) | (first | (refine J.o 0 ?_; refine J.ev' hΓ ?_) | refine J.nil ?_ | (refine J.o 4 ?_; first | refine J.e0 hΓ ?_ | refine J.lT default hΓ ?_) | (refine J.o 3 ?_; first | refine J.iJ hΓ ?_ | refine J.ev' hΓ ?_) | (refine J.o 1 ?_; first | refine J.ad ?_) | (refine J.o 5 ?_; first | refine J.t0 hΓ ?_ | refine J.t1 hΓ ?_) | (refine J.o 7 ?_; refine J.al hΓ (fun _ => ?_)) | (refine J.o 10 ?_; first | refine J.ev' hΓ ?_) | (refine J.o 11 ?_; first | refine J.ev' hΓ ?_)))
    | (first | refine JC.seq ?_ | refine JC.region ?_ | refine JC.block ?_ | refine JC.ret ?_ | refine JC.exit ?_ | refine JC.skip ?_ | refine thenK.nn ?_ | refine thenK.x ?_ | refine blockK.nn ?_ | refine blockK.hit rfl ?_ | (refine JC.cond rfl (fun hc => ?_) (fun hc => ?_) <;> ((try simp only [tcS] at hc) <;> first | (first | (exact absurd rfl hc) | (exfalso; omega) | (exact (tF hc (by assumption)).elim) | (exact (fT hc (by assumption)).elim)) | skip)) | refine loopK.x ?_)
    | (fail)
    | fail
  all_goals first | (exfalso; omega) | skip
  refine loopK.nn (m - 1) (by omega) (by repeat (first | refine Ag.upd rfl ?_ | exact Ag.hv)) ⟨k + 1, ?_, by omega, rfl⟩
  show Value.int .i64 _ = _; congr 1
theorem of1_any (v : Int) (b : Nat) (w : World) (hw : Holds [(b, .cells ⟨[.int .i64 v]⟩ 3 (0, 0))] w) : Calls Tryz.prog 132 #[.slice (some ⟨b, 0, none⟩) 1 1] w fun e w' => e = .returned (sv (withS (0, 0) v)) ∧ Below w.heap.size w w' :=
  of_any (some ⟨b, 0, none⟩) 1 [v] _ (litO (enc := encI) (fun _ => rfl) b 3 [v] rfl).sl (by show 1 ≤ 1000000; decide) w hw
theorem union_any (s t : Nat × Nat) (hs : okS s) (ht : okS t) (w : World) : Calls Tryz.prog 129 #[sv s, sv t] w fun e w' => e = .returned (sv (uniS s t)) ∧ Below w.heap.size w w' := by
  obtain ⟨h1, h2⟩ := hs
  obtain ⟨h3, h4⟩ := ht
  refine calls_of_JC (R := []) Tryz.func129 Tryz.ntmps129 rfl rfl (Holds.nil _) ?_
  repeat' first
    | (refine J.isJ ?_; (first | (first | refine J.nil ?_ | (refine J.o 4 ?_; first | refine J.e1 hΓ ?_ | refine J.e2 hΓ ?_) | (refine J.o 3 ?_; first | refine J.iA hΓ ?_) | (refine J.o 1 ?_; first | refine J.oW ?_) | (refine J.o 5 ?_; first | refine J.t0 hΓ ?_) | (refine J.o 6 ?_; refine J.bx (fun _ => ?_)) | (refine J.o 7 ?_; refine J.al hΓ (fun _ => ?_)) | (refine J.o 8 ?_; refine J.bd hΓ ?_))))
    | (first | refine JC.seq ?_ | refine JC.region ?_ | refine JC.ret ?_ | refine thenK.nn ?_)
    | fail
  all_goals first | (exfalso; omega) | skip
  all_goals (refine retC hΓ rfl rfl rfl Rd.hd rfl (fun w1 hw => ⟨rfl, hw.below⟩))
def varS (T : List (Nat × Nat)) (x : PN) : Nat × Nat := x.2.2.foldl (fun s k => uniS s (T.getD k.toNat default)) (withS (0, 0) (varI x.2.1))
def varT (X : List PN) : List (Nat × Nat) := X.foldl (fun T x => T ++ [varS T x]) []
theorem varT_snoc (X : List PN) (x : PN) : varT (X ++ [x]) = varT X ++ [varS (varT X) x] := by
  unfold varT; rw [List.foldl_append]; rfl
theorem varT_len : ∀ (X : List PN), (varT X).length = X.length := fun X => by
  have h : ∀ (X : List PN) (T : List (Nat × Nat)), (X.foldl (fun T x => T ++ [varS T x]) T).length = T.length + X.length := fun X => by
    induction X with
    | nil => intro T; rfl
    | cons x X ih => intro T; rw [List.foldl_cons, ih]; simp only [List.length_append, List.length_cons, List.length_nil]; omega
  have := h X []
  rw [List.length_nil, Nat.zero_add] at this
  exact this
theorem okS_d (T : List (Nat × Nat)) (hT : ∀ s, s ∈ T → okS s) (k : Nat) : okS (T.getD k default) := by
  by_cases h : k < T.length
  · exact hT _ (mem_g T k h)
  · rw [List.getD_eq_getElem?_getD, List.getElem?_eq_none (by omega)]; exact okS_zero
theorem okS_fold (T : List (Nat × Nat)) (hT : ∀ s, s ∈ T → okS s) : ∀ (l : List Int) (s : Nat × Nat), okS s → okS (l.foldl (fun s (k : Int) => uniS s (T.getD k.toNat default)) s)
  | [], s, h => h
  | x :: l, s, h => by rw [List.foldl_cons]; exact okS_fold T hT l _ (okS_uni h (okS_d T hT _))
theorem okS_varS (T : List (Nat × Nat)) (hT : ∀ s, s ∈ T → okS s) (x : PN) : okS (varS T x) := okS_fold T hT _ _ (okS_with okS_zero _)
theorem okS_varT : ∀ (X : List PN) (s : Nat × Nat), s ∈ varT X → okS s := fun X => by
  have h : ∀ (X : List PN) (T : List (Nat × Nat)), (∀ s, s ∈ T → okS s) → ∀ s, s ∈ (X.foldl (fun T x => T ++ [varS T x]) T) → okS s := fun X => by
    induction X with
    | nil => intro T hT; exact hT
    | cons x X ih =>
      intro T hT
      rw [List.foldl_cons]
      refine ih _ fun s hs => ?_
      rcases List.mem_append.1 hs with hs | hs
      · exact hT s hs
      · rw [List.mem_singleton.1 hs]; exact okS_varS T hT x
  exact h X [] fun s hs => absurd hs List.not_mem_nil
theorem app_getD {α : Type} [Inhabited α] (s t : List α) (j : Nat) (h : j < s.length) : (s ++ t).getD j default = s.getD j default := by
  rw [List.getD_eq_getElem?_getD, List.getElem?_append_left h, ← List.getD_eq_getElem?_getD]
theorem app_at {α : Type} [Inhabited α] (s : List α) (x : α) (t : List α) : (s ++ x :: t).getD s.length default = x := by
  rw [List.getD_eq_getElem?_getD, List.getElem?_append_right (Nat.le_refl _), Nat.sub_self]; rfl
theorem app_st {α : Type} (s : List α) (x y : α) (t : List α) : (s ++ x :: t).set s.length y = s ++ y :: t := by
  rw [List.set_append_right _ _ (Nat.le_refl _), Nat.sub_self, List.set_cons_zero]
def parV (T : List (Nat × Nat)) (x : PN) (q : Nat) : Nat × Nat := (x.2.2.take q).foldl (fun s k => uniS s (T.getD k.toNat default)) (withS (0, 0) (varI x.2.1))
theorem parV_all (T : List (Nat × Nat)) (x : PN) (q : Nat) (h : x.2.2.length ≤ q) : parV T x q = varS T x := by
  unfold parV varS; rw [List.take_of_length_le h]
theorem parV_step (T : List (Nat × Nat)) (x : PN) (q : Nat) (h : q < x.2.2.length) : parV T x (q + 1) = uniS (parV T x q) (T.getD (x.2.2.getD q default).toNat default) := by
  unfold parV; rw [take_g _ q h, List.foldl_append]; rfl
theorem okS_par (T : List (Nat × Nat)) (hT : ∀ s, s ∈ T → okS s) (x : PN) (q : Nat) : okS (parV T x q) := okS_fold T hT _ _ (okS_with okS_zero _)
set_option maxHeartbeats 16000000 in
theorem vars_any (N : Int) (a : Option Addr) (cap : Nat) (vs : List NV) (h : Heap) (hr : NetIn a vs h) (w : World) (hw : Holds h w) :
    Calls Tryz.prog 103 #[.agg ⟨[.int .i64 N, .slice a vs.length cap]⟩] w (Gives (fun v g => ∃ a' c', v = .slice a' (if checkP N (vs.map pnV) = true then varT (vs.map pnV) else []).length c' ∧ SlT encS 2 a' (if checkP N (vs.map pnV) = true then varT (vs.map pnV) else []) g) w) := by
  have q0 : ∀ L, RdH h L h := fun L => RdH.old fun _ hh => hh
  have cC := fun w hw => checkN_any N a cap vs h hr w hw
  obtain ⟨so, si, sl, hl⟩ := hr
  have hX : (vs.map pnV).length = vs.length := List.length_map ..
  cases hC : checkP N (vs.map pnV) with
  | false =>
    rw [hC, if_neg (by decide)] at cC
    rw [if_neg (by decide)]
    refine calls_of_JC (R := h) Tryz.func103 Tryz.ntmps103 rfl rfl (hw) ?_
    repeat' first
      | (refine J.isJ ?_; first | (first | (refine J.o 0 ?_; refine J.ev' hΓ ?_) | refine J.nil ?_ | (refine J.o 4 ?_; first | refine J.e0 hΓ ?_ | refine J.lT default hΓ ?_ | refine J.e1 hΓ ?_ | refine J.e2 hΓ ?_) | (refine J.o 3 ?_; first | refine J.iJ hΓ ?_ | refine J.ev' hΓ ?_) | (refine J.o 1 ?_; first | refine J.ad ?_) | (refine J.o 5 ?_; first | refine J.t0 hΓ ?_ | refine J.tT _ default hΓ (fun _ _ => ?_)) | (refine J.o 6 ?_; refine J.bx (fun _ => ?_)) | (refine J.o 7 ?_; refine J.al hΓ (fun _ => ?_)) | (refine J.o 9 ?_; refine J.bl hΓ (fun _ => ?_)) | (refine J.o 10 ?_; first | refine J.ev' hΓ ?_) | (refine J.o 11 ?_; first | refine J.ev' hΓ ?_)) | ((refine J.fc 60 ?_; refine J.call0 eCheckN rfl rfl (fun w hw => cC w (hw.rdH (q0 _))) ?_)))
      | (first | refine JC.seq ?_ | refine JC.region ?_ | refine JC.block ?_ | refine JC.ret ?_ | refine JC.exit ?_ | refine JC.skip ?_ | refine thenK.nn ?_ | refine thenK.r ?_ | refine thenK.x ?_ | refine blockK.nn ?_ | refine blockK.hit rfl ?_ | refine JC.condT rfl ?_ | refine JC.condF rfl ?_ | (refine JC.cond rfl (fun hc => ?_) (fun hc => ?_) <;> ((try simp only [tcS] at hc) <;> first | (first | (exact absurd rfl hc) | (exfalso; omega) | (exact (tF hc (by assumption)).elim) | (exact (fT hc (by assumption)).elim)) | skip)) | refine drawK.nn ?_ | refine loopK.x ?_)
      | fail
    all_goals first | (exfalso; omega) | skip
    exact ret1f rfl rfl rfl (fun w1 hw => Gives.of (H.sel (l := [_]) (M := []) hw [0]) ⟨none, 0, rfl, ⟨fun _ => rfl, fun i hi => absurd hi (Nat.not_lt_zero _)⟩⟩)
  | true =>
    rw [hC, if_pos rfl] at cC
    rw [if_pos rfl, varT_len, hX]
    obtain ⟨hN, hM, hFA⟩ := check_facts hC
    rw [hX] at hM
    refine calls_of_JC (R := h) Tryz.func103 Tryz.ntmps103 rfl rfl (hw) ?_
    repeat' first
      | (refine J.isJ ?_; first | (first | (refine J.fc 60 ?_; refine J.call0 eCheckN rfl rfl (fun w hw => cC w (hw.rdH (q0 _))) ?_) | (refine J.o 9 ?_; refine J.make (enc := encS) (m := vs.length) ((0, 0) : Nat × Nat) hΓ rfl rfl rfl rfl rfl rfl (fun _ => rfl) (by omega) (by omega) (fun bA hA oA => ?_); generalize (some (⟨bA, 0, none⟩ : Addr)) = aA at oA ⊢)) | (first | (refine J.o 0 ?_; refine J.ev' hΓ ?_) | refine J.nil ?_ | (refine J.o 4 ?_; first | refine J.e0 hΓ ?_ | refine J.lT default hΓ ?_ | refine J.e1 hΓ ?_ | refine J.e2 hΓ ?_) | (refine J.o 3 ?_; first | refine J.iJ hΓ ?_ | refine J.ev' hΓ ?_) | (refine J.o 1 ?_; first | refine J.ad ?_) | (refine J.o 5 ?_; first | refine J.t0 hΓ ?_ | refine J.tT _ default hΓ (fun _ _ => ?_)) | (refine J.o 6 ?_; refine J.bx (fun _ => ?_)) | (refine J.o 7 ?_; refine J.al hΓ (fun _ => ?_)) | (refine J.o 9 ?_; refine J.bl hΓ (fun _ => ?_)) | (refine J.o 10 ?_; first | refine J.ev' hΓ ?_) | (refine J.o 11 ?_; first | refine J.ev' hΓ ?_)))
      | (first | refine JC.seq ?_ | refine JC.region ?_ | refine JC.block ?_ | refine JC.ret ?_ | refine JC.exit ?_ | refine JC.skip ?_ | refine thenK.nn ?_ | refine thenK.r ?_ | refine thenK.x ?_ | refine blockK.nn ?_ | refine blockK.hit rfl ?_ | refine JC.condT rfl ?_ | refine JC.condF rfl ?_ | (refine JC.cond rfl (fun hc => ?_) (fun hc => ?_) <;> ((try simp only [tcS] at hc) <;> first | (first | (exact absurd rfl hc) | (exfalso; omega) | (exact (tF hc (by assumption)).elim) | (exact (fT hc (by assumption)).elim)) | skip)) | refine drawK.nn ?_ | refine loopK.x ?_)
      | (fail)
      | fail
    all_goals first | (exfalso; omega) | skip
    rename_i n1
    refine JC.weak (L' := [hA]) (fun w hw => H.sel (l := [_, _]) (M := []) hw [0]) ?_
    refine JC.gen [(3, .slice aA vs.length vs.length), (16, .slice a vs.length cap), (17, .int .i64 vs.length), (18, .int .i64 0)] ⟨rfl, rfl, rfl, rfl, trivial⟩ (fun F1 => ?_)
    refine JC.loopG (fun i => i == 4 || i == 5 || i == 7 || Nat.ble 18 i) (fun m g L' => ∃ (k : Nat) (hA : Heap), g 18 = .int .i64 (k : Int) ∧ k + m = vs.length ∧ OwT encS 2 40 aA vs.length (varT ((vs.map pnV).take k) ++ List.replicate m (0, 0)) hA ∧ L' = [hA]) vs.length ⟨0, hA, rfl, by omega, oA, rfl⟩ ?_
    clear oA
    rintro m g L' ⟨k, hA, e18, hkm, oA, rfl⟩
    refine JC.pin 18 e18 ?_
    clear e18
    have hst := varT_len ((vs.map pnV).take k)
    rw [List.length_take, hX] at hst
    have hlT : (varT ((vs.map pnV).take k) ++ List.replicate m ((0, 0) : Nat × Nat)).length = vs.length := by rw [List.length_append, List.length_replicate]; omega
    rcases Nat.lt_or_ge k vs.length with hk | hk
    case inr =>
      have hm0 : m = 0 := by omega
      subst hm0
      rw [List.take_of_length_le (by omega), List.replicate_zero, List.append_nil] at oA
      repeat' first
        | (refine J.isJ ?_; first | (fail) | (first | (refine J.o 0 ?_; refine J.ev' hΓ ?_) | refine J.nil ?_ | (refine J.o 4 ?_; first | refine J.e0 hΓ ?_ | refine J.lT default hΓ ?_ | refine J.e1 hΓ ?_ | refine J.e2 hΓ ?_) | (refine J.o 3 ?_; first | refine J.iJ hΓ ?_ | refine J.ev' hΓ ?_) | (refine J.o 1 ?_; first | refine J.ad ?_) | (refine J.o 5 ?_; first | refine J.t0 hΓ ?_ | refine J.tT _ default hΓ (fun _ _ => ?_)) | (refine J.o 6 ?_; refine J.bx (fun _ => ?_)) | (refine J.o 7 ?_; refine J.al hΓ (fun _ => ?_)) | (refine J.o 9 ?_; refine J.bl hΓ (fun _ => ?_)) | (refine J.o 10 ?_; first | refine J.ev' hΓ ?_) | (refine J.o 11 ?_; first | refine J.ev' hΓ ?_)))
        | (first | refine JC.seq ?_ | refine JC.region ?_ | refine JC.block ?_ | refine JC.ret ?_ | refine JC.exit ?_ | refine JC.skip ?_ | refine thenK.nn ?_ | refine thenK.r ?_ | refine thenK.x ?_ | refine blockK.nn ?_ | refine blockK.hit rfl ?_ | refine JC.condT rfl ?_ | refine JC.condF rfl ?_ | (refine JC.cond rfl (fun hc => ?_) (fun hc => ?_) <;> ((try simp only [tcS] at hc) <;> first | (first | (exact absurd rfl hc) | (exfalso; omega) | (exact (tF hc (by assumption)).elim) | (exact (fT hc (by assumption)).elim)) | skip)) | refine drawK.nn ?_ | refine loopK.x ?_)
        | (fail)
        | fail
      all_goals first | (exfalso; omega) | exact ret1f rfl rfl rfl (fun w1 hw => Gives.of hw ⟨aA, vs.length, rfl, oA.sl⟩)
    have hkX : k < (vs.map pnV).length := by omega
    have hmk := mem_g vs k hk
    have hVl := sl _ hmk
    have hVs := si _ hmk
    have hfk : formedP (pnV (vs.getD k default)) N k = true := by
      have := formAll_at N (vs.map pnV) 0 hFA k hkX
      rw [Int.zero_add, getD_map] at this
      exact this
    have hVo : ∀ i, i ∈ (vs.getD k default).l → 0 ≤ i ∧ i < k := formed_rng hfk
    have hnext : varT ((vs.map pnV).take (k + 1)) = varT ((vs.map pnV).take k) ++ [varS (varT ((vs.map pnV).take k)) (pnV (vs.getD k default))] := by
      rw [take_g _ k hkX, varT_snoc, getD_map]
    obtain ⟨m', rfl⟩ : ∃ m', m = m' + 1 := ⟨m - 1, by omega⟩
    have hokT := okS_varT ((vs.map pnV).take k)
    have hlk : (varT ((vs.map pnV).take k)).length = k := by omega
    generalize varT ((vs.map pnV).take k) = T at *
    have hset : (T ++ List.replicate (m' + 1) ((0, 0) : Nat × Nat)).set k (parV T (pnV (vs.getD k default)) 0) = T ++ parV T (pnV (vs.getD k default)) 0 :: List.replicate m' (0, 0) := by
      have := app_st T (0, 0) (parV T (pnV (vs.getD k default)) 0) (List.replicate m' ((0, 0) : Nat × Nat))
      rw [hlk] at this
      rw [List.replicate_succ]; exact this
    repeat' first
      | (refine J.isJ ?_; first | (first | (refine J.o 4 ?_; refine J.lT default hΓ ?_ (hs := so) (hr := q0 _)) | (refine J.fc 96 ?_; refine J.call0 eVar rfl rfl (fun w hw => var_any (vs.getD k default).lit w) ?_) | (refine J.fc 132 ?_; refine J.call0 eOf rfl rfl (fun w hw => of1_any (varI (vs.getD k default).lit) _ w (hw.rdH RdH.hd)) ?_) | (refine J.o 5 ?_; refine J.perm br2 ?_; refine J.tT (parV T (pnV (vs.getD k default)) 0) default hΓ (fun hA2 oA2 => ?_))) | (first | (refine J.o 0 ?_; refine J.ev' hΓ ?_) | refine J.nil ?_ | (refine J.o 4 ?_; first | refine J.e0 hΓ ?_ | refine J.lT default hΓ ?_ | refine J.e1 hΓ ?_ | refine J.e2 hΓ ?_) | (refine J.o 3 ?_; first | refine J.iJ hΓ ?_ | refine J.ev' hΓ ?_) | (refine J.o 1 ?_; first | refine J.ad ?_) | (refine J.o 5 ?_; first | refine J.t0 hΓ ?_ | refine J.tT _ default hΓ (fun _ _ => ?_)) | (refine J.o 6 ?_; refine J.bx (fun _ => ?_)) | (refine J.o 7 ?_; refine J.al hΓ (fun _ => ?_)) | (refine J.o 9 ?_; refine J.bl hΓ (fun _ => ?_)) | (refine J.o 10 ?_; first | refine J.ev' hΓ ?_) | (refine J.o 11 ?_; first | refine J.ev' hΓ ?_)))
      | (first | refine JC.seq ?_ | refine JC.region ?_ | refine JC.block ?_ | refine JC.ret ?_ | refine JC.exit ?_ | refine JC.skip ?_ | refine thenK.nn ?_ | refine thenK.r ?_ | refine thenK.x ?_ | refine blockK.nn ?_ | refine blockK.hit rfl ?_ | refine JC.condT rfl ?_ | refine JC.condF rfl ?_ | (refine JC.cond rfl (fun hc => ?_) (fun hc => ?_) <;> ((try simp only [tcS] at hc) <;> first | (first | (exact absurd rfl hc) | (exfalso; omega) | (exact (tF hc (by assumption)).elim) | (exact (fT hc (by assumption)).elim)) | skip)) | refine drawK.nn ?_ | refine loopK.x ?_)
      | ((refine JC.drawN [] [] (by kernel_rfl) (by kernel_rfl) ?_))
      | fail
    all_goals first | (exfalso; omega) | skip
    rename_i oA2
    rw [hset] at oA2
    refine JC.loopG (fun i => i == 7 || Nat.ble 34 i) (fun m2 g L' => ∃ (q : Nat) (hA : Heap), g 34 = .int .i64 (q : Int) ∧ q + m2 = (vs.getD k default).l.length ∧ OwT encS 2 40 aA vs.length (T ++ parV T (pnV (vs.getD k default)) q :: List.replicate m' (0, 0)) hA ∧ L' = hA :: _) (vs.getD k default).l.length ⟨0, _, rfl, by omega, oA2, rfl⟩ ?_
    clear oA oA2
    rintro m2 g2 L' ⟨q, hA, e34, hqm, oA, rfl⟩
    refine JC.pin 34 e34 ?_
    clear e34
    rcases Nat.lt_or_ge q (vs.getD k default).l.length with hq | hq
    case inr =>
      rw [parV_all _ _ _ hq] at oA
      repeat' first
        | (refine J.isJ ?_; first | (fail) | (first | (refine J.o 0 ?_; refine J.ev' hΓ ?_) | refine J.nil ?_ | (refine J.o 4 ?_; first | refine J.e0 hΓ ?_ | refine J.lT default hΓ ?_ | refine J.e1 hΓ ?_ | refine J.e2 hΓ ?_) | (refine J.o 3 ?_; first | refine J.iJ hΓ ?_ | refine J.ev' hΓ ?_) | (refine J.o 1 ?_; first | refine J.ad ?_) | (refine J.o 5 ?_; first | refine J.t0 hΓ ?_ | refine J.tT _ default hΓ (fun _ _ => ?_)) | (refine J.o 6 ?_; refine J.bx (fun _ => ?_)) | (refine J.o 7 ?_; refine J.al hΓ (fun _ => ?_)) | (refine J.o 9 ?_; refine J.bl hΓ (fun _ => ?_)) | (refine J.o 10 ?_; first | refine J.ev' hΓ ?_) | (refine J.o 11 ?_; first | refine J.ev' hΓ ?_)))
        | (first | refine JC.seq ?_ | refine JC.region ?_ | refine JC.block ?_ | refine JC.ret ?_ | refine JC.exit ?_ | refine JC.skip ?_ | refine thenK.nn ?_ | refine thenK.r ?_ | refine thenK.x ?_ | refine blockK.nn ?_ | refine blockK.hit rfl ?_ | refine JC.condT rfl ?_ | refine JC.condF rfl ?_ | (refine JC.cond rfl (fun hc => ?_) (fun hc => ?_) <;> ((try simp only [tcS] at hc) <;> first | (first | (exact absurd rfl hc) | (exfalso; omega) | (exact (tF hc (by assumption)).elim) | (exact (fT hc (by assumption)).elim)) | skip)) | refine drawK.nn ?_ | refine loopK.x ?_)
        | (fail)
        | fail
      all_goals first | (exfalso; omega) | skip
      have e : T ++ varS T (pnV (vs.getD k default)) :: List.replicate m' ((0, 0) : Nat × Nat) = varT ((vs.map pnV).take (k + 1)) ++ List.replicate m' (0, 0) := by rw [hnext, List.append_assoc]; rfl
      rw [e] at oA
      refine loopK.nn m' (by omega) (by repeat (first | refine Ag.upd rfl ?_ | exact Ag.hv | refine Ag.hv2 (fun i hi => by simp at hi ⊢; omega) ?_)) ⟨_, ⟨k + 1, hA, ?_, by omega, oA, rfl⟩, fun w hw => H.sel (l := [_, _, _]) (M := []) hw [0]⟩
      show Value.int .i64 _ = _; congr 1
    have hxq := hVo _ (mem_g (vs.getD k default).l q hq)
    have g1 := app_at T (parV T (pnV (vs.getD k default)) q) (List.replicate m' (0, 0))
    rw [hlk] at g1
    have g2 : (T ++ parV T (pnV (vs.getD k default)) q :: List.replicate m' (0, 0)).getD ((vs.getD k default).l.getD q default).toNat default = T.getD ((vs.getD k default).l.getD q default).toNat default := app_getD _ _ _ (by omega)
    have hl5 : (T ++ parV T (pnV (vs.getD k default)) q :: List.replicate m' ((0, 0) : Nat × Nat)).length = vs.length := by rw [List.length_append, List.length_cons, List.length_replicate]; omega
    have cU := fun w => union_any (parV T (pnV (vs.getD k default)) q) (T.getD ((vs.getD k default).l.getD q default).toNat default) (okS_par T hokT _ _) (okS_d T hokT _) w
    have hstp := parV_step T (pnV (vs.getD k default)) q hq
    have hstp : parV T (pnV (vs.getD k default)) (q + 1) = uniS (parV T (pnV (vs.getD k default)) q) (T.getD ((vs.getD k default).l.getD q default).toNat default) := hstp
    rw [← hstp] at cU
    have hset2 := app_st T (parV T (pnV (vs.getD k default)) q) (parV T (pnV (vs.getD k default)) (q + 1)) (List.replicate m' ((0, 0) : Nat × Nat))
    rw [hlk] at hset2
    have hVs2 := hVs
    repeat' first
      | (refine J.isJ ?_; first | (first | (refine J.o 4 ?_; first | refine J.lT default hΓ ?_ (hs := hVs2) (hr := q0 _) | (refine J.lT default hΓ ?_ (hs := oA.sl) (hr := RdH.hd); first | rw [g1] | rw [g2])) | (refine J.fc 129 ?_; refine J.call0 eUnion rfl rfl (fun w hw => cU w) ?_) | (refine J.o 5 ?_; refine J.tT (parV T (pnV (vs.getD k default)) (q + 1)) default hΓ (fun hA2 oA2 => ?_))) | (first | (refine J.o 0 ?_; refine J.ev' hΓ ?_) | refine J.nil ?_ | (refine J.o 4 ?_; first | refine J.e0 hΓ ?_ | refine J.lT default hΓ ?_ | refine J.e1 hΓ ?_ | refine J.e2 hΓ ?_) | (refine J.o 3 ?_; first | refine J.iJ hΓ ?_ | refine J.ev' hΓ ?_) | (refine J.o 1 ?_; first | refine J.ad ?_) | (refine J.o 5 ?_; first | refine J.t0 hΓ ?_ | refine J.tT _ default hΓ (fun _ _ => ?_)) | (refine J.o 6 ?_; refine J.bx (fun _ => ?_)) | (refine J.o 7 ?_; refine J.al hΓ (fun _ => ?_)) | (refine J.o 9 ?_; refine J.bl hΓ (fun _ => ?_)) | (refine J.o 10 ?_; first | refine J.ev' hΓ ?_) | (refine J.o 11 ?_; first | refine J.ev' hΓ ?_)))
      | (first | refine JC.seq ?_ | refine JC.region ?_ | refine JC.block ?_ | refine JC.ret ?_ | refine JC.exit ?_ | refine JC.skip ?_ | refine thenK.nn ?_ | refine thenK.r ?_ | refine thenK.x ?_ | refine blockK.nn ?_ | refine blockK.hit rfl ?_ | refine JC.condT rfl ?_ | refine JC.condF rfl ?_ | (refine JC.cond rfl (fun hc => ?_) (fun hc => ?_) <;> ((try simp only [tcS] at hc) <;> first | (first | (exact absurd rfl hc) | (exfalso; omega) | (exact (tF hc (by assumption)).elim) | (exact (fT hc (by assumption)).elim)) | skip)) | refine drawK.nn ?_ | refine loopK.x ?_)
      | ((refine JC.drawN [] [] (by kernel_rfl) (by kernel_rfl) ?_))
      | fail
    all_goals first | (exfalso; omega) | skip
    rename_i oA2
    rw [hset2] at oA2
    refine loopK.nn (m2 - 1) (by omega) (by repeat (first | refine Ag.upd rfl ?_ | exact Ag.hv)) ⟨_, ⟨q + 1, _, ?_, by omega, oA2, rfl⟩, fun w hw => hw⟩
    show Value.int .i64 _ = _; congr 1
theorem has_fold (T : List (Nat × Nat)) (u : Int) : ∀ (l : List Int) (s : Nat × Nat), hasB (l.foldl (fun s (k : Int) => uniS s (T.getD k.toNat default)) s) u = true ↔ hasB s u = true ∨ ∃ k, k ∈ l ∧ hasB (T.getD k.toNat default) u = true
  | [], s => by simp
  | x :: l, s => by
    rw [List.foldl_cons, has_fold T u l, has_uni, Bool.or_eq_true]
    constructor
    · rintro ((h | h) | ⟨k, h1, h2⟩)
      · exact .inl h
      · exact .inr ⟨x, List.mem_cons_self, h⟩
      · exact .inr ⟨k, List.mem_cons_of_mem _ h1, h2⟩
    · rintro (h | ⟨k, h1, h2⟩)
      · exact .inl (.inl h)
      · rcases List.mem_cons.1 h1 with rfl | h1
        · exact .inl (.inr h2)
        · exact .inr ⟨k, h1, h2⟩
end Go.Proofs.YtdiciemlbhkilaaGreatDoor
namespace Go.Proofs.YtdiciemlbhkilaaGreatDoor
open Go Go.Cx Go.RowKit
set_option linter.unusedVariables false
set_option linter.unusedSimpArgs false
set_option maxHeartbeats 4000000
attribute [local irreducible] J JC thenK blockK loopK roundK drawK retK QW Qt pel List.set Calls
theorem foldV_pre (C : List PN) : ∀ T : List (Nat × Nat), ∃ T', C.foldl (fun T x => T ++ [varS T x]) T = T ++ T' := by
  induction C with
  | nil => exact fun T => ⟨[], by simp⟩
  | cons x C ih =>
    intro T
    obtain ⟨T', h⟩ := ih (T ++ [varS T x])
    exact ⟨[varS T x] ++ T', by rw [List.foldl_cons, h, List.append_assoc]⟩
theorem varT_pre (B C : List PN) : ∃ T', varT (B ++ C) = varT B ++ T' := by
  unfold varT; rw [List.foldl_append]; exact foldV_pre C _
theorem vd_app (B C : List PN) (i : Nat) (h : i < B.length) : (varT (B ++ C)).getD i default = (varT B).getD i default := by
  obtain ⟨T, e⟩ := varT_pre B C
  rw [e, getD_app _ _ _ (by rw [varT_len]; exact h)]
theorem has_varS (T : List (Nat × Nat)) (x : PN) (u : Int) : hasB (varS T x) u = true ↔ hasB (withS (0, 0) (varI x.2.1)) u = true ∨ ∃ k, k ∈ x.2.2 ∧ hasB (T.getD k.toNat default) u = true := has_fold T u _ _
def Oc (B : List PN) (i : Int) (u : Int) : Prop := hasB ((varT B).getD i.toNat default) u = true
theorem oc_app {B C : List PN} {i u : Int} (h : i.toNat < B.length) : Oc (B ++ C) i u ↔ Oc B i u := by unfold Oc; rw [vd_app _ _ _ h]
theorem oc_at {B : List PN} (hB : Ord B) (i : Int) (h0 : 0 ≤ i) (hi : i < B.length) (u : Int) : Oc B i u ↔ hasB (withS (0, 0) (varI (litP B i))) u = true ∨ ∃ k, k ∈ inP B i ∧ Oc B k u := by
  obtain ⟨j, rfl⟩ := Int.eq_ofNat_of_zero_le h0
  have hj : j < B.length := by omega
  have e1 : (varT B).getD j default = varS (varT (B.take j)) (B.getD j default) := by
    have e : B.take (j + 1) ++ B.drop (j + 1) = B := List.take_append_drop ..
    have h1 := vd_app (B.take (j + 1)) (B.drop (j + 1)) j (by rw [List.length_take]; omega)
    rw [e] at h1
    rw [h1, take_g B j hj, varT_snoc]
    exact getD_last2 _ _ _ (by rw [varT_len, List.length_take]; omega)
  have e2 : ∀ k, k < j → (varT B).getD k default = (varT (B.take j)).getD k default := fun k hk => by
    have e : B.take j ++ B.drop j = B := List.take_append_drop ..
    have h1 := vd_app (B.take j) (B.drop j) k (by rw [List.length_take]; omega)
    rw [e] at h1
    exact h1
  unfold Oc
  rw [Int.toNat_natCast, e1, has_varS, litP_nat, inP_nat]
  have hr := hB j
  rw [inP_nat] at hr
  constructor
  · rintro (h | ⟨k, hk, h⟩)
    · exact .inl h
    · have := hr k hk
      exact .inr ⟨k, hk, by rw [e2 _ (by omega)]; exact h⟩
  · rintro (h | ⟨k, hk, h⟩)
    · exact .inl h
    · have := hr k hk
      exact .inr ⟨k, hk, by rw [← e2 _ (by omega)]; exact h⟩
theorem oc_put {B : List PN} (hB : Ord B) (z : PN) (hz : ∀ k, k ∈ z.2.2 → 0 ≤ k ∧ k < B.length) (u : Int) : Oc (putP B z).2 (putP B z).1 u ↔ hasB (withS (0, 0) (varI z.2.1)) u = true ∨ ∃ k, k ∈ z.2.2 ∧ Oc B k u := by
  unfold putP
  by_cases hm : z ∈ B
  · rw [if_pos hm]
    have hb := idx_nat B z hm
    have hat := idxP_at z B 0 hm
    rw [Int.sub_zero] at hat
    have := oc_at hB (idxP B z 0) hb.1 hb.2 u
    unfold litP inP at this
    rw [hat] at this
    exact this
  · rw [if_neg hm]
    show Oc (B ++ [z]) (B.length : Int) u ↔ _
    unfold Oc
    rw [varT_snoc, Int.toNat_natCast, getD_last2 _ _ _ (varT_len B), has_varS]
theorem with_zero : withS (0, 0) (varI 0) = (0, 0) := by decide
theorem oc_none {l : Int} (h : l = 0) (u : Int) : ¬ hasB (withS (0, 0) (varI l)) u = true := by
  subst h; rw [with_zero, has_zero]; exact Bool.false_ne_true
theorem varI_abs {l : Int} (h : l ≠ 0 ∧ -128 ≤ l ∧ l ≤ 128) : varI l = absI l := by unfold varI absI; grind
theorem oc_lit {l : Int} (h : l ≠ 0 ∧ -128 ≤ l ∧ l ≤ 128) (u : Int) : hasB (withS (0, 0) (varI l)) u = true ↔ u = absI l := by
  have : 1 ≤ absI l ∧ absI l ≤ 128 := by unfold absI; omega
  rw [varI_abs h, has_with _ _ _ this, has_zero]
  constructor
  · rintro (h | h)
    · cases h
    · exact h
  · exact .inr
def Hd (B : List PN) (j l : Int) : Prop := (kindP B j = 2 ∧ litP B j = l) ∨ (kindP B j = 3 ∧ ∃ q, q ∈ inP B j ∧ kindP B q = 2 ∧ litP B q = l)
theorem Hd.app {B : List PN} (hB : Ord B) {j l : Int} (h : Hd B j l) (h0 : 0 ≤ j) (hj : j < B.length) (C : List PN) : Hd (B ++ C) j l := by
  unfold Hd
  rw [kindP_app _ _ _ (by omega), litP_app _ _ _ (by omega), inP_app _ _ _ (by omega)]
  rcases h with h | ⟨h, q, hq, h2⟩
  · exact .inl h
  · refine .inr ⟨h, q, hq, ?_⟩
    have := hB j.toNat q (by rw [show ((j.toNat : Nat) : Int) = j by omega]; exact hq)
    rw [kindP_app _ _ _ (by omega), litP_app _ _ _ (by omega)]
    exact h2
structure Dd (B : List PN) : Prop where
  dec : ∀ i : Nat, i < B.length → kindP B i = 3 → ∀ a, a ∈ inP B i → ∀ b, b ∈ inP B i → a ≠ b → ∀ u, Oc B a u → ¬ Oc B b u
  dci : ∀ i : Nat, i < B.length → kindP B i = 4 → ∃ j k l, inP B i = [j, k] ∧ l ≠ 0 ∧ Hd B j l ∧ Hd B k (-l)
theorem Dd.nil : Dd [] := ⟨fun i hi => absurd hi (Nat.not_lt_zero _), fun i hi => absurd hi (Nat.not_lt_zero _)⟩
theorem Dd.put {B : List PN} (hB : Ord B) (d : Dd B) {z : PN} (hz : ∀ k, k ∈ z.2.2 → 0 ≤ k ∧ k < B.length) (h3 : z.1 = 3 → ∀ a, a ∈ z.2.2 → ∀ b, b ∈ z.2.2 → a ≠ b → ∀ u, Oc B a u → ¬ Oc B b u) (h4 : z.1 = 4 → ∃ j k l, z.2.2 = [j, k] ∧ l ≠ 0 ∧ Hd B j l ∧ Hd B k (-l)) : Dd (putP B z).2 := by
  unfold putP
  by_cases hm : z ∈ B
  · rw [if_pos hm]; exact d
  rw [if_neg hm]
  have hlen : (B ++ [z]).length = B.length + 1 := by rw [List.length_append]; rfl
  have key : ∀ i : Nat, i < (B ++ [z]).length → (i < B.length ∧ kindP (B ++ [z]) i = kindP B i ∧ inP (B ++ [z]) i = inP B i ∧ ∀ k, k ∈ inP B i → 0 ≤ k ∧ k < B.length) ∨ (kindP (B ++ [z]) i = z.1 ∧ inP (B ++ [z]) i = z.2.2) := fun i hi => by
    by_cases hb : i < B.length
    · refine .inl ⟨hb, kindP_app _ _ _ (by omega), inP_app _ _ _ (by omega), fun k hk => ?_⟩
      have := hB i k hk
      omega
    · have e : i = B.length := by omega
      subst e
      refine .inr ⟨?_, ?_⟩
      · rw [kindP_nat, getD_last]
      · rw [inP_nat, getD_last]
  refine ⟨fun i hi hk a ha b hb hab u hu => ?_, fun i hi hk => ?_⟩
  · rcases key i hi with ⟨k1, k2, k3, k4⟩ | ⟨k1, k2⟩
    · rw [k3] at ha hb
      rw [k2] at hk
      have ra := k4 a ha
      have rb := k4 b hb
      rw [oc_app (by omega)] at hu ⊢
      exact d.dec i k1 hk a ha b hb hab u hu
    · rw [k2] at ha hb
      rw [k1] at hk
      have ra := hz a ha
      have rb := hz b hb
      rw [oc_app (by omega)] at hu ⊢
      exact h3 hk a ha b hb hab u hu
  · rcases key i hi with ⟨k1, k2, k3, k4⟩ | ⟨k1, k2⟩
    · rw [k2] at hk
      obtain ⟨j, k, l, e, l0, h1, h2⟩ := d.dci i k1 hk
      have rj := k4 j (by rw [e]; simp)
      have rk := k4 k (by rw [e]; simp)
      exact ⟨j, k, l, by rw [k3, e], l0, h1.app hB rj.1 rj.2 _, h2.app hB rk.1 rk.2 _⟩
    · rw [k1] at hk
      obtain ⟨j, k, l, e, l0, h1, h2⟩ := h4 hk
      have rj := hz j (by rw [e]; simp)
      have rk := hz k (by rw [e]; simp)
      exact ⟨j, k, l, by rw [k2, e], l0, h1.app hB rj.1 rj.2 _, h2.app hB rk.1 rk.2 _⟩
theorem gate_out {B : List PN} {kind lt : Int} {l : List Int} (hk : kind = 3 ∨ kind = 4) :
    addP B (kind, lt, l) = putP B (endK kind, 0, []) ∨ (inputsR B kind (dropK kind) l = [] ∧ addP B (kind, lt, l) = putP B (dropK kind, 0, [])) ∨ (∃ y, inputsR B kind (dropK kind) l = [y] ∧ addP B (kind, lt, l) = (y, B)) ∨ (2 ≤ (inputsR B kind (dropK kind) l).length ∧ addP B (kind, lt, l) = putP B (kind, 0, sortS (inputsR B kind (dropK kind) l))) := by
  rw [add_doc hk]
  by_cases hd : decR B (inputsR B kind (dropK kind) l) (endK kind) = true
  · rw [if_pos hd]; exact .inl rfl
  rw [if_neg hd]
  generalize inputsR B kind (dropK kind) l = D
  rcases D with _ | ⟨y, _ | ⟨z, t⟩⟩
  · exact .inr (.inl ⟨rfl, rfl⟩)
  · exact .inr (.inr (.inl ⟨y, rfl, rfl⟩))
  · exact .inr (.inr (.inr ⟨by simp only [List.length_cons]; omega, rfl⟩))
structure Bt (N : Int) (B : List PN) : Prop where
  sm : Simp N B
  ok : OkP B
  dd : Dd B
structure Add1 (N : Int) (B : List PN) (p : Int × List PN) : Prop where
  bt : Bt N p.2
  ex : ∃ C, p.2 = B ++ C
  le : p.2.length ≤ B.length + 1
  lo : 0 ≤ p.1
  hi : p.1 < p.2.length
  old : ∀ (s : Nat × Nat) (i : Int), i.toNat < B.length → valN s p.2 i = valN s B i
theorem put_ext (B : List PN) (z : PN) : ∃ C, (putP B z).2 = B ++ C := by
  unfold putP
  split
  · exact ⟨[], by rw [List.append_nil]⟩
  · exact ⟨[z], rfl⟩
theorem add_ext {B : List PN} (h : OkP B) {N : Int} (hN : 0 ≤ N ∧ N ≤ 128) {x : PN} (hf : formedP x N B.length = true) : ∃ C, (addP B x).2 = B ++ C := by
  rcases add_cases h hN hf with ⟨y, e, _⟩ | ⟨z, e, hz⟩
  · rw [e]; exact ⟨[], by rw [List.append_nil]⟩
  · rw [e]; exact put_ext B z
theorem add1 {N : Int} (hN : 0 ≤ N ∧ N ≤ 128) {B : List PN} (b : Bt N B) {x : PN} (hf : formedP x N B.length = true) (hd : Dd (addP B x).2) : Add1 N B (addP B x) := by
  have h := b.ok.add hN hf
  exact ⟨⟨add_simp b.sm b.ok hf, h.1, hd⟩, add_ext b.ok hN hf, h.2.2.1, h.2.2.2.1, h.2.2.2.2, fun s => (val_add s b.sm.ord b.ok hf).2⟩
theorem put_at (B : List PN) (z : PN) : kindP (putP B z).2 (putP B z).1 = z.1 ∧ litP (putP B z).2 (putP B z).1 = z.2.1 ∧ inP (putP B z).2 (putP B z).1 = z.2.2 := by
  have key : (putP B z).2.getD (putP B z).1.toNat default = z := by
    unfold putP
    by_cases hm : z ∈ B
    · rw [if_pos hm]
      have hat := idxP_at z B 0 hm
      rwa [Int.sub_zero] at hat
    · rw [if_neg hm]
      show (B ++ [z]).getD ((B.length : Int)).toNat default = z
      rw [Int.toNat_natCast, getD_last]
  unfold kindP litP inP
  rw [key]
  exact ⟨rfl, rfl, rfl⟩
theorem leaf_ok {N : Int} (hN : 0 ≤ N ∧ N ≤ 128) {B : List PN} (b : Bt N B) {k l : Int} (hk : k ≠ 3 ∧ k ≠ 4) (hf : formedP (k, l, []) N B.length = true) : Add1 N B (addP B (k, l, [])) ∧ kindP (addP B (k, l, [])).2 (addP B (k, l, [])).1 = k ∧ litP (addP B (k, l, [])).2 (addP B (k, l, [])).1 = l ∧ (∀ s, valN s (addP B (k, l, [])).2 (addP B (k, l, [])).1 = truS s (truT s B) (k, l, [])) ∧ ∀ u, Oc (addP B (k, l, [])).2 (addP B (k, l, [])).1 u ↔ hasB (withS (0, 0) (varI l)) u = true := by
  have hz : ∀ i : Int, i ∈ ([] : List Int) → 0 ≤ i ∧ i < B.length := fun i hi => absurd hi List.not_mem_nil
  have e : addP B (k, l, []) = putP B (k, l, []) := add_const (x := (k, l, [])) hk
  refine ⟨add1 hN b hf ?_, ?_, ?_, fun s => (val_add s b.sm.ord b.ok hf).1, fun u => ?_⟩
  · rw [e]; exact b.dd.put b.sm.ord hz (fun h => absurd h hk.1) (fun h => absurd h hk.2)
  · rw [e]; exact (put_at B _).1
  · rw [e]; exact (put_at B _).2.1
  · rw [e, oc_put b.sm.ord _ hz]
    constructor
    · rintro (h | ⟨q, hq, _⟩)
      · exact h
      · exact absurd hq List.not_mem_nil
    · exact .inl
theorem formed_l {N : Int} {v l bf : Int} (hv : 1 ≤ v ∧ v ≤ N) (hl : l = v ∨ l = -v) : formedP (2, l, []) N bf = true := by
  unfold formedP
  simp only [List.any_nil, Bool.not_false, Bool.true_and]
  rw [if_neg (by decide), if_pos trivial]
  unfold validB
  simp only [Bool.and_eq_true, decide_eq_true_eq]
  exact ⟨by omega, rfl⟩
theorem and_ok {N : Int} (hN : 0 ≤ N ∧ N ≤ 128) {B : List PN} (b : Bt N B) {v l low r : Int} (hv : 1 ≤ v ∧ v ≤ N) (hl : l = v ∨ l = -v) (h0 : 0 ≤ low ∧ low < B.length) (hr : 0 ≤ r ∧ r < B.length) (k0 : kindP B low = 2) (l0 : litP B low = l) (hf : ¬ Oc B r v) :
    Add1 N B (addP B (3, 0, [low, r])) ∧ (∀ s, valN s (addP B (3, 0, [low, r])).2 (addP B (3, 0, [low, r])).1 = (valN s B low && valN s B r)) ∧ (∀ u, Oc (addP B (3, 0, [low, r])).2 (addP B (3, 0, [low, r])).1 u → u = v ∨ Oc B r u) ∧ (kindP (addP B (3, 0, [low, r])).2 (addP B (3, 0, [low, r])).1 = 0 ∨ Hd (addP B (3, 0, [low, r])).2 (addP B (3, 0, [low, r])).1 l) := by
  have hl128 : l ≠ 0 ∧ -128 ≤ l ∧ l ≤ 128 := by omega
  have habs : absI l = v := by unfold absI; omega
  have hrg : ∀ i, i ∈ [low, r] → 0 ≤ i ∧ i < (B.length : Int) := fun i hi => by
    rcases List.mem_cons.1 hi with rfl | hi
    · exact h0
    · rw [List.mem_singleton.1 hi]; exact hr
  have hfm : formedP (3, 0, [low, r]) N B.length = true := formed_gate (.inl rfl) hrg
  have hB := b.sm.ord
  have gi := gin b.ok 3 hrg
  have hlowin : inP B low = [] := by
    have := formed_low (b.sm.fm low.toNat (by omega)) (by
      have e : (B.getD low.toNat default).1 = 2 := k0
      unfold isG; omega)
    exact this
  have hoclow : ∀ u, Oc B low u ↔ u = v := fun u => by
    rw [oc_at hB low h0.1 h0.2, l0, oc_lit hl128, habs, hlowin]
    constructor
    · rintro (h | ⟨k, hk, _⟩)
      · exact h
      · exact absurd hk List.not_mem_nil
    · exact .inl
  have hX : ∀ x, x ∈ flatP B 3 [low, r] → x = low ∨ (kindP B r = 3 ∧ x ∈ inP B r) ∨ x = r := fun x hx => by
    unfold flatP at hx
    rw [List.mem_flatMap] at hx
    obtain ⟨i, hi, hx⟩ := hx
    rcases List.mem_cons.1 hi with rfl | hi
    · rw [if_neg (by omega)] at hx
      exact .inl (List.mem_singleton.1 hx)
    · have hi := List.mem_singleton.1 hi
      subst hi
      split at hx
      · rename_i h; exact .inr (.inl ⟨h, hx⟩)
      · exact .inr (.inr (List.mem_singleton.1 hx))
  have hXo : ∀ x, x ∈ flatP B 3 [low, r] → x ≠ low → ∀ u, Oc B x u → Oc B r u := fun x hx hne u hu => by
    rcases hX x hx with h | ⟨_, h⟩ | h
    · exact absurd h hne
    · exact (oc_at hB r hr.1 hr.2 u).2 (.inr ⟨x, h, hu⟩)
    · rw [← h]; exact hu
  have hmem : ∀ x, x ∈ sortS (inputsR B 3 (dropK 3) [low, r]) ↔ x ∈ inputsR B 3 (dropK 3) [low, r] := fun x => (sortS_perm _).mem_iff
  have hlowD : low ∈ inputsR B 3 (dropK 3) [low, r] := by
    rw [gi.mem]
    refine ⟨?_, by rw [k0]; decide⟩
    unfold flatP
    rw [List.mem_flatMap]
    exact ⟨low, List.mem_cons_self, by rw [if_neg (by omega)]; exact List.mem_singleton.2 rfl⟩
  have hdec : ∀ a, a ∈ sortS (inputsR B 3 (dropK 3) [low, r]) → ∀ c, c ∈ sortS (inputsR B 3 (dropK 3) [low, r]) → a ≠ c → ∀ u, Oc B a u → ¬ Oc B c u := fun a ha c hc hac u hu hu2 => by
    have ha := ((gi.mem a).1 ((hmem a).1 ha)).1
    have hc := ((gi.mem c).1 ((hmem c).1 hc)).1
    by_cases e1 : a = low
    · have h2 := hXo c hc (fun e => hac (e1.trans e.symm)) u hu2
      rw [e1, hoclow] at hu
      rw [hu] at h2
      exact hf h2
    by_cases e2 : c = low
    · have h2 := hXo a ha e1 u hu
      rw [e2, hoclow] at hu2
      rw [hu2] at h2
      exact hf h2
    rcases hX a ha with h | ⟨h3, h⟩ | h
    · exact e1 h
    · rcases hX c hc with g | ⟨_, g⟩ | g
      · exact e2 g
      · have := b.dd.dec r.toNat (by omega)
        rw [show ((r.toNat : Nat) : Int) = r by omega] at this
        exact this h3 a h c g hac u hu hu2
      · subst g
        have h5 : c ∈ flatP B 3 [low, c] := hc
        have := flat_kind b.sm (.inl rfl) hrg c h5
        exact this h3
    · rcases hX c hc with g | ⟨g3, g⟩ | g
      · exact e2 g
      · subst h
        have := flat_kind b.sm (.inl rfl) hrg a ha
        exact this g3
      · exact hac (h.trans g.symm)
  have hvl : ∀ s, valN s (addP B (3, 0, [low, r])).2 (addP B (3, 0, [low, r])).1 = (valN s B low && valN s B r) := fun s => by
    rw [(val_add s hB b.ok hfm).1, truS_gate s _ _ _ (.inl rfl)]
    unfold valN ask
    simp
  have hcz : ∀ c : Int, ∀ k : Int, k ∈ (c, (0 : Int), ([] : List Int)).2.2 → 0 ≤ k ∧ k < (B.length : Int) := fun c k hk => absurd hk List.not_mem_nil
  have he3 : endK 3 = 0 := rfl
  rcases gate_out (B := B) (kind := 3) (lt := 0) (l := [low, r]) (.inl rfl) with e | ⟨e0, e⟩ | ⟨y, e0, e⟩ | ⟨e0, e⟩
  · rw [he3] at e
    have hd : Dd (addP B (3, 0, [low, r])).2 := by rw [e]; exact b.dd.put hB (hcz 0) (fun h => absurd h (by decide)) (fun h => absurd h (by decide))
    refine ⟨add1 hN b hfm hd, hvl, fun u hu => ?_, .inl ?_⟩
    · rw [e, oc_put hB _ (hcz 0)] at hu
      rcases hu with h | ⟨k, hk, _⟩
      · exact absurd h (oc_none rfl u)
      · exact absurd hk List.not_mem_nil
    · rw [e]; exact (put_at B _).1
  · rw [e0] at hlowD; exact absurd hlowD List.not_mem_nil
  · rw [e0] at hlowD
    have hy := List.mem_singleton.1 hlowD
    subst hy
    have hd : Dd (addP B (3, 0, [low, r])).2 := by rw [e]; exact b.dd
    refine ⟨add1 hN b hfm hd, hvl, fun u hu => ?_, .inr ?_⟩
    · rw [e] at hu; exact .inl ((hoclow u).1 hu)
    · rw [e]; exact .inl ⟨k0, l0⟩
  · have hzr : ∀ k, k ∈ ((3 : Int), (0 : Int), sortS (inputsR B 3 (dropK 3) [low, r])).2.2 → 0 ≤ k ∧ k < (B.length : Int) := fun k hk => gi.rg k ((hmem k).1 hk)
    have hd : Dd (addP B (3, 0, [low, r])).2 := by rw [e]; exact b.dd.put hB hzr (fun _ => hdec) (fun h => absurd (show (3 : Int) = 4 from h) (by decide))
    have ha := add1 hN b hfm hd
    refine ⟨ha, hvl, fun u hu => ?_, .inr (.inr ⟨?_, low, ?_, ?_⟩)⟩
    · rw [e, oc_put hB _ hzr] at hu
      rcases hu with h | ⟨k, hk, hu⟩
      · exact absurd h (oc_none rfl u)
      · have hk := ((gi.mem k).1 ((hmem k).1 hk)).1
        by_cases e1 : k = low
        · rw [e1] at hu; exact .inl ((hoclow u).1 hu)
        · exact .inr (hXo k hk e1 u hu)
    · rw [e]; exact (put_at B _).1
    · rw [e, (put_at B _).2.2]; exact (hmem low).2 hlowD
    · obtain ⟨C, hC⟩ := ha.ex
      rw [hC, kindP_app _ _ _ (by omega), litP_app _ _ _ (by omega)]
      exact ⟨k0, l0⟩
theorem or_ok {N : Int} (hN : 0 ≤ N ∧ N ≤ 128) {B : List PN} (b : Bt N B) {l x y : Int} (hl : l ≠ 0) (hx : 0 ≤ x ∧ x < B.length) (hy : 0 ≤ y ∧ y < B.length) (h1 : kindP B x = 0 ∨ Hd B x l) (h2 : kindP B y = 0 ∨ Hd B y (-l)) :
    Add1 N B (addP B (4, 0, [x, y])) ∧ (∀ s, valN s (addP B (4, 0, [x, y])).2 (addP B (4, 0, [x, y])).1 = (valN s B x || valN s B y)) ∧ ∀ u, Oc (addP B (4, 0, [x, y])).2 (addP B (4, 0, [x, y])).1 u → Oc B x u ∨ Oc B y u := by
  have hrg : ∀ i, i ∈ [x, y] → 0 ≤ i ∧ i < (B.length : Int) := fun i hi => by
    rcases List.mem_cons.1 hi with rfl | hi
    · exact hx
    · rw [List.mem_singleton.1 hi]; exact hy
  have hfm : formedP (4, 0, [x, y]) N B.length = true := formed_gate (.inr rfl) hrg
  have hB := b.sm.ord
  have gi := gin b.ok 4 hrg
  have kx : kindP B x ≠ 4 := by rcases h1 with h | ⟨h, _⟩ | ⟨h, _⟩ <;> omega
  have ky : kindP B y ≠ 4 := by rcases h2 with h | ⟨h, _⟩ | ⟨h, _⟩ <;> omega
  have hfl : flatP B 4 [x, y] = [x, y] := flat_id _ fun i hi => by
    rcases List.mem_cons.1 hi with rfl | hi
    · exact kx
    · rw [List.mem_singleton.1 hi]; exact ky
  have hD : ∀ z, z ∈ inputsR B 4 (dropK 4) [x, y] → (z = x ∨ z = y) ∧ kindP B z ≠ 0 := fun z hz => by
    have := (gi.mem z).1 hz
    rw [hfl] at this
    refine ⟨?_, this.2⟩
    rcases List.mem_cons.1 this.1 with h | h
    · exact .inl h
    · exact .inr (List.mem_singleton.1 h)
  have hvl : ∀ s, valN s (addP B (4, 0, [x, y])).2 (addP B (4, 0, [x, y])).1 = (valN s B x || valN s B y) := fun s => by
    rw [(val_add s hB b.ok hfm).1, truS_gate s _ _ _ (.inr rfl)]
    unfold valN ask
    simp
  have hcz : ∀ c : Int, ∀ k : Int, k ∈ (c, (0 : Int), ([] : List Int)).2.2 → 0 ≤ k ∧ k < (B.length : Int) := fun c k hk => absurd hk List.not_mem_nil
  have hcst : ∀ c : Int, (c = 0 ∨ c = 1) → addP B (4, 0, [x, y]) = putP B (c, 0, []) → Dd (addP B (4, 0, [x, y])).2 ∧ ∀ u, Oc (addP B (4, 0, [x, y])).2 (addP B (4, 0, [x, y])).1 u → Oc B x u ∨ Oc B y u := fun c hc e => by
    refine ⟨by rw [e]; exact b.dd.put hB (hcz c) (fun h => by have h : c = 3 := h; omega) (fun h => by have h : c = 4 := h; omega), fun u hu => ?_⟩
    rw [e, oc_put hB _ (hcz c)] at hu
    rcases hu with h | ⟨k, hk, _⟩
    · exact absurd h (oc_none rfl u)
    · exact absurd hk List.not_mem_nil
  rcases gate_out (B := B) (kind := 4) (lt := 0) (l := [x, y]) (.inr rfl) with e | ⟨e0, e⟩ | ⟨z, e0, e⟩ | ⟨e0, e⟩
  · obtain ⟨a1, a2⟩ := hcst _ (endK_c 4) e
    exact ⟨add1 hN b hfm a1, hvl, a2⟩
  · obtain ⟨a1, a2⟩ := hcst _ (dropK_c 4) e
    exact ⟨add1 hN b hfm a1, hvl, a2⟩
  · have hz := hD z (by rw [e0]; exact List.mem_singleton.2 rfl)
    have hd : Dd (addP B (4, 0, [x, y])).2 := by rw [e]; exact b.dd
    refine ⟨add1 hN b hfm hd, hvl, fun u hu => ?_⟩
    rw [e] at hu
    rcases hz.1 with h | h
    · rw [h] at hu; exact .inl hu
    · rw [h] at hu; exact .inr hu
  · have hmem : ∀ z, z ∈ sortS (inputsR B 4 (dropK 4) [x, y]) ↔ z ∈ inputsR B 4 (dropK 4) [x, y] := fun z => (sortS_perm _).mem_iff
    have hzr : ∀ k, k ∈ ((4 : Int), (0 : Int), sortS (inputsR B 4 (dropK 4) [x, y])).2.2 → 0 ≤ k ∧ k < (B.length : Int) := fun k hk => gi.rg k ((hmem k).1 hk)
    have hln := sortS_len (inputsR B 4 (dropK 4) [x, y])
    have hnd : (sortS (inputsR B 4 (dropK 4) [x, y])).Nodup := (sortS_perm _).nodup_iff.2 gi.nd
    have h4 : ∃ j k m, sortS (inputsR B 4 (dropK 4) [x, y]) = [j, k] ∧ m ≠ 0 ∧ Hd B j m ∧ Hd B k (-m) := by
      have hall : ∀ z, z ∈ sortS (inputsR B 4 (dropK 4) [x, y]) → (z = x ∨ z = y) ∧ kindP B z ≠ 0 := fun z hz => hD z ((hmem z).1 hz)
      generalize sortS (inputsR B 4 (dropK 4) [x, y]) = S at hnd hall hln
      rcases S with _ | ⟨j, _ | ⟨k, _ | ⟨q, t⟩⟩⟩
      · simp only [List.length_nil] at hln; omega
      · simp only [List.length_cons, List.length_nil] at hln; omega
      · have hj := hall j (by simp)
        have hk := hall k (by simp)
        have hjk : j ≠ k := by
          rw [List.nodup_cons] at hnd
          exact fun e => hnd.1 (e ▸ List.mem_cons_self)
        refine ⟨j, k, ?_⟩
        rcases hj.1 with ej | ej
        · have ek : k = y := by
            rcases hk.1 with e | e
            · exact absurd (ej.trans e.symm) hjk
            · exact e
          subst ej
          subst ek
          exact ⟨l, rfl, hl, h1.resolve_left hj.2, h2.resolve_left hk.2⟩
        · have ek : k = x := by
            rcases hk.1 with e | e
            · exact e
            · exact absurd (ej.trans e.symm) hjk
          subst ej
          subst ek
          exact ⟨-l, rfl, by omega, h2.resolve_left hj.2, by rw [Int.neg_neg]; exact h1.resolve_left hk.2⟩
      · exfalso
        have hj := (hall j (by simp)).1
        have hk := (hall k (by simp)).1
        have hq := (hall q (by simp)).1
        simp only [List.nodup_cons, List.mem_cons, not_or] at hnd
        rcases hj with rfl | rfl <;> rcases hk with rfl | rfl <;> rcases hq with rfl | rfl <;> simp_all
    have hd : Dd (addP B (4, 0, [x, y])).2 := by rw [e]; exact b.dd.put hB hzr (fun h => absurd (show (4 : Int) = 3 from h) (by decide)) (fun _ => h4)
    refine ⟨add1 hN b hfm hd, hvl, fun u hu => ?_⟩
    rw [e, oc_put hB _ hzr] at hu
    rcases hu with h | ⟨k, hk, hu⟩
    · exact absurd h (oc_none rfl u)
    · rcases (hD k ((hmem k).1 hk)).1 with h | h
      · rw [h] at hu; exact .inl hu
      · rw [h] at hu; exact .inr hu
end Go.Proofs.YtdiciemlbhkilaaGreatDoor
