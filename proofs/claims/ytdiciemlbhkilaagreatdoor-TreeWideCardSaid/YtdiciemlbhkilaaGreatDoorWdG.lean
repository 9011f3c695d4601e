/- TreeWide: part 7. -/
import Derived.Test.YtdiciemlbhkilaaGreatDoorWdF
import Derived.Lib.AppendStr
import Derived.Laws.BytesArg
import Derived.Laws.Slices
import Derived.Lib.Builder
import Derived.Laws.Externs
import Derived.Maps.Keyed
import Derived.StringKeys
namespace Go.Proofs.YtdiciemlbhkilaaGreatDoor
open Go Go.Cx Go.RowKit
set_option linter.unusedVariables false
set_option linter.unusedSimpArgs false
set_option maxHeartbeats 4000000
attribute [local irreducible] J JC thenK blockK loopK roundK drawK retK QW Qt pel List.set Calls
attribute [local irreducible] JE Br eK0 eK3 brK vals
theorem app_repB (s : List Bool) (n j : Nat) (h : j < s.length) : (s ++ List.replicate n false).getD j default = s.getD j default := by
  rw [List.getD_eq_getElem?_getD, List.getElem?_append_left h, ← List.getD_eq_getElem?_getD]
theorem app_setB (s : List Bool) (n : Nat) (x : Bool) : (s ++ List.replicate (n + 1) false).set s.length x = (s ++ [x]) ++ List.replicate n false := by
  rw [List.set_append_right _ _ (Nat.le_refl _), Nat.sub_self, List.replicate_succ, List.set_cons_zero, List.append_assoc]; rfl
theorem all_congr {l : List Int} {p q : Int → Bool} (h : ∀ x, x ∈ l → p x = q x) : l.all p = l.all q := by
  induction l with
  | nil => rfl
  | cons x l ih => rw [List.all_cons, List.all_cons, h x List.mem_cons_self, ih fun y hy => h y (List.mem_cons_of_mem _ hy)]
theorem valueP_ext {n : Int} {i : Nat} {x : Gt} (hok : OkG n i x) (s : Nat × Nat) (v : List Bool) (hv : v.length = i) (m : Nat) : valueP s (v ++ List.replicate m false) x = valueP s v x := by
  obtain ⟨hal, hlit, hins⟩ := hok
  unfold valueP
  have h8 : ∀ j, j < x.ins.length → (v ++ List.replicate m false).getD (x.ins.getD j default).toNat default = v.getD (x.ins.getD j default).toNat default := fun j hj => app_repB _ _ _ (by have := hins j hj; omega)
  rw [all_congr (q := fun j => v.getD j.toNat default) fun y hy => by
    obtain ⟨j, hj, rfl⟩ := List.mem_iff_getElem.1 hy
    have := h8 j hj
    rwa [List.getD_eq_getElem?_getD (l := x.ins), List.getElem?_eq_getElem hj, Option.getD_some] at this]
  by_cases hk : x.kind = 8
  · rw [h8 0 (by omega), h8 1 (by omega), h8 2 (by omega)]
  · rw [if_neg hk, if_neg hk]
theorem evalC_any {n : Int} {a : Option Addr} {gs : List Gt} {h : Heap} (c : Cir n a gs h) (cap : Nat) (s : Nat × Nat) (hok : okS s) (hsub : ∀ u, hasB s u = true → hasB (allS n.toNat) u = true) (w : World) (hw : Holds h w) :
    Calls Tryz.prog 24 #[cv n a gs.length cap, sv s] w fun e w' => e = .returned (.bool ((vals s gs).getD (gs.length - 1) default)) ∧ Below w.heap.size w w' := by
  have hs := c.sl
  have hl0 := c.len0
  have hl1 := c.len1
  have n0 := c.n0
  have n1 := c.n1
  have q0 : ∀ L, RdH h L h := fun L => RdH.old fun _ hh => hh
  have cC := fun w hw => checkC_ok c cap w hw
  have cA := fun w => all_any n.toNat (by omega) w
  rw [show ((n.toNat : Nat) : Int) = n by omega] at cA
  have cS := fun w => sub_any s (allS n.toNat) hok (okS_all _) hsub w
  refine calls_of_JC (R := h) Tryz.func24 Tryz.ntmps24 rfl rfl (hw) ?_
  repeat' first
    | (refine J.isJ ?_; first | (first | (refine J.fc 65 ?_; refine J.call0 eCheckC rfl rfl (fun w hw => cC w (hw.rdH (q0 _))) ?_) | (refine J.fc 18 ?_; refine J.call0 eAll rfl rfl (fun w hw => cA w) ?_) | (refine J.fc 66 ?_; refine J.call0 eSub rfl rfl (fun w hw => cS w) ?_) | (refine J.o 9 ?_; refine J.make (enc := encBo) (m := gs.length) false hΓ rfl rfl rfl rfl rfl rfl (fun _ => rfl) (by omega) (by omega) (fun bA hA oA => ?_); generalize (some (⟨bA, 0, none⟩ : Addr)) = aA at oA ⊢)) | (first | (refine J.o 0 ?_; refine J.ev' hΓ ?_) | refine J.nil ?_ | (refine J.o 4 ?_; first | refine J.lT default hΓ ?_ | refine J.lR hΓ ?_) | (refine J.o 3 ?_; first | refine J.iJ hΓ ?_ | refine J.ev' hΓ ?_) | (refine J.o 1 ?_; first | refine J.ad ?_ | refine J.sb ?_) | (refine J.o 5 ?_; first | refine J.t0 hΓ ?_ | refine J.tT1 _ default hΓ (fun _ _ => ?_)) | (refine J.o 6 ?_; refine J.bx (fun _ => ?_)) | (refine J.o 7 ?_; refine J.al hΓ (fun _ => ?_)) | (refine J.o 10 ?_; refine J.ev' hΓ ?_) | (refine J.o 11 ?_; refine J.ev' hΓ ?_)))
    | (first | refine JC.seq ?_ | refine JC.region ?_ | refine JC.block ?_ | refine JC.ret ?_ | refine JC.exit ?_ | refine JC.skip ?_ | refine thenK.nn ?_ | refine thenK.x ?_ | refine blockK.nn ?_ | refine blockK.hit rfl ?_ | refine JC.condF rfl ?_ | (refine JC.cond rfl (fun hc => ?_) (fun hc => ?_) <;> ((try simp only [decide_eq_true_eq, decide_eq_false_iff_not, beq_iff_eq, beq_eq_false_iff_ne, bne_iff_ne, bne_eq_false_iff_eq, Bool.not_eq_true', Bool.not_eq_false', Bool.not_eq_true, Bool.not_eq_false] at hc) <;> first | (first | (exact absurd rfl hc) | (exfalso; omega) | (exact absurd (hc.symm.trans (by assumption : _ = false)) (by decide)) | (exact absurd (hc.symm.trans (by assumption : _ = true)) (by decide))) | skip)) | (refine JC.drawA [] (by kernel_rfl) (by kernel_rfl) ?_) | refine drawK.nn ?_ | refine loopK.x ?_)
    | (fail)
    | fail
  all_goals first | (exfalso; omega) | skip
  rename_i n2 n3
  refine JC.loopG (fun i => i == 6 || i == 7 || Nat.ble 26 i) (fun m g L' => ∃ (k : Nat) (hA : Heap), g 26 = .int .i64 (k : Int) ∧ k + m = gs.length ∧ OwT encBo 1 4 aA gs.length (vals s (gs.take k) ++ List.replicate m false) hA ∧ L' = [hA, _, _]) gs.length ⟨0, hA, rfl, by omega, by rw [vals_nil]; exact oA, rfl⟩ ?_
  clear oA
  rintro m g L' ⟨k, hA, e26, hkm, oA, rfl⟩
  refine JC.pin 26 e26 ?_
  clear e26
  have hvl := vals_len s gs k (by omega)
  have hlT : (vals s (gs.take k) ++ List.replicate m false).length = gs.length := by rw [List.length_append, List.length_replicate]; omega
  rcases Nat.lt_or_ge k gs.length with hk | hk
  case inr =>
    obtain rfl : k = gs.length := by omega
    obtain rfl : m = 0 := by omega
    rw [List.replicate_zero, List.append_nil, List.take_length] at oA
    rw [List.take_length] at hvl
    have hx1 : ((gs.length : Int) - 1).toNat = gs.length - 1 := by omega
    repeat' first
      | (refine J.isJ ?_; first | ((refine J.o 4 ?_; refine J.lT default hΓ ?_ (hs := oA.sl) (hr := RdH.hd); rw [hx1])) | (first | (refine J.o 0 ?_; refine J.ev' hΓ ?_) | refine J.nil ?_ | (refine J.o 4 ?_; first | refine J.lT default hΓ ?_ | refine J.lR hΓ ?_) | (refine J.o 3 ?_; first | refine J.iJ hΓ ?_ | refine J.ev' hΓ ?_) | (refine J.o 1 ?_; first | refine J.ad ?_ | refine J.sb ?_) | (refine J.o 5 ?_; first | refine J.t0 hΓ ?_ | refine J.tT1 _ default hΓ (fun _ _ => ?_)) | (refine J.o 6 ?_; refine J.bx (fun _ => ?_)) | (refine J.o 7 ?_; refine J.al hΓ (fun _ => ?_)) | (refine J.o 10 ?_; refine J.ev' hΓ ?_) | (refine J.o 11 ?_; refine J.ev' hΓ ?_)))
      | (first | refine JC.seq ?_ | refine JC.region ?_ | refine JC.block ?_ | refine JC.ret ?_ | refine JC.exit ?_ | refine JC.skip ?_ | refine thenK.nn ?_ | refine thenK.x ?_ | refine blockK.nn ?_ | refine blockK.hit rfl ?_ | refine JC.condF rfl ?_ | (refine JC.cond rfl (fun hc => ?_) (fun hc => ?_) <;> ((try simp only [decide_eq_true_eq, decide_eq_false_iff_not, beq_iff_eq, beq_eq_false_iff_ne, bne_iff_ne, bne_eq_false_iff_eq, Bool.not_eq_true', Bool.not_eq_false', Bool.not_eq_true, Bool.not_eq_false] at hc) <;> first | (first | (exact absurd rfl hc) | (exfalso; omega) | (exact absurd (hc.symm.trans (by assumption : _ = false)) (by decide)) | (exact absurd (hc.symm.trans (by assumption : _ = true)) (by decide))) | skip)) | refine drawK.nn ?_ | refine loopK.x ?_)
      | (fail)
      | fail
    all_goals first | (exfalso; omega) | exact ret1f rfl rfl rfl (fun w1 hw => ⟨rfl, hw.below⟩)
  obtain ⟨m', rfl⟩ : ∃ m', m = m' + 1 := ⟨m - 1, by omega⟩
  have hvt := vals_take s gs k hk
  have hgo := c.ok k hk
  have hgi := c.ins k hk
  have hset := app_setB (vals s (gs.take k)) m' (valueP s (vals s (gs.take k)) (gs.getD k default))
  rw [hvl, ← hvt] at hset
  have cV := fun w hw => valueC_any hgo n1 s hok (vals s (gs.take k) ++ List.replicate (m' + 1) false) (by omega) (by omega) aA gs.length (hA ++ h) (slm hgi fun x hx => List.mem_append_right _ hx) (slm oA.sl fun x hx => List.mem_append_left _ hx) w hw
  rw [valueP_ext hgo s _ hvl, hlT] at cV
  repeat' first
    | (refine J.isJ ?_; first | (first | (refine J.o 4 ?_; refine J.lT default hΓ ?_ (hs := hs) (hr := q0 _)) | (refine J.fc 67 ?_; refine J.call0 eValueC rfl rfl (fun w hw => cV w (hw.rdH (RdH.append RdH.hd.tl (q0 _)))) ?_)) | (first | (refine J.o 0 ?_; refine J.ev' hΓ ?_) | refine J.nil ?_ | (refine J.o 4 ?_; first | refine J.lT default hΓ ?_ | refine J.lR hΓ ?_) | (refine J.o 3 ?_; first | refine J.iJ hΓ ?_ | refine J.ev' hΓ ?_) | (refine J.o 1 ?_; first | refine J.ad ?_ | refine J.sb ?_) | (refine J.o 5 ?_; first | refine J.t0 hΓ ?_ | refine J.tT1 _ default hΓ (fun _ _ => ?_)) | (refine J.o 6 ?_; refine J.bx (fun _ => ?_)) | (refine J.o 7 ?_; refine J.al hΓ (fun _ => ?_)) | (refine J.o 10 ?_; refine J.ev' hΓ ?_) | (refine J.o 11 ?_; refine J.ev' hΓ ?_)))
    | (first | refine JC.seq ?_ | refine JC.region ?_ | refine JC.block ?_ | refine JC.ret ?_ | refine JC.exit ?_ | refine JC.skip ?_ | refine thenK.nn ?_ | refine thenK.x ?_ | refine blockK.nn ?_ | refine blockK.hit rfl ?_ | refine JC.condF rfl ?_ | (refine JC.cond rfl (fun hc => ?_) (fun hc => ?_) <;> ((try simp only [decide_eq_true_eq, decide_eq_false_iff_not, beq_iff_eq, beq_eq_false_iff_ne, bne_iff_ne, bne_eq_false_iff_eq, Bool.not_eq_true', Bool.not_eq_false', Bool.not_eq_true, Bool.not_eq_false] at hc) <;> first | (first | (exact absurd rfl hc) | (exfalso; omega) | (exact absurd (hc.symm.trans (by assumption : _ = false)) (by decide)) | (exact absurd (hc.symm.trans (by assumption : _ = true)) (by decide))) | skip)) | refine drawK.nn ?_ | refine loopK.x ?_)
    | (fail)
    | fail
  all_goals first | (exfalso; omega) | skip
  rename_i oA2
  have oA3 : OwT encBo 1 4 aA gs.length (vals s (gs.take (k + 1)) ++ List.replicate m' false) _ := hset ▸ oA2
  refine loopK.nn m' (by omega) (by repeat (first | refine Ag.upd rfl ?_ | exact Ag.hv)) ⟨_, ⟨k + 1, _, ?_, by omega, oA3, rfl⟩, fun w hw => H.sel (l := [_, _, _, _]) (M := []) hw [1, 2, 3]⟩
  show Value.int .i64 _ = _; congr 1
end Go.Proofs.YtdiciemlbhkilaaGreatDoor
namespace Go.Proofs.YtdiciemlbhkilaaGreatDoor
open Go Go.Cx Go.RowKit
set_option linter.unusedVariables false
set_option linter.unusedSimpArgs false
set_option maxHeartbeats 4000000
attribute [local irreducible] J JC thenK blockK loopK roundK drawK retK QW Qt pel List.set Calls
theorem take_g {α : Type} [Inhabited α] (l : List α) (k : Nat) (hk : k < l.length) : l.take (k + 1) = l.take k ++ [l.getD k default] := by
  rw [List.take_add_one, List.getD_eq_getElem?_getD, List.getElem?_eq_getElem hk]; rfl
def absI (x : Int) : Int := max x (-x)
theorem absI_neg (x : Int) : absI (-x) = absI x := by unfold absI; omega
theorem absI_pos {x : Int} (h : 0 ≤ x) : absI x = x := by unfold absI; omega
theorem holdsN_any (s : Nat × Nat) (hs : okS s) (l : Int) (hl : l ≠ 0 ∧ -128 ≤ l ∧ l ≤ 128) (w : World) : Calls Tryz.prog 61 #[sv s, .int .i64 l] w fun e w' => e = .returned (.bool (decide (hasB s (absI l) = decide (0 < l)))) ∧ Below w.heap.size w w' := by
  have hv : varI l = absI l := by unfold varI absI; grind
  have cV := fun w => var_any l w
  rw [hv] at cV
  have ha : absI l ≠ 0 := by unfold absI; omega
  refine calls_of_JC (R := []) Tryz.func61 Tryz.ntmps61 rfl rfl (Holds.nil _) ?_
  repeat' first
    | (refine J.isJ ?_; first | (first | (refine J.o 0 ?_; refine J.ev' hΓ ?_) | refine J.nil ?_ | (refine J.o 4 ?_; first | refine J.e0 hΓ ?_) | (refine J.o 3 ?_; first | refine J.ev' hΓ ?_) | (refine J.o 6 ?_; refine J.bx (fun _ => ?_)) | (refine J.o 10 ?_; first | refine J.ev' hΓ ?_) | (refine J.o 11 ?_; first | refine J.ev' hΓ ?_)) | (first | (refine J.fc 96 ?_; refine J.call0 eVar rfl rfl (fun w hw => cV w) ?_) | (refine J.fc 59 ?_; refine J.call0 eHas rfl rfl (fun w hw => has_any s hs (absI l) w) ?_)) | ((fail_if_success refine J.wt ?_); refine J.gc rfl rfl (fun hc => ?_) (fun hc => ?_) <;> ((try simp only [decide_eq_true_eq, decide_eq_false_iff_not, beq_iff_eq, beq_eq_false_iff_ne, bne_iff_ne, bne_eq_false_iff_eq, Bool.not_eq_true', Bool.not_eq_false', Bool.not_eq_true, Bool.not_eq_false] at hc) <;> first | (first | (exact absurd rfl hc) | (exfalso; omega) | (exact absurd (hc.symm.trans (by assumption : _ = false)) (by decide)) | (exact absurd (hc.symm.trans (by assumption : _ = true)) (by decide))) | skip)))
    | (first | refine JC.seq ?_ | refine JC.region ?_ | refine JC.ret ?_ | refine thenK.nn ?_ | (refine JC.drawA [] (by kernel_rfl) (by kernel_rfl) ?_) | refine drawK.nn ?_)
    | fail
  all_goals first | (exfalso; omega) | skip
  all_goals exact ret1f rfl rfl rfl (fun w1 hw => ⟨retB (by cases hasB s (absI l) <;> cases decide (0 < l) <;> rfl), hw.below⟩)
attribute [local irreducible] JE Br eK0 eK3 brK
end Go.Proofs.YtdiciemlbhkilaaGreatDoor
namespace Go.Proofs.YtdiciemlbhkilaaGreatDoor
open Go Go.Cx Go.RowKit
set_option linter.unusedVariables false
set_option linter.unusedSimpArgs false
set_option maxHeartbeats 4000000
attribute [local irreducible] J JC thenK blockK loopK roundK drawK retK QW Qt pel List.set Calls
abbrev PN := Int × Int × List Int
def idxP : List PN → PN → Int → Int
  | [], _, _ => -1
  | y :: B, x, k => if y = x then k else idxP B x (k + 1)
theorem idxP_bd (x : PN) : ∀ (B : List PN) (k : Int), x ∈ B → k ≤ idxP B x k ∧ idxP B x k < k + B.length
  | [], k, h => by cases h
  | y :: B, k, h => by
    unfold idxP
    simp only [List.length_cons]
    by_cases e : y = x
    · rw [if_pos e]; omega
    · rw [if_neg e]
      have := idxP_bd x B (k + 1) (by rcases List.mem_cons.1 h with h | h; exact absurd h.symm e; exact h)
      omega
theorem idxP_at (x : PN) : ∀ (B : List PN) (k : Int), x ∈ B → B.getD (idxP B x k - k).toNat default = x
  | [], k, h => by cases h
  | y :: B, k, h => by
    unfold idxP
    by_cases e : y = x
    · rw [if_pos e, Int.sub_self]; exact e
    · rw [if_neg e]
      have hm : x ∈ B := by rcases List.mem_cons.1 h with h | h; exact absurd h.symm e; exact h
      have hb := idxP_bd x B (k + 1) hm
      have ih := idxP_at x B (k + 1) hm
      rw [show (idxP B x (k + 1) - k).toNat = (idxP B x (k + 1) - (k + 1)).toNat + 1 by omega]
      exact ih
def putP (B : List PN) (x : PN) : Int × List PN := if x ∈ B then (idxP B x 0, B) else ((B.length : Int), B ++ [x])
def kindP (B : List PN) (i : Int) : Int := (B.getD i.toNat default).1
def litP (B : List PN) (i : Int) : Int := (B.getD i.toNat default).2.1
def inP (B : List PN) (i : Int) : List Int := (B.getD i.toNat default).2.2
def flatP (B : List PN) (kind : Int) (l : List Int) : List Int := l.flatMap fun i => if kindP B i = kind then inP B i else [i]
structure StN where
  out : List Int
  lits : List Int
  open_ : Bool
def addS (B : List PN) (drop end_ : Int) (s : StN) (i : Int) : StN :=
  let bad := decide (kindP B i = end_) || (decide (kindP B i = 2) && s.lits.contains (-(litP B i)))
  ⟨if bad = false ∧ kindP B i ≠ drop ∧ i ∉ s.out then s.out ++ [i] else s.out, if kindP B i = 2 then litP B i :: s.lits else s.lits, s.open_ && !bad⟩
def dedS (B : List PN) (drop : Int) (out : List Int) (i : Int) : List Int := if kindP B i ≠ drop ∧ i ∉ out then out ++ [i] else out
def inputsR (B : List PN) (kind drop : Int) (l : List Int) : List Int := (flatP B kind l).foldl (dedS B drop) []
def decR (B : List PN) (l : List Int) (end_ : Int) : Bool := l.any fun i => decide (kindP B i = end_) || l.any fun k => decide (kindP B i = 2) && decide (kindP B k = 2) && decide (litP B i = -(litP B k))
theorem dec_iff (B : List PN) (l : List Int) (e : Int) : decR B l e = true ↔ ∃ i, i ∈ l ∧ (kindP B i = e ∨ ∃ k, k ∈ l ∧ kindP B i = 2 ∧ kindP B k = 2 ∧ litP B i = -(litP B k)) := by
  unfold decR
  simp only [List.any_eq_true, Bool.or_eq_true, Bool.and_eq_true, decide_eq_true_eq]
  constructor
  · rintro ⟨i, hi, h⟩
    refine ⟨i, hi, ?_⟩
    rcases h with h | ⟨k, hk, ⟨h1, h2⟩, h3⟩
    · exact .inl h
    · exact .inr ⟨k, hk, h1, h2, h3⟩
  · rintro ⟨i, hi, h⟩
    refine ⟨i, hi, ?_⟩
    rcases h with h | ⟨k, hk, h1, h2, h3⟩
    · exact .inl h
    · exact .inr ⟨k, hk, ⟨h1, h2⟩, h3⟩
theorem ded_mem {B : List PN} {drop : Int} {out : List Int} {i x : Int} : x ∈ dedS B drop out i ↔ x ∈ out ∨ (x = i ∧ kindP B i ≠ drop) := by
  unfold dedS
  by_cases h : kindP B i ≠ drop ∧ i ∉ out
  · rw [if_pos h, List.mem_append, List.mem_singleton]
    constructor
    · rintro (h1 | h1)
      · exact .inl h1
      · exact .inr ⟨h1, h.1⟩
    · rintro (h1 | h1)
      · exact .inl h1
      · exact .inr h1.1
  · rw [if_neg h]
    refine ⟨.inl, ?_⟩
    rintro (h1 | ⟨rfl, h2⟩)
    · exact h1
    · exact Decidable.byContradiction fun h3 => h ⟨h2, h3⟩
theorem ded_nodup {B : List PN} {drop : Int} {out : List Int} {i : Int} (h : out.Nodup) : (dedS B drop out i).Nodup := by
  unfold dedS
  split
  · rename_i hc
    rw [List.nodup_append]
    exact ⟨h, by simp, fun a ha b hb => by rw [List.mem_singleton.1 hb]; exact fun e => hc.2 (e ▸ ha)⟩
  · exact h
structure Agree (B : List PN) (drop end_ : Int) (fl : List Int) (s : StN) (out : List Int) : Prop where
  op : s.open_ = !decR B out end_
  eq : s.open_ = true → s.out = out
  lits : ∀ x, x ∈ s.lits ↔ ∃ i, i ∈ fl ∧ kindP B i = 2 ∧ litP B i = x
  mem : ∀ x, x ∈ out ↔ x ∈ fl ∧ kindP B x ≠ drop
  nd : out.Nodup
theorem Agree.nil (B : List PN) (drop end_ : Int) : Agree B drop end_ [] ⟨[], [], true⟩ [] := ⟨rfl, fun _ => rfl, by simp, by simp, List.nodup_nil⟩
theorem Agree.step {B : List PN} {drop end_ : Int} (hde : drop ≠ end_) (hd2 : drop ≠ 2) (hl : ∀ i, kindP B i = 2 → litP B i ≠ 0) {fl : List Int} {s : StN} {out : List Int} (h : Agree B drop end_ fl s out) (i : Int) : Agree B drop end_ (fl ++ [i]) (addS B drop end_ s i) (dedS B drop out i) := by
  obtain ⟨h1, h2, h3, h4, h5⟩ := h
  have hmem : ∀ x, x ∈ dedS B drop out i ↔ x ∈ fl ++ [i] ∧ kindP B x ≠ drop := fun x => by
    rw [ded_mem, h4, List.mem_append, List.mem_singleton]
    constructor
    · rintro (⟨a, b⟩ | ⟨rfl, b⟩)
      · exact ⟨.inl a, b⟩
      · exact ⟨.inr rfl, b⟩
    · rintro ⟨a | rfl, b⟩
      · exact .inl ⟨a, b⟩
      · exact .inr ⟨rfl, b⟩
  have hlits : ∀ x, x ∈ (addS B drop end_ s i).lits ↔ ∃ j, j ∈ fl ++ [i] ∧ kindP B j = 2 ∧ litP B j = x := fun x => by
    show x ∈ (if kindP B i = 2 then litP B i :: s.lits else s.lits) ↔ _
    by_cases hk : kindP B i = 2
    · rw [if_pos hk, List.mem_cons, h3]
      constructor
      · rintro (rfl | ⟨j, a, b, c⟩)
        · exact ⟨i, by simp, hk, rfl⟩
        · exact ⟨j, List.mem_append_left _ a, b, c⟩
      · rintro ⟨j, a, b, c⟩
        rcases List.mem_append.1 a with a | a
        · exact .inr ⟨j, a, b, c⟩
        · rw [List.mem_singleton.1 a] at c; exact .inl c.symm
    · rw [if_neg hk, h3]
      constructor
      · rintro ⟨j, a, b, c⟩; exact ⟨j, List.mem_append_left _ a, b, c⟩
      · rintro ⟨j, a, b, c⟩
        rcases List.mem_append.1 a with a | a
        · exact ⟨j, a, b, c⟩
        · rw [List.mem_singleton.1 a] at b; exact absurd b hk
  have hbad : (decide (kindP B i = end_) || (decide (kindP B i = 2) && s.lits.contains (-(litP B i)))) = true ↔ kindP B i = end_ ∨ (kindP B i = 2 ∧ ∃ j, j ∈ fl ∧ kindP B j = 2 ∧ litP B j = -(litP B i)) := by
    simp only [Bool.or_eq_true, Bool.and_eq_true, decide_eq_true_eq, List.contains_iff_mem, h3]
  have hdec : decR B (dedS B drop out i) end_ = true ↔ decR B out end_ = true ∨ kindP B i = end_ ∨ (kindP B i = 2 ∧ ∃ j, j ∈ fl ∧ kindP B j = 2 ∧ litP B j = -(litP B i)) := by
    rw [dec_iff, dec_iff]
    constructor
    · rintro ⟨a, ha, hx⟩
      rw [ded_mem] at ha
      rcases hx with hx | ⟨k, hk, k1, k2, k3⟩
      · rcases ha with ha | ⟨rfl, _⟩
        · exact .inl ⟨a, ha, .inl hx⟩
        · exact .inr (.inl hx)
      · rw [ded_mem] at hk
        rcases ha with ha | ⟨rfl, _⟩
        · rcases hk with hk | ⟨rfl, _⟩
          · exact .inl ⟨a, ha, .inr ⟨k, hk, k1, k2, k3⟩⟩
          · exact .inr (.inr ⟨k2, a, ((h4 a).1 ha).1, k1, k3⟩)
        · rcases hk with hk | ⟨rfl, _⟩
          · exact .inr (.inr ⟨k1, k, ((h4 k).1 hk).1, k2, by omega⟩)
          · have := hl _ k1; omega
    · rintro (⟨a, ha, hx⟩ | hx | ⟨hk, j, hj, j1, j2⟩)
      · refine ⟨a, ded_mem.2 (.inl ha), ?_⟩
        rcases hx with hx | ⟨k, hk, k1, k2, k3⟩
        · exact .inl hx
        · exact .inr ⟨k, ded_mem.2 (.inl hk), k1, k2, k3⟩
      · exact ⟨i, ded_mem.2 (.inr ⟨rfl, by rw [hx]; exact fun e => hde e.symm⟩), .inl hx⟩
      · exact ⟨i, ded_mem.2 (.inr ⟨rfl, by rw [hk]; exact fun e => hd2 e.symm⟩), .inr ⟨j, ded_mem.2 (.inl ((h4 j).2 ⟨hj, by rw [j1]; exact fun e => hd2 e.symm⟩)), hk, j1, by omega⟩⟩
  have hop : (addS B drop end_ s i).open_ = (s.open_ && !(decide (kindP B i = end_) || (decide (kindP B i = 2) && s.lits.contains (-(litP B i))))) := rfl
  have hout : (addS B drop end_ s i).out = if (decide (kindP B i = end_) || (decide (kindP B i = 2) && s.lits.contains (-(litP B i)))) = false ∧ kindP B i ≠ drop ∧ i ∉ s.out then s.out ++ [i] else s.out := rfl
  generalize (decide (kindP B i = end_) || (decide (kindP B i = 2) && s.lits.contains (-(litP B i)))) = bad at *
  refine ⟨?_, fun ho => ?_, hlits, hmem, ded_nodup h5⟩
  · rw [hop, h1]
    cases hd : decR B (dedS B drop out i) end_ with
    | true =>
      rcases hdec.1 hd with h6 | h6
      · rw [h6]; rfl
      · rw [hbad.2 h6]; cases decR B out end_ <;> rfl
    | false =>
      have h6 : decR B out end_ = false := by
        cases h7 : decR B out end_ with
        | false => rfl
        | true => rw [hdec.2 (.inl h7)] at hd; cases hd
      have h7 : bad = false := by
        cases h8 : bad with
        | false => rfl
        | true => rw [hdec.2 (.inr (hbad.1 h8))] at hd; cases hd
      rw [h6, h7]; rfl
  · rw [hop, Bool.and_eq_true] at ho
    have hb : bad = false := by simpa using ho.2
    rw [hout, h2 ho.1]
    unfold dedS
    by_cases hc : kindP B i ≠ drop ∧ i ∉ out
    · rw [if_pos ⟨hb, hc⟩, if_pos hc]
    · rw [if_neg (fun h => hc h.2), if_neg hc]
theorem agree_all {B : List PN} {drop end_ : Int} (hde : drop ≠ end_) (hd2 : drop ≠ 2) (hl : ∀ i, kindP B i = 2 → litP B i ≠ 0) (fl : List Int) : Agree B drop end_ fl (fl.foldl (addS B drop end_) ⟨[], [], true⟩) (fl.foldl (dedS B drop) []) := by
  have key : ∀ (e d : List Int) (s : StN) (out : List Int), Agree B drop end_ d s out → Agree B drop end_ (d ++ e) (e.foldl (addS B drop end_) s) (e.foldl (dedS B drop) out) := fun e => by
    induction e with
    | nil => intro d s out h; simpa using h
    | cons x e ih =>
      intro d s out h
      have := ih (d ++ [x]) _ _ (h.step hde hd2 hl x)
      rw [List.append_assoc] at this
      exact this
  exact key fl [] _ _ (Agree.nil B drop end_)
def insS : List Int → Int → List Int
  | [], x => [x]
  | y :: l, x => if x < y then x :: y :: l else y :: insS l x
def sortS (l : List Int) : List Int := l.foldl insS []
def addP (B : List PN) (x : PN) : Int × List PN :=
  if x.1 ≠ 3 ∧ x.1 ≠ 4 then putP B (x.1, x.2.1, [])
  else
    let drop : Int := if x.1 = 4 then 0 else 1
    let end_ : Int := if x.1 = 4 then 1 else 0
    let l := inputsR B x.1 drop x.2.2
    if decR B l end_ = true then putP B (end_, 0, [])
    else match l with
      | [] => putP B (drop, 0, [])
      | [y] => (y, B)
      | _ => putP B (x.1, 0, sortS l)
end Go.Proofs.YtdiciemlbhkilaaGreatDoor
namespace Go.Cx
open Go Go.RowKit Go.Lib
set_option linter.unusedVariables false
set_option linter.unusedSimpArgs false
def encB (c : UInt8) : List Value := [.int .u8 (c.toNat : Int)]
theorem encB_flat (l : List UInt8) : l.flatMap encB = l.map (fun c => Value.int .u8 (c.toNat : Int)) := by
  induction l with
  | nil => rfl
  | cons c l ih => rw [List.flatMap_cons, ih]; rfl
theorem strCells_S (l : List UInt8) : strCells (S l) = l.flatMap encB := by
  rw [encB_flat]
  simp [strCells, S]
section
variable {P : Program} {n : Nat} {w0 : World} {R : Heap} {l0 : List Oper} {K : Exit → Fr → List Heap → Prop} {f : Fr} {L : List Heap} {rest : List (Nat × Oper)} {κ : Nat}
variable {Γ : List (Nat × TI)} {d : Nat} {op : Op} {ty : TypeId} {pos : String} {aft : Array Edge} {g : Option (Nat × Bool)} {t u e : TypeId} {x y z : Operand} {a : Option Addr} {len cap : Nat} {h : Heap}
theorem _root_.Go.Cx.OwT.take {α : Type} {enc : α → List Value} {size : Nat} {ts : List α} (ho : OwT enc size e a cap ts h) (k : Nat) : OwT enc size e a cap (ts.take k) h := by
  refine ⟨ho.len, ?_⟩
  rcases ho.row with ⟨h1, h2, h3, h4⟩ | ⟨gb, cs, h1, h2, h3, h4, h5⟩
  · exact .inl ⟨h1, h2, by rw [h3]; simp, h4⟩
  · refine .inr ⟨gb, cs, h1, h2, h3, by rw [List.length_take]; omega, ?_⟩
    have hf : (ts.take k).flatMap enc = (ts.flatMap enc).take ((ts.take k).length * size) := by
      have e2 : ts.flatMap enc = (ts.take k).flatMap enc ++ (ts.drop k).flatMap enc := by rw [← List.flatMap_append, List.take_append_drop]
      rw [e2, List.take_append_of_le_length (by rw [flat_len ho.len]; exact Nat.le_refl _)]
      exact (List.take_of_length_le (by rw [flat_len ho.len]; exact Nat.le_refl _)).symm
    rw [hf, ← h5, List.take_take]
    congr 1
    have : (ts.take k).length * size ≤ ts.length * size := Nat.mul_le_mul_right _ (by rw [List.length_take]; omega)
    omega
theorem J.slF {ki : IntKind} {j : Int} {m s1 b1 : Nat} {z1 : Option Value} {te : TI} (hΓ : Fits P Γ)
    (k : J P n w0 R l0 K rest (upd f d (.slice a m cap)) L)
    (hg : wantB n f l0 ⟨some d, .slice t x none (some y) none, ty, pos, aft, g⟩ = true := by exact rfl) (hx : Cx.ev n f x = .slice a len cap := by exact rfl) (hy : Cx.ev n f y = .int ki j := by exact rfl) (ht : look Γ t = some ⟨.slice e, s1, z1, b1⟩ := by exact rfl) (hte : look Γ e = some te := by exact rfl) (hm : j = (m : Int) := by omega) (h1 : m ≤ cap := by omega) :
    J P n w0 R l0 K ((κ, ⟨some d, .slice t x none (some y) none, ty, pos, aft, g⟩) :: rest) f L :=
  J.p hg (fun w => by
    subst hm
    have hu : P.underlying t = some (.slice e) := (hΓ t _ ht).1
    have he : P.elem t = e := by unfold Program.elem; rw [hu]
    have hu' : P.underlying t = some (.slice (P.elem t)) := by rw [he]; exact hu
    have : (Instr.sliceAt t (.slice a len cap) none (some (.int ki (m : Int))) none).run P w = .ok (.slice a m cap) w := by
      rw [run_sliceAt_slice w t _ _ _ _ hu', run_slice_h w t a len cap hu' ki (m : Int) (by omega) (by omega), he, sizeOf_run hΓ hte w]
      cases a <;> simp [sliced, Result.andThen, Addr.add]
    simp only [execOp, hx, hy, Sem.run_bind, Option.map_some, Option.map_none]
    rw [this]
    rfl) k
end
end Go.Cx
namespace Go.Proofs.YtdiciemlbhkilaaGreatDoor
open Go Go.Cx Go.RowKit Go.Lib
set_option linter.unusedVariables false
set_option linter.unusedSimpArgs false
set_option maxHeartbeats 4000000
section
variable {P : Program} {n : Nat} {w0 : World} {R : Heap} {l0 : List Oper} {K : Exit → Fr → List Heap → Prop} {f : Fr} {L : List Heap} {rest : List (Nat × Oper)} {κ : Nat}
variable {Γ : List (Nat × TI)} {d : Nat} {ty : TypeId} {pos : String} {aft : Array Edge} {g : Option (Nat × Bool)} {t u te : TypeId} {x y : Operand}
theorem J.pN {p : Option Addr} {s1 b1 : Nat} {z1 : Option Value} (hΓ : Fits P Γ) (k : J P n w0 R l0 K rest (upd f d (.bool p.isNone)) L) (hg : wantB n f l0 ⟨some d, .binOp .eql t x y u, ty, pos, aft, g⟩ = true := by exact rfl) (hx : Cx.ev n f x = .pointer p := by exact rfl) (hy : Cx.ev n f y = .pointer none := by exact rfl) (ht : Go.Cx.look Γ t = some ⟨.pointer te, s1, z1, b1⟩ := by exact rfl) : J P n w0 R l0 K ((κ, ⟨some d, .binOp .eql t x y u, ty, pos, aft, g⟩) :: rest) f L :=
  J.p hg (fun w => by
    have hu := (hΓ t _ ht).1
    have h : ∀ d : Nat, (Op.equalIn (d + 1) t (.pointer p) (.pointer none)).run P w = .ok p.isNone w := fun d => by
      cases p <;> simp [Op.equalIn, run_underlying hu]
    have h2 : (binOp .eql t (.pointer p) (.pointer none)).run P w = .ok (.bool p.isNone) w := by
      simp only [binOp]
      simp [Op.equal, Op.maxDepth, h 9999]
    have h3 : (eqGuard .eql t x y (.pointer p) (.pointer none)).run P w = .ok () w := by simp [eqGuard]
    simp only [execOp, hx, hy, Sem.run_bind, h3, Result.andThen_ok, h2]
    rfl) k
theorem J.pS {a : Addr} {s1 b1 s2 b2 : Nat} {z1 z2 : Option Value} {de : TypeDesc} (hΓ : Fits P Γ) (k : J P n w0 R l0 K rest (upd f d (.bool false)) L) (hg : wantB n f l0 ⟨some d, .binOp .neq t x y u, ty, pos, aft, g⟩ = true := by exact rfl) (hx : Cx.ev n f x = .pointer (some a) := by exact rfl) (hy : Cx.ev n f y = .pointer (some a) := by exact rfl) (ht : Go.Cx.look Γ t = some ⟨.pointer te, s1, z1, b1⟩ := by exact rfl) (he : Go.Cx.look Γ te = some ⟨de, s2, z2, b2⟩ := by exact rfl) : J P n w0 R l0 K ((κ, ⟨some d, .binOp .neq t x y u, ty, pos, aft, g⟩) :: rest) f L :=
  J.p hg (fun w => by
    obtain ⟨_, ie, hie, _⟩ := hΓ te _ he
    have h2 := Lib.run_neq_ptr_same (P := P) w a (hΓ t _ ht).1 hie
    have h3 : (eqGuard .neq t x y (.pointer (some a)) (.pointer (some a))).run P w = .ok () w := by simp [eqGuard]
    simp only [execOp, hx, hy, Sem.run_bind, h3, Result.andThen_ok, h2]
    rfl) k
theorem J.cU {t2 : TypeId} {b : Nat} {cs : List Value} {e : TypeId} {fr : Nat × Nat} {s1 b1 s3 b3 : Nat} {z1 z3 : Option Value} {de : TypeDesc} (hΓ : Fits P Γ) (hu2 : P.underlying t2 = some .unsafePointer) (hr : Rd R L b (.cells ⟨cs⟩ e fr)) (k : J P n w0 R l0 K rest (upd f d (.pointer (some ⟨b, 0, none⟩))) L) (hg : wantB n f l0 ⟨some d, .convert t t2 x, ty, pos, aft, g⟩ = true := by exact rfl) (hx : Cx.ev n f x = .pointer (some ⟨b, 0, none⟩) := by exact rfl) (ht : Go.Cx.look Γ t = some ⟨.pointer te, s1, z1, b1⟩ := by exact rfl) (he : Go.Cx.look Γ te = some ⟨de, s3, z3, b3⟩ := by exact rfl) (hs : Nat.ble 1 s3 = true := by exact rfl) (hl : Nat.ble 1 cs.length = true := by exact rfl) : J P n w0 R l0 K ((κ + 1, ⟨some d, .convert t t2 x, ty, pos, aft, g⟩) :: rest) f L :=
  J.q hg (fun w hw => by
    obtain ⟨_, ie, hie, hse, _⟩ := hΓ te _ he
    have hb := hw.rd hr
    have hsh : w.shape? b = some (e, cs.length) := by simp [World.shape?, hb]
    have h2 := Lib.run_to_unsafe (P := P) w ⟨b, 0, none⟩ (hΓ t _ ht).1 hu2 hie (by have := Nat.le_of_ble_eq_true hs; rw [hse]; show s3 ≠ 0; omega) hsh (Nat.le_of_ble_eq_true hl)
    simp only [execOp, hx, Sem.run_bind, h2, Result.andThen_ok]
    rfl) k
theorem J.cP {t2 : TypeId} {b : Nat} {cs : List Value} {e : TypeId} {fr : Nat × Nat} {s1 b1 s3 b3 : Nat} {z1 z3 : Option Value} {de : TypeDesc} (hΓ : Fits P Γ) (hu2 : P.underlying t2 = some .unsafePointer) (hr : Rd R L b (.cells ⟨cs⟩ e fr)) (k : J P n w0 R l0 K rest (upd f d (.pointer (some ⟨b, 0, none⟩))) L) (hlies : liesAt P P.depth e (cs.length / P.cellsOf e) 0 te 1 = true := by kernel_rfl) (hg : wantB n f l0 ⟨some d, .convert t2 t x, ty, pos, aft, g⟩ = true := by exact rfl) (hx : Cx.ev n f x = .pointer (some ⟨b, 0, none⟩) := by exact rfl) (ht : Go.Cx.look Γ t = some ⟨.pointer te, s1, z1, b1⟩ := by exact rfl) (he : Go.Cx.look Γ te = some ⟨de, s3, z3, b3⟩ := by exact rfl) : J P n w0 R l0 K ((κ + 1, ⟨some d, .convert t2 t x, ty, pos, aft, g⟩) :: rest) f L :=
  J.q hg (fun w hw => by
    obtain ⟨_, ie, hie, hse, _⟩ := hΓ te _ he
    have hb := hw.rd hr
    have hsh : w.shape? b = some (e, cs.length) := by simp [World.shape?, hb]
    have h2 := Lib.run_from_unsafe (P := P) w ⟨b, 0, none⟩ hu2 (hΓ t _ ht).1 hie hsh hlies
    simp only [execOp, hx, Sem.run_bind, h2, Result.andThen_ok]
    rfl) k
theorem J.nE {fid : FuncId} {fn : Func} {xs : List Operand} {ats : Array TypeId} {v : Value} (hf : P.funcs[fid]? = some fn) (hn : (fn.name == "runtime.NumGoroutine") = false) (hb : fn.body.isNone = true) (hnx : Extern.findNext fn = none) (hfi : Extern.find fn = some Extern.AbiNoEscape.same) (hg : wantB n f l0 ⟨some d, .call ⟨.value (.func fid), ⟨xs⟩, ats⟩, ty, pos, aft, g⟩ = true) (ha : argsEv (Cx.ev n f) xs = some [v]) (k : J P n w0 R l0 K rest (upd f d v) L) : J P n w0 R l0 K ((κ, ⟨some d, .call ⟨.value (.func fid), ⟨xs⟩, ats⟩, ty, pos, aft, g⟩) :: rest) f L :=
  J.p hg (fun w => by
    have h1 : (⟨xs⟩ : Array Operand).map (Cx.ev n f) = ⟨[v]⟩ := by rw [← argsEv_eq ha]; simp
    have h2 := run_callFunc_extern hf hn hb hnx hfi #[v] w
    rw [Lib.run_noEscape] at h2
    simp only [Result.andThen_ok] at h2
    simp only [execOp, resolve, h1, Cx.ev, Deferred.ofValue, Sem.run_bind, Sem.run_pure, Result.andThen_ok, invoke]
    simpa using h2) k
end
section
variable {P : Program} {Γ : List (Nat × TI)} {w0 : World} {R : Heap} {L : List Heap}
theorem appStr_runC (hΓ : Fits P Γ) {t u ty' e : TypeId} {s1 b1 s3 b3 cap : Nat} {z1 z3 : Option Value} {a : Option Addr} {bs : List UInt8} {h : Heap} {l : List UInt8} (ht : Go.Cx.look Γ t = some ⟨.slice e, s1, z1, b1⟩) (he : Go.Cx.look Γ e = some ⟨.int .u8, 1, some (.int .u8 0), 1⟩) (hu : Go.Cx.look Γ u = some ⟨.string, s3, z3, b3⟩)
    {w : World} (hw : H w0 R (h :: L) w) (ho : OwT encB 1 e a cap bs h) (hm : 0 < l.length) (hb : bs.length + l.length ≤ 140737488355328) (hcap : cap ≤ maxLen) :
    ∃ a' cap' h' w', (Builtin.append_ #[t, u] ty' #[.slice a bs.length cap, .string (S l)]).run P w = .ok (.slice a' (bs.length + l.length) cap') w' ∧ H w0 R (h' :: L) w' ∧ OwT encB 1 e a' cap' (bs ++ l) h' ∧ cap' ≤ maxLen := by
  have htu := (hΓ t _ ht).1
  have huu := (hΓ u _ hu).1
  obtain ⟨hue, ie, hie, hse, hze, hbe⟩ := hΓ e _ he
  have hsz : ie.size = 1 := hse
  have hbz : ie.bytes = 1 := hbe
  have hS : (S l).size = l.length := rfl
  rcases ho.row with ⟨rfl, rfl, rfl, rfl⟩ | ⟨gb, cs, rfl, rfl, hc1, hc2, hc3⟩
  · have hrun := run_append_nil_string (P := P) (w := w) t u ty' e ie (.int .u8 0) htu huu hie hze (S l) hm (by rw [hS]; omega) (by rw [hS, hbz]; omega)
    have hge := grownCap_ge w l.length 0 e
    refine ⟨some ⟨w.heap.size, 0, none⟩, grownCap w l.length 0 e, _, _, ?_, (hw.drop.drew (w.drawn + 1)).alloc (.cells ((S l).data.map (fun b => Value.int .u8 b.toNat) ++ Builtin.zeroCells (Value.int .u8 0).cells (grownCap w l.length 0 e - l.length)) e), ?_, grownCap_le_maxLen w l.length 0 e (by unfold maxLen; omega)⟩
    · simp only [List.length_nil, Nat.zero_add]
      exact hrun
    · refine ⟨ho.len, .inr ⟨w.heap.size, l.flatMap encB ++ (Builtin.zeroCells (Value.int .u8 0).cells (grownCap w l.length 0 e - l.length)).toList, rfl, ?_, ?_, ?_, ?_⟩⟩
      · have : ((S l).data.map (fun b => Value.int .u8 b.toNat) ++ Builtin.zeroCells (Value.int .u8 0).cells (grownCap w l.length 0 e - l.length)) = ⟨l.flatMap encB ++ (Builtin.zeroCells (Value.int .u8 0).cells (grownCap w l.length 0 e - l.length)).toList⟩ := by
          apply Array.ext'
          rw [encB_flat]
          simp [S]
        rw [this]
      · simp only [List.length_append, Array.length_toList, size_zeroCells, flat_len ho.len]
        simp [Value.cells]
        omega
      · simpa using hge
      · simp only [List.nil_append]
        rw [List.take_append_of_le_length (by rw [flat_len ho.len]; exact Nat.le_refl _), List.take_of_length_le (by rw [flat_len ho.len]; exact Nat.le_refl _)]
  · have hg : w.heap[gb]? = some (.cells cs.toArray e (0, 0)) := hw.own (gb, _) (by simp)
    by_cases hroom : bs.length + l.length ≤ cap
    · have hrun := run_append_room_string (P := P) (w := w) t u ty' e ie htu huu hie hsz gb bs.length cap cs.toArray hg (S l) (by rw [hS]; exact hroom) (by rw [hS, List.size_toArray, hc1]; omega)
      rw [hS, strCells_S] at hrun
      refine ⟨_, _, [(gb, .cells ⟨bs.flatMap encB ++ l.flatMap encB ++ cs.drop (bs.length + l.length)⟩ e (0, 0))], _, hrun, ?_, ?_, hcap⟩
      · refine hw.write rfl rfl rfl (by simp) ?_ (fun k hk => setRow_other _ _ _ _ hk)
        rw [setRow_heap w gb _ _ e _ hg]
        have : cs.toArray.toList.take bs.length = bs.flatMap encB := by rw [← hc3, Nat.mul_one]
        rw [this]
      · refine ⟨ho.len, .inr ⟨gb, _, rfl, rfl, ?_, ?_, ?_⟩⟩
        · simp only [List.length_append, List.length_drop, flat_len ho.len, hc1]
          omega
        · simpa using hroom
        · rw [List.flatMap_append, List.take_append_of_le_length (by rw [List.length_append, List.length_append, flat_len ho.len, flat_len ho.len, Nat.add_mul]; exact Nat.le_refl _)]
          rw [List.take_of_length_le (by rw [List.length_append, List.length_append, flat_len ho.len, flat_len ho.len, Nat.add_mul]; exact Nat.le_refl _)]
    · have hlt : cap < bs.length + l.length := by omega
      have hadd : ∀ j, (⟨gb, 0, none⟩ : Addr).add j = ⟨gb, j, none⟩ := fun j => by unfold Addr.add; split <;> simp_all
      have hfit : Builtin.nextslicecap (bs.length + (S l).size) cap * ie.bytes ≤ 281474976710656 := by
        have h2 := nextslicecap_le hlt
        rw [hS, hbz, Nat.mul_one]
        omega
      have hrun := run_append_grow_string (P := P) (w := w) t u ty' e ie (.int .u8 0) htu huu hie hze ⟨gb, 0, none⟩ bs.length cap (bs.flatMap encB) (by rw [flat_len ho.len, hsz]) (fun j v hj => by
          rw [hadd, cell_of_row w gb j cs.toArray e (0, 0) hg]
          rw [← hc3, List.getElem?_take] at hj
          split at hj
          · simpa using hj
          · cases hj) (S l) (by rw [hS]; exact hlt) (by rw [hS]; omega) hfit
      rw [hS, strCells_S] at hrun
      have hge := grownCap_ge w (bs.length + l.length) cap e
      refine ⟨_, _, _, _, hrun, (hw.drop.drew (w.drawn + 1)).alloc _, ?_, grownCap_le_maxLen w (bs.length + l.length) cap e (by unfold maxLen; omega)⟩
      refine ⟨ho.len, .inr ⟨w.heap.size, bs.flatMap encB ++ l.flatMap encB ++ (Builtin.zeroCells (Value.int .u8 0).cells (grownCap w (bs.length + l.length) cap e - (bs.length + l.length))).toList, rfl, ?_, ?_, ?_, ?_⟩⟩
      · simp
      · simp only [List.length_append, Array.length_toList, size_zeroCells, flat_len ho.len]
        simp [Value.cells]
        omega
      · simpa using hge
      · rw [List.flatMap_append, List.take_append_of_le_length (by rw [List.length_append, List.length_append, flat_len ho.len, flat_len ho.len, Nat.add_mul]; exact Nat.le_refl _)]
        rw [List.take_of_length_le (by rw [List.length_append, List.length_append, flat_len ho.len, flat_len ho.len, Nat.add_mul]; exact Nat.le_refl _)]
end
section
variable {P : Program} {n : Nat} {w0 : World} {R : Heap} {l0 : List Oper} {K : Exit → Fr → List Heap → Prop} {f : Fr} {L : List Heap} {rest : List (Nat × Oper)} {κ : Nat}
variable {Γ : List (Nat × TI)} {d : Nat} {op : Op} {ty : TypeId} {pos : String} {aft : Array Edge} {g : Option (Nat × Bool)} {t u e : TypeId} {x y z : Operand} {bs l : List UInt8} {a : Option Addr} {len cap : Nat} {h : Heap}
theorem J.apSc {s1 b1 s3 b3 : Nat} {z1 z3 : Option Value} (hΓ : Fits P Γ) (hcap : cap ≤ maxLen)
    (k : ∀ a' cap' h', OwT encB 1 e a' cap' (bs ++ l) h' → cap' ≤ maxLen → J P n w0 R l0 K rest (upd f d (.slice a' (bs ++ l).length cap')) (h' :: L))
    (hg : wantB n f l0 ⟨some d, .call ⟨.builtin .append, ⟨[x, y]⟩, ⟨[t, u]⟩⟩, ty, pos, aft, g⟩ = true := by exact rfl) (hx : Cx.ev n f x = .slice a len cap := by exact rfl) (hy : Cx.ev n f y = .string (S l) := by exact rfl)
    (ht : Go.Cx.look Γ t = some ⟨.slice e, s1, z1, b1⟩ := by exact rfl) (he : Go.Cx.look Γ e = some ⟨.int .u8, 1, some (.int .u8 0), 1⟩ := by exact rfl) (hu : Go.Cx.look Γ u = some ⟨.string, s3, z3, b3⟩ := by exact rfl)
    (ho : OwT encB 1 e a cap bs h := by assumption) (hlen : bs.length = len := by first | rfl | assumption | omega) (hm : 0 < l.length := by first | omega | exact Nat.lt_of_lt_of_le (by decide) (Nat.le_refl _)) (hb : bs.length + l.length ≤ 140737488355328 := by first | omega | (simp only [List.length_append, List.length_cons, List.length_nil]; omega)) :
    J P n w0 R l0 K ((2, ⟨some d, .call ⟨.builtin .append, ⟨[x, y]⟩, ⟨[t, u]⟩⟩, ty, pos, aft, g⟩) :: rest) f (h :: L) := by
  subst hlen
  have hll : (bs ++ l).length = bs.length + l.length := List.length_append
  rw [hll] at k
  refine J.v (Φ := fun v L' => ∃ a' cap' h', v = .slice a' (bs.length + l.length) cap' ∧ L' = h' :: L ∧ OwT encB 1 e a' cap' (bs ++ l) h' ∧ cap' ≤ maxLen) hg (fun w hw => ?_) (fun v L' ⟨a', cap', h', h1, h2, h3, h4⟩ => by subst h1; subst h2; exact k a' cap' h' h3 h4)
  obtain ⟨a', cap', h', w', hr, hw', ho', hc'⟩ := appStr_runC (P := P) (ty' := ty) hΓ ht he hu hw ho hm hb hcap
  refine ⟨_, _, w', ?_, hw', a', cap', h', rfl, rfl, ho', hc'⟩
  simp only [execOp, resolve, invoke, builtin, List.map_toArray, List.map_cons, List.map_nil, hx, hy, Sem.run_bind, Sem.run_pure, Result.andThen_ok]
  rw [hr]
  rfl
end
attribute [local irreducible] J JC thenK blockK loopK roundK drawK retK QW Qt pel List.set Calls
theorem eCopyC : Entr Tryz.prog 115 := Entr.of Tryz.func115 rfl rfl
theorem eWStr : Entr Tryz.prog 139 := Entr.of Tryz.func139 rfl rfl
theorem eBStr : Entr Tryz.prog 76 := Entr.of Tryz.func76 rfl rfl
def bldO (p : Option Addr) (v : Value) : Obj := .cells ⟨[.pointer p, v]⟩ 128 (0, 0)
set_option maxRecDepth 100000 in
theorem copyC_any {w0 w : World} {R : Heap} {L : List Heap} {b : Nat} {p : Option Addr} {v : Value} (hp : p = none ∨ p = some ⟨b, 0, none⟩) (hw : H w0 R ([(b, bldO p v)] :: L) w) :
    Calls Tryz.prog 115 #[.pointer (some ⟨b, 0, none⟩)] w fun e w' => ∃ v' L', e = .returned v' ∧ H w0 R L' w' ∧ (v' = .tuple #[] ∧ L' = [(b, bldO (some ⟨b, 0, none⟩) v)] :: L) := by
  rcases hp with rfl | rfl
  ·
    refine calls_in Tryz.func115 Tryz.ntmps115 rfl rfl (hw) ?_
    unfold bldO
    repeat' first
      | (refine J.isJ ?_; first | (first | (refine J.o 11 ?_; refine J.pN hΓ ?_) | (refine J.o 2 ?_; first | refine J.cU hΓ Tryz.underlying173 Rd.hd ?_ | refine J.cP hΓ Tryz.underlying173 Rd.hd ?_) | (refine J.fc 136 ?_; refine J.nE Tryz.func136 (by kernel_rfl) (by kernel_rfl) (by kernel_rfl) (by kernel_rfl) rfl rfl ?_) | (refine J.o 11 ?_; refine J.pS hΓ ?_)) | (first | (refine J.o 0 ?_; refine J.ev' hΓ ?_) | refine J.nil ?_ | (refine J.o 4 ?_; first | refine J.e0 hΓ ?_) | (refine J.o 3 ?_; first | refine J.ev' hΓ ?_) | (refine J.o 5 ?_; first | refine J.t0 hΓ ?_) | (refine J.o 10 ?_; first | refine J.ev' hΓ ?_) | (refine J.o 11 ?_; first | refine J.ev' hΓ ?_)))
      | (first | refine JC.seq ?_ | refine JC.region ?_ | refine JC.skip ?_ | refine thenK.nn ?_ | refine JC.condT rfl ?_ | refine JC.condF rfl ?_)
      | (fail)
      | fail
    all_goals first | (exact absurd rfl hc) | skip
    all_goals exact ret0n rfl (fun w1 hw => ⟨_, _, rfl, hw, rfl, rfl⟩)
  ·
    refine calls_in Tryz.func115 Tryz.ntmps115 rfl rfl (hw) ?_
    unfold bldO
    repeat' first
      | (refine J.isJ ?_; first | (first | (refine J.o 11 ?_; refine J.pN hΓ ?_) | (refine J.o 11 ?_; refine J.pS hΓ ?_)) | (first | (refine J.o 0 ?_; refine J.ev' hΓ ?_) | refine J.nil ?_ | (refine J.o 4 ?_; first | refine J.e0 hΓ ?_) | (refine J.o 3 ?_; first | refine J.ev' hΓ ?_) | (refine J.o 5 ?_; first | refine J.t0 hΓ ?_) | (refine J.o 10 ?_; first | refine J.ev' hΓ ?_) | (refine J.o 11 ?_; first | refine J.ev' hΓ ?_)))
      | (first | refine JC.seq ?_ | refine JC.region ?_ | refine JC.skip ?_ | refine thenK.nn ?_ | refine JC.condT rfl ?_ | refine JC.condF rfl ?_)
      | (fail)
      | fail
    all_goals first | (exact absurd rfl hc) | skip
    all_goals exact ret0n rfl (fun w1 hw => ⟨_, _, rfl, hw, rfl, rfl⟩)
theorem wStr_any {w0 w : World} {R : Heap} {L : List Heap} {b : Nat} {p a : Option Addr} {cap : Nat} {bs l : List UInt8} {hb : Heap} (hp : p = none ∨ p = some ⟨b, 0, none⟩) (ob : OwT encB 1 5 a cap bs hb) (hcap : cap ≤ maxLen) (h0 : 0 < l.length) (hlen : bs.length + l.length ≤ 140737488355328) (hw : H w0 R ([(b, bldO p (.slice a bs.length cap))] :: hb :: L) w) :
    Calls Tryz.prog 139 #[.pointer (some ⟨b, 0, none⟩), .string (S l)] w fun e w' => ∃ v' L', e = .returned v' ∧ H w0 R L' w' ∧ ∃ a' cap' h', L' = [(b, bldO (some ⟨b, 0, none⟩) (.slice a' (bs ++ l).length cap'))] :: h' :: L ∧ OwT encB 1 5 a' cap' (bs ++ l) h' ∧ cap' ≤ maxLen := by
  refine calls_in Tryz.func139 Tryz.ntmps139 rfl rfl (hw) ?_
  repeat' first
    | (refine J.isJ ?_; first | (first | (refine J.fc 115 ?_; refine J.callx eCopyC rfl rfl (fun w hw => copyC_any hp hw) ?_; rintro _ _ ⟨rfl, rfl⟩; unfold bldO) | (refine J.o 9 ?_; refine J.perm br1 ?_; refine J.apSc hΓ hcap (fun a2 c2 h2 o2 hc2 => ?_)) | (refine J.o 5 ?_; refine J.t1 hΓ ?_)) | (first | (refine J.o 0 ?_; refine J.ev' hΓ ?_) | refine J.nil ?_ | (refine J.o 4 ?_; first | refine J.e0 hΓ ?_) | (refine J.o 3 ?_; first | refine J.ev' hΓ ?_) | (refine J.o 5 ?_; first | refine J.t1 hΓ ?_) | (refine J.o 10 ?_; first | refine J.ls hΓ ?_ | refine J.ev' hΓ ?_) | (refine J.o 11 ?_; first | refine J.ev' hΓ ?_)))
    | (first | refine JC.seq ?_ | refine JC.region ?_ | refine JC.ret ?_ | refine thenK.nn ?_)
    | (fail)
    | fail
  all_goals first | (exfalso; omega) | skip
  all_goals exact ret2f rfl rfl rfl rfl rfl (fun w1 hw => ⟨_, _, rfl, hw.perm br1, _, _, _, rfl, o2, hc2⟩)
def numK (k : Int) : List UInt8 := Lib.itoa k ++ [32]
theorem eKey1 : Entr Tryz.prog 138 := Entr.of Tryz.func138 rfl rfl
theorem eKey : Entr Tryz.prog 119 := Entr.of Tryz.func119 rfl rfl
theorem key1_any (k : Int) (hk : -9223372036854775808 ≤ k ∧ k ≤ 9223372036854775807) {w0 w : World} {R : Heap} {L : List Heap} {b : Nat} {p a : Option Addr} {cap : Nat} {bs : List UInt8} {hb : Heap} (hT : Tab w0) (hp : p = none ∨ p = some ⟨b, 0, none⟩) (ob : OwT encB 1 5 a cap bs hb) (hcap : cap ≤ maxLen) (hlen : bs.length ≤ 1000000000000) (hw : H w0 R ([(b, bldO p (.slice a bs.length cap))] :: hb :: L) w) :
    Calls Tryz.prog 138 #[.int .i64 k, .pointer (some ⟨b, 0, none⟩)] w fun e w' => ∃ v' L', e = .returned v' ∧ H w0 R L' w' ∧ ∃ a' cap' h', v' = .tuple #[] ∧ L' = [(b, bldO (some ⟨b, 0, none⟩) (.slice a' (bs ++ numK k).length cap'))] :: h' :: L ∧ OwT encB 1 5 a' cap' (bs ++ numK k) h' ∧ cap' ≤ maxLen := by
  have hil := Lib.itoa_length_le k hk.1 hk.2
  refine calls_in Tryz.func138 Tryz.ntmps138 rfl rfl (hw) ?_
  repeat' first
    | (refine J.isJ ?_; first | (first | (refine J.fc 80 ?_; refine J.call0 eItoa rfl rfl (fun w hw => itoa_tab k hk.1 hk.2 w (hT.below hw.below)) ?_) | (refine J.fc 139 ?_; refine J.callx eWStr rfl rfl (fun w hw => wStr_any (l := numK k) hp ob hcap (by unfold numK; rw [List.length_append, List.length_singleton]; omega) (by unfold numK; rw [List.length_append, List.length_singleton]; omega) hw) ?_; rintro _ _ ⟨a2, c2, h2, rfl, o2, hc2⟩)) | (first | (refine J.o 0 ?_; refine J.ev' hΓ ?_) | refine J.nil ?_ | (refine J.o 3 ?_; first | refine J.ev' hΓ ?_) | (refine J.o 1 ?_; first | refine J.ct ?_) | (refine J.o 10 ?_; first | refine J.ev' hΓ ?_) | (refine J.o 11 ?_; first | refine J.ev' hΓ ?_)))
    | (first | refine JC.region ?_)
    | (fail)
    | fail
  all_goals exact ret0n rfl (fun w1 hw => ⟨_, _, rfl, hw, _, _, _, rfl, rfl, o2, hc2⟩)
theorem bytes_flat : ∀ bs : List UInt8, bs.flatMap encB = Lib.byteCells bs
  | [] => rfl
  | x :: bs => by
    have ih := bytes_flat bs
    unfold Lib.byteCells at ih ⊢
    rw [List.flatMap_cons, List.map_cons, ih]
    rfl
theorem bStr_any {w0 w : World} {R : Heap} {L : List Heap} {b : Nat} {p a : Option Addr} {cap : Nat} {bs : List UInt8} {hb : Heap} (hp : p = none ∨ p = some ⟨b, 0, none⟩) (ob : OwT encB 1 5 a cap bs hb) (hcap : cap ≤ maxLen) (hw : H w0 R ([(b, bldO p (.slice a bs.length cap))] :: hb :: L) w) :
    Calls Tryz.prog 76 #[.pointer (some ⟨b, 0, none⟩)] w fun e w' => ∃ v' L', e = .returned v' ∧ H w0 R L' w' ∧ (v' = .string (S bs) ∧ L' = []) := by
  have hbk : w.heap[b]? = some (bldO p (.slice a bs.length cap)) := hw.rd (Rd.fr (by simp))
  have hbn : w0.heap.size ≤ b := hw.new (b, bldO p (.slice a bs.length cap)) (by simp)
  have hfl := bytes_flat bs
  have hown : w.ownsRow w0.heap.size 5 1 (.slice a bs.length cap) (Lib.byteCells bs).length (Lib.byteCells bs) ∧ (Value.slice a bs.length cap).ownBlock ≠ some b := by
    rw [Lib.byteCells_length]
    rcases ob.row with ⟨rfl, rfl, rfl, rfl⟩ | ⟨g, cs, rfl, rfl, h1, h2, h3⟩
    · exact ⟨⟨by simp [Lib.byteCells], .inl ⟨rfl, rfl⟩⟩, by simp [Value.ownBlock]⟩
    · have hg : w.heap[g]? = some (.cells ⟨cs⟩ 5 (0, 0)) := hw.own (g, _) (by simp)
      have hgn : w0.heap.size ≤ g := hw.new (g, .cells ⟨cs⟩ 5 (0, 0)) (by simp)
      refine ⟨⟨by rw [Lib.byteCells_length]; omega, .inr ⟨g, cap, ⟨cs⟩, rfl, hgn, hg, h2, hcap, by simpa using h1, ?_⟩⟩, ?_⟩
      · rw [← hfl]; exact h3
      · have hnd := hw.nodup
        simp only [List.flatten_cons, List.map_append, List.map_cons, List.map_nil, List.cons_append, List.nil_append] at hnd
        rw [List.nodup_cons] at hnd
        intro e
        simp only [Value.ownBlock, Option.some.injEq] at e
        exact hnd.1 (by rw [← e]; simp)
  have hB : Lib.IsBuilder 128 5 w0.heap.size b (Lib.byteCells bs) w := by
    rcases hp with rfl | rfl
    · exact .inl ⟨hbn, _, hbk, hown.1, hown.2⟩
    · exact .inr ⟨hbn, _, hbk, hown.1, hown.2⟩
  refine (Tryz.Builder_String_any w0.heap.size b bs w hB hw.below.size).mono ?_
  rintro e w' ⟨rfl, hbel⟩
  exact ⟨_, [], rfl, ⟨hw.below.trans hbel, hw.old, fun x hx => by simp at hx, fun x hx => by simp at hx, by simp⟩, rfl, rfl⟩
structure NV where
  kind : Int
  lit : Int
  a : Option Addr
  c : Nat
  l : List Int
instance : Inhabited NV := ⟨⟨0, 0, none, 0, []⟩⟩
def encNV (v : NV) : List Value := [.int .i64 v.kind, .int .i64 v.lit, .slice v.a v.l.length v.c]
def pnV (v : NV) : PN := (v.kind, v.lit, v.l)
def keyS (x : PN) : List UInt8 := numK x.1 ++ numK x.2.1 ++ x.2.2.flatMap numK
def i64B (k : Int) : Prop := -9223372036854775808 ≤ k ∧ k ≤ 9223372036854775807
theorem numS_len {k : Int} (h : i64B k) : (numK k).length ≤ 22 := by
  have := Lib.itoa_length_le k h.1 h.2
  unfold numK
  rw [List.length_append, List.length_singleton]
  omega
theorem nums_len : ∀ (l : List Int), (∀ k, k ∈ l → i64B k) → (l.flatMap numK).length ≤ 22 * l.length
  | [], _ => by simp
  | k :: l, h => by
    have h1 := numS_len (h k List.mem_cons_self)
    have h2 := nums_len l fun x hx => h x (List.mem_cons_of_mem _ hx)
    rw [List.flatMap_cons, List.length_append, List.length_cons]
    omega
set_option maxHeartbeats 16000000 in
theorem key_any (v : NV) (h : Heap) (hs : SlT encI 1 v.a v.l h) (hl : v.l.length ≤ 1000000) (h1 : i64B v.kind) (h2 : i64B v.lit) (h3 : ∀ k, k ∈ v.l → i64B k) (w : World) (hT : Tab w) (hw : Holds h w) :
    Calls Tryz.prog 119 #[.agg ⟨encNV v⟩] w fun e w' => e = .returned (.string (S (keyS (pnV v)))) ∧ Below w.heap.size w w' := by
  have q0 : ∀ L, RdH h L h := fun L => RdH.old fun _ hh => hh
  have l1 := numS_len h1
  have l2 := numS_len h2
  refine calls_of_JC (R := h) Tryz.func119 Tryz.ntmps119 rfl rfl (hw) ?_
  repeat' first
    | (refine J.isJ ?_; first | (first | (refine J.o 14 ?_; refine J.mf hΓ ?_) | (refine J.o 9 ?_; refine J.callvx eKey1 rfl rfl rfl (fun w hw => key1_any v.kind h1 hT (.inl rfl) (OwT.nil (fun _ => rfl)) (Nat.zero_le _) (Nat.zero_le _) (hw.nilF.perm br1)) ?_; rintro _ _ ⟨a1, c1, b1, rfl, rfl, o1, hc1⟩) | (refine J.o 9 ?_; refine J.callvx eKey1 rfl rfl rfl (fun w hw => key1_any v.lit h2 hT (.inr rfl) o1 hc1 (by rw [List.length_append, List.length_nil]; omega) hw) ?_; rintro _ _ ⟨a2, c2, b2, rfl, rfl, o2, hc2⟩)) | (first | (refine J.o 0 ?_; refine J.ev' hΓ ?_) | refine J.nil ?_ | (refine J.o 4 ?_; first | refine J.lT default hΓ ?_ | refine J.e1 hΓ ?_ | refine J.e2 hΓ ?_) | (refine J.o 3 ?_; first | refine J.iJ hΓ ?_ | refine J.ev' hΓ ?_) | (refine J.o 1 ?_; first | refine J.ad ?_) | (refine J.o 6 ?_; refine J.bx (fun _ => ?_)) | (refine J.o 7 ?_; refine J.al hΓ (fun _ => ?_)) | (refine J.o 10 ?_; first | refine J.ev' hΓ ?_) | (refine J.o 11 ?_; first | refine J.ev' hΓ ?_) | (refine J.o 14 ?_; refine J.mf hΓ ?_)))
    | (first | refine JC.seq ?_ | refine JC.region ?_ | refine JC.block ?_ | refine JC.ret ?_ | refine JC.exit ?_ | refine JC.skip ?_ | refine thenK.nn ?_ | refine thenK.x ?_ | refine blockK.nn ?_ | refine blockK.hit rfl ?_ | (refine JC.cond rfl (fun hc => ?_) (fun hc => ?_) <;> ((try simp only [decide_eq_true_eq, decide_eq_false_iff_not, beq_iff_eq, beq_eq_false_iff_ne, bne_iff_ne, bne_eq_false_iff_eq, Bool.not_eq_true', Bool.not_eq_false', Bool.not_eq_true, Bool.not_eq_false] at hc) <;> first | (first | (exact absurd rfl hc) | (exfalso; omega) | (exact absurd (hc.symm.trans (by assumption : _ = false)) (by decide)) | (exact absurd (hc.symm.trans (by assumption : _ = true)) (by decide))) | skip)) | refine loopK.x ?_)
    | (fail)
    | fail
  all_goals first | (exfalso; omega) | skip
  rename_i n1 n3
  rw [List.nil_append] at o2 ⊢
  refine JC.gen [(1, .pointer (some ⟨n1, 0, none⟩)), (3, .pointer (some ⟨n3, 0, none⟩)), (4, .func (.func 138) ⟨[]⟩ ⟨[.pointer (some ⟨n3, 0, none⟩)]⟩), (17, .slice v.a v.l.length v.c), (18, .int .i64 v.l.length), (19, .int .i64 0)] ⟨rfl, rfl, rfl, rfl, rfl, rfl, trivial⟩ (fun F => ?_)
  refine JC.loopG (fun i => i == 2 || i == 6 || Nat.ble 19 i) (fun m g L => ∃ (k : Nat) (ab : Option Addr) (cb : Nat) (hb : Heap), g 19 = .int .i64 (k : Int) ∧ k + m = v.l.length ∧ OwT encB 1 5 ab cb (numK v.kind ++ numK v.lit ++ (v.l.take k).flatMap numK) hb ∧ cb ≤ maxLen ∧ L = [[(n3, bldO (some ⟨n3, 0, none⟩) (.slice ab (numK v.kind ++ numK v.lit ++ (v.l.take k).flatMap numK).length cb))], hb, [(n1, .cells ⟨encNV v⟩ 82 (0, 0))]]) v.l.length
    ⟨0, a2, c2, b2, rfl, by omega, by rw [List.take_zero, List.flatMap_nil, List.append_nil]; exact o2, hc2, by rw [List.take_zero, List.flatMap_nil, List.append_nil]⟩ ?_
  rintro m g L ⟨k, ab, cb, hb, e19, hkm, ob, hcb, rfl⟩
  refine JC.pin 19 e19 ?_
  clear e19
  rcases Nat.lt_or_ge k v.l.length with hk | hk
  case inr =>
    rw [List.take_of_length_le hk] at ob ⊢
    repeat' first
      | (refine J.isJ ?_; first | ((refine J.fc 76 ?_; refine J.callx eBStr rfl rfl (fun w hw => bStr_any (.inr rfl) ob hcb hw) ?_; rintro _ _ ⟨rfl, rfl⟩)) | (first | (refine J.o 0 ?_; refine J.ev' hΓ ?_) | refine J.nil ?_ | (refine J.o 4 ?_; first | refine J.lT default hΓ ?_ | refine J.e1 hΓ ?_ | refine J.e2 hΓ ?_) | (refine J.o 3 ?_; first | refine J.iJ hΓ ?_ | refine J.ev' hΓ ?_) | (refine J.o 1 ?_; first | refine J.ad ?_) | (refine J.o 6 ?_; refine J.bx (fun _ => ?_)) | (refine J.o 7 ?_; refine J.al hΓ (fun _ => ?_)) | (refine J.o 10 ?_; first | refine J.ev' hΓ ?_) | (refine J.o 11 ?_; first | refine J.ev' hΓ ?_) | (refine J.o 14 ?_; refine J.mf hΓ ?_)))
      | (first | refine JC.seq ?_ | refine JC.region ?_ | refine JC.block ?_ | refine JC.ret ?_ | refine JC.exit ?_ | refine JC.skip ?_ | refine thenK.nn ?_ | refine thenK.x ?_ | refine blockK.nn ?_ | refine blockK.hit rfl ?_ | (refine JC.cond rfl (fun hc => ?_) (fun hc => ?_) <;> ((try simp only [decide_eq_true_eq, decide_eq_false_iff_not, beq_iff_eq, beq_eq_false_iff_ne, bne_iff_ne, bne_eq_false_iff_eq, Bool.not_eq_true', Bool.not_eq_false', Bool.not_eq_true, Bool.not_eq_false] at hc) <;> first | (first | (exact absurd rfl hc) | (exfalso; omega) | (exact absurd (hc.symm.trans (by assumption : _ = false)) (by decide)) | (exact absurd (hc.symm.trans (by assumption : _ = true)) (by decide))) | skip)) | refine loopK.x ?_)
      | (fail)
      | fail
    all_goals first | (exfalso; omega) | exact ret1f rfl rfl rfl (fun w1 hw => ⟨rfl, hw.below⟩)
  have hkk := h3 _ (mem_g v.l k hk)
  have hlen := nums_len (v.l.take k) fun x hx => h3 x (List.mem_of_mem_take hx)
  rw [List.length_take] at hlen
  have hstep : numK v.kind ++ numK v.lit ++ (v.l.take (k + 1)).flatMap numK = numK v.kind ++ numK v.lit ++ (v.l.take k).flatMap numK ++ numK (v.l.getD k default) := by
    rw [take_g v.l k hk, List.flatMap_append, List.flatMap_cons, List.flatMap_nil, List.append_nil]
    simp only [List.append_assoc]
  have hsl := hs
  repeat' first
    | (refine J.isJ ?_; first | (first | (refine J.o 4 ?_; refine J.lT default hΓ ?_ (hs := hsl) (hr := q0 _)) | (refine J.o 9 ?_; refine J.callvx eKey1 rfl rfl rfl (fun w hw => key1_any (v.l.getD k default) hkk hT (.inr rfl) ob hcb (by rw [List.length_append, List.length_append]; omega) hw) ?_; rintro _ _ ⟨a4, c4, b4, rfl, rfl, o4, hc4⟩)) | (first | (refine J.o 0 ?_; refine J.ev' hΓ ?_) | refine J.nil ?_ | (refine J.o 4 ?_; first | refine J.lT default hΓ ?_ | refine J.e1 hΓ ?_ | refine J.e2 hΓ ?_) | (refine J.o 3 ?_; first | refine J.iJ hΓ ?_ | refine J.ev' hΓ ?_) | (refine J.o 1 ?_; first | refine J.ad ?_) | (refine J.o 6 ?_; refine J.bx (fun _ => ?_)) | (refine J.o 7 ?_; refine J.al hΓ (fun _ => ?_)) | (refine J.o 10 ?_; first | refine J.ev' hΓ ?_) | (refine J.o 11 ?_; first | refine J.ev' hΓ ?_) | (refine J.o 14 ?_; refine J.mf hΓ ?_)))
    | (first | refine JC.seq ?_ | refine JC.region ?_ | refine JC.block ?_ | refine JC.ret ?_ | refine JC.exit ?_ | refine JC.skip ?_ | refine thenK.nn ?_ | refine thenK.x ?_ | refine blockK.nn ?_ | refine blockK.hit rfl ?_ | (refine JC.cond rfl (fun hc => ?_) (fun hc => ?_) <;> ((try simp only [decide_eq_true_eq, decide_eq_false_iff_not, beq_iff_eq, beq_eq_false_iff_ne, bne_iff_ne, bne_eq_false_iff_eq, Bool.not_eq_true', Bool.not_eq_false', Bool.not_eq_true, Bool.not_eq_false] at hc) <;> first | (first | (exact absurd rfl hc) | (exfalso; omega) | (exact absurd (hc.symm.trans (by assumption : _ = false)) (by decide)) | (exact absurd (hc.symm.trans (by assumption : _ = true)) (by decide))) | skip)) | refine loopK.x ?_)
    | (fail)
    | fail
  all_goals first | (exfalso; omega) | skip
  rw [← hstep] at o4 ⊢
  refine loopK.nn (m - 1) (by omega) (by repeat (first | refine Ag.upd rfl ?_ | exact Ag.hv)) ⟨_, ⟨k + 1, a4, c4, b4, ?_, by omega, o4, hc4, rfl⟩, fun w hw => hw⟩
  show Value.int .i64 _ = _; congr 1
end Go.Proofs.YtdiciemlbhkilaaGreatDoor
namespace Go.Proofs.YtdiciemlbhkilaaGreatDoor
open Go Go.Cx Go.RowKit
set_option linter.unusedVariables false
set_option linter.unusedSimpArgs false
set_option maxHeartbeats 4000000
attribute [local irreducible] J JC thenK blockK loopK roundK drawK retK QW Qt pel List.set Calls
open Go.Lib
theorem u8_48 {i : Nat} (h : i < 10) : (UInt8.ofNat (48 + i)).toNat = 48 + i := by
  rw [UInt8.toNat_ofNat', Nat.mod_eq_of_lt (by omega)]
theorem dec_byte : ∀ (u : Nat) (b : UInt8), b ∈ decDigits u → 48 ≤ b.toNat := fun u => by
  induction u using Nat.strongRecOn with
  | _ u ih =>
    intro b hb
    rw [decDigits] at hb
    by_cases h : u < 10
    · rw [dif_pos h, List.mem_singleton] at hb; rw [hb, u8_48 h]; omega
    · rw [dif_neg h, List.mem_append] at hb
      rcases hb with hb | hb
      · exact ih _ (by omega) b hb
      · rw [List.mem_singleton] at hb; rw [hb, u8_48 (by omega)]; omega
def valK (l : List UInt8) : Nat := l.foldl (fun a b => 10 * a + (b.toNat - 48)) 0
theorem val_dec : ∀ u : Nat, valK (decDigits u) = u := fun u => by
  induction u using Nat.strongRecOn with
  | _ u ih =>
    rw [decDigits]
    by_cases h : u < 10
    · rw [dif_pos h]; unfold valK; rw [List.foldl_cons, List.foldl_nil, u8_48 h]; omega
    · rw [dif_neg h]
      have := ih (u / 10) (by omega)
      unfold valK at this ⊢
      rw [List.foldl_append, List.foldl_cons, List.foldl_nil, this, u8_48 (by omega)]; omega
theorem itoa_byte (n : Int) (b : UInt8) (h : b ∈ itoa n) : b.toNat ≠ 32 := by
  unfold itoa at h
  split at h
  · rcases List.mem_cons.1 h with rfl | h
    · decide
    · have := dec_byte _ _ h; omega
  · have := dec_byte _ _ h; omega
theorem itoa_inj {a b : Int} (h : itoa a = itoa b) : a = b := by
  have hd : ∀ u, ∀ l, decDigits u ≠ 45 :: l := fun u l e => by
    have := dec_byte u 45 (by rw [e]; exact List.mem_cons_self)
    exact absurd this (by decide)
  unfold itoa at h
  by_cases ha : a < 0 <;> by_cases hb : b < 0
  · rw [if_pos ha, if_pos hb] at h
    have := congrArg valK (List.cons.inj h).2
    rw [val_dec, val_dec] at this; omega
  · rw [if_pos ha, if_neg hb] at h; exact absurd h.symm (hd _ _)
  · rw [if_neg ha, if_pos hb] at h; exact absurd h (hd _ _)
  · rw [if_neg ha, if_neg hb] at h
    have := congrArg valK h
    rw [val_dec, val_dec] at this; omega
theorem word_inj : ∀ (a b r s : List UInt8), (∀ x, x ∈ a → x.toNat ≠ 32) → (∀ x, x ∈ b → x.toNat ≠ 32) → a ++ 32 :: r = b ++ 32 :: s → a = b ∧ r = s
  | [], [], r, s, _, _, h => ⟨rfl, (List.cons.inj h).2⟩
  | [], y :: b, r, s, _, h2, h => absurd (congrArg UInt8.toNat (List.cons.inj h).1).symm (h2 y List.mem_cons_self)
  | x :: a, [], r, s, h1, _, h => absurd (congrArg UInt8.toNat (List.cons.inj h).1) (h1 x List.mem_cons_self)
  | x :: a, y :: b, r, s, h1, h2, h => by
    have h3 := List.cons.inj h
    have := word_inj a b r s (fun z hz => h1 z (List.mem_cons_of_mem _ hz)) (fun z hz => h2 z (List.mem_cons_of_mem _ hz)) h3.2
    exact ⟨by rw [h3.1, this.1], this.2⟩
theorem numS_inj {a b : Int} {r s : List UInt8} (h : numK a ++ r = numK b ++ s) : a = b ∧ r = s := by
  unfold numK at h
  rw [List.append_assoc, List.append_assoc] at h
  have := word_inj _ _ r s (itoa_byte a) (itoa_byte b) h
  exact ⟨itoa_inj this.1, this.2⟩
theorem nums_inj : ∀ (a b : List Int), a.flatMap numK = b.flatMap numK → a = b
  | [], [], _ => rfl
  | [], y :: b, h => by
    rw [List.flatMap_nil, List.flatMap_cons] at h
    unfold numK at h
    simp at h
  | x :: a, [], h => by
    rw [List.flatMap_nil, List.flatMap_cons] at h
    unfold numK at h
    simp at h
  | x :: a, y :: b, h => by
    rw [List.flatMap_cons, List.flatMap_cons] at h
    have h1 := numS_inj h
    rw [h1.1, nums_inj a b h1.2]
theorem keyS_inj {x y : PN} (h : keyS x = keyS y) : x = y := by
  obtain ⟨k, l, i⟩ := x
  obtain ⟨k', l', i'⟩ := y
  unfold keyS at h
  simp only [List.append_assoc] at h
  have h1 := numS_inj h
  have h2 := numS_inj h1.2
  rw [h1.1, h2.1, nums_inj _ _ h2.2]
def ekN (x : PN) : Value := .string (S (keyS x))
def evN (i : Nat) : Value := .int .i64 (i : Int)
theorem ekN_inj (x y : PN) (h : ekN x = ekN y) : x = y := by
  unfold ekN S at h
  simp only [Value.string.injEq, ByteArray.mk.injEq, Array.mk.injEq] at h
  exact keyS_inj h
theorem sk : Go.Maps.Keyed Tryz.prog 9 := Go.Maps.string_keyed Tryz.underlying9
theorem ekN_key (x : PN) (h1 : i64B x.1) (h2 : i64B x.2.1) (h3 : ∀ k, k ∈ x.2.2 → i64B k) (hl : x.2.2.length ≤ 1000000) : ∃ l, keyOf Tryz.prog 9 (ekN x) = some l := by
  have l1 := numS_len h1
  have l2 := numS_len h2
  have l3 := nums_len x.2.2 h3
  have : (S (keyS x)).size ≤ maxLen := by
    have hm : 30000000 ≤ maxLen := by decide +kernel
    refine Nat.le_trans ?_ hm
    show (keyS x).length ≤ 30000000
    unfold keyS
    rw [List.length_append, List.length_append]
    omega
  exact ⟨_, Go.WideMaps.keyOf_string_mk Tryz.underlying9 this⟩
def keysM : List PN → Nat → List (PN × Nat)
  | [], _ => []
  | x :: B, k => (x, k) :: keysM B (k + 1)
theorem keysM_keys : ∀ (B : List PN) (k : Nat), (keysM B k).map (·.1) = B
  | [], _ => rfl
  | x :: B, k => by show x :: _ = _; rw [keysM_keys B (k + 1)]
theorem keysM_snoc : ∀ (B : List PN) (x : PN) (k : Nat), keysM (B ++ [x]) k = keysM B k ++ [(x, k + B.length)]
  | [], x, k => rfl
  | y :: B, x, k => by
    show (y, k) :: keysM (B ++ [x]) (k + 1) = _
    rw [keysM_snoc B x (k + 1), List.length_cons, show k + 1 + B.length = k + (B.length + 1) by omega]; rfl
theorem mget_keys (x : PN) : ∀ (B : List PN) (k : Nat), mget (keysM B k) x = if x ∈ B then some (idxP B x k).toNat else none
  | [], k => rfl
  | y :: B, k => by
    have ih := mget_keys x B (k + 1)
    unfold mget at ih ⊢
    show Option.map _ (List.find? _ ((y, k) :: keysM B (k + 1))) = _
    rw [List.find?_cons]
    by_cases h : y = x
    · subst h
      rw [if_pos List.mem_cons_self]
      simp [idxP]
    · rw [show decide ((y, k).1 = x) = false from decide_eq_false h]
      show Option.map _ (List.find? _ (keysM B (k + 1))) = _
      rw [ih]
      by_cases h2 : x ∈ B
      · rw [if_pos h2, if_pos (List.mem_cons_of_mem _ h2)]
        rw [idxP, if_neg h]; rfl
      · rw [if_neg h2, if_neg (fun hm => (List.mem_cons.1 hm).elim (fun e => h e.symm) h2)]
theorem mput_keys2 (B : List PN) (x : PN) (h : x ∉ B) : mput (keysM B 0) x B.length = keysM (B ++ [x]) 0 := by
  unfold mput
  rw [keysM_keys, if_neg (by simpa using h), keysM_snoc, Nat.zero_add]
def kindsN (lc lw : List Nat) : Nat → List Oper → List Nat
  | _, [] => []
  | i, o :: l => (match o.op with | .nilCheck _ => 0 | op => kd lc lw i op) :: kindsN lc lw (i + 1) l
theorem JC.drawN {P : Program} {n : Nat} {w0 : World} {R : Heap} {K : Exit → Fr → List Heap → Prop} {f : Fr} {L : List Heap} {id : Nat} {l : List Oper} (lc lw : List Nat) (hm : P.follows .mixedOrders = true) (hB : drawB (kindsN lc lw 0 l) l.toArray = true)
    (h : J P n w0 R l (drawK K) (zipK (kindsN lc lw 0 l) l) f L) : JC P n w0 R (.region id l.toArray true) K f L := JC.draw _ hm hB h
structure BS (vs : List NV) (a : Option Addr) (cap : Nat) (bm : Nat) (ho hi hm : Heap) : Prop where
  ow : OwT encNV 3 82 a cap vs ho
  ins : ∀ v, v ∈ vs → SlT encI 1 v.a v.l hi
  mp : MapT Tryz.prog 9 ekN evN (keysM (vs.map pnV) 0) bm hm
def bO (n : Int) (a : Option Addr) (len cap bm : Nat) : Obj := .cells ⟨[.int .i64 n, .slice a len cap, .map (some bm)]⟩ 138 (0, 0)
def bL (n : Int) (b : Nat) (a : Option Addr) (vs : List NV) (cap bm : Nat) (ho hi hm : Heap) : List Heap := [[(b, bO n a vs.length cap bm)], ho, hi, hm]
structure OkV (v : NV) : Prop where
  k : 0 ≤ v.kind ∧ v.kind ≤ 4
  t : -128 ≤ v.lit ∧ v.lit ≤ 128
  n : v.l.length ≤ 1000000
  i : ∀ k, k ∈ v.l → 0 ≤ k ∧ k ≤ 1000000
theorem ePut : Entr Tryz.prog 82 := Entr.of Tryz.func82 rfl rfl
theorem idx_nat (B : List PN) (x : PN) (h : x ∈ B) : 0 ≤ idxP B x 0 ∧ idxP B x 0 < B.length := by
  have := idxP_bd x B 0 h; omega
theorem put_any (v : NV) (ov : OkV v) {w0 w : World} {R : Heap} {L : List Heap} {n : Int} {b cap bm : Nat} {a : Option Addr} {vs : List NV} {ho hi hm hv : Heap} (hT : Tab w0) (bs : BS vs a cap bm ho hi hm) (hs : SlT encI 1 v.a v.l hv) (hvl : vs.length < 65536) (hw : H w0 R (hv :: (bL n b a vs cap bm ho hi hm ++ L)) w) :
    Calls Tryz.prog 82 #[.pointer (some ⟨b, 0, none⟩), .agg ⟨encNV v⟩] w fun e w' => ∃ v' L', e = .returned v' ∧ H w0 R L' w' ∧ ∃ a' cap' ho' hi' hm' vs', v' = .tuple #[.int .i64 (putP (vs.map pnV) (pnV v)).1, .int .i64 0] ∧ L' = bL n b a' vs' cap' bm ho' hi' hm' ++ L ∧ BS vs' a' cap' bm ho' hi' hm' ∧ vs'.map pnV = (putP (vs.map pnV) (pnV v)).2 ∧ (vs' = vs ∨ vs' = vs ++ [v]) := by
  obtain ⟨ow, ins, mp⟩ := bs
  obtain ⟨⟨k0, k1⟩, ⟨t0, t1⟩, on, oi⟩ := ov
  have h1 : i64B v.kind := ⟨by omega, by omega⟩
  have h2 : i64B v.lit := ⟨by omega, by omega⟩
  have h3 : ∀ k, k ∈ v.l → i64B k := fun k hk => by have := oi k hk; exact ⟨by omega, by omega⟩
  have hkey := ekN_key (pnV v) h1 h2 h3 on
  unfold bL at hw ⊢
  simp only [List.cons_append, List.nil_append] at hw
  by_cases hx : pnV v ∈ vs.map pnV
  · have hget := mget_keys (pnV v) (vs.map pnV) 0
    rw [if_pos hx] at hget
    have hix := idx_nat _ _ hx
    have hp : putP (vs.map pnV) (pnV v) = (idxP (vs.map pnV) (pnV v) 0, vs.map pnV) := if_pos hx
    refine calls_in Tryz.func82 Tryz.ntmps82 rfl rfl (hw) ?_
    unfold bO
    repeat' first
      | (refine J.isJ ?_; first | (first | (refine J.fc 119 ?_; refine J.call0 eKey rfl rfl (fun w hw => key_any v hv hs on h1 h2 h3 w (hT.below hw.below) (hw.rdH RdH.hd.tl)) ?_) | (refine J.lk sk ekN_inj mp (by first | exact RdH.hd | exact RdH.hd.tl | exact RdH.hd.tl.tl | exact RdH.hd.tl.tl.tl | exact RdH.hd.tl.tl.tl.tl | exact RdH.hd.tl.tl.tl.tl.tl | exact RdH.hd.tl.tl.tl.tl.tl.tl | exact RdH.hd.tl.tl.tl.tl.tl.tl.tl | exact RdH.old (fun _ hh => hh) | assumption) hkey hΓ ?_; rw [hget])) | (first | (refine J.o 0 ?_; refine J.ev' hΓ ?_) | refine J.nil ?_ | (refine J.o 4 ?_; first | refine J.e0 hΓ ?_ | refine J.e1 hΓ ?_ | refine J.e2 hΓ ?_) | (refine J.o 3 ?_; first | refine J.ev' hΓ ?_) | (refine J.o 1 ?_; first | refine J.sb ?_) | (refine J.o 5 ?_; first | refine J.t0 hΓ ?_) | (refine J.o 6 ?_; refine J.bx (fun _ => ?_)) | (refine J.o 9 ?_; refine J.bl hΓ (fun _ => ?_)) | (refine J.o 10 ?_; refine J.ev' hΓ ?_) | (refine J.o 11 ?_; refine J.ev' hΓ ?_)))
      | (first | refine JC.seq ?_ | refine JC.region ?_ | refine JC.ret ?_ | refine JC.skip ?_ | refine thenK.nn ?_ | refine thenK.r ?_ | refine JC.condT rfl ?_ | refine JC.condF rfl ?_ | (refine JC.cond rfl (fun hc => ?_) (fun hc => ?_) <;> ((try simp only [decide_eq_true_eq, decide_eq_false_iff_not, beq_iff_eq, beq_eq_false_iff_ne, bne_iff_ne, bne_eq_false_iff_eq, Bool.not_eq_true', Bool.not_eq_false', Bool.not_eq_true, Bool.not_eq_false] at hc) <;> first | (first | (exact absurd rfl hc) | (exfalso; omega) | (exact absurd (hc.symm.trans (by assumption : _ = false)) (by decide)) | (exact absurd (hc.symm.trans (by assumption : _ = true)) (by decide))) | skip)) | refine drawK.nn ?_)
      | (fail)
      | fail
    all_goals first | (exfalso; omega) | skip
    refine ret2f rfl rfl rfl rfl rfl (fun w1 hw => ⟨_, _, rfl, H.sel (l := [_, _, _, _, _, _]) (M := L) hw [2, 3, 4, 5], ?_⟩)
    exact ⟨a, cap, ho, hi, hm, vs, by rw [hp]; congr 3; exact congrArg (Value.int .i64) (Int.toNat_of_nonneg hix.1), rfl, ⟨ow, ins, mp⟩, by rw [hp], .inl rfl⟩
  · have hget := mget_keys (pnV v) (vs.map pnV) 0
    rw [if_neg hx] at hget
    have hp : putP (vs.map pnV) (pnV v) = (((vs.map pnV).length : Int), vs.map pnV ++ [pnV v]) := if_neg hx
    have hms := mput_keys2 (vs.map pnV) (pnV v) hx
    rw [List.length_map] at hms
    have vq : Value.int .i64 (((vs.length + 1 : Nat) : Int) - 1) = evN vs.length := congrArg (Value.int .i64) (by omega)
    have hl2 : (vs ++ [v]).length = vs.length + 1 := by rw [List.length_append]; rfl
    refine calls_in Tryz.func82 Tryz.ntmps82 rfl rfl (hw) ?_
    unfold bO
    repeat' first
      | (refine J.isJ ?_; first | (first | (refine J.fc 119 ?_; refine J.call0 eKey rfl rfl (fun w hw => key_any v hv hs on h1 h2 h3 w (hT.below hw.below) (hw.rdH RdH.hd.tl)) ?_) | (refine J.o 9 ?_; refine J.lk sk ekN_inj mp (by first | exact RdH.hd | exact RdH.hd.tl | exact RdH.hd.tl.tl | exact RdH.hd.tl.tl.tl | exact RdH.hd.tl.tl.tl.tl | exact RdH.hd.tl.tl.tl.tl.tl | exact RdH.hd.tl.tl.tl.tl.tl.tl | exact RdH.hd.tl.tl.tl.tl.tl.tl.tl | exact RdH.old (fun _ hh => hh) | assumption) hkey hΓ ?_; rw [hget]) | ((refine J.o 9 ?_; first | (first | (refine J.ap1 (enc := encNV) [v] hΓ (fun a2 c2 h2 o2 => ?_)) | (refine J.perm (br1.cons _) ?_; refine J.ap1 (enc := encNV) [v] hΓ (fun a2 c2 h2 o2 => ?_)) | (refine J.perm (br2.cons _) ?_; refine J.ap1 (enc := encNV) [v] hΓ (fun a2 c2 h2 o2 => ?_)) | (refine J.perm (br3.cons _) ?_; refine J.ap1 (enc := encNV) [v] hΓ (fun a2 c2 h2 o2 => ?_)) | (refine J.perm (br4.cons _) ?_; refine J.ap1 (enc := encNV) [v] hΓ (fun a2 c2 h2 o2 => ?_)) | (refine J.perm (br5.cons _) ?_; refine J.ap1 (enc := encNV) [v] hΓ (fun a2 c2 h2 o2 => ?_))) | (refine J.perm br1 ?_; first | (refine J.ap1 (enc := encNV) [v] hΓ (fun a2 c2 h2 o2 => ?_)) | (refine J.perm (br1.cons _) ?_; refine J.ap1 (enc := encNV) [v] hΓ (fun a2 c2 h2 o2 => ?_)) | (refine J.perm (br2.cons _) ?_; refine J.ap1 (enc := encNV) [v] hΓ (fun a2 c2 h2 o2 => ?_)) | (refine J.perm (br3.cons _) ?_; refine J.ap1 (enc := encNV) [v] hΓ (fun a2 c2 h2 o2 => ?_)) | (refine J.perm (br4.cons _) ?_; refine J.ap1 (enc := encNV) [v] hΓ (fun a2 c2 h2 o2 => ?_)) | (refine J.perm (br5.cons _) ?_; refine J.ap1 (enc := encNV) [v] hΓ (fun a2 c2 h2 o2 => ?_))) | (refine J.perm br2 ?_; first | (refine J.ap1 (enc := encNV) [v] hΓ (fun a2 c2 h2 o2 => ?_)) | (refine J.perm (br1.cons _) ?_; refine J.ap1 (enc := encNV) [v] hΓ (fun a2 c2 h2 o2 => ?_)) | (refine J.perm (br2.cons _) ?_; refine J.ap1 (enc := encNV) [v] hΓ (fun a2 c2 h2 o2 => ?_)) | (refine J.perm (br3.cons _) ?_; refine J.ap1 (enc := encNV) [v] hΓ (fun a2 c2 h2 o2 => ?_)) | (refine J.perm (br4.cons _) ?_; refine J.ap1 (enc := encNV) [v] hΓ (fun a2 c2 h2 o2 => ?_)) | (refine J.perm (br5.cons _) ?_; refine J.ap1 (enc := encNV) [v] hΓ (fun a2 c2 h2 o2 => ?_)))); rw [hl2]) | (refine J.o 5 ?_; first | (refine J.perm br3 ?_; refine J.t0 hΓ ?_) | (refine J.perm br4 ?_; refine J.t0 hΓ ?_) | (refine J.perm br5 ?_; refine J.t0 hΓ ?_) | (refine J.perm br6 ?_; refine J.t0 hΓ ?_) | (refine J.perm br7 ?_; refine J.t0 hΓ ?_)) | (refine J.o 9 ?_; refine J.perm br5 ?_; refine J.mup (ev := evN) vs.length sk ekN_inj mp hkey hΓ (fun h3 mt3 => ?_) (hv := vq))) | (first | (refine J.o 0 ?_; refine J.ev' hΓ ?_) | refine J.nil ?_ | (refine J.o 4 ?_; first | refine J.e0 hΓ ?_ | refine J.e1 hΓ ?_ | refine J.e2 hΓ ?_) | (refine J.o 3 ?_; first | refine J.ev' hΓ ?_) | (refine J.o 1 ?_; first | refine J.sb ?_) | (refine J.o 5 ?_; first | refine J.t0 hΓ ?_) | (refine J.o 6 ?_; refine J.bx (fun _ => ?_)) | (refine J.o 9 ?_; refine J.bl hΓ (fun _ => ?_)) | (refine J.o 10 ?_; refine J.ev' hΓ ?_) | (refine J.o 11 ?_; refine J.ev' hΓ ?_)))
      | (first | refine JC.seq ?_ | refine JC.region ?_ | refine JC.ret ?_ | refine JC.skip ?_ | refine thenK.nn ?_ | refine thenK.r ?_ | refine JC.condT rfl ?_ | refine JC.condF rfl ?_ | (refine JC.cond rfl (fun hc => ?_) (fun hc => ?_) <;> ((try simp only [decide_eq_true_eq, decide_eq_false_iff_not, beq_iff_eq, beq_eq_false_iff_ne, bne_iff_ne, bne_eq_false_iff_eq, Bool.not_eq_true', Bool.not_eq_false', Bool.not_eq_true, Bool.not_eq_false] at hc) <;> first | (first | (exact absurd rfl hc) | (exfalso; omega) | (exact absurd (hc.symm.trans (by assumption : _ = false)) (by decide)) | (exact absurd (hc.symm.trans (by assumption : _ = true)) (by decide))) | skip)) | refine drawK.nn ?_)
      | ((refine JC.drawN [] [] (by kernel_rfl) (by kernel_rfl) ?_))
      | fail
    all_goals first | (exfalso; omega) | skip
    refine ret2f rfl rfl rfl rfl rfl (fun w1 hw => ⟨_, _, rfl, H.sel (l := [_, _, _, _]) (M := L) (H.sel (l := [_, _, _, _, _, _]) (M := L) hw [5, 4, 1, 2, 0]).mg1 [1, 2, 0, 3], ?_⟩)
    rw [hms] at mt3
    refine ⟨a2, c2, h2, hi ++ hv, h3, vs ++ [v], ?_, ?_, ⟨o2, fun x hx => ?_, ?_⟩, ?_, .inr rfl⟩
    · rw [hp, List.length_map]; exact congrArg (fun t => Value.tuple #[t, .int .i64 0]) vq
    · rw [hl2]; rfl
    · rcases List.mem_append.1 hx with hx | hx
      · exact (ins x hx).sub fun y hy => List.mem_append_left _ hy
      · rw [List.mem_singleton.1 hx]; exact hs.sub fun y hy => List.mem_append_right _ hy
    · rw [List.map_append]; exact mt3
    · rw [hp, List.map_append]; rfl
end Go.Proofs.YtdiciemlbhkilaaGreatDoor
namespace Go.Proofs.YtdiciemlbhkilaaGreatDoor
open Go Go.Cx Go.RowKit
set_option linter.unusedVariables false
set_option linter.unusedSimpArgs false
set_option maxHeartbeats 4000000
attribute [local irreducible] J JC thenK blockK loopK roundK drawK retK QW Qt pel List.set Calls
attribute [local irreducible] JE Br eK0 eK3 brK
def formedP (x : PN) (n bf : Int) : Bool := !(x.2.2.any (badI bf)) &&
  (if x.1 = 0 ∨ x.1 = 1 then decide (x.2.1 = 0) && decide (x.2.2.length = 0) else if x.1 = 2 then validB x.2.1 n && decide (x.2.2.length = 0) else if x.1 = 3 ∨ x.1 = 4 then decide (x.2.1 = 0) else false)
theorem eForm1 : Entr Tryz.prog 117 := Entr.of Tryz.func117 rfl rfl
theorem eForm : Entr Tryz.prog 81 := Entr.of Tryz.func81 rfl rfl
theorem form1_any (bf i : Int) (b : Nat) (w : World) (hw : Holds [(b, intO bf)] w) :
    Calls Tryz.prog 117 #[.int .i64 i, .pointer (some ⟨b, 0, none⟩)] w fun e w' => e = .returned (.bool (badI bf i)) ∧ Below w.heap.size w w' := by
  have rb : ∀ L, Rd [(b, intO bf)] L b (intO bf) := fun L => Rd.old List.mem_cons_self
  unfold intO at rb
  refine calls_of_JC (R := [(b, intO bf)]) Tryz.func117 Tryz.ntmps117 rfl rfl (hw) ?_
  repeat' first
    | (refine J.isJ ?_; first | (first | (refine J.o 4 ?_; refine J.lR hΓ ?_ (hr := rb _))) | (first | (refine J.o 0 ?_; refine J.ev' hΓ ?_) | refine J.nil ?_ | refine J.kd ?_ | (refine J.o 4 ?_; first | refine J.lR hΓ ?_) | (refine J.o 3 ?_; first | refine J.ev' hΓ ?_) | (refine J.o 10 ?_; refine J.ev' hΓ ?_) | (refine J.o 11 ?_; refine J.ev' hΓ ?_)) | ((fail_if_success refine J.wt ?_); refine J.gc rfl rfl (fun hc => ?_) (fun hc => ?_) <;> ((try simp only [decide_eq_true_eq, decide_eq_false_iff_not, beq_iff_eq, beq_eq_false_iff_ne, bne_iff_ne, bne_eq_false_iff_eq, Bool.not_eq_true', Bool.not_eq_false', Bool.not_eq_true, Bool.not_eq_false] at hc) <;> first | (first | (exact absurd rfl hc) | (exfalso; omega) | (exact absurd (hc.symm.trans (by assumption : _ = false)) (by decide)) | (exact absurd (hc.symm.trans (by assumption : _ = true)) (by decide))) | skip)))
    | (first | refine JC.seq ?_ | refine JC.region ?_ | refine JC.ret ?_ | refine thenK.nn ?_)
    | (fail)
    | fail
  all_goals first | (exfalso; omega) | skip
  all_goals (refine ret1f rfl rfl rfl (fun w1 hw => ⟨retB ?_, hw.below⟩))
  all_goals (clear hw; unfold badI; grind)
theorem formedN_any (v : NV) (h : Heap) (hs : SlT encI 1 v.a v.l h) (hl : v.l.length ≤ 1000000) (n bf : Int) (hn : 0 ≤ n ∧ n ≤ 128) (w : World) (hw : Holds h w) :
    Calls Tryz.prog 81 #[.agg ⟨encNV v⟩, .int .i64 n, .int .i64 bf] w fun e w' => e = .returned (.bool (formedP (pnV v) n bf)) ∧ Below w.heap.size w w' := by
  have q0 : ∀ L, RdH h L h := fun L => RdH.old fun _ hh => hh
  have cV := fun w => valid_any v.lit n hn w
  have hz : ((v.l.length : Int) == 0) = decide (v.l.length = 0) := by rw [Bool.eq_iff_iff]; simp
  have hF : formedP (pnV v) n bf = (!(v.l.any (badI bf)) &&
    (if v.kind = 0 ∨ v.kind = 1 then decide (v.lit = 0) && decide (v.l.length = 0) else if v.kind = 2 then validB v.lit n && decide (v.l.length = 0) else if v.kind = 3 ∨ v.kind = 4 then decide (v.lit = 0) else false)) := rfl
  refine calls_of_JC (R := h) Tryz.func81 Tryz.ntmps81 rfl rfl (hw) ?_
  repeat' first
    | (refine J.isJ ?_; first | (first | (refine J.o 14 ?_; refine J.mf hΓ ?_) | (refine J.fc 62 ?_; refine J.call0 eConF rfl rfl (fun w hw => conG_any eForm1 _ (badI bf) v.a v.c v.l h ((_, intO bf) :: h) hs (fun x hx => List.mem_cons_of_mem _ hx) hl (fun x hx w hw => form1_any bf x _ w (fun y hy => hw y (by rw [List.mem_singleton.1 hy]; exact List.mem_cons_self))) w (fun x hx => hw.rd (rdc Rd.hd (RdH.old fun _ hh => hh) x hx))) ?_) | (refine J.fc 118 ?_; refine J.call0 eValid rfl rfl (fun w hw => cV w) ?_)) | (first | (refine J.o 0 ?_; refine J.ev' hΓ ?_) | refine J.nil ?_ | refine J.kd ?_ | (refine J.o 4 ?_; first | refine J.e1 hΓ ?_) | (refine J.o 3 ?_; first | refine J.ev' hΓ ?_) | (refine J.o 6 ?_; refine J.bx (fun _ => ?_)) | (refine J.o 10 ?_; refine J.ev' hΓ ?_) | (refine J.o 11 ?_; refine J.ev' hΓ ?_)) | ((fail_if_success refine J.wt ?_); refine J.gc rfl rfl (fun hc => ?_) (fun hc => ?_) <;> ((try simp only [decide_eq_true_eq, decide_eq_false_iff_not, beq_iff_eq, beq_eq_false_iff_ne, bne_iff_ne, bne_eq_false_iff_eq, Bool.not_eq_true', Bool.not_eq_false', Bool.not_eq_true, Bool.not_eq_false] at hc) <;> first | (first | (exact absurd rfl hc) | (exfalso; omega) | (exact absurd (hc.symm.trans (by assumption : _ = false)) (by decide)) | (exact absurd (hc.symm.trans (by assumption : _ = true)) (by decide))) | skip)))
    | (first | refine JC.seq ?_ | refine JC.region ?_ | refine JC.block ?_ | refine JC.ret ?_ | refine JC.skip ?_ | refine thenK.nn ?_ | refine thenK.r ?_ | refine blockK.nn ?_ | refine blockK.r ?_ | (refine JC.cond rfl (fun hc => ?_) (fun hc => ?_) <;> ((try simp only [decide_eq_true_eq, decide_eq_false_iff_not, beq_iff_eq, beq_eq_false_iff_ne, bne_iff_ne, bne_eq_false_iff_eq, Bool.not_eq_true', Bool.not_eq_false', Bool.not_eq_true, Bool.not_eq_false] at hc) <;> first | (first | (exact absurd rfl hc) | (exfalso; omega) | (exact absurd (hc.symm.trans (by assumption : _ = false)) (by decide)) | (exact absurd (hc.symm.trans (by assumption : _ = true)) (by decide))) | skip)))
    | (fail)
    | fail
  all_goals first | (exfalso; omega) | skip
  all_goals (refine ret1f rfl rfl rfl (fun w1 hw => ⟨retB ?_, hw.below⟩))
  all_goals (rw [hF]; clear hw)
  all_goals (try rw [hz]); all_goals (generalize v.l.any (badI bf) = b1 at *; generalize validB v.lit n = b2 at *; cases b1 <;> cases b2 <;> grind)
end Go.Proofs.YtdiciemlbhkilaaGreatDoor
namespace Go.Proofs.YtdiciemlbhkilaaGreatDoor
open Go Go.Cx Go.RowKit
set_option linter.unusedVariables false
set_option linter.unusedSimpArgs false
set_option maxHeartbeats 4000000
attribute [local irreducible] J JC thenK blockK loopK roundK drawK retK QW Qt pel List.set Calls
attribute [local irreducible] JE Br eK0 eK3 brK
def formAll (n : Int) : List PN → Int → Bool
  | [], _ => true
  | x :: B, k => formedP x n k && formAll n B (k + 1)
def checkP (N : Int) (B : List PN) : Bool := decide (0 ≤ N ∧ N ≤ 128) && (decide (1 ≤ B.length ∧ B.length ≤ 65536) && formAll N B 0)
structure NetIn (a : Option Addr) (vs : List NV) (h : Heap) : Prop where
  so : SlT encNV 3 a vs h
  si : ∀ v, v ∈ vs → SlT encI 1 v.a v.l h
  sl : ∀ v, v ∈ vs → v.l.length ≤ 1000000
  hl : vs.length ≤ 1000000
theorem eCheckN : Entr Tryz.prog 60 := Entr.of Tryz.func60 rfl rfl
theorem getD_map (vs : List NV) (k : Nat) : (vs.map pnV).getD k default = pnV (vs.getD k default) := by
  rw [List.getD_eq_getElem?_getD, List.getD_eq_getElem?_getD, List.getElem?_map]
  cases vs[k]? with
  | none => rfl
  | some v => rfl
theorem form_drop (N : Int) (vs : List NV) (k : Nat) (hk : k < vs.length) : formAll N ((vs.drop k).map pnV) k = (formedP (pnV (vs.getD k default)) N k && formAll N ((vs.drop (k + 1)).map pnV) ((k + 1 : Nat) : Int)) := by
  rw [drop_g vs k hk]; rfl
set_option maxRecDepth 20000 in
theorem checkN_any (N : Int) (a : Option Addr) (cap : Nat) (vs : List NV) (h : Heap) (hr : NetIn a vs h) (w : World) (hw : Holds h w) :
    Calls Tryz.prog 60 #[.agg ⟨[.int .i64 N, .slice a vs.length cap]⟩] w fun e w' => e = .returned (.int .i64 (if checkP N (vs.map pnV) = true then 0 else 1)) ∧ Below w.heap.size w w' := by
  have q0 : ∀ L, RdH h L h := fun L => RdH.old fun _ hh => hh
  obtain ⟨so, si, sl, hl⟩ := hr
  have hC : checkP N (vs.map pnV) = (decide (0 ≤ N ∧ N ≤ 128) && (decide (1 ≤ vs.length ∧ vs.length ≤ 65536) && formAll N (vs.map pnV) 0)) := by unfold checkP; rw [List.length_map]
  by_cases hN : 0 ≤ N ∧ N ≤ 128
  case neg =>
    rw [decide_eq_false hN, Bool.false_and] at hC
    rw [hC]
    refine calls_of_JC (R := h) Tryz.func60 Tryz.ntmps60 rfl rfl (hw) ?_
    repeat' first
      | (refine J.isJ ?_; (first | (first | (refine J.o 0 ?_; refine J.ev' hΓ ?_) | refine J.nil ?_ | refine J.kd ?_ | (refine J.o 4 ?_; first | refine J.e0 hΓ ?_ | refine J.e1 hΓ ?_ | refine J.lT default hΓ ?_) | (refine J.o 3 ?_; first | refine J.iJ hΓ ?_ | refine J.ev' hΓ ?_) | (refine J.o 1 ?_; first | refine J.ad ?_) | (refine J.o 5 ?_; first | refine J.t0 hΓ ?_) | (refine J.o 6 ?_; refine J.bx (fun _ => ?_)) | (refine J.o 7 ?_; refine J.al hΓ (fun _ => ?_)) | (refine J.o 10 ?_; refine J.ev' hΓ ?_) | (refine J.o 11 ?_; refine J.ev' hΓ ?_)) | ((fail_if_success refine J.wt ?_); refine J.gc rfl rfl (fun hc => ?_) (fun hc => ?_) <;> ((try simp only [decide_eq_true_eq, decide_eq_false_iff_not, beq_iff_eq, beq_eq_false_iff_ne, bne_iff_ne, bne_eq_false_iff_eq, Bool.not_eq_true', Bool.not_eq_false', Bool.not_eq_true, Bool.not_eq_false] at hc) <;> first | (first | (exact absurd rfl hc) | (exfalso; omega) | (exact absurd (hc.symm.trans (by assumption : _ = false)) (by decide)) | (exact absurd (hc.symm.trans (by assumption : _ = true)) (by decide))) | skip))))
      | (first | refine JC.seq ?_ | refine JC.region ?_ | refine JC.block ?_ | refine JC.ret ?_ | refine JC.exit ?_ | refine JC.skip ?_ | refine thenK.nn ?_ | refine thenK.r ?_ | refine thenK.x ?_ | refine blockK.nn ?_ | refine blockK.r ?_ | refine blockK.hit rfl ?_ | refine JC.condT rfl ?_ | refine JC.condF rfl ?_ | (refine JC.cond rfl (fun hc => ?_) (fun hc => ?_) <;> ((try simp only [decide_eq_true_eq, decide_eq_false_iff_not, beq_iff_eq, beq_eq_false_iff_ne, bne_iff_ne, bne_eq_false_iff_eq, Bool.not_eq_true', Bool.not_eq_false', Bool.not_eq_true, Bool.not_eq_false] at hc) <;> first | (first | (exact absurd rfl hc) | (exfalso; omega) | (exact absurd (hc.symm.trans (by assumption : _ = false)) (by decide)) | (exact absurd (hc.symm.trans (by assumption : _ = true)) (by decide))) | skip)) | refine loopK.r ?_ | refine loopK.x ?_)
      | fail
    all_goals first | (exfalso; omega) | exact ret1f rfl rfl rfl (fun w1 hw => ⟨rfl, hw.below⟩)
  by_cases hM : 1 ≤ vs.length ∧ vs.length ≤ 65536
  case neg =>
    rw [decide_eq_false hM, Bool.false_and, Bool.and_false] at hC
    rw [hC]
    refine calls_of_JC (R := h) Tryz.func60 Tryz.ntmps60 rfl rfl (hw) ?_
    repeat' first
      | (refine J.isJ ?_; (first | (first | (refine J.o 0 ?_; refine J.ev' hΓ ?_) | refine J.nil ?_ | refine J.kd ?_ | (refine J.o 4 ?_; first | refine J.e0 hΓ ?_ | refine J.e1 hΓ ?_ | refine J.lT default hΓ ?_) | (refine J.o 3 ?_; first | refine J.iJ hΓ ?_ | refine J.ev' hΓ ?_) | (refine J.o 1 ?_; first | refine J.ad ?_) | (refine J.o 5 ?_; first | refine J.t0 hΓ ?_) | (refine J.o 6 ?_; refine J.bx (fun _ => ?_)) | (refine J.o 7 ?_; refine J.al hΓ (fun _ => ?_)) | (refine J.o 10 ?_; refine J.ev' hΓ ?_) | (refine J.o 11 ?_; refine J.ev' hΓ ?_)) | ((fail_if_success refine J.wt ?_); refine J.gc rfl rfl (fun hc => ?_) (fun hc => ?_) <;> ((try simp only [decide_eq_true_eq, decide_eq_false_iff_not, beq_iff_eq, beq_eq_false_iff_ne, bne_iff_ne, bne_eq_false_iff_eq, Bool.not_eq_true', Bool.not_eq_false', Bool.not_eq_true, Bool.not_eq_false] at hc) <;> first | (first | (exact absurd rfl hc) | (exfalso; omega) | (exact absurd (hc.symm.trans (by assumption : _ = false)) (by decide)) | (exact absurd (hc.symm.trans (by assumption : _ = true)) (by decide))) | skip))))
      | (first | refine JC.seq ?_ | refine JC.region ?_ | refine JC.block ?_ | refine JC.ret ?_ | refine JC.exit ?_ | refine JC.skip ?_ | refine thenK.nn ?_ | refine thenK.r ?_ | refine thenK.x ?_ | refine blockK.nn ?_ | refine blockK.r ?_ | refine blockK.hit rfl ?_ | refine JC.condT rfl ?_ | refine JC.condF rfl ?_ | (refine JC.cond rfl (fun hc => ?_) (fun hc => ?_) <;> ((try simp only [decide_eq_true_eq, decide_eq_false_iff_not, beq_iff_eq, beq_eq_false_iff_ne, bne_iff_ne, bne_eq_false_iff_eq, Bool.not_eq_true', Bool.not_eq_false', Bool.not_eq_true, Bool.not_eq_false] at hc) <;> first | (first | (exact absurd rfl hc) | (exfalso; omega) | (exact absurd (hc.symm.trans (by assumption : _ = false)) (by decide)) | (exact absurd (hc.symm.trans (by assumption : _ = true)) (by decide))) | skip)) | refine loopK.r ?_ | refine loopK.x ?_)
      | fail
    all_goals first | (exfalso; omega) | exact ret1f rfl rfl rfl (fun w1 hw => ⟨rfl, hw.below⟩)
  rw [decide_eq_true hN, decide_eq_true hM, Bool.true_and, Bool.true_and] at hC
  rw [hC]
  refine calls_of_JC (R := h) Tryz.func60 Tryz.ntmps60 rfl rfl (hw) ?_
  repeat' first
    | (refine J.isJ ?_; (first | (first | (refine J.o 0 ?_; refine J.ev' hΓ ?_) | refine J.nil ?_ | refine J.kd ?_ | (refine J.o 4 ?_; first | refine J.e0 hΓ ?_ | refine J.e1 hΓ ?_ | refine J.lT default hΓ ?_) | (refine J.o 3 ?_; first | refine J.iJ hΓ ?_ | refine J.ev' hΓ ?_) | (refine J.o 1 ?_; first | refine J.ad ?_) | (refine J.o 5 ?_; first | refine J.t0 hΓ ?_) | (refine J.o 6 ?_; refine J.bx (fun _ => ?_)) | (refine J.o 7 ?_; refine J.al hΓ (fun _ => ?_)) | (refine J.o 10 ?_; refine J.ev' hΓ ?_) | (refine J.o 11 ?_; refine J.ev' hΓ ?_)) | ((fail_if_success refine J.wt ?_); refine J.gc rfl rfl (fun hc => ?_) (fun hc => ?_) <;> ((try simp only [decide_eq_true_eq, decide_eq_false_iff_not, beq_iff_eq, beq_eq_false_iff_ne, bne_iff_ne, bne_eq_false_iff_eq, Bool.not_eq_true', Bool.not_eq_false', Bool.not_eq_true, Bool.not_eq_false] at hc) <;> first | (first | (exact absurd rfl hc) | (exfalso; omega) | (exact absurd (hc.symm.trans (by assumption : _ = false)) (by decide)) | (exact absurd (hc.symm.trans (by assumption : _ = true)) (by decide))) | skip))))
    | (first | refine JC.seq ?_ | refine JC.region ?_ | refine JC.block ?_ | refine JC.ret ?_ | refine JC.exit ?_ | refine JC.skip ?_ | refine thenK.nn ?_ | refine thenK.r ?_ | refine thenK.x ?_ | refine blockK.nn ?_ | refine blockK.r ?_ | refine blockK.hit rfl ?_ | refine JC.condT rfl ?_ | refine JC.condF rfl ?_ | (refine JC.cond rfl (fun hc => ?_) (fun hc => ?_) <;> ((try simp only [decide_eq_true_eq, decide_eq_false_iff_not, beq_iff_eq, beq_eq_false_iff_ne, bne_iff_ne, bne_eq_false_iff_eq, Bool.not_eq_true', Bool.not_eq_false', Bool.not_eq_true, Bool.not_eq_false] at hc) <;> first | (first | (exact absurd rfl hc) | (exfalso; omega) | (exact absurd (hc.symm.trans (by assumption : _ = false)) (by decide)) | (exact absurd (hc.symm.trans (by assumption : _ = true)) (by decide))) | skip)) | refine loopK.r ?_ | refine loopK.x ?_)
    | fail
  all_goals first | (exfalso; omega) | skip
  rename_i b1 _ _ _
  refine JC.gen [(1, .pointer (some ⟨b1, 0, none⟩)), (26, .slice a vs.length cap), (27, .int .i64 vs.length), (28, .int .i64 0)] ⟨rfl, rfl, rfl, rfl, trivial⟩ (fun F => ?_)
  refine JC.loopG (fun i => i == 2 || i == 3 || i == 4 || Nat.ble 28 i) (fun m g L => ∃ (k : Nat), g 28 = .int .i64 (k : Int) ∧ k + m = vs.length ∧ formAll N (vs.map pnV) 0 = formAll N ((vs.drop k).map pnV) k ∧ L = [[(b1, .cells ⟨[.int .i64 N, .slice a vs.length cap]⟩ 31 (0, 0))]]) vs.length ⟨0, rfl, by omega, rfl, rfl⟩ ?_
  rintro m g L ⟨k, e28, hkm, hi, rfl⟩
  refine JC.pin 28 e28 ?_
  clear e28
  rcases Nat.lt_or_ge k vs.length with hk | hk
  case inr =>
    rw [List.drop_eq_nil_of_le hk] at hi
    repeat' first
      | (refine J.isJ ?_; (first | (first | (refine J.o 0 ?_; refine J.ev' hΓ ?_) | refine J.nil ?_ | refine J.kd ?_ | (refine J.o 4 ?_; first | refine J.e0 hΓ ?_ | refine J.e1 hΓ ?_ | refine J.lT default hΓ ?_) | (refine J.o 3 ?_; first | refine J.iJ hΓ ?_ | refine J.ev' hΓ ?_) | (refine J.o 1 ?_; first | refine J.ad ?_) | (refine J.o 5 ?_; first | refine J.t0 hΓ ?_) | (refine J.o 6 ?_; refine J.bx (fun _ => ?_)) | (refine J.o 7 ?_; refine J.al hΓ (fun _ => ?_)) | (refine J.o 10 ?_; refine J.ev' hΓ ?_) | (refine J.o 11 ?_; refine J.ev' hΓ ?_)) | ((fail_if_success refine J.wt ?_); refine J.gc rfl rfl (fun hc => ?_) (fun hc => ?_) <;> ((try simp only [decide_eq_true_eq, decide_eq_false_iff_not, beq_iff_eq, beq_eq_false_iff_ne, bne_iff_ne, bne_eq_false_iff_eq, Bool.not_eq_true', Bool.not_eq_false', Bool.not_eq_true, Bool.not_eq_false] at hc) <;> first | (first | (exact absurd rfl hc) | (exfalso; omega) | (exact absurd (hc.symm.trans (by assumption : _ = false)) (by decide)) | (exact absurd (hc.symm.trans (by assumption : _ = true)) (by decide))) | skip))))
      | (first | refine JC.seq ?_ | refine JC.region ?_ | refine JC.block ?_ | refine JC.ret ?_ | refine JC.exit ?_ | refine JC.skip ?_ | refine thenK.nn ?_ | refine thenK.r ?_ | refine thenK.x ?_ | refine blockK.nn ?_ | refine blockK.r ?_ | refine blockK.hit rfl ?_ | refine JC.condT rfl ?_ | refine JC.condF rfl ?_ | (refine JC.cond rfl (fun hc => ?_) (fun hc => ?_) <;> ((try simp only [decide_eq_true_eq, decide_eq_false_iff_not, beq_iff_eq, beq_eq_false_iff_ne, bne_iff_ne, bne_eq_false_iff_eq, Bool.not_eq_true', Bool.not_eq_false', Bool.not_eq_true, Bool.not_eq_false] at hc) <;> first | (first | (exact absurd rfl hc) | (exfalso; omega) | (exact absurd (hc.symm.trans (by assumption : _ = false)) (by decide)) | (exact absurd (hc.symm.trans (by assumption : _ = true)) (by decide))) | skip)) | refine loopK.r ?_ | refine loopK.x ?_)
      | fail
    all_goals first | (exfalso; omega) | exact ret1f rfl rfl rfl (fun w1 hw => ⟨by rw [hi]; rfl, hw.below⟩)
  have hmm := mem_g vs k hk
  have cF := fun w hw => formedN_any (vs.getD k default) h (si _ hmm) (sl _ hmm) N k hN w hw
  rw [form_drop N vs k hk] at hi
  cases hb : formedP (pnV (vs.getD k default)) N k with
  | false =>
    rw [hb] at cF hi
    repeat' first
      | (refine J.isJ ?_; first | (first | (refine J.o 4 ?_; refine J.lT default hΓ ?_ (hs := so) (hr := q0 _)) | (refine J.fc 81 ?_; refine J.call0 eForm rfl rfl (fun w hw => cF w (hw.rdH (q0 _))) ?_)) | (first | (refine J.o 0 ?_; refine J.ev' hΓ ?_) | refine J.nil ?_ | refine J.kd ?_ | (refine J.o 4 ?_; first | refine J.e0 hΓ ?_ | refine J.e1 hΓ ?_ | refine J.lT default hΓ ?_) | (refine J.o 3 ?_; first | refine J.iJ hΓ ?_ | refine J.ev' hΓ ?_) | (refine J.o 1 ?_; first | refine J.ad ?_) | (refine J.o 5 ?_; first | refine J.t0 hΓ ?_) | (refine J.o 6 ?_; refine J.bx (fun _ => ?_)) | (refine J.o 7 ?_; refine J.al hΓ (fun _ => ?_)) | (refine J.o 10 ?_; refine J.ev' hΓ ?_) | (refine J.o 11 ?_; refine J.ev' hΓ ?_)) | ((fail_if_success refine J.wt ?_); refine J.gc rfl rfl (fun hc => ?_) (fun hc => ?_) <;> ((try simp only [decide_eq_true_eq, decide_eq_false_iff_not, beq_iff_eq, beq_eq_false_iff_ne, bne_iff_ne, bne_eq_false_iff_eq, Bool.not_eq_true', Bool.not_eq_false', Bool.not_eq_true, Bool.not_eq_false] at hc) <;> first | (first | (exact absurd rfl hc) | (exfalso; omega) | (exact absurd (hc.symm.trans (by assumption : _ = false)) (by decide)) | (exact absurd (hc.symm.trans (by assumption : _ = true)) (by decide))) | skip)))
      | (first | refine JC.seq ?_ | refine JC.region ?_ | refine JC.block ?_ | refine JC.ret ?_ | refine JC.exit ?_ | refine JC.skip ?_ | refine thenK.nn ?_ | refine thenK.r ?_ | refine thenK.x ?_ | refine blockK.nn ?_ | refine blockK.r ?_ | refine blockK.hit rfl ?_ | refine JC.condT rfl ?_ | refine JC.condF rfl ?_ | (refine JC.cond rfl (fun hc => ?_) (fun hc => ?_) <;> ((try simp only [decide_eq_true_eq, decide_eq_false_iff_not, beq_iff_eq, beq_eq_false_iff_ne, bne_iff_ne, bne_eq_false_iff_eq, Bool.not_eq_true', Bool.not_eq_false', Bool.not_eq_true, Bool.not_eq_false] at hc) <;> first | (first | (exact absurd rfl hc) | (exfalso; omega) | (exact absurd (hc.symm.trans (by assumption : _ = false)) (by decide)) | (exact absurd (hc.symm.trans (by assumption : _ = true)) (by decide))) | skip)) | refine loopK.r ?_ | refine loopK.x ?_)
      | (fail)
      | fail
    all_goals first | (exfalso; omega) | exact ret1f rfl rfl rfl (fun w1 hw => ⟨by rw [hi]; rfl, hw.below⟩)
  | true =>
    rw [hb] at cF hi
    repeat' first
      | (refine J.isJ ?_; first | (first | (refine J.o 4 ?_; refine J.lT default hΓ ?_ (hs := so) (hr := q0 _)) | (refine J.fc 81 ?_; refine J.call0 eForm rfl rfl (fun w hw => cF w (hw.rdH (q0 _))) ?_)) | (first | (refine J.o 0 ?_; refine J.ev' hΓ ?_) | refine J.nil ?_ | refine J.kd ?_ | (refine J.o 4 ?_; first | refine J.e0 hΓ ?_ | refine J.e1 hΓ ?_ | refine J.lT default hΓ ?_) | (refine J.o 3 ?_; first | refine J.iJ hΓ ?_ | refine J.ev' hΓ ?_) | (refine J.o 1 ?_; first | refine J.ad ?_) | (refine J.o 5 ?_; first | refine J.t0 hΓ ?_) | (refine J.o 6 ?_; refine J.bx (fun _ => ?_)) | (refine J.o 7 ?_; refine J.al hΓ (fun _ => ?_)) | (refine J.o 10 ?_; refine J.ev' hΓ ?_) | (refine J.o 11 ?_; refine J.ev' hΓ ?_)) | ((fail_if_success refine J.wt ?_); refine J.gc rfl rfl (fun hc => ?_) (fun hc => ?_) <;> ((try simp only [decide_eq_true_eq, decide_eq_false_iff_not, beq_iff_eq, beq_eq_false_iff_ne, bne_iff_ne, bne_eq_false_iff_eq, Bool.not_eq_true', Bool.not_eq_false', Bool.not_eq_true, Bool.not_eq_false] at hc) <;> first | (first | (exact absurd rfl hc) | (exfalso; omega) | (exact absurd (hc.symm.trans (by assumption : _ = false)) (by decide)) | (exact absurd (hc.symm.trans (by assumption : _ = true)) (by decide))) | skip)))
      | (first | refine JC.seq ?_ | refine JC.region ?_ | refine JC.block ?_ | refine JC.ret ?_ | refine JC.exit ?_ | refine JC.skip ?_ | refine thenK.nn ?_ | refine thenK.r ?_ | refine thenK.x ?_ | refine blockK.nn ?_ | refine blockK.r ?_ | refine blockK.hit rfl ?_ | refine JC.condT rfl ?_ | refine JC.condF rfl ?_ | (refine JC.cond rfl (fun hc => ?_) (fun hc => ?_) <;> ((try simp only [decide_eq_true_eq, decide_eq_false_iff_not, beq_iff_eq, beq_eq_false_iff_ne, bne_iff_ne, bne_eq_false_iff_eq, Bool.not_eq_true', Bool.not_eq_false', Bool.not_eq_true, Bool.not_eq_false] at hc) <;> first | (first | (exact absurd rfl hc) | (exfalso; omega) | (exact absurd (hc.symm.trans (by assumption : _ = false)) (by decide)) | (exact absurd (hc.symm.trans (by assumption : _ = true)) (by decide))) | skip)) | refine loopK.r ?_ | refine loopK.x ?_)
      | (fail)
      | fail
    all_goals first | (exfalso; omega) | skip
    all_goals refine loopK.nn (m - 1) (by omega) (by repeat (first | refine Ag.upd rfl ?_ | exact Ag.hv)) ⟨[[(b1, .cells ⟨[.int .i64 N, .slice a vs.length cap]⟩ 31 (0, 0))]], ⟨k + 1, ?_, by omega, hi, rfl⟩, fun w hw => H.sel (l := [_, _]) (M := []) hw [1]⟩
    all_goals (show Value.int .i64 _ = _; congr 1)
theorem eNew : Entr Tryz.prog 37 := Entr.of Tryz.func37 rfl rfl
theorem new_any (N : Int) (hN : 0 ≤ N ∧ N ≤ 128) {w0 w : World} {R : Heap} {L : List Heap} (hw : H w0 R L w) :
    Calls Tryz.prog 37 #[.int .i64 N] w fun e w' => ∃ v' L', e = .returned v' ∧ H w0 R L' w' ∧ ∃ b bm, v' = .tuple #[.pointer (some ⟨b, 0, none⟩), .int .i64 0] ∧ L' = bL N b none [] 0 bm [] [] [(bm, .map ⟨[]⟩ 0)] ++ L ∧ BS [] none 0 bm [] [] [(bm, .map ⟨[]⟩ 0)] := by
  refine calls_in Tryz.func37 Tryz.ntmps37 rfl rfl (hw) ?_
  repeat' first
    | (refine J.isJ ?_; first | ((refine J.o 9 ?_; refine J.mkm (fun bm => ?_))) | (first | (refine J.o 0 ?_; refine J.ev' hΓ ?_) | refine J.nil ?_ | (refine J.o 3 ?_; first | refine J.ev' hΓ ?_) | (refine J.o 6 ?_; refine J.bx (fun _ => ?_)) | (refine J.o 8 ?_; refine J.bd hΓ ?_) | (refine J.o 10 ?_; refine J.ev' hΓ ?_) | (refine J.o 11 ?_; refine J.ev' hΓ ?_)) | ((fail_if_success refine J.wt ?_); refine J.gc rfl rfl (fun hc => ?_) (fun hc => ?_) <;> ((try simp only [decide_eq_true_eq, decide_eq_false_iff_not, beq_iff_eq, beq_eq_false_iff_ne, bne_iff_ne, bne_eq_false_iff_eq, Bool.not_eq_true', Bool.not_eq_false', Bool.not_eq_true, Bool.not_eq_false] at hc) <;> first | (first | (exact absurd rfl hc) | (exfalso; omega) | (exact absurd (hc.symm.trans (by assumption : _ = false)) (by decide)) | (exact absurd (hc.symm.trans (by assumption : _ = true)) (by decide))) | skip)))
    | (first | refine JC.seq ?_ | refine JC.region ?_ | refine JC.ret ?_ | refine JC.skip ?_ | refine thenK.nn ?_ | (refine JC.cond rfl (fun hc => ?_) (fun hc => ?_) <;> ((try simp only [decide_eq_true_eq, decide_eq_false_iff_not, beq_iff_eq, beq_eq_false_iff_ne, bne_iff_ne, bne_eq_false_iff_eq, Bool.not_eq_true', Bool.not_eq_false', Bool.not_eq_true, Bool.not_eq_false] at hc) <;> first | (first | (exact absurd rfl hc) | (exfalso; omega) | (exact absurd (hc.symm.trans (by assumption : _ = false)) (by decide)) | (exact absurd (hc.symm.trans (by assumption : _ = true)) (by decide))) | skip)))
    | (fail)
    | fail
  all_goals first | (exfalso; omega) | skip
  exact ret2f rfl rfl rfl rfl rfl (fun w1 hw => ⟨_, _, rfl, H.sel (l := [_, _, _, _]) (M := L) hw.nilF.nilF [2, 0, 1, 3], _, bm, rfl, rfl, ⟨OwT.nil (fun _ => rfl), (fun v hv => absurd hv List.not_mem_nil), MapT.nil bm⟩⟩)
end Go.Proofs.YtdiciemlbhkilaaGreatDoor
namespace Go.Proofs.YtdiciemlbhkilaaGreatDoor
open Go Go.Cx Go.RowKit
set_option linter.unusedVariables false
set_option linter.unusedSimpArgs false
set_option maxHeartbeats 4000000
attribute [local irreducible] J JC thenK blockK loopK roundK drawK retK QW Qt pel List.set Calls
attribute [local irreducible] JE Br eK0 eK3 brK
open Go.Maps in
theorem keyedI : Keyed Tryz.prog 3 := int_keyed Tryz.underlying3
def evB (b : Bool) : Value := .bool b
def ekI (x : Int) : Value := .int .i64 x
theorem ekI_inj (x y : Int) (h : ekI x = ekI y) : x = y := by simpa [ekI] using h
theorem keyI (x : Int) (h : -9223372036854775808 ≤ x ∧ x ≤ 9223372036854775807) : ∃ l, keyOf Tryz.prog 3 (ekI x) = some l := ⟨_, Go.Maps.keyOf_int_mk (q := .i64) (a := x) Tryz.underlying3 (by
  show (decide ((-9223372036854775808 : Int) ≤ x) && decide (x ≤ (9223372036854775807 : Int))) = true
  simp [h])⟩
theorem mget_mput {κ β : Type} [DecidableEq κ] (m : List (κ × β)) (x z : κ) (y : β) : mget (mput m x y) z = if z = x then some y else mget m z := by
  unfold mput
  by_cases hc : (m.map (·.1)).contains x = true
  · rw [if_pos hc]
    have hf : ∀ l : List (κ × β), (l.map (fun p => if p.1 = x then (x, y) else p)).find? (fun p => decide (p.1 = z)) = (l.find? (fun p => decide (p.1 = z))).map (fun p => if p.1 = x then (x, y) else p) := by
      intro l
      induction l with
      | nil => rfl
      | cons q l ih =>
        rw [List.map_cons, List.find?_cons, List.find?_cons]
        have hk : (if q.1 = x then (x, y) else q).1 = q.1 := by split <;> simp_all
        rw [hk]
        by_cases hq : q.1 = z
        · rw [decide_eq_true hq]; rfl
        · rw [decide_eq_false hq]; exact ih
    unfold mget
    rw [hf]
    by_cases hz : z = x
    · subst hz
      rw [if_pos rfl]
      have hm : z ∈ m.map (·.1) := by simpa using hc
      obtain ⟨q, hq, hq1⟩ := List.mem_map.1 hm
      cases hfd : m.find? (fun p => decide (p.1 = z)) with
      | none =>
        have := List.find?_eq_none.1 hfd q hq
        simp [hq1] at this
      | some q' =>
        have := List.find?_some hfd
        simp only [decide_eq_true_eq] at this
        simp [this]
    · rw [if_neg hz]
      cases hfd : m.find? (fun p => decide (p.1 = z)) with
      | none => rfl
      | some q' =>
        have := List.find?_some hfd
        simp only [decide_eq_true_eq] at this
        simp [this, hz]
  · rw [if_neg hc]
    unfold mget
    rw [List.find?_append]
    by_cases hz : z = x
    · subst hz
      rw [if_pos rfl]
      have hn : m.find? (fun p => decide (p.1 = z)) = none := by
        rw [List.find?_eq_none]
        intro p hp he
        simp only [decide_eq_true_eq] at he
        exact hc (by simp only [List.contains_eq_mem, decide_eq_true_eq]; exact he ▸ List.mem_map_of_mem hp)
      rw [hn]
      simp
    · rw [if_neg hz]
      have : [(x, y)].find? (fun p : κ × β => decide (p.1 = z)) = none := by
        rw [List.find?_eq_none]
        intro p hp
        rw [List.mem_singleton.1 hp]
        simp [Ne.symm hz]
      rw [this, Option.or_none]
theorem eIndex : Entr Tryz.prog 140 := Entr.of Tryz.func140 rfl rfl
theorem eContains : Entr Tryz.prog 121 := Entr.of Tryz.func121 rfl rfl
def idxR : List Int → Int → Int → Int
  | [], _, _ => -1
  | y :: l, x, k => if x = y then k else idxR l x (k + 1)
theorem idxR_nn (x : Int) : ∀ (l : List Int) (k : Int), 0 ≤ k → (0 ≤ idxR l x k ↔ x ∈ l)
  | [], k, hk => by simp [idxR]
  | y :: l, k, hk => by
    unfold idxR
    by_cases h : x = y
    · rw [if_pos h]; simp [h, hk]
    · rw [if_neg h, idxR_nn x l (k + 1) (by omega)]; simp [h]
theorem index_any (a : Option Addr) (cap : Nat) (l : List Int) (x : Int) (h : Heap) (hs : SlT encI 1 a l h) (hl : l.length ≤ 10000000000000) (w : World) (hw : Holds h w) :
    Calls Tryz.prog 140 #[.slice a l.length cap, .int .i64 x] w fun e w' => e = .returned (.int .i64 (idxR l x 0)) ∧ Below w.heap.size w w' := by
  refine calls_of_JC (R := h) Tryz.func140 Tryz.ntmps140 rfl rfl (hw) ?_
  repeat' first
    | (refine J.isJ ?_; (first | (first | (refine J.o 0 ?_; refine J.ev' hΓ ?_) | refine J.nil ?_ | (refine J.o 4 ?_; first | refine J.lT default hΓ ?_) | (refine J.o 3 ?_; first | refine J.iJ hΓ ?_ | refine J.ev' hΓ ?_) | (refine J.o 1 ?_; first | refine J.ad ?_) | (refine J.o 10 ?_; refine J.ev' hΓ ?_) | (refine J.o 11 ?_; refine J.ev' hΓ ?_))))
    | (first | refine JC.seq ?_ | refine JC.region ?_ | refine JC.block ?_ | refine JC.ret ?_ | refine JC.exit ?_ | refine JC.skip ?_ | refine thenK.nn ?_ | refine thenK.r ?_ | refine thenK.x ?_ | refine blockK.nn ?_ | refine blockK.r ?_ | refine blockK.hit rfl ?_ | (refine JC.cond rfl (fun hc => ?_) (fun hc => ?_) <;> ((try simp only [decide_eq_true_eq, decide_eq_false_iff_not, beq_iff_eq, beq_eq_false_iff_ne, bne_iff_ne, bne_eq_false_iff_eq, Bool.not_eq_true', Bool.not_eq_false', Bool.not_eq_true, Bool.not_eq_false] at hc) <;> first | (first | (exact absurd rfl hc) | (exfalso; omega) | (exact absurd (hc.symm.trans (by assumption : _ = false)) (by decide)) | (exact absurd (hc.symm.trans (by assumption : _ = true)) (by decide))) | skip)) | refine loopK.r ?_ | refine loopK.x ?_)
    | fail
  all_goals first | (exfalso; omega) | skip
  refine JC.loop (fun i => Nat.ble 4 i) (fun m g L => ∃ (k : Nat), g 6 = .slice a l.length cap ∧ g 7 = .int .i64 (l.length : Int) ∧ g 8 = .int .i64 (k : Int) ∧ k + m = l.length ∧ idxR (l.drop k) x k = idxR l x 0 ∧ L = _) l.length ⟨0, rfl, rfl, rfl, by omega, rfl, rfl⟩ ?_
  rintro m g L ⟨k, e6, e7, e8, hkm, hany, rfl⟩
  refine JC.pin 6 e6 (JC.pin 7 e7 (JC.pin 8 e8 ?_))
  clear e6 e7 e8
  rcases Nat.lt_or_ge k l.length with hk | hk
  · rw [drop_g l k hk, idxR] at hany
    by_cases hx : x = l.getD k default
    · rw [if_pos hx] at hany
      repeat' first
        | (refine J.isJ ?_; (first | (first | (refine J.o 0 ?_; refine J.ev' hΓ ?_) | refine J.nil ?_ | (refine J.o 4 ?_; first | refine J.lT default hΓ ?_) | (refine J.o 3 ?_; first | refine J.iJ hΓ ?_ | refine J.ev' hΓ ?_) | (refine J.o 1 ?_; first | refine J.ad ?_) | (refine J.o 10 ?_; refine J.ev' hΓ ?_) | (refine J.o 11 ?_; refine J.ev' hΓ ?_))))
        | (first | refine JC.seq ?_ | refine JC.region ?_ | refine JC.block ?_ | refine JC.ret ?_ | refine JC.exit ?_ | refine JC.skip ?_ | refine thenK.nn ?_ | refine thenK.r ?_ | refine thenK.x ?_ | refine blockK.nn ?_ | refine blockK.r ?_ | refine blockK.hit rfl ?_ | (refine JC.cond rfl (fun hc => ?_) (fun hc => ?_) <;> ((try simp only [decide_eq_true_eq, decide_eq_false_iff_not, beq_iff_eq, beq_eq_false_iff_ne, bne_iff_ne, bne_eq_false_iff_eq, Bool.not_eq_true', Bool.not_eq_false', Bool.not_eq_true, Bool.not_eq_false] at hc) <;> first | (first | (exact absurd rfl hc) | (exfalso; omega) | (exact absurd (hc.symm.trans (by assumption : _ = false)) (by decide)) | (exact absurd (hc.symm.trans (by assumption : _ = true)) (by decide))) | skip)) | refine loopK.r ?_ | refine loopK.x ?_)
        | fail
      all_goals first | (exfalso; omega) | exact ret1f rfl rfl rfl (fun w1 hw => ⟨by rw [← hany], hw.below⟩)
    · rw [if_neg hx] at hany
      repeat' first
        | (refine J.isJ ?_; (first | (first | (refine J.o 0 ?_; refine J.ev' hΓ ?_) | refine J.nil ?_ | (refine J.o 4 ?_; first | refine J.lT default hΓ ?_) | (refine J.o 3 ?_; first | refine J.iJ hΓ ?_ | refine J.ev' hΓ ?_) | (refine J.o 1 ?_; first | refine J.ad ?_) | (refine J.o 10 ?_; refine J.ev' hΓ ?_) | (refine J.o 11 ?_; refine J.ev' hΓ ?_))))
        | (first | refine JC.seq ?_ | refine JC.region ?_ | refine JC.block ?_ | refine JC.ret ?_ | refine JC.exit ?_ | refine JC.skip ?_ | refine thenK.nn ?_ | refine thenK.r ?_ | refine thenK.x ?_ | refine blockK.nn ?_ | refine blockK.r ?_ | refine blockK.hit rfl ?_ | (refine JC.cond rfl (fun hc => ?_) (fun hc => ?_) <;> ((try simp only [decide_eq_true_eq, decide_eq_false_iff_not, beq_iff_eq, beq_eq_false_iff_ne, bne_iff_ne, bne_eq_false_iff_eq, Bool.not_eq_true', Bool.not_eq_false', Bool.not_eq_true, Bool.not_eq_false] at hc) <;> first | (first | (exact absurd rfl hc) | (exfalso; omega) | (exact absurd (hc.symm.trans (by assumption : _ = false)) (by decide)) | (exact absurd (hc.symm.trans (by assumption : _ = true)) (by decide))) | skip)) | refine loopK.r ?_ | refine loopK.x ?_)
        | fail
      all_goals first | (exfalso; omega) | skip
      all_goals refine loopK.nn (m - 1) (by omega) (by repeat (first | refine Ag.upd rfl ?_ | exact Ag.hv)) ⟨k + 1, rfl, rfl, ?_, by omega, by rw [← hany]; congr 1, rfl⟩
      all_goals (show Value.int .i64 _ = _; congr 1)
  rw [List.drop_eq_nil_of_le hk, idxR] at hany
  repeat' first
    | (refine J.isJ ?_; (first | (first | (refine J.o 0 ?_; refine J.ev' hΓ ?_) | refine J.nil ?_ | (refine J.o 4 ?_; first | refine J.lT default hΓ ?_) | (refine J.o 3 ?_; first | refine J.iJ hΓ ?_ | refine J.ev' hΓ ?_) | (refine J.o 1 ?_; first | refine J.ad ?_) | (refine J.o 10 ?_; refine J.ev' hΓ ?_) | (refine J.o 11 ?_; refine J.ev' hΓ ?_))))
    | (first | refine JC.seq ?_ | refine JC.region ?_ | refine JC.block ?_ | refine JC.ret ?_ | refine JC.exit ?_ | refine JC.skip ?_ | refine thenK.nn ?_ | refine thenK.r ?_ | refine thenK.x ?_ | refine blockK.nn ?_ | refine blockK.r ?_ | refine blockK.hit rfl ?_ | (refine JC.cond rfl (fun hc => ?_) (fun hc => ?_) <;> ((try simp only [decide_eq_true_eq, decide_eq_false_iff_not, beq_iff_eq, beq_eq_false_iff_ne, bne_iff_ne, bne_eq_false_iff_eq, Bool.not_eq_true', Bool.not_eq_false', Bool.not_eq_true, Bool.not_eq_false] at hc) <;> first | (first | (exact absurd rfl hc) | (exfalso; omega) | (exact absurd (hc.symm.trans (by assumption : _ = false)) (by decide)) | (exact absurd (hc.symm.trans (by assumption : _ = true)) (by decide))) | skip)) | refine loopK.r ?_ | refine loopK.x ?_)
    | fail
  all_goals first | (exfalso; omega) | exact ret1f rfl rfl rfl (fun w1 hw => ⟨by rw [← hany], hw.below⟩)
theorem contains_any (a : Option Addr) (cap : Nat) (l : List Int) (x : Int) (h : Heap) (hs : SlT encI 1 a l h) (hl : l.length ≤ 10000000000000) (w : World) (hw : Holds h w) :
    Calls Tryz.prog 121 #[.slice a l.length cap, .int .i64 x] w fun e w' => e = .returned (.bool (decide (x ∈ l))) ∧ Below w.heap.size w w' := by
  have hn := idxR_nn x l 0 (by omega)
  refine calls_of_JC (R := h) Tryz.func121 Tryz.ntmps121 rfl rfl (hw) ?_
  repeat' first
    | (refine J.isJ ?_; first | (first | (refine J.o 0 ?_; refine J.ev' hΓ ?_) | refine J.nil ?_ | (refine J.o 3 ?_; first | refine J.ev' hΓ ?_) | (refine J.o 10 ?_; refine J.ev' hΓ ?_) | (refine J.o 11 ?_; refine J.ev' hΓ ?_)) | ((refine J.fc 140 ?_; refine J.call0 eIndex rfl rfl (fun w hw => index_any a cap l x h hs hl w (hw.rdH (RdH.old fun _ hh => hh))) ?_)))
    | (first | refine JC.seq ?_ | refine JC.region ?_ | refine JC.ret ?_ | refine thenK.nn ?_)
    | fail
  all_goals first | (exfalso; omega) | skip
  all_goals exact ret1f rfl rfl rfl (fun w1 hw => ⟨retB (by rw [decide_eq_decide]; exact hn), hw.below⟩)
def LM (lits : List Int) (lm : List (Int × Bool)) : Prop := ∀ x, mget lm x = if x ∈ lits then some true else none
theorem LM.put {lits : List Int} {lm : List (Int × Bool)} (h : LM lits lm) (y : Int) : LM (y :: lits) (mput lm y true) := fun x => by
  rw [mget_mput, h x]
  by_cases e : x = y
  · rw [if_pos e, if_pos (by rw [e]; exact List.mem_cons_self)]
  · rw [if_neg e]
    by_cases hx : x ∈ lits
    · rw [if_pos hx, if_pos (List.mem_cons_of_mem _ hx)]
    · rw [if_neg hx, if_neg (fun hm => (List.mem_cons.1 hm).elim e hx)]
section
variable {P : Program} {n : Nat} {w0 : World} {R : Heap} {K0 : Exit → Fr → List Heap → Prop} {f : Fr} {L : List Heap} {l0 : List Oper} {rest : List (Nat × Oper)} {q : Nat}
variable {Γ : List (Nat × TI)} {d : Nat} {ty : TypeId} {pos : String} {aft : Array Edge} {g : Option (Nat × Bool)} {kt e : TypeId}
theorem J.lkB {t : TypeId} {m x : Operand} {mm : List (Int × Bool)} {lits : List Int} {b : Nat} {h : Heap} {a : Int} {s1 s2 b1 b2 : Nat} {z1 : Option Value} {de : TypeDesc} (K : Go.Maps.Keyed P kt) (hml : LM lits mm) (mt : MapT P kt ekI evB mm b h) (hr : RdH R L h) (hkey : ∃ l, keyOf P kt (ekI a) = some l) (hΓ : Fits P Γ)
    (k : J P n w0 R l0 K0 rest (upd f d (.bool (lits.contains a))) L)
    (hg : wantB n f l0 ⟨some d, .lookup t m x false, ty, pos, aft, g⟩ = true := by exact rfl) (hm : Cx.ev n f m = .map (some b) := by exact rfl) (hx : Cx.ev n f x = ekI a := by exact rfl) (ht : Go.Cx.look Γ t = some ⟨.map kt e, s1, z1, b1⟩ := by exact rfl) (he : Go.Cx.look Γ e = some ⟨de, s2, some (.bool false), b2⟩ := by exact rfl) :
    J P n w0 R l0 K0 ((q + 1, ⟨some d, .lookup t m x false, ty, pos, aft, g⟩) :: rest) f L := by
  refine J.lk K ekI_inj mt hr hkey hΓ ?_ hg hm hx ht he
  rw [hml a]
  by_cases h : a ∈ lits
  · rw [if_pos h]
    rw [List.contains_iff_mem.2 h] at k
    exact k
  · rw [if_neg h]
    rw [show lits.contains a = false by simpa using h] at k
    exact k
end
theorem addS_end {B : List PN} {drop end_ i : Int} {s : StN} (he : kindP B i = end_) : addS B drop end_ s i = ⟨s.out, if kindP B i = 2 then litP B i :: s.lits else s.lits, false⟩ := by
  unfold addS
  simp [he]
theorem addS_opp {B : List PN} {drop end_ i : Int} {s : StN} (h2 : kindP B i = 2) (hc : s.lits.contains (-(litP B i)) = true) : addS B drop end_ s i = ⟨s.out, if kindP B i = 2 then litP B i :: s.lits else s.lits, false⟩ := by
  unfold addS
  simp only [h2, hc, decide_true, Bool.true_and, Bool.or_true, Bool.not_true, Bool.and_false]
  simp
theorem addS_bad {B : List PN} {end_ i : Int} {s : StN} (he : kindP B i ≠ end_) (h2 : kindP B i ≠ 2 ∨ s.lits.contains (-(litP B i)) = false) : (decide (kindP B i = end_) || (decide (kindP B i = 2) && s.lits.contains (-(litP B i)))) = false := by
  rw [decide_eq_false he, Bool.false_or]
  rcases h2 with h2 | h2
  · rw [decide_eq_false h2]; rfl
  · rw [h2, Bool.and_false]
theorem addS_add {B : List PN} {drop end_ i : Int} {s : StN} (he : kindP B i ≠ end_) (h2 : kindP B i ≠ 2 ∨ s.lits.contains (-(litP B i)) = false) (hd : kindP B i ≠ drop) (hm : i ∉ s.out) : addS B drop end_ s i = ⟨s.out ++ [i], if kindP B i = 2 then litP B i :: s.lits else s.lits, s.open_⟩ := by
  unfold addS
  simp only [addS_bad he h2, Bool.not_false, Bool.and_true, true_and]
  rw [if_pos ⟨hd, hm⟩]
theorem addS_drop {B : List PN} {drop end_ i : Int} {s : StN} (he : kindP B i ≠ end_) (h2 : kindP B i ≠ 2 ∨ s.lits.contains (-(litP B i)) = false) (hd : kindP B i = drop ∨ i ∈ s.out) : addS B drop end_ s i = ⟨s.out, if kindP B i = 2 then litP B i :: s.lits else s.lits, s.open_⟩ := by
  unfold addS
  have : ¬ (kindP B i ≠ drop ∧ i ∉ s.out) := fun h => hd.elim h.1 h.2
  simp only [addS_bad he h2, Bool.not_false, Bool.and_true, true_and]
  rw [if_neg this]
theorem eAdd1 : Entr Tryz.prog 120 := Entr.of Tryz.func120 rfl rfl
def ptrO (b : Nat) : Obj := .cells ⟨[.pointer (some ⟨b, 0, none⟩)]⟩ 77 (0, 0)
def slO (a : Option Addr) (len cap : Nat) : Obj := .cells ⟨[.slice a len cap]⟩ 80 (0, 0)
def mapO (b : Nat) : Obj := .cells ⟨[.map (some b)]⟩ 160 (0, 0)
def boolO (b : Bool) : Obj := .cells ⟨[.bool b]⟩ 4 (0, 0)
structure AddR (R : Heap) (L : List Heap) (n5 n8 n9 : Nat) (n : Int) (b : Nat) (a : Option Addr) (vs : List NV) (cap bm : Nat) (ho : Heap) (drop end_ : Int) : Prop where
  rb : Rd R L n5 (ptrO b)
  rd : Rd R L n8 (intO drop)
  re : Rd R L n9 (intO end_)
  rB : Rd R L b (bO n a vs.length cap bm)
  rN : RdH R L ho
structure AddW (s : StN) (ao : Option Addr) (co : Nat) (hO : Heap) (lm : List (Int × Bool)) (bl : Nat) (hM : Heap) : Prop where
  oo : OwT encI 1 3 ao co s.out hO
  mt : MapT Tryz.prog 3 ekI evB lm bl hM
  ml : LM s.lits lm
def addL (s : StN) (n12 n13 n14 : Nat) (ao : Option Addr) (co : Nat) (hO : Heap) (bl : Nat) (hM : Heap) : List Heap := [[(n12, slO ao s.out.length co)], hO, [(n13, mapO bl)], hM, [(n14, boolO s.open_)]]
theorem add1_any (i : Int) {w0 w : World} {R : Heap} {L : List Heap} {n5 n8 n9 n12 n13 n14 b cap bm co bl : Nat} {n drop end_ : Int} {a ao : Option Addr} {vs : List NV} {s : StN} {ho hO hM : Heap} {lm : List (Int × Bool)} (rd : AddR R L n5 n8 n9 n b a vs cap bm ho drop end_) (ow : OwT encNV 3 82 a cap vs ho) (hi : 0 ≤ i ∧ i < vs.length) (hvl : vs.length ≤ 1000000) (hlit : ∀ v, v ∈ vs → -128 ≤ v.lit ∧ v.lit ≤ 128) (aw : AddW s ao co hO lm bl hM) (hol : s.out.length ≤ 10000000000000) (hw : H w0 R (addL s n12 n13 n14 ao co hO bl hM ++ L) w) :
    Calls Tryz.prog 120 #[.int .i64 i, .pointer (some ⟨n5, 0, none⟩), .pointer (some ⟨n9, 0, none⟩), .pointer (some ⟨n13, 0, none⟩), .pointer (some ⟨n14, 0, none⟩), .pointer (some ⟨n8, 0, none⟩), .pointer (some ⟨n12, 0, none⟩)] w fun e w' => ∃ v' L', e = .returned v' ∧ H w0 R L' w' ∧ ∃ ao' co' hO' lm' hM', v' = .tuple #[] ∧ L' = addL (addS (vs.map pnV) drop end_ s i) n12 n13 n14 ao' co' hO' bl hM' ++ L ∧ AddW (addS (vs.map pnV) drop end_ s i) ao' co' hO' lm' bl hM' := by
  obtain ⟨rb, rdd, re, rB, rN⟩ := rd
  obtain ⟨oo, mt, ml⟩ := aw
  obtain ⟨k, rfl⟩ : ∃ k : Nat, i = (k : Int) := ⟨i.toNat, by omega⟩
  have hk : k < vs.length := by omega
  have hv := hlit _ (mem_g vs k hk)
  have hkind : kindP (vs.map pnV) k = (vs.getD k default).kind := by unfold kindP; rw [Int.toNat_natCast, getD_map]; rfl
  have hlitP : litP (vs.map pnV) k = (vs.getD k default).lit := by unfold litP; rw [Int.toNat_natCast, getD_map]; rfl
  unfold ptrO at rb
  unfold intO at rdd re
  unfold bO at rB
  unfold addL at hw ⊢
  simp only [List.cons_append, List.nil_append] at hw ⊢
  refine calls_in Tryz.func120 Tryz.ntmps120 rfl rfl (hw) ?_
  unfold slO mapO boolO
  repeat' first
    | (refine J.isJ ?_; first | (first | (refine J.o 4 ?_; first | refine J.lR hΓ ?_ (hr := rb.tl.tl.tl.tl.tl) | refine J.lR hΓ ?_ (hr := rB.tl.tl.tl.tl.tl) | refine J.lT default hΓ ?_ (hs := ow.sl) (hr := rN.tl.tl.tl.tl.tl) | refine J.lR hΓ ?_ (hr := re.tl.tl.tl.tl.tl.tl) | refine J.lR hΓ ?_ (hr := rdd.tl.tl.tl.tl.tl.tl)) | (refine J.o 4 ?_; first | refine J.e3 hΓ ?_ | refine J.e4 hΓ ?_) | (refine J.o 9 ?_; refine J.lkB keyedI ml mt (RdH.hd.tl.tl.tl.tl) (keyI (-(vs.getD k default).lit) (by omega)) hΓ ?_) | (refine J.fc 121 ?_; refine J.call0 eContains rfl rfl (fun w hw => contains_any ao co s.out k hO oo.sl hol w (hw.rdH RdH.hd.tl.tl)) ?_) | (refine J.o 9 ?_; first | (first | (refine J.ap1 (enc := encI) [(k : Int)] hΓ (fun a2 c2 h2 o2 => ?_)) | (refine J.perm (br1.cons _) ?_; refine J.ap1 (enc := encI) [(k : Int)] hΓ (fun a2 c2 h2 o2 => ?_)) | (refine J.perm (br2.cons _) ?_; refine J.ap1 (enc := encI) [(k : Int)] hΓ (fun a2 c2 h2 o2 => ?_)) | (refine J.perm (br3.cons _) ?_; refine J.ap1 (enc := encI) [(k : Int)] hΓ (fun a2 c2 h2 o2 => ?_)) | (refine J.perm (br4.cons _) ?_; refine J.ap1 (enc := encI) [(k : Int)] hΓ (fun a2 c2 h2 o2 => ?_)) | (refine J.perm (br5.cons _) ?_; refine J.ap1 (enc := encI) [(k : Int)] hΓ (fun a2 c2 h2 o2 => ?_))) | (refine J.perm br1 ?_; first | (refine J.ap1 (enc := encI) [(k : Int)] hΓ (fun a2 c2 h2 o2 => ?_)) | (refine J.perm (br1.cons _) ?_; refine J.ap1 (enc := encI) [(k : Int)] hΓ (fun a2 c2 h2 o2 => ?_)) | (refine J.perm (br2.cons _) ?_; refine J.ap1 (enc := encI) [(k : Int)] hΓ (fun a2 c2 h2 o2 => ?_)) | (refine J.perm (br3.cons _) ?_; refine J.ap1 (enc := encI) [(k : Int)] hΓ (fun a2 c2 h2 o2 => ?_)) | (refine J.perm (br4.cons _) ?_; refine J.ap1 (enc := encI) [(k : Int)] hΓ (fun a2 c2 h2 o2 => ?_)) | (refine J.perm (br5.cons _) ?_; refine J.ap1 (enc := encI) [(k : Int)] hΓ (fun a2 c2 h2 o2 => ?_))) | (refine J.perm br2 ?_; first | (refine J.ap1 (enc := encI) [(k : Int)] hΓ (fun a2 c2 h2 o2 => ?_)) | (refine J.perm (br1.cons _) ?_; refine J.ap1 (enc := encI) [(k : Int)] hΓ (fun a2 c2 h2 o2 => ?_)) | (refine J.perm (br2.cons _) ?_; refine J.ap1 (enc := encI) [(k : Int)] hΓ (fun a2 c2 h2 o2 => ?_)) | (refine J.perm (br3.cons _) ?_; refine J.ap1 (enc := encI) [(k : Int)] hΓ (fun a2 c2 h2 o2 => ?_)) | (refine J.perm (br4.cons _) ?_; refine J.ap1 (enc := encI) [(k : Int)] hΓ (fun a2 c2 h2 o2 => ?_)) | (refine J.perm (br5.cons _) ?_; refine J.ap1 (enc := encI) [(k : Int)] hΓ (fun a2 c2 h2 o2 => ?_)))) | (refine J.o 5 ?_; first | (refine J.perm br3 ?_; refine J.t0 hΓ ?_) | (refine J.perm br4 ?_; refine J.t0 hΓ ?_) | (refine J.perm br5 ?_; refine J.t0 hΓ ?_) | (refine J.perm br6 ?_; refine J.t0 hΓ ?_) | (refine J.perm br7 ?_; refine J.t0 hΓ ?_)) | (refine J.o 9 ?_; first | refine J.perm br4 (J.mup (ev := evB) true keyedI ekI_inj mt (keyI (vs.getD k default).lit (by omega)) hΓ (fun h3 mt3 => ?_)) | refine J.perm br5 (J.mup (ev := evB) true keyedI ekI_inj mt (keyI (vs.getD k default).lit (by omega)) hΓ (fun h3 mt3 => ?_)))) | (first | (refine J.o 0 ?_; refine J.ev' hΓ ?_) | refine J.nil ?_ | refine J.kd ?_ | (refine J.o 4 ?_; first | refine J.e0 hΓ ?_ | refine J.e1 hΓ ?_ | refine J.lT default hΓ ?_ | refine J.lR hΓ ?_) | (refine J.o 3 ?_; first | refine J.iJ hΓ ?_ | refine J.ev' hΓ ?_) | (refine J.o 1 ?_; first | refine J.ng ?_) | (refine J.o 5 ?_; first | refine J.t0 hΓ ?_ | refine J.t2 hΓ ?_) | (refine J.o 7 ?_; refine J.al hΓ (fun _ => ?_)) | (refine J.o 9 ?_; refine J.bl hΓ (fun _ => ?_)) | (refine J.o 10 ?_; refine J.ev' hΓ ?_) | (refine J.o 11 ?_; refine J.ev' hΓ ?_)) | ((fail_if_success refine J.wt ?_); refine J.gc rfl rfl (fun hc => ?_) (fun hc => ?_) <;> ((try simp only [decide_eq_true_eq, decide_eq_false_iff_not, beq_iff_eq, beq_eq_false_iff_ne, bne_iff_ne, bne_eq_false_iff_eq, Bool.not_eq_true', Bool.not_eq_false', Bool.not_eq_true, Bool.not_eq_false] at hc) <;> first | (first | (exact absurd rfl hc) | (exfalso; omega) | (exact absurd (hc.symm.trans (by assumption : _ = false)) (by decide)) | (exact absurd (hc.symm.trans (by assumption : _ = true)) (by decide))) | skip)))
    | (first | refine JC.seq ?_ | refine JC.region ?_ | refine JC.block ?_ | refine JC.skip ?_ | refine thenK.nn ?_ | refine blockK.nn ?_ | refine JC.condT rfl ?_ | refine JC.condF rfl ?_ | (refine JC.cond rfl (fun hc => ?_) (fun hc => ?_) <;> ((try simp only [decide_eq_true_eq, decide_eq_false_iff_not, beq_iff_eq, beq_eq_false_iff_ne, bne_iff_ne, bne_eq_false_iff_eq, Bool.not_eq_true', Bool.not_eq_false', Bool.not_eq_true, Bool.not_eq_false] at hc) <;> first | (first | (exact absurd rfl hc) | (exfalso; omega) | (exact absurd (hc.symm.trans (by assumption : _ = false)) (by decide)) | (exact absurd (hc.symm.trans (by assumption : _ = true)) (by decide))) | skip)))
    | fail
  all_goals first
    | rw [addS_end (hkind.trans (by assumption))]
    | rw [addS_opp (hkind.trans (by assumption)) (by rw [hlitP]; assumption)]
    | rw [addS_add (by rw [hkind]; assumption) (.inl (by rw [hkind]; assumption)) (by rw [hkind]; assumption) (by assumption)]
    | rw [addS_add (by rw [hkind]; assumption) (.inr (by rw [hlitP]; assumption)) (by rw [hkind]; assumption) (by assumption)]
    | rw [addS_drop (by rw [hkind]; assumption) (.inl (by rw [hkind]; assumption)) (.inl (by rw [hkind]; assumption))]
    | rw [addS_drop (by rw [hkind]; assumption) (.inl (by rw [hkind]; assumption)) (.inr (by assumption))]
    | rw [addS_drop (by rw [hkind]; assumption) (.inr (by rw [hlitP]; assumption)) (.inl (by rw [hkind]; assumption))]
    | rw [addS_drop (by rw [hkind]; assumption) (.inr (by rw [hlitP]; assumption)) (.inr (by assumption))]
  all_goals first | rw [if_pos (hkind.trans (by assumption)), hlitP] | rw [if_neg (by rw [hkind]; assumption)]
  all_goals first
    | exact ret0n rfl (fun w1 hw => ⟨_, _, rfl, H.sel (l := [_, _, _, _, _, _]) (M := L) hw [3, 4, 5, 0, 1], _, _, _, _, _, rfl, rfl, ⟨oo, mt3, ml.put _⟩⟩)
    | exact ret0n rfl (fun w1 hw => ⟨_, _, rfl, H.sel (l := [_, _, _, _, _, _]) (M := L) hw [2, 3, 4, 5, 0], _, _, _, _, _, rfl, rfl, ⟨oo, mt, ml⟩⟩)
    | exact ret0n rfl (fun w1 hw => ⟨_, _, rfl, H.sel (l := [_, _, _, _, _, _]) (M := L) hw [3, 1, 4, 0, 5], _, _, _, _, _, rfl, rfl, ⟨o2, mt3, ml.put _⟩⟩)
    | exact ret0n rfl (fun w1 hw => ⟨_, _, rfl, H.sel (l := [_, _, _, _, _, _]) (M := L) hw [2, 0, 3, 4, 5], _, _, _, _, _, rfl, rfl, ⟨o2, mt, ml⟩⟩)
    | exact ret0n rfl (fun w1 hw => ⟨_, _, rfl, H.sel (l := [_, _, _, _, _, _]) (M := L) hw [2, 3, 4, 0, 5], _, _, _, _, _, rfl, rfl, ⟨oo, mt3, ml.put _⟩⟩)
    | exact ret0n rfl (fun w1 hw => ⟨_, _, rfl, H.sel (l := [_, _, _, _, _, _]) (M := L) hw [1, 2, 3, 4, 5], _, _, _, _, _, rfl, rfl, ⟨oo, mt, ml⟩⟩)
    | trace_state
end Go.Proofs.YtdiciemlbhkilaaGreatDoor
namespace Go.Proofs.YtdiciemlbhkilaaGreatDoor
open Go Go.Cx Go.RowKit
set_option linter.unusedVariables false
set_option linter.unusedSimpArgs false
set_option maxHeartbeats 4000000
attribute [local irreducible] J JC thenK blockK loopK roundK drawK retK QW Qt pel List.set Calls
attribute [local irreducible] JE Br eK0 eK3 brK
open Go.Lib
theorem insS_perm : ∀ (l : List Int) (x : Int), (insS l x).Perm (x :: l)
  | [], x => .refl _
  | y :: l, x => by
    unfold insS
    split
    · exact .refl _
    · exact ((insS_perm l x).cons y).trans (.swap _ _ _)
theorem insS_sorted : ∀ (l : List Int) (x : Int), l.Pairwise (· ≤ ·) → (insS l x).Pairwise (· ≤ ·)
  | [], x, _ => by simp [insS]
  | y :: l, x, h => by
    unfold insS
    rw [List.pairwise_cons] at h
    split
    · rename_i hxy
      refine List.pairwise_cons.2 ⟨fun z hz => ?_, List.pairwise_cons.2 h⟩
      rcases List.mem_cons.1 hz with rfl | hz
      · omega
      · have := h.1 z hz; omega
    · rename_i hxy
      refine List.pairwise_cons.2 ⟨fun z hz => ?_, insS_sorted l x h.2⟩
      have := (insS_perm l x).mem_iff.1 hz
      rcases List.mem_cons.1 this with rfl | hz
      · omega
      · exact h.1 z hz
theorem sortS_go : ∀ (l acc : List Int), acc.Pairwise (· ≤ ·) → (l.foldl insS acc).Perm (acc ++ l) ∧ (l.foldl insS acc).Pairwise (· ≤ ·)
  | [], acc, h => ⟨by simp, h⟩
  | x :: l, acc, h => by
    have ih := sortS_go l (insS acc x) (insS_sorted acc x h)
    refine ⟨ih.1.trans ?_, ih.2⟩
    refine ((insS_perm acc x).append_right l).trans ?_
    exact (List.perm_middle).symm
theorem sortS_perm (l : List Int) : (sortS l).Perm l := by simpa [sortS] using (sortS_go l [] List.Pairwise.nil).1
theorem sortS_sorted (l : List Int) : (sortS l).Pairwise (· ≤ ·) := (sortS_go l [] List.Pairwise.nil).2
theorem sort_eq : ∀ (a b : List Int), a.Perm b → a.Pairwise (· ≤ ·) → b.Pairwise (· ≤ ·) → a = b
  | [], b, h, _, _ => (List.Perm.nil_eq h)
  | x :: a, [], h, _, _ => absurd h.length_eq (by simp)
  | x :: a, y :: b, h, h1, h2 => by
    rw [List.pairwise_cons] at h1 h2
    have e : x = y := by
      have hx := h.mem_iff.1 (List.mem_cons_self (a := x) (l := a))
      have hy := h.mem_iff.2 (List.mem_cons_self (a := y) (l := b))
      rcases List.mem_cons.1 hx with hx | hx
      · exact hx
      · rcases List.mem_cons.1 hy with hy | hy
        · exact hy.symm
        · have := h1.1 y hy; have := h2.1 x hx; omega
    subst e
    rw [sort_eq a b (List.Perm.cons_inv h) h1.2 h2.2]
theorem sort_ms (l : List Int) : l.mergeSort (fun x y => decide (x ≤ y)) = sortS l := by
  refine sort_eq _ _ ((List.mergeSort_perm l _).trans (sortS_perm l).symm) ?_ (sortS_sorted l)
  have := List.pairwise_mergeSort (le := fun x y : Int => decide (x ≤ y)) (fun a b c h1 h2 => by simp only [decide_eq_true_eq] at *; omega) (fun a b => by simp only [Bool.or_eq_true, decide_eq_true_eq]; omega) l
  exact this.imp (fun h => by simpa using h)
theorem sortS_len (l : List Int) : (sortS l).length = l.length := (sortS_perm l).length_eq
theorem eSort : Entr Tryz.prog 122 := Entr.of Tryz.func122 rfl rfl
theorem intsFlat (l : List Int) : l.flatMap encI = l.map (Value.int .i64) := by
  induction l with
  | nil => rfl
  | cons x l ih => rw [List.flatMap_cons, ih]; rfl
theorem sort_own {ao : Option Addr} {co : Nat} {l : List Int} {hO : Heap} (oo : OwT encI 1 3 ao co l hO) (hl : l.length ≤ 10000000000000) {w0 w : World} {R : Heap} {L : List Heap} (hw : H w0 R (hO :: L) w) :
    Calls Tryz.prog 122 #[.slice ao l.length co] w fun e w' => ∃ v' L', e = .returned v' ∧ H w0 R L' w' ∧ ∃ hO', v' = .tuple #[] ∧ L' = hO' :: L ∧ OwT encI 1 3 ao co (sortS l) hO' := by
  by_cases h0 : l.length = 0
  · have hn : l = [] := List.eq_nil_of_length_eq_zero h0
    subst hn
    refine (Tryz.slices_Sort_int_none ao co w).mono ?_
    rintro e w' ⟨rfl, rfl⟩
    exact ⟨_, _, rfl, hw, hO, rfl, rfl, oo⟩
  rcases oo.row with ⟨rfl, rfl, rfl, rfl⟩ | ⟨g, cs, rfl, rfl, h1, h2, h3⟩
  · exact absurd rfl h0
  have hb : w.heap[g]? = some (.cells ⟨cs⟩ 3 (0, 0)) := hw.rd Rd.hd
  have hgl : g < w.heap.size := (Array.getElem?_eq_some_iff.1 hb).1
  rw [intsFlat, Nat.mul_one] at h3
  have hcell : ∀ j (hj : j < l.length), cs[j]? = some (.int .i64 l[j]) := fun j hj => by
    have : (cs.take l.length)[j]? = (l.map (Value.int .i64))[j]? := by rw [h3]
    rw [List.getElem?_take_of_lt hj, List.getElem?_map, List.getElem?_eq_getElem hj] at this
    exact this
  have hH : Sort.Holds (Value.int .i64) w g 0 l.toArray := fun j hj => by
    have hj' : j < l.length := by simpa using hj
    constructor
    · simp [World.cell?, hb, hcell j hj', hj']
    · simp [World.frozen?, hb]
  refine (Tryz.slices_Sort_int g 0 co l w hH hgl (by omega)).mono ?_
  rintro e w' ⟨rfl, n, os, rfl⟩
  rw [sort_ms]
  have hsl := sortS_len l
  have hnew : Sort.putCells (Value.int .i64) 0 (sortS l).toArray ⟨cs⟩ = ⟨(sortS l).map (Value.int .i64) ++ cs.drop l.length⟩ := by
    unfold Sort.putCells
    apply Array.ext
    · simp; omega
    · intro i hi1 hi2
      simp only [Array.getElem_mapIdx, Nat.zero_le, true_and, Nat.zero_add, List.size_toArray, Nat.sub_zero]
      by_cases hi : i < (sortS l).length
      · rw [if_pos hi]
        simp [hi]
      · rw [if_neg hi]
        simp only [List.getElem_toArray]
        rw [List.getElem_append_right (by simpa using hi)]
        simp only [List.length_map, List.getElem_drop]
        congr 1
        omega
  refine ⟨_, [(g, .cells ⟨(sortS l).map (Value.int .i64) ++ cs.drop l.length⟩ 3 (0, 0))] :: L, rfl, ?_, _, rfl, rfl, ⟨oo.len, .inr ⟨g, _, rfl, rfl, ?_, by omega, ?_⟩⟩⟩
  · have h5 : H w0 R ([(g, .cells ⟨(sortS l).map (Value.int .i64) ++ cs.drop l.length⟩ 3 (0, 0))] :: L) (Sort.putRow (Value.int .i64) (Sort.ahead w n) g 0 (sortS l).toArray) := by
      refine hw.write (o' := .cells ⟨(sortS l).map (Value.int .i64) ++ cs.drop l.length⟩ 3 (0, 0)) rfl rfl rfl ?_ ?_ ?_
      · simp [Sort.putRow, Sort.mapBlock, Sort.ahead]
      · show (w.heap.modify g _)[g]? = _
        rw [Array.getElem?_modify, if_pos rfl, hb]
        show some (Obj.cells (Sort.putCells _ _ _ _) _ _) = _
        rw [hnew]
      · intro k hk
        show (w.heap.modify g _)[k]? = _
        rw [Array.getElem?_modify, if_neg (Ne.symm hk)]
    exact h5.grow (Lib.below_grow _ _ (Nat.le_refl _) 0 os)
  · simp; omega
  · rw [intsFlat, Nat.mul_one, List.take_left' (by simp)]
end Go.Proofs.YtdiciemlbhkilaaGreatDoor
