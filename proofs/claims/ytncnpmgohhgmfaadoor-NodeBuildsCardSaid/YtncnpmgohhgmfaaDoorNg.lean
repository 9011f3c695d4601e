/- The sets of literals; Contains; the closure of inputs. -/
import Derived.Test.YtncnpmgohhgmfaaDoorNf
namespace Go.Proofs.YtncnpmgohhgmfaaDoor
open Go Go.Cx Go.RowKit
set_option linter.unusedVariables false
set_option linter.unusedSimpArgs false
set_option maxHeartbeats 4000000
attribute [local irreducible] J JC thenK blockK loopK roundK drawK retK QW Qt pel List.set Calls
attribute [local irreducible] JE Br eK0 eK2 eK3 brK
open Go.Maps in
theorem keyedI : Keyed Tryd.prog 3 := int_keyed Tryd.underlying3
def evB (b : Bool) : Value := .bool b
def ekI (x : Int) : Value := .int .i64 x
theorem ekI_inj (x y : Int) (h : ekI x = ekI y) : x = y := by simpa [ekI] using h
theorem keyI (x : Int) (h : -9223372036854775808 ≤ x ∧ x ≤ 9223372036854775807) : ∃ l, keyOf Tryd.prog 3 (ekI x) = some l := ⟨_, Go.Maps.keyOf_int_mk (q := .i64) (a := x) Tryd.underlying3 (by
  show (decide ((-9223372036854775808 : Int) ≤ x) && decide (x ≤ (9223372036854775807 : Int))) = true
  simp [h])⟩
theorem mget_mput {κ β : Type} [DecidableEq κ] (m : List (κ × β)) (x z : κ) (y : β) : mget (mput m x y) z = if z = x then some y else mget m z := by
  unfold mput
  by_cases hc : (m.map (·.1)).contains x = true
  · rw [if_pos hc]
    have hf : ∀ l : List (κ × β), (l.map (fun p => if p.1 = x then (x, y) else p)).find? (fun p => decide (p.1 = z)) = (l.find? (fun p => decide (p.1 = z))).map (fun p => if p.1 = x then (x, y) else p) := by
      intro l
      induction l with
      | nil => rfl
      | cons q l ih =>
        rw [List.map_cons, List.find?_cons, List.find?_cons]
        have hk : (if q.1 = x then (x, y) else q).1 = q.1 := by split <;> simp_all
        rw [hk]
        by_cases hq : q.1 = z
        · rw [decide_eq_true hq]; rfl
        · rw [decide_eq_false hq]; exact ih
    unfold mget
    rw [hf]
    by_cases hz : z = x
    · subst hz
      rw [if_pos rfl]
      have hm : z ∈ m.map (·.1) := by simpa using hc
      obtain ⟨q, hq, hq1⟩ := List.mem_map.1 hm
      cases hfd : m.find? (fun p => decide (p.1 = z)) with
      | none =>
        have := List.find?_eq_none.1 hfd q hq
        simp [hq1] at this
      | some q' =>
        have := List.find?_some hfd
        simp only [decide_eq_true_eq] at this
        simp [this]
    · rw [if_neg hz]
      cases hfd : m.find? (fun p => decide (p.1 = z)) with
      | none => rfl
      | some q' =>
        have := List.find?_some hfd
        simp only [decide_eq_true_eq] at this
        simp [this, hz]
  · rw [if_neg hc]
    unfold mget
    rw [List.find?_append]
    by_cases hz : z = x
    · subst hz
      rw [if_pos rfl]
      have hn : m.find? (fun p => decide (p.1 = z)) = none := by
        rw [List.find?_eq_none]
        intro p hp he
        simp only [decide_eq_true_eq] at he
        exact hc (by simp only [List.contains_eq_mem, decide_eq_true_eq]; exact he ▸ List.mem_map_of_mem hp)
      rw [hn]
      simp
    · rw [if_neg hz]
      have : [(x, y)].find? (fun p : κ × β => decide (p.1 = z)) = none := by
        rw [List.find?_eq_none]
        intro p hp
        rw [List.mem_singleton.1 hp]
        simp [Ne.symm hz]
      rw [this, Option.or_none]
theorem eIndex : Entr Tryd.prog 74 := Entr.of Tryd.func74 rfl rfl
theorem eContains : Entr Tryd.prog 63 := Entr.of Tryd.func63 rfl rfl
def idxR : List Int → Int → Int → Int
  | [], _, _ => -1
  | y :: l, x, k => if x = y then k else idxR l x (k + 1)
theorem idxR_nn (x : Int) : ∀ (l : List Int) (k : Int), 0 ≤ k → (0 ≤ idxR l x k ↔ x ∈ l)
  | [], k, hk => by simp [idxR]
  | y :: l, k, hk => by
    unfold idxR
    by_cases h : x = y
    · rw [if_pos h]; simp [h, hk]
    · rw [if_neg h, idxR_nn x l (k + 1) (by omega)]; simp [h]
theorem index_any (a : Option Addr) (cap : Nat) (l : List Int) (x : Int) (h : Heap) (hs : SlT encI 1 a l h) (hl : l.length ≤ 10000000000000) (w : World) (hw : Holds h w) :
    Calls Tryd.prog 74 #[.slice a l.length cap, .int .i64 x] w fun e w' => e = .returned (.int .i64 (idxR l x 0)) ∧ Below w.heap.size w w' := by
  refine calls_of_JC (R := h) Tryd.func74 Tryd.ntmps74 rfl rfl (hw) ?_
  repeat' first
    | (refine J.isJ ?_; (first | (first | (refine J.o 0 ?_; refine J.ev' hΓ ?_) | refine J.nil ?_ | refine J.kd ?_ | (refine J.o 4 ?_; first | refine J.e0 hΓ ?_ | refine J.e1 hΓ ?_ | refine J.e2 hΓ ?_ | refine J.lT default hΓ ?_ | refine J.lR hΓ ?_) | (refine J.o 3 ?_; first | refine J.iJ hΓ ?_ | refine J.fP hΓ ?_ | refine J.iC hΓ ?_ | refine J.ev' hΓ ?_) | (refine J.o 1 ?_; first | refine J.ad ?_ | refine J.sb ?_ | refine J.ng ?_) | (refine J.o 5 ?_; first | refine J.t0 hΓ ?_ | refine J.t1 hΓ ?_ | refine J.t2 hΓ ?_ | refine J.tT _ default hΓ (fun _ _ => ?_) | refine J.tT1 _ default hΓ (fun _ _ => ?_) | refine J.tT2 _ default hΓ (fun _ _ => ?_)) | (refine J.o 6 ?_; refine J.bx (fun _ => ?_)) | (refine J.o 7 ?_; refine J.al hΓ (fun _ => ?_)) | (refine J.o 8 ?_; refine J.bd hΓ ?_) | (refine J.o 9 ?_; refine J.bl hΓ (fun _ => ?_)) | (refine J.o 10 ?_; refine J.ev' hΓ ?_) | (refine J.o 11 ?_; refine J.ev' hΓ ?_) | refine J.kn ?_) | ((fail_if_success refine J.wt ?_); refine J.gc rfl rfl (fun hc => ?_) (fun hc => ?_) <;> ((try simp only [decide_eq_true_eq, decide_eq_false_iff_not, beq_iff_eq, beq_eq_false_iff_ne, bne_iff_ne, bne_eq_false_iff_eq, Bool.not_eq_true', Bool.not_eq_false', Bool.not_eq_true, Bool.not_eq_false] at hc) <;> first | (first | (exact absurd rfl hc) | (exfalso; omega) | (exact absurd (hc.symm.trans (by assumption : _ = false)) (by decide)) | (exact absurd (hc.symm.trans (by assumption : _ = true)) (by decide))) | skip))))
    | (first | refine JC.seq ?_ | refine JC.region ?_ | refine JC.block ?_ | refine JC.ret ?_ | refine JC.exit ?_ | refine JC.skip ?_ | refine thenK.nn ?_ | refine thenK.r ?_ | refine thenK.x ?_ | refine blockK.nn ?_ | refine blockK.r ?_ | refine blockK.hit rfl ?_ | refine blockK.miss rfl ?_ | refine JC.condT rfl ?_ | refine JC.condF rfl ?_ | (refine JC.cond rfl (fun hc => ?_) (fun hc => ?_) <;> ((try simp only [decide_eq_true_eq, decide_eq_false_iff_not, beq_iff_eq, beq_eq_false_iff_ne, bne_iff_ne, bne_eq_false_iff_eq, Bool.not_eq_true', Bool.not_eq_false', Bool.not_eq_true, Bool.not_eq_false] at hc) <;> first | (first | (exact absurd rfl hc) | (exfalso; omega) | (exact absurd (hc.symm.trans (by assumption : _ = false)) (by decide)) | (exact absurd (hc.symm.trans (by assumption : _ = true)) (by decide))) | skip)) | (refine JC.drawA [] (by kernel_rfl) (by kernel_rfl) ?_) | refine drawK.nn ?_ | refine roundK.nn ?_ | refine roundK.r ?_ | refine roundK.x ?_ | refine loopK.r ?_ | refine loopK.x ?_)
    | fail
  all_goals first | (exfalso; omega) | skip
  refine JC.loop (fun i => Nat.ble 4 i) (fun m g L => ∃ (k : Nat), g 6 = .slice a l.length cap ∧ g 7 = .int .i64 (l.length : Int) ∧ g 8 = .int .i64 (k : Int) ∧ k + m = l.length ∧ idxR (l.drop k) x k = idxR l x 0 ∧ L = _) l.length ⟨0, rfl, rfl, rfl, by omega, rfl, rfl⟩ ?_
  rintro m g L ⟨k, e6, e7, e8, hkm, hany, rfl⟩
  refine JC.pin 6 e6 (JC.pin 7 e7 (JC.pin 8 e8 ?_))
  clear e6 e7 e8
  rcases Nat.lt_or_ge k l.length with hk | hk
  · rw [drop_g l k hk, idxR] at hany
    by_cases hx : x = l.getD k default
    · rw [if_pos hx] at hany
      repeat' first
        | (refine J.isJ ?_; (first | (first | (refine J.o 0 ?_; refine J.ev' hΓ ?_) | refine J.nil ?_ | refine J.kd ?_ | (refine J.o 4 ?_; first | refine J.e0 hΓ ?_ | refine J.e1 hΓ ?_ | refine J.e2 hΓ ?_ | refine J.lT default hΓ ?_ | refine J.lR hΓ ?_) | (refine J.o 3 ?_; first | refine J.iJ hΓ ?_ | refine J.fP hΓ ?_ | refine J.iC hΓ ?_ | refine J.ev' hΓ ?_) | (refine J.o 1 ?_; first | refine J.ad ?_ | refine J.sb ?_ | refine J.ng ?_) | (refine J.o 5 ?_; first | refine J.t0 hΓ ?_ | refine J.t1 hΓ ?_ | refine J.t2 hΓ ?_ | refine J.tT _ default hΓ (fun _ _ => ?_) | refine J.tT1 _ default hΓ (fun _ _ => ?_) | refine J.tT2 _ default hΓ (fun _ _ => ?_)) | (refine J.o 6 ?_; refine J.bx (fun _ => ?_)) | (refine J.o 7 ?_; refine J.al hΓ (fun _ => ?_)) | (refine J.o 8 ?_; refine J.bd hΓ ?_) | (refine J.o 9 ?_; refine J.bl hΓ (fun _ => ?_)) | (refine J.o 10 ?_; refine J.ev' hΓ ?_) | (refine J.o 11 ?_; refine J.ev' hΓ ?_) | refine J.kn ?_) | ((fail_if_success refine J.wt ?_); refine J.gc rfl rfl (fun hc => ?_) (fun hc => ?_) <;> ((try simp only [decide_eq_true_eq, decide_eq_false_iff_not, beq_iff_eq, beq_eq_false_iff_ne, bne_iff_ne, bne_eq_false_iff_eq, Bool.not_eq_true', Bool.not_eq_false', Bool.not_eq_true, Bool.not_eq_false] at hc) <;> first | (first | (exact absurd rfl hc) | (exfalso; omega) | (exact absurd (hc.symm.trans (by assumption : _ = false)) (by decide)) | (exact absurd (hc.symm.trans (by assumption : _ = true)) (by decide))) | skip))))
        | (first | refine JC.seq ?_ | refine JC.region ?_ | refine JC.block ?_ | refine JC.ret ?_ | refine JC.exit ?_ | refine JC.skip ?_ | refine thenK.nn ?_ | refine thenK.r ?_ | refine thenK.x ?_ | refine blockK.nn ?_ | refine blockK.r ?_ | refine blockK.hit rfl ?_ | refine blockK.miss rfl ?_ | refine JC.condT rfl ?_ | refine JC.condF rfl ?_ | (refine JC.cond rfl (fun hc => ?_) (fun hc => ?_) <;> ((try simp only [decide_eq_true_eq, decide_eq_false_iff_not, beq_iff_eq, beq_eq_false_iff_ne, bne_iff_ne, bne_eq_false_iff_eq, Bool.not_eq_true', Bool.not_eq_false', Bool.not_eq_true, Bool.not_eq_false] at hc) <;> first | (first | (exact absurd rfl hc) | (exfalso; omega) | (exact absurd (hc.symm.trans (by assumption : _ = false)) (by decide)) | (exact absurd (hc.symm.trans (by assumption : _ = true)) (by decide))) | skip)) | (refine JC.drawA [] (by kernel_rfl) (by kernel_rfl) ?_) | refine drawK.nn ?_ | refine roundK.nn ?_ | refine roundK.r ?_ | refine roundK.x ?_ | refine loopK.r ?_ | refine loopK.x ?_)
        | fail
      all_goals first | (exfalso; omega) | exact ret1f rfl rfl rfl (fun w1 hw => ⟨by rw [← hany], hw.below⟩)
    · rw [if_neg hx] at hany
      repeat' first
        | (refine J.isJ ?_; (first | (first | (refine J.o 0 ?_; refine J.ev' hΓ ?_) | refine J.nil ?_ | refine J.kd ?_ | (refine J.o 4 ?_; first | refine J.e0 hΓ ?_ | refine J.e1 hΓ ?_ | refine J.e2 hΓ ?_ | refine J.lT default hΓ ?_ | refine J.lR hΓ ?_) | (refine J.o 3 ?_; first | refine J.iJ hΓ ?_ | refine J.fP hΓ ?_ | refine J.iC hΓ ?_ | refine J.ev' hΓ ?_) | (refine J.o 1 ?_; first | refine J.ad ?_ | refine J.sb ?_ | refine J.ng ?_) | (refine J.o 5 ?_; first | refine J.t0 hΓ ?_ | refine J.t1 hΓ ?_ | refine J.t2 hΓ ?_ | refine J.tT _ default hΓ (fun _ _ => ?_) | refine J.tT1 _ default hΓ (fun _ _ => ?_) | refine J.tT2 _ default hΓ (fun _ _ => ?_)) | (refine J.o 6 ?_; refine J.bx (fun _ => ?_)) | (refine J.o 7 ?_; refine J.al hΓ (fun _ => ?_)) | (refine J.o 8 ?_; refine J.bd hΓ ?_) | (refine J.o 9 ?_; refine J.bl hΓ (fun _ => ?_)) | (refine J.o 10 ?_; refine J.ev' hΓ ?_) | (refine J.o 11 ?_; refine J.ev' hΓ ?_) | refine J.kn ?_) | ((fail_if_success refine J.wt ?_); refine J.gc rfl rfl (fun hc => ?_) (fun hc => ?_) <;> ((try simp only [decide_eq_true_eq, decide_eq_false_iff_not, beq_iff_eq, beq_eq_false_iff_ne, bne_iff_ne, bne_eq_false_iff_eq, Bool.not_eq_true', Bool.not_eq_false', Bool.not_eq_true, Bool.not_eq_false] at hc) <;> first | (first | (exact absurd rfl hc) | (exfalso; omega) | (exact absurd (hc.symm.trans (by assumption : _ = false)) (by decide)) | (exact absurd (hc.symm.trans (by assumption : _ = true)) (by decide))) | skip))))
        | (first | refine JC.seq ?_ | refine JC.region ?_ | refine JC.block ?_ | refine JC.ret ?_ | refine JC.exit ?_ | refine JC.skip ?_ | refine thenK.nn ?_ | refine thenK.r ?_ | refine thenK.x ?_ | refine blockK.nn ?_ | refine blockK.r ?_ | refine blockK.hit rfl ?_ | refine blockK.miss rfl ?_ | refine JC.condT rfl ?_ | refine JC.condF rfl ?_ | (refine JC.cond rfl (fun hc => ?_) (fun hc => ?_) <;> ((try simp only [decide_eq_true_eq, decide_eq_false_iff_not, beq_iff_eq, beq_eq_false_iff_ne, bne_iff_ne, bne_eq_false_iff_eq, Bool.not_eq_true', Bool.not_eq_false', Bool.not_eq_true, Bool.not_eq_false] at hc) <;> first | (first | (exact absurd rfl hc) | (exfalso; omega) | (exact absurd (hc.symm.trans (by assumption : _ = false)) (by decide)) | (exact absurd (hc.symm.trans (by assumption : _ = true)) (by decide))) | skip)) | (refine JC.drawA [] (by kernel_rfl) (by kernel_rfl) ?_) | refine drawK.nn ?_ | refine roundK.nn ?_ | refine roundK.r ?_ | refine roundK.x ?_ | refine loopK.r ?_ | refine loopK.x ?_)
        | fail
      all_goals first | (exfalso; omega) | skip
      all_goals refine loopK.nn (m - 1) (by omega) (by repeat (first | refine Ag.upd rfl ?_ | exact Ag.hv)) ⟨k + 1, rfl, rfl, ?_, by omega, by rw [← hany]; congr 1, rfl⟩
      all_goals (show Value.int .i64 _ = _; congr 1)
  rw [List.drop_eq_nil_of_le hk, idxR] at hany
  repeat' first
    | (refine J.isJ ?_; (first | (first | (refine J.o 0 ?_; refine J.ev' hΓ ?_) | refine J.nil ?_ | refine J.kd ?_ | (refine J.o 4 ?_; first | refine J.e0 hΓ ?_ | refine J.e1 hΓ ?_ | refine J.e2 hΓ ?_ | refine J.lT default hΓ ?_ | refine J.lR hΓ ?_) | (refine J.o 3 ?_; first | refine J.iJ hΓ ?_ | refine J.fP hΓ ?_ | refine J.iC hΓ ?_ | refine J.ev' hΓ ?_) | (refine J.o 1 ?_; first | refine J.ad ?_ | refine J.sb ?_ | refine J.ng ?_) | (refine J.o 5 ?_; first | refine J.t0 hΓ ?_ | refine J.t1 hΓ ?_ | refine J.t2 hΓ ?_ | refine J.tT _ default hΓ (fun _ _ => ?_) | refine J.tT1 _ default hΓ (fun _ _ => ?_) | refine J.tT2 _ default hΓ (fun _ _ => ?_)) | (refine J.o 6 ?_; refine J.bx (fun _ => ?_)) | (refine J.o 7 ?_; refine J.al hΓ (fun _ => ?_)) | (refine J.o 8 ?_; refine J.bd hΓ ?_) | (refine J.o 9 ?_; refine J.bl hΓ (fun _ => ?_)) | (refine J.o 10 ?_; refine J.ev' hΓ ?_) | (refine J.o 11 ?_; refine J.ev' hΓ ?_) | refine J.kn ?_) | ((fail_if_success refine J.wt ?_); refine J.gc rfl rfl (fun hc => ?_) (fun hc => ?_) <;> ((try simp only [decide_eq_true_eq, decide_eq_false_iff_not, beq_iff_eq, beq_eq_false_iff_ne, bne_iff_ne, bne_eq_false_iff_eq, Bool.not_eq_true', Bool.not_eq_false', Bool.not_eq_true, Bool.not_eq_false] at hc) <;> first | (first | (exact absurd rfl hc) | (exfalso; omega) | (exact absurd (hc.symm.trans (by assumption : _ = false)) (by decide)) | (exact absurd (hc.symm.trans (by assumption : _ = true)) (by decide))) | skip))))
    | (first | refine JC.seq ?_ | refine JC.region ?_ | refine JC.block ?_ | refine JC.ret ?_ | refine JC.exit ?_ | refine JC.skip ?_ | refine thenK.nn ?_ | refine thenK.r ?_ | refine thenK.x ?_ | refine blockK.nn ?_ | refine blockK.r ?_ | refine blockK.hit rfl ?_ | refine blockK.miss rfl ?_ | refine JC.condT rfl ?_ | refine JC.condF rfl ?_ | (refine JC.cond rfl (fun hc => ?_) (fun hc => ?_) <;> ((try simp only [decide_eq_true_eq, decide_eq_false_iff_not, beq_iff_eq, beq_eq_false_iff_ne, bne_iff_ne, bne_eq_false_iff_eq, Bool.not_eq_true', Bool.not_eq_false', Bool.not_eq_true, Bool.not_eq_false] at hc) <;> first | (first | (exact absurd rfl hc) | (exfalso; omega) | (exact absurd (hc.symm.trans (by assumption : _ = false)) (by decide)) | (exact absurd (hc.symm.trans (by assumption : _ = true)) (by decide))) | skip)) | (refine JC.drawA [] (by kernel_rfl) (by kernel_rfl) ?_) | refine drawK.nn ?_ | refine roundK.nn ?_ | refine roundK.r ?_ | refine roundK.x ?_ | refine loopK.r ?_ | refine loopK.x ?_)
    | fail
  all_goals first | (exfalso; omega) | exact ret1f rfl rfl rfl (fun w1 hw => ⟨by rw [← hany], hw.below⟩)
theorem contains_any (a : Option Addr) (cap : Nat) (l : List Int) (x : Int) (h : Heap) (hs : SlT encI 1 a l h) (hl : l.length ≤ 10000000000000) (w : World) (hw : Holds h w) :
    Calls Tryd.prog 63 #[.slice a l.length cap, .int .i64 x] w fun e w' => e = .returned (.bool (decide (x ∈ l))) ∧ Below w.heap.size w w' := by
  have hn := idxR_nn x l 0 (by omega)
  refine calls_of_JC (R := h) Tryd.func63 Tryd.ntmps63 rfl rfl (hw) ?_
  repeat' first
    | (refine J.isJ ?_; first | (first | (refine J.o 0 ?_; refine J.ev' hΓ ?_) | refine J.nil ?_ | refine J.kd ?_ | (refine J.o 4 ?_; first | refine J.e0 hΓ ?_ | refine J.e1 hΓ ?_ | refine J.e2 hΓ ?_ | refine J.lT default hΓ ?_ | refine J.lR hΓ ?_) | (refine J.o 3 ?_; first | refine J.iJ hΓ ?_ | refine J.fP hΓ ?_ | refine J.iC hΓ ?_ | refine J.ev' hΓ ?_) | (refine J.o 1 ?_; first | refine J.ad ?_ | refine J.sb ?_ | refine J.ng ?_) | (refine J.o 5 ?_; first | refine J.t0 hΓ ?_ | refine J.t1 hΓ ?_ | refine J.t2 hΓ ?_ | refine J.tT _ default hΓ (fun _ _ => ?_) | refine J.tT1 _ default hΓ (fun _ _ => ?_) | refine J.tT2 _ default hΓ (fun _ _ => ?_)) | (refine J.o 6 ?_; refine J.bx (fun _ => ?_)) | (refine J.o 7 ?_; refine J.al hΓ (fun _ => ?_)) | (refine J.o 8 ?_; refine J.bd hΓ ?_) | (refine J.o 9 ?_; refine J.bl hΓ (fun _ => ?_)) | (refine J.o 10 ?_; refine J.ev' hΓ ?_) | (refine J.o 11 ?_; refine J.ev' hΓ ?_) | refine J.kn ?_) | ((refine J.fc 74 ?_; refine J.call0 eIndex rfl rfl (fun w hw => index_any a cap l x h hs hl w (hw.rdH (RdH.old fun _ hh => hh))) ?_)) | ((fail_if_success refine J.wt ?_); refine J.gc rfl rfl (fun hc => ?_) (fun hc => ?_) <;> ((try simp only [decide_eq_true_eq, decide_eq_false_iff_not, beq_iff_eq, beq_eq_false_iff_ne, bne_iff_ne, bne_eq_false_iff_eq, Bool.not_eq_true', Bool.not_eq_false', Bool.not_eq_true, Bool.not_eq_false] at hc) <;> first | (first | (exact absurd rfl hc) | (exfalso; omega) | (exact absurd (hc.symm.trans (by assumption : _ = false)) (by decide)) | (exact absurd (hc.symm.trans (by assumption : _ = true)) (by decide))) | skip)))
    | (first | refine JC.seq ?_ | refine JC.region ?_ | refine JC.block ?_ | refine JC.ret ?_ | refine JC.exit ?_ | refine JC.skip ?_ | refine thenK.nn ?_ | refine thenK.r ?_ | refine thenK.x ?_ | refine blockK.nn ?_ | refine blockK.r ?_ | refine blockK.hit rfl ?_ | refine blockK.miss rfl ?_ | refine JC.condT rfl ?_ | refine JC.condF rfl ?_ | (refine JC.cond rfl (fun hc => ?_) (fun hc => ?_) <;> ((try simp only [decide_eq_true_eq, decide_eq_false_iff_not, beq_iff_eq, beq_eq_false_iff_ne, bne_iff_ne, bne_eq_false_iff_eq, Bool.not_eq_true', Bool.not_eq_false', Bool.not_eq_true, Bool.not_eq_false] at hc) <;> first | (first | (exact absurd rfl hc) | (exfalso; omega) | (exact absurd (hc.symm.trans (by assumption : _ = false)) (by decide)) | (exact absurd (hc.symm.trans (by assumption : _ = true)) (by decide))) | skip)) | (refine JC.drawA [] (by kernel_rfl) (by kernel_rfl) ?_) | refine drawK.nn ?_ | refine roundK.nn ?_ | refine roundK.r ?_ | refine roundK.x ?_ | refine loopK.r ?_ | refine loopK.x ?_)
    | fail
  all_goals first | (exfalso; omega) | skip
  all_goals exact ret1f rfl rfl rfl (fun w1 hw => ⟨retB (by rw [decide_eq_decide]; exact hn), hw.below⟩)
/-- the literals so far, in a map -/
def LM (lits : List Int) (lm : List (Int × Bool)) : Prop := ∀ x, mget lm x = if x ∈ lits then some true else none
theorem LM.put {lits : List Int} {lm : List (Int × Bool)} (h : LM lits lm) (y : Int) : LM (y :: lits) (mput lm y true) := fun x => by
  rw [mget_mput, h x]
  by_cases e : x = y
  · rw [if_pos e, if_pos (by rw [e]; exact List.mem_cons_self)]
  · rw [if_neg e]
    by_cases hx : x ∈ lits
    · rw [if_pos hx, if_pos (List.mem_cons_of_mem _ hx)]
    · rw [if_neg hx, if_neg (fun hm => (List.mem_cons.1 hm).elim e hx)]
section
variable {P : Program} {n : Nat} {w0 : World} {R : Heap} {K0 : Exit → Fr → List Heap → Prop} {f : Fr} {L : List Heap} {l0 : List Oper} {rest : List (Nat × Oper)} {q : Nat}
variable {Γ : List (Nat × TI)} {d : Nat} {ty : TypeId} {pos : String} {aft : Array Edge} {g : Option (Nat × Bool)} {kt e : TypeId}
/-- m[x] in a set of literals -/
theorem J.lkB {t : TypeId} {m x : Operand} {mm : List (Int × Bool)} {lits : List Int} {b : Nat} {h : Heap} {a : Int} {s1 s2 b1 b2 : Nat} {z1 : Option Value} {de : TypeDesc} (K : Go.Maps.Keyed P kt) (hml : LM lits mm) (mt : MapT P kt ekI evB mm b h) (hr : RdH R L h) (hkey : ∃ l, keyOf P kt (ekI a) = some l) (hΓ : Fits P Γ)
    (k : J P n w0 R l0 K0 rest (upd f d (.bool (lits.contains a))) L)
    (hg : wantB n f l0 ⟨some d, .lookup t m x false, ty, pos, aft, g⟩ = true := by exact rfl) (hm : Cx.ev n f m = .map (some b) := by exact rfl) (hx : Cx.ev n f x = ekI a := by exact rfl) (ht : Go.Cx.look Γ t = some ⟨.map kt e, s1, z1, b1⟩ := by exact rfl) (he : Go.Cx.look Γ e = some ⟨de, s2, some (.bool false), b2⟩ := by exact rfl) :
    J P n w0 R l0 K0 ((q + 1, ⟨some d, .lookup t m x false, ty, pos, aft, g⟩) :: rest) f L := by
  refine J.lk K ekI_inj mt hr hkey hΓ ?_ hg hm hx ht he
  rw [hml a]
  by_cases h : a ∈ lits
  · rw [if_pos h]
    rw [List.contains_iff_mem.2 h] at k
    exact k
  · rw [if_neg h]
    rw [show lits.contains a = false by simpa using h] at k
    exact k
end
theorem addS_end {B : List PN} {drop end_ i : Int} {s : St} (he : kindP B i = end_) : addS B drop end_ s i = ⟨s.out, if kindP B i = 2 then litP B i :: s.lits else s.lits, false⟩ := by
  unfold addS
  simp [he]
theorem addS_opp {B : List PN} {drop end_ i : Int} {s : St} (h2 : kindP B i = 2) (hc : s.lits.contains (-(litP B i)) = true) : addS B drop end_ s i = ⟨s.out, if kindP B i = 2 then litP B i :: s.lits else s.lits, false⟩ := by
  unfold addS
  simp only [h2, hc, decide_true, Bool.true_and, Bool.or_true, Bool.not_true, Bool.and_false]
  simp
theorem addS_bad {B : List PN} {end_ i : Int} {s : St} (he : kindP B i ≠ end_) (h2 : kindP B i ≠ 2 ∨ s.lits.contains (-(litP B i)) = false) : (decide (kindP B i = end_) || (decide (kindP B i = 2) && s.lits.contains (-(litP B i)))) = false := by
  rw [decide_eq_false he, Bool.false_or]
  rcases h2 with h2 | h2
  · rw [decide_eq_false h2]; rfl
  · rw [h2, Bool.and_false]
theorem addS_add {B : List PN} {drop end_ i : Int} {s : St} (he : kindP B i ≠ end_) (h2 : kindP B i ≠ 2 ∨ s.lits.contains (-(litP B i)) = false) (hd : kindP B i ≠ drop) (hm : i ∉ s.out) : addS B drop end_ s i = ⟨s.out ++ [i], if kindP B i = 2 then litP B i :: s.lits else s.lits, s.open_⟩ := by
  unfold addS
  simp only [addS_bad he h2, Bool.not_false, Bool.and_true, true_and]
  rw [if_pos ⟨hd, hm⟩]
theorem addS_drop {B : List PN} {drop end_ i : Int} {s : St} (he : kindP B i ≠ end_) (h2 : kindP B i ≠ 2 ∨ s.lits.contains (-(litP B i)) = false) (hd : kindP B i = drop ∨ i ∈ s.out) : addS B drop end_ s i = ⟨s.out, if kindP B i = 2 then litP B i :: s.lits else s.lits, s.open_⟩ := by
  unfold addS
  have : ¬ (kindP B i ≠ drop ∧ i ∉ s.out) := fun h => hd.elim h.1 h.2
  simp only [addS_bad he h2, Bool.not_false, Bool.and_true, true_and]
  rw [if_neg this]
theorem eAdd1 : Entr Tryd.prog 62 := Entr.of Tryd.func62 rfl rfl
def ptrO (b : Nat) : Obj := .cells ⟨[.pointer (some ⟨b, 0, none⟩)]⟩ 41 (0, 0)
def slO (a : Option Addr) (len cap : Nat) : Obj := .cells ⟨[.slice a len cap]⟩ 38 (0, 0)
def mapO (b : Nat) : Obj := .cells ⟨[.map (some b)]⟩ 82 (0, 0)
def boolO (b : Bool) : Obj := .cells ⟨[.bool b]⟩ 4 (0, 0)
/-- what the closure of inputs reads -/
structure AddR (R : Heap) (L : List Heap) (n5 n8 n9 : Nat) (n : Int) (b : Nat) (a : Option Addr) (vs : List NV) (cap bm : Nat) (ho : Heap) (drop end_ : Int) : Prop where
  rb : Rd R L n5 (ptrO b)
  rd : Rd R L n8 (intO drop)
  re : Rd R L n9 (intO end_)
  rB : Rd R L b (bO n a vs.length cap bm)
  rN : RdH R L ho
/-- what it writes -/
structure AddW (s : St) (ao : Option Addr) (co : Nat) (hO : Heap) (lm : List (Int × Bool)) (bl : Nat) (hM : Heap) : Prop where
  oo : OwT encI 1 3 ao co s.out hO
  mt : MapT Tryd.prog 3 ekI evB lm bl hM
  ml : LM s.lits lm
def addL (s : St) (n12 n13 n14 : Nat) (ao : Option Addr) (co : Nat) (hO : Heap) (bl : Nat) (hM : Heap) : List Heap := [[(n12, slO ao s.out.length co)], hO, [(n13, mapO bl)], hM, [(n14, boolO s.open_)]]
theorem add1_any (i : Int) {w0 w : World} {R : Heap} {L : List Heap} {n5 n8 n9 n12 n13 n14 b cap bm co bl : Nat} {n drop end_ : Int} {a ao : Option Addr} {vs : List NV} {s : St} {ho hO hM : Heap} {lm : List (Int × Bool)} (rd : AddR R L n5 n8 n9 n b a vs cap bm ho drop end_) (ow : OwT encNV 3 40 a cap vs ho) (hi : 0 ≤ i ∧ i < vs.length) (hvl : vs.length ≤ 1000000) (hlit : ∀ v, v ∈ vs → -128 ≤ v.lit ∧ v.lit ≤ 128) (aw : AddW s ao co hO lm bl hM) (hol : s.out.length ≤ 10000000000000) (hw : H w0 R (addL s n12 n13 n14 ao co hO bl hM ++ L) w) :
    Calls Tryd.prog 62 #[.int .i64 i, .pointer (some ⟨n5, 0, none⟩), .pointer (some ⟨n9, 0, none⟩), .pointer (some ⟨n13, 0, none⟩), .pointer (some ⟨n14, 0, none⟩), .pointer (some ⟨n8, 0, none⟩), .pointer (some ⟨n12, 0, none⟩)] w fun e w' => ∃ v' L', e = .returned v' ∧ H w0 R L' w' ∧ ∃ ao' co' hO' lm' hM', v' = .tuple #[] ∧ L' = addL (addS (vs.map pnV) drop end_ s i) n12 n13 n14 ao' co' hO' bl hM' ++ L ∧ AddW (addS (vs.map pnV) drop end_ s i) ao' co' hO' lm' bl hM' := by
  obtain ⟨rb, rdd, re, rB, rN⟩ := rd
  obtain ⟨oo, mt, ml⟩ := aw
  obtain ⟨k, rfl⟩ : ∃ k : Nat, i = (k : Int) := ⟨i.toNat, by omega⟩
  have hk : k < vs.length := by omega
  have hv := hlit _ (mem_g vs k hk)
  have hkind : kindP (vs.map pnV) k = (vs.getD k default).kind := by unfold kindP; rw [Int.toNat_natCast, getD_map]; rfl
  have hlitP : litP (vs.map pnV) k = (vs.getD k default).lit := by unfold litP; rw [Int.toNat_natCast, getD_map]; rfl
  unfold ptrO at rb
  unfold intO at rdd re
  unfold bO at rB
  unfold addL at hw ⊢
  simp only [List.cons_append, List.nil_append] at hw ⊢
  refine calls_in Tryd.func62 Tryd.ntmps62 rfl rfl (hw) ?_
  unfold slO mapO boolO
  repeat' first
    | (refine J.isJ ?_; first | (first | (refine J.o 4 ?_; first | refine J.lR hΓ ?_ (hr := rb.tl.tl.tl.tl.tl) | refine J.lR hΓ ?_ (hr := rB.tl.tl.tl.tl.tl) | refine J.lT default hΓ ?_ (hs := ow.sl) (hr := rN.tl.tl.tl.tl.tl) | refine J.lR hΓ ?_ (hr := re.tl.tl.tl.tl.tl.tl) | refine J.lR hΓ ?_ (hr := rdd.tl.tl.tl.tl.tl.tl)) | (refine J.o 4 ?_; first | refine J.e3 hΓ ?_ | refine J.e4 hΓ ?_) | (refine J.o 9 ?_; refine J.lkB keyedI ml mt (RdH.hd.tl.tl.tl.tl) (keyI (-(vs.getD k default).lit) (by omega)) hΓ ?_) | (refine J.fc 63 ?_; refine J.call0 eContains rfl rfl (fun w hw => contains_any ao co s.out k hO oo.sl hol w (hw.rdH RdH.hd.tl.tl)) ?_) | (refine J.o 9 ?_; first | (first | (refine J.ap1 (enc := encI) [(k : Int)] hΓ (fun a2 c2 h2 o2 => ?_)) | (refine J.perm (br1.cons _) ?_; refine J.ap1 (enc := encI) [(k : Int)] hΓ (fun a2 c2 h2 o2 => ?_)) | (refine J.perm (br2.cons _) ?_; refine J.ap1 (enc := encI) [(k : Int)] hΓ (fun a2 c2 h2 o2 => ?_)) | (refine J.perm (br3.cons _) ?_; refine J.ap1 (enc := encI) [(k : Int)] hΓ (fun a2 c2 h2 o2 => ?_)) | (refine J.perm (br4.cons _) ?_; refine J.ap1 (enc := encI) [(k : Int)] hΓ (fun a2 c2 h2 o2 => ?_)) | (refine J.perm (br5.cons _) ?_; refine J.ap1 (enc := encI) [(k : Int)] hΓ (fun a2 c2 h2 o2 => ?_))) | (refine J.perm br1 ?_; first | (refine J.ap1 (enc := encI) [(k : Int)] hΓ (fun a2 c2 h2 o2 => ?_)) | (refine J.perm (br1.cons _) ?_; refine J.ap1 (enc := encI) [(k : Int)] hΓ (fun a2 c2 h2 o2 => ?_)) | (refine J.perm (br2.cons _) ?_; refine J.ap1 (enc := encI) [(k : Int)] hΓ (fun a2 c2 h2 o2 => ?_)) | (refine J.perm (br3.cons _) ?_; refine J.ap1 (enc := encI) [(k : Int)] hΓ (fun a2 c2 h2 o2 => ?_)) | (refine J.perm (br4.cons _) ?_; refine J.ap1 (enc := encI) [(k : Int)] hΓ (fun a2 c2 h2 o2 => ?_)) | (refine J.perm (br5.cons _) ?_; refine J.ap1 (enc := encI) [(k : Int)] hΓ (fun a2 c2 h2 o2 => ?_))) | (refine J.perm br2 ?_; first | (refine J.ap1 (enc := encI) [(k : Int)] hΓ (fun a2 c2 h2 o2 => ?_)) | (refine J.perm (br1.cons _) ?_; refine J.ap1 (enc := encI) [(k : Int)] hΓ (fun a2 c2 h2 o2 => ?_)) | (refine J.perm (br2.cons _) ?_; refine J.ap1 (enc := encI) [(k : Int)] hΓ (fun a2 c2 h2 o2 => ?_)) | (refine J.perm (br3.cons _) ?_; refine J.ap1 (enc := encI) [(k : Int)] hΓ (fun a2 c2 h2 o2 => ?_)) | (refine J.perm (br4.cons _) ?_; refine J.ap1 (enc := encI) [(k : Int)] hΓ (fun a2 c2 h2 o2 => ?_)) | (refine J.perm (br5.cons _) ?_; refine J.ap1 (enc := encI) [(k : Int)] hΓ (fun a2 c2 h2 o2 => ?_)))) | (refine J.o 5 ?_; first | (refine J.perm br3 ?_; refine J.t0 hΓ ?_) | (refine J.perm br4 ?_; refine J.t0 hΓ ?_) | (refine J.perm br5 ?_; refine J.t0 hΓ ?_) | (refine J.perm br6 ?_; refine J.t0 hΓ ?_) | (refine J.perm br7 ?_; refine J.t0 hΓ ?_)) | (refine J.o 9 ?_; first | refine J.perm br4 (J.mup (ev := evB) true keyedI ekI_inj mt (keyI (vs.getD k default).lit (by omega)) hΓ (fun h3 mt3 => ?_)) | refine J.perm br5 (J.mup (ev := evB) true keyedI ekI_inj mt (keyI (vs.getD k default).lit (by omega)) hΓ (fun h3 mt3 => ?_)))) | (first | (refine J.o 0 ?_; refine J.ev' hΓ ?_) | refine J.nil ?_ | refine J.kd ?_ | (refine J.o 4 ?_; first | refine J.e0 hΓ ?_ | refine J.e1 hΓ ?_ | refine J.e2 hΓ ?_ | refine J.lT default hΓ ?_ | refine J.lR hΓ ?_) | (refine J.o 3 ?_; first | refine J.iJ hΓ ?_ | refine J.fP hΓ ?_ | refine J.iC hΓ ?_ | refine J.ev' hΓ ?_) | (refine J.o 1 ?_; first | refine J.ad ?_ | refine J.sb ?_ | refine J.ng ?_) | (refine J.o 5 ?_; first | refine J.t0 hΓ ?_ | refine J.t1 hΓ ?_ | refine J.t2 hΓ ?_ | refine J.tT _ default hΓ (fun _ _ => ?_) | refine J.tT1 _ default hΓ (fun _ _ => ?_) | refine J.tT2 _ default hΓ (fun _ _ => ?_)) | (refine J.o 6 ?_; refine J.bx (fun _ => ?_)) | (refine J.o 7 ?_; refine J.al hΓ (fun _ => ?_)) | (refine J.o 8 ?_; refine J.bd hΓ ?_) | (refine J.o 9 ?_; refine J.bl hΓ (fun _ => ?_)) | (refine J.o 10 ?_; refine J.ev' hΓ ?_) | (refine J.o 11 ?_; refine J.ev' hΓ ?_) | refine J.kn ?_) | ((fail_if_success refine J.wt ?_); refine J.gc rfl rfl (fun hc => ?_) (fun hc => ?_) <;> ((try simp only [decide_eq_true_eq, decide_eq_false_iff_not, beq_iff_eq, beq_eq_false_iff_ne, bne_iff_ne, bne_eq_false_iff_eq, Bool.not_eq_true', Bool.not_eq_false', Bool.not_eq_true, Bool.not_eq_false] at hc) <;> first | (first | (exact absurd rfl hc) | (exfalso; omega) | (exact absurd (hc.symm.trans (by assumption : _ = false)) (by decide)) | (exact absurd (hc.symm.trans (by assumption : _ = true)) (by decide))) | skip)))
    | (first | refine JC.seq ?_ | refine JC.region ?_ | refine JC.block ?_ | refine JC.ret ?_ | refine JC.exit ?_ | refine JC.skip ?_ | refine thenK.nn ?_ | refine thenK.r ?_ | refine thenK.x ?_ | refine blockK.nn ?_ | refine blockK.r ?_ | refine blockK.hit rfl ?_ | refine blockK.miss rfl ?_ | refine JC.condT rfl ?_ | refine JC.condF rfl ?_ | (refine JC.cond rfl (fun hc => ?_) (fun hc => ?_) <;> ((try simp only [decide_eq_true_eq, decide_eq_false_iff_not, beq_iff_eq, beq_eq_false_iff_ne, bne_iff_ne, bne_eq_false_iff_eq, Bool.not_eq_true', Bool.not_eq_false', Bool.not_eq_true, Bool.not_eq_false] at hc) <;> first | (first | (exact absurd rfl hc) | (exfalso; omega) | (exact absurd (hc.symm.trans (by assumption : _ = false)) (by decide)) | (exact absurd (hc.symm.trans (by assumption : _ = true)) (by decide))) | skip)) | refine drawK.nn ?_ | refine roundK.nn ?_ | refine roundK.r ?_ | refine roundK.x ?_ | refine loopK.r ?_ | refine loopK.x ?_)
    | ((refine JC.drawN [] [] (by kernel_rfl) (by kernel_rfl) ?_))
    | fail
  all_goals first
    | rw [addS_end (hkind.trans (by assumption))]
    | rw [addS_opp (hkind.trans (by assumption)) (by rw [hlitP]; assumption)]
    | rw [addS_add (by rw [hkind]; assumption) (.inl (by rw [hkind]; assumption)) (by rw [hkind]; assumption) (by assumption)]
    | rw [addS_add (by rw [hkind]; assumption) (.inr (by rw [hlitP]; assumption)) (by rw [hkind]; assumption) (by assumption)]
    | rw [addS_drop (by rw [hkind]; assumption) (.inl (by rw [hkind]; assumption)) (.inl (by rw [hkind]; assumption))]
    | rw [addS_drop (by rw [hkind]; assumption) (.inl (by rw [hkind]; assumption)) (.inr (by assumption))]
    | rw [addS_drop (by rw [hkind]; assumption) (.inr (by rw [hlitP]; assumption)) (.inl (by rw [hkind]; assumption))]
    | rw [addS_drop (by rw [hkind]; assumption) (.inr (by rw [hlitP]; assumption)) (.inr (by assumption))]
  all_goals first | rw [if_pos (hkind.trans (by assumption)), hlitP] | rw [if_neg (by rw [hkind]; assumption)]
  all_goals first
    | exact ret0n rfl (fun w1 hw => ⟨_, _, rfl, H.sel (l := [_, _, _, _, _, _]) (M := L) hw [3, 4, 5, 0, 1], _, _, _, _, _, rfl, rfl, ⟨oo, mt3, ml.put _⟩⟩)
    | exact ret0n rfl (fun w1 hw => ⟨_, _, rfl, H.sel (l := [_, _, _, _, _, _]) (M := L) hw [2, 3, 4, 5, 0], _, _, _, _, _, rfl, rfl, ⟨oo, mt, ml⟩⟩)
    | exact ret0n rfl (fun w1 hw => ⟨_, _, rfl, H.sel (l := [_, _, _, _, _, _]) (M := L) hw [3, 1, 4, 0, 5], _, _, _, _, _, rfl, rfl, ⟨o2, mt3, ml.put _⟩⟩)
    | exact ret0n rfl (fun w1 hw => ⟨_, _, rfl, H.sel (l := [_, _, _, _, _, _]) (M := L) hw [2, 0, 3, 4, 5], _, _, _, _, _, rfl, rfl, ⟨o2, mt, ml⟩⟩)
    | exact ret0n rfl (fun w1 hw => ⟨_, _, rfl, H.sel (l := [_, _, _, _, _, _]) (M := L) hw [2, 3, 4, 0, 5], _, _, _, _, _, rfl, rfl, ⟨oo, mt3, ml.put _⟩⟩)
    | exact ret0n rfl (fun w1 hw => ⟨_, _, rfl, H.sel (l := [_, _, _, _, _, _]) (M := L) hw [1, 2, 3, 4, 5], _, _, _, _, _, rfl, rfl, ⟨oo, mt, ml⟩⟩)
    | trace_state
end Go.Proofs.YtncnpmgohhgmfaaDoor
