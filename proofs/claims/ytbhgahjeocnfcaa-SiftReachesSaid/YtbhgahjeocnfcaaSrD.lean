/- SiftReaches: each order is reached from each other one by swaps, with the size that the theory has for it: the law returns true. -/
import Derived.Test.YtbhgahjeocnfcaaSrC
namespace Go.Proofs.Ytbhgahjeocnfcaa
open Go Go.Cx Go.RowKit
set_option linter.unusedVariables false
set_option linter.unusedSimpArgs false
set_option maxHeartbeats 4000000
attribute [local irreducible] J JC thenK blockK loopK drawK retK QW Qt pel List.set Calls
open Go.Maps Go.Lib
set_option maxRecDepth 8000
attribute [local irreducible] JE Br eK0 eK3 brK pc
section
variable {P : Program} {n : Nat} {w0 : World} {R : Heap} {l0 : List Oper} {K : Exit → Fr → List Heap → Prop} {f : Fr} {L : List Heap} {rest : List (Nat × Oper)} {κ : Nat}
variable {d : Nat} {ty : TypeId} {pos : String} {aft : Array Edge} {g : Option (Nat × Bool)} {t u : TypeId} {x y : Operand}
theorem J.eqT2 {Γ : List (Nat × TI)} {a b : Nat} (hΓ : Fits P Γ) (h : a = b) (k : J P n w0 R l0 K rest (upd f d (.bool true)) L) (hg : wantB n f l0 ⟨some d, .binOp .eql t x y u, ty, pos, aft, g⟩ = true := by exact rfl) (hx : Cx.ev n f x = .int .i64 (a : Int) := by exact rfl) (hy : Cx.ev n f y = .int .i64 (b : Int) := by exact rfl) (hv : pureEv Γ (Cx.ev n f) (.binOp .eql t x y u) = some (.bool ((a : Int) == (b : Int))) := by exact rfl) : J P n w0 R l0 K ((κ, ⟨some d, .binOp .eql t x y u, ty, pos, aft, g⟩) :: rest) f L := by
  subst h
  have e : ((a : Int) == (a : Int)) = true := by simp
  rw [e] at hv
  exact J.ev hΓ hg hv k
end
end Go.Proofs.Ytbhgahjeocnfcaa
namespace Go.Proofs.Ytbhgahjeocnfcaa
open Go Go.Cx Go.RowKit
set_option linter.unusedVariables false
set_option linter.unusedSimpArgs false
set_option maxHeartbeats 4000000
attribute [local irreducible] J JC thenK blockK loopK drawK retK QW Qt pel List.set Calls
open Go.Maps Go.Lib
set_option maxRecDepth 8000
attribute [local irreducible] JE Br eK0 eK3 brK pc
def litT (b : Int → Bool) (l : Int) : Bool := if l < 0 then !b (-l) else b l
def evT (b : Int → Bool) (T : List (List Int)) : Bool := T.all fun c => c.any (litT b)
def okTh (N : Nat) (T : List (List Int)) : Prop := N ≤ 128 ∧ T.length ≤ 4096 ∧ ∀ c ∈ T, c.length ≤ 128 ∧ ∀ x ∈ c, x ≠ 0 ∧ -(N : Int) ≤ x ∧ x ≤ N
theorem okTh_iff {N : Nat} {T : List (List Int)} : thE (N : Int) T = 0 ↔ okTh N T := by
  rw [thE_ok]
  unfold okTh
  constructor
  · rintro ⟨h1, h2, h3⟩; exact ⟨by omega, h2, h3⟩
  · rintro ⟨h1, h2, h3⟩; exact ⟨⟨by omega, by omega⟩, h2, h3⟩
end Go.Proofs.Ytbhgahjeocnfcaa
namespace Go.Proofs.Ytbhgahjeocnfcaa
open Go Go.Cx Go.RowKit
set_option linter.unusedVariables false
set_option linter.unusedSimpArgs false
set_option maxHeartbeats 4000000
attribute [local irreducible] J JC thenK blockK loopK drawK retK QW Qt pel List.set Calls
open Go.Maps Go.Lib
set_option maxRecDepth 8000
attribute [local irreducible] JE Br eK0 eK3 brK pc
theorem ePairs : Entr Try.prog 49 := Entr.of Try.func49 rfl rfl
def pairP (k : Nat) : Nat → List (List Int)
  | 0 => []
  | i + 1 => pairP k i ++ [[-((i : Int) + 1), -((i : Int) + 1) - k]]
def ThV (N : Nat) (T : List (List Int)) (v : Value) (h : Heap) : Prop := ∃ a c vs, v = .agg ⟨[.int .i64 (N : Int), .slice a vs.length c]⟩ ∧ vs.map (·.l) = T ∧ LLR a vs h
def cellT (b k : Nat) (a : Option Addr) (n c : Nat) : Heap := [(b, .cells ⟨[.int .i64 ((2 * k : Nat) : Int), .slice a n c]⟩ 24 (0, 0))]
theorem pairs_any (k : Nat) (hk : k ≤ 100) (w : World) : Calls Try.prog 49 #[.int .i64 (k : Int)] w (Gives (ThV (2 * k) (pairP k k)) w) := by
  refine calls_of_JC (R := []) Try.func49 Try.ntmps49 rfl rfl (Holds.nil _) ?_
  refine JC.seq ?_
  refine JC.region ?_
  refine J.isJ ?_
  refine J.o 7 ?_
  refine J.al hΓ (fun b2 => ?_)
  repeat' first
    | (refine J.isJ ?_; first | (first | (refine J.o 1 ?_; refine J.gmul (a := 2) (b := k) ?_ (hw := wI64 (by omega))) | (refine J.o 7 ?_; refine J.al hΓ (fun b3 => ?_))) | (first | (refine J.o 0 ?_; refine J.ev' hΓ ?_) | refine J.nil ?_ | (refine J.o 4 ?_; first | refine J.lR hΓ ?_) | (refine J.o 3 ?_; first | refine J.ev' hΓ ?_) | (refine J.o 1 ?_; first | refine J.ad ?_ | refine J.sb ?_ | refine J.ng ?_) | (refine J.o 5 ?_; first | refine J.t0 hΓ ?_ | refine J.t2 hΓ ?_) | (refine J.o 7 ?_; refine J.al hΓ (fun _ => ?_)) | (refine J.o 8 ?_; refine J.bd hΓ ?_) | (refine J.o 9 ?_; refine J.bl hΓ (fun _ => ?_)) | (refine J.o 10 ?_; refine J.ev' hΓ ?_) | (refine J.o 11 ?_; refine J.ev' hΓ ?_)))
    | (first | refine JC.seq ?_ | refine JC.region ?_ | refine JC.block ?_ | refine JC.ret ?_ | refine JC.exit ?_ | refine JC.skip ?_ | refine thenK.nn ?_ | refine thenK.x ?_ | refine blockK.nn ?_ | refine blockK.hit rfl ?_ | (refine JC.cond rfl (fun hc => ?_) (fun hc => ?_) <;> ((try simp only [decide_eq_true_eq, decide_eq_false_iff_not, beq_iff_eq, beq_eq_false_iff_ne, bne_iff_ne, bne_eq_false_iff_eq, Bool.not_eq_true', Bool.not_eq_false', Bool.not_eq_true, Bool.not_eq_false] at hc) <;> first | (first | (exact absurd rfl hc) | (exfalso; omega) | (exact absurd (hc.symm.trans (by assumption : _ = false)) (by decide)) | (exact absurd (hc.symm.trans (by assumption : _ = true)) (by decide))) | skip)) | refine loopK.x ?_)
    | (fail)
    | fail
  all_goals first | (exfalso; omega) | skip
  refine JC.nilF (JC.nilF (JC.perm (bring_perm 2 _) ?_))
  refine JC.loopG (fun i => i == 4 || Nat.ble 8 i) (fun m g L => ∃ (i : Nat) (vs : List HV) (aO : Option Addr) (cO : Nat) (hO hI : Heap), g 4 = .int .i64 ((i + 1 : Nat) : Int) ∧ i + m = k ∧ vs.length = i ∧ vs.map (·.l) = pairP k i ∧ OwT encHV 1 28 aO cO vs hO ∧ (∀ v ∈ vs, SlT encI 1 v.a v.l hI) ∧ L = [cellT b3 k aO vs.length cO, hO, hI, [(b2, .cells ⟨[.int .i64 0, .slice none 0 0]⟩ 24 (0, 0))]]) k ⟨0, [], none, 0, [], [], rfl, by omega, rfl, rfl, OwT.nil (fun _ => rfl), fun v hv => (by cases hv), rfl⟩ ?_
  rintro m g L ⟨i, vs, aO, cO, hO, hI, e4, him, hvl, hvs, oO, sI, rfl⟩
  refine JC.pin 4 e4 ?_
  unfold cellT
  rcases Nat.lt_or_ge i k with hik | hik
  ·
    repeat' first
      | (refine J.isJ ?_; first | (first | (refine J.o 4 ?_; refine J.lR hΓ ?_ (hr := Rd.hd)) | (refine J.o 9 ?_; first | refine J.bl (e := 3) hΓ (fun bl => ?_) | refine J.bl (e := 28) hΓ (fun bm => ?_)) | (refine J.o 9 ?_; first | (first | (refine J.ap1 (enc := encHV) [(⟨some ⟨bl, 0, none⟩, 2, [-((i : Int) + 1), -((i : Int) + 1) - k]⟩ : HV)] hΓ (fun a2 c2 h2 o2 => ?_)) | (refine J.perm (br1.cons _) ?_; refine J.ap1 (enc := encHV) [(⟨some ⟨bl, 0, none⟩, 2, [-((i : Int) + 1), -((i : Int) + 1) - k]⟩ : HV)] hΓ (fun a2 c2 h2 o2 => ?_)) | (refine J.perm (br2.cons _) ?_; refine J.ap1 (enc := encHV) [(⟨some ⟨bl, 0, none⟩, 2, [-((i : Int) + 1), -((i : Int) + 1) - k]⟩ : HV)] hΓ (fun a2 c2 h2 o2 => ?_)) | (refine J.perm (br3.cons _) ?_; refine J.ap1 (enc := encHV) [(⟨some ⟨bl, 0, none⟩, 2, [-((i : Int) + 1), -((i : Int) + 1) - k]⟩ : HV)] hΓ (fun a2 c2 h2 o2 => ?_)) | (refine J.perm (br4.cons _) ?_; refine J.ap1 (enc := encHV) [(⟨some ⟨bl, 0, none⟩, 2, [-((i : Int) + 1), -((i : Int) + 1) - k]⟩ : HV)] hΓ (fun a2 c2 h2 o2 => ?_)) | (refine J.perm (br5.cons _) ?_; refine J.ap1 (enc := encHV) [(⟨some ⟨bl, 0, none⟩, 2, [-((i : Int) + 1), -((i : Int) + 1) - k]⟩ : HV)] hΓ (fun a2 c2 h2 o2 => ?_))) | (refine J.perm br1 ?_; first | (refine J.ap1 (enc := encHV) [(⟨some ⟨bl, 0, none⟩, 2, [-((i : Int) + 1), -((i : Int) + 1) - k]⟩ : HV)] hΓ (fun a2 c2 h2 o2 => ?_)) | (refine J.perm (br1.cons _) ?_; refine J.ap1 (enc := encHV) [(⟨some ⟨bl, 0, none⟩, 2, [-((i : Int) + 1), -((i : Int) + 1) - k]⟩ : HV)] hΓ (fun a2 c2 h2 o2 => ?_)) | (refine J.perm (br2.cons _) ?_; refine J.ap1 (enc := encHV) [(⟨some ⟨bl, 0, none⟩, 2, [-((i : Int) + 1), -((i : Int) + 1) - k]⟩ : HV)] hΓ (fun a2 c2 h2 o2 => ?_)) | (refine J.perm (br3.cons _) ?_; refine J.ap1 (enc := encHV) [(⟨some ⟨bl, 0, none⟩, 2, [-((i : Int) + 1), -((i : Int) + 1) - k]⟩ : HV)] hΓ (fun a2 c2 h2 o2 => ?_)) | (refine J.perm (br4.cons _) ?_; refine J.ap1 (enc := encHV) [(⟨some ⟨bl, 0, none⟩, 2, [-((i : Int) + 1), -((i : Int) + 1) - k]⟩ : HV)] hΓ (fun a2 c2 h2 o2 => ?_)) | (refine J.perm (br5.cons _) ?_; refine J.ap1 (enc := encHV) [(⟨some ⟨bl, 0, none⟩, 2, [-((i : Int) + 1), -((i : Int) + 1) - k]⟩ : HV)] hΓ (fun a2 c2 h2 o2 => ?_))) | (refine J.perm br2 ?_; first | (refine J.ap1 (enc := encHV) [(⟨some ⟨bl, 0, none⟩, 2, [-((i : Int) + 1), -((i : Int) + 1) - k]⟩ : HV)] hΓ (fun a2 c2 h2 o2 => ?_)) | (refine J.perm (br1.cons _) ?_; refine J.ap1 (enc := encHV) [(⟨some ⟨bl, 0, none⟩, 2, [-((i : Int) + 1), -((i : Int) + 1) - k]⟩ : HV)] hΓ (fun a2 c2 h2 o2 => ?_)) | (refine J.perm (br2.cons _) ?_; refine J.ap1 (enc := encHV) [(⟨some ⟨bl, 0, none⟩, 2, [-((i : Int) + 1), -((i : Int) + 1) - k]⟩ : HV)] hΓ (fun a2 c2 h2 o2 => ?_)) | (refine J.perm (br3.cons _) ?_; refine J.ap1 (enc := encHV) [(⟨some ⟨bl, 0, none⟩, 2, [-((i : Int) + 1), -((i : Int) + 1) - k]⟩ : HV)] hΓ (fun a2 c2 h2 o2 => ?_)) | (refine J.perm (br4.cons _) ?_; refine J.ap1 (enc := encHV) [(⟨some ⟨bl, 0, none⟩, 2, [-((i : Int) + 1), -((i : Int) + 1) - k]⟩ : HV)] hΓ (fun a2 c2 h2 o2 => ?_)) | (refine J.perm (br5.cons _) ?_; refine J.ap1 (enc := encHV) [(⟨some ⟨bl, 0, none⟩, 2, [-((i : Int) + 1), -((i : Int) + 1) - k]⟩ : HV)] hΓ (fun a2 c2 h2 o2 => ?_))))) | (first | (refine J.o 0 ?_; refine J.ev' hΓ ?_) | refine J.nil ?_ | (refine J.o 4 ?_; first | refine J.lR hΓ ?_) | (refine J.o 3 ?_; first | refine J.ev' hΓ ?_) | (refine J.o 1 ?_; first | refine J.ad ?_ | refine J.sb ?_ | refine J.ng ?_) | (refine J.o 5 ?_; first | refine J.t0 hΓ ?_ | refine J.t2 hΓ ?_) | (refine J.o 7 ?_; refine J.al hΓ (fun _ => ?_)) | (refine J.o 8 ?_; refine J.bd hΓ ?_) | (refine J.o 9 ?_; refine J.bl hΓ (fun _ => ?_)) | (refine J.o 10 ?_; refine J.ev' hΓ ?_) | (refine J.o 11 ?_; refine J.ev' hΓ ?_)))
      | (first | refine JC.seq ?_ | refine JC.region ?_ | refine JC.block ?_ | refine JC.ret ?_ | refine JC.exit ?_ | refine JC.skip ?_ | refine thenK.nn ?_ | refine thenK.x ?_ | refine blockK.nn ?_ | refine blockK.hit rfl ?_ | (refine JC.cond rfl (fun hc => ?_) (fun hc => ?_) <;> ((try simp only [decide_eq_true_eq, decide_eq_false_iff_not, beq_iff_eq, beq_eq_false_iff_ne, bne_iff_ne, bne_eq_false_iff_eq, Bool.not_eq_true', Bool.not_eq_false', Bool.not_eq_true, Bool.not_eq_false] at hc) <;> first | (first | (exact absurd rfl hc) | (exfalso; omega) | (exact absurd (hc.symm.trans (by assumption : _ = false)) (by decide)) | (exact absurd (hc.symm.trans (by assumption : _ = true)) (by decide))) | skip)) | refine loopK.x ?_)
      | (fail)
      | fail
    all_goals first | (exfalso; omega) | skip
    have hsl : SlT encI 1 (some ⟨bl, 0, none⟩) [-((i : Int) + 1), -((i : Int) + 1) - k] [(bl, .cells ⟨[.int .i64 (-((i + 1 : Nat) : Int)), .int .i64 (-((i + 1 : Nat) : Int) - k)]⟩ 3 (0, 0))] := slArg bl [-((i : Int) + 1), -((i : Int) + 1) - k] 3
    refine loopK.nn (m - 1) (by omega) (by repeat (first | refine Ag.upd rfl ?_ | exact Ag.hv)) ⟨_, ⟨i + 1, vs ++ [⟨some ⟨bl, 0, none⟩, 2, [-((i : Int) + 1), -((i : Int) + 1) - k]⟩], a2, c2, h2, [(bl, .cells ⟨[.int .i64 (-((i + 1 : Nat) : Int)), .int .i64 (-((i + 1 : Nat) : Int) - k)]⟩ 3 (0, 0))] ++ hI, ?_, by omega, by rw [List.length_append, hvl]; rfl, by rw [List.map_append, hvs]; rfl, o2, fun v hv => ?_, rfl⟩, fun w hw => by
      have hw2 := (H.sel (l := [_, _, _, _, _]) (M := []) hw [1, 3, 2, 0, 4]).mg1
      exact H.sel (l := [_, _, _, _]) (M := []) hw2 [1, 2, 0, 3]⟩
    · show Value.int .i64 _ = _; congr 1
    · rcases List.mem_append.1 hv with g | g
      · exact (sI v g).sub fun x hx => List.mem_append_right _ hx
      · rw [List.mem_singleton.1 g]
        exact hsl.sub fun x hx => List.mem_append_left _ hx
  ·
    obtain rfl : i = k := by omega
    repeat' first
      | (refine J.isJ ?_; first | (first | (refine J.o 4 ?_; refine J.lR hΓ ?_ (hr := Rd.hd)) | (refine J.o 5 ?_; first | (refine J.perm br3 ?_; refine J.t0 hΓ ?_) | (refine J.perm br4 ?_; refine J.t0 hΓ ?_) | (refine J.perm br5 ?_; refine J.t0 hΓ ?_) | (refine J.perm br6 ?_; refine J.t0 hΓ ?_) | (refine J.perm br7 ?_; refine J.t0 hΓ ?_))) | (first | (refine J.o 0 ?_; refine J.ev' hΓ ?_) | refine J.nil ?_ | (refine J.o 4 ?_; first | refine J.lR hΓ ?_) | (refine J.o 3 ?_; first | refine J.ev' hΓ ?_) | (refine J.o 1 ?_; first | refine J.ad ?_ | refine J.sb ?_ | refine J.ng ?_) | (refine J.o 5 ?_; first | refine J.t0 hΓ ?_ | refine J.t2 hΓ ?_) | (refine J.o 7 ?_; refine J.al hΓ (fun _ => ?_)) | (refine J.o 8 ?_; refine J.bd hΓ ?_) | (refine J.o 9 ?_; refine J.bl hΓ (fun _ => ?_)) | (refine J.o 10 ?_; refine J.ev' hΓ ?_) | (refine J.o 11 ?_; refine J.ev' hΓ ?_)))
      | (first | refine JC.seq ?_ | refine JC.region ?_ | refine JC.block ?_ | refine JC.ret ?_ | refine JC.exit ?_ | refine JC.skip ?_ | refine thenK.nn ?_ | refine thenK.x ?_ | refine blockK.nn ?_ | refine blockK.hit rfl ?_ | (refine JC.cond rfl (fun hc => ?_) (fun hc => ?_) <;> ((try simp only [decide_eq_true_eq, decide_eq_false_iff_not, beq_iff_eq, beq_eq_false_iff_ne, bne_iff_ne, bne_eq_false_iff_eq, Bool.not_eq_true', Bool.not_eq_false', Bool.not_eq_true, Bool.not_eq_false] at hc) <;> first | (first | (exact absurd rfl hc) | (exfalso; omega) | (exact absurd (hc.symm.trans (by assumption : _ = false)) (by decide)) | (exact absurd (hc.symm.trans (by assumption : _ = true)) (by decide))) | skip)) | refine loopK.x ?_)
      | (fail)
      | fail
    all_goals first | (exfalso; omega) | skip
    refine retC hΓ rfl rfl rfl Rd.hd rfl (fun w1 hw => ?_)
    have hw2 := (H.sel (l := [_, _, _, _]) (M := []) hw [2, 3]).mg1
    exact Gives.of hw2 ⟨aO, cO, vs, rfl, hvs, oO.sl.sub fun x hx => List.mem_append_left _ hx, fun v hv => (sI v hv).sub fun x hx => List.mem_append_right _ hx⟩
def thF (T : List (List Int)) : VF := fun β => evT β T
theorem thA_ev {l : List Int} {N : Nat} {T : List (List Int)} (hok : okTh N T) (hm : ∀ v : Int, 1 ≤ v → v ≤ N → v ∈ l) (β : Int → Bool) : thA l T (asgV l β) = evT β T := by
  have hlit : ∀ c ∈ T, ∀ x ∈ c, litA l x (asgV l β) = litT β x := fun c hc x hx => by
    have h := (hok.2.2 c hc).2 x hx
    have hN := hok.1
    have hv := varI_ok hN h
    obtain ⟨k, hk⟩ : ∃ k, rk l (varI x) 0 = some k := by
      cases g : rk l (varI x) 0 with
      | some k => exact ⟨k, rfl⟩
      | none => exact absurd (hm _ hv.1 hv.2) (rk_none.1 g)
    have hg := (rk_some hk).2.2
    rw [Nat.sub_zero] at hg
    unfold litT
    by_cases hn : x < 0
    · have hx2 : varI x = -x := by unfold varI; rw [if_neg (by omega), if_pos (by omega)]
      rw [litA_neg hn hk, if_pos hn]
      unfold asgV
      rw [hg, hx2]
    · have hx2 : varI x = x := by unfold varI; rw [if_pos (by omega)]
      rw [litA_pos hn hk, if_neg hn]
      unfold asgV
      rw [hg, hx2]
  unfold thA evT clA
  rw [Bool.eq_iff_iff, List.all_eq_true, List.all_eq_true]
  refine forall_congr' fun c => forall_congr' fun hc => ?_
  rw [List.any_eq_true, List.any_eq_true]
  refine exists_congr fun x => ?_
  constructor
  · rintro ⟨h1, h2⟩; exact ⟨h1, by rw [← hlit c hc x h1]; exact h2⟩
  · rintro ⟨h1, h2⟩; exact ⟨h1, by rw [hlit c hc x h1]; exact h2⟩
theorem of_ints {l : List Int} {N : Nat} (hN : N ≤ 128) (hp : l.Perm (ints N)) : ofS l = allS N := by
  refine set_ext (okS_of l (0, 0) okS_zero) (okS_all N) fun u h1 h2 => ?_
  rw [Bool.eq_iff_iff, has_all N u hN]
  unfold ofS
  rw [ofS_has l (0, 0) u, has_zero, hp.mem_iff, ints_mem]
  constructor
  · rintro (h | h)
    · cases h
    · exact h.1
  · intro h; exact .inr ⟨h, h1, h2⟩
theorem costT_le : ∀ (T : List (List Int)) (m : Nat), (∀ c ∈ T, c.length ≤ m) → costT T ≤ T.length * (m * 20 + 255)
  | [], m, _ => by rw [costT]; omega
  | c :: T, m, h => by
    have h1 := costT_le T m fun x hx => h x (List.mem_cons_of_mem _ hx)
    have h2 := Nat.mul_le_mul_right 20 (h c List.mem_cons_self)
    rw [costT, List.length_cons, Nat.succ_mul]
    omega
theorem compile_V (N : Nat) (h8 : N ≤ 8) (l : List Int) (hp : l.Perm (ints N)) (a : Option Addr) (c : Nat) (h : Heap) (hs : SlT encI 1 a l h) (aT : Option Addr) (cap : Nat) (vs : List HV) (hT : Heap) (ll : LLR aT vs hT) (T : List (List Int)) (hvs : vs.map (·.l) = T) (hok : okTh N T) (hcost : 2 + costT T ≤ 1048576) {w0 w : World} {R : Heap} {L : List Heap} (hr : RdH R L h) (rT : RdH R L hT) (hw : H w0 R L w) :
    Calls Try.prog 16 #[.agg ⟨[.int .i64 (N : Int), .slice aT vs.length cap]⟩, .slice a l.length c] w fun e w' => ∃ v L', e = .returned v ∧ H w0 R L' w' ∧ RebQ (thF T) l L v L' := by
  subst hvs
  have hlen : l.length = N := by rw [hp.length_eq, ints_len]
  refine (compile_any N l a c h hs aT cap vs hT ll (okTh_iff.2 hok) hlen (of_ints (by omega) hp) h8 hcost hr rT hw).mono ?_
  rintro e w' ⟨v, L', h1, h2, b, K, s, y, hO, hP, h3, h4, so, po, hy, hf, _⟩
  subst hlen
  exact ⟨v, L', h1, h2, b, K, s, y, hO, hP, h3, h4, so, po, hy, fun β => by
    rw [hf]
    exact thA_ev hok (fun v h1 h2 => hp.mem_iff.2 ((ints_mem _ _).2 ⟨h1, h2⟩)) β⟩
def szF (l : List Int) (F : VF) : Nat := sizeT l.length (tabF l.length (gF l F))
theorem Stv.size {F : VF} {l : List Int} {K : KS} {s : SS} {y : Nat} {hO hP : Heap} (sv : Stv F l K s y hO hP) {m : List Int} (b : Bel s.ns y m) : m.length = szF l F :=
  b.size sv.so.wf sv.sy.1 (sv.sy.fn sv.ho.2 sv.so.wf)
theorem eWorks31 : Entr Try.prog 14 := Entr.of Try.func14 rfl rfl
theorem works31_any (w : World) : Calls Try.prog 14 #[] w fun e w' => e = .returned (.bool true) ∧ Below w.heap.size w w' := by
  have ok2 : okTh 4 (pairP 2 2) := okTh_iff.1 (by decide +kernel)
  have hz1 : szF (ints 4) (thF (pairP 2 2)) = 6 := by decide +kernel
  have hz2 : szF (swp (ints 4) 1) (thF (pairP 2 2)) = 4 := by decide +kernel
  have hl4 : (ints 4).length = 4 := ints_len 4
  have hco : 2 + costT (pairP 2 2) ≤ 1048576 := by decide +kernel
  have hsd : decide (swp (ints 4) 1 = [1, 3, 2, 4]) = true := by decide +kernel
  refine calls_of_JC (R := []) Try.func14 Try.ntmps14 rfl rfl (Holds.nil _) ?_
  repeat' first
    | (refine J.isJ ?_; first | (first | (refine J.fc 49 ?_; refine J.call1 ePairs rfl rfl (fun w hw => pairs_any 2 (by omega) w) ?_; rintro _ hT ⟨aT, cT, vs, rfl, hvs, ll⟩) | (refine J.fc 50 ?_; refine J.call1 eUpTo rfl rfl (fun w hw => upTo_any 4 (by omega) w) ?_; rintro _ hU ⟨aU, cU, rfl, oU⟩) | (refine J.fc 16 ?_; refine J.callx eCom rfl rfl (fun w hw => compile_V 4 (by omega) (ints 4) (List.Perm.refl _) aU cU hU oU.sl aT cT vs hT ll (pairP 2 2) hvs ok2 hco RdH.hd RdH.hd.tl hw) ?_; rintro _ _ ⟨b1, K1, s1, y1, hO1, hP1, rfl, rfl, sv1⟩) | (refine J.fc 17 ?_; refine J.callx eSwap rfl rfl (fun w hw => Swap_any sv1 (by omega) 1 (by omega) (stR_hd _) hw) ?_; rintro _ _ ⟨b2, K2, s2, y2, hO2, hP2, rfl, rfl, sv2⟩) | (refine J.fc 20 ?_; first | (refine J.callx eSize rfl rfl (fun w hw => Size_any sv1.so b1 y1 sv1.sy.1 (stR_b (stR_tl (stR_hd _) K2 b2 s2 hO2 hP2)) (stR_N (stR_tl (stR_hd _) K2 b2 s2 hO2 hP2)) hw) ?_; rintro _ _ ⟨l1, rfl, rfl, bel1⟩; have hs1 := (sv1.size bel1).trans hz1) | (refine J.callx eSize rfl rfl (fun w hw => Size_any sv2.so b2 y2 sv2.sy.1 (stR_b (stR_hd _)) (stR_N (stR_hd _)) hw) ?_; rintro _ _ ⟨l2, rfl, rfl, bel2⟩; have hs2 := (sv2.size bel2).trans hz2)) | (refine J.o 11 ?_; first | refine J.eqT2 hΓ hs1 ?_ | refine J.eqT2 hΓ hs2 ?_) | (refine J.fc 19 ?_; refine J.call1 eOrder rfl rfl (fun w hw => Order_any sv2.so sv2.po b2 w (stR_of2 (stR_hd _) hw)) ?_; rintro _ ho ⟨ao, co, rfl, oo⟩) | (refine J.o 9 ?_; refine J.bl (e := 3) hΓ (fun bl => ?_)) | (refine J.fc 18 ?_; refine J.call0 eSame3 rfl rfl (fun w hw => same3_any (swp (ints 4) 1) [1, 3, 2, 4] ao (some ⟨bl, 0, none⟩) co 4 (ho ++ [(bl, .cells ⟨[.int .i64 1, .int .i64 3, .int .i64 2, .int .i64 4]⟩ 3 (0, 0))]) (oo.sl.sub fun x hx => List.mem_append_left _ hx) ((slArg bl [1, 3, 2, 4] 3).sub fun x hx => List.mem_append_right _ hx) (by rw [swp_len]; omega) (by decide) w ((hw.rdH RdH.hd.tl).append (hw.rdH RdH.hd))) ?_; rw [hsd])) | (first | (refine J.o 0 ?_; refine J.ev' hΓ ?_) | refine J.nil ?_ | (refine J.o 3 ?_; first | refine J.ev' hΓ ?_) | (refine J.o 9 ?_; refine J.bl hΓ (fun _ => ?_)) | (refine J.o 10 ?_; refine J.ev' hΓ ?_) | (refine J.o 11 ?_; refine J.ev' hΓ ?_)))
    | (first | refine JC.seq ?_ | refine JC.region ?_ | refine JC.ret ?_ | refine JC.skip ?_ | refine thenK.nn ?_ | refine JC.condF rfl ?_)
    | fail
  all_goals first | (exfalso; omega) | skip
  all_goals (refine ret1f rfl rfl rfl (fun w1 hw => ⟨rfl, hw.below⟩))
end Go.Proofs.Ytbhgahjeocnfcaa
namespace Go.Proofs.Ytbhgahjeocnfcaa
open Go Go.Cx Go.RowKit
set_option linter.unusedVariables false
set_option linter.unusedSimpArgs false
set_option maxHeartbeats 4000000
attribute [local irreducible] J JC thenK blockK loopK drawK retK QW Qt pel List.set Calls
open Go.Maps Go.Lib
set_option maxRecDepth 8000
attribute [local irreducible] JE Br eK0 eK3 brK pc
theorem smallP_ok {n : Nat} (h : n ≤ 128) {N : Int} {T : List (List Int)} (s : smallP (n : Int) N T) : ∃ k : Nat, N = (k : Int) ∧ k ≤ n ∧ okTh k T ∧ 2 + costT T ≤ 1048576 := by
  obtain ⟨h1, h2, h3, h4, h5⟩ := s
  obtain ⟨k, rfl⟩ : ∃ k : Nat, N = (k : Int) := ⟨N.toNat, by omega⟩
  have hc := costT_le T 10 h4
  have hm : T.length * (10 * 20 + 255) ≤ 30 * 455 := Nat.mul_le_mul_right 455 h3
  exact ⟨k, rfl, by omega, okTh_iff.1 h5, by omega⟩
end Go.Proofs.Ytbhgahjeocnfcaa
namespace Go.Proofs.Ytbhgahjeocnfcaa
open Go Go.Cx Go.RowKit
set_option linter.unusedVariables false
set_option linter.unusedSimpArgs false
set_option maxHeartbeats 4000000
attribute [local irreducible] J JC thenK blockK loopK drawK retK QW Qt pel List.set Calls
open Go.Maps Go.Lib
set_option maxRecDepth 8000
attribute [local irreducible] JE Br eK0 eK3 brK pc
theorem swp_take (o : List Int) {p i : Nat} (hp : p + 1 < o.length) (hi : i ≤ p) : (swp o p).take i = o.take i := by
  refine List.ext_getElem (by rw [List.length_take, List.length_take, swp_len]) fun j h1 h2 => ?_
  rw [List.length_take] at h2
  rw [List.getElem_take, List.getElem_take]
  have hg : ∀ (l : List Int) (h : j < l.length), l[j] = l.getD j default := fun l h => by rw [List.getD_eq_getElem?_getD, List.getElem?_eq_getElem h]; rfl
  rw [hg _ (by rw [swp_len]; omega), hg _ (by omega), swp_get o hp, if_neg (by omega), if_neg (by omega)]
theorem take_get {l a : List Int} {i j : Nat} (h : l.take i = a.take i) (hj : j < i) : l.getD j default = a.getD j default := by
  have := congrArg (fun x => x.getD j default) h
  simp only [List.getD_eq_getElem?_getD, List.getElem?_take_of_lt hj] at this
  rw [List.getD_eq_getElem?_getD, List.getD_eq_getElem?_getD]
  exact this
theorem aim_at {l a : List Int} {n i : Nat} (hl : l.Perm (ints n)) (ha : a.Perm (ints n)) (hn : a.Nodup) (h : l.take i = a.take i) (hi : i < n) : ∃ q, i ≤ q ∧ q < n ∧ l.getD q default = a.getD i default := by
  have hal : a.length = n := by rw [ha.length_eq, ints_len]
  have hll : l.length = n := by rw [hl.length_eq, ints_len]
  have hm : a.getD i default ∈ l := hl.mem_iff.2 (ha.mem_iff.1 (mem_g a i (by omega)))
  obtain ⟨q, hq, e⟩ := mem_at hm
  refine ⟨q, ?_, by omega, e⟩
  rcases Nat.lt_or_ge q i with g | g
  · rw [take_get h g] at e
    have := getD_inj hn (by omega) (by omega) e
    omega
  · exact g
set_option maxHeartbeats 16000000 in
theorem reaches_any (N : Int) (aT : Option Addr) (cap : Nat) (vs : List HV) (hT : Heap) (ll : LLR aT vs hT) (ks : List Nat) (ak : Option Addr) (ck : Nat) (hk : Heap) (hs : SlT encK 1 ak ks hk) (hkl : ks.length ≤ 9223372036854775807) (hkb : ∀ k ∈ ks, k < 256) (js : List Nat) (aj : Option Addr) (cj : Nat) (hj : Heap) (hsj : SlT encK 1 aj js hj) (hjl : js.length ≤ 9223372036854775807) (hjb : ∀ k ∈ js, k < 256) (w : World) (hw1 : Holds (hT ++ (hk ++ hj)) w) :
    Calls Try.prog 5 #[.agg ⟨[.int .i64 N, .slice aT vs.length cap]⟩, .slice ak ks.length ck, .slice aj js.length cj] w fun e w' => e = .returned (.bool true) ∧ Below w.heap.size w w' := by
  obtain ⟨R, hR⟩ : ∃ R, R = hT ++ (hk ++ hj) := ⟨_, rfl⟩
  rw [← hR] at hw1
  have qT : ∀ L, RdH R L hT := fun L => RdH.old fun _ hh => by rw [hR]; exact List.mem_append_left _ hh
  have qK : ∀ L, RdH R L hk := fun L => RdH.old fun _ hh => by rw [hR]; exact List.mem_append_right _ (List.mem_append_left _ hh)
  have qJ : ∀ L, RdH R L hj := fun L => RdH.old fun _ hh => by rw [hR]; exact List.mem_append_right _ (List.mem_append_right _ hh)
  have cS := fun w hw => small_any 7 (by omega) N aT cap vs hT ll w hw
  by_cases hsm : smallP 7 N (vs.map (·.l))
  case neg =>
    rw [decide_eq_false hsm] at cS
    refine calls_of_JC (R := R) Try.func5 Try.ntmps5 rfl rfl (hw1) ?_
    repeat' first
      | (refine J.isJ ?_; first | (first | (refine J.o 6 ?_; refine J.bx (fun b3 => ?_)) | (refine J.o 4 ?_; refine J.lR hΓ ?_ (hr := Rd.hd)) | (refine J.fc 13 ?_; refine J.call0 eSmall rfl rfl (fun w hw => cS w (hw.rdH (qT _))) ?_) | (refine J.fc 14 ?_; refine J.call0 eWorks31 rfl rfl (fun w hw => works31_any w) ?_)) | (first | (refine J.o 0 ?_; refine J.ev' hΓ ?_) | refine J.nil ?_ | (refine J.o 4 ?_; first | refine J.lT default hΓ ?_ | refine J.lR hΓ ?_) | (refine J.o 3 ?_; first | refine J.iJ hΓ ?_ | refine J.ev' hΓ ?_) | (refine J.o 1 ?_; first | refine J.ad ?_) | (refine J.o 6 ?_; refine J.bx (fun _ => ?_)) | (refine J.o 10 ?_; refine J.ev' hΓ ?_) | (refine J.o 11 ?_; refine J.ev' hΓ ?_)) | ((fail_if_success refine J.wt ?_); refine J.gc rfl rfl (fun hc => ?_) (fun hc => ?_) <;> ((try simp only [decide_eq_true_eq, decide_eq_false_iff_not, beq_iff_eq, beq_eq_false_iff_ne, bne_iff_ne, bne_eq_false_iff_eq, Bool.not_eq_true', Bool.not_eq_false', Bool.not_eq_true, Bool.not_eq_false] at hc) <;> first | (first | (exact absurd rfl hc) | (exfalso; omega) | (exact absurd (hc.symm.trans (by assumption : _ = false)) (by decide)) | (exact absurd (hc.symm.trans (by assumption : _ = true)) (by decide))) | skip)))
      | (first | refine JC.seq ?_ | refine JC.region ?_ | refine JC.block ?_ | refine JC.ret ?_ | refine JC.exit ?_ | refine JC.skip ?_ | refine thenK.nn ?_ | refine thenK.r ?_ | refine thenK.x ?_ | refine blockK.nn ?_ | refine blockK.hit rfl ?_ | refine JC.condT rfl ?_ | refine JC.condF rfl ?_ | (refine JC.cond rfl (fun hc => ?_) (fun hc => ?_) <;> ((try simp only [decide_eq_true_eq, decide_eq_false_iff_not, beq_iff_eq, beq_eq_false_iff_ne, bne_iff_ne, bne_eq_false_iff_eq, Bool.not_eq_true', Bool.not_eq_false', Bool.not_eq_true, Bool.not_eq_false] at hc) <;> first | (first | (exact absurd rfl hc) | (exfalso; omega) | (exact absurd (hc.symm.trans (by assumption : _ = false)) (by decide)) | (exact absurd (hc.symm.trans (by assumption : _ = true)) (by decide))) | skip)) | refine drawK.nn ?_ | refine loopK.x ?_)
      | (fail)
      | fail
    all_goals first | (exfalso; omega) | skip
    all_goals (refine ret1f rfl rfl rfl (fun w1 hw => ⟨rfl, hw.below⟩))
  rw [decide_eq_true hsm] at cS
  obtain ⟨n, rfl, hn7, hok, hco⟩ := smallP_ok (n := 7) (by omega) hsm
  have hn8 : n ≤ 8 := by omega
  refine calls_of_JC (R := R) Try.func5 Try.ntmps5 rfl rfl (hw1) ?_
  refine JC.seq ?_
  refine JC.region ?_
  refine J.isJ ?_
  refine J.o 6 ?_
  refine J.bx (fun b3 => ?_)
  repeat' first
    | (refine J.isJ ?_; first | (first | (refine J.o 4 ?_; first | refine J.lR hΓ ?_ (hr := Rd.hd) | refine J.lR hΓ ?_ (hr := Rd.hd.tl) | refine J.lR hΓ ?_ (hr := Rd.app _ Rd.hd.tl.tl.tl.tl)) | (refine J.fc 13 ?_; refine J.call0 eSmall rfl rfl (fun w hw => cS w (hw.rdH (qT _))) ?_) | (refine J.fc 15 ?_; first | (refine J.call1 eOrder31 rfl rfl (fun w hw => order31_any n (by omega) js aj cj hj hsj hjl hjb w (hw.rdH (qJ _))) ?_; rintro _ hA ⟨aA, aim, cA, rfl, hpa, oA⟩; have hal : aim.length = n := (by rw [hpa.length_eq, ints_len])) | (refine J.call1 eOrder31 rfl rfl (fun w hw => order31_any n (by omega) ks ak ck hk hs hkl hkb w (hw.rdH (qK _))) ?_; rintro _ hF ⟨aF, l, cF, rfl, hp, oF⟩; have hll : l.length = n := (by rw [hp.length_eq, ints_len]))) | (refine J.fc 16 ?_; first | (refine J.callx eCom rfl rfl (fun w hw => compile_V n hn8 l hp aF cF hF oF.sl aT cap vs hT ll _ rfl hok hco RdH.hd (qT _) hw) ?_; rintro _ _ ⟨b1, K1, s1, y1, hO1, hP1, rfl, rfl, sv1⟩) | (refine J.callx eCom rfl rfl (fun w hw => compile_V n hn8 aim hpa aA cA hA oA.sl aT cap vs hT ll _ rfl hok hco (stR_tl RdH.hd.tl K1 b1 s1 hO1 hP1) (qT _) hw) ?_; rintro _ _ ⟨b2, K2, s2, y2, hO2, hP2, rfl, rfl, sv2⟩))) | (first | (refine J.o 0 ?_; refine J.ev' hΓ ?_) | refine J.nil ?_ | (refine J.o 4 ?_; first | refine J.lT default hΓ ?_ | refine J.lR hΓ ?_) | (refine J.o 3 ?_; first | refine J.iJ hΓ ?_ | refine J.ev' hΓ ?_) | (refine J.o 1 ?_; first | refine J.ad ?_) | (refine J.o 6 ?_; refine J.bx (fun _ => ?_)) | (refine J.o 10 ?_; refine J.ev' hΓ ?_) | (refine J.o 11 ?_; refine J.ev' hΓ ?_)) | ((fail_if_success refine J.wt ?_); refine J.gc rfl rfl (fun hc => ?_) (fun hc => ?_) <;> ((try simp only [decide_eq_true_eq, decide_eq_false_iff_not, beq_iff_eq, beq_eq_false_iff_ne, bne_iff_ne, bne_eq_false_iff_eq, Bool.not_eq_true', Bool.not_eq_false', Bool.not_eq_true, Bool.not_eq_false] at hc) <;> first | (first | (exact absurd rfl hc) | (exfalso; omega) | (exact absurd (hc.symm.trans (by assumption : _ = false)) (by decide)) | (exact absurd (hc.symm.trans (by assumption : _ = true)) (by decide))) | skip)))
    | (first | refine JC.seq ?_ | refine JC.region ?_ | refine JC.block ?_ | refine JC.ret ?_ | refine JC.exit ?_ | refine JC.skip ?_ | refine thenK.nn ?_ | refine thenK.r ?_ | refine thenK.x ?_ | refine blockK.nn ?_ | refine blockK.hit rfl ?_ | refine JC.condT rfl ?_ | refine JC.condF rfl ?_ | (refine JC.cond rfl (fun hc => ?_) (fun hc => ?_) <;> ((try simp only [decide_eq_true_eq, decide_eq_false_iff_not, beq_iff_eq, beq_eq_false_iff_ne, bne_iff_ne, bne_eq_false_iff_eq, Bool.not_eq_true', Bool.not_eq_false', Bool.not_eq_true, Bool.not_eq_false] at hc) <;> first | (first | (exact absurd rfl hc) | (exfalso; omega) | (exact absurd (hc.symm.trans (by assumption : _ = false)) (by decide)) | (exact absurd (hc.symm.trans (by assumption : _ = true)) (by decide))) | skip)) | refine drawK.nn ?_ | refine loopK.x ?_)
    | ((refine JC.drawO [(1,0),(0,1),(1,2),(0,3),(3,4),(2,5),(0,6),(0,7),(0,8),(0,9),(0,10),(0,11),(0,12)] (by decide +kernel) (by decide +kernel) ?_))
    | fail
  all_goals first | (exfalso; omega) | skip
  obtain ⟨M, hM⟩ : ∃ M : List Heap, M = sF K2 b2 s2 ++ (hO2 :: hP2 :: hF :: hA :: [(b3, .cells ⟨[.int .i64 (n : Int), .slice aT vs.length cap]⟩ 24 (0, 0))] :: []) := ⟨_, rfl⟩
  have rA : RdH R M hA := by rw [hM]; exact stR_tl RdH.hd.tl K2 b2 s2 hO2 hP2
  have rS2 : RdH R M (stR K2 b2 s2 hO2) := by rw [hM]; exact stR_hd _
  refine JC.weak (L' := sF K1 b1 s1 ++ (hO1 :: hP1 :: M)) (fun w hw => by rw [hM]; exact H.sel (l := [_, _, _, _, _, _, _, _, _, _, _, _]) (M := [_, _, _]) hw [6, 7, 8, 9, 10, 11, 0, 1, 2, 3, 4, 5]) ?_
  clear hM
  refine JC.loopG (fun i => i == 8 || i == 9 || i == 10 || i == 14 || i == 15 || i == 16 || (Nat.ble 54 i && Nat.ble i 97)) (fun m g L' => ∃ i l b K s y hO hP, g 54 = .int .i64 ((i : Nat) : Int) ∧ g 8 = .pointer (some ⟨b, 0, none⟩) ∧ g 9 = .int .i64 ((y : Nat) : Int) ∧ i + m = n ∧ Stv (thF (vs.map (·.l))) l K s y hO hP ∧ l.Perm (ints n) ∧ l.take i = aim.take i ∧ L' = sF K b s ++ (hO :: hP :: M)) n ⟨0, l, b1, K1, s1, y1, hO1, hP1, rfl, rfl, rfl, by omega, sv1, hp, rfl, rfl⟩ ?_
  clear sv1 hp hll oF
  rintro m g L' ⟨i, l, b, K, s, y, hO, hP, e54, e8, e9, him, sv, hp, htk, rfl⟩
  refine JC.pin 54 e54 (JC.pin 8 e8 (JC.pin 9 e9 ?_))
  have hll : l.length = n := by rw [hp.length_eq, ints_len]
  rcases Nat.lt_or_ge i n with hin | hin
  ·
    obtain ⟨q0, hq1, hq2, hq3⟩ := aim_at hp hpa sv2.ho.2 htk hin
    repeat' first
      | (refine J.isJ ?_; first | ((refine J.fc 19 ?_; refine J.call1 eOrder rfl rfl (fun w hw => Order_any sv.so sv.po b w (stR_of2 (stR_hd _) hw)) ?_; rintro _ hQ ⟨aQ, cQ, rfl, oQ⟩)) | (first | (refine J.o 0 ?_; refine J.ev' hΓ ?_) | refine J.nil ?_ | (refine J.o 4 ?_; first | refine J.lT default hΓ ?_ | refine J.lR hΓ ?_) | (refine J.o 3 ?_; first | refine J.iJ hΓ ?_ | refine J.ev' hΓ ?_) | (refine J.o 1 ?_; first | refine J.ad ?_) | (refine J.o 6 ?_; refine J.bx (fun _ => ?_)) | (refine J.o 10 ?_; refine J.ev' hΓ ?_) | (refine J.o 11 ?_; refine J.ev' hΓ ?_)) | ((fail_if_success refine J.wt ?_); refine J.gc rfl rfl (fun hc => ?_) (fun hc => ?_) <;> ((try simp only [decide_eq_true_eq, decide_eq_false_iff_not, beq_iff_eq, beq_eq_false_iff_ne, bne_iff_ne, bne_eq_false_iff_eq, Bool.not_eq_true', Bool.not_eq_false', Bool.not_eq_true, Bool.not_eq_false] at hc) <;> first | (first | (exact absurd rfl hc) | (exfalso; omega) | (exact absurd (hc.symm.trans (by assumption : _ = false)) (by decide)) | (exact absurd (hc.symm.trans (by assumption : _ = true)) (by decide))) | skip)))
      | (first | refine JC.seq ?_ | refine JC.region ?_ | refine JC.block ?_ | refine JC.ret ?_ | refine JC.exit ?_ | refine JC.skip ?_ | refine thenK.nn ?_ | refine thenK.r ?_ | refine thenK.x ?_ | refine blockK.nn ?_ | refine blockK.hit rfl ?_ | refine JC.condT rfl ?_ | refine JC.condF rfl ?_ | (refine JC.cond rfl (fun hc => ?_) (fun hc => ?_) <;> ((try simp only [decide_eq_true_eq, decide_eq_false_iff_not, beq_iff_eq, beq_eq_false_iff_ne, bne_iff_ne, bne_eq_false_iff_eq, Bool.not_eq_true', Bool.not_eq_false', Bool.not_eq_true, Bool.not_eq_false] at hc) <;> first | (first | (exact absurd rfl hc) | (exfalso; omega) | (exact absurd (hc.symm.trans (by assumption : _ = false)) (by decide)) | (exact absurd (hc.symm.trans (by assumption : _ = true)) (by decide))) | skip)) | refine drawK.nn ?_ | refine loopK.x ?_)
      | (fail)
      | fail
    all_goals first | (exfalso; omega) | skip
    refine JC.loop (fun i => i == 16 || (Nat.ble 60 i && Nat.ble i 76)) (fun m g L' => ∃ q : Nat, g 16 = .int .i64 (q : Int) ∧ i ≤ q ∧ q + m = n ∧ q ≤ q0 ∧ L' = _) (n - i) ⟨i, rfl, Nat.le_refl _, by omega, hq1, rfl⟩ ?_
    rintro m2 g2 L' ⟨q, e16, hiq, hqm, hqq, rfl⟩
    refine JC.pin 16 e16 ?_
    by_cases hx : l.getD q default = aim.getD i default
    case neg =>
      have hqlt : q < q0 := by
        rcases Nat.lt_or_ge q q0 with g | g
        · exact g
        · obtain rfl : q = q0 := by omega
          exact absurd hq3 hx
      have hd : (l.getD q default != aim.getD i default) = true := by simpa using hx
      repeat' first
        | (refine J.isJ ?_; first | (first | (refine J.o 3 ?_; first | refine J.iJ hΓ ?_ (hs := oQ.sl) | refine J.iJ hΓ ?_ (hs := oA.sl)) | (refine J.o 4 ?_; first | refine J.lT default hΓ ?_ (hs := oQ.sl) (hr := RdH.hd) | refine J.lT default hΓ ?_ (hs := oA.sl) (hr := (stR_tl rA K b s hO hP).tl)) | (refine J.o 11 ?_; refine J.ev' hΓ ?_; rw [hd])) | (first | (refine J.o 0 ?_; refine J.ev' hΓ ?_) | refine J.nil ?_ | (refine J.o 4 ?_; first | refine J.lT default hΓ ?_ | refine J.lR hΓ ?_) | (refine J.o 3 ?_; first | refine J.iJ hΓ ?_ | refine J.ev' hΓ ?_) | (refine J.o 1 ?_; first | refine J.ad ?_) | (refine J.o 6 ?_; refine J.bx (fun _ => ?_)) | (refine J.o 10 ?_; refine J.ev' hΓ ?_) | (refine J.o 11 ?_; refine J.ev' hΓ ?_)) | ((fail_if_success refine J.wt ?_); refine J.gc rfl rfl (fun hc => ?_) (fun hc => ?_) <;> ((try simp only [decide_eq_true_eq, decide_eq_false_iff_not, beq_iff_eq, beq_eq_false_iff_ne, bne_iff_ne, bne_eq_false_iff_eq, Bool.not_eq_true', Bool.not_eq_false', Bool.not_eq_true, Bool.not_eq_false] at hc) <;> first | (first | (exact absurd rfl hc) | (exfalso; omega) | (exact absurd (hc.symm.trans (by assumption : _ = false)) (by decide)) | (exact absurd (hc.symm.trans (by assumption : _ = true)) (by decide))) | skip)))
        | (first | refine JC.seq ?_ | refine JC.region ?_ | refine JC.block ?_ | refine JC.ret ?_ | refine JC.exit ?_ | refine JC.skip ?_ | refine thenK.nn ?_ | refine thenK.r ?_ | refine thenK.x ?_ | refine blockK.nn ?_ | refine blockK.hit rfl ?_ | refine JC.condT rfl ?_ | refine JC.condF rfl ?_ | (refine JC.cond rfl (fun hc => ?_) (fun hc => ?_) <;> ((try simp only [decide_eq_true_eq, decide_eq_false_iff_not, beq_iff_eq, beq_eq_false_iff_ne, bne_iff_ne, bne_eq_false_iff_eq, Bool.not_eq_true', Bool.not_eq_false', Bool.not_eq_true, Bool.not_eq_false] at hc) <;> first | (first | (exact absurd rfl hc) | (exfalso; omega) | (exact absurd (hc.symm.trans (by assumption : _ = false)) (by decide)) | (exact absurd (hc.symm.trans (by assumption : _ = true)) (by decide))) | skip)) | refine drawK.nn ?_ | refine loopK.x ?_)
        | ((refine JC.drawO [(0,0),(0,1),(0,2),(0,3),(0,4),(0,5),(0,6),(0,7),(1,8),(0,9),(0,10),(0,11),(1,12),(0,13),(0,14)] (by decide +kernel) (by decide +kernel) ?_))
        | fail
      all_goals first | (exfalso; omega) | skip
      refine loopK.nn (m2 - 1) (by omega) (by repeat (first | refine Ag.upd rfl ?_ | exact Ag.hv)) ⟨q + 1, ?_, by omega, by omega, by omega, rfl⟩
      show Value.int .i64 _ = _; congr 1
    have hd : (l.getD q default != aim.getD i default) = false := by rw [hx]; simp
    repeat' first
      | (refine J.isJ ?_; first | (first | (refine J.o 3 ?_; first | refine J.iJ hΓ ?_ (hs := oQ.sl) | refine J.iJ hΓ ?_ (hs := oA.sl)) | (refine J.o 4 ?_; first | refine J.lT default hΓ ?_ (hs := oQ.sl) (hr := RdH.hd) | refine J.lT default hΓ ?_ (hs := oA.sl) (hr := (stR_tl rA K b s hO hP).tl)) | (refine J.o 11 ?_; refine J.ev' hΓ ?_; rw [hd])) | (first | (refine J.o 0 ?_; refine J.ev' hΓ ?_) | refine J.nil ?_ | (refine J.o 4 ?_; first | refine J.lT default hΓ ?_ | refine J.lR hΓ ?_) | (refine J.o 3 ?_; first | refine J.iJ hΓ ?_ | refine J.ev' hΓ ?_) | (refine J.o 1 ?_; first | refine J.ad ?_) | (refine J.o 6 ?_; refine J.bx (fun _ => ?_)) | (refine J.o 10 ?_; refine J.ev' hΓ ?_) | (refine J.o 11 ?_; refine J.ev' hΓ ?_)) | ((fail_if_success refine J.wt ?_); refine J.gc rfl rfl (fun hc => ?_) (fun hc => ?_) <;> ((try simp only [decide_eq_true_eq, decide_eq_false_iff_not, beq_iff_eq, beq_eq_false_iff_ne, bne_iff_ne, bne_eq_false_iff_eq, Bool.not_eq_true', Bool.not_eq_false', Bool.not_eq_true, Bool.not_eq_false] at hc) <;> first | (first | (exact absurd rfl hc) | (exfalso; omega) | (exact absurd (hc.symm.trans (by assumption : _ = false)) (by decide)) | (exact absurd (hc.symm.trans (by assumption : _ = true)) (by decide))) | skip)))
      | (first | refine JC.seq ?_ | refine JC.region ?_ | refine JC.block ?_ | refine JC.ret ?_ | refine JC.exit ?_ | refine JC.skip ?_ | refine thenK.nn ?_ | refine thenK.r ?_ | refine thenK.x ?_ | refine blockK.nn ?_ | refine blockK.hit rfl ?_ | refine JC.condT rfl ?_ | refine JC.condF rfl ?_ | (refine JC.cond rfl (fun hc => ?_) (fun hc => ?_) <;> ((try simp only [decide_eq_true_eq, decide_eq_false_iff_not, beq_iff_eq, beq_eq_false_iff_ne, bne_iff_ne, bne_eq_false_iff_eq, Bool.not_eq_true', Bool.not_eq_false', Bool.not_eq_true, Bool.not_eq_false] at hc) <;> first | (first | (exact absurd rfl hc) | (exfalso; omega) | (exact absurd (hc.symm.trans (by assumption : _ = false)) (by decide)) | (exact absurd (hc.symm.trans (by assumption : _ = true)) (by decide))) | skip)) | refine drawK.nn ?_ | refine loopK.x ?_)
      | ((refine JC.drawO [(0,0),(0,1),(0,2),(0,3),(0,4),(0,5),(0,6),(0,7),(1,8),(0,9),(0,10),(0,11),(1,12),(0,13),(0,14)] (by decide +kernel) (by decide +kernel) ?_))
      | fail
    all_goals first | (exfalso; omega) | skip
    refine JC.weak (L' := sF K b s ++ (hO :: hP :: M)) (fun w hw => hw.drop) ?_
    have hqn : q < n := by omega
    refine JC.loopG (fun i => i == 8 || i == 9 || i == 10 || i == 16 || (Nat.ble 81 i && Nat.ble i 96)) (fun m g L' => ∃ q l b K s y hO hP, g 16 = .int .i64 ((q : Nat) : Int) ∧ g 8 = .pointer (some ⟨b, 0, none⟩) ∧ g 9 = .int .i64 ((y : Nat) : Int) ∧ i + m = q ∧ q < n ∧ Stv (thF (vs.map (·.l))) l K s y hO hP ∧ l.Perm (ints n) ∧ l.take i = aim.take i ∧ l.getD q default = aim.getD i default ∧ L' = sF K b s ++ (hO :: hP :: M)) (q - i) ⟨q, l, b, K, s, y, hO, hP, rfl, rfl, rfl, by omega, hqn, sv, hp, htk, hx, rfl⟩ ?_
    clear sv hp htk hll oQ hx hd hq3 hqm hqq hq1
    rintro m3 g3 L' ⟨q, l, b, K, s, y, hO, hP, e16, e8, e9, hmq, hqn, sv, hp, htk, hx, rfl⟩
    refine JC.pin 16 e16 (JC.pin 8 e8 (JC.pin 9 e9 ?_))
    have hll : l.length = n := by rw [hp.length_eq, ints_len]
    rcases Nat.lt_or_ge i q with hiq | hiq
    ·
      have hpq : q - 1 + 1 < l.length := by omega
      have htk2 : (swp l (q - 1)).take i = aim.take i := by rw [swp_take l hpq (by omega), htk]
      have hx2 : (swp l (q - 1)).getD (q - 1) default = aim.getD i default := by rw [swp_get l hpq, if_pos rfl, show q - 1 + 1 = q by omega, hx]
      repeat' first
        | (refine J.isJ ?_; first | (first | (refine J.o 1 ?_; refine J.gsub (a := q) (b := 1) ?_) | (refine J.fc 17 ?_; refine J.callx eSwap rfl rfl (fun w hw => Swap_any sv (by omega) (q - 1) hpq (stR_hd _) hw) ?_; rintro _ _ ⟨b5, K5, s5, y5, hO5, hP5, rfl, rfl, sv5⟩)) | (first | (refine J.o 0 ?_; refine J.ev' hΓ ?_) | refine J.nil ?_ | (refine J.o 4 ?_; first | refine J.lT default hΓ ?_ | refine J.lR hΓ ?_) | (refine J.o 3 ?_; first | refine J.iJ hΓ ?_ | refine J.ev' hΓ ?_) | (refine J.o 1 ?_; first | refine J.ad ?_) | (refine J.o 6 ?_; refine J.bx (fun _ => ?_)) | (refine J.o 10 ?_; refine J.ev' hΓ ?_) | (refine J.o 11 ?_; refine J.ev' hΓ ?_)) | ((fail_if_success refine J.wt ?_); refine J.gc rfl rfl (fun hc => ?_) (fun hc => ?_) <;> ((try simp only [decide_eq_true_eq, decide_eq_false_iff_not, beq_iff_eq, beq_eq_false_iff_ne, bne_iff_ne, bne_eq_false_iff_eq, Bool.not_eq_true', Bool.not_eq_false', Bool.not_eq_true, Bool.not_eq_false] at hc) <;> first | (first | (exact absurd rfl hc) | (exfalso; omega) | (exact absurd (hc.symm.trans (by assumption : _ = false)) (by decide)) | (exact absurd (hc.symm.trans (by assumption : _ = true)) (by decide))) | skip)))
        | (first | refine JC.seq ?_ | refine JC.region ?_ | refine JC.block ?_ | refine JC.ret ?_ | refine JC.exit ?_ | refine JC.skip ?_ | refine thenK.nn ?_ | refine thenK.r ?_ | refine thenK.x ?_ | refine blockK.nn ?_ | refine blockK.hit rfl ?_ | refine JC.condT rfl ?_ | refine JC.condF rfl ?_ | (refine JC.cond rfl (fun hc => ?_) (fun hc => ?_) <;> ((try simp only [decide_eq_true_eq, decide_eq_false_iff_not, beq_iff_eq, beq_eq_false_iff_ne, bne_iff_ne, bne_eq_false_iff_eq, Bool.not_eq_true', Bool.not_eq_false', Bool.not_eq_true, Bool.not_eq_false] at hc) <;> first | (first | (exact absurd rfl hc) | (exfalso; omega) | (exact absurd (hc.symm.trans (by assumption : _ = false)) (by decide)) | (exact absurd (hc.symm.trans (by assumption : _ = true)) (by decide))) | skip)) | refine drawK.nn ?_ | refine loopK.x ?_)
        | (fail)
        | fail
      all_goals first | (exfalso; omega) | skip
      refine loopK.nn (m3 - 1) (by omega) (by repeat (first | refine Ag.upd rfl ?_ | exact Ag.hv)) ⟨_, ⟨q - 1, swp l (q - 1), b5, K5, s5, y5, hO5, hP5, rfl, rfl, rfl, by omega, by omega, sv5, (swp_perm l hpq).trans hp, htk2, hx2, rfl⟩, fun w hw => H.sel (l := [_, _, _, _, _, _, _, _, _, _, _, _]) (M := M) hw [0, 1, 2, 3, 4, 5]⟩
    ·
      obtain rfl : q = i := by omega
      have htk2 : l.take (q + 1) = aim.take (q + 1) := by rw [take_g l q (by omega), take_g aim q (by omega), htk, hx]
      repeat' first
        | (refine J.isJ ?_; first | (fail) | (first | (refine J.o 0 ?_; refine J.ev' hΓ ?_) | refine J.nil ?_ | (refine J.o 4 ?_; first | refine J.lT default hΓ ?_ | refine J.lR hΓ ?_) | (refine J.o 3 ?_; first | refine J.iJ hΓ ?_ | refine J.ev' hΓ ?_) | (refine J.o 1 ?_; first | refine J.ad ?_) | (refine J.o 6 ?_; refine J.bx (fun _ => ?_)) | (refine J.o 10 ?_; refine J.ev' hΓ ?_) | (refine J.o 11 ?_; refine J.ev' hΓ ?_)) | ((fail_if_success refine J.wt ?_); refine J.gc rfl rfl (fun hc => ?_) (fun hc => ?_) <;> ((try simp only [decide_eq_true_eq, decide_eq_false_iff_not, beq_iff_eq, beq_eq_false_iff_ne, bne_iff_ne, bne_eq_false_iff_eq, Bool.not_eq_true', Bool.not_eq_false', Bool.not_eq_true, Bool.not_eq_false] at hc) <;> first | (first | (exact absurd rfl hc) | (exfalso; omega) | (exact absurd (hc.symm.trans (by assumption : _ = false)) (by decide)) | (exact absurd (hc.symm.trans (by assumption : _ = true)) (by decide))) | skip)))
        | (first | refine JC.seq ?_ | refine JC.region ?_ | refine JC.block ?_ | refine JC.ret ?_ | refine JC.exit ?_ | refine JC.skip ?_ | refine thenK.nn ?_ | refine thenK.r ?_ | refine thenK.x ?_ | refine blockK.nn ?_ | refine blockK.hit rfl ?_ | refine JC.condT rfl ?_ | refine JC.condF rfl ?_ | (refine JC.cond rfl (fun hc => ?_) (fun hc => ?_) <;> ((try simp only [decide_eq_true_eq, decide_eq_false_iff_not, beq_iff_eq, beq_eq_false_iff_ne, bne_iff_ne, bne_eq_false_iff_eq, Bool.not_eq_true', Bool.not_eq_false', Bool.not_eq_true, Bool.not_eq_false] at hc) <;> first | (first | (exact absurd rfl hc) | (exfalso; omega) | (exact absurd (hc.symm.trans (by assumption : _ = false)) (by decide)) | (exact absurd (hc.symm.trans (by assumption : _ = true)) (by decide))) | skip)) | refine drawK.nn ?_ | refine loopK.x ?_)
        | (fail)
        | fail
      all_goals first | (exfalso; omega) | skip
      refine loopK.nn (m - 1) (by omega) (by repeat (first | refine Ag.upd rfl ?_ | exact Ag.hv | refine Ag.hv2 (fun i hi => by simp at hi ⊢; omega) ?_)) ⟨_, ⟨q + 1, l, b, K, s, y, hO, hP, ?_, rfl, rfl, by omega, sv, hp, htk2, rfl⟩, fun w hw => hw⟩
      show Value.int .i64 _ = _; congr 1
  ·
    have hla : l = aim := by rw [List.take_of_length_le (by omega), List.take_of_length_le (by omega)] at htk; exact htk
    subst hla
    have hd : decide (l = l) = true := decide_eq_true rfl
    repeat' first
      | (refine J.isJ ?_; first | (first | (refine J.fc 20 ?_; first | (refine J.callx eSize rfl rfl (fun w hw => Size_any sv.so b y sv.sy.1 (stR_b (stR_hd _)) (stR_N (stR_hd _)) hw) ?_; rintro _ _ ⟨l1, rfl, rfl, bel1⟩) | (refine J.callx eSize rfl rfl (fun w hw => Size_any sv2.so b2 y2 sv2.sy.1 (stR_b (stR_tl rS2 K b s hO hP)) (stR_N (stR_tl rS2 K b s hO hP)) hw) ?_; rintro _ _ ⟨l2, rfl, rfl, bel2⟩; have hz : l1.length = l2.length := (by rw [sv.size bel1, sv2.size bel2]))) | (refine J.fc 19 ?_; refine J.call1 eOrder rfl rfl (fun w hw => Order_any sv.so sv.po b w (stR_of2 (stR_hd _) hw)) ?_; rintro _ hQ ⟨aQ, cQ, rfl, oQ⟩) | (refine J.fc 18 ?_; refine J.call0 eSame3 rfl rfl (fun w hw => same3_any l l aQ aA cQ cA (hQ ++ hA) (oQ.sl.sub fun x hx => List.mem_append_left _ hx) (oA.sl.sub fun x hx => List.mem_append_right _ hx) (by omega) (by omega) w ((hw.rdH RdH.hd).append (hw.rdH (stR_tl rA K b s hO hP).tl))) ?_; rw [hd]) | (refine J.o 11 ?_; refine J.eqT2 hΓ hz ?_) | (refine J.fc 14 ?_; refine J.call0 eWorks31 rfl rfl (fun w hw => works31_any w) ?_)) | (first | (refine J.o 0 ?_; refine J.ev' hΓ ?_) | refine J.nil ?_ | (refine J.o 4 ?_; first | refine J.lT default hΓ ?_ | refine J.lR hΓ ?_) | (refine J.o 3 ?_; first | refine J.iJ hΓ ?_ | refine J.ev' hΓ ?_) | (refine J.o 1 ?_; first | refine J.ad ?_) | (refine J.o 6 ?_; refine J.bx (fun _ => ?_)) | (refine J.o 10 ?_; refine J.ev' hΓ ?_) | (refine J.o 11 ?_; refine J.ev' hΓ ?_)) | ((fail_if_success refine J.wt ?_); refine J.gc rfl rfl (fun hc => ?_) (fun hc => ?_) <;> ((try simp only [decide_eq_true_eq, decide_eq_false_iff_not, beq_iff_eq, beq_eq_false_iff_ne, bne_iff_ne, bne_eq_false_iff_eq, Bool.not_eq_true', Bool.not_eq_false', Bool.not_eq_true, Bool.not_eq_false] at hc) <;> first | (first | (exact absurd rfl hc) | (exfalso; omega) | (exact absurd (hc.symm.trans (by assumption : _ = false)) (by decide)) | (exact absurd (hc.symm.trans (by assumption : _ = true)) (by decide))) | skip)))
      | (first | refine JC.seq ?_ | refine JC.region ?_ | refine JC.block ?_ | refine JC.ret ?_ | refine JC.exit ?_ | refine JC.skip ?_ | refine thenK.nn ?_ | refine thenK.r ?_ | refine thenK.x ?_ | refine blockK.nn ?_ | refine blockK.hit rfl ?_ | refine JC.condT rfl ?_ | refine JC.condF rfl ?_ | (refine JC.cond rfl (fun hc => ?_) (fun hc => ?_) <;> ((try simp only [decide_eq_true_eq, decide_eq_false_iff_not, beq_iff_eq, beq_eq_false_iff_ne, bne_iff_ne, bne_eq_false_iff_eq, Bool.not_eq_true', Bool.not_eq_false', Bool.not_eq_true, Bool.not_eq_false] at hc) <;> first | (first | (exact absurd rfl hc) | (exfalso; omega) | (exact absurd (hc.symm.trans (by assumption : _ = false)) (by decide)) | (exact absurd (hc.symm.trans (by assumption : _ = true)) (by decide))) | skip)) | refine drawK.nn ?_ | refine loopK.x ?_)
      | fail
    all_goals first | (exfalso; omega) | skip
    all_goals (refine ret1f rfl rfl rfl (fun w1 hw => ⟨rfl, hw.below⟩))
end Go.Proofs.Ytbhgahjeocnfcaa
namespace Go.Proofs.Ytbhgahjeocnfcaa
open Go Go.Cx Go.RowKit
set_option linter.unusedVariables false
set_option linter.unusedSimpArgs false
set_option maxHeartbeats 4000000
attribute [local irreducible] J JC thenK blockK loopK drawK retK QW Qt pel List.set Calls
open Go.ChangeShapes Go.WideShapes
set_option maxRecDepth 100000 in
theorem siftReaches_lifted (os : Os) (started : os.Started) (T : Type) (enc : TypeId × Value → T) :
    ReturnsInHanded {} Try.checked os 5 .any (Rows.siftReachesSpec.pre6 enc Try.prog Try.f5 [] false)
      (Rows.siftReachesSpec.post enc Try.prog Try.f5 false true false false) := by
  refine returnsInHanded_of_change_sized (C := Try.checked) own started (by kernel_rfl) Try.func5
    (ChangeSpec.witness6 (enc := enc) (C := Try.checked) false ⟨#[], #[.agg #[.int .i64 0, .slice none 0 0], .slice none 0 0, .slice none 0 0], []⟩ 8 (by kernel_rfl) (by kernel_rfl) (by kernel_rfl) (by kernel_rfl)) ?_
  intro W base args ds gs before hval0 hW _ hwt _
  have hval : ∀ (j : Nat) t v, Try.f5.params[j]? = some t → args[j]? = some v → Value.okWide Try.prog W .any base t v := hval0
  have hW' := hW
  obtain ⟨p, q, hA0, hV, rfl, hfz, hnd⟩ := hW
  have hA : DataW.TrodAll enc Try.prog W 0 (fun _ => true) true Try.f5.params.toList args.toList ds p := hA0
  rw [Try.params5] at hA hval
  obtain ⟨v0, vs0, d0, ds0, p0, q0, hargs, rfl, rfl, h0, r0⟩ := trodAll_cons hA
  obtain ⟨v1, vs1, d1, ds1, p1, q1, rfl, rfl, rfl, h1, r1⟩ := trodAll_cons r0
  obtain ⟨v2, vs2, d2, ds2, p2, q2, rfl, rfl, rfl, h2, r2⟩ := trodAll_cons r1
  obtain ⟨rfl, rfl, rfl⟩ := trodAll_nil r2
  obtain rfl : args = #[v0, v1, v2] := by cases args; simp_all
  obtain ⟨a0, rfl, g0⟩ := arg_agg (let ⟨cs, h, _⟩ := okWide_struct Try.underlying24 (hval 0 _ v0 rfl rfl); ⟨cs, h⟩) (reads_th W) h0
  obtain ⟨a1, rfl, g1⟩ := arg_slice Try.underlying25 (reads_u8s W) (hval 1 _ v1 rfl rfl) h1
  obtain ⟨a2, rfl, g2⟩ := arg_slice Try.underlying25 (reads_u8s W) (hval 2 _ v2 rfl rfl) h2
  refine (reaches_any a0.n a0.a a0.c a0.vs (heapOf W) g0.l a1.ts a1.a a1.cap (heapOf W) g1.sl (by have := g1.cap; unfold maxLen at this; omega) g1.all a2.ts a2.a a2.cap (heapOf W) g2.sl (by have := g2.cap; unfold maxLen at this; omega) g2.all W ((heapOf_holds W).append ((heapOf_holds W).append (heapOf_holds W)))).mono fun e W' ⟨he, bel⟩ => ?_
  refine law_post laidOut Try.underlying4 rfl (by kernel_rfl) rfl ?_ hW' he bel
  intro ds hds
  match ds, hds with
  | [_, _, _], _ => rfl
theorem siftReaches_holds : Rows.SiftReachesSaid :=
  OpenClaim.holds_of_wide 5 Try.f5 rfl rfl rfl rfl rfl rfl rfl ⟨rfl, rfl, rfl, rfl, rfl⟩ rfl rfl rfl rfl rfl (by kernel_rfl) Try.func5 (by kernel_rfl)
    (of_decide_eq_true (by kernel_rfl)) (by unfold Func.isWrapper; first | (rw [if_pos (by decide +kernel)]; kernel_rfl) | (rw [if_neg (by decide +kernel)]; exact ⟨rfl, rfl⟩))
    (fun os started T enc _ => siftReaches_lifted os started T enc)
#print axioms siftReaches_holds
end Go.Proofs.Ytbhgahjeocnfcaa
