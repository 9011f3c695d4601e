/- ObddCompiles: part 10. -/
import Derived.Test.YtbhgahjeocnfcaaCsI
namespace Go.Proofs.Ytbhgahjeocnfcaa
open Go Go.Cx Go.RowKit
set_option linter.unusedVariables false
set_option linter.unusedSimpArgs false
set_option maxHeartbeats 4000000
attribute [local irreducible] J JC thenK blockK loopK drawK retK QW Qt pel List.set Calls
open Go.Maps Go.Lib
set_option maxRecDepth 8000
attribute [local irreducible] JE Br eK0 eK3 brK pc
theorem eModels5 : Entr Try.prog 36 := Entr.of Try.func36 rfl rfl
theorem eTable30 : Entr Try.prog 38 := Entr.of Try.func38 rfl rfl
theorem eSize30 : Entr Try.prog 39 := Entr.of Try.func39 rfl rfl
theorem eCheck30 : Entr Try.prog 35 := Entr.of Try.func35 rfl rfl
theorem eOrd18 : Entr Try.prog 83 := Entr.of Try.func83 rfl rfl
def asgR (N k : Nat) : Nat × Nat := (revN k N, 0)
def msF (N : Nat) (T : List (List Int)) (m : Nat) : List (Nat × Nat) := ((List.range m).map (asgR N)).filter fun s => evT (hasB s) T
theorem msF_succ (N : Nat) (T : List (List Int)) (m : Nat) : msF N T (m + 1) = msF N T m ++ if evT (hasB (asgR N m)) T = true then [asgR N m] else [] := by
  unfold msF
  rw [List.range_succ, List.map_append, List.filter_append]
  congr 1
  rw [List.map_cons, List.map_nil, List.filter_cons, List.filter_nil]
theorem okS_asgR (N k : Nat) (hN : N ≤ 60) : okS (asgR N k) := ⟨Nat.lt_of_lt_of_le (revN_lt k N) (Nat.pow_le_pow_right (by omega) (by omega)), show (0 : Nat) < 2 ^ 64 by decide⟩
theorem msF_len (N : Nat) (T : List (List Int)) (m : Nat) : (msF N T m).length ≤ m := by
  unfold msF
  have := List.length_filter_le (fun s => evT (hasB s) T) ((List.range m).map (asgR N))
  rw [List.length_map, List.length_range] at this
  exact this
theorem msF_ok {N : Nat} (hN : N ≤ 60) {T : List (List Int)} {m : Nat} {b : Nat × Nat} (h : b ∈ msF N T m) : okS b := by
  unfold msF at h
  rw [List.mem_filter] at h
  obtain ⟨k, _, rfl⟩ := List.mem_map.1 h.1
  exact okS_asgR N k hN
set_option maxHeartbeats 8000000 in
theorem models_any (N : Nat) (a : Option Addr) (cap : Nat) (vs : List HV) (h : Heap) (hr : LLR a vs h) (hok : okTh N (vs.map (·.l))) (hN : N ≤ 11) (w : World) (hw : Holds h w) :
    Calls Try.prog 36 #[.agg ⟨[.int .i64 (N : Int), .slice a vs.length cap]⟩] w (Gives (Sls encS 2 53 (msF N (vs.map (·.l)) (2 ^ N))) w) := by
  have q0 : ∀ L, RdH h L h := fun L => RdH.old fun _ hh => hh
  have cC := fun w hw => check05_any (N : Int) a cap vs h hr w hw
  rw [okTh_iff.2 hok] at cC
  have hp : 2 ^ N ≤ 2 ^ 11 := Nat.pow_le_pow_right (by omega) hN
  have hp2 : ((N : Int)).toNat = N := by omega
  refine calls_of_JC (R := h) Try.func36 Try.ntmps36 rfl rfl (hw) ?_
  repeat' first
    | (refine J.isJ ?_; first | (first | (refine J.o 6 ?_; refine J.bx (fun b1 => ?_)) | (refine J.o 4 ?_; refine J.lR hΓ ?_ (hr := Rd.hd)) | (refine J.fc 52 ?_; refine J.call0 eCheck05 rfl rfl (fun w hw => cC w (hw.rdH (q0 _))) ?_)) | (first | (refine J.o 0 ?_; refine J.ev' hΓ ?_) | refine J.nil ?_ | (refine J.o 4 ?_; first | refine J.lR hΓ ?_) | (refine J.o 3 ?_; first | refine J.ev' hΓ ?_) | (refine J.o 1 ?_; first | refine J.ad ?_) | (refine J.o 5 ?_; first | refine J.t0 hΓ ?_) | (refine J.o 6 ?_; refine J.bx (fun _ => ?_)) | (refine J.o 7 ?_; refine J.al hΓ (fun _ => ?_)) | (refine J.o 9 ?_; refine J.bl hΓ (fun _ => ?_)) | (refine J.o 10 ?_; refine J.ev' hΓ ?_) | (refine J.o 11 ?_; refine J.ev' hΓ ?_)))
    | (first | refine JC.seq ?_ | refine JC.region ?_ | refine JC.block ?_ | refine JC.ret ?_ | refine JC.exit ?_ | refine JC.skip ?_ | refine thenK.nn ?_ | refine thenK.x ?_ | refine blockK.nn ?_ | refine blockK.hit rfl ?_ | refine JC.condT rfl ?_ | refine JC.condF rfl ?_ | (refine JC.cond rfl (fun hc => ?_) (fun hc => ?_) <;> ((try simp only [decide_eq_true_eq, decide_eq_false_iff_not, beq_iff_eq, beq_eq_false_iff_ne, bne_iff_ne, bne_eq_false_iff_eq, Bool.not_eq_true', Bool.not_eq_false', Bool.not_eq_true, Bool.not_eq_false] at hc) <;> first | (first | (exact absurd rfl hc) | (exfalso; omega) | (exact absurd (hc.symm.trans (by assumption : _ = false)) (by decide)) | (exact absurd (hc.symm.trans (by assumption : _ = true)) (by decide))) | skip)) | refine loopK.x ?_)
    | (fail)
    | fail
  all_goals first | (exfalso; omega) | skip
  refine JC.nilF ?_
  refine JC.loopG (fun i => i == 3 || i == 4 || i == 5 || Nat.ble 14 i) (fun m g L => ∃ (k : Nat) (am : Option Addr) (cm : Nat) (hm : Heap), g 4 = .int .i64 (k : Int) ∧ k + m = 2 ^ N ∧ g 3 = .slice am (msF N (vs.map (·.l)) k).length cm ∧ OwT encS 2 53 am cm (msF N (vs.map (·.l)) k) hm ∧ L = [hm, [(b1, .cells ⟨[.int .i64 (N : Int), .slice a vs.length cap]⟩ 24 (0, 0))]]) (2 ^ N) ⟨0, none, 0, [], rfl, by omega, rfl, OwT.nil (fun _ => rfl), rfl⟩ ?_
  rintro m g L ⟨k, am, cm, hm, e4, hkm, e3, om, rfl⟩
  refine JC.pin 4 e4 (JC.pin 3 e3 ?_)
  clear e4 e3
  have hml := msF_len N (vs.map (·.l)) k
  rcases Nat.lt_or_ge k (2 ^ N) with hk | hk
  case inr =>
    obtain rfl : k = 2 ^ N := by omega
    repeat' first
      | (refine J.isJ ?_; first | (first | (refine J.o 4 ?_; refine J.lR hΓ ?_ (hr := Rd.hd.tl)) | (refine J.o 2 ?_; refine J.cv _ hΓ ?_) | (refine J.o 1 ?_; refine J.s2 ?_)) | (first | (refine J.o 0 ?_; refine J.ev' hΓ ?_) | refine J.nil ?_ | (refine J.o 4 ?_; first | refine J.lR hΓ ?_) | (refine J.o 3 ?_; first | refine J.ev' hΓ ?_) | (refine J.o 1 ?_; first | refine J.ad ?_) | (refine J.o 5 ?_; first | refine J.t0 hΓ ?_) | (refine J.o 6 ?_; refine J.bx (fun _ => ?_)) | (refine J.o 7 ?_; refine J.al hΓ (fun _ => ?_)) | (refine J.o 9 ?_; refine J.bl hΓ (fun _ => ?_)) | (refine J.o 10 ?_; refine J.ev' hΓ ?_) | (refine J.o 11 ?_; refine J.ev' hΓ ?_)))
      | (first | refine JC.seq ?_ | refine JC.region ?_ | refine JC.block ?_ | refine JC.ret ?_ | refine JC.exit ?_ | refine JC.skip ?_ | refine thenK.nn ?_ | refine thenK.x ?_ | refine blockK.nn ?_ | refine blockK.hit rfl ?_ | refine JC.condT rfl ?_ | refine JC.condF rfl ?_ | (refine JC.cond rfl (fun hc => ?_) (fun hc => ?_) <;> ((try simp only [decide_eq_true_eq, decide_eq_false_iff_not, beq_iff_eq, beq_eq_false_iff_ne, bne_iff_ne, bne_eq_false_iff_eq, Bool.not_eq_true', Bool.not_eq_false', Bool.not_eq_true, Bool.not_eq_false] at hc) <;> first | (first | (exact absurd rfl hc) | (exfalso; omega) | (exact absurd (hc.symm.trans (by assumption : _ = false)) (by decide)) | (exact absurd (hc.symm.trans (by assumption : _ = true)) (by decide))) | skip)) | refine loopK.x ?_)
      | (fail)
      | fail
    all_goals first | (exfalso; rw [hp2] at *; omega) | skip
    all_goals exact ret1f rfl rfl rfl (fun w1 hw => Gives.of (H.sel (l := [_, _]) (M := []) hw [0]) ⟨am, cm, rfl, om⟩)
  have cA := fun w => assign_any k N (by omega) (by omega) w
  have hsc := msF_succ N (vs.map (·.l)) k
  have cE := fun w hw => eval05_any N a cap vs (asgR N k) (okS_asgR N k (by omega)) h hr hok (fun u hu => by
    unfold asgR at hu
    rw [has_rev k N (by omega), Bool.and_eq_true] at hu
    exact (of_decide_eq_true hu.1).2) w hw
  cases hb : evT (hasB (asgR N k)) (vs.map (·.l)) with
  | true =>
    rw [hb] at cE
    rw [if_pos hb] at hsc
    repeat' first
      | (refine J.isJ ?_; first | (first | (refine J.o 4 ?_; refine J.lR hΓ ?_ (hr := Rd.hd.tl)) | (refine J.o 2 ?_; refine J.cv _ hΓ ?_) | (refine J.o 1 ?_; refine J.s2 ?_) | (refine J.fc 84 ?_; refine J.call0 eAssign rfl rfl (fun w hw => cA w) ?_) | (refine J.fc 41 ?_; refine J.call0 eEval05 rfl rfl (fun w hw => cE w (hw.rdH (q0 _))) ?_) | (refine J.o 9 ?_; first | (first | (refine J.ap1 (enc := encS) [asgR N k] hΓ (fun a4 c4 h4 o4 => ?_)) | (refine J.perm (br1.cons _) ?_; refine J.ap1 (enc := encS) [asgR N k] hΓ (fun a4 c4 h4 o4 => ?_)) | (refine J.perm (br2.cons _) ?_; refine J.ap1 (enc := encS) [asgR N k] hΓ (fun a4 c4 h4 o4 => ?_)) | (refine J.perm (br3.cons _) ?_; refine J.ap1 (enc := encS) [asgR N k] hΓ (fun a4 c4 h4 o4 => ?_)) | (refine J.perm (br4.cons _) ?_; refine J.ap1 (enc := encS) [asgR N k] hΓ (fun a4 c4 h4 o4 => ?_)) | (refine J.perm (br5.cons _) ?_; refine J.ap1 (enc := encS) [asgR N k] hΓ (fun a4 c4 h4 o4 => ?_))) | (refine J.perm br1 ?_; first | (refine J.ap1 (enc := encS) [asgR N k] hΓ (fun a4 c4 h4 o4 => ?_)) | (refine J.perm (br1.cons _) ?_; refine J.ap1 (enc := encS) [asgR N k] hΓ (fun a4 c4 h4 o4 => ?_)) | (refine J.perm (br2.cons _) ?_; refine J.ap1 (enc := encS) [asgR N k] hΓ (fun a4 c4 h4 o4 => ?_)) | (refine J.perm (br3.cons _) ?_; refine J.ap1 (enc := encS) [asgR N k] hΓ (fun a4 c4 h4 o4 => ?_)) | (refine J.perm (br4.cons _) ?_; refine J.ap1 (enc := encS) [asgR N k] hΓ (fun a4 c4 h4 o4 => ?_)) | (refine J.perm (br5.cons _) ?_; refine J.ap1 (enc := encS) [asgR N k] hΓ (fun a4 c4 h4 o4 => ?_))) | (refine J.perm br2 ?_; first | (refine J.ap1 (enc := encS) [asgR N k] hΓ (fun a4 c4 h4 o4 => ?_)) | (refine J.perm (br1.cons _) ?_; refine J.ap1 (enc := encS) [asgR N k] hΓ (fun a4 c4 h4 o4 => ?_)) | (refine J.perm (br2.cons _) ?_; refine J.ap1 (enc := encS) [asgR N k] hΓ (fun a4 c4 h4 o4 => ?_)) | (refine J.perm (br3.cons _) ?_; refine J.ap1 (enc := encS) [asgR N k] hΓ (fun a4 c4 h4 o4 => ?_)) | (refine J.perm (br4.cons _) ?_; refine J.ap1 (enc := encS) [asgR N k] hΓ (fun a4 c4 h4 o4 => ?_)) | (refine J.perm (br5.cons _) ?_; refine J.ap1 (enc := encS) [asgR N k] hΓ (fun a4 c4 h4 o4 => ?_))))) | (first | (refine J.o 0 ?_; refine J.ev' hΓ ?_) | refine J.nil ?_ | (refine J.o 4 ?_; first | refine J.lR hΓ ?_) | (refine J.o 3 ?_; first | refine J.ev' hΓ ?_) | (refine J.o 1 ?_; first | refine J.ad ?_) | (refine J.o 5 ?_; first | refine J.t0 hΓ ?_) | (refine J.o 6 ?_; refine J.bx (fun _ => ?_)) | (refine J.o 7 ?_; refine J.al hΓ (fun _ => ?_)) | (refine J.o 9 ?_; refine J.bl hΓ (fun _ => ?_)) | (refine J.o 10 ?_; refine J.ev' hΓ ?_) | (refine J.o 11 ?_; refine J.ev' hΓ ?_)))
      | (first | refine JC.seq ?_ | refine JC.region ?_ | refine JC.block ?_ | refine JC.ret ?_ | refine JC.exit ?_ | refine JC.skip ?_ | refine thenK.nn ?_ | refine thenK.x ?_ | refine blockK.nn ?_ | refine blockK.hit rfl ?_ | refine JC.condT rfl ?_ | refine JC.condF rfl ?_ | (refine JC.cond rfl (fun hc => ?_) (fun hc => ?_) <;> ((try simp only [decide_eq_true_eq, decide_eq_false_iff_not, beq_iff_eq, beq_eq_false_iff_ne, bne_iff_ne, bne_eq_false_iff_eq, Bool.not_eq_true', Bool.not_eq_false', Bool.not_eq_true, Bool.not_eq_false] at hc) <;> first | (first | (exact absurd rfl hc) | (exfalso; omega) | (exact absurd (hc.symm.trans (by assumption : _ = false)) (by decide)) | (exact absurd (hc.symm.trans (by assumption : _ = true)) (by decide))) | skip)) | refine loopK.x ?_)
      | fail
    all_goals first | (exfalso; rw [hp2] at *; omega) | skip
    rw [← hsc] at o4 ⊢
    refine loopK.nn (m - 1) (by omega) (by repeat (first | refine Ag.upd rfl ?_ | exact Ag.hv)) ⟨_, ⟨k + 1, a4, c4, h4, ?_, by omega, rfl, o4, rfl⟩, fun w hw => H.sel (l := [_, _, _]) (M := []) hw [0, 2]⟩
    show Value.int .i64 _ = _; congr 1
  | false =>
    rw [hb] at cE
    rw [if_neg (by rw [hb]; decide), List.append_nil] at hsc
    repeat' first
      | (refine J.isJ ?_; first | (first | (refine J.o 4 ?_; refine J.lR hΓ ?_ (hr := Rd.hd.tl)) | (refine J.o 2 ?_; refine J.cv _ hΓ ?_) | (refine J.o 1 ?_; refine J.s2 ?_) | (refine J.fc 84 ?_; refine J.call0 eAssign rfl rfl (fun w hw => cA w) ?_) | (refine J.fc 41 ?_; refine J.call0 eEval05 rfl rfl (fun w hw => cE w (hw.rdH (q0 _))) ?_)) | (first | (refine J.o 0 ?_; refine J.ev' hΓ ?_) | refine J.nil ?_ | (refine J.o 4 ?_; first | refine J.lR hΓ ?_) | (refine J.o 3 ?_; first | refine J.ev' hΓ ?_) | (refine J.o 1 ?_; first | refine J.ad ?_) | (refine J.o 5 ?_; first | refine J.t0 hΓ ?_) | (refine J.o 6 ?_; refine J.bx (fun _ => ?_)) | (refine J.o 7 ?_; refine J.al hΓ (fun _ => ?_)) | (refine J.o 9 ?_; refine J.bl hΓ (fun _ => ?_)) | (refine J.o 10 ?_; refine J.ev' hΓ ?_) | (refine J.o 11 ?_; refine J.ev' hΓ ?_)))
      | (first | refine JC.seq ?_ | refine JC.region ?_ | refine JC.block ?_ | refine JC.ret ?_ | refine JC.exit ?_ | refine JC.skip ?_ | refine thenK.nn ?_ | refine thenK.x ?_ | refine blockK.nn ?_ | refine blockK.hit rfl ?_ | refine JC.condT rfl ?_ | refine JC.condF rfl ?_ | (refine JC.cond rfl (fun hc => ?_) (fun hc => ?_) <;> ((try simp only [decide_eq_true_eq, decide_eq_false_iff_not, beq_iff_eq, beq_eq_false_iff_ne, bne_iff_ne, bne_eq_false_iff_eq, Bool.not_eq_true', Bool.not_eq_false', Bool.not_eq_true, Bool.not_eq_false] at hc) <;> first | (first | (exact absurd rfl hc) | (exfalso; omega) | (exact absurd (hc.symm.trans (by assumption : _ = false)) (by decide)) | (exact absurd (hc.symm.trans (by assumption : _ = true)) (by decide))) | skip)) | refine loopK.x ?_)
      | fail
    all_goals first | (exfalso; rw [hp2] at *; omega) | skip
    all_goals refine loopK.nn (m - 1) (by omega) (by repeat (first | refine Ag.upd rfl ?_ | exact Ag.hv)) ⟨_, ⟨k + 1, am, cm, hm, ?_, by omega, by rw [hsc]; rfl, by rw [hsc]; exact om, rfl⟩, fun w hw => H.sel (l := [_, _, _]) (M := []) hw [1, 2]⟩
    all_goals (show Value.int .i64 _ = _; congr 1)
def fromB (f : Nat → Bool) : Nat → Nat
  | 0 => 0
  | j + 1 => 2 * fromB f j + if f j = true then 1 else 0
theorem fromB_lt (f : Nat → Bool) : ∀ j, fromB f j < 2 ^ j
  | 0 => by simp [fromB]
  | j + 1 => by
    have := fromB_lt f j
    rw [fromB, Nat.pow_succ]
    split <;> omega
theorem fromB_bit (f : Nat → Bool) : ∀ (j i : Nat), (fromB f j).testBit i = (decide (i < j) && f (j - 1 - i))
  | 0, i => by simp [fromB]
  | j + 1, 0 => by
    rw [fromB, Nat.testBit_zero, show j + 1 - 1 - 0 = j by omega]
    cases f j <;> simp <;> omega
  | j + 1, i + 1 => by
    rw [fromB, Nat.testBit_succ, show (2 * fromB f j + if f j = true then 1 else 0) / 2 = fromB f j by split <;> omega, fromB_bit f j i]
    rw [show j + 1 - 1 - (i + 1) = j - 1 - i by omega]
    simp
theorem asgR_of (e : Int → Bool) (N : Nat) (hN : N ≤ 60) : ∃ k, k < 2 ^ N ∧ ∀ u, hasB (asgR N k) u = (decide (1 ≤ u ∧ u ≤ N) && e u) := by
  refine ⟨fromB (fun j => e ((j : Int) + 1)) N, fromB_lt _ _, fun u => ?_⟩
  unfold asgR
  rw [has_rev _ N hN, fromB_bit]
  by_cases h : 1 ≤ u ∧ u ≤ N
  · rw [decide_eq_true h, decide_eq_true (by omega), Bool.true_and, Bool.true_and, Bool.true_and]
    congr 1
    omega
  · rw [decide_eq_false h]
    rfl
def mkT (l : List Int) (ms : List (Nat × Nat)) : List Bool := ms.foldl (fun t s => t.set (idxQ (asgS l s) l.length l.length) true) (List.replicate (2 ^ l.length) false)
theorem mkT_app (l : List Int) (ms : List (Nat × Nat)) (s : Nat × Nat) : mkT l (ms ++ [s]) = (mkT l ms).set (idxQ (asgS l s) l.length l.length) true := by unfold mkT; rw [List.foldl_append]; rfl
theorem foldT_len (l : List Int) : ∀ (ms : List (Nat × Nat)) (t : List Bool), (ms.foldl (fun t s => t.set (idxQ (asgS l s) l.length l.length) true) t).length = t.length
  | [], _ => rfl
  | s :: ms, t => by rw [List.foldl_cons, foldT_len l ms, List.length_set]
theorem mkT_len (l : List Int) (ms : List (Nat × Nat)) : (mkT l ms).length = 2 ^ l.length := by unfold mkT; rw [foldT_len, List.length_replicate]
theorem foldT_get (l : List Int) : ∀ (ms : List (Nat × Nat)) (t : List Bool) (r : Nat), r < t.length → ((ms.foldl (fun t s => t.set (idxQ (asgS l s) l.length l.length) true) t).getD r default = true ↔ t.getD r default = true ∨ ∃ s ∈ ms, idxQ (asgS l s) l.length l.length = r)
  | [], t, r, h => by simp
  | s :: ms, t, r, h => by
    rw [List.foldl_cons, foldT_get l ms _ r (by rw [List.length_set]; exact h)]
    have : (t.set (idxQ (asgS l s) l.length l.length) true).getD r default = true ↔ t.getD r default = true ∨ idxQ (asgS l s) l.length l.length = r := by
      rw [List.getD_eq_getElem?_getD, List.getElem?_set]
      by_cases e : idxQ (asgS l s) l.length l.length = r
      · rw [if_pos e, if_pos (by omega)]; simp [e]
      · rw [if_neg e, List.getD_eq_getElem?_getD]; simp [e]
    rw [this]
    constructor
    · rintro ((g | g) | ⟨x, hx, g⟩)
      · exact .inl g
      · exact .inr ⟨s, List.mem_cons_self, g⟩
      · exact .inr ⟨x, List.mem_cons_of_mem _ hx, g⟩
    · rintro (g | ⟨x, hx, g⟩)
      · exact .inl (.inl g)
      · rcases List.mem_cons.1 hx with rfl | hx
        · exact .inl (.inr g)
        · exact .inr ⟨x, hx, g⟩
theorem mkT_get (l : List Int) (ms : List (Nat × Nat)) {r : Nat} (h : r < 2 ^ l.length) : (mkT l ms).getD r default = true ↔ ∃ s ∈ ms, idxQ (asgS l s) l.length l.length = r := by
  unfold mkT
  rw [foldT_get l ms _ r (by rw [List.length_replicate]; exact h)]
  constructor
  · rintro (g | g)
    · rw [List.getD_eq_getElem?_getD, List.getElem?_replicate, if_pos h] at g
      cases g
    · exact g
  · exact .inr
theorem evT_congr {N : Nat} {T : List (List Int)} (hok : okTh N T) {b c : Int → Bool} (h : ∀ u : Int, 1 ≤ u → u ≤ N → b u = c u) : evT b T = evT c T := by
  have hl : ∀ cl ∈ T, ∀ x ∈ cl, litT b x = litT c x := fun cl hc x hx => by
    have := (hok.2.2 cl hc).2 x hx
    unfold litT
    split
    · rw [h (-x) (by omega) (by omega)]
    · rw [h x (by omega) (by omega)]
  unfold evT
  rw [Bool.eq_iff_iff, List.all_eq_true, List.all_eq_true]
  refine forall_congr' fun cl => forall_congr' fun hc => ?_
  rw [List.any_eq_true, List.any_eq_true]
  refine exists_congr fun x => ?_
  constructor
  · rintro ⟨h1, h2⟩; exact ⟨h1, by rw [← hl cl hc x h1]; exact h2⟩
  · rintro ⟨h1, h2⟩; exact ⟨h1, by rw [hl cl hc x h1]; exact h2⟩
theorem mkT_th {l : List Int} {N : Nat} {T : List (List Int)} (hok : okTh N T) (hN : N ≤ 60) (hp : l.Perm (ints N)) (hn : l.Nodup) : mkT l (msF N T (2 ^ N)) = tabF l.length (gF l (thF T)) := by
  refine list_eq (by rw [mkT_len, tabF_len]) fun r hr => ?_
  rw [mkT_len] at hr
  rw [tabF_get _ _ hr, Bool.eq_iff_iff, mkT_get l _ hr]
  have hmem : ∀ u : Int, 1 ≤ u → u ≤ N → u ∈ l := fun u h1 h2 => hp.mem_iff.2 ((ints_mem _ _).2 ⟨h1, h2⟩)
  have hval : ∀ (s : Nat × Nat) (α : Nat → Bool), (∀ k, k < l.length → asgS l s k = α k) → evT (hasB s) T = gF l (thF T) α := fun s α h => by
    show evT (hasB s) T = evT (betaV l α) T
    refine evT_congr hok fun u h1 h2 => ?_
    obtain ⟨k, hk, e⟩ := mem_at (hmem u h1 h2)
    rw [← e, beta_at hn α hk, ← h k hk]
    rfl
  constructor
  · rintro ⟨s, hs, rfl⟩
    unfold msF at hs
    rw [List.mem_filter] at hs
    rw [← hval s _ fun k hk => (asg_of l.length (asgS l s) hk).symm]
    exact hs.2
  · intro h
    obtain ⟨k, hk, hu⟩ := asgR_of (betaV l (asg l.length r)) N hN
    have hsame : ∀ i, i < l.length → asgS l (asgR N k) i = asg l.length r i := fun i hi => by
      have hv := (ints_mem _ _).1 (hp.mem_iff.1 (mem_g l i hi))
      show hasB (asgR N k) (l.getD i default) = _
      rw [hu, decide_eq_true hv, Bool.true_and, beta_at hn _ hi]
    refine ⟨asgR N k, ?_, ?_⟩
    · unfold msF
      rw [List.mem_filter]
      exact ⟨List.mem_map.2 ⟨k, List.mem_range.2 hk, rfl⟩, by rw [hval _ _ hsame]; exact h⟩
    · refine asg_inj (n := l.length) (idxQ_ok _ _ _ (Nat.le_refl _)).1 hr fun i hi => ?_
      rw [asg_of l.length _ hi, hsame i hi]
theorem table30_any (l : List Int) (a : Option Addr) (c : Nat) (h : Heap) (hs : SlT encI 1 a l h) (h8 : l.length ≤ 8) (ms : List (Nat × Nat)) (am : Option Addr) (cm : Nat) (hm : Heap) (hsm : SlT encS 2 am ms hm) (hok : ∀ s ∈ ms, okS s) (hl : ms.length ≤ 100000) (w : World) (hw1 : Holds (h ++ hm) w) :
    Calls Try.prog 38 #[.slice a l.length c, .slice am ms.length cm] w (Gives (Sls encBo 1 4 (mkT l ms)) w) := by
  have h2n := pow8 h8
  have q0 : ∀ L, RdH (h ++ hm) L h := fun L => RdH.old fun _ hh => List.mem_append_left _ hh
  have q1 : ∀ L, RdH (h ++ hm) L hm := fun L => RdH.old fun _ hh => List.mem_append_right _ hh
  refine calls_of_JC (R := (h ++ hm)) Try.func38 Try.ntmps38 rfl rfl (hw1) ?_
  repeat' first
    | (refine J.isJ ?_; first | ((refine J.fc 86 ?_; refine J.call1 eConst rfl rfl (fun w hw => const_any l.length h8 false w) ?_; rintro _ ht ⟨aT, cT, rfl, oT⟩)) | (first | (refine J.o 0 ?_; refine J.ev' hΓ ?_) | refine J.nil ?_ | (refine J.o 4 ?_; first | refine J.lT default hΓ ?_) | (refine J.o 3 ?_; first | refine J.iJ hΓ ?_ | refine J.ev' hΓ ?_) | (refine J.o 1 ?_; first | refine J.ad ?_) | (refine J.o 5 ?_; first | refine J.tT _ default hΓ (fun _ _ => ?_)) | (refine J.o 10 ?_; refine J.ev' hΓ ?_) | (refine J.o 11 ?_; refine J.ev' hΓ ?_)))
    | (first | refine JC.seq ?_ | refine JC.region ?_ | refine JC.block ?_ | refine JC.ret ?_ | refine JC.exit ?_ | refine JC.skip ?_ | refine thenK.nn ?_ | refine thenK.x ?_ | refine blockK.nn ?_ | refine blockK.hit rfl ?_ | (refine JC.cond rfl (fun hc => ?_) (fun hc => ?_) <;> ((try simp only [decide_eq_true_eq, decide_eq_false_iff_not, beq_iff_eq, beq_eq_false_iff_ne, bne_iff_ne, bne_eq_false_iff_eq, Bool.not_eq_true', Bool.not_eq_false', Bool.not_eq_true, Bool.not_eq_false] at hc) <;> first | (first | (exact absurd rfl hc) | (exfalso; omega) | (exact absurd (hc.symm.trans (by assumption : _ = false)) (by decide)) | (exact absurd (hc.symm.trans (by assumption : _ = true)) (by decide))) | skip)) | refine loopK.x ?_)
    | (fail)
    | fail
  all_goals first | (exfalso; omega) | skip
  refine JC.loop (fun i => i == 6 || Nat.ble 10 i) (fun m g L => ∃ (k : Nat) (hT : Heap), g 6 = .int .i64 (k : Int) ∧ k + m = ms.length ∧ OwT encBo 1 4 aT cT (mkT l (ms.take k)) hT ∧ L = [hT]) ms.length ⟨0, ht, rfl, by omega, oT, rfl⟩ ?_
  clear oT
  rintro m g L ⟨k, hT, e6, hkm, oT, rfl⟩
  refine JC.pin 6 e6 ?_
  have htl := mkT_len l (ms.take k)
  have hrl : (List.replicate (2 ^ l.length) false).length = 2 ^ l.length := List.length_replicate
  rcases Nat.lt_or_ge k ms.length with hk | hk
  ·
    have cI := fun w hw => index_any l a c h hs h8 (ms.getD k default) (hok _ (mem_g ms k hk)) w hw
    have hi := (idxQ_ok (asgS l (ms.getD k default)) l.length l.length (Nat.le_refl _)).1
    have hnx := mkT_app l (ms.take k) (ms.getD k default)
    rw [← take_g ms k hk] at hnx
    repeat' first
      | (refine J.isJ ?_; first | (first | (refine J.o 3 ?_; first | refine J.iJ hΓ ?_ (hs := hsm) | refine J.iJ hΓ ?_ (hs := oT.sl)) | (refine J.o 4 ?_; refine J.lT default hΓ ?_ (hs := hsm) (hr := q1 _)) | (refine J.fc 87 ?_; refine J.call0 eIndex rfl rfl (fun w hw => cI w (hw.rdH (q0 _))) ?_) | (refine J.o 5 ?_; refine J.tT (enc := encBo) true default hΓ (fun h5 o5 => ?_) (ho := oT))) | (first | (refine J.o 0 ?_; refine J.ev' hΓ ?_) | refine J.nil ?_ | (refine J.o 4 ?_; first | refine J.lT default hΓ ?_) | (refine J.o 3 ?_; first | refine J.iJ hΓ ?_ | refine J.ev' hΓ ?_) | (refine J.o 1 ?_; first | refine J.ad ?_) | (refine J.o 5 ?_; first | refine J.tT _ default hΓ (fun _ _ => ?_)) | (refine J.o 10 ?_; refine J.ev' hΓ ?_) | (refine J.o 11 ?_; refine J.ev' hΓ ?_)))
      | (first | refine JC.seq ?_ | refine JC.region ?_ | refine JC.block ?_ | refine JC.ret ?_ | refine JC.exit ?_ | refine JC.skip ?_ | refine thenK.nn ?_ | refine thenK.x ?_ | refine blockK.nn ?_ | refine blockK.hit rfl ?_ | (refine JC.cond rfl (fun hc => ?_) (fun hc => ?_) <;> ((try simp only [decide_eq_true_eq, decide_eq_false_iff_not, beq_iff_eq, beq_eq_false_iff_ne, bne_iff_ne, bne_eq_false_iff_eq, Bool.not_eq_true', Bool.not_eq_false', Bool.not_eq_true, Bool.not_eq_false] at hc) <;> first | (first | (exact absurd rfl hc) | (exfalso; omega) | (exact absurd (hc.symm.trans (by assumption : _ = false)) (by decide)) | (exact absurd (hc.symm.trans (by assumption : _ = true)) (by decide))) | skip)) | refine loopK.x ?_)
      | fail
    all_goals first | (exfalso; omega) | skip
    refine loopK.nn (m - 1) (by omega) (by repeat (first | refine Ag.upd rfl ?_ | exact Ag.hv)) ⟨k + 1, h5, ?_, by omega, by rw [hnx]; exact o5, rfl⟩
    show Value.int .i64 _ = _; congr 1
  ·
    repeat' first
      | (refine J.isJ ?_; first | (fail) | (first | (refine J.o 0 ?_; refine J.ev' hΓ ?_) | refine J.nil ?_ | (refine J.o 4 ?_; first | refine J.lT default hΓ ?_) | (refine J.o 3 ?_; first | refine J.iJ hΓ ?_ | refine J.ev' hΓ ?_) | (refine J.o 1 ?_; first | refine J.ad ?_) | (refine J.o 5 ?_; first | refine J.tT _ default hΓ (fun _ _ => ?_)) | (refine J.o 10 ?_; refine J.ev' hΓ ?_) | (refine J.o 11 ?_; refine J.ev' hΓ ?_)))
      | (first | refine JC.seq ?_ | refine JC.region ?_ | refine JC.block ?_ | refine JC.ret ?_ | refine JC.exit ?_ | refine JC.skip ?_ | refine thenK.nn ?_ | refine thenK.x ?_ | refine blockK.nn ?_ | refine blockK.hit rfl ?_ | (refine JC.cond rfl (fun hc => ?_) (fun hc => ?_) <;> ((try simp only [decide_eq_true_eq, decide_eq_false_iff_not, beq_iff_eq, beq_eq_false_iff_ne, bne_iff_ne, bne_eq_false_iff_eq, Bool.not_eq_true', Bool.not_eq_false', Bool.not_eq_true, Bool.not_eq_false] at hc) <;> first | (first | (exact absurd rfl hc) | (exfalso; omega) | (exact absurd (hc.symm.trans (by assumption : _ = false)) (by decide)) | (exact absurd (hc.symm.trans (by assumption : _ = true)) (by decide))) | skip)) | refine loopK.x ?_)
      | (fail)
      | fail
    all_goals first | (exfalso; omega) | skip
    rw [List.take_of_length_le hk] at oT
    exact ret1f rfl rfl rfl (fun w1 hw => Gives.of hw ⟨_, _, by rw [mkT_len, List.length_replicate], oT⟩)
theorem size30_any (l : List Int) (a : Option Addr) (c : Nat) (h : Heap) (hs : SlT encI 1 a l h) (h8 : l.length ≤ 8) (ms : List (Nat × Nat)) (am : Option Addr) (cm : Nat) (hm : Heap) (hsm : SlT encS 2 am ms hm) (hok : ∀ s ∈ ms, okS s) (hl : ms.length ≤ 100000) (w : World) (hw1 : Holds (h ++ hm) w) :
    Calls Try.prog 39 #[.slice am ms.length cm, .slice a l.length c] w fun e w' => e = .returned (.int .i64 (sizeT l.length (mkT l ms) : Int)) ∧ Below w.heap.size w w' := by
  have q0 : ∀ L, RdH (h ++ hm) L (h ++ hm) := fun L => RdH.old fun _ hh => hh
  have htl := mkT_len l ms
  have cT := fun w hw => table30_any l a c h hs h8 ms am cm hm hsm hok hl w hw
  refine calls_of_JC (R := (h ++ hm)) Try.func39 Try.ntmps39 rfl rfl (hw1) ?_
  repeat' first
    | (refine J.isJ ?_; first | (first | (refine J.fc 38 ?_; refine J.call1 eTable30 rfl rfl (fun w hw => cT w (hw.rdH (q0 _))) ?_; rintro _ ht ⟨aT, cT2, rfl, oT⟩) | (refine J.fc 88 ?_; rw [htl]; refine J.call0 eSizeOf rfl rfl (fun w hw => sizeOf_any l.length h8 a c (mkT l ms) htl aT cT2 (by have := own_le oT; omega) ht oT.sl w (hw.rdH RdH.hd)) ?_)) | (first | (refine J.o 0 ?_; refine J.ev' hΓ ?_) | refine J.nil ?_ | (refine J.o 3 ?_; first | refine J.ev' hΓ ?_) | (refine J.o 10 ?_; refine J.ev' hΓ ?_) | (refine J.o 11 ?_; refine J.ev' hΓ ?_)))
    | (first | refine JC.seq ?_ | refine JC.region ?_ | refine JC.ret ?_ | refine thenK.nn ?_)
    | (fail)
    | fail
  all_goals first | (exfalso; omega) | skip
  all_goals (refine ret1f rfl rfl rfl (fun w1 hw => ⟨rfl, hw.below⟩))
end Go.Proofs.Ytbhgahjeocnfcaa
