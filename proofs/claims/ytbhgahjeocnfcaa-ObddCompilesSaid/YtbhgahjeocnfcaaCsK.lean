/- ObddCompiles: part 11. -/
import Derived.Test.YtbhgahjeocnfcaaCsJ
namespace Go.Proofs.Ytbhgahjeocnfcaa
open Go Go.Cx Go.RowKit
set_option linter.unusedVariables false
set_option linter.unusedSimpArgs false
set_option maxHeartbeats 4000000
attribute [local irreducible] J JC thenK blockK loopK drawK retK QW Qt pel List.set Calls
open Go.Maps Go.Lib
set_option maxRecDepth 8000
attribute [local irreducible] JE Br eK0 eK3 brK pc
theorem allP_all (N : Nat) (hN : N ≤ 128) : allP (N : Int) = allS N := by
  refine set_ext (ofP_ok _) (okS_all N) fun u h1 h2 => ?_
  rw [Bool.eq_iff_iff, allP_has, has_all N u hN]
  omega
def ordP (N : Nat) (l : List Int) : Prop := l.length = N ∧ ofS l = allS N
instance (N : Nat) (l : List Int) : Decidable (ordP N l) := by unfold ordP; exact inferInstance
theorem ints_nodup : ∀ n, (ints n).Nodup
  | 0 => by unfold ints; exact List.nodup_nil
  | n + 1 => by
    rw [ints_succ, List.nodup_append]
    exact ⟨ints_nodup n, List.nodup_cons.2 ⟨List.not_mem_nil, List.nodup_nil⟩, fun a ha b hb e => by
      rw [List.mem_singleton.1 hb] at e
      have := (ints_mem n a).1 ha
      omega⟩
theorem ordP_perm {N : Nat} (hN : N ≤ 128) {l : List Int} (h : ordP N l) : l.Perm (ints N) := by
  have ho := ord_of hN h.1 h.2
  refine (List.perm_ext_iff_of_nodup ho.2 (ints_nodup N)).2 fun u => ?_
  rw [ints_mem]
  have hh := ofS_has l (0, 0) u
  have h2 : hasB (l.foldl withS (0, 0)) u = hasB (allS N) u := congrArg (fun s => hasB s u) h.2
  rw [h2, has_zero, has_all N u hN] at hh
  constructor
  · intro hu
    exact hh.2 (.inr ⟨hu, ho.1 u hu⟩)
  · intro hu
    rcases hh.1 hu with g | g
    · cases g
    · exact g.1
theorem ord18_any (N : Nat) (hN : N ≤ 128) (l : List Int) (a : Option Addr) (c : Nat) (h : Heap) (hs : SlT encI 1 a l h) (hl : l.length ≤ 1000000) (w : World) (hw : Holds h w) :
    Calls Try.prog 83 #[.slice a l.length c, .int .i64 (N : Int)] w fun e w' => e = .returned (.bool (decide (ordP N l))) ∧ Below w.heap.size w w' := by
  have q0 : ∀ L, RdH h L h := fun L => RdH.old fun _ hh => hh
  have cO := fun w hw => of3_any a c l h hs hl w hw
  rw [ofP_eq] at cO
  have cA := fun w => all3_any (N : Int) w
  rw [allP_all N hN] at cA
  by_cases hlen : l.length = N
  ·
    have hdd : decide (ordP N l) = decide (ofS l = allS N) := decide_eq_decide.2 ⟨fun g => g.2, fun g => ⟨hlen, g⟩⟩
    rw [hdd]
    have hlb : ((l.length : Int) == (N : Int)) = true := by rw [hlen]; simp
    refine calls_of_JC (R := h) Try.func83 Try.ntmps83 rfl rfl (hw) ?_
    repeat' first
      | (refine J.isJ ?_; first | (first | (refine J.fc 127 ?_; refine J.call0 eOf3 rfl rfl (fun w hw => cO w (hw.rdH (q0 _))) ?_) | (refine J.fc 128 ?_; refine J.call0 eAll3 rfl rfl (fun w hw => cA w) ?_) | (refine J.o 11 ?_; first | (refine J.eA (a := ofS l) (b := allS N) hΓ ?_) | (refine J.ev' hΓ ?_; rw [hlb]))) | (first | (refine J.o 0 ?_; refine J.ev' hΓ ?_) | refine J.nil ?_ | refine J.kd ?_ | (refine J.o 3 ?_; first | refine J.ev' hΓ ?_) | (refine J.o 10 ?_; refine J.ev' hΓ ?_) | (refine J.o 11 ?_; refine J.ev' hΓ ?_)) | ((fail_if_success refine J.wt ?_); refine J.gc rfl rfl (fun hc => ?_) (fun hc => ?_) <;> ((try simp only [decide_eq_true_eq, decide_eq_false_iff_not, beq_iff_eq, beq_eq_false_iff_ne, bne_iff_ne, bne_eq_false_iff_eq, Bool.not_eq_true', Bool.not_eq_false', Bool.not_eq_true, Bool.not_eq_false] at hc) <;> first | (first | (exact absurd rfl hc) | (exfalso; omega) | (exact absurd (hc.symm.trans (by assumption : _ = false)) (by decide)) | (exact absurd (hc.symm.trans (by assumption : _ = true)) (by decide))) | skip)))
      | (first | refine JC.seq ?_ | refine JC.region ?_ | refine JC.ret ?_ | refine thenK.nn ?_)
      | (fail)
      | fail
    all_goals first | (exfalso; omega) | skip
    all_goals (refine ret1f rfl rfl rfl (fun w1 hw => ⟨rfl, hw.below⟩))
  ·
    rw [decide_eq_false (fun g : ordP N l => hlen g.1)]
    refine calls_of_JC (R := h) Try.func83 Try.ntmps83 rfl rfl (hw) ?_
    repeat' first
      | (refine J.isJ ?_; first | (fail) | (first | (refine J.o 0 ?_; refine J.ev' hΓ ?_) | refine J.nil ?_ | refine J.kd ?_ | (refine J.o 3 ?_; first | refine J.ev' hΓ ?_) | (refine J.o 10 ?_; refine J.ev' hΓ ?_) | (refine J.o 11 ?_; refine J.ev' hΓ ?_)) | ((fail_if_success refine J.wt ?_); refine J.gc rfl rfl (fun hc => ?_) (fun hc => ?_) <;> ((try simp only [decide_eq_true_eq, decide_eq_false_iff_not, beq_iff_eq, beq_eq_false_iff_ne, bne_iff_ne, bne_eq_false_iff_eq, Bool.not_eq_true', Bool.not_eq_false', Bool.not_eq_true, Bool.not_eq_false] at hc) <;> first | (first | (exact absurd rfl hc) | (exfalso; omega) | (exact absurd (hc.symm.trans (by assumption : _ = false)) (by decide)) | (exact absurd (hc.symm.trans (by assumption : _ = true)) (by decide))) | skip)))
      | (first | refine JC.seq ?_ | refine JC.region ?_ | refine JC.ret ?_ | refine thenK.nn ?_)
      | (fail)
      | fail
    all_goals first | (exfalso; omega) | skip
    all_goals (refine ret1f rfl rfl rfl (fun w1 hw => ⟨rfl, hw.below⟩))
def comE (N : Int) (T : List (List Int)) (l : List Int) : Int := if thE N T ≠ 0 then thE N T else if ordP N.toNat l then 0 else 1
theorem check30_any (N : Int) (aT : Option Addr) (cap : Nat) (vs : List HV) (hT : Heap) (ll : LLR aT vs hT) (l : List Int) (a : Option Addr) (c : Nat) (h : Heap) (hs : SlT encI 1 a l h) (hl : l.length ≤ 1000000) (w : World) (hw : Holds (h ++ hT) w) :
    Calls Try.prog 35 #[.agg ⟨[.int .i64 N, .slice aT vs.length cap]⟩, .slice a l.length c] w fun e w' => e = .returned (.int .i64 (comE N (vs.map (·.l)) l)) ∧ Below w.heap.size w w' := by
  have q0 : ∀ L, RdH (h ++ hT) L h := fun L => RdH.old fun _ hh => List.mem_append_left _ hh
  have q1 : ∀ L, RdH (h ++ hT) L hT := fun L => RdH.old fun _ hh => List.mem_append_right _ hh
  have cC := fun w hw => check05_any N aT cap vs hT ll w hw
  unfold comE
  by_cases he : thE N (vs.map (·.l)) = 0
  · rw [if_neg (fun g => g he)]
    rw [he] at cC
    have hN := (thE_ok.1 he).1
    obtain ⟨n, rfl⟩ : ∃ n : Nat, N = (n : Int) := ⟨N.toNat, by omega⟩
    have hnn : (n : Int).toNat = n := by omega
    rw [hnn]
    have cO := fun w hw => ord18_any n (by omega) l a c h hs hl w hw
    by_cases ho : ordP n l
    · rw [if_pos ho]
      rw [decide_eq_true ho] at cO
      refine calls_of_JC (R := (h ++ hT)) Try.func35 Try.ntmps35 rfl rfl (hw) ?_
      repeat' first
        | (refine J.isJ ?_; first | (first | (refine J.o 6 ?_; refine J.bx (fun b2 => ?_)) | (refine J.o 4 ?_; refine J.lR hΓ ?_ (hr := Rd.hd)) | (refine J.fc 52 ?_; refine J.call0 eCheck05 rfl rfl (fun w hw => cC w (hw.rdH (q1 _))) ?_) | (refine J.fc 83 ?_; refine J.call0 eOrd18 rfl rfl (fun w hw => cO w (hw.rdH (q0 _))) ?_)) | (first | (refine J.o 0 ?_; refine J.ev' hΓ ?_) | refine J.nil ?_ | (refine J.o 4 ?_; first | refine J.lR hΓ ?_) | (refine J.o 3 ?_; first | refine J.ev' hΓ ?_) | (refine J.o 6 ?_; refine J.bx (fun _ => ?_)) | (refine J.o 10 ?_; refine J.ev' hΓ ?_) | (refine J.o 11 ?_; refine J.ev' hΓ ?_)))
        | (first | refine JC.seq ?_ | refine JC.region ?_ | refine JC.ret ?_ | refine JC.skip ?_ | refine thenK.nn ?_ | refine thenK.r ?_ | refine JC.condT rfl ?_ | refine JC.condF rfl ?_)
        | (fail)
        | fail
      all_goals first | (exfalso; omega) | skip
      all_goals (refine ret1f rfl rfl rfl (fun w1 hw => ⟨rfl, hw.below⟩))
    · rw [if_neg ho]
      rw [decide_eq_false ho] at cO
      refine calls_of_JC (R := (h ++ hT)) Try.func35 Try.ntmps35 rfl rfl (hw) ?_
      repeat' first
        | (refine J.isJ ?_; first | (first | (refine J.o 6 ?_; refine J.bx (fun b2 => ?_)) | (refine J.o 4 ?_; refine J.lR hΓ ?_ (hr := Rd.hd)) | (refine J.fc 52 ?_; refine J.call0 eCheck05 rfl rfl (fun w hw => cC w (hw.rdH (q1 _))) ?_) | (refine J.fc 83 ?_; refine J.call0 eOrd18 rfl rfl (fun w hw => cO w (hw.rdH (q0 _))) ?_)) | (first | (refine J.o 0 ?_; refine J.ev' hΓ ?_) | refine J.nil ?_ | (refine J.o 4 ?_; first | refine J.lR hΓ ?_) | (refine J.o 3 ?_; first | refine J.ev' hΓ ?_) | (refine J.o 6 ?_; refine J.bx (fun _ => ?_)) | (refine J.o 10 ?_; refine J.ev' hΓ ?_) | (refine J.o 11 ?_; refine J.ev' hΓ ?_)))
        | (first | refine JC.seq ?_ | refine JC.region ?_ | refine JC.ret ?_ | refine JC.skip ?_ | refine thenK.nn ?_ | refine thenK.r ?_ | refine JC.condT rfl ?_ | refine JC.condF rfl ?_)
        | (fail)
        | fail
      all_goals first | (exfalso; omega) | skip
      all_goals (refine ret1f rfl rfl rfl (fun w1 hw => ⟨rfl, hw.below⟩))
  · rw [if_pos he]
    have hd : (thE N (vs.map (·.l)) != 0) = true := by simpa using he
    refine calls_of_JC (R := (h ++ hT)) Try.func35 Try.ntmps35 rfl rfl (hw) ?_
    repeat' first
      | (refine J.isJ ?_; first | (first | (refine J.o 6 ?_; refine J.bx (fun b2 => ?_)) | (refine J.o 4 ?_; refine J.lR hΓ ?_ (hr := Rd.hd)) | (refine J.fc 52 ?_; refine J.call0 eCheck05 rfl rfl (fun w hw => cC w (hw.rdH (q1 _))) ?_) | (refine J.o 11 ?_; refine J.ev' hΓ ?_; rw [hd])) | (first | (refine J.o 0 ?_; refine J.ev' hΓ ?_) | refine J.nil ?_ | (refine J.o 4 ?_; first | refine J.lR hΓ ?_) | (refine J.o 3 ?_; first | refine J.ev' hΓ ?_) | (refine J.o 6 ?_; refine J.bx (fun _ => ?_)) | (refine J.o 10 ?_; refine J.ev' hΓ ?_) | (refine J.o 11 ?_; refine J.ev' hΓ ?_)))
      | (first | refine JC.seq ?_ | refine JC.region ?_ | refine JC.ret ?_ | refine JC.skip ?_ | refine thenK.nn ?_ | refine thenK.r ?_ | refine JC.condT rfl ?_ | refine JC.condF rfl ?_)
      | (fail)
      | fail
    all_goals first | (exfalso; omega) | skip
    all_goals (refine ret1f rfl rfl rfl (fun w1 hw => ⟨rfl, hw.below⟩))
theorem Stv.count {F : VF} {l : List Int} {K : KS} {s : SS} {y : Nat} {hO hP : Heap} (sv : Stv F l K s y hO hP) : 2 ^ (nd s.ns y).p * cN l.length s.ns y = cntF l.length (gF l F) := by
  rw [tab_count sv.so.wf sv.sy.1]
  unfold tab blk cntF
  congr 1
  exact List.map_congr_left fun r _ => sv.sy.fn sv.ho.2 sv.so.wf _
theorem countV_any {F : VF} {l : List Int} {K : KS} {s : SS} {y : Nat} {hO hP : Heap} (sv : Stv F l K s y hO hP) {w0 w : World} {R : Heap} {L : List Heap} {b0 : Nat} (rS : RdH R L (stR K b0 s hO)) (hw : H w0 R L w) :
    Calls Try.prog 30 #[.pointer (some ⟨b0, 0, none⟩), .int .i64 (y : Int)] w fun e w' => ∃ v L', e = .returned v ∧ H w0 R L' w' ∧ v = .tuple #[natV (cntF l.length (gF l F)), .int .i64 0] ∧ L' = L := by
  have := Count_any sv.so b0 y sv.sy.1 (stR_b rS) (stR_N rS) hw
  rwa [sv.count] at this
set_option maxHeartbeats 16000000 in
theorem compiles_any (N : Int) (aT : Option Addr) (cap : Nat) (vs : List HV) (hT : Heap) (ll : LLR aT vs hT) (l : List Int) (a : Option Addr) (c : Nat) (h : Heap) (hs : SlT encI 1 a l h) (w : World) (hw1 : Holds (h ++ hT) w) :
    Calls Try.prog 8 #[.agg ⟨[.int .i64 N, .slice aT vs.length cap]⟩, .slice a l.length c] w fun e w' => e = .returned (.bool true) ∧ Below w.heap.size w w' := by
  have q0 : ∀ L, RdH (h ++ hT) L h := fun L => RdH.old fun _ hh => List.mem_append_left _ hh
  have q1 : ∀ L, RdH (h ++ hT) L hT := fun L => RdH.old fun _ hh => List.mem_append_right _ hh
  by_cases hbig : vs.length ≤ 40 ∧ l.length ≤ 200
  case neg =>
    refine calls_of_JC (R := (h ++ hT)) Try.func8 Try.ntmps8 rfl rfl (hw1) ?_
    repeat' first
      | (refine J.isJ ?_; first | (first | (refine J.o 6 ?_; refine J.bx (fun b2 => ?_)) | (refine J.o 4 ?_; refine J.lR hΓ ?_ (hr := Rd.hd)) | (refine J.fc 29 ?_; refine J.call0 eWorks30 rfl rfl (fun w hw => works_any w) ?_)) | (first | (refine J.o 0 ?_; refine J.ev' hΓ ?_) | refine J.nil ?_ | refine J.kd ?_ | (refine J.o 4 ?_; first | refine J.lT default hΓ ?_ | refine J.lR hΓ ?_) | (refine J.o 3 ?_; first | refine J.iJ hΓ ?_ | refine J.ev' hΓ ?_) | (refine J.o 1 ?_; first | refine J.ad ?_) | (refine J.o 5 ?_; first | refine J.t0 hΓ ?_) | (refine J.o 6 ?_; refine J.bx (fun _ => ?_)) | (refine J.o 7 ?_; refine J.al hΓ (fun _ => ?_)) | (refine J.o 10 ?_; refine J.ev' hΓ ?_) | (refine J.o 11 ?_; refine J.ev' hΓ ?_)) | ((fail_if_success refine J.wt ?_); refine J.gc rfl rfl (fun hc => ?_) (fun hc => ?_) <;> ((try simp only [decide_eq_true_eq, decide_eq_false_iff_not, beq_iff_eq, beq_eq_false_iff_ne, bne_iff_ne, bne_eq_false_iff_eq, Bool.not_eq_true', Bool.not_eq_false', Bool.not_eq_true, Bool.not_eq_false] at hc) <;> first | (first | (exact absurd rfl hc) | (exfalso; omega) | (exact absurd (hc.symm.trans (by assumption : _ = false)) (by decide)) | (exact absurd (hc.symm.trans (by assumption : _ = true)) (by decide))) | skip)))
      | (first | refine JC.seq ?_ | refine JC.region ?_ | refine JC.block ?_ | refine JC.ret ?_ | refine JC.exit ?_ | refine JC.skip ?_ | refine thenK.nn ?_ | refine thenK.r ?_ | refine thenK.x ?_ | refine blockK.nn ?_ | refine blockK.hit rfl ?_ | refine JC.condT rfl ?_ | refine JC.condF rfl ?_ | (refine JC.cond rfl (fun hc => ?_) (fun hc => ?_) <;> ((try simp only [decide_eq_true_eq, decide_eq_false_iff_not, beq_iff_eq, beq_eq_false_iff_ne, bne_iff_ne, bne_eq_false_iff_eq, Bool.not_eq_true', Bool.not_eq_false', Bool.not_eq_true, Bool.not_eq_false] at hc) <;> first | (first | (exact absurd rfl hc) | (exfalso; omega) | (exact absurd (hc.symm.trans (by assumption : _ = false)) (by decide)) | (exact absurd (hc.symm.trans (by assumption : _ = true)) (by decide))) | skip)) | refine drawK.nn ?_ | refine loopK.x ?_)
      | (fail)
      | fail
    all_goals first | (exfalso; omega) | skip
    all_goals (refine ret1f rfl rfl rfl (fun w1 hw => ⟨rfl, hw.below⟩))
  obtain ⟨hv40, hl200⟩ := hbig
  have cC := fun w hw => check30_any N aT cap vs hT ll l a c h hs (by omega) w hw
  have hHB : ∀ {w0 L w}, H w0 (h ++ hT) L w → Holds (h ++ hT) w := fun hw => (hw.rdH (q0 _)).append (hw.rdH (q1 _))
  unfold comE at cC
  by_cases he : thE N (vs.map (·.l)) = 0
  case neg =>
    rw [if_pos he] at cC
    have hd : (thE N (vs.map (·.l)) == 0) = false := by simpa using he
    have hd2 : (thE N (vs.map (·.l)) != 0) = true := by simpa using he
    have hd3 : (thE N (vs.map (·.l)) != thE N (vs.map (·.l))) = false := by simp
    have cB := fun w hw => compile_bad N l a c h hs (by omega) aT cap vs hT ll he w hw
    refine calls_of_JC (R := (h ++ hT)) Try.func8 Try.ntmps8 rfl rfl (hw1) ?_
    repeat' first
      | (refine J.isJ ?_; first | (first | (refine J.o 6 ?_; refine J.bx (fun b2 => ?_)) | (refine J.o 4 ?_; refine J.lR hΓ ?_ (hr := Rd.hd)) | (refine J.fc 35 ?_; refine J.call0 eCheck30 rfl rfl (fun w hw => cC w (hHB hw)) ?_) | (refine J.fc 16 ?_; refine J.call0 eCom rfl rfl (fun w hw => cB w (hw.rdH (q1 _))) ?_) | (refine J.o 11 ?_; first | refine J.pN hΓ ?_ | (refine J.ev' hΓ ?_; first | rw [hd] | rw [hd2] | rw [hd3])) | (refine J.fc 29 ?_; refine J.call0 eWorks30 rfl rfl (fun w hw => works_any w) ?_)) | (first | (refine J.o 0 ?_; refine J.ev' hΓ ?_) | refine J.nil ?_ | refine J.kd ?_ | (refine J.o 4 ?_; first | refine J.lT default hΓ ?_ | refine J.lR hΓ ?_) | (refine J.o 3 ?_; first | refine J.iJ hΓ ?_ | refine J.ev' hΓ ?_) | (refine J.o 1 ?_; first | refine J.ad ?_) | (refine J.o 5 ?_; first | refine J.t0 hΓ ?_) | (refine J.o 6 ?_; refine J.bx (fun _ => ?_)) | (refine J.o 7 ?_; refine J.al hΓ (fun _ => ?_)) | (refine J.o 10 ?_; refine J.ev' hΓ ?_) | (refine J.o 11 ?_; refine J.ev' hΓ ?_)) | ((fail_if_success refine J.wt ?_); refine J.gc rfl rfl (fun hc => ?_) (fun hc => ?_) <;> ((try simp only [decide_eq_true_eq, decide_eq_false_iff_not, beq_iff_eq, beq_eq_false_iff_ne, bne_iff_ne, bne_eq_false_iff_eq, Bool.not_eq_true', Bool.not_eq_false', Bool.not_eq_true, Bool.not_eq_false] at hc) <;> first | (first | (exact absurd rfl hc) | (exfalso; omega) | (exact absurd (hc.symm.trans (by assumption : _ = false)) (by decide)) | (exact absurd (hc.symm.trans (by assumption : _ = true)) (by decide))) | skip)))
      | (first | refine JC.seq ?_ | refine JC.region ?_ | refine JC.block ?_ | refine JC.ret ?_ | refine JC.exit ?_ | refine JC.skip ?_ | refine thenK.nn ?_ | refine thenK.r ?_ | refine thenK.x ?_ | refine blockK.nn ?_ | refine blockK.hit rfl ?_ | refine JC.condT rfl ?_ | refine JC.condF rfl ?_ | (refine JC.cond rfl (fun hc => ?_) (fun hc => ?_) <;> ((try simp only [decide_eq_true_eq, decide_eq_false_iff_not, beq_iff_eq, beq_eq_false_iff_ne, bne_iff_ne, bne_eq_false_iff_eq, Bool.not_eq_true', Bool.not_eq_false', Bool.not_eq_true, Bool.not_eq_false] at hc) <;> first | (first | (exact absurd rfl hc) | (exfalso; omega) | (exact absurd (hc.symm.trans (by assumption : _ = false)) (by decide)) | (exact absurd (hc.symm.trans (by assumption : _ = true)) (by decide))) | skip)) | refine drawK.nn ?_ | refine loopK.x ?_)
      | (fail)
      | fail
    all_goals first | (exfalso; omega) | skip
    all_goals (refine ret1f rfl rfl rfl (fun w1 hw => ⟨rfl, hw.below⟩))
  rw [if_neg (fun g => g he)] at cC
  have hN := (thE_ok.1 he).1
  obtain ⟨n, rfl⟩ : ∃ n : Nat, N = (n : Int) := ⟨N.toNat, by omega⟩
  have hnn : (n : Int).toNat = n := by omega
  rw [hnn] at cC
  by_cases ho : ordP n l
  case neg =>
    rw [if_neg ho] at cC
    have cB := fun w hw => compile_ord n l a c h hs (by omega) aT cap vs hT ll he ho w hw
    refine calls_of_JC (R := (h ++ hT)) Try.func8 Try.ntmps8 rfl rfl (hw1) ?_
    repeat' first
      | (refine J.isJ ?_; first | (first | (refine J.o 6 ?_; refine J.bx (fun b2 => ?_)) | (refine J.o 4 ?_; refine J.lR hΓ ?_ (hr := Rd.hd)) | (refine J.fc 35 ?_; refine J.call0 eCheck30 rfl rfl (fun w hw => cC w (hHB hw)) ?_) | (refine J.fc 16 ?_; refine J.call0 eCom rfl rfl (fun w hw => cB w (hHB hw)) ?_) | (refine J.o 11 ?_; refine J.pN hΓ ?_) | (refine J.fc 29 ?_; refine J.call0 eWorks30 rfl rfl (fun w hw => works_any w) ?_)) | (first | (refine J.o 0 ?_; refine J.ev' hΓ ?_) | refine J.nil ?_ | refine J.kd ?_ | (refine J.o 4 ?_; first | refine J.lT default hΓ ?_ | refine J.lR hΓ ?_) | (refine J.o 3 ?_; first | refine J.iJ hΓ ?_ | refine J.ev' hΓ ?_) | (refine J.o 1 ?_; first | refine J.ad ?_) | (refine J.o 5 ?_; first | refine J.t0 hΓ ?_) | (refine J.o 6 ?_; refine J.bx (fun _ => ?_)) | (refine J.o 7 ?_; refine J.al hΓ (fun _ => ?_)) | (refine J.o 10 ?_; refine J.ev' hΓ ?_) | (refine J.o 11 ?_; refine J.ev' hΓ ?_)) | ((fail_if_success refine J.wt ?_); refine J.gc rfl rfl (fun hc => ?_) (fun hc => ?_) <;> ((try simp only [decide_eq_true_eq, decide_eq_false_iff_not, beq_iff_eq, beq_eq_false_iff_ne, bne_iff_ne, bne_eq_false_iff_eq, Bool.not_eq_true', Bool.not_eq_false', Bool.not_eq_true, Bool.not_eq_false] at hc) <;> first | (first | (exact absurd rfl hc) | (exfalso; omega) | (exact absurd (hc.symm.trans (by assumption : _ = false)) (by decide)) | (exact absurd (hc.symm.trans (by assumption : _ = true)) (by decide))) | skip)))
      | (first | refine JC.seq ?_ | refine JC.region ?_ | refine JC.block ?_ | refine JC.ret ?_ | refine JC.exit ?_ | refine JC.skip ?_ | refine thenK.nn ?_ | refine thenK.r ?_ | refine thenK.x ?_ | refine blockK.nn ?_ | refine blockK.hit rfl ?_ | refine JC.condT rfl ?_ | refine JC.condF rfl ?_ | (refine JC.cond rfl (fun hc => ?_) (fun hc => ?_) <;> ((try simp only [decide_eq_true_eq, decide_eq_false_iff_not, beq_iff_eq, beq_eq_false_iff_ne, bne_iff_ne, bne_eq_false_iff_eq, Bool.not_eq_true', Bool.not_eq_false', Bool.not_eq_true, Bool.not_eq_false] at hc) <;> first | (first | (exact absurd rfl hc) | (exfalso; omega) | (exact absurd (hc.symm.trans (by assumption : _ = false)) (by decide)) | (exact absurd (hc.symm.trans (by assumption : _ = true)) (by decide))) | skip)) | refine drawK.nn ?_ | refine loopK.x ?_)
      | (fail)
      | fail
    all_goals first | (exfalso; omega) | skip
    all_goals (refine ret1f rfl rfl rfl (fun w1 hw => ⟨rfl, hw.below⟩))
  rw [if_pos ho] at cC
  by_cases hn8 : n ≤ 8
  case neg =>
    refine calls_of_JC (R := (h ++ hT)) Try.func8 Try.ntmps8 rfl rfl (hw1) ?_
    repeat' first
      | (refine J.isJ ?_; first | (first | (refine J.o 6 ?_; refine J.bx (fun b2 => ?_)) | (refine J.o 4 ?_; refine J.lR hΓ ?_ (hr := Rd.hd)) | (refine J.fc 35 ?_; refine J.call0 eCheck30 rfl rfl (fun w hw => cC w (hHB hw)) ?_) | (refine J.fc 29 ?_; refine J.call0 eWorks30 rfl rfl (fun w hw => works_any w) ?_)) | (first | (refine J.o 0 ?_; refine J.ev' hΓ ?_) | refine J.nil ?_ | refine J.kd ?_ | (refine J.o 4 ?_; first | refine J.lT default hΓ ?_ | refine J.lR hΓ ?_) | (refine J.o 3 ?_; first | refine J.iJ hΓ ?_ | refine J.ev' hΓ ?_) | (refine J.o 1 ?_; first | refine J.ad ?_) | (refine J.o 5 ?_; first | refine J.t0 hΓ ?_) | (refine J.o 6 ?_; refine J.bx (fun _ => ?_)) | (refine J.o 7 ?_; refine J.al hΓ (fun _ => ?_)) | (refine J.o 10 ?_; refine J.ev' hΓ ?_) | (refine J.o 11 ?_; refine J.ev' hΓ ?_)) | ((fail_if_success refine J.wt ?_); refine J.gc rfl rfl (fun hc => ?_) (fun hc => ?_) <;> ((try simp only [decide_eq_true_eq, decide_eq_false_iff_not, beq_iff_eq, beq_eq_false_iff_ne, bne_iff_ne, bne_eq_false_iff_eq, Bool.not_eq_true', Bool.not_eq_false', Bool.not_eq_true, Bool.not_eq_false] at hc) <;> first | (first | (exact absurd rfl hc) | (exfalso; omega) | (exact absurd (hc.symm.trans (by assumption : _ = false)) (by decide)) | (exact absurd (hc.symm.trans (by assumption : _ = true)) (by decide))) | skip)))
      | (first | refine JC.seq ?_ | refine JC.region ?_ | refine JC.block ?_ | refine JC.ret ?_ | refine JC.exit ?_ | refine JC.skip ?_ | refine thenK.nn ?_ | refine thenK.r ?_ | refine thenK.x ?_ | refine blockK.nn ?_ | refine blockK.hit rfl ?_ | refine JC.condT rfl ?_ | refine JC.condF rfl ?_ | (refine JC.cond rfl (fun hc => ?_) (fun hc => ?_) <;> ((try simp only [decide_eq_true_eq, decide_eq_false_iff_not, beq_iff_eq, beq_eq_false_iff_ne, bne_iff_ne, bne_eq_false_iff_eq, Bool.not_eq_true', Bool.not_eq_false', Bool.not_eq_true, Bool.not_eq_false] at hc) <;> first | (first | (exact absurd rfl hc) | (exfalso; omega) | (exact absurd (hc.symm.trans (by assumption : _ = false)) (by decide)) | (exact absurd (hc.symm.trans (by assumption : _ = true)) (by decide))) | skip)) | refine drawK.nn ?_ | refine loopK.x ?_)
      | (fail)
      | fail
    all_goals first | (exfalso; omega) | skip
    all_goals (refine ret1f rfl rfl rfl (fun w1 hw => ⟨rfl, hw.below⟩))
  have hok := okTh_iff.1 he
  have hp := ordP_perm (by omega) ho
  have hlen := ho.1
  have hTl : (vs.map (·.l)).length ≤ 40 := by rw [List.length_map]; exact hv40
  have hco : 2 + costT (vs.map (·.l)) ≤ 1048576 := by
    have h1 := costT_le (vs.map (·.l)) 128 fun c hc => (hok.2.2 c hc).1
    have h2 : (vs.map (·.l)).length * (128 * 20 + 255) ≤ 40 * (128 * 20 + 255) := Nat.mul_le_mul_right _ hTl
    omega
  have hon : l.Nodup := hp.nodup_iff.2 (ints_nodup n)
  have hmk := mkT_th hok (by omega) hp hon
  have h2n : 2 ^ n ≤ 2 ^ 8 := Nat.pow_le_pow_right (by decide) hn8
  have hml := msF_len n (vs.map (·.l)) (2 ^ n)
  have hmo : ∀ s ∈ msF n (vs.map (·.l)) (2 ^ n), okS s := fun s hs => msF_ok (by omega) hs
  have cM := fun w hw => models_any n aT cap vs hT ll hok (by omega) w hw
  have cTx := fun w => textV_any (cntF l.length (gF l (thF (vs.map (·.l))))) (by have := cntF_le l.length (gF l (thF (vs.map (·.l)))); rw [hlen] at this ⊢; omega) w
  have cSu := fun w => subsets_any n (by omega) w
  refine calls_of_JC (R := (h ++ hT)) Try.func8 Try.ntmps8 rfl rfl (hw1) ?_
  refine JC.seq ?_
  refine JC.region ?_
  refine J.isJ ?_
  refine J.o 6 ?_
  refine J.bx (fun b2 => ?_)
  repeat' first
    | (refine J.isJ ?_; first | (first | (refine J.o 4 ?_; first | refine J.lR hΓ ?_ (hr := Rd.hd) | refine J.lR hΓ ?_ (hr := Rd.app _ Rd.hd.tl.tl) | refine J.lR hΓ ?_ (hr := (Rd.app _ Rd.hd.tl.tl).tl.tl) | refine J.lR hΓ ?_ (hr := (Rd.app _ Rd.hd.tl.tl).tl.tl.tl)) | (refine J.fc 35 ?_; refine J.call0 eCheck30 rfl rfl (fun w hw => cC w (hHB hw)) ?_) | (refine J.fc 16 ?_; refine J.callx eCom rfl rfl (fun w hw => compile_V n hn8 l hp a c h hs aT cap vs hT ll _ rfl hok hco (q0 _) (q1 _) hw) ?_; rintro _ _ ⟨b1, K1, s1, y1, hO1, hP1, rfl, rfl, sv1⟩) | (refine J.fc 36 ?_; refine J.call1 eModels5 rfl rfl (fun w hw => cM w (hw.rdH (q1 _))) ?_; rintro _ hM ⟨aM, cM2, rfl, oM⟩) | (refine J.fc 30 ?_; refine J.callx eCountS rfl rfl (fun w hw => countV_any sv1 (stR_hd _).tl hw) ?_; rintro _ _ ⟨rfl, rfl⟩) | (refine J.fc 20 ?_; refine J.callx eSize rfl rfl (fun w hw => Size_any sv1.so b1 y1 sv1.sy.1 (stR_b (stR_hd _).tl.tl) (stR_N (stR_hd _).tl.tl) hw) ?_; rintro _ _ ⟨l1, rfl, rfl, bel1⟩; have hsz := sv1.size bel1)) | (first | (refine J.o 0 ?_; refine J.ev' hΓ ?_) | refine J.nil ?_ | refine J.kd ?_ | (refine J.o 4 ?_; first | refine J.lT default hΓ ?_ | refine J.lR hΓ ?_) | (refine J.o 3 ?_; first | refine J.iJ hΓ ?_ | refine J.ev' hΓ ?_) | (refine J.o 1 ?_; first | refine J.ad ?_) | (refine J.o 5 ?_; first | refine J.t0 hΓ ?_) | (refine J.o 6 ?_; refine J.bx (fun _ => ?_)) | (refine J.o 7 ?_; refine J.al hΓ (fun _ => ?_)) | (refine J.o 10 ?_; refine J.ev' hΓ ?_) | (refine J.o 11 ?_; refine J.ev' hΓ ?_)) | ((fail_if_success refine J.wt ?_); refine J.gc rfl rfl (fun hc => ?_) (fun hc => ?_) <;> ((try simp only [decide_eq_true_eq, decide_eq_false_iff_not, beq_iff_eq, beq_eq_false_iff_ne, bne_iff_ne, bne_eq_false_iff_eq, Bool.not_eq_true', Bool.not_eq_false', Bool.not_eq_true, Bool.not_eq_false] at hc) <;> first | (first | (exact absurd rfl hc) | (exfalso; omega) | (exact absurd (hc.symm.trans (by assumption : _ = false)) (by decide)) | (exact absurd (hc.symm.trans (by assumption : _ = true)) (by decide))) | skip)))
    | (first | refine JC.seq ?_ | refine JC.region ?_ | refine JC.block ?_ | refine JC.ret ?_ | refine JC.exit ?_ | refine JC.skip ?_ | refine thenK.nn ?_ | refine thenK.r ?_ | refine thenK.x ?_ | refine blockK.nn ?_ | refine blockK.hit rfl ?_ | refine JC.condT rfl ?_ | refine JC.condF rfl ?_ | (refine JC.cond rfl (fun hc => ?_) (fun hc => ?_) <;> ((try simp only [decide_eq_true_eq, decide_eq_false_iff_not, beq_iff_eq, beq_eq_false_iff_ne, bne_iff_ne, bne_eq_false_iff_eq, Bool.not_eq_true', Bool.not_eq_false', Bool.not_eq_true, Bool.not_eq_false] at hc) <;> first | (first | (exact absurd rfl hc) | (exfalso; omega) | (exact absurd (hc.symm.trans (by assumption : _ = false)) (by decide)) | (exact absurd (hc.symm.trans (by assumption : _ = true)) (by decide))) | skip)) | refine drawK.nn ?_ | refine loopK.x ?_)
    | (fail)
    | fail
  all_goals first | (exfalso; omega) | skip
  have htx : txt (cntF l.length (gF l (thF (vs.map (·.l))))) = txt ((mkT l (msF n (vs.map (·.l)) (2 ^ n))).count true) := by rw [hmk]; rfl
  have hsz2 : l1.length = sizeT l.length (mkT l (msF n (vs.map (·.l)) (2 ^ n))) := by rw [hsz, hmk]; rfl
  have hmt := mkT_len l (msF n (vs.map (·.l)) (2 ^ n))
  have hln : 2 ^ l.length ≤ 256 := by rw [hlen]; omega
  repeat' first
    | (refine J.isJ ?_; first | (first | (refine J.o 4 ?_; first | refine J.lR hΓ ?_ (hr := (Rd.app _ Rd.hd.tl.tl).tl.tl.tl)) | (refine J.fc 33 ?_; refine J.call0 eText rfl rfl (fun w hw => cTx w) ?_) | (refine J.fc 38 ?_; refine J.call1 eTable30 rfl rfl (fun w hw => table30_any l a c h hs (by omega) _ aM cM2 hM oM.sl hmo (by omega) w ((hw.rdH (q0 _)).append (hw.rdH RdH.hd.tl))) ?_; rintro _ ht ⟨aT2, cT2, rfl, oT⟩) | (refine J.fc 37 ?_; refine J.call0 eCount30 rfl rfl (fun w hw => count30_any _ (by omega) aT2 cT2 ht oT.sl w (hw.rdH RdH.hd)) ?_) | (refine J.o 11 ?_; first | refine J.neSF htx ?_ | refine J.neF hΓ hsz2 ?_) | (refine J.fc 39 ?_; refine J.call0 eSize30 rfl rfl (fun w hw => size30_any l a c h hs (by omega) _ aM cM2 hM oM.sl hmo (by omega) w ((hw.rdH (q0 _)).append (hw.rdH RdH.hd.tl.tl))) ?_) | (refine J.fc 40 ?_; refine J.call1 eSubsets rfl rfl (fun w hw => cSu w) ?_; rintro _ hS ⟨aS, cS, rfl, oS⟩)) | (first | (refine J.o 0 ?_; refine J.ev' hΓ ?_) | refine J.nil ?_ | refine J.kd ?_ | (refine J.o 4 ?_; first | refine J.lT default hΓ ?_ | refine J.lR hΓ ?_) | (refine J.o 3 ?_; first | refine J.iJ hΓ ?_ | refine J.ev' hΓ ?_) | (refine J.o 1 ?_; first | refine J.ad ?_) | (refine J.o 5 ?_; first | refine J.t0 hΓ ?_) | (refine J.o 6 ?_; refine J.bx (fun _ => ?_)) | (refine J.o 7 ?_; refine J.al hΓ (fun _ => ?_)) | (refine J.o 10 ?_; refine J.ev' hΓ ?_) | (refine J.o 11 ?_; refine J.ev' hΓ ?_)) | ((fail_if_success refine J.wt ?_); refine J.gc rfl rfl (fun hc => ?_) (fun hc => ?_) <;> ((try simp only [decide_eq_true_eq, decide_eq_false_iff_not, beq_iff_eq, beq_eq_false_iff_ne, bne_iff_ne, bne_eq_false_iff_eq, Bool.not_eq_true', Bool.not_eq_false', Bool.not_eq_true, Bool.not_eq_false] at hc) <;> first | (first | (exact absurd rfl hc) | (exfalso; omega) | (exact absurd (hc.symm.trans (by assumption : _ = false)) (by decide)) | (exact absurd (hc.symm.trans (by assumption : _ = true)) (by decide))) | skip)))
    | (first | refine JC.seq ?_ | refine JC.region ?_ | refine JC.block ?_ | refine JC.ret ?_ | refine JC.exit ?_ | refine JC.skip ?_ | refine thenK.nn ?_ | refine thenK.r ?_ | refine thenK.x ?_ | refine blockK.nn ?_ | refine blockK.hit rfl ?_ | refine JC.condT rfl ?_ | refine JC.condF rfl ?_ | (refine JC.cond rfl (fun hc => ?_) (fun hc => ?_) <;> ((try simp only [decide_eq_true_eq, decide_eq_false_iff_not, beq_iff_eq, beq_eq_false_iff_ne, bne_iff_ne, bne_eq_false_iff_eq, Bool.not_eq_true', Bool.not_eq_false', Bool.not_eq_true, Bool.not_eq_false] at hc) <;> first | (first | (exact absurd rfl hc) | (exfalso; omega) | (exact absurd (hc.symm.trans (by assumption : _ = false)) (by decide)) | (exact absurd (hc.symm.trans (by assumption : _ = true)) (by decide))) | skip)) | refine drawK.nn ?_ | refine loopK.x ?_)
    | (fail)
    | fail
  all_goals first | (exfalso; omega) | skip
  rename_i cell
  obtain ⟨M, hM2⟩ : ∃ M : List Heap, M = hS :: ht :: [(cell, .cells ⟨[.string (S (bytesN (cntF l.length (gF l (thF (vs.map (·.l)))))))]⟩ 58 (0, 0))] :: hM :: (sF K1 b1 s1 ++ (hO1 :: hP1 :: [(b2, .cells ⟨[.int .i64 (n : Int), .slice aT vs.length cap]⟩ 24 (0, 0))] :: [])) := ⟨_, rfl⟩
  have rS : RdH (h ++ hT) M hS := by rw [hM2]; exact RdH.hd
  have rD : RdH (h ++ hT) M (stR K1 b1 s1 hO1) := by rw [hM2]; exact (stR_hd _).tl.tl.tl.tl
  have rB : Rd (h ++ hT) M b2 (.cells ⟨[.int .i64 (n : Int), .slice aT vs.length cap]⟩ 24 (0, 0)) := by rw [hM2]; exact (Rd.app _ Rd.hd.tl.tl).tl.tl.tl.tl
  refine JC.weak (L' := M) (fun w hw => by rw [hM2]; exact hw) ?_
  clear hM2
  have hsl : (subsP n).length ≤ 256 := by unfold subsP; rw [subs_len]; simp; omega
  refine JC.loop (fun i => i == 15 || (Nat.ble 97 i && Nat.ble i 116)) (fun m g L' => ∃ k : Nat, g 15 = .int .i64 (k : Int) ∧ k + m = (subsP n).length ∧ L' = M) (subsP n).length ⟨0, rfl, by omega, rfl⟩ ?_
  rintro m g L' ⟨k, e15, hkm, rfl⟩
  refine JC.pin 15 e15 ?_
  rcases Nat.lt_or_ge k (subsP n).length with hk | hk
  case inr =>
    repeat' first
      | (refine J.isJ ?_; first | ((refine J.fc 29 ?_; refine J.call0 eWorks30 rfl rfl (fun w hw => works_any w) ?_)) | (first | (refine J.o 0 ?_; refine J.ev' hΓ ?_) | refine J.nil ?_ | refine J.kd ?_ | (refine J.o 4 ?_; first | refine J.lT default hΓ ?_ | refine J.lR hΓ ?_) | (refine J.o 3 ?_; first | refine J.iJ hΓ ?_ | refine J.ev' hΓ ?_) | (refine J.o 1 ?_; first | refine J.ad ?_) | (refine J.o 5 ?_; first | refine J.t0 hΓ ?_) | (refine J.o 6 ?_; refine J.bx (fun _ => ?_)) | (refine J.o 7 ?_; refine J.al hΓ (fun _ => ?_)) | (refine J.o 10 ?_; refine J.ev' hΓ ?_) | (refine J.o 11 ?_; refine J.ev' hΓ ?_)) | ((fail_if_success refine J.wt ?_); refine J.gc rfl rfl (fun hc => ?_) (fun hc => ?_) <;> ((try simp only [decide_eq_true_eq, decide_eq_false_iff_not, beq_iff_eq, beq_eq_false_iff_ne, bne_iff_ne, bne_eq_false_iff_eq, Bool.not_eq_true', Bool.not_eq_false', Bool.not_eq_true, Bool.not_eq_false] at hc) <;> first | (first | (exact absurd rfl hc) | (exfalso; omega) | (exact absurd (hc.symm.trans (by assumption : _ = false)) (by decide)) | (exact absurd (hc.symm.trans (by assumption : _ = true)) (by decide))) | skip)))
      | (first | refine JC.seq ?_ | refine JC.region ?_ | refine JC.block ?_ | refine JC.ret ?_ | refine JC.exit ?_ | refine JC.skip ?_ | refine thenK.nn ?_ | refine thenK.r ?_ | refine thenK.x ?_ | refine blockK.nn ?_ | refine blockK.hit rfl ?_ | refine JC.condT rfl ?_ | refine JC.condF rfl ?_ | (refine JC.cond rfl (fun hc => ?_) (fun hc => ?_) <;> ((try simp only [decide_eq_true_eq, decide_eq_false_iff_not, beq_iff_eq, beq_eq_false_iff_ne, bne_iff_ne, bne_eq_false_iff_eq, Bool.not_eq_true', Bool.not_eq_false', Bool.not_eq_true, Bool.not_eq_false] at hc) <;> first | (first | (exact absurd rfl hc) | (exfalso; omega) | (exact absurd (hc.symm.trans (by assumption : _ = false)) (by decide)) | (exact absurd (hc.symm.trans (by assumption : _ = true)) (by decide))) | skip)) | refine drawK.nn ?_ | refine loopK.x ?_)
      | (fail)
      | fail
    all_goals first | (exfalso; omega) | skip
    all_goals (refine ret1f rfl rfl rfl (fun w1 hw => ⟨rfl, hw.below⟩))
  obtain ⟨os, hsub⟩ := subsP_ok n (by omega) _ (mem_g (subsP n) k hk)
  have cE := fun w hw => Eval_any sv1.so sv1.po b1 y1 sv1.sy.1 ((subsP n).getD k default) os w hw
  have cR := fun w hw => eval05_any n aT cap vs ((subsP n).getD k default) os hT ll hok hsub w hw
  have hev : fn l.length s1.ns y1 (asgS l ((subsP n).getD k default)) = evT (hasB ((subsP n).getD k default)) (vs.map (·.l)) := sv1.sy.2 (hasB ((subsP n).getD k default))
  rw [hev] at cE
  obtain ⟨bv, hbv⟩ : ∃ bv, evT (hasB ((subsP n).getD k default)) (vs.map (·.l)) = bv := ⟨_, rfl⟩
  rw [hbv] at cE cR
  cases bv
  all_goals
    repeat' first
      | (refine J.isJ ?_; first | (first | (refine J.o 3 ?_; refine J.iJ hΓ ?_ (hs := oS.sl)) | (refine J.o 4 ?_; first | refine J.lT default hΓ ?_ (hs := oS.sl) (hr := rS) | refine J.lR hΓ ?_ (hr := rB)) | (refine J.fc 34 ?_; refine J.call0 eEvalS rfl rfl (fun w hw => cE w (stR_of2 rD hw)) ?_) | (refine J.fc 41 ?_; refine J.call0 eEval05 rfl rfl (fun w hw => cR w (hw.rdH (q1 _))) ?_)) | (first | (refine J.o 0 ?_; refine J.ev' hΓ ?_) | refine J.nil ?_ | refine J.kd ?_ | (refine J.o 4 ?_; first | refine J.lT default hΓ ?_ | refine J.lR hΓ ?_) | (refine J.o 3 ?_; first | refine J.iJ hΓ ?_ | refine J.ev' hΓ ?_) | (refine J.o 1 ?_; first | refine J.ad ?_) | (refine J.o 5 ?_; first | refine J.t0 hΓ ?_) | (refine J.o 6 ?_; refine J.bx (fun _ => ?_)) | (refine J.o 7 ?_; refine J.al hΓ (fun _ => ?_)) | (refine J.o 10 ?_; refine J.ev' hΓ ?_) | (refine J.o 11 ?_; refine J.ev' hΓ ?_)) | ((fail_if_success refine J.wt ?_); refine J.gc rfl rfl (fun hc => ?_) (fun hc => ?_) <;> ((try simp only [decide_eq_true_eq, decide_eq_false_iff_not, beq_iff_eq, beq_eq_false_iff_ne, bne_iff_ne, bne_eq_false_iff_eq, Bool.not_eq_true', Bool.not_eq_false', Bool.not_eq_true, Bool.not_eq_false] at hc) <;> first | (first | (exact absurd rfl hc) | (exfalso; omega) | (exact absurd (hc.symm.trans (by assumption : _ = false)) (by decide)) | (exact absurd (hc.symm.trans (by assumption : _ = true)) (by decide))) | skip)))
      | (first | refine JC.seq ?_ | refine JC.region ?_ | refine JC.block ?_ | refine JC.ret ?_ | refine JC.exit ?_ | refine JC.skip ?_ | refine thenK.nn ?_ | refine thenK.r ?_ | refine thenK.x ?_ | refine blockK.nn ?_ | refine blockK.hit rfl ?_ | refine JC.condT rfl ?_ | refine JC.condF rfl ?_ | (refine JC.cond rfl (fun hc => ?_) (fun hc => ?_) <;> ((try simp only [decide_eq_true_eq, decide_eq_false_iff_not, beq_iff_eq, beq_eq_false_iff_ne, bne_iff_ne, bne_eq_false_iff_eq, Bool.not_eq_true', Bool.not_eq_false', Bool.not_eq_true, Bool.not_eq_false] at hc) <;> first | (first | (exact absurd rfl hc) | (exfalso; omega) | (exact absurd (hc.symm.trans (by assumption : _ = false)) (by decide)) | (exact absurd (hc.symm.trans (by assumption : _ = true)) (by decide))) | skip)) | refine drawK.nn ?_ | refine loopK.x ?_)
      | ((refine JC.drawW [] [] (by kernel_rfl) (by kernel_rfl) ?_))
      | fail
    all_goals first | (exfalso; omega) | skip
    refine loopK.nn (m - 1) (by omega) (by repeat (first | refine Ag.upd rfl ?_ | exact Ag.hv)) ⟨k + 1, ?_, by omega, rfl⟩
    show Value.int .i64 _ = _; congr 1
end Go.Proofs.Ytbhgahjeocnfcaa
