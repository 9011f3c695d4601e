/- TreeKnown: part 11. -/
import Derived.Test.YtdiciemlbhkilaaGreatDoorKnJ
namespace Go.Proofs.YtdiciemlbhkilaaGreatDoor
open Go Go.Cx Go.RowKit
set_option linter.unusedVariables false
set_option linter.unusedSimpArgs false
set_option maxHeartbeats 4000000
attribute [local irreducible] J JC thenK blockK loopK roundK drawK retK QW Qt pel List.set Calls
set_option maxRecDepth 8000
attribute [local irreducible] JE Br eK0 eK3 brK cN proC sumC outC
theorem eNumb : Entr Tryz.prog 70 := Entr.of Tryz.func70 rfl rfl
theorem eNum1 : Entr Tryz.prog 106 := Entr.of Tryz.func106 rfl rfl
theorem eNum2 : Entr Tryz.prog 108 := Entr.of Tryz.func108 rfl rfl
theorem eNum3 : Entr Tryz.prog 109 := Entr.of Tryz.func109 rfl rfl
theorem eNum4 : Entr Tryz.prog 112 := Entr.of Tryz.func112 rfl rfl
theorem eWide1 : Entr Tryz.prog 104 := Entr.of Tryz.func104 rfl rfl
theorem one_any (w : World) : Calls Tryz.prog 107 #[.int .u64 1] w fun e w' => e = .returned (natV 1) ∧ Below w.heap.size w w' := ofN_any 1 (by decide) w
def zO (b : Nat) : Heap := [(b, .cells ⟨[.int .i64 0]⟩ 3 (0, 0))]
def wF (b : Nat) : Value := .func (.func 106) ⟨[]⟩ ⟨[.pointer (some ⟨b, 0, none⟩)]⟩
def wO (b3 b1 : Nat) : Heap := [(b3, .cells ⟨[wF b1]⟩ 112 (0, 0))]
def rC (b3 b1 : Nat) : List Value := [.func (.func 108) ⟨[]⟩ ⟨[]⟩, .func (.func 109) ⟨[]⟩ ⟨[]⟩, .func (.func 110) ⟨[]⟩ ⟨[]⟩, .func (.func 111) ⟨[]⟩ ⟨[]⟩, wF b1, .func (.func 112) ⟨[]⟩ ⟨[.pointer (some ⟨b3, 0, none⟩)]⟩]
theorem num1_any (l : Int) (hl : l ≠ 0) (b : Nat) (w : World) (hw : Holds (zO b) w) : Calls Tryz.prog 106 #[.int .i64 l, .pointer (some ⟨b, 0, none⟩)] w fun e w' => e = .returned (natV 1) ∧ Below w.heap.size w w' := by
  refine calls_of_JC (R := zO b) Tryz.func106 Tryz.ntmps106 rfl rfl (hw) ?_
  repeat' first
    | (refine J.isJ ?_; first | (first | (refine J.o 4 ?_; refine J.lR hΓ ?_ (hr := Rd.old (List.mem_singleton.2 rfl))) | (refine J.fc 107 ?_; refine J.call0 eOfN rfl rfl (fun w hw => one_any w) ?_)) | (first | (refine J.o 0 ?_; refine J.ev' hΓ ?_) | refine J.nil ?_ | (refine J.o 4 ?_; first | refine J.lR hΓ ?_) | (refine J.o 3 ?_; first | refine J.ev' hΓ ?_) | (refine J.o 5 ?_; first | refine J.t0 hΓ ?_) | (refine J.o 7 ?_; refine J.al hΓ (fun _ => ?_)) | (refine J.o 10 ?_; refine J.ev' hΓ ?_) | (refine J.o 11 ?_; refine J.ev' hΓ ?_)))
    | (first | refine JC.seq ?_ | refine JC.region ?_ | refine JC.ret ?_ | refine JC.skip ?_ | refine thenK.nn ?_ | (refine JC.cond rfl (fun hc => ?_) (fun hc => ?_) <;> ((try simp only [tcS] at hc) <;> first | (first | (exact absurd rfl hc) | (exfalso; omega) | (exact (tF hc (by assumption)).elim) | (exact (fT hc (by assumption)).elim)) | skip)))
    | (fail)
    | fail
  all_goals first | (exfalso; omega) | skip
  all_goals exact retC hΓ rfl rfl rfl Rd.hd rfl (fun w1 hw => ⟨rfl, hw.below⟩)
theorem num2_any (w : World) : Calls Tryz.prog 108 #[] w fun e w' => e = .returned (natV 0) ∧ Below w.heap.size w w' := by
  refine calls_of_JC (R := []) Tryz.func108 Tryz.ntmps108 rfl rfl (Holds.nil _) ?_
  repeat' first
    | (refine J.isJ ?_; first | (fail) | (first | refine J.nil ?_ | (refine J.o 5 ?_; first | refine J.t0 hΓ ?_) | (refine J.o 7 ?_; refine J.al hΓ (fun _ => ?_)) | (refine J.o 8 ?_; refine J.bd hΓ ?_)))
    | (first | refine JC.seq ?_ | refine JC.region ?_ | refine JC.ret ?_ | refine thenK.nn ?_)
    | (fail)
    | fail
  all_goals exact retC hΓ rfl rfl rfl Rd.hd rfl (fun w1 hw => ⟨rfl, hw.below⟩)
theorem num3_any (w : World) : Calls Tryz.prog 109 #[] w fun e w' => e = .returned (natV 1) ∧ Below w.heap.size w w' := by
  refine calls_of_JC (R := []) Tryz.func109 Tryz.ntmps109 rfl rfl (Holds.nil _) ?_
  repeat' first
    | (refine J.isJ ?_; first | ((refine J.fc 107 ?_; refine J.call0 eOfN rfl rfl (fun w hw => one_any w) ?_)) | (first | refine J.nil ?_ | (refine J.o 5 ?_; first | refine J.t0 hΓ ?_) | (refine J.o 7 ?_; refine J.al hΓ (fun _ => ?_))))
    | (first | refine JC.seq ?_ | refine JC.region ?_ | refine JC.ret ?_ | refine thenK.nn ?_)
    | (fail)
    | fail
  all_goals exact retC hΓ rfl rfl rfl Rd.hd rfl (fun w1 hw => ⟨rfl, hw.below⟩)
theorem num4_any (v : Int) (hv : 1 ≤ v ∧ v ≤ 128) (b3 b1 : Nat) (w : World) (hw : Holds (wO b3 b1 ++ zO b1) w) : Calls Tryz.prog 112 #[.int .i64 v, .pointer (some ⟨b3, 0, none⟩)] w fun e w' => e = .returned (natV 2) ∧ Below w.heap.size w w' := by
  have cA := fun w => add_any2 1 1 (Nat.le_trans (bytesN_len (k := 1) (by decide)) (by decide)) (Nat.le_trans (bytesN_len (k := 1) (by decide)) (by decide)) w
  have q0 : ∀ L, RdH (wO b3 b1 ++ zO b1) L (zO b1) := fun L => RdH.old fun _ hh => List.mem_append_right _ hh
  have r3 : ∀ L, Rd (wO b3 b1 ++ zO b1) L b3 (.cells ⟨[wF b1]⟩ 112 (0, 0)) := fun L => Rd.old (List.mem_append_left _ (List.mem_singleton.2 rfl))
  have c1 := fun w hw => num1_any v (by omega) b1 w hw
  have c2 := fun w hw => num1_any (-v) (by omega) b1 w hw
  refine calls_of_JC (R := wO b3 b1 ++ zO b1) Tryz.func112 Tryz.ntmps112 rfl rfl (hw) ?_
  repeat' first
    | (refine J.isJ ?_; first | (first | (refine J.o 4 ?_; refine J.lR hΓ ?_ (hr := r3 _)) | (refine J.o 9 ?_; first | refine J.callv0 eNum1 rfl rfl rfl (fun w hw => c1 w (hw.rdH (q0 _))) ?_ | refine J.callv0 eNum1 rfl rfl rfl (fun w hw => c2 w (hw.rdH (q0 _))) ?_) | (refine J.fc 110 ?_; refine J.call0 eNatAdd rfl rfl (fun w hw => cA w) ?_)) | (first | (refine J.o 0 ?_; refine J.ev' hΓ ?_) | refine J.nil ?_ | (refine J.o 4 ?_; first | refine J.lR hΓ ?_) | (refine J.o 3 ?_; first | refine J.ev' hΓ ?_) | (refine J.o 1 ?_; first | refine J.ng ?_) | (refine J.o 5 ?_; first | refine J.t0 hΓ ?_) | (refine J.o 7 ?_; refine J.al hΓ (fun _ => ?_)) | (refine J.o 10 ?_; refine J.ev' hΓ ?_) | (refine J.o 11 ?_; refine J.ev' hΓ ?_)))
    | (first | refine JC.seq ?_ | refine JC.region ?_ | refine JC.ret ?_ | refine thenK.nn ?_ | refine drawK.nn ?_)
    | ((refine JC.drawO [(1,0),(0,1),(1,2),(1,3),(0,4),(0,5),(1,6),(1,7),(2,8)] (by decide +kernel) (by decide +kernel) ?_))
    | fail
  all_goals first | (exfalso; omega) | skip
  all_goals exact retC hΓ rfl rfl rfl Rd.hd rfl (fun w1 hw => ⟨rfl, hw.below⟩)
theorem numb_any {w0 w : World} {R : Heap} {L : List Heap} (hw : H w0 R L w) : Calls Tryz.prog 70 #[.int .i64 0] w fun e w' => ∃ v L', e = .returned v ∧ H w0 R L' w' ∧ ∃ b3 b1, v = .agg ⟨rC b3 b1⟩ ∧ L' = wO b3 b1 :: zO b1 :: L := by
  refine calls_in Tryz.func70 Tryz.ntmps70 rfl rfl (hw) ?_
  repeat' first
    | (refine J.isJ ?_; first | (first | (refine J.o 6 ?_; refine J.bx (fun b1 => ?_)) | (refine J.o 7 ?_; first | refine J.al (d := 2) hΓ (fun b2 => ?_) | refine J.al (d := 3) hΓ (fun b3 => ?_)) | (refine J.o 14 ?_; first | refine J.mfV [.pointer (some ⟨b1, 0, none⟩)] hΓ ?_ | refine J.mfV [.pointer (some ⟨b3, 0, none⟩)] hΓ ?_)) | (first | refine J.nil ?_ | (refine J.o 4 ?_; first | refine J.lR hΓ ?_) | (refine J.o 5 ?_; first | refine J.t0 hΓ ?_ | refine J.t1 hΓ ?_) | (refine J.o 6 ?_; refine J.bx (fun _ => ?_)) | (refine J.o 7 ?_; refine J.al hΓ (fun _ => ?_)) | (refine J.o 8 ?_; refine J.bd hΓ ?_)))
    | (first | refine JC.seq ?_ | refine JC.region ?_ | refine JC.ret ?_ | refine thenK.nn ?_)
    | (fail)
    | fail
  all_goals first | (exfalso; omega) | skip
  refine retC hΓ rfl rfl rfl (by first | exact Rd.hd.tl | exact Rd.hd) rfl (fun w1 hw => ⟨_, _, rfl, H.sel (l := [_, _, _]) (M := L) hw [0, 2], b3, b1, rfl, rfl⟩)
set_option maxHeartbeats 16000000 in
theorem wide1_any (k : Int) (s t : Nat × Nat) (hs : okS s) (ht : okS t) (x : Nat) (hx : x ≤ 2 ^ 128) (T : List Nat) (V : List (Nat × Nat)) (hk : 0 ≤ k ∧ k < T.length ∧ k < V.length) (eT : T.getD k.toNat default = x) (eV : V.getD k.toNat default = t) (aO aV : Option Addr) (cO cV bO bV bR b3 b1 : Nat) (hO hV : Heap) (sO : SlT encNt 1 aO T hO) (sV : SlT encS 2 aV V hV)
    (R : Heap) (rO : (bO, Obj.cells ⟨[.slice aO T.length cO]⟩ 152 (0, 0)) ∈ R) (rV : (bV, Obj.cells ⟨[.slice aV V.length cV]⟩ 35 (0, 0)) ∈ R) (rR : (bR, Obj.cells ⟨rC b3 b1⟩ 114 (0, 0)) ∈ R) (r3 : ∀ y, y ∈ wO b3 b1 ++ zO b1 → y ∈ R) (q1 : ∀ y, y ∈ hO → y ∈ R) (q2 : ∀ y, y ∈ hV → y ∈ R) (w : World) (hT : Tab64 w) (hw : Holds R w) :
    Calls Tryz.prog 104 #[.int .i64 k, sv s, .pointer (some ⟨bO, 0, none⟩), .pointer (some ⟨bV, 0, none⟩), .pointer (some ⟨bR, 0, none⟩)] w fun e w' => e = .returned (natV (x * 2 ^ cardS (minS s t))) ∧ Below w.heap.size w w' := by
  have hc := cardS_le (minS s t)
  have c0 := fun w => minus_any s t hs ht w
  have ho1 : okS (minS s t) := okS_min hs
  unfold cardS at hc ⊢
  have hmem := fun u (hu : u ∈ memS (minS s t)) => has_rng ((mem_memS (minS s t) u).1 hu)
  generalize minS s t = d at *
  have c4 := fun v hv w hw => num4_any v hv b3 b1 w hw
  refine calls_of_JC (R := R) Tryz.func104 Tryz.ntmps104 rfl rfl (hw) ?_
  repeat' first
    | (refine J.isJ ?_; first | (first | (refine J.o 7 ?_; first | refine J.al (d := 7) hΓ (fun b7 => ?_) | refine J.al (d := 8) hΓ (fun b8 => ?_)) | (refine J.o 4 ?_; first | refine J.lR hΓ ?_ (hr := Rd.old rO) | refine J.lR hΓ ?_ (hr := Rd.old rV) | (refine J.lT default hΓ ?_ (hs := sO) (hr := RdH.old q1); rw [eT]) | (refine J.lT default hΓ ?_ (hs := sV) (hr := RdH.old q2); rw [eV])) | (refine J.o 3 ?_; first | refine J.iJ hΓ ?_ (hs := sO) | refine J.iJ hΓ ?_ (hs := sV)) | (refine J.fc 100 ?_; refine J.call0 eMinus rfl rfl (fun w hw => c0 w) ?_) | (refine J.fc 105 ?_; refine J.call1 eList rfl rfl (fun w hw => list_any d ho1 w (hT.below hw.below)) ?_; rintro _ hL ⟨aL, cLL, rfl, oL⟩)) | (first | (refine J.o 0 ?_; refine J.ev' hΓ ?_) | refine J.nil ?_ | (refine J.o 4 ?_; first | refine J.lT default hΓ ?_ | refine J.lR hΓ ?_) | (refine J.o 3 ?_; first | refine J.iJ hΓ ?_ | refine J.ev' hΓ ?_) | (refine J.o 1 ?_; first | refine J.ad ?_) | (refine J.o 5 ?_; first | refine J.t0 hΓ ?_ | refine J.t1 hΓ ?_ | refine J.t2 hΓ ?_) | (refine J.o 6 ?_; refine J.bx (fun _ => ?_)) | (refine J.o 7 ?_; refine J.al hΓ (fun _ => ?_)) | (refine J.o 10 ?_; refine J.ev' hΓ ?_) | (refine J.o 11 ?_; refine J.ev' hΓ ?_)))
    | (first | refine JC.seq ?_ | refine JC.region ?_ | refine JC.block ?_ | refine JC.ret ?_ | refine JC.exit ?_ | refine JC.skip ?_ | refine thenK.nn ?_ | refine thenK.x ?_ | refine blockK.nn ?_ | refine blockK.hit rfl ?_ | (refine JC.cond rfl (fun hc => ?_) (fun hc => ?_) <;> ((try simp only [tcS] at hc) <;> first | (first | (exact absurd rfl hc) | (exfalso; omega) | (exact (tF hc (by assumption)).elim) | (exact (fT hc (by assumption)).elim)) | skip)) | refine drawK.nn ?_ | refine loopK.x ?_)
    | ((refine JC.drawO [(1,0),(1,1),(0,2),(0,3),(1,4),(1,5),(0,8),(3,6),(0,7)] (by decide +kernel) (by decide +kernel) ?_))
    | fail
  all_goals first | (exfalso; omega) | skip
  have e0 : x = x * 2 ^ 0 := by omega
  refine JC.loopG (fun i => i == 10 || Nat.ble 23 i) (fun m g L' => ∃ (q : Nat), g 23 = .int .i64 (q : Int) ∧ q + m = (memS d).length ∧ L' = [hL, [(b8, .cells ⟨[.string (S (bytesN (x * 2 ^ q)))]⟩ 59 (0, 0))], [_], [_]]) (memS d).length ⟨0, rfl, by omega, by rw [← e0]⟩ ?_
  rintro m g _ ⟨q, e23, hqm, rfl⟩
  refine JC.pin 23 e23 ?_
  clear e23
  rcases Nat.lt_or_ge q (memS d).length with hq | hq
  case inr =>
    obtain rfl : q = (memS d).length := by omega
    repeat' first
      | (refine J.isJ ?_; first | (fail) | (first | (refine J.o 0 ?_; refine J.ev' hΓ ?_) | refine J.nil ?_ | (refine J.o 4 ?_; first | refine J.lT default hΓ ?_ | refine J.lR hΓ ?_) | (refine J.o 3 ?_; first | refine J.iJ hΓ ?_ | refine J.ev' hΓ ?_) | (refine J.o 1 ?_; first | refine J.ad ?_) | (refine J.o 5 ?_; first | refine J.t0 hΓ ?_ | refine J.t1 hΓ ?_ | refine J.t2 hΓ ?_) | (refine J.o 6 ?_; refine J.bx (fun _ => ?_)) | (refine J.o 7 ?_; refine J.al hΓ (fun _ => ?_)) | (refine J.o 10 ?_; refine J.ev' hΓ ?_) | (refine J.o 11 ?_; refine J.ev' hΓ ?_)))
      | (first | refine JC.seq ?_ | refine JC.region ?_ | refine JC.block ?_ | refine JC.ret ?_ | refine JC.exit ?_ | refine JC.skip ?_ | refine thenK.nn ?_ | refine thenK.x ?_ | refine blockK.nn ?_ | refine blockK.hit rfl ?_ | (refine JC.cond rfl (fun hc => ?_) (fun hc => ?_) <;> ((try simp only [tcS] at hc) <;> first | (first | (exact absurd rfl hc) | (exfalso; omega) | (exact (tF hc (by assumption)).elim) | (exact (fT hc (by assumption)).elim)) | skip)) | refine drawK.nn ?_ | refine loopK.x ?_)
      | (fail)
      | fail
    all_goals first | (exfalso; omega) | skip
    exact retC hΓ rfl rfl rfl Rd.hd.tl.tl rfl (fun w1 hw => ⟨rfl, hw.below⟩)
  have hu := hmem _ (mem_g (memS d) q hq)
  have c4 := c4 _ hu
  have b2 : x * 2 ^ q ≤ 2 ^ 256 := by
    have h1 : 2 ^ q ≤ 2 ^ 128 := Nat.pow_le_pow_right (by omega) (by omega)
    have h2 := Nat.mul_le_mul hx h1
    rwa [← Nat.pow_add] at h2
  have l1 := bytes_256 b2
  have l2 : (bytesN 2).length ≤ 1 := bytesN_len (by decide)
  have cM := fun w => mul_any (x * 2 ^ q) 2 (by omega) (by omega) w
  rw [Nat.mul_assoc, ← Nat.pow_succ] at cM
  have r3 : ∀ L, RdH R L (wO b3 b1 ++ zO b1) := fun L => RdH.old r3
  repeat' first
    | (refine J.isJ ?_; first | (first | (refine J.o 4 ?_; first | refine J.lT default hΓ ?_ (hs := oL.sl) (hr := RdH.hd) | refine J.lR hΓ ?_ (hr := Rd.old rR)) | (refine J.o 3 ?_; refine J.iJ hΓ ?_ (hs := oL.sl)) | (refine J.o 9 ?_; first | refine J.callv0 eNum4 rfl rfl rfl (fun w hw => c4 w (hw.rdH (r3 _))) ?_ | refine J.callv0 eMul rfl rfl rfl (fun w hw => cM w) ?_)) | (first | (refine J.o 0 ?_; refine J.ev' hΓ ?_) | refine J.nil ?_ | (refine J.o 4 ?_; first | refine J.lT default hΓ ?_ | refine J.lR hΓ ?_) | (refine J.o 3 ?_; first | refine J.iJ hΓ ?_ | refine J.ev' hΓ ?_) | (refine J.o 1 ?_; first | refine J.ad ?_) | (refine J.o 5 ?_; first | refine J.t0 hΓ ?_ | refine J.t1 hΓ ?_ | refine J.t2 hΓ ?_) | (refine J.o 6 ?_; refine J.bx (fun _ => ?_)) | (refine J.o 7 ?_; refine J.al hΓ (fun _ => ?_)) | (refine J.o 10 ?_; refine J.ev' hΓ ?_) | (refine J.o 11 ?_; refine J.ev' hΓ ?_)))
    | (first | refine JC.seq ?_ | refine JC.region ?_ | refine JC.block ?_ | refine JC.ret ?_ | refine JC.exit ?_ | refine JC.skip ?_ | refine thenK.nn ?_ | refine thenK.x ?_ | refine blockK.nn ?_ | refine blockK.hit rfl ?_ | (refine JC.cond rfl (fun hc => ?_) (fun hc => ?_) <;> ((try simp only [tcS] at hc) <;> first | (first | (exact absurd rfl hc) | (exfalso; omega) | (exact (tF hc (by assumption)).elim) | (exact (fT hc (by assumption)).elim)) | skip)) | refine drawK.nn ?_ | refine loopK.x ?_)
    | ((refine JC.drawO [(0,0),(1,1),(1,2),(0,3),(1,4),(0,5),(1,6),(1,7),(2,8)] (by decide +kernel) (by decide +kernel) ?_))
    | fail
  all_goals first | (exfalso; omega) | skip
  refine loopK.nn (m - 1) (by omega) (by repeat (first | refine Ag.upd rfl ?_ | exact Ag.hv)) ⟨_, ⟨q + 1, ?_, by omega, rfl⟩, fun w hw => hw⟩
  show Value.int .i64 _ = _; congr 1
end Go.Proofs.YtdiciemlbhkilaaGreatDoor
namespace Go.Proofs.YtdiciemlbhkilaaGreatDoor
open Go Go.Cx Go.RowKit
set_option linter.unusedVariables false
set_option linter.unusedSimpArgs false
set_option maxHeartbeats 4000000
attribute [local irreducible] J JC thenK blockK loopK roundK drawK retK QW Qt pel List.set Calls
set_option maxRecDepth 8000
attribute [local irreducible] JE Br eK0 eK3 brK cN proC sumC outC wO zO
theorem eSum : Entr Tryz.prog 69 := Entr.of Tryz.func69 rfl rfl
def slN (b : Nat) (a : Option Addr) (n c : Nat) : Heap := [(b, .cells ⟨[.slice a n c]⟩ 152 (0, 0))]
def slV (b : Nat) (a : Option Addr) (n c : Nat) : Heap := [(b, .cells ⟨[.slice a n c]⟩ 35 (0, 0))]
def rO (b b3 b1 : Nat) : Heap := [(b, .cells ⟨rC b3 b1⟩ 114 (0, 0))]
theorem wideH (k : Int) (s t : Nat × Nat) (hs : okS s) (ht : okS t) (x : Nat) (hx : x ≤ 2 ^ 128) (T : List Nat) (V : List (Nat × Nat)) (hk : 0 ≤ k ∧ k < T.length ∧ k < V.length) (eT : T.getD k.toNat default = x) (eV : V.getD k.toNat default = t) (aO aV : Option Addr) (cO cV bO bV bR b3 b1 : Nat) (hO hV : Heap) (sO : SlT encNt 1 aO T hO) (sV : SlT encS 2 aV V hV)
    (w : World) (hT : Tab64 w) (h1 : Holds (slN bO aO T.length cO) w) (h2 : Holds (slV bV aV V.length cV) w) (h3 : Holds (rO bR b3 b1) w) (h4 : Holds (wO b3 b1 ++ zO b1) w) (h5 : Holds hO w) (h6 : Holds hV w) :
    Calls Tryz.prog 104 #[.int .i64 k, sv s, .pointer (some ⟨bO, 0, none⟩), .pointer (some ⟨bV, 0, none⟩), .pointer (some ⟨bR, 0, none⟩)] w fun e w' => e = .returned (natV (x * 2 ^ cardS (minS s t))) ∧ Below w.heap.size w w' :=
  wide1_any k s t hs ht x hx T V hk eT eV aO aV cO cV bO bV bR b3 b1 hO hV sO sV (slN bO aO T.length cO ++ (slV bV aV V.length cV ++ (rO bR b3 b1 ++ ((wO b3 b1 ++ zO b1) ++ (hO ++ hV)))))
    (List.mem_append_left _ (List.mem_singleton.2 rfl)) (List.mem_append_right _ (List.mem_append_left _ (List.mem_singleton.2 rfl))) (List.mem_append_right _ (List.mem_append_right _ (List.mem_append_left _ (List.mem_singleton.2 rfl))))
    (fun y hy => List.mem_append_right _ (List.mem_append_right _ (List.mem_append_right _ (List.mem_append_left _ hy)))) (fun y hy => List.mem_append_right _ (List.mem_append_right _ (List.mem_append_right _ (List.mem_append_right _ (List.mem_append_left _ hy))))) (fun y hy => List.mem_append_right _ (List.mem_append_right _ (List.mem_append_right _ (List.mem_append_right _ (List.mem_append_right _ hy)))))
    w hT (h1.append (h2.append (h3.append (h4.append (h5.append h6)))))
theorem set_ne {l : List Nat} {k j : Nat} (v : Nat) (h : j ≠ k) : (l.set k v).getD j default = l.getD j default := by
  rw [List.getD_eq_getElem?_getD, List.getD_eq_getElem?_getD, List.getElem?_set_ne (Ne.symm h)]
theorem set_eq {l : List Nat} {k : Nat} (v : Nat) (h : k < l.length) : (l.set k v).getD k default = v := by
  rw [List.getD_eq_getElem?_getD, List.getElem?_set_self h]; rfl
set_option maxHeartbeats 16000000 in
theorem sum_any (nn : Nat) (a : Option Addr) (cap : Nat) (vs : List NV) (h : Heap) (hr : NetIn a vs h) (hX : CntN nn (vs.map pnV)) (b3 b1 : Nat) (w : World) (hT : Tab64 w) (hw : Holds (h ++ (wO b3 b1 ++ zO b1)) w) :
    Calls Tryz.prog 69 #[.agg ⟨[.int .i64 (nn : Int), .slice a vs.length cap]⟩, .agg ⟨rC b3 b1⟩] w fun e w' => e = .returned (natV (cntP nn (vs.map pnV))) ∧ Below w.heap.size w w' := by
  have q0 : ∀ L, RdH (h ++ (wO b3 b1 ++ zO b1)) L h := fun L => RdH.old fun _ hh => List.mem_append_left _ hh
  have q1 : ∀ L, RdH (h ++ (wO b3 b1 ++ zO b1)) L (wO b3 b1 ++ zO b1) := fun L => RdH.old fun _ hh => List.mem_append_right _ hh
  have q2 : ∀ L, RdH (h ++ (wO b3 b1 ++ zO b1)) L (zO b1) := fun L => RdH.old fun _ hh => List.mem_append_right _ (List.mem_append_right _ hh)
  have cV := fun w hw => vars_any (nn : Int) a cap vs h hr w hw
  rw [hX.ck, if_pos rfl] at cV
  obtain ⟨so, si, sl, hl⟩ := hr
  have hXl : (vs.map pnV).length = vs.length := List.length_map ..
  obtain ⟨hN, hM, hFA⟩ := check_facts hX.ck
  have hTl := varT_len (vs.map pnV)
  rw [hXl] at hTl hM
  have hokT := okS_varT (vs.map pnV)
  have hn := hX.hn
  refine calls_of_JC (R := h ++ (wO b3 b1 ++ zO b1)) Tryz.func69 Tryz.ntmps69 rfl rfl (hw) ?_
  repeat' first
    | (refine J.isJ ?_; first | (first | (refine J.o 6 ?_; first | refine J.bx (d := 2) (fun b2 => ?_) | refine J.bx (d := 3) (fun bR => ?_)) | (refine J.o 7 ?_; first | refine J.al (d := 4) hΓ (fun b4 => ?_) | refine J.al (d := 5) hΓ (fun bV => ?_) | refine J.al (d := 6) hΓ (fun bO => ?_)) | (refine J.o 14 ?_; refine J.mfV [.pointer (some ⟨bO, 0, none⟩), .pointer (some ⟨bV, 0, none⟩), .pointer (some ⟨bR, 0, none⟩)] hΓ ?_) | (refine J.fc 103 ?_; refine J.call1 eVarsN rfl rfl (fun w hw => cV w (hw.rdH (q0 _))) ?_; rintro _ hV ⟨aV, cVV, rfl, sV⟩) | (refine J.o 9 ?_; refine J.make (enc := encNt) (m := vs.length) (0 : Nat) hΓ rfl rfl rfl rfl rfl rfl (fun _ => rfl) (by omega) (by omega) (fun bo ho oo => ?_))) | (first | (refine J.o 0 ?_; refine J.ev' hΓ ?_) | refine J.nil ?_ | (refine J.o 4 ?_; first | refine J.lT default hΓ ?_ | refine J.lR hΓ ?_) | (refine J.o 3 ?_; first | refine J.iJ hΓ ?_ | refine J.ev' hΓ ?_) | (refine J.o 1 ?_; first | refine J.ad ?_ | refine J.sb ?_) | (refine J.o 5 ?_; first | refine J.t0 hΓ ?_ | refine J.tT2 _ default hΓ (fun _ _ => ?_)) | (refine J.o 6 ?_; refine J.bx (fun _ => ?_)) | (refine J.o 7 ?_; refine J.al hΓ (fun _ => ?_)) | (refine J.o 10 ?_; refine J.ev' hΓ ?_) | (refine J.o 11 ?_; refine J.ev' hΓ ?_)))
    | (first | refine JC.seq ?_ | refine JC.region ?_ | refine JC.block ?_ | refine JC.ret ?_ | refine JC.exit ?_ | refine JC.skip ?_ | refine thenK.nn ?_ | refine thenK.x ?_ | refine blockK.nn ?_ | refine blockK.hit rfl ?_ | (refine JC.cond rfl (fun hc => ?_) (fun hc => ?_) <;> ((try simp only [tcS] at hc) <;> first | (first | (exact absurd rfl hc) | (exfalso; omega) | (exact (tF hc (by assumption)).elim) | (exact (fT hc (by assumption)).elim)) | skip)) | refine drawK.nn ?_ | refine loopK.x ?_)
    | (fail)
    | fail
  all_goals first | (exfalso; omega) | skip
  have e0 : List.replicate vs.length 0 = outC (vs.map pnV) 0 := by rw [← hXl]; unfold outC cN; rfl
  rw [e0] at oo
  refine JC.gen [(2, .pointer (some ⟨b2, 0, none⟩)), (3, .pointer (some ⟨bR, 0, none⟩)), (4, .pointer (some ⟨b4, 0, none⟩)), (5, .pointer (some ⟨bV, 0, none⟩)), (6, .pointer (some ⟨bO, 0, none⟩)), (7, .func (.func 104) ⟨[]⟩ ⟨[.pointer (some ⟨bO, 0, none⟩), .pointer (some ⟨bV, 0, none⟩), .pointer (some ⟨bR, 0, none⟩)]⟩), (22, .slice a vs.length cap), (23, .int .i64 vs.length), (24, .int .i64 0)] ⟨rfl, rfl, rfl, rfl, rfl, rfl, rfl, rfl, rfl, trivial⟩ (fun F1 => ?_)
  refine JC.loopG (fun i => i == 8 || i == 9 || i == 11 || i == 13 || Nat.ble 24 i) (fun m g L' => ∃ (k : Nat) (ho : Heap), g 24 = .int .i64 (k : Int) ∧ k + m = vs.length ∧ OwT encNt 1 59 (some ⟨bo, 0, none⟩) vs.length (outC (vs.map pnV) k) ho ∧ L' = [slN bO (some ⟨bo, 0, none⟩) vs.length vs.length, ho, slV bV aV (varT (vs.map pnV)).length cVV, hV, [_], rO bR b3 b1, [_]]) vs.length ⟨0, ho, rfl, by omega, oo, rfl⟩ ?_
  clear oo
  rintro m g _ ⟨k, ho, e24, hkm, oo, rfl⟩
  refine JC.pin 24 e24 ?_
  clear e24
  unfold slN slV rO
  rcases Nat.lt_or_ge k vs.length with hk | hk
  case inr =>
    obtain rfl : k = vs.length := by omega
    have eo : outC (vs.map pnV) vs.length = cN (vs.map pnV) (vs.map pnV).length := by rw [← hXl]; exact outC_end _
    rw [eo] at oo
    have cl : (cN (vs.map pnV) (vs.map pnV).length).length = vs.length := by rw [cN_len, hXl]
    have tb := T_le hX.hn hX.sm hX.dd (k := ((vs.length - 1 : Nat) : Int)) (by omega)
    rw [Int.toNat_natCast] at tb
    have cAll := fun w => all_any nn (by omega) w
    have cW := fun w hT h1 h2 h3 h4 h5 h6 => wideH ((vs.length - 1 : Nat) : Int) (allS nn) ((varT (vs.map pnV)).getD (vs.length - 1) default) (okS_all nn) (okS_d _ hokT _) _ tb (cN (vs.map pnV) (vs.map pnV).length) (varT (vs.map pnV)) (by omega) rfl rfl (some ⟨bo, 0, none⟩) aV vs.length cVV bO bV bR b3 b1 ho hV oo.sl sV w hT h1 h2 h3 h4 h5 h6
    rw [cl] at cW
    have ec : cntP nn (vs.map pnV) = (cN (vs.map pnV) (vs.map pnV).length).getD (vs.length - 1) default * 2 ^ cardS (minS (allS nn) ((varT (vs.map pnV)).getD (vs.length - 1) default)) := by unfold cntP; rw [hXl]
    have ek : ((vs.length - 1 : Nat) : Int) = (vs.length : Int) - 1 := by omega
    rw [← ec, ek] at cW
    refine JC.perm (bring_perm 4 _) ?_
    repeat' first
      | (refine J.isJ ?_; first | (first | (refine J.o 4 ?_; first | refine J.lR hΓ ?_ (hr := Rd.hd.tl.tl.tl.tl.tl.tl) | refine J.lR hΓ ?_ (hr := Rd.hd.tl)) | (refine J.fc 18 ?_; refine J.call0 eAll rfl rfl (fun w hw => cAll w) ?_) | (refine J.o 9 ?_; refine J.callv0 eWide1 rfl rfl rfl (fun w hw => cW w (hT.below hw.below) (hw.rdH RdH.hd.tl) (hw.rdH RdH.hd.tl.tl.tl) (hw.rdH RdH.hd.tl.tl.tl.tl.tl) (hw.rdH (q1 _)) (hw.rdH RdH.hd.tl.tl) (hw.rdH RdH.hd.tl.tl.tl.tl)) ?_)) | (first | (refine J.o 0 ?_; refine J.ev' hΓ ?_) | refine J.nil ?_ | (refine J.o 4 ?_; first | refine J.lT default hΓ ?_ | refine J.lR hΓ ?_) | (refine J.o 3 ?_; first | refine J.iJ hΓ ?_ | refine J.ev' hΓ ?_) | (refine J.o 1 ?_; first | refine J.ad ?_ | refine J.sb ?_) | (refine J.o 5 ?_; first | refine J.t0 hΓ ?_ | refine J.tT2 _ default hΓ (fun _ _ => ?_)) | (refine J.o 6 ?_; refine J.bx (fun _ => ?_)) | (refine J.o 7 ?_; refine J.al hΓ (fun _ => ?_)) | (refine J.o 10 ?_; refine J.ev' hΓ ?_) | (refine J.o 11 ?_; refine J.ev' hΓ ?_)))
      | (first | refine JC.seq ?_ | refine JC.region ?_ | refine JC.block ?_ | refine JC.ret ?_ | refine JC.exit ?_ | refine JC.skip ?_ | refine thenK.nn ?_ | refine thenK.x ?_ | refine blockK.nn ?_ | refine blockK.hit rfl ?_ | (refine JC.cond rfl (fun hc => ?_) (fun hc => ?_) <;> ((try simp only [tcS] at hc) <;> first | (first | (exact absurd rfl hc) | (exfalso; omega) | (exact (tF hc (by assumption)).elim) | (exact (fT hc (by assumption)).elim)) | skip)) | refine drawK.nn ?_ | refine loopK.x ?_)
      | ((refine JC.drawO [(0,0),(1,1),(0,2),(0,3),(0,4),(1,5),(1,6),(1,7),(2,8)] (by decide +kernel) (by decide +kernel) ?_))
      | fail
    all_goals first | (exfalso; omega) | skip
    exact retC hΓ rfl rfl rfl Rd.hd rfl (fun w1 hw => ⟨rfl, hw.below⟩)
  have hol := outC_len (X := vs.map pnV) (k := k) (by omega)
  rw [hXl] at hol
  have hmk := mem_g vs k hk
  have hVl := sl _ hmk
  have hVs := si _ hmk
  have hfk : formedP (pnV (vs.getD k default)) nn k = true := by
    have := formAll_at nn (vs.map pnV) 0 hFA k (by omega)
    rw [Int.zero_add, getD_map] at this
    exact this
  have hVo : ∀ i, i ∈ (vs.getD k default).l → 0 ≤ i ∧ i < k := formed_rng hfk
  obtain ⟨P, p0, pn, pb, ps⟩ := hX.run (i := k) (by omega)
  have hset := outC_set (X := vs.map pnV) (k := k) (by omega) (cN_last _ _ _ (by omega))
  have hfa := formed_all hfk
  have hfkd := formed_kinds hfk
  rw [getD_map] at p0 pn pb ps
  obtain ⟨v, hv⟩ : ∃ v, vs.getD k default = v := ⟨_, rfl⟩
  rw [hv] at hVl hVs hVo p0 pn pb ps hfa hfkd
  have p0 : P 0 = if v.kind = 0 ∨ v.kind = 4 then 0 else 1 := p0
  have pn : P v.l.length = (cN (vs.map pnV) (vs.map pnV).length).getD k default := pn
  have pb : ∀ q, q ≤ v.l.length → P q ≤ 2 ^ 128 := pb
  have ps : ∀ q, q < v.l.length → _ := ps
  have hkd : v.kind = 0 ∨ v.kind = 1 ∨ (v.kind = 2 ∧ v.lit ≠ 0) ∨ v.kind = 3 ∨ v.kind = 4 := by
    rcases hfkd with h1 | h1 | ⟨h1, h2, _⟩ | h1 | h1
    · exact .inl h1
    · exact .inr (.inl h1)
    · exact .inr (.inr (.inl ⟨h1, h2⟩))
    · exact .inr (.inr (.inr (.inl h1)))
    · exact .inr (.inr (.inr (.inr h1)))
  have hl3 : v.kind < 3 → v.l.length = 0 := hfa.2.2.2
  by_cases h2 : v.kind = 2
  · have hl0 := hl3 (by omega)
    have hlit : v.lit ≠ 0 := by omega
    rw [hl0] at pn
    rw [if_neg (by omega), pn] at p0
    have c1 := fun w hw => num1_any v.lit hlit b1 w hw
    rw [← p0] at c1
    repeat' first
      | (refine J.isJ ?_; first | (first | (refine J.o 7 ?_; refine J.al (d := 9) hΓ (fun b9 => ?_)) | (refine J.o 3 ?_; first | refine J.iJ hΓ ?_ (hs := so) | refine J.iJ hΓ ?_ (hs := oo.sl)) | (refine J.o 4 ?_; first | (refine J.lT default hΓ ?_ (hs := so) (hr := q0 _); rw [hv]) | refine J.lR hΓ ?_ (hr := Rd.hd.tl.tl.tl.tl.tl.tl)) | (refine J.o 9 ?_; refine J.callv0 eNum1 rfl rfl rfl (fun w hw => c1 w (hw.rdH (q2 _))) ?_) | (refine J.o 5 ?_; refine J.tT2 ((cN (vs.map pnV) (vs.map pnV).length).getD k default) default hΓ (fun h5 o5 => ?_))) | (first | (refine J.o 0 ?_; refine J.ev' hΓ ?_) | refine J.nil ?_ | (refine J.o 4 ?_; first | refine J.lT default hΓ ?_ | refine J.lR hΓ ?_) | (refine J.o 3 ?_; first | refine J.iJ hΓ ?_ | refine J.ev' hΓ ?_) | (refine J.o 1 ?_; first | refine J.ad ?_ | refine J.sb ?_) | (refine J.o 5 ?_; first | refine J.t0 hΓ ?_ | refine J.tT2 _ default hΓ (fun _ _ => ?_)) | (refine J.o 6 ?_; refine J.bx (fun _ => ?_)) | (refine J.o 7 ?_; refine J.al hΓ (fun _ => ?_)) | (refine J.o 10 ?_; refine J.ev' hΓ ?_) | (refine J.o 11 ?_; refine J.ev' hΓ ?_)))
      | (first | refine JC.seq ?_ | refine JC.region ?_ | refine JC.block ?_ | refine JC.ret ?_ | refine JC.exit ?_ | refine JC.skip ?_ | refine thenK.nn ?_ | refine thenK.x ?_ | refine blockK.nn ?_ | refine blockK.hit rfl ?_ | (refine JC.cond rfl (fun hc => ?_) (fun hc => ?_) <;> ((try simp only [tcS] at hc) <;> first | (first | (exact absurd rfl hc) | (exfalso; omega) | (exact (tF hc (by assumption)).elim) | (exact (fT hc (by assumption)).elim)) | skip)) | refine drawK.nn ?_ | refine loopK.x ?_)
      | ((refine JC.drawO [(1,0),(0,1),(0,2),(1,3),(0,4),(1,5),(1,6),(0,7),(2,8)] (by decide +kernel) (by decide +kernel) ?_))
      | fail
    all_goals first | (exfalso; omega) | skip
    rw [hset] at o5
    refine loopK.nn (m - 1) (by omega) (by repeat (first | refine Ag.upd rfl ?_ | exact Ag.hv)) ⟨_, ⟨k + 1, h5, ?_, by omega, o5, rfl⟩, fun w hw => hw.drop⟩
    show Value.int .i64 _ = _; congr 1
  by_cases h13 : v.kind = 1 ∨ v.kind = 3
  · rw [if_neg (by omega)] at p0
    repeat' first
      | (refine J.isJ ?_; first | (first | (refine J.o 7 ?_; refine J.al (d := 9) hΓ (fun b9 => ?_)) | (refine J.o 3 ?_; first | refine J.iJ hΓ ?_ (hs := so) | refine J.iJ hΓ ?_ (hs := oo.sl)) | (refine J.o 4 ?_; first | (refine J.lT default hΓ ?_ (hs := so) (hr := q0 _); rw [hv]) | refine J.lR hΓ ?_ (hr := Rd.hd.tl.tl.tl.tl.tl.tl)) | (refine J.o 9 ?_; refine J.callv0 eNum3 rfl rfl rfl (fun w hw => num3_any w) ?_) | (refine J.o 5 ?_; refine J.tT2 (1 : Nat) default hΓ (fun h5 o5 => ?_))) | (first | (refine J.o 0 ?_; refine J.ev' hΓ ?_) | refine J.nil ?_ | (refine J.o 4 ?_; first | refine J.lT default hΓ ?_ | refine J.lR hΓ ?_) | (refine J.o 3 ?_; first | refine J.iJ hΓ ?_ | refine J.ev' hΓ ?_) | (refine J.o 1 ?_; first | refine J.ad ?_ | refine J.sb ?_) | (refine J.o 5 ?_; first | refine J.t0 hΓ ?_ | refine J.tT2 _ default hΓ (fun _ _ => ?_)) | (refine J.o 6 ?_; refine J.bx (fun _ => ?_)) | (refine J.o 7 ?_; refine J.al hΓ (fun _ => ?_)) | (refine J.o 10 ?_; refine J.ev' hΓ ?_) | (refine J.o 11 ?_; refine J.ev' hΓ ?_)))
      | (first | refine JC.seq ?_ | refine JC.region ?_ | refine JC.block ?_ | refine JC.ret ?_ | refine JC.exit ?_ | refine JC.skip ?_ | refine thenK.nn ?_ | refine thenK.x ?_ | refine blockK.nn ?_ | refine blockK.hit rfl ?_ | (refine JC.cond rfl (fun hc => ?_) (fun hc => ?_) <;> ((try simp only [tcS] at hc) <;> first | (first | (exact absurd rfl hc) | (exfalso; omega) | (exact (tF hc (by assumption)).elim) | (exact (fT hc (by assumption)).elim)) | skip)) | refine drawK.nn ?_ | refine loopK.x ?_)
      | ((refine JC.drawO [(1,0),(0,1),(0,2),(1,3),(1,4),(0,5),(2,6)] (by decide +kernel) (by decide +kernel) ?_))
      | fail
    all_goals first | (exfalso; omega) | skip
    all_goals (
      all_goals refine JC.loopG (fun i => i == 11 || Nat.ble 84 i) (fun m g L' => ∃ (q : Nat) (ho : Heap), g 84 = .int .i64 (q : Int) ∧ q + m = v.l.length ∧ OwT encNt 1 59 (some ⟨bo, 0, none⟩) vs.length ((outC (vs.map pnV) k).set k (P q)) ho ∧ L' = [[_], [_], ho, [_], hV, [_], [_], [_]]) v.l.length ⟨0, h5, rfl, by omega, by rw [p0]; exact o5, rfl⟩ ?_
      clear oo
      all_goals rintro m2 g2 _ ⟨q, ho, e84, hqm, oo, rfl⟩
      all_goals refine JC.pin 84 e84 ?_
      clear e84
      rcases Nat.lt_or_ge q v.l.length with hq | hq
      case inr =>
        obtain rfl : q = v.l.length := by omega
        rw [pn, hset] at oo
        repeat' first
          | (refine J.isJ ?_; first | (fail) | (first | (refine J.o 0 ?_; refine J.ev' hΓ ?_) | refine J.nil ?_ | (refine J.o 4 ?_; first | refine J.lT default hΓ ?_ | refine J.lR hΓ ?_) | (refine J.o 3 ?_; first | refine J.iJ hΓ ?_ | refine J.ev' hΓ ?_) | (refine J.o 1 ?_; first | refine J.ad ?_ | refine J.sb ?_) | (refine J.o 5 ?_; first | refine J.t0 hΓ ?_ | refine J.tT2 _ default hΓ (fun _ _ => ?_)) | (refine J.o 6 ?_; refine J.bx (fun _ => ?_)) | (refine J.o 7 ?_; refine J.al hΓ (fun _ => ?_)) | (refine J.o 10 ?_; refine J.ev' hΓ ?_) | (refine J.o 11 ?_; refine J.ev' hΓ ?_)))
          | (first | refine JC.seq ?_ | refine JC.region ?_ | refine JC.block ?_ | refine JC.ret ?_ | refine JC.exit ?_ | refine JC.skip ?_ | refine thenK.nn ?_ | refine thenK.x ?_ | refine blockK.nn ?_ | refine blockK.hit rfl ?_ | (refine JC.cond rfl (fun hc => ?_) (fun hc => ?_) <;> ((try simp only [tcS] at hc) <;> first | (first | (exact absurd rfl hc) | (exfalso; omega) | (exact (tF hc (by assumption)).elim) | (exact (fT hc (by assumption)).elim)) | skip)) | refine drawK.nn ?_ | refine loopK.x ?_)
          | (fail)
          | fail
        all_goals first | (exfalso; omega) | skip
        refine loopK.nn (m - 1) (by omega) (by repeat (first | refine Ag.upd rfl ?_ | exact Ag.hv | refine Ag.hv2 (fun i hi => by simp at hi ⊢; omega) ?_)) ⟨_, ⟨k + 1, ho, ?_, by omega, oo, rfl⟩, fun w hw => hw.drop⟩
        show Value.int .i64 _ = _; congr 1
      have hj := hVo _ (mem_g v.l q hq)
      have pbq := pb q (by omega)
      have pbq1 := pb (q + 1) (by omega)
      have tb := T_le hX.hn hX.sm hX.dd (k := v.l.getD q default) (by omega)
      have hot := outC_at (X := vs.map pnV) (k := k) (j := (v.l.getD q default).toNat) (by omega) (by omega)
      have g1 : ((outC (vs.map pnV) k).set k (P q)).getD (v.l.getD q default).toNat default = (cN (vs.map pnV) (vs.map pnV).length).getD (v.l.getD q default).toNat default := by rw [set_ne _ (by omega)]; exact hot
      have g2 : ((outC (vs.map pnV) k).set k (P q)).getD k default = P q := set_eq _ (by omega)
      have g3 : ((outC (vs.map pnV) k).set k (P q)).length = vs.length := by rw [List.length_set]; exact hol
      have l1 := bytes_128 pbq
      have l2 := bytes_128 tb
      have l3 := bytes_128 pbq1
      have hp : P (q + 1) = P q * (cN (vs.map pnV) (vs.map pnV).length).getD (v.l.getD q default).toNat default := by
        rcases ps q hq with ⟨_, hp⟩ | ⟨h4, _⟩
        · exact hp
        · have h4 : v.kind = 4 := h4
          omega
      have cM := fun w => mul_any (P q) ((cN (vs.map pnV) (vs.map pnV).length).getD (v.l.getD q default).toNat default) (by omega) (by omega) w
      rw [← hp] at cM
      repeat' first
        | (refine J.isJ ?_; first | (first | (refine J.o 3 ?_; first | refine J.iJ hΓ ?_ (hs := hVs) | refine J.iJ hΓ ?_ (hs := oo.sl)) | (refine J.o 4 ?_; first | refine J.lT default hΓ ?_ (hs := hVs) (hr := q0 _) | (refine J.lT default hΓ ?_ (hs := oo.sl) (hr := RdH.hd.tl.tl); first | rw [g1] | rw [g2]) | refine J.lR hΓ ?_ (hr := Rd.hd.tl) | refine J.lR hΓ ?_ (hr := Rd.hd.tl.tl.tl.tl.tl.tl)) | (refine J.o 9 ?_; refine J.callv0 eMul rfl rfl rfl (fun w hw => cM w) ?_) | (refine J.o 5 ?_; refine J.tT2 (P (q + 1)) default hΓ (fun h6 o6 => ?_))) | (first | (refine J.o 0 ?_; refine J.ev' hΓ ?_) | refine J.nil ?_ | (refine J.o 4 ?_; first | refine J.lT default hΓ ?_ | refine J.lR hΓ ?_) | (refine J.o 3 ?_; first | refine J.iJ hΓ ?_ | refine J.ev' hΓ ?_) | (refine J.o 1 ?_; first | refine J.ad ?_ | refine J.sb ?_) | (refine J.o 5 ?_; first | refine J.t0 hΓ ?_ | refine J.tT2 _ default hΓ (fun _ _ => ?_)) | (refine J.o 6 ?_; refine J.bx (fun _ => ?_)) | (refine J.o 7 ?_; refine J.al hΓ (fun _ => ?_)) | (refine J.o 10 ?_; refine J.ev' hΓ ?_) | (refine J.o 11 ?_; refine J.ev' hΓ ?_)))
        | (first | refine JC.seq ?_ | refine JC.region ?_ | refine JC.block ?_ | refine JC.ret ?_ | refine JC.exit ?_ | refine JC.skip ?_ | refine thenK.nn ?_ | refine thenK.x ?_ | refine blockK.nn ?_ | refine blockK.hit rfl ?_ | (refine JC.cond rfl (fun hc => ?_) (fun hc => ?_) <;> ((try simp only [tcS] at hc) <;> first | (first | (exact absurd rfl hc) | (exfalso; omega) | (exact (tF hc (by assumption)).elim) | (exact (fT hc (by assumption)).elim)) | skip)) | refine drawK.nn ?_ | refine loopK.x ?_)
        | ((refine JC.drawO [(1,0),(0,1),(0,2),(1,3),(1,4),(0,5),(0,6),(1,7),(1,8),(0,9),(0,10),(1,11),(1,12),(0,13),(2,14)] (by decide +kernel) (by decide +kernel) ?_))
        | fail
      all_goals first | (exfalso; omega) | skip
      all_goals rw [List.set_set] at o6
      all_goals refine loopK.nn (m2 - 1) (by omega) (by repeat (first | refine Ag.upd rfl ?_ | exact Ag.hv | refine Ag.hv2 (fun i hi => by simp at hi ⊢; omega) ?_)) ⟨_, ⟨q + 1, h6, ?_, by omega, o6, rfl⟩, fun w hw => hw⟩
      all_goals (show Value.int .i64 _ = _; congr 1))
  · rw [if_pos (by omega)] at p0
    repeat' first
      | (refine J.isJ ?_; first | (first | (refine J.o 7 ?_; refine J.al (d := 9) hΓ (fun b9 => ?_)) | (refine J.o 3 ?_; first | refine J.iJ hΓ ?_ (hs := so) | refine J.iJ hΓ ?_ (hs := oo.sl)) | (refine J.o 4 ?_; first | (refine J.lT default hΓ ?_ (hs := so) (hr := q0 _); rw [hv]) | refine J.lR hΓ ?_ (hr := Rd.hd.tl.tl.tl.tl.tl.tl)) | (refine J.o 9 ?_; refine J.callv0 eNum2 rfl rfl rfl (fun w hw => num2_any w) ?_) | (refine J.o 5 ?_; refine J.tT2 (0 : Nat) default hΓ (fun h5 o5 => ?_))) | (first | (refine J.o 0 ?_; refine J.ev' hΓ ?_) | refine J.nil ?_ | (refine J.o 4 ?_; first | refine J.lT default hΓ ?_ | refine J.lR hΓ ?_) | (refine J.o 3 ?_; first | refine J.iJ hΓ ?_ | refine J.ev' hΓ ?_) | (refine J.o 1 ?_; first | refine J.ad ?_ | refine J.sb ?_) | (refine J.o 5 ?_; first | refine J.t0 hΓ ?_ | refine J.tT2 _ default hΓ (fun _ _ => ?_)) | (refine J.o 6 ?_; refine J.bx (fun _ => ?_)) | (refine J.o 7 ?_; refine J.al hΓ (fun _ => ?_)) | (refine J.o 10 ?_; refine J.ev' hΓ ?_) | (refine J.o 11 ?_; refine J.ev' hΓ ?_)))
      | (first | refine JC.seq ?_ | refine JC.region ?_ | refine JC.block ?_ | refine JC.ret ?_ | refine JC.exit ?_ | refine JC.skip ?_ | refine thenK.nn ?_ | refine thenK.x ?_ | refine blockK.nn ?_ | refine blockK.hit rfl ?_ | (refine JC.cond rfl (fun hc => ?_) (fun hc => ?_) <;> ((try simp only [tcS] at hc) <;> first | (first | (exact absurd rfl hc) | (exfalso; omega) | (exact (tF hc (by assumption)).elim) | (exact (fT hc (by assumption)).elim)) | skip)) | refine drawK.nn ?_ | refine loopK.x ?_)
      | ((refine JC.drawO [(1,0),(0,1),(0,2),(1,3),(1,4),(0,5),(2,6)] (by decide +kernel) (by decide +kernel) ?_))
      | fail
    all_goals first | (exfalso; omega) | skip
    all_goals refine JC.loopG (fun i => i == 13 || Nat.ble 40 i) (fun m g L' => ∃ (q : Nat) (ho : Heap), g 40 = .int .i64 (q : Int) ∧ q + m = v.l.length ∧ OwT encNt 1 59 (some ⟨bo, 0, none⟩) vs.length ((outC (vs.map pnV) k).set k (P q)) ho ∧ L' = [[_], [_], ho, [_], hV, [_], [_], [_]]) v.l.length ⟨0, h5, rfl, by omega, by rw [p0]; exact o5, rfl⟩ ?_
    clear oo
    all_goals rintro m2 g2 _ ⟨q, ho, e40, hqm, oo, rfl⟩
    all_goals refine JC.pin 40 e40 ?_
    clear e40
    rcases Nat.lt_or_ge q v.l.length with hq | hq
    case inr =>
      obtain rfl : q = v.l.length := by omega
      rw [pn, hset] at oo
      repeat' first
        | (refine J.isJ ?_; first | (fail) | (first | (refine J.o 0 ?_; refine J.ev' hΓ ?_) | refine J.nil ?_ | (refine J.o 4 ?_; first | refine J.lT default hΓ ?_ | refine J.lR hΓ ?_) | (refine J.o 3 ?_; first | refine J.iJ hΓ ?_ | refine J.ev' hΓ ?_) | (refine J.o 1 ?_; first | refine J.ad ?_ | refine J.sb ?_) | (refine J.o 5 ?_; first | refine J.t0 hΓ ?_ | refine J.tT2 _ default hΓ (fun _ _ => ?_)) | (refine J.o 6 ?_; refine J.bx (fun _ => ?_)) | (refine J.o 7 ?_; refine J.al hΓ (fun _ => ?_)) | (refine J.o 10 ?_; refine J.ev' hΓ ?_) | (refine J.o 11 ?_; refine J.ev' hΓ ?_)))
        | (first | refine JC.seq ?_ | refine JC.region ?_ | refine JC.block ?_ | refine JC.ret ?_ | refine JC.exit ?_ | refine JC.skip ?_ | refine thenK.nn ?_ | refine thenK.x ?_ | refine blockK.nn ?_ | refine blockK.hit rfl ?_ | (refine JC.cond rfl (fun hc => ?_) (fun hc => ?_) <;> ((try simp only [tcS] at hc) <;> first | (first | (exact absurd rfl hc) | (exfalso; omega) | (exact (tF hc (by assumption)).elim) | (exact (fT hc (by assumption)).elim)) | skip)) | refine drawK.nn ?_ | refine loopK.x ?_)
        | (fail)
        | fail
      all_goals first | (exfalso; omega) | skip
      refine loopK.nn (m - 1) (by omega) (by repeat (first | refine Ag.upd rfl ?_ | exact Ag.hv | refine Ag.hv2 (fun i hi => by simp at hi ⊢; omega) ?_)) ⟨_, ⟨k + 1, ho, ?_, by omega, oo, rfl⟩, fun w hw => hw.drop⟩
      show Value.int .i64 _ = _; congr 1
    have hj := hVo _ (mem_g v.l q hq)
    have pbq := pb q (by omega)
    have pbq1 := pb (q + 1) (by omega)
    have tb := T_le hX.hn hX.sm hX.dd (k := v.l.getD q default) (by omega)
    have hot := outC_at (X := vs.map pnV) (k := k) (j := (v.l.getD q default).toNat) (by omega) (by omega)
    have g1 : ((outC (vs.map pnV) k).set k (P q)).getD (v.l.getD q default).toNat default = (cN (vs.map pnV) (vs.map pnV).length).getD (v.l.getD q default).toNat default := by rw [set_ne _ (by omega)]; exact hot
    have g2 : ((outC (vs.map pnV) k).set k (P q)).getD k default = P q := set_eq _ (by omega)
    have g3 : ((outC (vs.map pnV) k).set k (P q)).length = vs.length := by rw [List.length_set]; exact hol
    have l1 := bytes_128 pbq
    have l2 := bytes_128 tb
    have l3 := bytes_128 pbq1
    have hp : P (q + 1) = P q + (cN (vs.map pnV) (vs.map pnV).length).getD (v.l.getD q default).toNat default * 2 ^ cardS (minS ((varT (vs.map pnV)).getD k default) ((varT (vs.map pnV)).getD (v.l.getD q default).toNat default)) := by
      rcases ps q hq with ⟨h3, _⟩ | ⟨_, hp⟩
      · have h3 : v.kind = 3 := h3
        omega
      · exact hp
    have l4 := bytes_128 (v := (cN (vs.map pnV) (vs.map pnV).length).getD (v.l.getD q default).toNat default * 2 ^ cardS (minS ((varT (vs.map pnV)).getD k default) ((varT (vs.map pnV)).getD (v.l.getD q default).toNat default))) (by omega)
    have cA := fun w => add_any2 (P q) ((cN (vs.map pnV) (vs.map pnV).length).getD (v.l.getD q default).toNat default * 2 ^ cardS (minS ((varT (vs.map pnV)).getD k default) ((varT (vs.map pnV)).getD (v.l.getD q default).toNat default))) (by omega) (by omega) w
    rw [← hp] at cA
    have cW := fun w hT h1 h2 h3 h4 h5 h6 => wideH (v.l.getD q default) ((varT (vs.map pnV)).getD k default) ((varT (vs.map pnV)).getD (v.l.getD q default).toNat default) (okS_d _ hokT _) (okS_d _ hokT _) _ tb ((outC (vs.map pnV) k).set k (P q)) (varT (vs.map pnV)) (by omega) g1 rfl (some ⟨bo, 0, none⟩) aV vs.length cVV bO bV bR b3 b1 ho hV oo.sl sV w hT h1 h2 h3 h4 h5 h6
    rw [g3] at cW
    repeat' first
      | (refine J.isJ ?_; first | (first | (refine J.o 3 ?_; first | refine J.iJ hΓ ?_ (hs := hVs) | refine J.iJ hΓ ?_ (hs := oo.sl) | refine J.iJ hΓ ?_ (hs := sV)) | (refine J.o 4 ?_; first | refine J.lT default hΓ ?_ (hs := hVs) (hr := q0 _) | refine J.lT default hΓ ?_ (hs := sV) (hr := RdH.hd.tl.tl.tl.tl) | (refine J.lT default hΓ ?_ (hs := oo.sl) (hr := RdH.hd.tl.tl); first | rw [g1] | rw [g2]) | refine J.lR hΓ ?_ (hr := Rd.hd.tl) | refine J.lR hΓ ?_ (hr := Rd.hd.tl.tl.tl) | refine J.lR hΓ ?_ (hr := Rd.hd.tl.tl.tl.tl.tl.tl)) | (refine J.o 9 ?_; first | refine J.callv0 eWide1 rfl rfl rfl (fun w hw => cW w (hT.below hw.below) (hw.rdH RdH.hd.tl) (hw.rdH RdH.hd.tl.tl.tl) (hw.rdH RdH.hd.tl.tl.tl.tl.tl.tl) (hw.rdH (q1 _)) (hw.rdH RdH.hd.tl.tl) (hw.rdH RdH.hd.tl.tl.tl.tl)) ?_ | refine J.callv0 eNatAdd rfl rfl rfl (fun w hw => cA w) ?_) | (refine J.o 5 ?_; refine J.tT2 (P (q + 1)) default hΓ (fun h6 o6 => ?_))) | (first | (refine J.o 0 ?_; refine J.ev' hΓ ?_) | refine J.nil ?_ | (refine J.o 4 ?_; first | refine J.lT default hΓ ?_ | refine J.lR hΓ ?_) | (refine J.o 3 ?_; first | refine J.iJ hΓ ?_ | refine J.ev' hΓ ?_) | (refine J.o 1 ?_; first | refine J.ad ?_ | refine J.sb ?_) | (refine J.o 5 ?_; first | refine J.t0 hΓ ?_ | refine J.tT2 _ default hΓ (fun _ _ => ?_)) | (refine J.o 6 ?_; refine J.bx (fun _ => ?_)) | (refine J.o 7 ?_; refine J.al hΓ (fun _ => ?_)) | (refine J.o 10 ?_; refine J.ev' hΓ ?_) | (refine J.o 11 ?_; refine J.ev' hΓ ?_)))
      | (first | refine JC.seq ?_ | refine JC.region ?_ | refine JC.block ?_ | refine JC.ret ?_ | refine JC.exit ?_ | refine JC.skip ?_ | refine thenK.nn ?_ | refine thenK.x ?_ | refine blockK.nn ?_ | refine blockK.hit rfl ?_ | (refine JC.cond rfl (fun hc => ?_) (fun hc => ?_) <;> ((try simp only [tcS] at hc) <;> first | (first | (exact absurd rfl hc) | (exfalso; omega) | (exact (tF hc (by assumption)).elim) | (exact (fT hc (by assumption)).elim)) | skip)) | refine drawK.nn ?_ | refine loopK.x ?_)
      | ((refine JC.drawO [(1,0),(0,1),(0,2),(1,3),(1,4),(0,5),(0,6),(1,7),(0,8),(0,9),(1,10),(0,11),(0,12),(1,13),(1,14),(1,15),(0,16),(2,17)] (by decide +kernel) (by decide +kernel) ?_))
      | fail
    all_goals first | (exfalso; omega) | skip
    rw [List.set_set] at o6
    refine loopK.nn (m2 - 1) (by omega) (by repeat (first | refine Ag.upd rfl ?_ | exact Ag.hv | refine Ag.hv2 (fun i hi => by simp at hi ⊢; omega) ?_)) ⟨_, ⟨q + 1, h6, ?_, by omega, o6, rfl⟩, fun w hw => hw⟩
    show Value.int .i64 _ = _; congr 1
end Go.Proofs.YtdiciemlbhkilaaGreatDoor
namespace Go.Proofs.YtdiciemlbhkilaaGreatDoor
open Go Go.Cx Go.RowKit
set_option linter.unusedVariables false
set_option linter.unusedSimpArgs false
set_option maxHeartbeats 4000000
attribute [local irreducible] J JC thenK blockK loopK roundK drawK retK QW Qt pel List.set Calls
set_option maxRecDepth 8000
attribute [local irreducible] JE Br eK0 eK3 brK cN proC sumC outC wO zO
theorem eCount : Entr Tryz.prog 26 := Entr.of Tryz.func26 rfl rfl
theorem numb_gives (w : World) : Calls Tryz.prog 70 #[.int .i64 0] w (Gives (fun v h => ∃ b3 b1, v = .agg ⟨rC b3 b1⟩ ∧ h = wO b3 b1 ++ zO b1) w) := by
  refine (numb_any (H.start (Holds.nil w))).mono ?_
  rintro e w' ⟨v, L', rfl, hw, b3, b1, rfl, rfl⟩
  exact Gives.of hw.mg1 ⟨b3, b1, rfl, rfl⟩
set_option maxHeartbeats 16000000 in
theorem count_any (nn : Nat) (a : Option Addr) (cap : Nat) (vs : List NV) (h : Heap) (hr : NetIn a vs h) (hX : CntN nn (vs.map pnV)) (w : World) (hT : Tab64 w) (hw : Holds h w) :
    Calls Tryz.prog 26 #[.agg ⟨[.int .i64 (nn : Int), .slice a vs.length cap]⟩] w fun e w' => e = .returned (.tuple #[natV (cntP nn (vs.map pnV)), .int .i64 0]) ∧ Below w.heap.size w w' := by
  have q0 : ∀ L, RdH h L h := fun L => RdH.old fun _ hh => hh
  have cC := fun w hT hw => checkC_any nn a cap vs h hr hX w hT hw
  have cS := fun b3 b1 w hT hw => sum_any nn a cap vs h hr hX b3 b1 w hT hw
  refine calls_of_JC (R := h) Tryz.func26 Tryz.ntmps26 rfl rfl (hw) ?_
  repeat' first
    | (refine J.isJ ?_; first | (first | (refine J.o 4 ?_; refine J.lR hΓ ?_ (hr := Rd.hd.tl)) | (refine J.fc 68 ?_; refine J.call0 eCheckCt rfl rfl (fun w hw => cC w (hT.below hw.below) (hw.rdH (q0 _))) ?_) | (refine J.fc 70 ?_; refine J.call1 eNumb rfl rfl (fun w hw => numb_gives w) ?_; rintro _ hN ⟨b3, b1, rfl, rfl⟩) | (refine J.fc 69 ?_; refine J.call0 eSum rfl rfl (fun w hw => cS b3 b1 w (hT.below hw.below) ((hw.rdH (q0 _)).append (hw.rdH RdH.hd))) ?_)) | (first | (refine J.o 0 ?_; refine J.ev' hΓ ?_) | refine J.nil ?_ | (refine J.o 4 ?_; first | refine J.lR hΓ ?_) | (refine J.o 3 ?_; first | refine J.ev' hΓ ?_) | (refine J.o 5 ?_; first | refine J.t1 hΓ ?_) | (refine J.o 6 ?_; refine J.bx (fun _ => ?_)) | (refine J.o 7 ?_; refine J.al hΓ (fun _ => ?_)) | (refine J.o 10 ?_; refine J.ev' hΓ ?_) | (refine J.o 11 ?_; refine J.ev' hΓ ?_)))
    | (first | refine JC.seq ?_ | refine JC.region ?_ | refine JC.ret ?_ | refine JC.skip ?_ | refine thenK.nn ?_ | refine JC.condF rfl ?_ | refine drawK.nn ?_)
    | (first | (refine JC.drawO [(1,0),(0,4),(3,1),(1,2),(2,3)] (by decide +kernel) (by decide +kernel) ?_) | (refine JC.drawO [(1,0),(3,1),(1,2),(2,3),(0,4)] (by decide +kernel) (by decide +kernel) ?_))
    | fail
  all_goals first | (exfalso; omega) | skip
  exact retCS hΓ rfl rfl rfl rfl Rd.hd.tl rfl rfl (fun w1 hw => ⟨rfl, hw.below⟩)
end Go.Proofs.YtdiciemlbhkilaaGreatDoor
namespace Go.Proofs.YtdiciemlbhkilaaGreatDoor
open Go Go.Cx Go.RowKit Go.Lib
set_option linter.unusedVariables false
set_option linter.unusedSimpArgs false
set_option maxHeartbeats 4000000
set_option maxRecDepth 8000
section
variable {P : Program} {n : Nat} {w0 : World} {R : Heap} {l0 : List Oper} {K : Exit → Fr → List Heap → Prop} {f : Fr} {L : List Heap} {rest : List (Nat × Oper)} {κ : Nat}
variable {Γ : List (Nat × Go.Cx.TI)} {d : Nat} {op : Op} {ty : TypeId} {pos : String} {aft : Array Edge} {g : Option (Nat × Bool)}
variable {α : Type} {enc : α → List Value} {a : Option Addr} {ts us : List α} {h : Heap} {size e cap : Nat}
theorem app_runC (hΓ : Fits P Γ) {t ty' : TypeId} {s1 b1 b2 : Nat} {z1 : Option Value} {z : Value} {zc : List Value} {de : TypeDesc} (ht : Go.Cx.look Γ t = some ⟨.slice e, s1, z1, b1⟩) (he : Go.Cx.look Γ e = some ⟨de, size, some z, b2⟩) (hz : vcells z = some zc) (hzl : zc.length = size)
    {w : World} (hw : H w0 R (h :: L) w) (ho : OwT enc size e a cap ts h) {ad : Addr} {c : Nat} (hnews : ∀ j u, (us.flatMap enc)[j]? = some u → w.cell? (ad.add j) = some u) (h1 : ones (us.flatMap enc) = true) (hm : 0 < us.length)
    (hb : (ts.length + us.length) * b2 ≤ 140737488355328) (h63 : ts.length + us.length ≤ 9223372036854775807) (hcap : cap ≤ maxLen) (hln : ts.length + us.length ≤ 140737488355328) :
    ∃ a' cap' h' w', (Builtin.append_ #[t, t] ty' #[.slice a ts.length cap, .slice (some ad) us.length c]).run P w = .ok (.slice a' (ts.length + us.length) cap') w' ∧ H w0 R (h' :: L) w' ∧ OwT enc size e a' cap' (ts ++ us) h' ∧ cap' ≤ maxLen := by
  have hu := (hΓ t _ ht).1
  obtain ⟨hue, ie, hie, hse, hze, hbe⟩ := hΓ e _ he
  have hl : (us.flatMap enc).length = us.length * ie.size := by rw [Go.Cx.flat_len ho.len, hse]
  have hzs : z.cells.size = size := by rw [vcells_eq hz]; simpa using hzl
  have hsz : ie.size = size := hse
  rcases ho.row with ⟨rfl, rfl, rfl, rfl⟩ | ⟨gb, cs, rfl, rfl, hc1, hc2, hc3⟩
  · -- nothing yet
    have hrun := run_append_nil (P := P) w t ty' e ie z hu hie hze ad us.length c (us.flatMap enc) hl hnews hm (by simp at h63; omega) (by rw [hbe]; show us.length * b2 ≤ _; simp at hb; omega)
    have hge := grownCap_ge w us.length 0 e
    refine ⟨some ⟨w.heap.size, 0, none⟩, grownCap w us.length 0 e, _, _, ?_, (hw.drop.drew (w.drawn + 1)).alloc (.cells ((us.flatMap enc).toArray ++ Builtin.zeroCells z.cells (grownCap w us.length 0 e - us.length)) e), ?_, grownCap_le_maxLen w us.length 0 e (by unfold maxLen; omega)⟩
    · simp only [List.length_nil, Nat.zero_add]
      exact hrun
    · refine ⟨ho.len, .inr ⟨w.heap.size, (us.flatMap enc) ++ (Builtin.zeroCells z.cells (grownCap w us.length 0 e - us.length)).toList, rfl, ?_, ?_, ?_, ?_⟩⟩
      · simp
      · simp only [List.length_append, Array.length_toList, size_zeroCells, hzs, Go.Cx.flat_len ho.len]
        rw [← Nat.add_mul]
        congr 1
        omega
      · simpa using hge
      · simp only [List.nil_append]
        rw [List.take_append_of_le_length (by rw [Go.Cx.flat_len ho.len]; exact Nat.le_refl _), List.take_of_length_le (by rw [Go.Cx.flat_len ho.len]; exact Nat.le_refl _)]
  · have hg : w.heap[gb]? = some (.cells cs.toArray e (0, 0)) := hw.own (gb, _) (by simp)
    by_cases hroom : ts.length + us.length ≤ cap
    · -- there is room
      have hfit : ts.length * ie.size + (us.flatMap enc).length ≤ cs.toArray.size := by
        rw [hl, ← Nat.add_mul, hsz]
        simp only [List.size_toArray, hc1]
        exact Nat.mul_le_mul_right _ hroom
      have hrun := run_append_room (P := P) w t ty' e ie hu hie gb ts.length cap cs.toArray hg ad us.length c (us.flatMap enc) hl hnews (ones_ok h1) hroom hfit
      refine ⟨_, _, [(gb, .cells ⟨ts.flatMap enc ++ us.flatMap enc ++ cs.drop (ts.length * ie.size + (us.flatMap enc).length)⟩ e (0, 0))], _, hrun, ?_, ?_, hcap⟩
      · refine hw.write rfl rfl rfl (by simp) ?_ (fun k hk => setRow_other _ _ _ _ hk)
        rw [setRow_heap w gb _ _ e _ hg]
        simp only [hsz, hc3]
      · refine ⟨ho.len, .inr ⟨gb, _, rfl, rfl, ?_, ?_, ?_⟩⟩
        · simp only [List.length_append, List.length_drop, Go.Cx.flat_len ho.len, hsz, hc1]
          simp only [List.size_toArray, hc1, hl, hsz] at hfit
          have := hfit
          omega
        · simpa using hroom
        · rw [List.flatMap_append, List.take_append_of_le_length (by rw [List.length_append, List.length_append, Go.Cx.flat_len ho.len, Go.Cx.flat_len ho.len, Nat.add_mul]; exact Nat.le_refl _)]
          rw [List.take_of_length_le (by rw [List.length_append, List.length_append, Go.Cx.flat_len ho.len, Go.Cx.flat_len ho.len, Nat.add_mul]; exact Nat.le_refl _)]
    · -- a new row
      have hlt : cap < ts.length + us.length := by omega
      have hadd : ∀ j, (⟨gb, 0, none⟩ : Addr).add j = ⟨gb, j, none⟩ := fun j => by unfold Addr.add; split <;> simp_all
      have hfit : Builtin.nextslicecap (ts.length + us.length) cap * ie.bytes ≤ 281474976710656 := by
        have h2 := nextslicecap_le hlt
        have h3 : Builtin.nextslicecap (ts.length + us.length) cap * b2 ≤ (2 * (ts.length + us.length)) * b2 := Nat.mul_le_mul_right _ h2
        rw [Nat.mul_assoc] at h3
        rw [hbe]
        show _ * b2 ≤ _
        omega
      have hrun := run_append_grow (P := P) w t ty' e ie z hu hie hze ⟨gb, 0, none⟩ ts.length cap (ts.flatMap enc) (by rw [Go.Cx.flat_len ho.len, hsz]) (fun j v hj => by
          rw [hadd, cell_of_row w gb j cs.toArray e (0, 0) hg]
          rw [← hc3, List.getElem?_take] at hj
          split at hj
          · simpa using hj
          · cases hj) ad us.length c (us.flatMap enc) hl hnews hlt (by omega) hfit
      have hge := grownCap_ge w (ts.length + us.length) cap e
      refine ⟨_, _, _, _, hrun, (hw.drop.drew (w.drawn + 1)).alloc _, ?_, grownCap_le_maxLen w (ts.length + us.length) cap e (by unfold maxLen; omega)⟩
      refine ⟨ho.len, .inr ⟨w.heap.size, ts.flatMap enc ++ us.flatMap enc ++ (Builtin.zeroCells z.cells (grownCap w (ts.length + us.length) cap e - (ts.length + us.length))).toList, rfl, ?_, ?_, ?_, ?_⟩⟩
      · simp
      · simp only [List.length_append, Array.length_toList, size_zeroCells, hzs, Go.Cx.flat_len ho.len]
        rw [← Nat.add_mul, ← Nat.add_mul]
        congr 1
        omega
      · simpa using hge
      · rw [List.flatMap_append, List.take_append_of_le_length (by rw [List.length_append, List.length_append, Go.Cx.flat_len ho.len, Go.Cx.flat_len ho.len, Nat.add_mul]; exact Nat.le_refl _)]
        rw [List.take_of_length_le (by rw [List.length_append, List.length_append, Go.Cx.flat_len ho.len, Go.Cx.flat_len ho.len, Nat.add_mul]; exact Nat.le_refl _)]
theorem J.app1C {t : TypeId} {x y : Operand} {len m c gx : Nat} {cl : List Value} {fr : Nat × Nat} {e' s1 b1 b2 : Nat} {z1 : Option Value} {z : Value} {zc : List Value} {de : TypeDesc} (us : List α) (hΓ : Fits P Γ) (hg : wantB n f l0 ⟨some d, .call ⟨.builtin .append, ⟨[x, y]⟩, ⟨[t, t]⟩⟩, ty, pos, aft, g⟩ = true)
    (hx : Cx.ev n f x = .slice a len cap) (hy : Cx.ev n f y = .slice (some ⟨gx, 0, none⟩) m c) (ht : Go.Cx.look Γ t = some ⟨.slice e, s1, z1, b1⟩) (he : Go.Cx.look Γ e = some ⟨de, size, some z, b2⟩) (hz : vcells z = some zc) (hzl : Nat.beq zc.length size = true)
    (ho : OwT enc size e a cap ts h) (hlen : ts.length = len) (hus : us.flatMap enc = cl) (hm : us.length = m) (h1 : ones cl = true) (hpos : 0 < m) (hb : (len + m) * b2 ≤ 140737488355328) (h63 : len + m ≤ 9223372036854775807) (hcap : cap ≤ maxLen) (hln : len + m ≤ 140737488355328)
    (k : ∀ a' cap' h', OwT enc size e a' cap' (ts ++ us) h' → cap' ≤ maxLen → J P n w0 R l0 K rest (upd f d (.slice a' (len + m) cap')) (h' :: L)) :
    J P n w0 R l0 K ((2, ⟨some d, .call ⟨.builtin .append, ⟨[x, y]⟩, ⟨[t, t]⟩⟩, ty, pos, aft, g⟩) :: rest) f ([(gx, .cells ⟨cl⟩ e' fr)] :: h :: L) := by
  subst hlen hm hus
  refine J.v (Φ := fun v L' => ∃ a' cap' h', v = .slice a' (ts.length + us.length) cap' ∧ L' = h' :: L ∧ OwT enc size e a' cap' (ts ++ us) h' ∧ cap' ≤ maxLen) hg (fun w hw => ?_) (fun v L' ⟨a', cap', h', e1, e2, e3, e4⟩ => by subst e1; subst e2; exact k a' cap' h' e3 e4)
  have hgx : w.heap[gx]? = some (.cells (us.flatMap enc).toArray e' fr) := hw.own (gx, _) (by simp)
  have hadd : ∀ j, (⟨gx, 0, none⟩ : Addr).add j = ⟨gx, j, none⟩ := fun j => by unfold Addr.add; split <;> simp_all
  obtain ⟨a', cap', h', w', hr, hw', ho', hc'⟩ := app_runC (P := P) (ty' := ty) (us := us) (ad := ⟨gx, 0, none⟩) (c := c) hΓ ht he hz (Nat.eq_of_beq_eq_true hzl) hw.drop ho
    (fun j u hj => by rw [hadd, cell_of_row w gx j _ e' fr hgx]; simpa using hj) h1 hpos hb h63 hcap hln
  refine ⟨_, _, w', ?_, hw', a', cap', h', rfl, rfl, ho', hc'⟩
  have h2 : (⟨[x, y]⟩ : Array Operand).map (Cx.ev n f) = #[.slice a ts.length cap, .slice (some ⟨gx, 0, none⟩) us.length c] := by simp [hx, hy]
  simp only [execOp, resolve, h2, Sem.run_bind, Sem.run_pure, Result.andThen_ok, invoke, builtin]
  rw [hr]
  rfl
end
attribute [local irreducible] J JC thenK blockK loopK roundK drawK retK QW Qt pel List.set Calls JE Br eK0 eK3 brK
theorem eWBy : Entr Tryz.prog 75 := Entr.of Tryz.func75 rfl rfl
theorem wBy_any {w0 w : World} {R : Heap} {L : List Heap} {b : Nat} {p a : Option Addr} {cap : Nat} {bs : List UInt8} {hb : Heap} (c : UInt8) (hp : p = none ∨ p = some ⟨b, 0, none⟩) (ob : OwT encB 1 5 a cap bs hb) (hcap : cap ≤ maxLen) (hlen : bs.length + 1 ≤ 140737488355328) (hw : H w0 R ([(b, bldO p (.slice a bs.length cap))] :: hb :: L) w) :
    Calls Tryz.prog 75 #[.pointer (some ⟨b, 0, none⟩), .int .u8 (c.toNat : Int)] w fun e w' => ∃ v' L', e = .returned v' ∧ H w0 R L' w' ∧ ∃ a' cap' h', L' = [(b, bldO (some ⟨b, 0, none⟩) (.slice a' (bs ++ [c]).length cap'))] :: h' :: L ∧ OwT encB 1 5 a' cap' (bs ++ [c]) h' ∧ cap' ≤ maxLen := by
  have hl : (bs ++ [c]).length = bs.length + 1 := by simp
  refine calls_in Tryz.func75 Tryz.ntmps75 rfl rfl (hw) ?_
  repeat' first
    | (refine J.isJ ?_; first | (first | (refine J.fc 115 ?_; refine J.callx eCopyC rfl rfl (fun w hw => copyC_any hp hw) ?_; rintro _ _ ⟨rfl, rfl⟩; unfold bldO) | (refine J.o 9 ?_; refine J.perm (br1.cons _) ?_; refine J.app1C [c] hΓ rfl rfl rfl rfl rfl rfl rfl ob rfl rfl rfl rfl (by omega) (by omega) (by omega) hcap (by omega) (fun a2 c2 h2 o2 hc2 => ?_)) | (refine J.o 5 ?_; refine J.t1 hΓ ?_)) | (first | (refine J.o 0 ?_; refine J.ev' hΓ ?_) | refine J.nil ?_ | (refine J.o 4 ?_; first | refine J.lR hΓ ?_) | (refine J.o 3 ?_; first | refine J.ev' hΓ ?_) | (refine J.o 5 ?_; first | refine J.t1 hΓ ?_) | (refine J.o 9 ?_; refine J.bl hΓ (fun _ => ?_)) | (refine J.o 10 ?_; refine J.ev' hΓ ?_) | (refine J.o 11 ?_; refine J.ev' hΓ ?_)))
    | (first | refine JC.seq ?_ | refine JC.region ?_ | refine JC.ret ?_ | refine thenK.nn ?_)
    | (fail)
    | fail
  all_goals first | (exfalso; omega) | skip
  rw [hl]
  all_goals exact ret1f rfl rfl rfl (fun w1 hw => ⟨_, _, rfl, hw.perm br1, _, _, _, rfl, o2, hc2⟩)
theorem eShrink : Entr Tryz.prog 74 := Entr.of Tryz.func74 rfl rfl
theorem eTextN : Entr Tryz.prog 32 := Entr.of Tryz.func32 rfl rfl
theorem shrink_any {a : Option Addr} {c : Nat} {ws : List Nat} {h : Heap} (ow : OwT encW 1 124 a c ws h) (hok : okW ws) (hl : ws.length ≤ 1000) (B : Nat) (hB : 0 < B) (hB2 : B < 4294967296) {w0 w : World} {R : Heap} {L : List Heap} (hw : H w0 R (h :: L) w) :
    Calls Tryz.prog 74 #[.slice a ws.length c, .int .u32 (B : Int)] w fun e w' => ∃ v L', e = .returned v ∧ H w0 R L' w' ∧ ∃ o h', v = .int .u32 ((valW ws % B : Nat) : Int) ∧ L' = h' :: L ∧ OwT encW 1 124 a c o h' ∧ okW o ∧ o.length = ws.length ∧ valW o = valW ws / B := by
  refine calls_in Tryz.func74 Tryz.ntmps74 rfl rfl (hw) ?_
  repeat' first
    | (refine J.isJ ?_; first | (fail) | (first | (refine J.o 0 ?_; refine J.ev' hΓ ?_) | refine J.nil ?_ | (refine J.o 4 ?_; first | refine J.lT default hΓ ?_) | (refine J.o 3 ?_; first | refine J.iJ hΓ ?_ | refine J.ev' hΓ ?_) | (refine J.o 1 ?_; first | refine J.sb ?_) | (refine J.o 5 ?_; first | refine J.tT _ default hΓ (fun _ _ => ?_)) | (refine J.o 10 ?_; refine J.ev' hΓ ?_) | (refine J.o 11 ?_; refine J.ev' hΓ ?_)))
    | (first | refine JC.seq ?_ | refine JC.region ?_ | refine JC.block ?_ | refine JC.ret ?_ | refine JC.exit ?_ | refine JC.skip ?_ | refine thenK.nn ?_ | refine thenK.x ?_ | refine blockK.nn ?_ | refine blockK.hit rfl ?_ | refine JC.condT rfl ?_ | refine JC.condF rfl ?_ | refine loopK.x ?_)
    | (fail)
    | fail
  all_goals first | (exfalso; omega) | skip
  refine JC.loop (fun i => i == 5 || i == 6 || Nat.ble 10 i) (fun m g L' => ∃ o r h', g 6 = .int .i64 ((m : Int) - 1) ∧ g 5 = .int .u64 ((r : Nat) : Int) ∧ m ≤ ws.length ∧ ShrI ws B m o r ∧ OwT encW 1 124 a c o h' ∧ L' = h' :: L) ws.length ⟨ws, 0, h, rfl, rfl, Nat.le_refl _, ShrI.start hB hok, ow, rfl⟩ ?_
  rintro m g L' ⟨o, r, h4, e6, e5, hm, si, o4, rfl⟩
  have lo := si.len
  rcases Nat.eq_zero_or_pos m with h0 | hpos
  · subst h0
    refine JC.pin 6 e6 ?_
    refine JC.pin 5 e5 ?_
    obtain ⟨hv1, hv2⟩ := si.fin hB
    have hr1 := si.r1
    repeat' first
      | (refine J.isJ ?_; first | ((refine J.o 2 ?_; refine J.gcv hΓ ?_ (hk := wU32 (by omega)))) | (first | (refine J.o 0 ?_; refine J.ev' hΓ ?_) | refine J.nil ?_ | (refine J.o 4 ?_; first | refine J.lT default hΓ ?_) | (refine J.o 3 ?_; first | refine J.iJ hΓ ?_ | refine J.ev' hΓ ?_) | (refine J.o 1 ?_; first | refine J.sb ?_) | (refine J.o 5 ?_; first | refine J.tT _ default hΓ (fun _ _ => ?_)) | (refine J.o 10 ?_; refine J.ev' hΓ ?_) | (refine J.o 11 ?_; refine J.ev' hΓ ?_)))
      | (first | refine JC.seq ?_ | refine JC.region ?_ | refine JC.block ?_ | refine JC.ret ?_ | refine JC.exit ?_ | refine JC.skip ?_ | refine thenK.nn ?_ | refine thenK.x ?_ | refine blockK.nn ?_ | refine blockK.hit rfl ?_ | refine JC.condT rfl ?_ | refine JC.condF rfl ?_ | refine loopK.x ?_)
      | (fail)
      | fail
    all_goals first | (exfalso; omega) | skip
    refine ret1f rfl rfl rfl (fun w1 hw => ⟨_, _, rfl, hw, o, h4, ?_, rfl, o4, si.ok, si.len, hv1⟩)
    rw [hv2]
  · obtain ⟨i, rfl⟩ : ∃ i, m = i + 1 := ⟨m - 1, by omega⟩
    have e6' : g 6 = .int .i64 ((i : Nat) : Int) := by rw [e6]; congr 1; omega
    refine JC.pin 6 e6' ?_
    refine JC.pin 5 e5 ?_
    have hr1 := si.r1
    have b1 : o.getD i 0 < 4294967296 := okW_get si.ok i
    have hr2 : r ≤ 4294967294 := by omega
    have hr3 : r * 4294967296 ≤ 4294967294 * 4294967296 := Nat.mul_le_mul_right _ hr2
    have ha1 : r * 2 ^ 32 < 18446744073709551616 := Nat.lt_of_le_of_lt hr3 (by decide)
    have ha2 : o.getD i 0 < 18446744073709551616 := Nat.lt_trans b1 (by decide)
    have hs : r * W32 + o.getD i 0 < 18446744073709551616 := Nat.lt_of_lt_of_le (Nat.add_lt_add_of_le_of_lt hr3 b1) (by decide)
    obtain ⟨hst, hq⟩ := si.step hB hok (show i < ws.length by omega)
    have hq : (r * 4294967296 + o.getD i 0) / B < 4294967296 := hq
    have hor : r * 2 ^ 32 ||| o.getD i 0 = r * W32 + o.getD i 0 := by
      rw [Nat.mul_comm r (2 ^ 32), ← Nat.two_pow_add_eq_or_of_lt b1]
    have hrem : (r * W32 + o.getD i 0) % B < B := Nat.mod_lt _ hB
    have hil : i < o.length := by omega
    repeat' first
      | (refine J.isJ ?_; first | (first | (refine J.o 4 ?_; refine J.lT (0 : Nat) hΓ ?_ (hs := o4.sl) (hr := RdH.hd)) | (refine J.o 1 ?_; first | refine J.gshl (j := 32) ?_ (hw := wU64 ha1) | refine J.gorW hor ?_ ha1 ha2 | refine J.gquo (b := B) ?_ (hw := wU64 (Nat.lt_of_le_of_lt (Nat.div_le_self _ _) hs)) | refine J.grem (b := B) ?_) | (refine J.o 2 ?_; first | refine J.gcv hΓ ?_ (hk := wU64 (by omega)) | refine J.gcv hΓ ?_ (hk := wU32 hq)) | (refine J.o 5 ?_; refine J.tT (enc := encW) _ default hΓ (fun h5 o5 => ?_))) | (first | (refine J.o 0 ?_; refine J.ev' hΓ ?_) | refine J.nil ?_ | (refine J.o 4 ?_; first | refine J.lT default hΓ ?_) | (refine J.o 3 ?_; first | refine J.iJ hΓ ?_ | refine J.ev' hΓ ?_) | (refine J.o 1 ?_; first | refine J.sb ?_) | (refine J.o 5 ?_; first | refine J.tT _ default hΓ (fun _ _ => ?_)) | (refine J.o 10 ?_; refine J.ev' hΓ ?_) | (refine J.o 11 ?_; refine J.ev' hΓ ?_)))
      | (first | refine JC.seq ?_ | refine JC.region ?_ | refine JC.block ?_ | refine JC.ret ?_ | refine JC.exit ?_ | refine JC.skip ?_ | refine thenK.nn ?_ | refine thenK.x ?_ | refine blockK.nn ?_ | refine blockK.hit rfl ?_ | refine JC.condT rfl ?_ | refine JC.condF rfl ?_ | refine loopK.x ?_)
      | (fail)
      | fail
    all_goals first | (exfalso; omega) | skip
    refine loopK.nn i (by omega) (by repeat (first | refine Ag.upd rfl ?_ | exact Ag.hv)) ⟨_, _, h5, rfl, rfl, by omega, hst, o5, rfl⟩
theorem words_one {v : Nat} (h0 : 0 < v) (hv : v < 4294967296) : wordsB (bytesN v) = [v] := by
  have h1 := valW_wordsB (bytesN v)
  rw [valB_bytesN] at h1
  have h2 := wordsB_len (bytesN v)
  have h3 : (bytesN v).length ≤ 4 := bytesN_len (k := 4) (by show v < 4294967296; exact hv)
  match hw : wordsB (bytesN v) with
  | [] => rw [hw] at h1; simp only [valW] at h1; omega
  | [x] => rw [hw] at h1; simp only [valW] at h1; rw [show x = v by omega]
  | x :: y :: l => rw [hw] at h2; simp only [List.length_cons] at h2; omega
theorem one_zero {o : List Nat} (hl : o.length = 1) (hv : valW o = 0) : o = [0] := by
  match o, hl with
  | [x], _ => simp only [valW] at hv; rw [show x = 0 by omega]
theorem decN_len : ∀ (k v : Nat), v < 10 ^ k → (decN v).length ≤ k
  | 0, v, h => by rw [show v = 0 by simpa using h]; simp [decN_0]
  | k + 1, v, h => by
    rcases Nat.eq_zero_or_pos v with h0 | h0
    · rw [h0]; simp [decN_0]
    · rw [decN_pos h0, List.length_cons]
      have := decN_len k (v / 10) (by rw [Nat.pow_succ] at h; omega)
      omega
def digN (p : Nat) : UInt8 := UInt8.ofNat (48 + p % 10)
theorem dec_u8 (p : Nat) : IntKind.u8.wrap ((48 + p % 10 : Nat) : Int) = ((UInt8.ofNat (48 + p % 10)).toNat : Int) := wB _
theorem text_any (v : Nat) (h0 : 0 < v) (hv : v < 1000000000) (w : World) : Calls Tryz.prog 32 #[natV v] w fun e w' => e = .returned (.string (S (decN v).reverse)) ∧ Below w.heap.size w w' := by
  have hbl : (bytesN v).length ≤ 4 := bytesN_len (k := 4) (by show v < 4294967296; omega)
  have cX := fun w => words_any v (by omega) w
  rw [words_one h0 (by omega)] at cX
  have dl := decN_len 9 v (by show v < 1000000000; exact hv)
  have hok : okW [v] := fun x hx => by rw [List.mem_singleton.1 hx]; show v < 4294967296; omega
  have vm : valW [v] % 1000000000 = v := by simp only [valW]; omega
  have vd : valW [v] / 1000000000 = 0 := by simp only [valW]; omega
  refine calls_of_JC (R := []) Tryz.func32 Tryz.ntmps32 rfl rfl (Holds.nil _) ?_
  unfold natV
  repeat' first
    | (refine J.isJ ?_; first | (first | (refine J.o 6 ?_; refine J.bx (fun b1 => ?_)) | (refine J.fc 73 ?_; refine J.call1 eWords rfl rfl (fun w hw => cX w) ?_; rintro _ hgx ⟨ax, cx, rfl, ox⟩)) | (first | (refine J.o 0 ?_; refine J.ev' hΓ ?_) | refine J.nil ?_ | refine J.kd ?_ | (refine J.o 4 ?_; first | refine J.lT default hΓ ?_ | refine J.lR hΓ ?_) | (refine J.o 3 ?_; first | refine J.iJ hΓ ?_ | refine J.ev' hΓ ?_) | (refine J.o 1 ?_; first | refine J.ad ?_ | refine J.sb ?_) | (refine J.o 6 ?_; refine J.bx (fun _ => ?_)) | (refine J.o 7 ?_; refine J.al hΓ (fun _ => ?_)) | (refine J.o 9 ?_; refine J.bl hΓ (fun _ => ?_)) | (refine J.o 10 ?_; refine J.ev' hΓ ?_) | (refine J.o 11 ?_; refine J.ev' hΓ ?_)) | ((fail_if_success refine J.wt ?_); refine J.gc rfl rfl (fun hc => ?_) (fun hc => ?_) <;> ((try simp only [tcS] at hc) <;> first | (first | (exact absurd rfl hc) | (exfalso; omega) | (exact (tF hc (by assumption)).elim) | (exact (fT hc (by assumption)).elim)) | skip)))
    | (first | refine JC.seq ?_ | refine JC.region ?_ | refine JC.block ?_ | refine JC.ret ?_ | refine JC.exit ?_ | refine JC.skip ?_ | refine thenK.nn ?_ | refine thenK.x ?_ | refine blockK.nn ?_ | refine blockK.hit rfl ?_ | refine JC.condT rfl ?_ | refine JC.condF rfl ?_ | (refine JC.cond rfl (fun hc => ?_) (fun hc => ?_) <;> ((try simp only [tcS] at hc) <;> first | (first | (exact absurd rfl hc) | (exfalso; omega) | (exact (tF hc (by assumption)).elim) | (exact (fT hc (by assumption)).elim)) | skip)) | refine loopK.x ?_)
    | (fail)
    | fail
  refine JC.weak (L' := [hgx, [], [(b1, Obj.cells ⟨[.string (S (bytesN v))]⟩ 59 (0, 0))]]) (fun w hw => hw.nilF.perm br1) ?_
  refine JC.loop (fun i => (Nat.ble 3 i && Nat.ble i 6) || Nat.ble 11 i) (fun m g L' => ∃ ws a c h bs ao co ho, g 3 = .slice a (List.length (α := Nat) ws) c ∧ g 4 = .slice ao (List.length (α := UInt8) bs) co ∧ OwT encW 1 124 a c ws h ∧ OwT encB 1 5 ao co bs ho ∧ ((ws = [v] ∧ bs = [] ∧ m = 1) ∨ (ws = [] ∧ bs = decN v ∧ m = 0)) ∧ L' = [h, ho, [(b1, Obj.cells ⟨[.string (S (bytesN v))]⟩ 59 (0, 0))]]) 1 ⟨[v], ax, cx, hgx, [], none, 0, [], rfl, rfl, ox, OwT.nil (fun _ => rfl), .inl ⟨rfl, rfl, rfl⟩, rfl⟩ ?_
  rintro m g L' ⟨ws, a, c, h, bs, ao, co, ho, e3, e4, ow, ob, hcase, rfl⟩
  refine JC.pin 3 e3 ?_
  refine JC.pin 4 e4 ?_
  rcases hcase with ⟨rfl, rfl, rfl⟩ | ⟨rfl, rfl, rfl⟩
  ·
    repeat' first
      | (refine J.isJ ?_; first | ((refine J.fc 74 ?_; refine J.callx eShrink rfl rfl (fun w hw => shrink_any ow hok (by show 1 ≤ 1000; omega) 1000000000 (by omega) (by omega) hw) ?_; rintro _ _ ⟨o, h5, rfl, rfl, o5, ok5, ol5, ov5⟩; rw [vm])) | (first | (refine J.o 0 ?_; refine J.ev' hΓ ?_) | refine J.nil ?_ | refine J.kd ?_ | (refine J.o 4 ?_; first | refine J.lT default hΓ ?_ | refine J.lR hΓ ?_) | (refine J.o 3 ?_; first | refine J.iJ hΓ ?_ | refine J.ev' hΓ ?_) | (refine J.o 1 ?_; first | refine J.ad ?_ | refine J.sb ?_) | (refine J.o 6 ?_; refine J.bx (fun _ => ?_)) | (refine J.o 7 ?_; refine J.al hΓ (fun _ => ?_)) | (refine J.o 9 ?_; refine J.bl hΓ (fun _ => ?_)) | (refine J.o 10 ?_; refine J.ev' hΓ ?_) | (refine J.o 11 ?_; refine J.ev' hΓ ?_)) | ((fail_if_success refine J.wt ?_); refine J.gc rfl rfl (fun hc => ?_) (fun hc => ?_) <;> ((try simp only [tcS] at hc) <;> first | (first | (exact absurd rfl hc) | (exfalso; omega) | (exact (tF hc (by assumption)).elim) | (exact (fT hc (by assumption)).elim)) | skip)))
      | (first | refine JC.seq ?_ | refine JC.region ?_ | refine JC.block ?_ | refine JC.ret ?_ | refine JC.exit ?_ | refine JC.skip ?_ | refine thenK.nn ?_ | refine thenK.x ?_ | refine blockK.nn ?_ | refine blockK.hit rfl ?_ | refine JC.condT rfl ?_ | refine JC.condF rfl ?_ | (refine JC.cond rfl (fun hc => ?_) (fun hc => ?_) <;> ((try simp only [tcS] at hc) <;> first | (first | (exact absurd rfl hc) | (exfalso; omega) | (exact (tF hc (by assumption)).elim) | (exact (fT hc (by assumption)).elim)) | skip)) | refine loopK.x ?_)
      | (fail)
      | fail
    all_goals first | (exfalso; omega) | skip
    obtain rfl := one_zero ol5 (ov5.trans vd)
    have o0 : OwT encW 1 124 a c [] h5 := OwT.take o5 0
    refine JC.loop (fun i => i == 3 || Nat.ble 16 i) (fun m g L' => ((m = 1 ∧ g 3 = .slice a 1 c) ∨ (m = 0 ∧ g 3 = .slice a 0 c)) ∧ L' = [h5, ho, [(b1, Obj.cells ⟨[.string (S (bytesN v))]⟩ 59 (0, 0))]]) 1 ⟨.inl ⟨rfl, rfl⟩, rfl⟩ ?_
    rintro m2 g2 L' ⟨hcase, rfl⟩
    rcases hcase with ⟨rfl, e3b⟩ | ⟨rfl, e3b⟩
    · refine JC.pin 3 e3b ?_
      repeat' first
        | (refine J.isJ ?_; first | (first | (refine J.o 3 ?_; refine J.iJ hΓ ?_ (hs := o5.sl)) | (refine J.o 4 ?_; refine J.lT (0 : Nat) hΓ ?_ (hs := o5.sl) (hr := RdH.hd)) | (refine J.o 13 ?_; refine J.slF (m := 0) hΓ ?_)) | (first | (refine J.o 0 ?_; refine J.ev' hΓ ?_) | refine J.nil ?_ | refine J.kd ?_ | (refine J.o 4 ?_; first | refine J.lT default hΓ ?_ | refine J.lR hΓ ?_) | (refine J.o 3 ?_; first | refine J.iJ hΓ ?_ | refine J.ev' hΓ ?_) | (refine J.o 1 ?_; first | refine J.ad ?_ | refine J.sb ?_) | (refine J.o 6 ?_; refine J.bx (fun _ => ?_)) | (refine J.o 7 ?_; refine J.al hΓ (fun _ => ?_)) | (refine J.o 9 ?_; refine J.bl hΓ (fun _ => ?_)) | (refine J.o 10 ?_; refine J.ev' hΓ ?_) | (refine J.o 11 ?_; refine J.ev' hΓ ?_)) | ((fail_if_success refine J.wt ?_); refine J.gc rfl rfl (fun hc => ?_) (fun hc => ?_) <;> ((try simp only [tcS] at hc) <;> first | (first | (exact absurd rfl hc) | (exfalso; omega) | (exact (tF hc (by assumption)).elim) | (exact (fT hc (by assumption)).elim)) | skip)))
        | (first | refine JC.seq ?_ | refine JC.region ?_ | refine JC.block ?_ | refine JC.ret ?_ | refine JC.exit ?_ | refine JC.skip ?_ | refine thenK.nn ?_ | refine thenK.x ?_ | refine blockK.nn ?_ | refine blockK.hit rfl ?_ | refine JC.condT rfl ?_ | refine JC.condF rfl ?_ | (refine JC.cond rfl (fun hc => ?_) (fun hc => ?_) <;> ((try simp only [tcS] at hc) <;> first | (first | (exact absurd rfl hc) | (exfalso; omega) | (exact (tF hc (by assumption)).elim) | (exact (fT hc (by assumption)).elim)) | skip)) | refine loopK.x ?_)
        | (fail)
        | fail
      all_goals first | (exfalso; omega) | skip
      all_goals first | (exact absurd rfl hc) | skip
      refine loopK.nn 0 (by omega) (by repeat (first | refine Ag.upd rfl ?_ | exact Ag.hv)) ⟨.inr ⟨rfl, rfl⟩, rfl⟩
    refine JC.pin 3 e3b ?_
    repeat' first
      | (refine J.isJ ?_; first | (fail) | (first | (refine J.o 0 ?_; refine J.ev' hΓ ?_) | refine J.nil ?_ | refine J.kd ?_ | (refine J.o 4 ?_; first | refine J.lT default hΓ ?_ | refine J.lR hΓ ?_) | (refine J.o 3 ?_; first | refine J.iJ hΓ ?_ | refine J.ev' hΓ ?_) | (refine J.o 1 ?_; first | refine J.ad ?_ | refine J.sb ?_) | (refine J.o 6 ?_; refine J.bx (fun _ => ?_)) | (refine J.o 7 ?_; refine J.al hΓ (fun _ => ?_)) | (refine J.o 9 ?_; refine J.bl hΓ (fun _ => ?_)) | (refine J.o 10 ?_; refine J.ev' hΓ ?_) | (refine J.o 11 ?_; refine J.ev' hΓ ?_)) | ((fail_if_success refine J.wt ?_); refine J.gc rfl rfl (fun hc => ?_) (fun hc => ?_) <;> ((try simp only [tcS] at hc) <;> first | (first | (exact absurd rfl hc) | (exfalso; omega) | (exact (tF hc (by assumption)).elim) | (exact (fT hc (by assumption)).elim)) | skip)))
      | (first | refine JC.seq ?_ | refine JC.region ?_ | refine JC.block ?_ | refine JC.ret ?_ | refine JC.exit ?_ | refine JC.skip ?_ | refine thenK.nn ?_ | refine thenK.x ?_ | refine blockK.nn ?_ | refine blockK.hit rfl ?_ | refine JC.condT rfl ?_ | refine JC.condF rfl ?_ | (refine JC.cond rfl (fun hc => ?_) (fun hc => ?_) <;> ((try simp only [tcS] at hc) <;> first | (first | (exact absurd rfl hc) | (exfalso; omega) | (exact (tF hc (by assumption)).elim) | (exact (fT hc (by assumption)).elim)) | skip)) | refine loopK.x ?_)
      | (fail)
      | fail
    all_goals first | (exfalso; omega) | skip
    refine JC.loop (fun i => (Nat.ble 4 i && Nat.ble i 6) || Nat.ble 33 i) (fun m g L' => ∃ k p bs ao co ho, g 6 = .int .i64 ((k : Nat) : Int) ∧ g 5 = .int .u32 ((p : Nat) : Int) ∧ g 4 = .slice ao (List.length (α := UInt8) bs) co ∧ OwT encB 1 5 ao co bs ho ∧ decN v = bs ++ decN p ∧ p < 10 ^ (9 - k) ∧ k ≤ 9 ∧ m = p ∧ bs.length ≤ 9 ∧ L' = [h5, ho, [(b1, Obj.cells ⟨[.string (S (bytesN v))]⟩ 59 (0, 0))]]) v ⟨0, v, [], ao, co, ho, rfl, rfl, rfl, ob, rfl, by show v < 1000000000; exact hv, by omega, rfl, by show 0 ≤ 9; omega, rfl⟩ ?_
    rintro m3 g3 L' ⟨k, p, bs, ao2, co2, ho2, e6, e5, e4b, ob2, hdec, hp, hk, rfl, hbl9, rfl⟩
    refine JC.pin 6 e6 ?_
    refine JC.pin 5 e5 ?_
    refine JC.pin 4 e4b ?_
    rcases Nat.eq_zero_or_pos m3 with hz | hpos
    · subst hz
      rw [decN_0, List.append_nil] at hdec
      subst hdec
      repeat' first
        | (refine J.isJ ?_; first | (fail) | (first | (refine J.o 0 ?_; refine J.ev' hΓ ?_) | refine J.nil ?_ | refine J.kd ?_ | (refine J.o 4 ?_; first | refine J.lT default hΓ ?_ | refine J.lR hΓ ?_) | (refine J.o 3 ?_; first | refine J.iJ hΓ ?_ | refine J.ev' hΓ ?_) | (refine J.o 1 ?_; first | refine J.ad ?_ | refine J.sb ?_) | (refine J.o 6 ?_; refine J.bx (fun _ => ?_)) | (refine J.o 7 ?_; refine J.al hΓ (fun _ => ?_)) | (refine J.o 9 ?_; refine J.bl hΓ (fun _ => ?_)) | (refine J.o 10 ?_; refine J.ev' hΓ ?_) | (refine J.o 11 ?_; refine J.ev' hΓ ?_)) | ((fail_if_success refine J.wt ?_); refine J.gc rfl rfl (fun hc => ?_) (fun hc => ?_) <;> ((try simp only [tcS] at hc) <;> first | (first | (exact absurd rfl hc) | (exfalso; omega) | (exact (tF hc (by assumption)).elim) | (exact (fT hc (by assumption)).elim)) | skip)))
        | (first | refine JC.seq ?_ | refine JC.region ?_ | refine JC.block ?_ | refine JC.ret ?_ | refine JC.exit ?_ | refine JC.skip ?_ | refine thenK.nn ?_ | refine thenK.x ?_ | refine blockK.nn ?_ | refine blockK.hit rfl ?_ | refine JC.condT rfl ?_ | refine JC.condF rfl ?_ | (refine JC.cond rfl (fun hc => ?_) (fun hc => ?_) <;> ((try simp only [tcS] at hc) <;> first | (first | (exact absurd rfl hc) | (exfalso; omega) | (exact (tF hc (by assumption)).elim) | (exact (fT hc (by assumption)).elim)) | skip)) | refine loopK.x ?_)
        | (fail)
        | fail
      all_goals first | (exfalso; omega) | skip
      all_goals (refine loopK.nn 0 (by omega) (by repeat (first | refine Ag.upd rfl ?_ | exact Ag.hv | refine Ag.hv2 (fun i hi => by simp at hi ⊢; omega) ?_)) ⟨[], a, c, h5, _, ao2, co2, ho2, rfl, rfl, o0, ob2, .inr ⟨rfl, rfl, rfl⟩, rfl⟩)
    · have hk9 : k < 9 := by
        rcases Nat.lt_or_ge k 9 with h | h
        · exact h
        · rw [show 9 - k = 0 by omega] at hp; omega
      have hst := decN_pos hpos
      have hp2 : m3 < 10 ^ (9 - (k + 1)) * 10 := by rw [← Nat.pow_succ, show (9 - (k + 1)).succ = 9 - k by omega]; exact hp
      have hln : (bs ++ [UInt8.ofNat (48 + m3 % 10)]).length = bs.length + 1 := by simp
      have hdl : bs.length + (decN m3).length = (decN v).length := by rw [hdec, List.length_append]
      rw [hst, List.length_cons] at hdl
      have hmb : m3 < 4294967296 := by
        have : 10 ^ (9 - k) ≤ 10 ^ 9 := Nat.pow_le_pow_right (by omega) (by omega)
        omega
      repeat' first
        | (refine J.isJ ?_; first | (first | (refine J.o 1 ?_; first | refine J.grem (b := 10) ?_ | refine J.gadd (a := 48) ?_ (hw := wU32 (by omega)) | refine J.gquo (b := 10) ?_ (hw := wU32 (by omega))) | (refine J.o 2 ?_; refine J.gcv hΓ ?_ (hk := dec_u8 m3)) | ((refine J.o 9 ?_; first | (first | (refine J.ap1 (enc := encB) [digN m3] hΓ (fun a6 c6 h6 o6 => ?_)) | (refine J.perm (br1.cons _) ?_; refine J.ap1 (enc := encB) [digN m3] hΓ (fun a6 c6 h6 o6 => ?_)) | (refine J.perm (br2.cons _) ?_; refine J.ap1 (enc := encB) [digN m3] hΓ (fun a6 c6 h6 o6 => ?_)) | (refine J.perm (br3.cons _) ?_; refine J.ap1 (enc := encB) [digN m3] hΓ (fun a6 c6 h6 o6 => ?_)) | (refine J.perm (br4.cons _) ?_; refine J.ap1 (enc := encB) [digN m3] hΓ (fun a6 c6 h6 o6 => ?_)) | (refine J.perm (br5.cons _) ?_; refine J.ap1 (enc := encB) [digN m3] hΓ (fun a6 c6 h6 o6 => ?_))) | (refine J.perm br1 ?_; first | (refine J.ap1 (enc := encB) [digN m3] hΓ (fun a6 c6 h6 o6 => ?_)) | (refine J.perm (br1.cons _) ?_; refine J.ap1 (enc := encB) [digN m3] hΓ (fun a6 c6 h6 o6 => ?_)) | (refine J.perm (br2.cons _) ?_; refine J.ap1 (enc := encB) [digN m3] hΓ (fun a6 c6 h6 o6 => ?_)) | (refine J.perm (br3.cons _) ?_; refine J.ap1 (enc := encB) [digN m3] hΓ (fun a6 c6 h6 o6 => ?_)) | (refine J.perm (br4.cons _) ?_; refine J.ap1 (enc := encB) [digN m3] hΓ (fun a6 c6 h6 o6 => ?_)) | (refine J.perm (br5.cons _) ?_; refine J.ap1 (enc := encB) [digN m3] hΓ (fun a6 c6 h6 o6 => ?_))) | (refine J.perm br2 ?_; first | (refine J.ap1 (enc := encB) [digN m3] hΓ (fun a6 c6 h6 o6 => ?_)) | (refine J.perm (br1.cons _) ?_; refine J.ap1 (enc := encB) [digN m3] hΓ (fun a6 c6 h6 o6 => ?_)) | (refine J.perm (br2.cons _) ?_; refine J.ap1 (enc := encB) [digN m3] hΓ (fun a6 c6 h6 o6 => ?_)) | (refine J.perm (br3.cons _) ?_; refine J.ap1 (enc := encB) [digN m3] hΓ (fun a6 c6 h6 o6 => ?_)) | (refine J.perm (br4.cons _) ?_; refine J.ap1 (enc := encB) [digN m3] hΓ (fun a6 c6 h6 o6 => ?_)) | (refine J.perm (br5.cons _) ?_; refine J.ap1 (enc := encB) [digN m3] hΓ (fun a6 c6 h6 o6 => ?_)))))) | (first | (refine J.o 0 ?_; refine J.ev' hΓ ?_) | refine J.nil ?_ | refine J.kd ?_ | (refine J.o 4 ?_; first | refine J.lT default hΓ ?_ | refine J.lR hΓ ?_) | (refine J.o 3 ?_; first | refine J.iJ hΓ ?_ | refine J.ev' hΓ ?_) | (refine J.o 1 ?_; first | refine J.ad ?_ | refine J.sb ?_) | (refine J.o 6 ?_; refine J.bx (fun _ => ?_)) | (refine J.o 7 ?_; refine J.al hΓ (fun _ => ?_)) | (refine J.o 9 ?_; refine J.bl hΓ (fun _ => ?_)) | (refine J.o 10 ?_; refine J.ev' hΓ ?_) | (refine J.o 11 ?_; refine J.ev' hΓ ?_)) | ((fail_if_success refine J.wt ?_); refine J.gc rfl rfl (fun hc => ?_) (fun hc => ?_) <;> ((try simp only [tcS] at hc) <;> first | (first | (exact absurd rfl hc) | (exfalso; omega) | (exact (tF hc (by assumption)).elim) | (exact (fT hc (by assumption)).elim)) | skip)))
        | (first | refine JC.seq ?_ | refine JC.region ?_ | refine JC.block ?_ | refine JC.ret ?_ | refine JC.exit ?_ | refine JC.skip ?_ | refine thenK.nn ?_ | refine thenK.x ?_ | refine blockK.nn ?_ | refine blockK.hit rfl ?_ | refine JC.condT rfl ?_ | refine JC.condF rfl ?_ | (refine JC.cond rfl (fun hc => ?_) (fun hc => ?_) <;> ((try simp only [tcS] at hc) <;> first | (first | (exact absurd rfl hc) | (exfalso; omega) | (exact (tF hc (by assumption)).elim) | (exact (fT hc (by assumption)).elim)) | skip)) | refine loopK.x ?_)
        | (fail)
        | fail
      all_goals first | (exfalso; omega) | skip
      have hln2 : (bs ++ [digN m3]).length = bs.length + 1 := hln
      all_goals (refine loopK.np (m3 / 10) [] _ (by omega) (by repeat (first | refine Ag.upd rfl ?_ | exact Ag.hv)) br1 ⟨k + 1, m3 / 10, bs ++ [digN m3], a6, c6, h6, ?_, rfl, rfl, o6, ?_, by omega, by omega, rfl, by omega, rfl⟩)
      · show Value.int .i64 _ = _; congr 1
      · rw [hdec, hst, List.append_assoc]; rfl
  ·
    have hpos : 0 < (decN v).length := by rw [decN_pos h0, List.length_cons]; omega
    repeat' first
      | (refine J.isJ ?_; first | ((refine J.o 7 ?_; refine J.al hΓ (fun b7 => ?_))) | (first | (refine J.o 0 ?_; refine J.ev' hΓ ?_) | refine J.nil ?_ | refine J.kd ?_ | (refine J.o 4 ?_; first | refine J.lT default hΓ ?_ | refine J.lR hΓ ?_) | (refine J.o 3 ?_; first | refine J.iJ hΓ ?_ | refine J.ev' hΓ ?_) | (refine J.o 1 ?_; first | refine J.ad ?_ | refine J.sb ?_) | (refine J.o 6 ?_; refine J.bx (fun _ => ?_)) | (refine J.o 7 ?_; refine J.al hΓ (fun _ => ?_)) | (refine J.o 9 ?_; refine J.bl hΓ (fun _ => ?_)) | (refine J.o 10 ?_; refine J.ev' hΓ ?_) | (refine J.o 11 ?_; refine J.ev' hΓ ?_)) | ((fail_if_success refine J.wt ?_); refine J.gc rfl rfl (fun hc => ?_) (fun hc => ?_) <;> ((try simp only [tcS] at hc) <;> first | (first | (exact absurd rfl hc) | (exfalso; omega) | (exact (tF hc (by assumption)).elim) | (exact (fT hc (by assumption)).elim)) | skip)))
      | (first | refine JC.seq ?_ | refine JC.region ?_ | refine JC.block ?_ | refine JC.ret ?_ | refine JC.exit ?_ | refine JC.skip ?_ | refine thenK.nn ?_ | refine thenK.x ?_ | refine blockK.nn ?_ | refine blockK.hit rfl ?_ | refine JC.condT rfl ?_ | refine JC.condF rfl ?_ | (refine JC.cond rfl (fun hc => ?_) (fun hc => ?_) <;> ((try simp only [tcS] at hc) <;> first | (first | (exact absurd rfl hc) | (exfalso; omega) | (exact (tF hc (by assumption)).elim) | (exact (fT hc (by assumption)).elim)) | skip)) | refine loopK.x ?_)
      | (fail)
      | fail
    all_goals first | (exfalso; omega) | skip
    refine JC.weak (L' := [[(b7, bldO none (.slice none ([] : List UInt8).length 0))], [], h, ho, [(b1, Obj.cells ⟨[.string (S (bytesN v))]⟩ 59 (0, 0))]]) (fun w hw => hw.nilF.perm br1) ?_
    refine JC.loop (fun i => i == 8 || Nat.ble 58 i) (fun m g L' => ∃ p a' c' hb, g 8 = .int .i64 ((m : Int) - 1) ∧ m ≤ (decN v).length ∧ (p = none ∨ p = some ⟨b7, 0, none⟩) ∧ OwT encB 1 5 a' c' (((decN v).drop m).reverse) hb ∧ c' ≤ maxLen ∧ L' = [[(b7, bldO p (.slice a' (((decN v).drop m).reverse).length c'))], hb, h, ho, [(b1, Obj.cells ⟨[.string (S (bytesN v))]⟩ 59 (0, 0))]]) (decN v).length ⟨none, none, 0, [], rfl, Nat.le_refl _, .inl rfl, by rw [List.drop_of_length_le (Nat.le_refl _)]; exact OwT.nil (fun _ => rfl), Nat.zero_le _, by rw [List.drop_of_length_le (Nat.le_refl _)]; rfl⟩ ?_
    rintro m g9 L' ⟨p, a7, c7, hb, e8, hm, hp, obb, hc7, rfl⟩
    rcases Nat.eq_zero_or_pos m with hz | hpm
    · subst hz
      refine JC.pin 8 e8 ?_
      rw [List.drop_zero] at obb ⊢
      repeat' first
        | (refine J.isJ ?_; first | ((refine J.fc 76 ?_; refine J.callx eBStr rfl rfl (fun w hw => bStr_any hp obb hc7 hw) ?_; rintro _ _ ⟨rfl, rfl⟩)) | (first | (refine J.o 0 ?_; refine J.ev' hΓ ?_) | refine J.nil ?_ | refine J.kd ?_ | (refine J.o 4 ?_; first | refine J.lT default hΓ ?_ | refine J.lR hΓ ?_) | (refine J.o 3 ?_; first | refine J.iJ hΓ ?_ | refine J.ev' hΓ ?_) | (refine J.o 1 ?_; first | refine J.ad ?_ | refine J.sb ?_) | (refine J.o 6 ?_; refine J.bx (fun _ => ?_)) | (refine J.o 7 ?_; refine J.al hΓ (fun _ => ?_)) | (refine J.o 9 ?_; refine J.bl hΓ (fun _ => ?_)) | (refine J.o 10 ?_; refine J.ev' hΓ ?_) | (refine J.o 11 ?_; refine J.ev' hΓ ?_)) | ((fail_if_success refine J.wt ?_); refine J.gc rfl rfl (fun hc => ?_) (fun hc => ?_) <;> ((try simp only [tcS] at hc) <;> first | (first | (exact absurd rfl hc) | (exfalso; omega) | (exact (tF hc (by assumption)).elim) | (exact (fT hc (by assumption)).elim)) | skip)))
        | (first | refine JC.seq ?_ | refine JC.region ?_ | refine JC.block ?_ | refine JC.ret ?_ | refine JC.exit ?_ | refine JC.skip ?_ | refine thenK.nn ?_ | refine thenK.x ?_ | refine blockK.nn ?_ | refine blockK.hit rfl ?_ | refine JC.condT rfl ?_ | refine JC.condF rfl ?_ | (refine JC.cond rfl (fun hc => ?_) (fun hc => ?_) <;> ((try simp only [tcS] at hc) <;> first | (first | (exact absurd rfl hc) | (exfalso; omega) | (exact (tF hc (by assumption)).elim) | (exact (fT hc (by assumption)).elim)) | skip)) | refine loopK.x ?_)
        | (fail)
        | fail
      all_goals first | (exfalso; omega) | skip
      all_goals (refine ret1f rfl rfl rfl (fun w1 hw => ⟨rfl, hw.below⟩))
    · obtain ⟨i, rfl⟩ : ∃ i, m = i + 1 := ⟨m - 1, by omega⟩
      have e8' : g9 8 = .int .i64 ((i : Nat) : Int) := by rw [e8]; congr 1; omega
      refine JC.pin 8 e8' ?_
      have hdr : (decN v).drop i = (decN v).getD i default :: (decN v).drop (i + 1) := by
        rw [List.drop_eq_getElem_cons (by omega), List.getD_eq_getElem?_getD, List.getElem?_eq_getElem (by omega)]; rfl
      have hrl : (((decN v).drop (i + 1)).reverse).length + 1 ≤ 140737488355328 := by rw [List.length_reverse, List.length_drop]; omega
      repeat' first
        | (refine J.isJ ?_; first | (first | (refine J.o 3 ?_; refine J.iJ hΓ ?_ (hs := ob.sl)) | (refine J.o 4 ?_; refine J.lT default hΓ ?_ (hs := ob.sl) (hr := RdH.hd.tl.tl.tl)) | (refine J.fc 75 ?_; refine J.callx eWBy rfl rfl (fun w hw => wBy_any ((decN v).getD i default) hp obb hc7 hrl hw) ?_; rintro _ _ ⟨a9, c9, h9, rfl, o9, hc9⟩)) | (first | (refine J.o 0 ?_; refine J.ev' hΓ ?_) | refine J.nil ?_ | refine J.kd ?_ | (refine J.o 4 ?_; first | refine J.lT default hΓ ?_ | refine J.lR hΓ ?_) | (refine J.o 3 ?_; first | refine J.iJ hΓ ?_ | refine J.ev' hΓ ?_) | (refine J.o 1 ?_; first | refine J.ad ?_ | refine J.sb ?_) | (refine J.o 6 ?_; refine J.bx (fun _ => ?_)) | (refine J.o 7 ?_; refine J.al hΓ (fun _ => ?_)) | (refine J.o 9 ?_; refine J.bl hΓ (fun _ => ?_)) | (refine J.o 10 ?_; refine J.ev' hΓ ?_) | (refine J.o 11 ?_; refine J.ev' hΓ ?_)) | ((fail_if_success refine J.wt ?_); refine J.gc rfl rfl (fun hc => ?_) (fun hc => ?_) <;> ((try simp only [tcS] at hc) <;> first | (first | (exact absurd rfl hc) | (exfalso; omega) | (exact (tF hc (by assumption)).elim) | (exact (fT hc (by assumption)).elim)) | skip)))
        | (first | refine JC.seq ?_ | refine JC.region ?_ | refine JC.block ?_ | refine JC.ret ?_ | refine JC.exit ?_ | refine JC.skip ?_ | refine thenK.nn ?_ | refine thenK.x ?_ | refine blockK.nn ?_ | refine blockK.hit rfl ?_ | refine JC.condT rfl ?_ | refine JC.condF rfl ?_ | (refine JC.cond rfl (fun hc => ?_) (fun hc => ?_) <;> ((try simp only [tcS] at hc) <;> first | (first | (exact absurd rfl hc) | (exfalso; omega) | (exact (tF hc (by assumption)).elim) | (exact (fT hc (by assumption)).elim)) | skip)) | refine loopK.x ?_)
        | (fail)
        | fail
      all_goals first | (exfalso; omega) | skip
      have hrv : ((decN v).drop (i + 1)).reverse ++ [(decN v).getD i default] = ((decN v).drop i).reverse := by rw [hdr, List.reverse_cons]
      rw [hrv] at o9 ⊢
      refine loopK.nn i (by omega) (by repeat (first | refine Ag.upd rfl ?_ | exact Ag.hv)) ⟨some ⟨b7, 0, none⟩, a9, c9, h9, rfl, by omega, .inr rfl, o9, hc9, rfl⟩
end Go.Proofs.YtdiciemlbhkilaaGreatDoor
namespace Go.Proofs.YtdiciemlbhkilaaGreatDoor
open Go Go.Cx Go.RowKit
set_option linter.unusedVariables false
set_option linter.unusedSimpArgs false
set_option maxHeartbeats 4000000
attribute [local irreducible] J JC thenK blockK loopK roundK drawK retK QW Qt pel List.set Calls
attribute [local irreducible] vt
set_option maxRecDepth 20000 in
theorem forest_nil (a : Option Addr) (cap : Nat) (l : List TV) (n : Int) (h : Heap) (hs : SlT encTV 1 a l h) (ht : ∀ t, t ∈ l → SlT encN 4 t.a t.ts h) (hl0 : l.length = 0) (he : firstE n l = 0) (w : World) (hw : Holds h w) :
    Calls Tryz.prog 20 #[.slice a l.length cap, .int .i64 n] w (Gives (fun v hc => ∃ (ac : Option Addr) (gs : List Gt) (cc : Nat), v = .tuple #[cv n ac gs.length cc, .int .i64 0] ∧ Cir n ac gs hc ∧ ∀ s, (vals s gs).getD (gs.length - 1) default = decide (l.length < 2 * vt s l)) w) := by
  obtain ⟨⟨n0, n1⟩, hch⟩ := firstE_zero he
  refine calls_of_JC (R := h) Tryz.func20 Tryz.ntmps20 rfl rfl (hw) ?_
  repeat' first
    | (refine J.isJ ?_; (first | (first | (refine J.o 0 ?_; refine J.ev' hΓ ?_) | refine J.nil ?_ | (refine J.o 4 ?_; first | refine J.e1 hΓ ?_ | refine J.lR hΓ ?_) | (refine J.o 3 ?_; first | refine J.ev' hΓ ?_) | (refine J.o 1 ?_; first | refine J.ad ?_ | refine J.qu ?_) | (refine J.o 5 ?_; first | refine J.t0 hΓ ?_) | (refine J.o 7 ?_; refine J.al hΓ (fun _ => ?_)) | (refine J.o 8 ?_; refine J.bd hΓ ?_) | (refine J.o 9 ?_; refine J.bl hΓ (fun _ => ?_)) | (refine J.o 10 ?_; first | refine J.ev' hΓ ?_) | (refine J.o 11 ?_; first | refine J.ev' hΓ ?_) | (refine J.o 14 ?_; refine J.mf hΓ ?_)) | ((fail_if_success refine J.wt ?_); refine J.gc rfl rfl (fun hc => ?_) (fun hc => ?_) <;> ((try simp only [tcS] at hc) <;> first | (first | (exact absurd rfl hc) | (exfalso; omega) | (exact (tF hc (by assumption)).elim) | (exact (fT hc (by assumption)).elim)) | skip))))
    | (first | refine JC.seq ?_ | refine JC.region ?_ | refine JC.block ?_ | refine JC.ret ?_ | refine JC.exit ?_ | refine JC.skip ?_ | refine thenK.nn ?_ | refine thenK.x ?_ | refine blockK.hit rfl ?_ | (refine JC.cond rfl (fun hc => ?_) (fun hc => ?_) <;> ((try simp only [tcS] at hc) <;> first | (first | (exact absurd rfl hc) | (exfalso; omega) | (exact (tF hc (by assumption)).elim) | (exact (fT hc (by assumption)).elim)) | skip)) | refine loopK.x ?_)
    | fail
  refine JC.loop (fun i => i == 7 || i == 8 || Nat.ble 21 i) (fun m g L' => ∃ (k : Nat), g 21 = .int .i64 (k : Int) ∧ k + m = l.length ∧ L' = _) l.length ⟨0, rfl, by omega, rfl⟩ ?_
  rintro m g L' ⟨k, e21, hkm, rfl⟩
  refine JC.pin 21 e21 ?_
  clear e21
  rcases Nat.lt_or_ge k l.length with hk | hk
  case inl => exact absurd hk (by omega)
  case inr =>
    repeat' first
      | (refine J.isJ ?_; first | (first | (refine J.o 0 ?_; refine J.ev' hΓ ?_) | refine J.nil ?_ | (refine J.o 4 ?_; first | refine J.e1 hΓ ?_ | refine J.lR hΓ ?_) | (refine J.o 3 ?_; first | refine J.ev' hΓ ?_) | (refine J.o 1 ?_; first | refine J.ad ?_ | refine J.qu ?_) | (refine J.o 5 ?_; first | refine J.t0 hΓ ?_) | (refine J.o 7 ?_; refine J.al hΓ (fun _ => ?_)) | (refine J.o 8 ?_; refine J.bd hΓ ?_) | (refine J.o 9 ?_; refine J.bl hΓ (fun _ => ?_)) | (refine J.o 10 ?_; first | refine J.ev' hΓ ?_) | (refine J.o 11 ?_; first | refine J.ev' hΓ ?_) | (refine J.o 14 ?_; refine J.mf hΓ ?_)) | (first | (refine J.al hΓ2 (fun _ => ?_)) | (refine J.t0 hΓ2 ?_)) | ((fail_if_success refine J.wt ?_); refine J.gc rfl rfl (fun hc => ?_) (fun hc => ?_) <;> ((try simp only [tcS] at hc) <;> first | (first | (exact absurd rfl hc) | (exfalso; omega) | (exact (tF hc (by assumption)).elim) | (exact (fT hc (by assumption)).elim)) | skip)))
      | (first | refine JC.seq ?_ | refine JC.region ?_ | refine JC.block ?_ | refine JC.ret ?_ | refine JC.exit ?_ | refine JC.skip ?_ | refine thenK.nn ?_ | refine thenK.x ?_ | refine blockK.hit rfl ?_ | (refine JC.cond rfl (fun hc => ?_) (fun hc => ?_) <;> ((try simp only [tcS] at hc) <;> first | (first | (exact absurd rfl hc) | (exfalso; omega) | (exact (tF hc (by assumption)).elim) | (exact (fT hc (by assumption)).elim)) | skip)) | refine loopK.x ?_)
      | fail
    all_goals first | (exfalso; omega) | skip
    rename_i t4b hc1 hc2 bg bc ba bh ble
    refine JC.nilF ?_
    refine JC.perm (L' := [[(ble, .cells ⟨[.int .i64 1]⟩ 3 (0, 0))], cF bc 50 n (some ⟨bg, 0, none⟩) g01.length 2, [(bg, .cells ⟨g01.flatMap encG⟩ 101 (0, 0))], [], [(bh, .cells ⟨[.func (.func 55) ⟨[]⟩ ⟨[.pointer (some ⟨ba, 0, none⟩)]⟩]⟩ 88 (0, 0))], [(ba, .cells ⟨[.func (.func 54) ⟨[]⟩ ⟨[.pointer (some ⟨bc, 0, none⟩)]⟩]⟩ 102 (0, 0))], [(t4b, .cells ⟨[.int .i64 0, .slice none 0 0]⟩ 50 (0, 0))]]) ((bring_perm 5 _).trans ((bring_perm 5 _).trans (bring_perm 3 _))) ?_
    have hrA : Rd h [[(bh, .cells ⟨[.func (.func 55) ⟨[]⟩ ⟨[.pointer (some ⟨ba, 0, none⟩)]⟩]⟩ 88 (0, 0))], [(ba, .cells ⟨[.func (.func 54) ⟨[]⟩ ⟨[.pointer (some ⟨bc, 0, none⟩)]⟩]⟩ 102 (0, 0))], [(t4b, .cells ⟨[.int .i64 0, .slice none 0 0]⟩ 50 (0, 0))]] ba (.cells ⟨[.func (.func 54) ⟨[]⟩ ⟨[.pointer (some ⟨bc, 0, none⟩)]⟩]⟩ 102 (0, 0)) := Rd.hd.tl
    have hrH : Rd h [[(bh, .cells ⟨[.func (.func 55) ⟨[]⟩ ⟨[.pointer (some ⟨ba, 0, none⟩)]⟩]⟩ 88 (0, 0))], [(ba, .cells ⟨[.func (.func 54) ⟨[]⟩ ⟨[.pointer (some ⟨bc, 0, none⟩)]⟩]⟩ 102 (0, 0))], [(t4b, .cells ⟨[.int .i64 0, .slice none 0 0]⟩ 50 (0, 0))]] bh (.cells ⟨[.func (.func 55) ⟨[]⟩ ⟨[.pointer (some ⟨ba, 0, none⟩)]⟩]⟩ 88 (0, 0)) := Rd.hd
    have og0 : OwT encG 3 101 (some ⟨bg, 0, none⟩) 2 g01 [(bg, .cells ⟨g01.flatMap encG⟩ 101 (0, 0))] := ⟨fun _ => rfl, .inr ⟨bg, _, rfl, rfl, rfl, Nat.le_refl _, rfl⟩⟩
    have oe0 : OwT encI 1 3 (some ⟨ble, 0, none⟩) 1 [(1 : Int)] [(ble, .cells ⟨[.int .i64 1]⟩ 3 (0, 0))] := ⟨fun _ => rfl, .inr ⟨ble, _, rfl, rfl, rfl, Nat.le_refl _, rfl⟩⟩
    refine JC.loop (fun i => i == 12 || i == 14 || i == 15 || i == 16 || Nat.ble 50 i) (fun m g L' => ∃ (k : Nat) (le : List Int) (aE : Option Addr) (capE : Nat) (gs1 : List Gt) (aL1 : Option Addr) (capL1 : Nat) (hl1 hI1 hE : Heap), g 50 = .int .i64 (k : Int) ∧ g 12 = .slice aE (k + 1) capE ∧ k + m = l.length ∧ OwT encI 1 3 aE capE le hE ∧ le.length = k + 1 ∧ OwT encG 3 101 aL1 capL1 gs1 hl1 ∧ St n gs1 hI1 ∧ Base gs1 ∧ gs1.length ≤ 2 + 700 * k ∧
        (∀ j, j ≤ k → 0 ≤ le.getD j default ∧ le.getD j default < gs1.length ∧ ∀ s, val s gs1 (le.getD j default) = decide (j ≤ vt s (l.take k))) ∧ L' = hE :: cF bc 50 n aL1 gs1.length capL1 :: hl1 :: hI1 :: _) l.length
      ⟨0, [1], _, _, g01, _, _, _, _, _, rfl, rfl, by omega, oe0, rfl, og0, st01 n, base01, Nat.le_refl _, fun j hj => ?_, rfl⟩ ?_
    · obtain rfl : j = 0 := by omega
      exact ⟨by decide, by decide, fun s => by rw [show ([(1 : Int)].getD 0 default) = 1 from rfl, (base01.2 s).2]; simp⟩
    clear oe0 og0
    rintro m g L' ⟨k2, le, aE, capE, gs1, aL1, capL1, hl1, hI1, hE, e50, e12, hkm2, oE, hleE, ol1, st1, hb1, hgl, hval, rfl⟩
    refine JC.pin 50 e50 (JC.pin 12 e12 ?_)
    clear e50 e12
    rcases Nat.lt_or_ge k2 l.length with hk2 | hk2
    case inr =>
      have hkl : l.take k2 = l := List.take_of_length_le hk2
      obtain rfl : k2 = l.length := by omega
      rw [hkl] at hval
      have hroot0 : 0 ≤ (0 : Int) ∧ (0 : Int) < gs1.length := by
        obtain ⟨b1, b2⟩ := hb1
        omega
      have hroot : ∀ s, val s gs1 0 = decide (l.length < 2 * vt s l) := fun s => by
        have := vt_le s l l.length
        rw [List.take_length] at this
        rw [(hb1.2 s).1]
        simp; omega
      repeat' first
        | (refine J.isJ ?_; first | (first | (refine J.o 0 ?_; refine J.ev' hΓ ?_) | refine J.nil ?_ | (refine J.o 4 ?_; first | refine J.e1 hΓ ?_ | refine J.lR hΓ ?_) | (refine J.o 3 ?_; first | refine J.ev' hΓ ?_) | (refine J.o 1 ?_; first | refine J.ad ?_ | refine J.qu ?_) | (refine J.o 5 ?_; first | refine J.t0 hΓ ?_) | (refine J.o 7 ?_; refine J.al hΓ (fun _ => ?_)) | (refine J.o 8 ?_; refine J.bd hΓ ?_) | (refine J.o 9 ?_; refine J.bl hΓ (fun _ => ?_)) | (refine J.o 10 ?_; first | refine J.ev' hΓ ?_) | (refine J.o 11 ?_; first | refine J.ev' hΓ ?_) | (refine J.o 14 ?_; refine J.mf hΓ ?_)) | (first | (refine J.lR hΓ2 ?_ (hr := hrA.tl.tl.tl.tl)) | (refine J.callvx eAdd rfl rfl rfl (fun w hw => add_any (⟨4, 0, some ⟨_, 0, none⟩, 1, [0]⟩ : Gt) ol1 (by omega) (hw.perm ((bring_perm 3 _).trans (bring_perm 3 _)))) ?_; rintro _ _ ⟨rfl, aL3, capL3, hl3, ol3, rfl⟩; refine J.perm (bring_perm 7 _) ?_)) | ((fail_if_success refine J.wt ?_); refine J.gc rfl rfl (fun hc => ?_) (fun hc => ?_) <;> ((try simp only [tcS] at hc) <;> first | (first | (exact absurd rfl hc) | (exfalso; omega) | (exact (tF hc (by assumption)).elim) | (exact (fT hc (by assumption)).elim)) | skip)))
        | (first | refine JC.seq ?_ | refine JC.region ?_ | refine JC.block ?_ | refine JC.ret ?_ | refine JC.exit ?_ | refine JC.skip ?_ | refine thenK.nn ?_ | refine thenK.x ?_ | refine blockK.hit rfl ?_ | (refine JC.cond rfl (fun hc => ?_) (fun hc => ?_) <;> ((try simp only [tcS] at hc) <;> first | (first | (exact absurd rfl hc) | (exfalso; omega) | (exact (tF hc (by assumption)).elim) | (exact (fT hc (by assumption)).elim)) | skip)) | refine loopK.x ?_)
        | fail
      all_goals first | (exfalso; omega) | skip
      rename_i x
      have hlx : (gs1 ++ [(⟨4, 0, some ⟨x, 0, none⟩, 1, [0]⟩ : Gt)]).length = gs1.length + 1 := by simp
      refine retCS hΓ rfl rfl rfl rfl Rd.hd rfl rfl (fun w1 hw => Gives.of hw.fin ⟨aL3, _, capL3, ?_, fin_cir n0 n1 st1 (by omega) hroot0 ol3, fun s => fin_val s gs1 x _ _ (hroot s)⟩)
      rw [hlx]; rfl
    case inl => exact absurd hk2 (by omega)
end Go.Proofs.YtdiciemlbhkilaaGreatDoor
namespace Go.Proofs.YtdiciemlbhkilaaGreatDoor
open Go Go.Cx Go.RowKit
set_option linter.unusedVariables false
set_option linter.unusedSimpArgs false
set_option maxHeartbeats 4000000
attribute [local irreducible] J JC thenK blockK loopK roundK drawK retK QW Qt pel List.set Calls
set_option maxRecDepth 20000
def encSS (l : List UInt8) : List Value := [.string (S l)]
def badL : List (List UInt8) := [[], [40, 49, 32, 43, 32, 45], [40, 49, 32, 32, 43, 32, 45, 41], [40, 48, 49, 32, 43, 32, 45, 41], [40, 49, 32, 43, 45, 41], [43, 45], [40, 43, 32, 45, 41], [40, 32, 49, 32, 43, 32, 45, 41], [40, 49, 32, 43, 32, 45, 41, 32], [120], [40, 49, 48, 48, 48, 48, 48, 32, 43, 32, 45, 41], [40, 41], [40, 45, 49, 32, 43, 32, 45, 41]]
def wroL : List (List UInt8) := [[40, 49, 32, 43, 32, 40, 49, 32, 45, 32, 43, 41, 41], [40, 48, 32, 43, 32, 45, 41], [40, 49, 50, 57, 32, 43, 32, 45, 41], [40, 57, 57, 57, 57, 57, 32, 43, 32, 45, 41], [40, 51, 32, 40, 50, 32, 43, 32, 45, 41, 32, 40, 50, 32, 45, 32, 40, 51, 32, 43, 32, 45, 41, 41, 41]]
theorem badL_all : (badL.all fun l => decide ((parseP l).1 = 5)) = true := by decide +kernel
theorem wroL_all : (wroL.all fun l => decide ((parseP l).1 = 1)) = true := by decide +kernel
theorem bad_at (k : Nat) (h : k < 13) : (parseP (badL.getD k default)).1 = 5 := of_decide_eq_true (List.all_eq_true.1 badL_all _ (mem_g badL k h))
theorem wro_at (k : Nat) (h : k < 5) : (parseP (wroL.getD k default)).1 = 1 := of_decide_eq_true (List.all_eq_true.1 wroL_all _ (mem_g wroL k h))
def smT : List Nd := [⟨1, 1, 2, false⟩, ⟨0, 0, 0, false⟩, ⟨2, 3, 4, false⟩, ⟨0, 0, 0, true⟩, ⟨0, 0, 0, false⟩]
def tkT (k : Nat) : List Nd := [⟨(k : Int) + 1, 1, 2, false⟩, ⟨0, 0, 0, false⟩, ⟨0, 0, 0, true⟩]
theorem sm_ok : checkT smT 2 = 0 := by decide +kernel
theorem sm_bad : checkT smT (-1) = 6 := by decide +kernel
theorem nil_bad : checkT [] 2 = 1 := by decide +kernel
theorem one_ok : checkT [⟨0, 0, 0, true⟩] 0 = 0 := by decide +kernel
theorem sm_cnt : modN smT smT.length 0 2 = 1 := by decide +kernel
theorem cls1 : (classT (tkT 0) (5, 0), classT (tkT 1) (5, 0), classT (tkT 2) (5, 0)) = (true, false, true) := by decide +kernel
theorem cls2 : (classT (tkT 0) (2, 0), classT (tkT 1) (2, 0), classT (tkT 2) (2, 0)) = (false, true, false) := by decide +kernel
theorem cls3 : (classT (tkT 0) (1, 0), classT (tkT 1) (1, 0)) = (true, false) := by decide +kernel
theorem text1 : (decN 1).reverse = [49] := by decide +kernel
end Go.Proofs.YtdiciemlbhkilaaGreatDoor
namespace Go.Proofs.YtdiciemlbhkilaaGreatDoor
open Go Go.Cx Go.RowKit
set_option linter.unusedVariables false
set_option linter.unusedSimpArgs false
set_option maxHeartbeats 4000000
attribute [local irreducible] J JC thenK blockK loopK roundK drawK retK QW Qt pel List.set Calls
attribute [local irreducible] clsAt checkT modN cntP
theorem cnt_tree {ts : List Nd} {nn : Nat} (hV : Valid ts nn) {X : List PN} (tn : TNet ts nn X) : cntP nn X = modN ts ts.length 0 nn := by
  have hN := hV.rng
  have h1 := cnt_eq (nn := nn) (by omega) tn.ck tn.sm tn.dd
  have h2 := mod_count hV ts.length 0 nn (by omega) hV.pos (PathK.start ts nn)
  rw [h1, cS_ext tn.ev, ← h2, Nat.sub_self]
  omega
end Go.Proofs.YtdiciemlbhkilaaGreatDoor
namespace Go.Proofs.YtdiciemlbhkilaaGreatDoor
open Go Go.Cx Go.RowKit
set_option linter.unusedVariables false
set_option linter.unusedSimpArgs false
set_option maxHeartbeats 4000000
attribute [local irreducible] J JC thenK blockK loopK roundK drawK retK QW Qt pel List.set Calls
set_option maxRecDepth 8000
attribute [local irreducible] JE Br eK0 eK3 brK cN proC sumC outC wO zO clsAt checkT modN cntP parseP smT tkT classT decN
def strB (b : Nat) (l : List (List UInt8)) : Heap := [(b, .cells ⟨l.flatMap encSS⟩ 9 (0, 0))]
theorem strB_ok (b : Nat) (l : List (List UInt8)) : SlT encSS 1 (some ⟨b, 0, none⟩) l (strB b l) := (litO (enc := encSS) (fun _ => rfl) b 9 l rfl).sl
theorem strB_bad (b : Nat) : strB b badL = [(b, .cells ⟨[.string (S []), .string (S [40, 49, 32, 43, 32, 45]), .string (S [40, 49, 32, 32, 43, 32, 45, 41]), .string (S [40, 48, 49, 32, 43, 32, 45, 41]), .string (S [40, 49, 32, 43, 45, 41]), .string (S [43, 45]), .string (S [40, 43, 32, 45, 41]), .string (S [40, 32, 49, 32, 43, 32, 45, 41]), .string (S [40, 49, 32, 43, 32, 45, 41, 32]), .string (S [120]), .string (S [40, 49, 48, 48, 48, 48, 48, 32, 43, 32, 45, 41]), .string (S [40, 41]), .string (S [40, 45, 49, 32, 43, 32, 45, 41])]⟩ 9 (0, 0))] := by
  unfold strB badL; rfl
theorem strB_wro (b : Nat) : strB b wroL = [(b, .cells ⟨[.string (S [40, 49, 32, 43, 32, 40, 49, 32, 45, 32, 43, 41, 41]), .string (S [40, 48, 32, 43, 32, 45, 41]), .string (S [40, 49, 50, 57, 32, 43, 32, 45, 41]), .string (S [40, 57, 57, 57, 57, 57, 32, 43, 32, 45, 41]), .string (S [40, 51, 32, 40, 50, 32, 43, 32, 45, 41, 32, 40, 50, 32, 45, 32, 40, 51, 32, 43, 32, 45, 41, 41, 41])]⟩ 9 (0, 0))] := by
  unfold strB wroL; rfl
attribute [local irreducible] badL wroL strB
theorem slT_tk {α : Type} {enc : α → List Value} {size : Nat} {a : Option Addr} {ts : List α} {h : Heap} (hs : SlT enc size a ts h) (k : Nat) : SlT enc size a (ts.take k) h := by
  refine ⟨hs.len, fun i hi => ?_⟩
  rw [List.length_take] at hi
  obtain ⟨b, off, cs, e, fr, h1, h2, h3, h4⟩ := hs.at_ i (by omega)
  exact ⟨b, off, cs, e, fr, h1, h2, h3, by rw [h4, List.getElem_take]⟩
theorem slNil {α : Type} (enc : α → List Value) (size : Nat) (hE : ∀ t, (enc t).length = size) (a : Option Addr) (h : Heap) : SlT enc size a [] h := ⟨hE, fun i hi => absurd hi (Nat.not_lt_zero _)⟩
theorem forest3 (x : Nat) (a : Option Addr) (c : Nat) (h : Heap) (hs : SlT encN 4 a smT h) (w : World) (hw : Holds ([(x, .cells ⟨[.slice a smT.length c, .slice none 0 0]⟩ 23 (0, 0))] ++ h) w) :
    Calls Tryz.prog 20 #[.slice (some ⟨x, 0, none⟩) 2 2, .int .i64 2] w fun e w' => e = .returned (.tuple #[cv 0 none 0 0, .int .i64 1]) ∧ Below w.heap.size w w' := by
  have he : firstE 2 [(⟨a, c, smT⟩ : TV), ⟨none, 0, []⟩] = 1 := by
    rw [firstE, if_pos sm_ok, firstE, if_neg (by rw [nil_bad]; decide), nil_bad]
  have h1 : SlT encTV 1 (some ⟨x, 0, none⟩) [(⟨a, c, smT⟩ : TV), ⟨none, 0, []⟩] ([(x, .cells ⟨[.slice a smT.length c, .slice none 0 0]⟩ 23 (0, 0))] ++ h) :=
    (litO (enc := encTV) (fun _ => rfl) x 23 [(⟨a, c, smT⟩ : TV), ⟨none, 0, []⟩] rfl).sl.sub fun y hy => List.mem_append_left _ hy
  have := forest_err (some ⟨x, 0, none⟩) 2 [(⟨a, c, smT⟩ : TV), ⟨none, 0, []⟩] 2 _ h1 (fun t ht => by
    rcases List.mem_cons.1 ht with rfl | ht
    · exact hs.sub fun y hy => List.mem_append_right _ hy
    · rw [List.mem_singleton.1 ht]; exact slNil encN 4 (fun _ => rfl) _ _) (by show 2 ≤ 9; omega) (by rw [he]; decide) w hw
  rw [he] at this
  exact this
theorem forest129 (w : World) : Calls Tryz.prog 20 #[.slice none 0 0, .int .i64 129] w fun e w' => e = .returned (.tuple #[cv 0 none 0 0, .int .i64 6]) ∧ Below w.heap.size w w' :=
  forest_err none 0 [] 129 [] (slNil encTV 1 (fun _ => rfl) _ _) (fun t ht => (by cases ht)) (by show 0 ≤ 9; omega) (by decide) w (Holds.nil w)
theorem forest0 (w : World) : Calls Tryz.prog 20 #[.slice none 0 0, .int .i64 3] w (Gives (fun v hc => ∃ (ac : Option Addr) (len cc : Nat), v = .tuple #[cv 3 ac len cc, .int .i64 0] ∧ ∀ w, Holds hc w → Calls Tryz.prog 24 #[cv 3 ac len cc, .agg ⟨[.int .u64 0, .int .u64 0]⟩] w fun e w' => e = .returned (.bool false) ∧ Below w.heap.size w w') w) := by
  refine Go.Calls.mono (forest_nil none 0 [] 3 [] (slNil encTV 1 (fun _ => rfl) _ _) (fun t ht => (by cases ht)) rfl (by decide) w (Holds.nil w)) ?_
  rintro e w' ⟨v, hc, he2, hb, hH, hn, hnd, ac, gs, cc, hv, cir, hval⟩
  refine ⟨v, hc, he2, hb, hH, hn, hnd, ac, gs.length, cc, hv, fun w2 hw2 => ?_⟩
  have hE := evalC_any cir cc (0, 0) okS_zero (fun u hu => by rw [has_zero] at hu; cases hu) w2 hw2
  rw [hval (0, 0)] at hE
  exact hE
theorem check1 (x : Nat) (w : World) (hw : Holds [(x, .cells ⟨[.int .i64 0, .int .i64 0, .int .i64 0, .bool true]⟩ 44 (0, 0))] w) : Calls Tryz.prog 21 #[.slice (some ⟨x, 0, none⟩) 1 1, .int .i64 0] w fun e w' => e = .returned (.int .i64 0) ∧ Below w.heap.size w w' := by
  have := check_any (some ⟨x, 0, none⟩) 1 [(⟨0, 0, 0, true⟩ : Nd)] 0 _ (litO (enc := encN) (fun _ => rfl) x 44 [(⟨0, 0, 0, true⟩ : Nd)] rfl).sl w hw
  rw [one_ok] at this
  exact this
theorem smallC (w : World) : Calls Tryz.prog 30 #[] w (Gives (Sls encN 4 44 smT) w) := by unfold smT; exact small_any w
theorem countS {a : Option Addr} {c : Nat} {os : List NV} {h : Heap} (hr : NetIn a os h) (tn : TNet smT 2 (os.map pnV)) (w : World) (hT : Tab64 w) (hw : Holds h w) : Calls Tryz.prog 26 #[.agg ⟨[.int .i64 2, .slice a os.length c]⟩] w fun e w' => e = .returned (.tuple #[natV 1, .int .i64 0]) ∧ Below w.heap.size w w' := by
  have := count_any 2 a c os h hr ⟨by omega, tn.ck, tn.sm, tn.dd⟩ w hT hw
  rw [cnt_tree (nn := 2) ((valid_iff smT 2).1 sm_ok) tn, sm_cnt] at this
  exact this
theorem textS (w : World) : Calls Tryz.prog 32 #[natV 1] w fun e w' => e = .returned (.string (S [49])) ∧ Below w.heap.size w w' := by
  have := text_any 1 (by decide) (by decide) w
  rw [text1] at this
  exact this
theorem votesC {a : Option Addr} {c : Nat} {t0 t1 t2 : TV} {hts hl : Heap} (sl : SlT encTV 1 a [t0, t1, t2] hl) (st : ∀ t, t ∈ [t0, t1, t2] → SlT encN 4 t.a t.ts hts) (e0 : t0.ts = tkT 0) (e1 : t1.ts = tkT 1) (e2 : t2.ts = tkT 2) (w : World) (hw : Holds (hts ++ hl) w) :
    (Calls Tryz.prog 31 #[.slice a 3 c, sv (5, 0)] w fun e w' => e = .returned (.bool true) ∧ Below w.heap.size w w') ∧ (Calls Tryz.prog 31 #[.slice a 3 c, sv (2, 0)] w fun e w' => e = .returned (.bool false) ∧ Below w.heap.size w w') ∧ (Calls Tryz.prog 31 #[.slice a 2 c, sv (1, 0)] w fun e w' => e = .returned (.bool false) ∧ Below w.heap.size w w') := by
  have sl' : SlT encTV 1 a [t0, t1, t2] (hts ++ hl) := sl.sub fun y hy => List.mem_append_right _ hy
  have st' : ∀ t, t ∈ [t0, t1, t2] → SlT encN 4 t.a t.ts (hts ++ hl) := fun t ht => (st t ht).sub fun y hy => List.mem_append_left _ hy
  have c1 := cls1
  have c2 := cls2
  have c3 := cls3
  simp only [Prod.mk.injEq] at c1 c2 c3
  obtain ⟨a0, a1, a2⟩ := c1
  obtain ⟨b0, b1, b2⟩ := c2
  obtain ⟨d0, d1⟩ := c3
  refine ⟨?_, ?_, ?_⟩
  · have := vote_any a c [t0, t1, t2] (5, 0) ⟨by decide, by decide⟩ _ sl' st' (by show 3 ≤ 1000000; omega) w hw
    rw [show votesOf classT (5, 0) [t0, t1, t2] = 2 by simp only [votesOf, e0, e1, e2, a0, a1, a2]; rfl] at this
    exact this
  · have := vote_any a c [t0, t1, t2] (2, 0) ⟨by decide, by decide⟩ _ sl' st' (by show 3 ≤ 1000000; omega) w hw
    rw [show votesOf classT (2, 0) [t0, t1, t2] = 1 by simp only [votesOf, e0, e1, e2, b0, b1, b2]; rfl] at this
    exact this
  · have := vote_any a c [t0, t1] (1, 0) ⟨by decide, by decide⟩ _ (slT_tk sl' 2) (fun t ht => st' t (List.mem_of_mem_take (i := 2) ht)) (by show 2 ≤ 1000000; omega) w hw
    rw [show votesOf classT (1, 0) [t0, t1] = 1 by simp only [votesOf, e0, e1, d0, d1]; rfl] at this
    exact this
theorem vote0 (w : World) : Calls Tryz.prog 31 #[.slice none 0 0, sv (0, 0)] w fun e w' => e = .returned (.bool false) ∧ Below w.heap.size w w' :=
  vote_any none 0 [] (0, 0) okS_zero [] (slNil encTV 1 (fun _ => rfl) _ _) (fun t ht => (by cases ht)) (by show 0 ≤ 1000000; omega) w (Holds.nil w)
theorem netErr {a : Option Addr} {c : Nat} {h : Heap} (hs : SlT encN 4 a smT h) (w : World) (hw : Holds h w) : Calls Tryz.prog 10 #[.slice a smT.length c, .int .i64 (-1)] w fun e w' => e = .returned (.tuple #[.agg ⟨[.int .i64 0, .slice none 0 0]⟩, .int .i64 6]) ∧ Below w.heap.size w w' := by
  have := netT_err a c smT (-1) h hs (by rw [sm_bad]; decide) w hw
  rw [sm_bad] at this
  exact this
set_option maxHeartbeats 32000000 in
theorem treeKnown_walk (w : World) (hT : Tab w) (hT2 : Tab64 w) : Calls Tryz.prog 6 #[] w fun e w' => e = .returned (.bool true) ∧ Below w.heap.size w w' := by
  have lb : badL.length = 13 := by unfold badL; rfl
  have lw : wroL.length = 5 := by unfold wroL; rfl
  refine calls_of_JC (R := []) Tryz.func6 Tryz.ntmps6 rfl rfl (Holds.nil _) ?_
  repeat' first
    | (refine J.isJ ?_; first | ((refine J.o 9 ?_; refine J.bl hΓ (fun bB => ?_))) | (first | (refine J.o 0 ?_; refine J.ev' hΓ ?_) | refine J.nil ?_ | (refine J.o 4 ?_; first | refine J.lT default hΓ ?_ | refine J.lR hΓ ?_) | (refine J.o 3 ?_; first | refine J.iJ hΓ ?_ | refine J.ev' hΓ ?_) | (refine J.o 1 ?_; first | refine J.ad ?_) | (refine J.o 5 ?_; first | refine J.t0 hΓ ?_) | (refine J.o 7 ?_; refine J.al hΓ (fun _ => ?_)) | (refine J.o 8 ?_; refine J.bd hΓ ?_) | (refine J.o 9 ?_; refine J.bl hΓ (fun _ => ?_)) | (refine J.o 10 ?_; refine J.ev' hΓ ?_) | (refine J.o 11 ?_; refine J.ev' hΓ ?_)) | ((fail_if_success refine J.wt ?_); refine J.gc rfl rfl (fun hc => ?_) (fun hc => ?_) <;> ((try simp only [tcS] at hc) <;> first | (first | (exact absurd rfl hc) | (exfalso; omega) | (exact (tF hc (by assumption)).elim) | (exact (fT hc (by assumption)).elim)) | skip)))
    | (first | refine JC.seq ?_ | refine JC.region ?_ | refine JC.block ?_ | refine JC.ret ?_ | refine JC.exit ?_ | refine JC.skip ?_ | refine thenK.nn ?_ | refine thenK.x ?_ | refine blockK.nn ?_ | refine blockK.hit rfl ?_ | refine JC.condF rfl ?_ | (refine JC.cond rfl (fun hc => ?_) (fun hc => ?_) <;> ((try simp only [tcS] at hc) <;> first | (first | (exact absurd rfl hc) | (exfalso; omega) | (exact (tF hc (by assumption)).elim) | (exact (fT hc (by assumption)).elim)) | skip)) | refine loopK.x ?_)
    | (fail)
    | fail
  refine JC.weak (L' := [strB bB badL]) (fun w hw => by rw [strB_bad]; exact hw) ?_
  have oB := strB_ok bB badL
  refine JC.loopG (fun i => i == 2 || i == 3 || i == 4 || (Nat.ble 24 i && Nat.ble i 39)) (fun m g L' => ∃ k : Nat, g 2 = .int .i64 (k : Int) ∧ k + m = 13 ∧ L' = [strB bB badL]) 13 ⟨0, rfl, by omega, rfl⟩ ?_
  rintro m g _ ⟨k, e2, hkm, rfl⟩
  refine JC.pin 2 e2 ?_
  clear e2
  rcases Nat.lt_or_ge k 13 with hk | hk
  case inl =>
    have hb5 := bad_at k hk
    repeat' first
      | (refine J.isJ ?_; first | (first | (refine J.o 3 ?_; refine J.iJ hΓ ?_ (hs := oB)) | (refine J.o 4 ?_; refine J.lT default hΓ ?_ (hs := oB) (hr := RdH.hd)) | (refine J.fc 29 ?_; refine J.call1 eParse rfl rfl (fun w hw => parse_any (badL.getD k default) w) ?_; rintro _ hP ⟨aP, cP, rfl, oP⟩; rw [hb5])) | (first | (refine J.o 0 ?_; refine J.ev' hΓ ?_) | refine J.nil ?_ | (refine J.o 4 ?_; first | refine J.lT default hΓ ?_ | refine J.lR hΓ ?_) | (refine J.o 3 ?_; first | refine J.iJ hΓ ?_ | refine J.ev' hΓ ?_) | (refine J.o 1 ?_; first | refine J.ad ?_) | (refine J.o 5 ?_; first | refine J.t0 hΓ ?_) | (refine J.o 7 ?_; refine J.al hΓ (fun _ => ?_)) | (refine J.o 8 ?_; refine J.bd hΓ ?_) | (refine J.o 9 ?_; refine J.bl hΓ (fun _ => ?_)) | (refine J.o 10 ?_; refine J.ev' hΓ ?_) | (refine J.o 11 ?_; refine J.ev' hΓ ?_)) | ((fail_if_success refine J.wt ?_); refine J.gc rfl rfl (fun hc => ?_) (fun hc => ?_) <;> ((try simp only [tcS] at hc) <;> first | (first | (exact absurd rfl hc) | (exfalso; omega) | (exact (tF hc (by assumption)).elim) | (exact (fT hc (by assumption)).elim)) | skip)))
      | (first | refine JC.seq ?_ | refine JC.region ?_ | refine JC.block ?_ | refine JC.ret ?_ | refine JC.exit ?_ | refine JC.skip ?_ | refine thenK.nn ?_ | refine thenK.x ?_ | refine blockK.nn ?_ | refine blockK.hit rfl ?_ | refine JC.condF rfl ?_ | (refine JC.cond rfl (fun hc => ?_) (fun hc => ?_) <;> ((try simp only [tcS] at hc) <;> first | (first | (exact absurd rfl hc) | (exfalso; omega) | (exact (tF hc (by assumption)).elim) | (exact (fT hc (by assumption)).elim)) | skip)) | refine loopK.x ?_)
      | (fail)
      | fail
    all_goals first | (exfalso; omega) | skip
    refine loopK.nn (m - 1) (by omega) (by repeat (first | refine Ag.upd rfl ?_ | exact Ag.hv)) ⟨_, ⟨k + 1, ?_, by omega, rfl⟩, fun w hw => hw.drop⟩
    show Value.int .i64 _ = _; congr 1
  repeat' first
    | (refine J.isJ ?_; first | ((refine J.o 9 ?_; refine J.bl hΓ (fun bW => ?_))) | (first | (refine J.o 0 ?_; refine J.ev' hΓ ?_) | refine J.nil ?_ | (refine J.o 4 ?_; first | refine J.lT default hΓ ?_ | refine J.lR hΓ ?_) | (refine J.o 3 ?_; first | refine J.iJ hΓ ?_ | refine J.ev' hΓ ?_) | (refine J.o 1 ?_; first | refine J.ad ?_) | (refine J.o 5 ?_; first | refine J.t0 hΓ ?_) | (refine J.o 7 ?_; refine J.al hΓ (fun _ => ?_)) | (refine J.o 8 ?_; refine J.bd hΓ ?_) | (refine J.o 9 ?_; refine J.bl hΓ (fun _ => ?_)) | (refine J.o 10 ?_; refine J.ev' hΓ ?_) | (refine J.o 11 ?_; refine J.ev' hΓ ?_)) | ((fail_if_success refine J.wt ?_); refine J.gc rfl rfl (fun hc => ?_) (fun hc => ?_) <;> ((try simp only [tcS] at hc) <;> first | (first | (exact absurd rfl hc) | (exfalso; omega) | (exact (tF hc (by assumption)).elim) | (exact (fT hc (by assumption)).elim)) | skip)))
    | (first | refine JC.seq ?_ | refine JC.region ?_ | refine JC.block ?_ | refine JC.ret ?_ | refine JC.exit ?_ | refine JC.skip ?_ | refine thenK.nn ?_ | refine thenK.x ?_ | refine blockK.nn ?_ | refine blockK.hit rfl ?_ | refine JC.condF rfl ?_ | (refine JC.cond rfl (fun hc => ?_) (fun hc => ?_) <;> ((try simp only [tcS] at hc) <;> first | (first | (exact absurd rfl hc) | (exfalso; omega) | (exact (tF hc (by assumption)).elim) | (exact (fT hc (by assumption)).elim)) | skip)) | refine loopK.x ?_)
    | (fail)
    | fail
  all_goals first | (exfalso; omega) | skip
  refine JC.weak (L' := [strB bW wroL]) (fun w hw => by rw [strB_wro]; exact H.sel (l := [_, _]) (M := []) hw [0]) ?_
  have oW := strB_ok bW wroL
  refine JC.loopG (fun i => i == 6 || i == 7 || i == 8 || (Nat.ble 41 i && Nat.ble i 56)) (fun m g L' => ∃ k : Nat, g 6 = .int .i64 (k : Int) ∧ k + m = 5 ∧ L' = [strB bW wroL]) 5 ⟨0, rfl, by omega, rfl⟩ ?_
  rintro m g _ ⟨k, e6, hkm, rfl⟩
  refine JC.pin 6 e6 ?_
  clear e6
  rcases Nat.lt_or_ge k 5 with hk | hk
  case inl =>
    have hb5 := wro_at k hk
    repeat' first
      | (refine J.isJ ?_; first | (first | (refine J.o 3 ?_; refine J.iJ hΓ ?_ (hs := oW)) | (refine J.o 4 ?_; refine J.lT default hΓ ?_ (hs := oW) (hr := RdH.hd)) | (refine J.fc 29 ?_; refine J.call1 eParse rfl rfl (fun w hw => parse_any (wroL.getD k default) w) ?_; rintro _ hP ⟨aP, cP, rfl, oP⟩; rw [hb5])) | (first | (refine J.o 0 ?_; refine J.ev' hΓ ?_) | refine J.nil ?_ | (refine J.o 4 ?_; first | refine J.lT default hΓ ?_ | refine J.lR hΓ ?_) | (refine J.o 3 ?_; first | refine J.iJ hΓ ?_ | refine J.ev' hΓ ?_) | (refine J.o 1 ?_; first | refine J.ad ?_) | (refine J.o 5 ?_; first | refine J.t0 hΓ ?_) | (refine J.o 7 ?_; refine J.al hΓ (fun _ => ?_)) | (refine J.o 8 ?_; refine J.bd hΓ ?_) | (refine J.o 9 ?_; refine J.bl hΓ (fun _ => ?_)) | (refine J.o 10 ?_; refine J.ev' hΓ ?_) | (refine J.o 11 ?_; refine J.ev' hΓ ?_)) | ((fail_if_success refine J.wt ?_); refine J.gc rfl rfl (fun hc => ?_) (fun hc => ?_) <;> ((try simp only [tcS] at hc) <;> first | (first | (exact absurd rfl hc) | (exfalso; omega) | (exact (tF hc (by assumption)).elim) | (exact (fT hc (by assumption)).elim)) | skip)))
      | (first | refine JC.seq ?_ | refine JC.region ?_ | refine JC.block ?_ | refine JC.ret ?_ | refine JC.exit ?_ | refine JC.skip ?_ | refine thenK.nn ?_ | refine thenK.x ?_ | refine blockK.nn ?_ | refine blockK.hit rfl ?_ | refine JC.condF rfl ?_ | (refine JC.cond rfl (fun hc => ?_) (fun hc => ?_) <;> ((try simp only [tcS] at hc) <;> first | (first | (exact absurd rfl hc) | (exfalso; omega) | (exact (tF hc (by assumption)).elim) | (exact (fT hc (by assumption)).elim)) | skip)) | refine loopK.x ?_)
      | (fail)
      | fail
    all_goals first | (exfalso; omega) | skip
    refine loopK.nn (m - 1) (by omega) (by repeat (first | refine Ag.upd rfl ?_ | exact Ag.hv)) ⟨_, ⟨k + 1, ?_, by omega, rfl⟩, fun w hw => hw.drop⟩
    show Value.int .i64 _ = _; congr 1
  repeat' first
    | (refine J.isJ ?_; first | (fail) | (first | (refine J.o 0 ?_; refine J.ev' hΓ ?_) | refine J.nil ?_ | (refine J.o 4 ?_; first | refine J.lT default hΓ ?_ | refine J.lR hΓ ?_) | (refine J.o 3 ?_; first | refine J.iJ hΓ ?_ | refine J.ev' hΓ ?_) | (refine J.o 1 ?_; first | refine J.ad ?_) | (refine J.o 5 ?_; first | refine J.t0 hΓ ?_) | (refine J.o 7 ?_; refine J.al hΓ (fun _ => ?_)) | (refine J.o 8 ?_; refine J.bd hΓ ?_) | (refine J.o 9 ?_; refine J.bl hΓ (fun _ => ?_)) | (refine J.o 10 ?_; refine J.ev' hΓ ?_) | (refine J.o 11 ?_; refine J.ev' hΓ ?_)) | ((fail_if_success refine J.wt ?_); refine J.gc rfl rfl (fun hc => ?_) (fun hc => ?_) <;> ((try simp only [tcS] at hc) <;> first | (first | (exact absurd rfl hc) | (exfalso; omega) | (exact (tF hc (by assumption)).elim) | (exact (fT hc (by assumption)).elim)) | skip)))
    | (first | refine JC.seq ?_ | refine JC.region ?_ | refine JC.block ?_ | refine JC.ret ?_ | refine JC.exit ?_ | refine JC.skip ?_ | refine thenK.nn ?_ | refine thenK.x ?_ | refine blockK.nn ?_ | refine blockK.hit rfl ?_ | refine JC.condF rfl ?_ | (refine JC.cond rfl (fun hc => ?_) (fun hc => ?_) <;> ((try simp only [tcS] at hc) <;> first | (first | (exact absurd rfl hc) | (exfalso; omega) | (exact (tF hc (by assumption)).elim) | (exact (fT hc (by assumption)).elim)) | skip)) | refine loopK.x ?_)
    | (fail)
    | fail
  all_goals first | (exfalso; omega) | skip
  refine JC.gen [(9, .slice none 0 0), (10, .int .i64 1)] ⟨rfl, rfl, trivial⟩ (fun F1 => ?_)
  refine JC.weak (L' := [[], []]) (fun w hw => (H.sel (l := [_]) (M := []) hw []).nilF.nilF) ?_
  refine JC.loopG (fun i => i == 9 || i == 10 || Nat.ble 57 i) (fun m g L' => ∃ (k : Nat) (aL : Option Addr) (capL : Nat) (l : List TV) (hts hl : Heap), g 10 = .int .i64 ((k : Int) + 1) ∧ g 9 = .slice aL k capL ∧ k + m = 3 ∧ l.length = k ∧ OwT encTV 1 23 aL capL l hl ∧ (∀ j, j < k → (l.getD j default).ts = tkT j) ∧ (∀ t, t ∈ l → SlT encN 4 t.a t.ts hts) ∧ L' = [hts, hl]) 3 ⟨0, none, 0, [], [], [], rfl, rfl, rfl, rfl, ⟨fun _ => rfl, .inl ⟨rfl, rfl, rfl, rfl⟩⟩, fun j hj => by omega, fun t ht => (by cases ht), rfl⟩ ?_
  rintro m g _ ⟨k, aL, capL, l, hts, hl, e10, e9, hkm, hll, ol, hts1, hts2, rfl⟩
  refine JC.pin 10 e10 (JC.pin 9 e9 ?_)
  clear e10 e9
  rcases Nat.lt_or_ge k 3 with hk | hk
  case inl =>
    repeat' first
      | (refine J.isJ ?_; first | (first | (refine J.o 9 ?_; first | refine J.bl (d := 66) hΓ (fun bN => ?_) | refine J.bl (d := 67) hΓ (fun bS => ?_)) | (refine J.app1c (enc := encTV) [(⟨some ⟨bN, 0, none⟩, 3, tkT k⟩ : TV)] hΓ (fun a3 c3 h3 o3 => ?_) (ho := ol) (hlen := hll) (hus := by unfold tkT; rfl))) | (first | (refine J.o 0 ?_; refine J.ev' hΓ ?_) | refine J.nil ?_ | (refine J.o 4 ?_; first | refine J.lT default hΓ ?_ | refine J.lR hΓ ?_) | (refine J.o 3 ?_; first | refine J.iJ hΓ ?_ | refine J.ev' hΓ ?_) | (refine J.o 1 ?_; first | refine J.ad ?_) | (refine J.o 5 ?_; first | refine J.t0 hΓ ?_) | (refine J.o 7 ?_; refine J.al hΓ (fun _ => ?_)) | (refine J.o 8 ?_; refine J.bd hΓ ?_) | (refine J.o 9 ?_; refine J.bl hΓ (fun _ => ?_)) | (refine J.o 10 ?_; refine J.ev' hΓ ?_) | (refine J.o 11 ?_; refine J.ev' hΓ ?_)) | ((fail_if_success refine J.wt ?_); refine J.gc rfl rfl (fun hc => ?_) (fun hc => ?_) <;> ((try simp only [tcS] at hc) <;> first | (first | (exact absurd rfl hc) | (exfalso; omega) | (exact (tF hc (by assumption)).elim) | (exact (fT hc (by assumption)).elim)) | skip)))
      | (first | refine JC.seq ?_ | refine JC.region ?_ | refine JC.block ?_ | refine JC.ret ?_ | refine JC.exit ?_ | refine JC.skip ?_ | refine thenK.nn ?_ | refine thenK.x ?_ | refine blockK.nn ?_ | refine blockK.hit rfl ?_ | refine JC.condF rfl ?_ | (refine JC.cond rfl (fun hc => ?_) (fun hc => ?_) <;> ((try simp only [tcS] at hc) <;> first | (first | (exact absurd rfl hc) | (exfalso; omega) | (exact (tF hc (by assumption)).elim) | (exact (fT hc (by assumption)).elim)) | skip)) | refine loopK.x ?_)
      | (fail)
      | fail
    all_goals first | (exfalso; omega) | skip
    have hlk : (l ++ [(⟨some ⟨bN, 0, none⟩, 3, tkT k⟩ : TV)]).length = k + 1 := by rw [List.length_append, hll]; rfl
    rw [hlk]
    have sN : SlT encN 4 (some ⟨bN, 0, none⟩) (tkT k) _ := (litO (enc := encN) (fun _ => rfl) bN 44 (tkT k) (by unfold tkT; rfl)).sl
    refine loopK.nn (m - 1) (by omega) (by repeat (first | refine Ag.upd rfl ?_ | exact Ag.hv)) ⟨_, ⟨k + 1, a3, c3, _, _, h3, rfl, rfl, by omega, hlk, o3, fun j hj => ?_, fun t ht => ?_, rfl⟩, fun w hw => hw.mg1⟩
    · rcases Nat.lt_or_ge j k with h | h
      · rw [app_getD _ _ _ (by omega)]; exact hts1 j h
      · obtain rfl : j = k := by omega
        rw [← hll, app_at]
    · rcases List.mem_append.1 ht with ht | ht
      · exact (hts2 t ht).sub fun y hy => List.mem_append_right _ hy
      · rw [List.mem_singleton.1 ht]
        exact sN.sub fun y hy => List.mem_append_left _ hy
  obtain rfl : k = 3 := by omega
  obtain ⟨t0, t1, t2, rfl⟩ : ∃ t0 t1 t2, l = [t0, t1, t2] := by
    match l, hll with
    | [a, b, c], _ => exact ⟨a, b, c, rfl⟩
  have cV := fun w hw => votesC (c := capL) ol.sl hts2 (hts1 0 (by omega)) (hts1 1 (by omega)) (hts1 2 (by omega)) w hw
  have hcap : 3 ≤ capL := by
    rcases ol.row with ⟨_, _, h1, _⟩ | ⟨_, _, _, _, _, h1, _⟩
    · cases h1
    · exact h1
  clear hts1 hts2
  repeat' first
    | (refine J.isJ ?_; first | (first | (refine J.fc 7 ?_; refine J.call0 eWorks rfl rfl (fun w hw => works_any w) ?_) | (refine J.o 7 ?_; first | refine J.al (d := 11) hΓ (fun b11 => ?_) | refine J.al (d := 13) hΓ (fun b13 => ?_) | refine J.al (d := 15) hΓ (fun b15 => ?_) | refine J.al (d := 17) hΓ (fun b17 => ?_) | refine J.al (d := 19) hΓ (fun b19 => ?_) | refine J.al (d := 21) hΓ (fun b21 => ?_)) | (refine J.o 9 ?_; first | refine J.bl (d := 89) hΓ (fun bF => ?_) | refine J.bl (d := 152) hΓ (fun bK => ?_)) | (refine J.o 13 ?_; refine J.slF (m := 2) hΓ ?_) | (refine J.o 4 ?_; refine J.lR hΓ ?_ (hr := by repeat' (first | exact Rd.hd | apply Rd.tl))) | (refine J.fc 30 ?_; refine J.call1 eSmall rfl rfl (fun w hw => smallC w) ?_; rintro _ hs ⟨aS, cS, rfl, oS⟩) | (refine J.fc 10 ?_; first | (refine J.call1 eTNet rfl rfl (fun w hw => netT_ok aS cS smT 2 hs oS.sl sm_ok w (hT.below hw.below) (hw.rdH RdH.hd)) ?_; rintro _ hN2 ⟨ao, on, co, rfl, hni, tn⟩) | refine J.call0 eTNet rfl rfl (fun w hw => netErr oS.sl w (hw.rdH RdH.hd)) ?_) | (refine J.fc 26 ?_; refine J.call0 eCount rfl rfl (fun w hw => countS hni tn w (hT2.below hw.below) (hw.rdH RdH.hd.tl)) ?_) | (refine J.fc 20 ?_; first | (refine J.call1 eForest rfl rfl (fun w hw => forest0 w) ?_; rintro _ hc ⟨ac, lc, cc, rfl, hEv⟩) | refine J.call0 eForest rfl rfl (fun w hw => forest129 w) ?_ | refine J.call0 eForest rfl rfl (fun w hw => forest3 bF aS cS hs oS.sl w ((hw.rdH RdH.hd).append (hw.rdH RdH.hd.tl))) ?_) | (refine J.fc 31 ?_; first | refine J.call0 eVote rfl rfl (fun w hw => (cV w ((hw.rdH (by repeat' (first | exact RdH.hd | apply RdH.tl))).append (hw.rdH (by repeat' (first | exact RdH.hd | apply RdH.tl))))).1) ?_ | refine J.call0 eVote rfl rfl (fun w hw => (cV w ((hw.rdH (by repeat' (first | exact RdH.hd | apply RdH.tl))).append (hw.rdH (by repeat' (first | exact RdH.hd | apply RdH.tl))))).2.1) ?_ | refine J.call0 eVote rfl rfl (fun w hw => (cV w ((hw.rdH (by repeat' (first | exact RdH.hd | apply RdH.tl))).append (hw.rdH (by repeat' (first | exact RdH.hd | apply RdH.tl))))).2.2) ?_ | refine J.call0 eVote rfl rfl (fun w hw => vote0 w) ?_) | (refine J.fc 32 ?_; refine J.call0 eTextN rfl rfl (fun w hw => textS w) ?_) | (refine J.fc 24 ?_; refine J.call0 eEvalC rfl rfl (fun w hw => hEv w (hw.rdH (by repeat' (first | exact RdH.hd | apply RdH.tl)))) ?_) | (refine J.fc 21 ?_; refine J.call0 eCheck rfl rfl (fun w hw => check1 bK w (hw.rdH RdH.hd)) ?_)) | (first | (refine J.o 0 ?_; refine J.ev' hΓ ?_) | refine J.nil ?_ | (refine J.o 4 ?_; first | refine J.lT default hΓ ?_ | refine J.lR hΓ ?_) | (refine J.o 3 ?_; first | refine J.iJ hΓ ?_ | refine J.ev' hΓ ?_) | (refine J.o 1 ?_; first | refine J.ad ?_) | (refine J.o 5 ?_; first | refine J.t0 hΓ ?_) | (refine J.o 7 ?_; refine J.al hΓ (fun _ => ?_)) | (refine J.o 8 ?_; refine J.bd hΓ ?_) | (refine J.o 9 ?_; refine J.bl hΓ (fun _ => ?_)) | (refine J.o 10 ?_; refine J.ev' hΓ ?_) | (refine J.o 11 ?_; refine J.ev' hΓ ?_)) | ((fail_if_success refine J.wt ?_); refine J.gc rfl rfl (fun hc => ?_) (fun hc => ?_) <;> ((try simp only [tcS] at hc) <;> first | (first | (exact absurd rfl hc) | (exfalso; omega) | (exact (tF hc (by assumption)).elim) | (exact (fT hc (by assumption)).elim)) | skip)))
    | (first | refine JC.seq ?_ | refine JC.region ?_ | refine JC.block ?_ | refine JC.ret ?_ | refine JC.exit ?_ | refine JC.skip ?_ | refine thenK.nn ?_ | refine thenK.x ?_ | refine blockK.nn ?_ | refine blockK.hit rfl ?_ | refine JC.condF rfl ?_ | (refine JC.cond rfl (fun hc => ?_) (fun hc => ?_) <;> ((try simp only [tcS] at hc) <;> first | (first | (exact absurd rfl hc) | (exfalso; omega) | (exact (tF hc (by assumption)).elim) | (exact (fT hc (by assumption)).elim)) | skip)) | refine loopK.x ?_)
    | (fail)
    | fail
  all_goals first | (exfalso; omega) | exact ret1f rfl rfl rfl (fun w1 hw => ⟨rfl, hw.below⟩)
end Go.Proofs.YtdiciemlbhkilaaGreatDoor
