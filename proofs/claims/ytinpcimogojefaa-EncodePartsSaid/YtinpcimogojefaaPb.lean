/- EncodeParts' walk. -/
import Derived.Test.YtinpcimogojefaaPa
import Derived.Test.YtinpcimogojefaaKh
namespace Go.Proofs.Ytinpcimogojefaa
open Go Go.Cx Go.RowKit
set_option linter.unusedVariables false
set_option linter.unusedSimpArgs false
set_option maxHeartbeats 4000000
attribute [local irreducible] J JC thenK blockK loopK roundK drawK retK QW Qt pel List.set Calls
attribute [local irreducible] JE Br eK0 eK2 eK3 brK
section
variable {P : Program} {n : Nat} {w0 : World} {R : Heap} {l0 : List Oper} {K : Exit → Fr → List Heap → Prop} {f : Fr} {L : List Heap} {rest : List (Nat × Oper)} {κ : Nat}
variable {Γ : List (Nat × TI)} {d : Nat} {ty : TypeId} {pos : String} {aft : Array Edge} {g : Option (Nat × Bool)} {t e : TypeId} {x y : Operand} {a : Option Addr} {len cap : Nat}
/-- x[i:] of a slice -/
theorem slG {ki : IntKind} {j : Int} (m sz : Nat) {s1 b1 : Nat} {z1 : Option Value} {te : TI} (hΓ : Fits P Γ)
    (k : J P n w0 R l0 K rest (upd f d (.slice (if cap = m then a else a.map (·.add (m * sz))) (len - m) (cap - m))) L)
    (hg : wantB n f l0 ⟨some d, .slice t x (some y) none none, ty, pos, aft, g⟩ = true := by exact rfl) (hx : Cx.ev n f x = .slice a len cap := by exact rfl) (hy : Cx.ev n f y = .int ki j := by exact rfl) (ht : Go.Cx.look Γ t = some ⟨.slice e, s1, z1, b1⟩ := by exact rfl) (hte : Go.Cx.look Γ e = some te := by exact rfl) (hsz : te.size = sz := by exact rfl) (hm : j = (m : Int) := by omega) (h1 : m ≤ len := by omega) :
    J P n w0 R l0 K ((κ, ⟨some d, .slice t x (some y) none none, ty, pos, aft, g⟩) :: rest) f L :=
  J.p hg (fun w => by
    subst hm
    subst hsz
    have hu : P.underlying t = some (.slice e) := (hΓ t _ ht).1
    have he : P.elem t = e := by unfold Program.elem; rw [hu]
    have hu' : P.underlying t = some (.slice (P.elem t)) := by rw [he]; exact hu
    have : (Instr.sliceAt t (.slice a len cap) (some (.int ki (m : Int))) none none).run P w = .ok (.slice (if cap = m then a else a.map (·.add (m * te.size))) (len - m) (cap - m)) w := by
      rw [run_sliceAt_slice w t _ _ _ _ hu', run_slice_l w t a len cap hu' ki (m : Int) (by omega) (by omega), he, sizeOf_run hΓ hte w]
      simp [sliced, Result.andThen]
    simp only [execOp, hx, hy, Sem.run_bind, Option.map_some, Option.map_none]
    rw [this]
    rfl) k
/-- x[:j] of a slice -/
theorem slF {ki : IntKind} {j : Int} {m s1 b1 : Nat} {z1 : Option Value} {te : TI} (hΓ : Fits P Γ)
    (k : J P n w0 R l0 K rest (upd f d (.slice a m cap)) L)
    (hg : wantB n f l0 ⟨some d, .slice t x none (some y) none, ty, pos, aft, g⟩ = true := by exact rfl) (hx : Cx.ev n f x = .slice a len cap := by exact rfl) (hy : Cx.ev n f y = .int ki j := by exact rfl) (ht : Go.Cx.look Γ t = some ⟨.slice e, s1, z1, b1⟩ := by exact rfl) (hte : Go.Cx.look Γ e = some te := by exact rfl) (hm : j = (m : Int) := by omega) (h1 : m ≤ cap := by omega) :
    J P n w0 R l0 K ((κ, ⟨some d, .slice t x none (some y) none, ty, pos, aft, g⟩) :: rest) f L :=
  J.p hg (fun w => by
    subst hm
    have hu : P.underlying t = some (.slice e) := (hΓ t _ ht).1
    have he : P.elem t = e := by unfold Program.elem; rw [hu]
    have hu' : P.underlying t = some (.slice (P.elem t)) := by rw [he]; exact hu
    have : (Instr.sliceAt t (.slice a len cap) none (some (.int ki (m : Int))) none).run P w = .ok (.slice a m cap) w := by
      rw [run_sliceAt_slice w t _ _ _ _ hu', run_slice_h w t a len cap hu' ki (m : Int) (by omega) (by omega), he, sizeOf_run hΓ hte w]
      cases a <;> simp [sliced, Result.andThen, Addr.add]
    simp only [execOp, hx, hy, Sem.run_bind, Option.map_some, Option.map_none]
    rw [this]
    rfl) k
end
theorem slT_take {α : Type} {enc : α → List Value} {size : Nat} {a : Option Addr} {ts : List α} {h : Heap} (hs : SlT enc size a ts h) (k : Nat) : SlT enc size a (ts.take k) h := by
  refine ⟨hs.len, fun i hi => ?_⟩
  rw [List.length_take] at hi
  obtain ⟨b, off, cs, e, fr, h1, h2, h3, h4⟩ := hs.at_ i (by omega)
  exact ⟨b, off, cs, e, fr, h1, h2, h3, by rw [h4, List.getElem_take]⟩
theorem slT_drop {α : Type} {enc : α → List Value} {size : Nat} {a : Option Addr} {ts : List α} {h : Heap} (hs : SlT enc size a ts h) (k cap : Nat) (hc : ts.length ≤ cap) : SlT enc size (if cap = k then a else a.map (·.add (k * size))) (ts.drop k) h := by
  refine ⟨hs.len, fun i hi => ?_⟩
  rw [List.length_drop] at hi
  obtain ⟨b, off, cs, e, fr, h1, h2, h3, h4⟩ := hs.at_ (k + i) (by omega)
  rw [if_neg (by omega), h1]
  have ha : (⟨b, off, none⟩ : Addr).add (k * size) = ⟨b, off + k * size, none⟩ := by
    unfold Addr.add
    split
    · rename_i h0; rw [h0]; rfl
    · rfl
  refine ⟨b, off + k * size, cs, e, fr, by rw [Option.map_some, ha], h2, ?_, ?_⟩
  · rw [show off + k * size + (i + 1) * size = off + (k + i + 1) * size by rw [Nat.add_assoc, ← Nat.add_mul, Nat.add_assoc]]; exact h3
  · rw [show off + k * size + i * size = off + (k + i) * size by rw [Nat.add_assoc, ← Nat.add_mul], h4, List.getElem_drop]
theorem encTh (n : Int) (a : Option Addr) (cap m : Nat) (ss : List SV) (h : Heap) (hs : SumsIn a ss h) (hsl : ss.length ≤ 1000000) (hm : m = ss.length) (w : World) (hw : Holds h w) :
    Calls Try.prog 20 #[.int .i64 n, .slice a m cap] w (Gives (fun v g => ∃ g0 g1 aa ka vs, g = g0 ++ g1 ∧ v = .tuple #[.agg ⟨[.int .i64 (encR n (ss.map psV)).2.1, .slice aa vs.length ka]⟩, .int .i64 (encR n (ss.map psV)).1] ∧ OwT encHV 1 22 aa ka vs g0 ∧ (∀ v, v ∈ vs → SlT encI 1 v.a v.l g1) ∧ vs.map (·.l) = (encR n (ss.map psV)).2.2) w) := by
  subst hm
  refine (encode_any n a cap ss h hs hsl w hw).mono ?_
  rintro e w' ⟨v, g, h1, h2, h3, h4, h5, tv, g0, g1, h6, rfl, aa, ka, vs, rfl, oo, oi, hvs⟩
  exact ⟨v, _, h1, h2, h3, h4, h5, g0, g1, aa, ka, vs, rfl, h6, oo, oi, hvs⟩
theorem hpart {w0 w : World} {R a b : Heap} {L : List Heap} (h : H w0 R ((a ++ b) :: L) w) : H w0 R (a :: b :: L) w := by rw [H.eq_mg]; exact h
theorem llr_app {aa : Option Addr} {ka : Nat} {vs : List HV} {g0 g1 : Heap} (oo : OwT encHV 1 22 aa ka vs g0) (oi : ∀ v, v ∈ vs → SlT encI 1 v.a v.l g1) : LLR aa vs (g0 ++ g1) :=
  ⟨oo.sl.sub (fun _ hx => List.mem_append_left _ hx), fun v hv => (oi v hv).sub (fun _ hx => List.mem_append_right _ hx)⟩
set_option maxHeartbeats 16000000 in
theorem parts_walk (n : Int) (a : Option Addr) (cap : Nat) (ss : List SV) (at_ : Int) (h : Heap) (hs : SumsIn a ss h) (hl : ss.length ≤ 9223372036854775807) (hcap : ss.length ≤ cap) (hat : 0 ≤ at_ ∧ at_ ≤ 255) (w : World) (hw : Holds h w) :
    Calls Try.prog 5 #[.int .i64 n, .slice a ss.length cap, .int .u8 at_] w fun e w' => e = .returned (.bool true) ∧ Below w.heap.size w w' := by
  have q0 : ∀ L, RdH h L h := fun L => RdH.old fun _ hh => hh
  have cL := fun w hw => light_any a cap ss h hs hl w hw
  refine calls_of_JC (R := h) Try.func5 Try.ntmps5 rfl rfl (hw) ?_
  cases hlt : lightP ss with
  | false =>
    rw [hlt] at cL
    repeat' first
      | (refine J.isJ ?_; first | (first | (refine J.fc 13 ?_; refine J.call0 eLight rfl rfl (fun w hw => cL w (hw.rdH (q0 _))) ?_) | (refine J.fc 14 ?_; refine J.call0 eWorks rfl rfl (fun w hw => works_any w) ?_)) | (first | (refine J.o 0 ?_; refine J.ev' hΓ ?_) | refine J.nil ?_ | refine J.kd ?_ | (refine J.o 4 ?_; first | refine J.e0 hΓ ?_ | refine J.lT default hΓ ?_ | refine J.e1 hΓ ?_ | refine J.e2 hΓ ?_ | refine J.lR hΓ ?_) | (refine J.o 3 ?_; first | refine J.iA hΓ ?_ | refine J.iJ hΓ ?_ | refine J.fP hΓ ?_ | refine J.iC hΓ ?_ | refine J.ev' hΓ ?_) | (refine J.o 1 ?_; first | refine J.ad ?_ | refine J.sb ?_ | refine J.ng ?_ | refine J.mu ?_) | (refine J.o 5 ?_; first | refine J.t0 hΓ ?_ | refine J.t1 hΓ ?_ | refine J.t2 hΓ ?_) | (refine J.o 6 ?_; refine J.bx (fun _ => ?_)) | (refine J.o 7 ?_; refine J.al hΓ (fun _ => ?_)) | (refine J.o 8 ?_; refine J.bd hΓ ?_) | (refine J.o 9 ?_; refine J.bl hΓ (fun _ => ?_)) | (refine J.o 10 ?_; first | refine J.ls hΓ ?_ | refine J.ev' hΓ ?_) | (refine J.o 11 ?_; refine J.ev' hΓ ?_) | refine J.kn ?_) | ((fail_if_success refine J.wt ?_); refine J.gc rfl rfl (fun hc => ?_) (fun hc => ?_) <;> ((try simp only [decide_eq_true_eq, decide_eq_false_iff_not, beq_iff_eq, beq_eq_false_iff_ne, bne_iff_ne, bne_eq_false_iff_eq, Bool.not_eq_true', Bool.not_eq_false', Bool.not_eq_true, Bool.not_eq_false] at hc) <;> first | (first | (exact absurd rfl hc) | (exfalso; omega) | (exact absurd (hc.symm.trans (by assumption : _ = false)) (by decide)) | (exact absurd (hc.symm.trans (by assumption : _ = true)) (by decide))) | skip)))
      | (first | refine JC.seq ?_ | refine JC.region ?_ | refine JC.block ?_ | refine JC.ret ?_ | refine JC.exit ?_ | refine JC.skip ?_ | refine thenK.nn ?_ | refine thenK.r ?_ | refine thenK.x ?_ | refine blockK.nn ?_ | refine blockK.r ?_ | refine blockK.hit rfl ?_ | refine blockK.miss rfl ?_ | refine JC.condT rfl ?_ | refine JC.condF rfl ?_ | (refine JC.cond rfl (fun hc => ?_) (fun hc => ?_) <;> ((try simp only [decide_eq_true_eq, decide_eq_false_iff_not, beq_iff_eq, beq_eq_false_iff_ne, bne_iff_ne, bne_eq_false_iff_eq, Bool.not_eq_true', Bool.not_eq_false', Bool.not_eq_true, Bool.not_eq_false] at hc) <;> first | (first | (exact absurd rfl hc) | (exfalso; omega) | (exact absurd (hc.symm.trans (by assumption : _ = false)) (by decide)) | (exact absurd (hc.symm.trans (by assumption : _ = true)) (by decide))) | skip)) | (refine JC.drawA [] (by kernel_rfl) (by kernel_rfl) ?_) | refine drawK.nn ?_ | refine roundK.nn ?_ | refine roundK.r ?_ | refine roundK.x ?_ | refine loopK.r ?_ | refine loopK.x ?_)
      | (fail)
      | fail
    all_goals first | (exfalso; omega) | exact ret1f rfl rfl rfl (fun w1 hw => ⟨rfl, hw.below⟩)
  | true =>
    rw [hlt] at cL
    obtain ⟨hsz, h40⟩ := light39 hlt
    obtain ⟨K, hK, hKl⟩ : ∃ K : Nat, at_ % ((ss.length : Int) + 1) = (K : Int) ∧ K ≤ ss.length := by
      have h1 := Int.emod_nonneg at_ (show (ss.length : Int) + 1 ≠ 0 by omega)
      have h2 := Int.emod_lt_of_pos at_ (show 0 < (ss.length : Int) + 1 by omega)
      exact ⟨(at_ % ((ss.length : Int) + 1)).toNat, by omega, by omega⟩
    obtain ⟨so, si⟩ := hs
    have hp : (encR n (ss.map psV)).1 = 0 → PartsOk n (encR n (ss.map psV)) (encR n ((ss.take K).map psV)) (encR n ((ss.drop K).map psV)) := fun h0 => by
      have e : ss.map psV = (ss.take K).map psV ++ (ss.drop K).map psV := by rw [← List.map_append, List.take_append_drop]
      rw [e] at h0 ⊢
      exact parts_ok h0
    have cT := fun w hw => encTh n a cap ss.length ss h ⟨so, si⟩ (by omega) rfl w hw
    have cA := fun w hw => encTh n a cap K (ss.take K) h ⟨slT_take so K, fun s hs => si s (List.mem_of_mem_take hs)⟩ (by rw [List.length_take]; omega) (by rw [List.length_take]; omega) w hw
    have cB := fun w hw => encTh n (if cap = K then a else a.map (·.add (K * 3))) (cap - K) (ss.length - K) (ss.drop K) h ⟨slT_drop so K cap hcap, fun s hs => si s (List.mem_of_mem_drop hs)⟩ (by rw [List.length_drop]; omega) (by rw [List.length_drop]) w hw
    generalize encR n (ss.map psV) = E0 at *
    generalize encR n ((ss.take K).map psV) = E1 at *
    generalize encR n ((ss.drop K).map psV) = E2 at *
    obtain ⟨ec, eN, eT⟩ := E0
    obtain ⟨ec1, eN1, eT1⟩ := E1
    obtain ⟨ec2, eN2, eT2⟩ := E2
    dsimp only at hp cT cA cB
    by_cases he : ec = 0
    case neg =>
      repeat' first
        | (refine J.isJ ?_; first | (first | (refine J.fc 13 ?_; refine J.call0 eLight rfl rfl (fun w hw => cL w (hw.rdH (q0 _))) ?_) | (refine J.o 2 ?_; refine J.cv _ hΓ ?_) | (refine J.o 1 ?_; refine J.rm ?_) | (refine J.o 13 ?_; first | refine slF (m := K) hΓ ?_ | refine slG K 3 hΓ ?_) | (refine J.fc 20 ?_; refine J.call1 eEncode rfl rfl (fun w hw => cT w (hw.rdH (q0 _))) ?_; rintro _ _ ⟨_, _, _, _, _, rfl, rfl, _⟩) | (refine J.fc 20 ?_; refine J.call1 eEncode rfl rfl (fun w hw => cA w (hw.rdH (q0 _))) ?_; rintro _ _ ⟨_, _, _, _, _, rfl, rfl, _⟩) | (refine J.fc 20 ?_; refine J.call1 eEncode rfl rfl (fun w hw => cB w (hw.rdH (q0 _))) ?_; rintro _ _ ⟨_, _, _, _, _, rfl, rfl, _⟩) | (refine J.fc 14 ?_; refine J.call0 eWorks rfl rfl (fun w hw => works_any w) ?_)) | (first | (refine J.o 0 ?_; refine J.ev' hΓ ?_) | refine J.nil ?_ | refine J.kd ?_ | (refine J.o 4 ?_; first | refine J.e0 hΓ ?_ | refine J.lT default hΓ ?_ | refine J.e1 hΓ ?_ | refine J.e2 hΓ ?_ | refine J.lR hΓ ?_) | (refine J.o 3 ?_; first | refine J.iA hΓ ?_ | refine J.iJ hΓ ?_ | refine J.fP hΓ ?_ | refine J.iC hΓ ?_ | refine J.ev' hΓ ?_) | (refine J.o 1 ?_; first | refine J.ad ?_ | refine J.sb ?_ | refine J.ng ?_ | refine J.mu ?_) | (refine J.o 5 ?_; first | refine J.t0 hΓ ?_ | refine J.t1 hΓ ?_ | refine J.t2 hΓ ?_) | (refine J.o 6 ?_; refine J.bx (fun _ => ?_)) | (refine J.o 7 ?_; refine J.al hΓ (fun _ => ?_)) | (refine J.o 8 ?_; refine J.bd hΓ ?_) | (refine J.o 9 ?_; refine J.bl hΓ (fun _ => ?_)) | (refine J.o 10 ?_; first | refine J.ls hΓ ?_ | refine J.ev' hΓ ?_) | (refine J.o 11 ?_; refine J.ev' hΓ ?_) | refine J.kn ?_) | ((fail_if_success refine J.wt ?_); refine J.gc rfl rfl (fun hc => ?_) (fun hc => ?_) <;> ((try simp only [decide_eq_true_eq, decide_eq_false_iff_not, beq_iff_eq, beq_eq_false_iff_ne, bne_iff_ne, bne_eq_false_iff_eq, Bool.not_eq_true', Bool.not_eq_false', Bool.not_eq_true, Bool.not_eq_false] at hc) <;> first | (first | (exact absurd rfl hc) | (exfalso; omega) | (exact absurd (hc.symm.trans (by assumption : _ = false)) (by decide)) | (exact absurd (hc.symm.trans (by assumption : _ = true)) (by decide))) | skip)))
        | (first | refine JC.seq ?_ | refine JC.region ?_ | refine JC.block ?_ | refine JC.ret ?_ | refine JC.exit ?_ | refine JC.skip ?_ | refine thenK.nn ?_ | refine thenK.r ?_ | refine thenK.x ?_ | refine blockK.nn ?_ | refine blockK.r ?_ | refine blockK.hit rfl ?_ | refine blockK.miss rfl ?_ | refine JC.condT rfl ?_ | refine JC.condF rfl ?_ | (refine JC.cond rfl (fun hc => ?_) (fun hc => ?_) <;> ((try simp only [decide_eq_true_eq, decide_eq_false_iff_not, beq_iff_eq, beq_eq_false_iff_ne, bne_iff_ne, bne_eq_false_iff_eq, Bool.not_eq_true', Bool.not_eq_false', Bool.not_eq_true, Bool.not_eq_false] at hc) <;> first | (first | (exact absurd rfl hc) | (exfalso; omega) | (exact absurd (hc.symm.trans (by assumption : _ = false)) (by decide)) | (exact absurd (hc.symm.trans (by assumption : _ = true)) (by decide))) | skip)) | (refine JC.drawA [] (by kernel_rfl) (by kernel_rfl) ?_) | refine drawK.nn ?_ | refine roundK.nn ?_ | refine roundK.r ?_ | refine roundK.x ?_ | refine loopK.r ?_ | refine loopK.x ?_)
        | (fail)
        | fail
      all_goals first | (exfalso; omega) | skip
      all_goals exact ret1f rfl rfl rfl (fun w1 hw => ⟨rfl, hw.below⟩)
    subst he
    obtain ⟨hn, hf, hg, hN, hT, lo1, hi1, lo2, hi2, t1, t2, l1, l2⟩ := hp rfl
    dsimp only at hf hg hN hT lo1 hi1 lo2 hi2 t1 t2 l1 l2
    subst hf
    subst hg
    subst hN
    subst hT
    clear hp
    repeat' first
      | (refine J.isJ ?_; first | (first | (refine J.fc 13 ?_; refine J.call0 eLight rfl rfl (fun w hw => cL w (hw.rdH (q0 _))) ?_) | (refine J.o 2 ?_; refine J.cv _ hΓ ?_) | (refine J.o 1 ?_; refine J.rm ?_) | (refine J.o 13 ?_; first | refine slF (m := K) hΓ ?_ | refine slG K 3 hΓ ?_) | (refine J.fc 20 ?_; refine J.call1 eEncode rfl rfl (fun w hw => cT w (hw.rdH (q0 _))) ?_; rintro _ _ ⟨gT0, gT1, aT, kT, vT, rfl, rfl, oT, iT, hvT⟩) | (refine J.fc 20 ?_; refine J.call1 eEncode rfl rfl (fun w hw => cA w (hw.rdH (q0 _))) ?_; rintro _ _ ⟨gA0, gA1, aA, kA, vA, rfl, rfl, oA, iA, hvA⟩) | (refine J.fc 20 ?_; refine J.call1 eEncode rfl rfl (fun w hw => cB w (hw.rdH (q0 _))) ?_; rintro _ _ ⟨gB0, gB1, aB, kB, vB, rfl, rfl, oB, iB, hvB⟩) | (refine J.fc 14 ?_; refine J.call0 eWorks rfl rfl (fun w hw => works_any w) ?_) | (refine J.o 4 ?_; first | refine J.lR hΓ ?_ (hr := Rd.hd) | refine J.lR hΓ ?_ (hr := Rd.hd.tl.tl) | refine J.lR hΓ ?_ (hr := Rd.hd.tl.tl.tl.tl))) | (first | (refine J.o 0 ?_; refine J.ev' hΓ ?_) | refine J.nil ?_ | refine J.kd ?_ | (refine J.o 4 ?_; first | refine J.e0 hΓ ?_ | refine J.lT default hΓ ?_ | refine J.e1 hΓ ?_ | refine J.e2 hΓ ?_ | refine J.lR hΓ ?_) | (refine J.o 3 ?_; first | refine J.iA hΓ ?_ | refine J.iJ hΓ ?_ | refine J.fP hΓ ?_ | refine J.iC hΓ ?_ | refine J.ev' hΓ ?_) | (refine J.o 1 ?_; first | refine J.ad ?_ | refine J.sb ?_ | refine J.ng ?_ | refine J.mu ?_) | (refine J.o 5 ?_; first | refine J.t0 hΓ ?_ | refine J.t1 hΓ ?_ | refine J.t2 hΓ ?_) | (refine J.o 6 ?_; refine J.bx (fun _ => ?_)) | (refine J.o 7 ?_; refine J.al hΓ (fun _ => ?_)) | (refine J.o 8 ?_; refine J.bd hΓ ?_) | (refine J.o 9 ?_; refine J.bl hΓ (fun _ => ?_)) | (refine J.o 10 ?_; first | refine J.ls hΓ ?_ | refine J.ev' hΓ ?_) | (refine J.o 11 ?_; refine J.ev' hΓ ?_) | refine J.kn ?_) | ((fail_if_success refine J.wt ?_); refine J.gc rfl rfl (fun hc => ?_) (fun hc => ?_) <;> ((try simp only [decide_eq_true_eq, decide_eq_false_iff_not, beq_iff_eq, beq_eq_false_iff_ne, bne_iff_ne, bne_eq_false_iff_eq, Bool.not_eq_true', Bool.not_eq_false', Bool.not_eq_true, Bool.not_eq_false] at hc) <;> first | (first | (exact absurd rfl hc) | (exfalso; omega) | (exact absurd (hc.symm.trans (by assumption : _ = false)) (by decide)) | (exact absurd (hc.symm.trans (by assumption : _ = true)) (by decide))) | skip)))
      | (first | refine JC.seq ?_ | refine JC.region ?_ | refine JC.block ?_ | refine JC.ret ?_ | refine JC.exit ?_ | refine JC.skip ?_ | refine thenK.nn ?_ | refine thenK.r ?_ | refine thenK.x ?_ | refine blockK.nn ?_ | refine blockK.r ?_ | refine blockK.hit rfl ?_ | refine blockK.miss rfl ?_ | refine JC.condT rfl ?_ | refine JC.condF rfl ?_ | (refine JC.cond rfl (fun hc => ?_) (fun hc => ?_) <;> ((try simp only [decide_eq_true_eq, decide_eq_false_iff_not, beq_iff_eq, beq_eq_false_iff_ne, bne_iff_ne, bne_eq_false_iff_eq, Bool.not_eq_true', Bool.not_eq_false', Bool.not_eq_true, Bool.not_eq_false] at hc) <;> first | (first | (exact absurd rfl hc) | (exfalso; omega) | (exact absurd (hc.symm.trans (by assumption : _ = false)) (by decide)) | (exact absurd (hc.symm.trans (by assumption : _ = true)) (by decide))) | skip)) | (refine JC.drawA [] (by kernel_rfl) (by kernel_rfl) ?_) | refine drawK.nn ?_ | refine roundK.nn ?_ | refine roundK.r ?_ | refine roundK.x ?_ | refine loopK.r ?_ | refine loopK.x ?_)
      | (fail)
      | fail
    all_goals first | (exfalso; omega) | skip
    rename_i b8 b10 b12
    refine JC.weak (L' := [[(b10, .cells ⟨[.int .i64 eN1, .slice aA vA.length kA]⟩ 37 (0, 0))], gA0, gA1, [(b12, .cells ⟨[.int .i64 eN2, .slice aB vB.length kB]⟩ 37 (0, 0))], gB0 ++ gB1, [(b8, .cells ⟨[.int .i64 (eN1 + eN2 - n), .slice aT vT.length kT]⟩ 37 (0, 0))], gT0 ++ gT1]) (fun w hw => ?_) ?_
    · have h1 := H.sel (l := [_, _, _, _, _, _]) (M := []) hw [3, 2, 0, 1, 4, 5]
      exact (hpart h1).perm br2
    have llB := llr_app oB iB
    have llT := llr_app oT iT
    have hBo := llB.o
    have hBi := llB.i
    have hvBl : vB.length ≤ 4096 := by
      have := congrArg List.length hvB
      rw [List.length_map] at this
      omega
    have hvAl : vA.length ≤ 4096 := by
      have := congrArg List.length hvA
      rw [List.length_map] at this
      omega
    refine JC.gen [(0, .int .i64 n), (8, .pointer (some ⟨b8, 0, none⟩)), (10, .pointer (some ⟨b10, 0, none⟩)), (12, .pointer (some ⟨b12, 0, none⟩)), (73, .slice aB vB.length kB), (74, .int .i64 vB.length), (75, .int .i64 0)] ⟨rfl, rfl, rfl, rfl, rfl, rfl, rfl, trivial⟩ (fun F => ?_)
    refine JC.loopG (fun i => (Nat.ble 14 i && Nat.ble i 18) || Nat.ble 75 i) (fun m g L => ∃ (k : Nat) (aa : Option Addr) (ka : Nat) (vs : List HV) (ho hi : Heap), g 75 = .int .i64 (k : Int) ∧ k + m = vB.length ∧ OwT encHV 1 22 aa ka vs ho ∧ (∀ v, v ∈ vs → SlT encI 1 v.a v.l hi) ∧ vs.map (·.l) = eT1 ++ (renT n (eN1 - n) eT2).take k ∧ L = [[(b10, .cells ⟨[.int .i64 eN1, .slice aa vs.length ka]⟩ 37 (0, 0))], ho, hi, [(b12, .cells ⟨[.int .i64 eN2, .slice aB vB.length kB]⟩ 37 (0, 0))], gB0 ++ gB1, [(b8, .cells ⟨[.int .i64 (eN1 + eN2 - n), .slice aT vT.length kT]⟩ 37 (0, 0))], gT0 ++ gT1]) vB.length
      ⟨0, aA, kA, vA, gA0, gA1, rfl, by omega, oA, iA, by rw [hvA, List.take_zero, List.append_nil], rfl⟩ ?_
    rintro m g L ⟨k, aa, ka, vs, ho, hi, e75, hkm, oo, oi, hvs, rfl⟩
    refine JC.pin 75 e75 ?_
    clear e75
    have hvsl : vs.length ≤ 10000 := by
      have := congrArg List.length hvs
      rw [List.length_map, List.length_append, List.length_take, renT_len] at this
      omega
    rcases Nat.lt_or_ge k vB.length with hk | hk
    case inr =>
      have hkl : (renT n (eN1 - n) eT2).length ≤ k := by
        rw [renT_len, ← hvB, List.length_map]; exact hk
      rw [List.take_of_length_le hkl] at hvs
      have llA := llr_app oo oi
      have lsA : LLS aa vs (ho ++ hi) := LLS.of llA (by rw [List.length_map]; omega) (fun r hr => by
        rw [hvs] at hr
        rcases List.mem_append.1 hr with hr | hr
        · have := (t1 r hr).n; omega
        · obtain ⟨q, hq, rfl⟩ := List.mem_map.1 hr
          rw [List.length_map]
          have := (t2 q hq).n; omega)
      have lsT : LLS aT vT (gT0 ++ gT1) := LLS.of llT (by rw [hvT, ← hvs, List.length_map]; omega) (fun r hr => by
        rw [hvT, ← hvs] at hr
        obtain ⟨q, hq, rfl⟩ := List.mem_map.1 hr
        exact lsA.m q hq)
      have cS : ∀ w, Holds (gT0 ++ gT1) w → Holds (ho ++ hi) w → Calls Try.prog 22 #[.agg ⟨[.int .i64 (eN1 + eN2 - n), .slice aT vT.length kT]⟩, .agg ⟨[.int .i64 (eN1 + eN2 - n), .slice aa vs.length ka]⟩] w fun e w' => e = .returned (.bool true) ∧ Below w.heap.size w w' := fun w h1 h2 => by
        have c := same05_any (eN1 + eN2 - n) (eN1 + eN2 - n) aT aa kT ka vT vs _ _ lsT lsA w h1 h2
        rw [hvT, hvs, decide_eq_true ⟨rfl, rfl⟩] at c
        exact c
      repeat' first
        | (refine J.isJ ?_; first | (first | (refine J.o 4 ?_; first | refine J.lR hΓ ?_ (hr := Rd.hd.tl.tl.tl.tl.tl) | refine J.lR hΓ ?_ (hr := Rd.hd)) | (refine J.fc 22 ?_; refine J.call0 eSame05 rfl rfl (fun w hw => cS w (hw.rdH (by first | exact RdH.hd | exact RdH.hd.tl | exact RdH.hd.tl.tl | exact RdH.hd.tl.tl.tl | exact RdH.hd.tl.tl.tl.tl | exact RdH.hd.tl.tl.tl.tl.tl | exact RdH.hd.tl.tl.tl.tl.tl.tl | exact RdH.hd.tl.tl.tl.tl.tl.tl.tl | exact RdH.old (fun _ hh => hh) | assumption)) (hw.rdH (RdH.append RdH.hd.tl RdH.hd.tl.tl))) ?_) | (refine J.fc 14 ?_; refine J.call0 eWorks rfl rfl (fun w hw => works_any w) ?_)) | (first | (refine J.o 0 ?_; refine J.ev' hΓ ?_) | refine J.nil ?_ | refine J.kd ?_ | (refine J.o 4 ?_; first | refine J.e0 hΓ ?_ | refine J.lT default hΓ ?_ | refine J.e1 hΓ ?_ | refine J.e2 hΓ ?_ | refine J.lR hΓ ?_) | (refine J.o 3 ?_; first | refine J.iA hΓ ?_ | refine J.iJ hΓ ?_ | refine J.fP hΓ ?_ | refine J.iC hΓ ?_ | refine J.ev' hΓ ?_) | (refine J.o 1 ?_; first | refine J.ad ?_ | refine J.sb ?_ | refine J.ng ?_ | refine J.mu ?_) | (refine J.o 5 ?_; first | refine J.t0 hΓ ?_ | refine J.t1 hΓ ?_ | refine J.t2 hΓ ?_) | (refine J.o 6 ?_; refine J.bx (fun _ => ?_)) | (refine J.o 7 ?_; refine J.al hΓ (fun _ => ?_)) | (refine J.o 8 ?_; refine J.bd hΓ ?_) | (refine J.o 9 ?_; refine J.bl hΓ (fun _ => ?_)) | (refine J.o 10 ?_; first | refine J.ls hΓ ?_ | refine J.ev' hΓ ?_) | (refine J.o 11 ?_; refine J.ev' hΓ ?_) | refine J.kn ?_) | ((fail_if_success refine J.wt ?_); refine J.gc rfl rfl (fun hc => ?_) (fun hc => ?_) <;> ((try simp only [decide_eq_true_eq, decide_eq_false_iff_not, beq_iff_eq, beq_eq_false_iff_ne, bne_iff_ne, bne_eq_false_iff_eq, Bool.not_eq_true', Bool.not_eq_false', Bool.not_eq_true, Bool.not_eq_false] at hc) <;> first | (first | (exact absurd rfl hc) | (exfalso; omega) | (exact absurd (hc.symm.trans (by assumption : _ = false)) (by decide)) | (exact absurd (hc.symm.trans (by assumption : _ = true)) (by decide))) | skip)))
        | (first | refine JC.seq ?_ | refine JC.region ?_ | refine JC.block ?_ | refine JC.ret ?_ | refine JC.exit ?_ | refine JC.skip ?_ | refine thenK.nn ?_ | refine thenK.r ?_ | refine thenK.x ?_ | refine blockK.nn ?_ | refine blockK.r ?_ | refine blockK.hit rfl ?_ | refine blockK.miss rfl ?_ | refine JC.condT rfl ?_ | refine JC.condF rfl ?_ | (refine JC.cond rfl (fun hc => ?_) (fun hc => ?_) <;> ((try simp only [decide_eq_true_eq, decide_eq_false_iff_not, beq_iff_eq, beq_eq_false_iff_ne, bne_iff_ne, bne_eq_false_iff_eq, Bool.not_eq_true', Bool.not_eq_false', Bool.not_eq_true, Bool.not_eq_false] at hc) <;> first | (first | (exact absurd rfl hc) | (exfalso; omega) | (exact absurd (hc.symm.trans (by assumption : _ = false)) (by decide)) | (exact absurd (hc.symm.trans (by assumption : _ = true)) (by decide))) | skip)) | (refine JC.drawA [] (by kernel_rfl) (by kernel_rfl) ?_) | refine drawK.nn ?_ | refine roundK.nn ?_ | refine roundK.r ?_ | refine roundK.x ?_ | refine loopK.r ?_ | refine loopK.x ?_)
        | (fail)
        | fail
      all_goals first | (exfalso; omega) | exact ret1f rfl rfl rfl (fun w1 hw => ⟨rfl, hw.below⟩)
    have hm := mem_g vB k hk
    have hik := hBi _ hm
    have hmb : (vB.getD k default).l ∈ eT2 := by rw [← hvB]; exact List.mem_map_of_mem (f := fun v : HV => v.l) hm
    have hck := t2 _ hmb
    have hcn := hck.n
    repeat' first
      | (refine J.isJ ?_; first | ((refine J.o 4 ?_; first | refine J.lT default hΓ ?_ (hs := hBo) (hr := RdH.hd.tl.tl.tl.tl))) | (first | (refine J.o 0 ?_; refine J.ev' hΓ ?_) | refine J.nil ?_ | refine J.kd ?_ | (refine J.o 4 ?_; first | refine J.e0 hΓ ?_ | refine J.lT default hΓ ?_ | refine J.e1 hΓ ?_ | refine J.e2 hΓ ?_ | refine J.lR hΓ ?_) | (refine J.o 3 ?_; first | refine J.iA hΓ ?_ | refine J.iJ hΓ ?_ | refine J.fP hΓ ?_ | refine J.iC hΓ ?_ | refine J.ev' hΓ ?_) | (refine J.o 1 ?_; first | refine J.ad ?_ | refine J.sb ?_ | refine J.ng ?_ | refine J.mu ?_) | (refine J.o 5 ?_; first | refine J.t0 hΓ ?_ | refine J.t1 hΓ ?_ | refine J.t2 hΓ ?_) | (refine J.o 6 ?_; refine J.bx (fun _ => ?_)) | (refine J.o 7 ?_; refine J.al hΓ (fun _ => ?_)) | (refine J.o 8 ?_; refine J.bd hΓ ?_) | (refine J.o 9 ?_; refine J.bl hΓ (fun _ => ?_)) | (refine J.o 10 ?_; first | refine J.ls hΓ ?_ | refine J.ev' hΓ ?_) | (refine J.o 11 ?_; refine J.ev' hΓ ?_) | refine J.kn ?_) | ((fail_if_success refine J.wt ?_); refine J.gc rfl rfl (fun hc => ?_) (fun hc => ?_) <;> ((try simp only [decide_eq_true_eq, decide_eq_false_iff_not, beq_iff_eq, beq_eq_false_iff_ne, bne_iff_ne, bne_eq_false_iff_eq, Bool.not_eq_true', Bool.not_eq_false', Bool.not_eq_true, Bool.not_eq_false] at hc) <;> first | (first | (exact absurd rfl hc) | (exfalso; omega) | (exact absurd (hc.symm.trans (by assumption : _ = false)) (by decide)) | (exact absurd (hc.symm.trans (by assumption : _ = true)) (by decide))) | skip)))
      | (first | refine JC.seq ?_ | refine JC.region ?_ | refine JC.block ?_ | refine JC.ret ?_ | refine JC.exit ?_ | refine JC.skip ?_ | refine thenK.nn ?_ | refine thenK.r ?_ | refine thenK.x ?_ | refine blockK.nn ?_ | refine blockK.r ?_ | refine blockK.hit rfl ?_ | refine blockK.miss rfl ?_ | refine JC.condT rfl ?_ | refine JC.condF rfl ?_ | (refine JC.cond rfl (fun hc => ?_) (fun hc => ?_) <;> ((try simp only [decide_eq_true_eq, decide_eq_false_iff_not, beq_iff_eq, beq_eq_false_iff_ne, bne_iff_ne, bne_eq_false_iff_eq, Bool.not_eq_true', Bool.not_eq_false', Bool.not_eq_true, Bool.not_eq_false] at hc) <;> first | (first | (exact absurd rfl hc) | (exfalso; omega) | (exact absurd (hc.symm.trans (by assumption : _ = false)) (by decide)) | (exact absurd (hc.symm.trans (by assumption : _ = true)) (by decide))) | skip)) | refine drawK.nn ?_ | refine roundK.nn ?_ | refine roundK.r ?_ | refine roundK.x ?_ | refine loopK.r ?_ | refine loopK.x ?_)
      | (fail)
      | fail
    all_goals first | (exfalso; omega) | skip
    refine JC.nilF ?_
    refine JC.loopG (fun i => i == 16 || i == 18 || Nat.ble 81 i) (fun m g L => ∃ (j : Nat) (ad : Option Addr) (kd : Nat) (hd : Heap), g 81 = .int .i64 (j : Int) ∧ j + m = (vB.getD k default).l.length ∧ g 16 = .slice ad (((vB.getD k default).l.take j).map (renI n (eN1 - n))).length kd ∧ OwT encI 1 3 ad kd (((vB.getD k default).l.take j).map (renI n (eN1 - n))) hd ∧ L = [hd, [(b10, .cells ⟨[.int .i64 eN1, .slice aa vs.length ka]⟩ 37 (0, 0))], ho, hi, [(b12, .cells ⟨[.int .i64 eN2, .slice aB vB.length kB]⟩ 37 (0, 0))], gB0 ++ gB1, [(b8, .cells ⟨[.int .i64 (eN1 + eN2 - n), .slice aT vT.length kT]⟩ 37 (0, 0))], gT0 ++ gT1]) (vB.getD k default).l.length
      ⟨0, none, 0, [], rfl, by omega, rfl, OwT.nil (fun _ => rfl), rfl⟩ ?_
    rintro m3 g3 L3 ⟨j, ad, kd, hd, e81, hjm, e16, od, rfl⟩
    refine JC.pin 81 e81 (JC.pin 16 e16 ?_)
    clear e81 e16
    have hdl : (((vB.getD k default).l.take j).map (renI n (eN1 - n))).length ≤ 3 := by rw [List.length_map, List.length_take]; omega
    have hone : ∀ y : Int, renI n (eN1 - n) ((vB.getD k default).l.getD j default) = y → j < (vB.getD k default).l.length → ((vB.getD k default).l.take j).map (renI n (eN1 - n)) ++ [y] = ((vB.getD k default).l.take (j + 1)).map (renI n (eN1 - n)) := fun y h1 hj => by
      rw [take_g _ j hj, List.map_append, List.map_singleton, h1]
    rcases Nat.lt_or_ge j (vB.getD k default).l.length with hj | hj
    case inl =>
      have hx := hck.v _ (getD_mem (vB.getD k default).l j hj)
      repeat' first
        | (refine J.isJ ?_; first | (first | (refine J.o 4 ?_; first | refine J.lT default hΓ ?_ (hs := hik) (hr := RdH.hd.tl.tl.tl.tl.tl)) | (refine J.o 9 ?_; first | refine J.ap1 (enc := encI) [(vB.getD k default).l.getD j default] hΓ (fun a4 k4 h4 o4 => ?_) | refine J.ap1 (enc := encI) [(vB.getD k default).l.getD j default + (eN1 - n)] hΓ (fun a4 k4 h4 o4 => ?_) | refine J.ap1 (enc := encI) [(vB.getD k default).l.getD j default - (eN1 - n)] hΓ (fun a4 k4 h4 o4 => ?_))) | (first | (refine J.o 0 ?_; refine J.ev' hΓ ?_) | refine J.nil ?_ | refine J.kd ?_ | (refine J.o 4 ?_; first | refine J.e0 hΓ ?_ | refine J.lT default hΓ ?_ | refine J.e1 hΓ ?_ | refine J.e2 hΓ ?_ | refine J.lR hΓ ?_) | (refine J.o 3 ?_; first | refine J.iA hΓ ?_ | refine J.iJ hΓ ?_ | refine J.fP hΓ ?_ | refine J.iC hΓ ?_ | refine J.ev' hΓ ?_) | (refine J.o 1 ?_; first | refine J.ad ?_ | refine J.sb ?_ | refine J.ng ?_ | refine J.mu ?_) | (refine J.o 5 ?_; first | refine J.t0 hΓ ?_ | refine J.t1 hΓ ?_ | refine J.t2 hΓ ?_) | (refine J.o 6 ?_; refine J.bx (fun _ => ?_)) | (refine J.o 7 ?_; refine J.al hΓ (fun _ => ?_)) | (refine J.o 8 ?_; refine J.bd hΓ ?_) | (refine J.o 9 ?_; refine J.bl hΓ (fun _ => ?_)) | (refine J.o 10 ?_; first | refine J.ls hΓ ?_ | refine J.ev' hΓ ?_) | (refine J.o 11 ?_; refine J.ev' hΓ ?_) | refine J.kn ?_) | ((fail_if_success refine J.wt ?_); refine J.gc rfl rfl (fun hc => ?_) (fun hc => ?_) <;> ((try simp only [decide_eq_true_eq, decide_eq_false_iff_not, beq_iff_eq, beq_eq_false_iff_ne, bne_iff_ne, bne_eq_false_iff_eq, Bool.not_eq_true', Bool.not_eq_false', Bool.not_eq_true, Bool.not_eq_false] at hc) <;> first | (first | (exact absurd rfl hc) | (exfalso; omega) | (exact absurd (hc.symm.trans (by assumption : _ = false)) (by decide)) | (exact absurd (hc.symm.trans (by assumption : _ = true)) (by decide))) | skip)))
        | (first | refine JC.seq ?_ | refine JC.region ?_ | refine JC.block ?_ | refine JC.ret ?_ | refine JC.exit ?_ | refine JC.skip ?_ | refine thenK.nn ?_ | refine thenK.r ?_ | refine thenK.x ?_ | refine blockK.nn ?_ | refine blockK.r ?_ | refine blockK.hit rfl ?_ | refine blockK.miss rfl ?_ | refine JC.condT rfl ?_ | refine JC.condF rfl ?_ | (refine JC.cond rfl (fun hc => ?_) (fun hc => ?_) <;> ((try simp only [decide_eq_true_eq, decide_eq_false_iff_not, beq_iff_eq, beq_eq_false_iff_ne, bne_iff_ne, bne_eq_false_iff_eq, Bool.not_eq_true', Bool.not_eq_false', Bool.not_eq_true, Bool.not_eq_false] at hc) <;> first | (first | (exact absurd rfl hc) | (exfalso; omega) | (exact absurd (hc.symm.trans (by assumption : _ = false)) (by decide)) | (exact absurd (hc.symm.trans (by assumption : _ = true)) (by decide))) | skip)) | refine drawK.nn ?_ | refine roundK.nn ?_ | refine roundK.r ?_ | refine roundK.x ?_ | refine loopK.r ?_ | refine loopK.x ?_)
        | (fail)
        | fail
      all_goals first | (exfalso; omega) | skip
      all_goals rename_i a4 k4 h4 o4
      all_goals rw [hone _ (by unfold renI; repeat' split
                               all_goals omega) hj] at o4 ⊢
      all_goals refine loopK.nn (m3 - 1) (by omega) (by repeat (first | refine Ag.upd rfl ?_ | exact Ag.hv)) ⟨_, ⟨j + 1, a4, k4, h4, ?_, by omega, rfl, o4, rfl⟩, fun w hw => hw⟩
      all_goals (show Value.int .i64 _ = _; congr 1)
    rw [show (vB.getD k default).l.take j = (vB.getD k default).l from List.take_of_length_le hj] at od ⊢
    have hren : (renT n (eN1 - n) eT2).take (k + 1) = (renT n (eN1 - n) eT2).take k ++ [(vB.getD k default).l.map (renI n (eN1 - n))] := by
      have e1 : eT2.take (k + 1) = eT2.take k ++ [(vB.getD k default).l] := by
        rw [← hvB, ← List.map_take, take_g vB k hk, List.map_append, List.map_take, List.map_singleton]
      unfold renT
      rw [← List.map_take, e1, List.map_append, List.map_take, List.map_singleton]
    repeat' first
      | (refine J.isJ ?_; first | ((refine J.o 9 ?_; refine J.perm (br2.cons _) (J.ap1 (enc := encHV) [(⟨ad, kd, (vB.getD k default).l.map (renI n (eN1 - n))⟩ : HV)] hΓ (fun a4 k4 h4 o4 => ?_)))) | (first | (refine J.o 0 ?_; refine J.ev' hΓ ?_) | refine J.nil ?_ | refine J.kd ?_ | (refine J.o 4 ?_; first | refine J.e0 hΓ ?_ | refine J.lT default hΓ ?_ | refine J.e1 hΓ ?_ | refine J.e2 hΓ ?_ | refine J.lR hΓ ?_) | (refine J.o 3 ?_; first | refine J.iA hΓ ?_ | refine J.iJ hΓ ?_ | refine J.fP hΓ ?_ | refine J.iC hΓ ?_ | refine J.ev' hΓ ?_) | (refine J.o 1 ?_; first | refine J.ad ?_ | refine J.sb ?_ | refine J.ng ?_ | refine J.mu ?_) | (refine J.o 5 ?_; first | refine J.t0 hΓ ?_ | refine J.t1 hΓ ?_ | refine J.t2 hΓ ?_) | (refine J.o 6 ?_; refine J.bx (fun _ => ?_)) | (refine J.o 7 ?_; refine J.al hΓ (fun _ => ?_)) | (refine J.o 8 ?_; refine J.bd hΓ ?_) | (refine J.o 9 ?_; refine J.bl hΓ (fun _ => ?_)) | (refine J.o 10 ?_; first | refine J.ls hΓ ?_ | refine J.ev' hΓ ?_) | (refine J.o 11 ?_; refine J.ev' hΓ ?_) | refine J.kn ?_) | ((fail_if_success refine J.wt ?_); refine J.gc rfl rfl (fun hc => ?_) (fun hc => ?_) <;> ((try simp only [decide_eq_true_eq, decide_eq_false_iff_not, beq_iff_eq, beq_eq_false_iff_ne, bne_iff_ne, bne_eq_false_iff_eq, Bool.not_eq_true', Bool.not_eq_false', Bool.not_eq_true, Bool.not_eq_false] at hc) <;> first | (first | (exact absurd rfl hc) | (exfalso; omega) | (exact absurd (hc.symm.trans (by assumption : _ = false)) (by decide)) | (exact absurd (hc.symm.trans (by assumption : _ = true)) (by decide))) | skip)))
      | (first | refine JC.seq ?_ | refine JC.region ?_ | refine JC.block ?_ | refine JC.ret ?_ | refine JC.exit ?_ | refine JC.skip ?_ | refine thenK.nn ?_ | refine thenK.r ?_ | refine thenK.x ?_ | refine blockK.nn ?_ | refine blockK.r ?_ | refine blockK.hit rfl ?_ | refine blockK.miss rfl ?_ | refine JC.condT rfl ?_ | refine JC.condF rfl ?_ | (refine JC.cond rfl (fun hc => ?_) (fun hc => ?_) <;> ((try simp only [decide_eq_true_eq, decide_eq_false_iff_not, beq_iff_eq, beq_eq_false_iff_ne, bne_iff_ne, bne_eq_false_iff_eq, Bool.not_eq_true', Bool.not_eq_false', Bool.not_eq_true, Bool.not_eq_false] at hc) <;> first | (first | (exact absurd rfl hc) | (exfalso; omega) | (exact absurd (hc.symm.trans (by assumption : _ = false)) (by decide)) | (exact absurd (hc.symm.trans (by assumption : _ = true)) (by decide))) | skip)) | refine drawK.nn ?_ | refine roundK.nn ?_ | refine roundK.r ?_ | refine roundK.x ?_ | refine loopK.r ?_ | refine loopK.x ?_)
      | (fail)
      | fail
    all_goals first | (exfalso; omega) | skip
    refine loopK.nn (m - 1) (by omega) (by repeat (first | refine Ag.upd rfl ?_ | exact Ag.hv | refine Ag.hv2 (fun i hi => by simp at hi ⊢; omega) ?_)) ⟨[[(b10, .cells ⟨[.int .i64 eN1, .slice a4 (vs ++ [(⟨ad, kd, (vB.getD k default).l.map (renI n (eN1 - n))⟩ : HV)]).length k4]⟩ 37 (0, 0))], h4, hi ++ hd, [(b12, .cells ⟨[.int .i64 eN2, .slice aB vB.length kB]⟩ 37 (0, 0))], gB0 ++ gB1, [(b8, .cells ⟨[.int .i64 (eN1 + eN2 - n), .slice aT vT.length kT]⟩ 37 (0, 0))], gT0 ++ gT1], ⟨k + 1, a4, k4, (vs ++ [(⟨ad, kd, (vB.getD k default).l.map (renI n (eN1 - n))⟩ : HV)]), h4, hi ++ hd, ?_, by omega, o4, ?_, ?_, rfl⟩, fun w hw => ?_⟩
    · show Value.int .i64 _ = _; congr 1
    · intro v hv
      rcases List.mem_append.1 hv with hv | hv
      · exact (oi v hv).sub (fun _ hx => List.mem_append_left _ hx)
      · rw [List.mem_singleton.1 hv]
        exact od.sl.sub (fun _ hx => List.mem_append_right _ hx)
    · rw [List.map_append, hvs, hren, List.append_assoc]
      rfl
    · have h1 := H.sel (l := [_, _, _, _, _, _, _, _]) (M := []) hw [3, 1, 2, 0, 4, 5, 6, 7]
      exact (H.mg1 h1).perm (br2.trans br2)
theorem u8_bd {m : Int} (h : (Lit.int .u8 m).wf = true) : 0 ≤ m ∧ m ≤ 255 := by
  simp only [Lit.wf, Bool.and_eq_true, decide_eq_true_eq] at h
  have e1 : IntKind.u8.min = 0 := rfl
  have e2 : IntKind.u8.max = 255 := rfl
  omega
end Go.Proofs.Ytinpcimogojefaa
