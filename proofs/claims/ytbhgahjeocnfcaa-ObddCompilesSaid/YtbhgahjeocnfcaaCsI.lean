/- ObddCompiles: part 9. -/
import Derived.Test.YtbhgahjeocnfcaaCsH
namespace Go.Proofs.Ytbhgahjeocnfcaa
open Go Go.Cx Go.RowKit
set_option linter.unusedVariables false
set_option linter.unusedSimpArgs false
set_option maxHeartbeats 4000000
attribute [local irreducible] J JC thenK blockK loopK drawK retK QW Qt pel List.set Calls
open Go.Maps Go.Lib
set_option maxRecDepth 8000
attribute [local irreducible] JE Br eK0 eK3 brK pc
section
variable {P : Program} {n : Nat} {w0 : World} {R : Heap} {l0 : List Oper} {K : Exit → Fr → List Heap → Prop} {f : Fr} {L : List Heap} {rest : List (Nat × Oper)} {κ : Nat}
variable {Γ : List (Nat × TI)} {d : Nat} {ty : TypeId} {pos : String} {aft : Array Edge} {g : Option (Nat × Bool)} {t e : TypeId} {x y : Operand} {a : Option Addr} {len cap : Nat}
theorem J.slG {ki : IntKind} {i : Int} (m sz : Nat) {s1 b1 : Nat} {z1 : Option Value} {te : TI} (hΓ : Fits P Γ)
    (kk : J P n w0 R l0 K rest (upd f d (.slice (if cap = m then a else a.map (·.add (m * sz))) (len - m) (cap - m))) L)
    (hg : wantB n f l0 ⟨some d, .slice t x (some y) none none, ty, pos, aft, g⟩ = true := by exact rfl) (hx : Cx.ev n f x = .slice a len cap := by exact rfl) (hy : Cx.ev n f y = .int ki i := by exact rfl) (ht : Go.Cx.look Γ t = some ⟨.slice e, s1, z1, b1⟩ := by exact rfl) (hte : Go.Cx.look Γ e = some te := by exact rfl) (hsz : te.size = sz := by exact rfl) (hm : i = (m : Int) := by omega) (h1 : m ≤ len := by omega) (h2 : len ≤ cap := by omega) :
    J P n w0 R l0 K ((κ, ⟨some d, .slice t x (some y) none none, ty, pos, aft, g⟩) :: rest) f L :=
  J.p hg (fun w => by
    subst hm
    subst hsz
    have hu : P.underlying t = some (.slice e) := (hΓ t _ ht).1
    have he : P.elem t = e := by unfold Program.elem; rw [hu]
    have hu' : P.underlying t = some (.slice (P.elem t)) := by rw [he]; exact hu
    have : (Instr.sliceAt t (.slice a len cap) (some (.int ki (m : Int))) none none).run P w = .ok (.slice (if cap = m then a else a.map (·.add (m * te.size))) (len - m) (cap - m)) w := by
      rw [run_sliceAt_slice w t _ _ _ _ hu', run_slice_l w t a len cap hu' ki (m : Int) (by omega) (by omega), he, sizeOf_run hΓ hte w]
      simp [sliced, Result.andThen]
    simp only [execOp, hx, hy, Sem.run_bind, Option.map_some, Option.map_none]
    rw [this]
    rfl) kk
end
structure BW where
  a : Option Addr
  c : Nat
  l : List Bool
instance : Inhabited BW := ⟨⟨none, 0, []⟩⟩
def encBW (v : BW) : List Value := [.slice v.a v.l.length v.c]
theorem slB_take {a : Option Addr} {ts : List Bool} {h : Heap} (hs : SlT encBo 1 a ts h) (k : Nat) : SlT encBo 1 a (ts.take k) h := slT_take hs k
theorem slB_drop {a : Option Addr} {ts : List Bool} {h : Heap} (hs : SlT encBo 1 a ts h) (k cap : Nat) (hc : ts.length ≤ cap) : SlT encBo 1 (if cap = k then a else a.map (·.add (k * 1))) (ts.drop k) h := slT_drop hs k cap hc
theorem eLevels : Entr Try.prog 132 := Entr.of Try.func132 rfl rfl
def lvQ (size : Nat) (t : List Bool) (q : Nat) : List (List Bool) := (chunks size q t).foldl (stepB (size / 2)) []
theorem chunks_s (m c : Nat) (t : List Bool) : chunks m (c + 1) t = chunks m c t ++ [(t.drop (c * m)).take m] := by unfold chunks; rw [List.range_succ, List.map_append]; rfl
theorem lvQ_s (size : Nat) (t : List Bool) (q : Nat) : lvQ size t (q + 1) = stepB (size / 2) (lvQ size t q) ((t.drop (q * size)).take size) := by unfold lvQ; rw [chunks_s, List.foldl_append]; rfl
theorem lvQ_n {n k : Nat} (hk : k < n) (t : List Bool) : (lvQ (2 ^ (n - k)) t (2 ^ k)).length = lvC n k t := by
  unfold lvQ lvC
  have : 2 ^ (n - k) / 2 = 2 ^ (n - k - 1) := by
    obtain ⟨m, hm⟩ : ∃ m, n - k = m + 1 := ⟨n - k - 1, by omega⟩
    rw [hm, Nat.pow_succ, Nat.mul_div_cancel _ (by decide)]; rfl
  rw [this]
theorem sameL_any (f g : List Bool) (nf ng : Nat) (hnf : f.length = nf) (hng : g.length = ng) (af ag : Option Addr) (cf cg : Nat) (h : Heap) (sf : SlT encBo 1 af f h) (sg : SlT encBo 1 ag g h) (hl : f.length ≤ 100000) (hl2 : g.length ≤ 100000) (w : World) (hw1 : Holds h w) :
    Calls Try.prog 153 #[.slice af nf cf, .slice ag ng cg] w fun e w' => e = .returned (.bool (decide (f = g))) ∧ Below w.heap.size w w' := by
  subst hnf; subst hng
  exact same_any f g af ag cf cg h sf sg hl hl2 w hw1
def outL (n : Nat) (t : List Bool) (k : Nat) : List Int := (List.range k).map fun k => (lvC n k t : Int)
theorem outL_s (n : Nat) (t : List Bool) (k : Nat) : outL n t (k + 1) = outL n t k ++ [(lvC n k t : Int)] := by unfold outL; rw [List.range_succ, List.map_append]; rfl
theorem outL_len (n : Nat) (t : List Bool) (k : Nat) : (outL n t k).length = k := by simp [outL]
set_option maxHeartbeats 16000000 in
theorem levels_any (n : Nat) (h8 : n ≤ 8) (ao : Option Addr) (co : Nat) (t : List Bool) (ht : t.length = 2 ^ n) (af : Option Addr) (cf : Nat) (hcf : 2 ^ n ≤ cf) (h : Heap) (sf : SlT encBo 1 af t h) (w : World) (hw1 : Holds h w) :
    Calls Try.prog 132 #[.slice ao n co, .slice af (2 ^ n) cf] w (Gives (Sls encI 1 3 (outL n t n)) w) := by
  have h2n := pow8 h8
  have q0 : ∀ L, RdH h L h := fun L => RdH.old fun _ hh => hh
  refine calls_of_JC (R := h) Try.func132 Try.ntmps132 rfl rfl (hw1) ?_
  repeat' first
    | (refine J.isJ ?_; first | (fail) | (first | (refine J.o 0 ?_; refine J.ev' hΓ ?_) | refine J.nil ?_ | refine J.kd ?_ | (refine J.o 4 ?_; first | refine J.lT default hΓ ?_) | (refine J.o 3 ?_; first | refine J.iJ hΓ ?_ | refine J.ev' hΓ ?_) | (refine J.o 1 ?_; first | refine J.ad ?_) | (refine J.o 9 ?_; refine J.bl hΓ (fun _ => ?_)) | (refine J.o 10 ?_; refine J.ev' hΓ ?_) | (refine J.o 11 ?_; refine J.ev' hΓ ?_)))
    | (first | refine JC.seq ?_ | refine JC.region ?_ | refine JC.block ?_ | refine JC.ret ?_ | refine JC.exit ?_ | refine JC.skip ?_ | refine thenK.nn ?_ | refine thenK.x ?_ | refine blockK.nn ?_ | refine blockK.hit rfl ?_ | refine JC.condT rfl ?_ | refine JC.condF rfl ?_ | (refine JC.cond rfl (fun hc => ?_) (fun hc => ?_) <;> ((try simp only [decide_eq_true_eq, decide_eq_false_iff_not, beq_iff_eq, beq_eq_false_iff_ne, bne_iff_ne, bne_eq_false_iff_eq, Bool.not_eq_true', Bool.not_eq_false', Bool.not_eq_true, Bool.not_eq_false] at hc) <;> first | (first | (exact absurd rfl hc) | (exfalso; omega) | (exact absurd (hc.symm.trans (by assumption : _ = false)) (by decide)) | (exact absurd (hc.symm.trans (by assumption : _ = true)) (by decide))) | skip)) | refine drawK.nn ?_ | refine loopK.x ?_)
    | (fail)
    | fail
  all_goals first | (exfalso; omega) | skip
  refine JC.nilF ?_
  refine JC.loop (fun i => Nat.ble 5 i) (fun m g L' => ∃ k aO cO hO, g 6 = .int .i64 ((k : Nat) : Int) ∧ g 5 = .slice aO (outL n t k).length cO ∧ k + m = n ∧ OwT encI 1 3 aO cO (outL n t k) hO ∧ L' = [hO]) n ⟨0, none, 0, [], rfl, rfl, by omega, OwT.nil (fun _ => rfl), rfl⟩ ?_
  rintro m g L' ⟨k, aO, cO, hO, e6, e5, hkm, oO, rfl⟩
  refine JC.pin 6 e6 ?_
  refine JC.pin 5 e5 ?_
  have hol := outL_len n t k
  rcases Nat.lt_or_ge k n with hk | hk
  ·
    obtain ⟨S, hS⟩ : ∃ S, S = 2 ^ (n - k) := ⟨_, rfl⟩
    have hsz : 2 * 2 ^ (n - 1 - k) = S := by rw [hS, show n - k = (n - 1 - k) + 1 by omega, Nat.pow_succ, Nat.mul_comm]
    have hkS : 2 ^ k * S = 2 ^ n := by rw [hS, ← Nat.pow_add]; congr 1 <;> omega
    have hS0 : 0 < S := by rw [hS]; exact Nat.two_pow_pos _
    have hSn : S ≤ 2 ^ n := by rw [hS]; exact Nat.pow_le_pow_right (by decide) (by omega)
    have hk2 : 2 ^ k ≤ 2 ^ 8 := Nat.pow_le_pow_right (by decide) (by omega)
    repeat' first
      | (refine J.isJ ?_; first | (first | (refine J.fc 131 ?_; refine J.call0 eBit rfl rfl (fun w hw => bit_any ao co n k hk h8 w) ?_) | (refine J.o 1 ?_; refine J.gmul (a := 2) ?_ (hw := wI64 (by omega)); rw [hsz])) | (first | (refine J.o 0 ?_; refine J.ev' hΓ ?_) | refine J.nil ?_ | refine J.kd ?_ | (refine J.o 4 ?_; first | refine J.lT default hΓ ?_) | (refine J.o 3 ?_; first | refine J.iJ hΓ ?_ | refine J.ev' hΓ ?_) | (refine J.o 1 ?_; first | refine J.ad ?_) | (refine J.o 9 ?_; refine J.bl hΓ (fun _ => ?_)) | (refine J.o 10 ?_; refine J.ev' hΓ ?_) | (refine J.o 11 ?_; refine J.ev' hΓ ?_)))
      | (first | refine JC.seq ?_ | refine JC.region ?_ | refine JC.block ?_ | refine JC.ret ?_ | refine JC.exit ?_ | refine JC.skip ?_ | refine thenK.nn ?_ | refine thenK.x ?_ | refine blockK.nn ?_ | refine blockK.hit rfl ?_ | refine JC.condT rfl ?_ | refine JC.condF rfl ?_ | (refine JC.cond rfl (fun hc => ?_) (fun hc => ?_) <;> ((try simp only [decide_eq_true_eq, decide_eq_false_iff_not, beq_iff_eq, beq_eq_false_iff_ne, bne_iff_ne, bne_eq_false_iff_eq, Bool.not_eq_true', Bool.not_eq_false', Bool.not_eq_true, Bool.not_eq_false] at hc) <;> first | (first | (exact absurd rfl hc) | (exfalso; omega) | (exact absurd (hc.symm.trans (by assumption : _ = false)) (by decide)) | (exact absurd (hc.symm.trans (by assumption : _ = true)) (by decide))) | skip)) | refine drawK.nn ?_ | refine loopK.x ?_)
      | (fail)
      | fail
    all_goals first | (exfalso; omega) | skip
    refine JC.nilF ?_
    refine JC.loop (fun i => i == 8 || i == 9 || i == 10 || i == 11 || i == 12 || Nat.ble 23 i) (fun m g L' => ∃ q aB cB vs hB, g 9 = .int .i64 ((q * S : Nat) : Int) ∧ g 8 = .slice aB vs.length cB ∧ q + m = 2 ^ k ∧ OwT encBW 1 43 aB cB vs hB ∧ vs.map (·.l) = lvQ S t q ∧ (∀ v ∈ vs, SlT encBo 1 v.a v.l h ∧ v.l.length = S) ∧ vs.length ≤ q ∧ L' = [hB, hO]) (2 ^ k) ⟨0, none, 0, [], [], by show Value.int .i64 0 = _; rw [Nat.zero_mul]; rfl, rfl, by omega, OwT.nil (fun _ => rfl), rfl, fun v hv => (by cases hv), Nat.le_refl _, rfl⟩ ?_
    rintro m2 g2 L' ⟨q, aB, cB, vs, hB, e9, e8, hqm, oB, hvs, hvi, hvq, rfl⟩
    refine JC.pin 9 e9 ?_
    refine JC.pin 8 e8 ?_
    rcases Nat.lt_or_ge q (2 ^ k) with hq | hq
    ·
      have hqS : q * S + S ≤ 2 ^ n := by rw [← hkS, ← Nat.succ_mul]; exact Nat.mul_le_mul_right _ hq
      obtain ⟨qS, hqs⟩ : ∃ qS, qS = q * S := ⟨_, rfl⟩
      rw [← hqs] at hqS ⊢
      obtain ⟨ck, hck⟩ : ∃ ck, ck = (t.drop qS).take S := ⟨_, rfl⟩
      have hcl : ck.length = S := by rw [hck, List.length_take, List.length_drop]; omega
      have hl1 : qS + S - qS = ck.length := by omega
      have sb : SlT encBo 1 (if cf = qS then af else af.map (·.add (qS * 1))) ck h := hck ▸ slB_take (slB_drop sf qS cf (by omega)) S
      obtain ⟨ab, hab⟩ : ∃ ab, ab = (if cf = qS then af else af.map (·.add (qS * 1))) := ⟨_, rfl⟩
      rw [← hab] at sb
      have cS1 := fun w hw => sameL_any (ck.take (S / 2)) (ck.drop (S / 2)) (S / 2) (ck.length - S / 2) (by rw [List.length_take]; omega) (by rw [List.length_drop]) ab _ (cf - qS) (cf - qS - S / 2) h (slB_take sb _) (slB_drop sb (S / 2) (cf - qS) (by omega)) (by rw [List.length_take]; omega) (by rw [List.length_drop]; omega) w hw
      repeat' first
        | (refine J.isJ ?_; first | (first | (refine J.o 13 ?_; first | (refine J.slR qS (qS + S) 1 hΓ ?_; rw [hl1, ← hab]) | refine J.slF (m := S / 2) hΓ ?_ | refine J.slG (S / 2) 1 hΓ ?_) | (refine J.o 1 ?_; refine J.gquo (b := 2) ?_ (hw := wI64 (by omega))) | (refine J.fc 153 ?_; refine J.call0 eSame rfl rfl (fun w hw => cS1 w (hw.rdH (q0 _))) ?_)) | (first | (refine J.o 0 ?_; refine J.ev' hΓ ?_) | refine J.nil ?_ | refine J.kd ?_ | (refine J.o 4 ?_; first | refine J.lT default hΓ ?_) | (refine J.o 3 ?_; first | refine J.iJ hΓ ?_ | refine J.ev' hΓ ?_) | (refine J.o 1 ?_; first | refine J.ad ?_) | (refine J.o 9 ?_; refine J.bl hΓ (fun _ => ?_)) | (refine J.o 10 ?_; refine J.ev' hΓ ?_) | (refine J.o 11 ?_; refine J.ev' hΓ ?_)))
        | (first | refine JC.seq ?_ | refine JC.region ?_ | refine JC.block ?_ | refine JC.ret ?_ | refine JC.exit ?_ | refine JC.skip ?_ | refine thenK.nn ?_ | refine thenK.x ?_ | refine blockK.nn ?_ | refine blockK.hit rfl ?_ | refine JC.condT rfl ?_ | refine JC.condF rfl ?_ | (refine JC.cond rfl (fun hc => ?_) (fun hc => ?_) <;> ((try simp only [decide_eq_true_eq, decide_eq_false_iff_not, beq_iff_eq, beq_eq_false_iff_ne, bne_iff_ne, bne_eq_false_iff_eq, Bool.not_eq_true', Bool.not_eq_false', Bool.not_eq_true, Bool.not_eq_false] at hc) <;> first | (first | (exact absurd rfl hc) | (exfalso; omega) | (exact absurd (hc.symm.trans (by assumption : _ = false)) (by decide)) | (exact absurd (hc.symm.trans (by assumption : _ = true)) (by decide))) | skip)) | refine drawK.nn ?_ | refine loopK.x ?_)
        | ((refine JC.drawO [(0,0),(0,1),(0,2),(0,3),(0,4),(0,5),(0,6),(0,7),(1,8),(0,9)] (by decide +kernel) (by decide +kernel) ?_))
        | fail
      all_goals first | (exfalso; omega) | skip
      refine JC.loop (fun i => i == 11 || i == 12 || (Nat.ble 45 i && Nat.ble i 59)) (fun m g L' => ∃ (j : Nat) (isv : Bool), g 12 = .int .i64 (j : Int) ∧ g 11 = .bool isv ∧ j + m = vs.length ∧ (isv = true ↔ (ck.take (S / 2) = ck.drop (S / 2) ∨ ∃ j', j' < j ∧ (vs.getD j' default).l = ck)) ∧ L' = [hB, hO]) vs.length ⟨0, _, rfl, rfl, by omega, by rw [decide_eq_true_iff]; exact ⟨.inl, fun g => g.elim id fun ⟨j, h1, _⟩ => absurd h1 (Nat.not_lt_zero j)⟩, rfl⟩ ?_
      rintro m3 g3 L' ⟨j, isv, e12, e11, hjm, his, rfl⟩
      refine JC.pin 12 e12 ?_
      refine JC.pin 11 e11 ?_
      rcases Nat.lt_or_ge j vs.length with hj | hj
      ·
        have hvj := hvi _ (mem_g vs j hj)
        have cS2 := fun w hw => sameL_any (vs.getD j default).l ck (vs.getD j default).l.length ck.length rfl rfl (vs.getD j default).a ab (vs.getD j default).c (cf - qS) h hvj.1 sb (by omega) (by omega) w hw
        cases isv with
        | true =>
          repeat' first
            | (refine J.isJ ?_; first | (fail) | (first | (refine J.o 0 ?_; refine J.ev' hΓ ?_) | refine J.nil ?_ | refine J.kd ?_ | (refine J.o 4 ?_; first | refine J.lT default hΓ ?_) | (refine J.o 3 ?_; first | refine J.iJ hΓ ?_ | refine J.ev' hΓ ?_) | (refine J.o 1 ?_; first | refine J.ad ?_) | (refine J.o 9 ?_; refine J.bl hΓ (fun _ => ?_)) | (refine J.o 10 ?_; refine J.ev' hΓ ?_) | (refine J.o 11 ?_; refine J.ev' hΓ ?_)))
            | (first | refine JC.seq ?_ | refine JC.region ?_ | refine JC.block ?_ | refine JC.ret ?_ | refine JC.exit ?_ | refine JC.skip ?_ | refine thenK.nn ?_ | refine thenK.x ?_ | refine blockK.nn ?_ | refine blockK.hit rfl ?_ | refine JC.condT rfl ?_ | refine JC.condF rfl ?_ | (refine JC.cond rfl (fun hc => ?_) (fun hc => ?_) <;> ((try simp only [decide_eq_true_eq, decide_eq_false_iff_not, beq_iff_eq, beq_eq_false_iff_ne, bne_iff_ne, bne_eq_false_iff_eq, Bool.not_eq_true', Bool.not_eq_false', Bool.not_eq_true, Bool.not_eq_false] at hc) <;> first | (first | (exact absurd rfl hc) | (exfalso; omega) | (exact absurd (hc.symm.trans (by assumption : _ = false)) (by decide)) | (exact absurd (hc.symm.trans (by assumption : _ = true)) (by decide))) | skip)) | refine drawK.nn ?_ | refine loopK.x ?_)
            | (fail)
            | fail
          all_goals first | (exfalso; omega) | skip
          refine loopK.nn (m3 - 1) (by omega) (by repeat (first | refine Ag.upd rfl ?_ | exact Ag.hv | refine Ag.hv2 (fun i hi => by simp at hi ⊢; omega) ?_)) ⟨j + 1, true, ?_, rfl, by omega, ?_, rfl⟩
          · show Value.int .i64 _ = _; congr 1
          · exact ⟨fun _ => (his.1 rfl).imp id fun ⟨j', h1, h2⟩ => ⟨j', by omega, h2⟩, fun _ => rfl⟩
        | false =>
          repeat' first
            | (refine J.isJ ?_; first | (first | (refine J.o 3 ?_; refine J.iJ hΓ ?_ (hs := oB.sl)) | (refine J.o 4 ?_; refine J.lT default hΓ ?_ (hs := oB.sl) (hr := RdH.hd)) | (refine J.fc 153 ?_; refine J.call0 eSame rfl rfl (fun w hw => cS2 w (hw.rdH (q0 _))) ?_)) | (first | (refine J.o 0 ?_; refine J.ev' hΓ ?_) | refine J.nil ?_ | refine J.kd ?_ | (refine J.o 4 ?_; first | refine J.lT default hΓ ?_) | (refine J.o 3 ?_; first | refine J.iJ hΓ ?_ | refine J.ev' hΓ ?_) | (refine J.o 1 ?_; first | refine J.ad ?_) | (refine J.o 9 ?_; refine J.bl hΓ (fun _ => ?_)) | (refine J.o 10 ?_; refine J.ev' hΓ ?_) | (refine J.o 11 ?_; refine J.ev' hΓ ?_)))
            | (first | refine JC.seq ?_ | refine JC.region ?_ | refine JC.block ?_ | refine JC.ret ?_ | refine JC.exit ?_ | refine JC.skip ?_ | refine thenK.nn ?_ | refine thenK.x ?_ | refine blockK.nn ?_ | refine blockK.hit rfl ?_ | refine JC.condT rfl ?_ | refine JC.condF rfl ?_ | (refine JC.cond rfl (fun hc => ?_) (fun hc => ?_) <;> ((try simp only [decide_eq_true_eq, decide_eq_false_iff_not, beq_iff_eq, beq_eq_false_iff_ne, bne_iff_ne, bne_eq_false_iff_eq, Bool.not_eq_true', Bool.not_eq_false', Bool.not_eq_true, Bool.not_eq_false] at hc) <;> first | (first | (exact absurd rfl hc) | (exfalso; omega) | (exact absurd (hc.symm.trans (by assumption : _ = false)) (by decide)) | (exact absurd (hc.symm.trans (by assumption : _ = true)) (by decide))) | skip)) | refine drawK.nn ?_ | refine loopK.x ?_)
            | (fail)
            | fail
          all_goals first | (exfalso; omega) | skip
          refine loopK.nn (m3 - 1) (by omega) (by repeat (first | refine Ag.upd rfl ?_ | exact Ag.hv | refine Ag.hv2 (fun i hi => by simp at hi ⊢; omega) ?_)) ⟨j + 1, decide ((vs.getD j default).l = ck), ?_, rfl, by omega, ?_, rfl⟩
          · show Value.int .i64 _ = _; congr 1
          · rw [decide_eq_true_iff]
            refine ⟨fun g => .inr ⟨j, by omega, g⟩, fun g => ?_⟩
            rcases g with g | ⟨j', h1, h2⟩
            · exact absurd (his.2 (.inl g)) (by decide)
            · rcases Nat.lt_or_ge j' j with h3 | h3
              · exact absurd (his.2 (.inr ⟨j', h3, h2⟩)) (by decide)
              · obtain rfl : j' = j := by omega
                exact h2
      ·
        have hmem : (∃ j', j' < j ∧ (vs.getD j' default).l = ck) ↔ ck ∈ lvQ S t q := by
          rw [← hvs, List.mem_map]
          constructor
          · rintro ⟨j', h1, h2⟩; exact ⟨_, mem_g vs j' (by omega), h2⟩
          · rintro ⟨v, h1, h2⟩
            obtain ⟨j', h3, rfl⟩ := List.mem_iff_getElem.1 h1
            refine ⟨j', by omega, ?_⟩
            rw [List.getD_eq_getElem?_getD, List.getElem?_eq_getElem h3]; exact h2
        rw [hmem] at his
        have hqn : (q + 1) * S = qS + S := by rw [Nat.succ_mul, hqs]
        have hstep := lvQ_s S t q
        rw [← hqs, ← hck] at hstep
        cases isv with
        | true =>
          have hst : lvQ S t (q + 1) = lvQ S t q := by rw [hstep]; unfold stepB; rw [if_pos (his.1 rfl)]
          repeat' first
            | (refine J.isJ ?_; first | (fail) | (first | (refine J.o 0 ?_; refine J.ev' hΓ ?_) | refine J.nil ?_ | refine J.kd ?_ | (refine J.o 4 ?_; first | refine J.lT default hΓ ?_) | (refine J.o 3 ?_; first | refine J.iJ hΓ ?_ | refine J.ev' hΓ ?_) | (refine J.o 1 ?_; first | refine J.ad ?_) | (refine J.o 9 ?_; refine J.bl hΓ (fun _ => ?_)) | (refine J.o 10 ?_; refine J.ev' hΓ ?_) | (refine J.o 11 ?_; refine J.ev' hΓ ?_)))
            | (first | refine JC.seq ?_ | refine JC.region ?_ | refine JC.block ?_ | refine JC.ret ?_ | refine JC.exit ?_ | refine JC.skip ?_ | refine thenK.nn ?_ | refine thenK.x ?_ | refine blockK.nn ?_ | refine blockK.hit rfl ?_ | refine JC.condT rfl ?_ | refine JC.condF rfl ?_ | (refine JC.cond rfl (fun hc => ?_) (fun hc => ?_) <;> ((try simp only [decide_eq_true_eq, decide_eq_false_iff_not, beq_iff_eq, beq_eq_false_iff_ne, bne_iff_ne, bne_eq_false_iff_eq, Bool.not_eq_true', Bool.not_eq_false', Bool.not_eq_true, Bool.not_eq_false] at hc) <;> first | (first | (exact absurd rfl hc) | (exfalso; omega) | (exact absurd (hc.symm.trans (by assumption : _ = false)) (by decide)) | (exact absurd (hc.symm.trans (by assumption : _ = true)) (by decide))) | skip)) | refine drawK.nn ?_ | refine loopK.x ?_)
            | (fail)
            | fail
          all_goals first | (exfalso; omega) | skip
          refine loopK.nn (m2 - 1) (by omega) (by repeat (first | refine Ag.upd rfl ?_ | exact Ag.hv | refine Ag.hv2 (fun i hi => by simp at hi ⊢; omega) ?_)) ⟨q + 1, aB, cB, vs, hB, ?_, rfl, by omega, oB, by rw [hst, hvs], hvi, by omega, rfl⟩
          show Value.int .i64 _ = _; congr 1 <;> omega
        | false =>
          have hst : lvQ S t (q + 1) = lvQ S t q ++ [ck] := by rw [hstep]; unfold stepB; rw [if_neg (fun g => absurd (his.2 g) (by decide))]
          repeat' first
            | (refine J.isJ ?_; first | ((refine J.o 9 ?_; first | (first | (refine J.ap1 (enc := encBW) [(⟨ab, cf - qS, ck⟩ : BW)] hΓ (fun a2 c2 h2 o2 => ?_)) | (refine J.perm (br1.cons _) ?_; refine J.ap1 (enc := encBW) [(⟨ab, cf - qS, ck⟩ : BW)] hΓ (fun a2 c2 h2 o2 => ?_)) | (refine J.perm (br2.cons _) ?_; refine J.ap1 (enc := encBW) [(⟨ab, cf - qS, ck⟩ : BW)] hΓ (fun a2 c2 h2 o2 => ?_)) | (refine J.perm (br3.cons _) ?_; refine J.ap1 (enc := encBW) [(⟨ab, cf - qS, ck⟩ : BW)] hΓ (fun a2 c2 h2 o2 => ?_)) | (refine J.perm (br4.cons _) ?_; refine J.ap1 (enc := encBW) [(⟨ab, cf - qS, ck⟩ : BW)] hΓ (fun a2 c2 h2 o2 => ?_)) | (refine J.perm (br5.cons _) ?_; refine J.ap1 (enc := encBW) [(⟨ab, cf - qS, ck⟩ : BW)] hΓ (fun a2 c2 h2 o2 => ?_))) | (refine J.perm br1 ?_; first | (refine J.ap1 (enc := encBW) [(⟨ab, cf - qS, ck⟩ : BW)] hΓ (fun a2 c2 h2 o2 => ?_)) | (refine J.perm (br1.cons _) ?_; refine J.ap1 (enc := encBW) [(⟨ab, cf - qS, ck⟩ : BW)] hΓ (fun a2 c2 h2 o2 => ?_)) | (refine J.perm (br2.cons _) ?_; refine J.ap1 (enc := encBW) [(⟨ab, cf - qS, ck⟩ : BW)] hΓ (fun a2 c2 h2 o2 => ?_)) | (refine J.perm (br3.cons _) ?_; refine J.ap1 (enc := encBW) [(⟨ab, cf - qS, ck⟩ : BW)] hΓ (fun a2 c2 h2 o2 => ?_)) | (refine J.perm (br4.cons _) ?_; refine J.ap1 (enc := encBW) [(⟨ab, cf - qS, ck⟩ : BW)] hΓ (fun a2 c2 h2 o2 => ?_)) | (refine J.perm (br5.cons _) ?_; refine J.ap1 (enc := encBW) [(⟨ab, cf - qS, ck⟩ : BW)] hΓ (fun a2 c2 h2 o2 => ?_))) | (refine J.perm br2 ?_; first | (refine J.ap1 (enc := encBW) [(⟨ab, cf - qS, ck⟩ : BW)] hΓ (fun a2 c2 h2 o2 => ?_)) | (refine J.perm (br1.cons _) ?_; refine J.ap1 (enc := encBW) [(⟨ab, cf - qS, ck⟩ : BW)] hΓ (fun a2 c2 h2 o2 => ?_)) | (refine J.perm (br2.cons _) ?_; refine J.ap1 (enc := encBW) [(⟨ab, cf - qS, ck⟩ : BW)] hΓ (fun a2 c2 h2 o2 => ?_)) | (refine J.perm (br3.cons _) ?_; refine J.ap1 (enc := encBW) [(⟨ab, cf - qS, ck⟩ : BW)] hΓ (fun a2 c2 h2 o2 => ?_)) | (refine J.perm (br4.cons _) ?_; refine J.ap1 (enc := encBW) [(⟨ab, cf - qS, ck⟩ : BW)] hΓ (fun a2 c2 h2 o2 => ?_)) | (refine J.perm (br5.cons _) ?_; refine J.ap1 (enc := encBW) [(⟨ab, cf - qS, ck⟩ : BW)] hΓ (fun a2 c2 h2 o2 => ?_))))) | (first | (refine J.o 0 ?_; refine J.ev' hΓ ?_) | refine J.nil ?_ | refine J.kd ?_ | (refine J.o 4 ?_; first | refine J.lT default hΓ ?_) | (refine J.o 3 ?_; first | refine J.iJ hΓ ?_ | refine J.ev' hΓ ?_) | (refine J.o 1 ?_; first | refine J.ad ?_) | (refine J.o 9 ?_; refine J.bl hΓ (fun _ => ?_)) | (refine J.o 10 ?_; refine J.ev' hΓ ?_) | (refine J.o 11 ?_; refine J.ev' hΓ ?_)))
            | (first | refine JC.seq ?_ | refine JC.region ?_ | refine JC.block ?_ | refine JC.ret ?_ | refine JC.exit ?_ | refine JC.skip ?_ | refine thenK.nn ?_ | refine thenK.x ?_ | refine blockK.nn ?_ | refine blockK.hit rfl ?_ | refine JC.condT rfl ?_ | refine JC.condF rfl ?_ | (refine JC.cond rfl (fun hc => ?_) (fun hc => ?_) <;> ((try simp only [decide_eq_true_eq, decide_eq_false_iff_not, beq_iff_eq, beq_eq_false_iff_ne, bne_iff_ne, bne_eq_false_iff_eq, Bool.not_eq_true', Bool.not_eq_false', Bool.not_eq_true, Bool.not_eq_false] at hc) <;> first | (first | (exact absurd rfl hc) | (exfalso; omega) | (exact absurd (hc.symm.trans (by assumption : _ = false)) (by decide)) | (exact absurd (hc.symm.trans (by assumption : _ = true)) (by decide))) | skip)) | refine drawK.nn ?_ | refine loopK.x ?_)
            | (fail)
            | fail
          all_goals first | (exfalso; omega) | skip
          refine loopK.nn (m2 - 1) (by omega) (by repeat (first | refine Ag.upd rfl ?_ | exact Ag.hv | refine Ag.hv2 (fun i hi => by simp at hi ⊢; omega) ?_)) ⟨q + 1, a2, c2, vs ++ [⟨ab, cf - qS, ck⟩], h2, ?_, rfl, by omega, o2, by rw [hst, List.map_append, hvs]; rfl, fun v hv => ?_, by rw [List.length_append, List.length_singleton]; omega, rfl⟩
          · show Value.int .i64 _ = _; congr 1 <;> omega
          · rcases List.mem_append.1 hv with g | g
            · exact hvi v g
            · rw [List.mem_singleton.1 g]; exact ⟨sb, hcl⟩
    ·
      have hqe : q * S = 2 ^ n := by rw [show q = 2 ^ k by omega]; exact hkS
      have hvl : vs.length = lvC n k t := by
        have : (vs.map (·.l)).length = vs.length := List.length_map _
        rw [← this, hvs, show q = 2 ^ k by omega, hS]; exact lvQ_n hk t
      repeat' first
        | (refine J.isJ ?_; first | ((refine J.o 9 ?_; first | (first | (refine J.ap1 (enc := encI) [(vs.length : Int)] hΓ (fun a2 c2 h2 o2 => ?_)) | (refine J.perm (br1.cons _) ?_; refine J.ap1 (enc := encI) [(vs.length : Int)] hΓ (fun a2 c2 h2 o2 => ?_)) | (refine J.perm (br2.cons _) ?_; refine J.ap1 (enc := encI) [(vs.length : Int)] hΓ (fun a2 c2 h2 o2 => ?_)) | (refine J.perm (br3.cons _) ?_; refine J.ap1 (enc := encI) [(vs.length : Int)] hΓ (fun a2 c2 h2 o2 => ?_)) | (refine J.perm (br4.cons _) ?_; refine J.ap1 (enc := encI) [(vs.length : Int)] hΓ (fun a2 c2 h2 o2 => ?_)) | (refine J.perm (br5.cons _) ?_; refine J.ap1 (enc := encI) [(vs.length : Int)] hΓ (fun a2 c2 h2 o2 => ?_))) | (refine J.perm br1 ?_; first | (refine J.ap1 (enc := encI) [(vs.length : Int)] hΓ (fun a2 c2 h2 o2 => ?_)) | (refine J.perm (br1.cons _) ?_; refine J.ap1 (enc := encI) [(vs.length : Int)] hΓ (fun a2 c2 h2 o2 => ?_)) | (refine J.perm (br2.cons _) ?_; refine J.ap1 (enc := encI) [(vs.length : Int)] hΓ (fun a2 c2 h2 o2 => ?_)) | (refine J.perm (br3.cons _) ?_; refine J.ap1 (enc := encI) [(vs.length : Int)] hΓ (fun a2 c2 h2 o2 => ?_)) | (refine J.perm (br4.cons _) ?_; refine J.ap1 (enc := encI) [(vs.length : Int)] hΓ (fun a2 c2 h2 o2 => ?_)) | (refine J.perm (br5.cons _) ?_; refine J.ap1 (enc := encI) [(vs.length : Int)] hΓ (fun a2 c2 h2 o2 => ?_))) | (refine J.perm br2 ?_; first | (refine J.ap1 (enc := encI) [(vs.length : Int)] hΓ (fun a2 c2 h2 o2 => ?_)) | (refine J.perm (br1.cons _) ?_; refine J.ap1 (enc := encI) [(vs.length : Int)] hΓ (fun a2 c2 h2 o2 => ?_)) | (refine J.perm (br2.cons _) ?_; refine J.ap1 (enc := encI) [(vs.length : Int)] hΓ (fun a2 c2 h2 o2 => ?_)) | (refine J.perm (br3.cons _) ?_; refine J.ap1 (enc := encI) [(vs.length : Int)] hΓ (fun a2 c2 h2 o2 => ?_)) | (refine J.perm (br4.cons _) ?_; refine J.ap1 (enc := encI) [(vs.length : Int)] hΓ (fun a2 c2 h2 o2 => ?_)) | (refine J.perm (br5.cons _) ?_; refine J.ap1 (enc := encI) [(vs.length : Int)] hΓ (fun a2 c2 h2 o2 => ?_))))) | (first | (refine J.o 0 ?_; refine J.ev' hΓ ?_) | refine J.nil ?_ | refine J.kd ?_ | (refine J.o 4 ?_; first | refine J.lT default hΓ ?_) | (refine J.o 3 ?_; first | refine J.iJ hΓ ?_ | refine J.ev' hΓ ?_) | (refine J.o 1 ?_; first | refine J.ad ?_) | (refine J.o 9 ?_; refine J.bl hΓ (fun _ => ?_)) | (refine J.o 10 ?_; refine J.ev' hΓ ?_) | (refine J.o 11 ?_; refine J.ev' hΓ ?_)))
        | (first | refine JC.seq ?_ | refine JC.region ?_ | refine JC.block ?_ | refine JC.ret ?_ | refine JC.exit ?_ | refine JC.skip ?_ | refine thenK.nn ?_ | refine thenK.x ?_ | refine blockK.nn ?_ | refine blockK.hit rfl ?_ | refine JC.condT rfl ?_ | refine JC.condF rfl ?_ | (refine JC.cond rfl (fun hc => ?_) (fun hc => ?_) <;> ((try simp only [decide_eq_true_eq, decide_eq_false_iff_not, beq_iff_eq, beq_eq_false_iff_ne, bne_iff_ne, bne_eq_false_iff_eq, Bool.not_eq_true', Bool.not_eq_false', Bool.not_eq_true, Bool.not_eq_false] at hc) <;> first | (first | (exact absurd rfl hc) | (exfalso; omega) | (exact absurd (hc.symm.trans (by assumption : _ = false)) (by decide)) | (exact absurd (hc.symm.trans (by assumption : _ = true)) (by decide))) | skip)) | refine drawK.nn ?_ | refine loopK.x ?_)
        | (fail)
        | fail
      all_goals first | (exfalso; omega) | skip
      have hos := outL_s n t k
      rw [hvl] at o2
      rw [← hos] at o2
      refine loopK.np (m - 1) [hB] _ (by omega) (by repeat (first | refine Ag.upd rfl ?_ | exact Ag.hv | refine Ag.hv2 (fun i hi => by simp at hi ⊢; omega) ?_)) br1 ⟨k + 1, a2, c2, h2, ?_, ?_, by omega, o2, rfl⟩
      · show Value.int .i64 _ = _; congr 1
      · show Value.slice _ _ _ = _; rw [hos, hvl]
  ·
    repeat' first
      | (refine J.isJ ?_; first | (fail) | (first | (refine J.o 0 ?_; refine J.ev' hΓ ?_) | refine J.nil ?_ | refine J.kd ?_ | (refine J.o 4 ?_; first | refine J.lT default hΓ ?_) | (refine J.o 3 ?_; first | refine J.iJ hΓ ?_ | refine J.ev' hΓ ?_) | (refine J.o 1 ?_; first | refine J.ad ?_) | (refine J.o 9 ?_; refine J.bl hΓ (fun _ => ?_)) | (refine J.o 10 ?_; refine J.ev' hΓ ?_) | (refine J.o 11 ?_; refine J.ev' hΓ ?_)))
      | (first | refine JC.seq ?_ | refine JC.region ?_ | refine JC.block ?_ | refine JC.ret ?_ | refine JC.exit ?_ | refine JC.skip ?_ | refine thenK.nn ?_ | refine thenK.x ?_ | refine blockK.nn ?_ | refine blockK.hit rfl ?_ | refine JC.condT rfl ?_ | refine JC.condF rfl ?_ | (refine JC.cond rfl (fun hc => ?_) (fun hc => ?_) <;> ((try simp only [decide_eq_true_eq, decide_eq_false_iff_not, beq_iff_eq, beq_eq_false_iff_ne, bne_iff_ne, bne_eq_false_iff_eq, Bool.not_eq_true', Bool.not_eq_false', Bool.not_eq_true, Bool.not_eq_false] at hc) <;> first | (first | (exact absurd rfl hc) | (exfalso; omega) | (exact absurd (hc.symm.trans (by assumption : _ = false)) (by decide)) | (exact absurd (hc.symm.trans (by assumption : _ = true)) (by decide))) | skip)) | refine drawK.nn ?_ | refine loopK.x ?_)
      | (fail)
      | fail
    all_goals first | (exfalso; omega) | skip
    obtain rfl : k = n := by omega
    exact ret1f rfl rfl rfl (fun w1 hw => Gives.of hw ⟨_, _, rfl, oO⟩)
end Go.Proofs.Ytbhgahjeocnfcaa
namespace Go.Proofs.Ytbhgahjeocnfcaa
open Go Go.Cx Go.RowKit
set_option linter.unusedVariables false
set_option linter.unusedSimpArgs false
set_option maxHeartbeats 4000000
attribute [local irreducible] J JC thenK blockK loopK drawK retK QW Qt pel List.set Calls
open Go.Maps Go.Lib
set_option maxRecDepth 8000
attribute [local irreducible] JE Br eK0 eK3 brK pc
theorem eSizeOf : Entr Try.prog 88 := Entr.of Try.func88 rfl rfl
def sumL (n : Nat) (t : List Bool) (k : Nat) : Nat := ((List.range k).map fun k => lvC n k t).sum
theorem sumL_s (n : Nat) (t : List Bool) (k : Nat) : sumL n t (k + 1) = sumL n t k + lvC n k t := by unfold sumL; rw [List.range_succ, List.map_append, List.sum_append]; simp
theorem lvC_le (n k : Nat) (t : List Bool) : lvC n k t ≤ 2 ^ k := by
  have hf : ∀ (l : List (List Bool)) (acc : List (List Bool)) (h : Nat), (l.foldl (stepB h) acc).length ≤ acc.length + l.length := by
    intro l
    induction l with
    | nil => intro acc h; simp
    | cons b l ih =>
      intro acc h
      have := ih (stepB h acc b) h
      have h2 : (stepB h acc b).length ≤ acc.length + 1 := by unfold stepB; split <;> simp
      rw [List.foldl_cons, List.length_cons]; omega
  have := hf (chunks (2 ^ (n - k)) (2 ^ k) t) [] (2 ^ (n - k - 1))
  unfold lvC
  simp only [List.length_nil, Nat.zero_add] at this
  have hc : (chunks (2 ^ (n - k)) (2 ^ k) t).length = 2 ^ k := by simp [chunks]
  omega
theorem sumL_le (n : Nat) (t : List Bool) : ∀ k, sumL n t k ≤ 2 ^ k
  | 0 => by simp [sumL]
  | k + 1 => by have := sumL_le n t k; have := lvC_le n k t; rw [sumL_s, Nat.pow_succ]; omega
theorem outL_get (n : Nat) (t : List Bool) {m k : Nat} (h : k < m) : (outL n t m).getD k default = (lvC n k t : Int) := by
  unfold outL
  rw [List.getD_eq_getElem?_getD, List.getElem?_map, List.getElem?_range h]; rfl
theorem sizeOf_any (n : Nat) (h8 : n ≤ 8) (ao : Option Addr) (co : Nat) (t : List Bool) (ht : t.length = 2 ^ n) (af : Option Addr) (cf : Nat) (hcf : 2 ^ n ≤ cf) (h : Heap) (sf : SlT encBo 1 af t h) (w : World) (hw1 : Holds h w) :
    Calls Try.prog 88 #[.slice ao n co, .slice af (2 ^ n) cf] w fun e w' => e = .returned (.int .i64 (sizeT n t : Int)) ∧ Below w.heap.size w w' := by
  have q0 : ∀ L, RdH h L h := fun L => RdH.old fun _ hh => hh
  have h2n := pow8 h8
  have hol := outL_len n t n
  refine calls_of_JC (R := h) Try.func88 Try.ntmps88 rfl rfl (hw1) ?_
  repeat' first
    | (refine J.isJ ?_; first | ((refine J.fc 132 ?_; refine J.call1 eLevels rfl rfl (fun w hw => levels_any n h8 ao co t ht af cf hcf h sf w (hw.rdH (q0 _))) ?_; rintro _ hl ⟨al, cl, rfl, ol⟩)) | (first | (refine J.o 0 ?_; refine J.ev' hΓ ?_) | refine J.nil ?_ | (refine J.o 4 ?_; first | refine J.lT default hΓ ?_) | (refine J.o 3 ?_; first | refine J.iJ hΓ ?_ | refine J.ev' hΓ ?_) | (refine J.o 1 ?_; first | refine J.ad ?_) | (refine J.o 10 ?_; refine J.ev' hΓ ?_) | (refine J.o 11 ?_; refine J.ev' hΓ ?_)))
    | (first | refine JC.seq ?_ | refine JC.region ?_ | refine JC.block ?_ | refine JC.ret ?_ | refine JC.exit ?_ | refine JC.skip ?_ | refine thenK.nn ?_ | refine thenK.x ?_ | refine blockK.nn ?_ | refine blockK.hit rfl ?_ | (refine JC.cond rfl (fun hc => ?_) (fun hc => ?_) <;> ((try simp only [decide_eq_true_eq, decide_eq_false_iff_not, beq_iff_eq, beq_eq_false_iff_ne, bne_iff_ne, bne_eq_false_iff_eq, Bool.not_eq_true', Bool.not_eq_false', Bool.not_eq_true, Bool.not_eq_false] at hc) <;> first | (first | (exact absurd rfl hc) | (exfalso; omega) | (exact absurd (hc.symm.trans (by assumption : _ = false)) (by decide)) | (exact absurd (hc.symm.trans (by assumption : _ = true)) (by decide))) | skip)) | refine loopK.x ?_)
    | (fail)
    | fail
  all_goals first | (exfalso; omega) | skip
  refine JC.loop (fun i => i == 6 || i == 7 || Nat.ble 11 i) (fun m g L => ∃ k : Nat, g 7 = .int .i64 (k : Int) ∧ g 6 = .int .i64 ((sumL n t k : Nat) : Int) ∧ k + m = n ∧ L = _) n ⟨0, rfl, rfl, by omega, rfl⟩ ?_
  rintro m g L ⟨k, e7, e6, hkm, rfl⟩
  refine JC.pin 7 e7 ?_
  refine JC.pin 6 e6 ?_
  rcases Nat.lt_or_ge k n with hk | hk
  ·
    have hs := sumL_s n t k
    have hb := sumL_le n t (k + 1)
    have hp : 2 ^ (k + 1) ≤ 2 ^ 8 := Nat.pow_le_pow_right (by decide) (by omega)
    have hg := outL_get n t hk
    repeat' first
      | (refine J.isJ ?_; first | (first | (refine J.o 4 ?_; refine J.lT default hΓ ?_ (hs := ol.sl) (hr := RdH.hd); rw [hg])) | (first | (refine J.o 0 ?_; refine J.ev' hΓ ?_) | refine J.nil ?_ | (refine J.o 4 ?_; first | refine J.lT default hΓ ?_) | (refine J.o 3 ?_; first | refine J.iJ hΓ ?_ | refine J.ev' hΓ ?_) | (refine J.o 1 ?_; first | refine J.ad ?_) | (refine J.o 10 ?_; refine J.ev' hΓ ?_) | (refine J.o 11 ?_; refine J.ev' hΓ ?_)))
      | (first | refine JC.seq ?_ | refine JC.region ?_ | refine JC.block ?_ | refine JC.ret ?_ | refine JC.exit ?_ | refine JC.skip ?_ | refine thenK.nn ?_ | refine thenK.x ?_ | refine blockK.nn ?_ | refine blockK.hit rfl ?_ | (refine JC.cond rfl (fun hc => ?_) (fun hc => ?_) <;> ((try simp only [decide_eq_true_eq, decide_eq_false_iff_not, beq_iff_eq, beq_eq_false_iff_ne, bne_iff_ne, bne_eq_false_iff_eq, Bool.not_eq_true', Bool.not_eq_false', Bool.not_eq_true, Bool.not_eq_false] at hc) <;> first | (first | (exact absurd rfl hc) | (exfalso; omega) | (exact absurd (hc.symm.trans (by assumption : _ = false)) (by decide)) | (exact absurd (hc.symm.trans (by assumption : _ = true)) (by decide))) | skip)) | refine loopK.x ?_)
      | (fail)
      | fail
    all_goals first | (exfalso; omega) | skip
    refine loopK.nn (m - 1) (by omega) (by repeat (first | refine Ag.upd rfl ?_ | exact Ag.hv)) ⟨k + 1, ?_, ?_, by omega, rfl⟩
    · show Value.int .i64 _ = _; congr 1
    · show Value.int .i64 _ = _; congr 1; omega
  ·
    repeat' first
      | (refine J.isJ ?_; first | (fail) | (first | (refine J.o 0 ?_; refine J.ev' hΓ ?_) | refine J.nil ?_ | (refine J.o 4 ?_; first | refine J.lT default hΓ ?_) | (refine J.o 3 ?_; first | refine J.iJ hΓ ?_ | refine J.ev' hΓ ?_) | (refine J.o 1 ?_; first | refine J.ad ?_) | (refine J.o 10 ?_; refine J.ev' hΓ ?_) | (refine J.o 11 ?_; refine J.ev' hΓ ?_)))
      | (first | refine JC.seq ?_ | refine JC.region ?_ | refine JC.block ?_ | refine JC.ret ?_ | refine JC.exit ?_ | refine JC.skip ?_ | refine thenK.nn ?_ | refine thenK.x ?_ | refine blockK.nn ?_ | refine blockK.hit rfl ?_ | (refine JC.cond rfl (fun hc => ?_) (fun hc => ?_) <;> ((try simp only [decide_eq_true_eq, decide_eq_false_iff_not, beq_iff_eq, beq_eq_false_iff_ne, bne_iff_ne, bne_eq_false_iff_eq, Bool.not_eq_true', Bool.not_eq_false', Bool.not_eq_true, Bool.not_eq_false] at hc) <;> first | (first | (exact absurd rfl hc) | (exfalso; omega) | (exact absurd (hc.symm.trans (by assumption : _ = false)) (by decide)) | (exact absurd (hc.symm.trans (by assumption : _ = true)) (by decide))) | skip)) | refine loopK.x ?_)
      | (fail)
      | fail
    all_goals first | (exfalso; omega) | skip
    obtain rfl : k = n := by omega
    all_goals (refine ret1f rfl rfl rfl (fun w1 hw => ⟨rfl, hw.below⟩))
end Go.Proofs.Ytbhgahjeocnfcaa
namespace Go.Proofs.Ytbhgahjeocnfcaa
open Go Go.Cx Go.RowKit
set_option linter.unusedVariables false
set_option linter.unusedSimpArgs false
set_option maxHeartbeats 4000000
attribute [local irreducible] J JC thenK blockK loopK drawK retK QW Qt pel List.set Calls
open Go.Maps Go.Lib
set_option maxRecDepth 8000
attribute [local irreducible] JE Br eK0 eK3 brK pc
section
variable {P : Program} {n : Nat} {w0 : World} {R : Heap} {l0 : List Oper} {K : Exit → Fr → List Heap → Prop} {f : Fr} {L : List Heap} {rest : List (Nat × Oper)} {κ : Nat}
variable {Γ : List (Nat × TI)} {d : Nat} {ty : TypeId} {pos : String} {aft : Array Edge} {g : Option (Nat × Bool)}
theorem J.makeC {α : Type} {enc : α → List Value} (z0 : α) {t e : TypeId} {x y : Operand} {m : Nat} {kl kc : IntKind} {s1 s2 b1 b2 : Nat} {z1 : Option Value} {z : Value} {de : TypeDesc} (hΓ : Fits P Γ) (hg : wantB n f l0 ⟨some d, .makeSlice t x y, ty, pos, aft, g⟩ = true)
    (hx : Cx.ev n f x = .int kl 0) (hy : Cx.ev n f y = .int kc (m : Int)) (ht : Go.Cx.look Γ t = some ⟨.slice e, s1, z1, b1⟩) (he : Go.Cx.look Γ e = some ⟨de, s2, some z, b2⟩) (hz : vcells z = some (enc z0)) (hE : ∀ t, (enc t).length = s2) (hb : b2 * m ≤ 281474976710656) (h63 : m ≤ 9223372036854775807)
    (k : ∀ b h, OwT enc s2 e (some ⟨b, 0, none⟩) m ([] : List α) h → J P n w0 R l0 K rest (upd f d (.slice (some ⟨b, 0, none⟩) 0 m)) (h :: L)) : J P n w0 R l0 K ((κ + 2, ⟨some d, .makeSlice t x y, ty, pos, aft, g⟩) :: rest) f L := by
  refine J.vg (Φ := fun v h => ∃ b, v = .slice (some ⟨b, 0, none⟩) 0 m ∧ h = [(b, .cells ⟨zrep m (enc z0)⟩ e (0, 0))]) hg
    (fun w hw => ⟨.slice (some ⟨w.heap.size, 0, none⟩) 0 m, _, w.alloc (.cells ⟨zrep m (enc z0)⟩ e (0, 0)), ?_, hw.alloc _, w.heap.size, rfl, rfl⟩)
    (fun v L' ⟨b, h1, h2⟩ => by
      subst h1; subst h2
      refine k b _ ⟨hE, .inr ⟨b, zrep m (enc z0), rfl, rfl, ?_, Nat.zero_le _, ?_⟩⟩
      · rw [zrep_len, hE]
      · simp)
  have hu := (hΓ t _ ht).1
  obtain ⟨hue, ie, hie, hse, hze, hbe⟩ := hΓ e _ he
  have hb' : (ie.bytes : Int) * (m : Int) ≤ 281474976710656 := by
    have h1 : ((b2 * m : Nat) : Int) ≤ 281474976710656 := by omega
    rw [Int.natCast_mul] at h1
    rw [hbe]
    exact h1
  have hrun := run_make (P := P) w t e ie z hu hie hze kl kc 0 m (by omega) (by omega) hb' (by omega)
  have hmade : madeCells z.cells ((m : Int).toNat * ie.size) = (zrep m (enc z0)).toArray := by
    unfold madeCells
    rw [vcells_eq hz, hse]
    have := made_eq (enc z0) m
    rw [hE] at this
    simpa [hE] using this
  rw [hmade] at hrun
  simp only [execOp, hx, hy, Sem.run_bind]
  rw [hrun]
  rfl
end
def dgF : Nat → Nat → List Nat
  | 0, _ => []
  | f + 1, v => if v = 0 then [] else v % 10 :: dgF f (v / 10)
theorem dec_dg : ∀ f v, decF f v = (dgF f v).map fun d => UInt8.ofNat (48 + d)
  | 0, _ => rfl
  | f + 1, v => by
    rw [decF, dgF]
    split
    · rfl
    · rw [List.map_cons, dec_dg f]
theorem dg_lt : ∀ f v, ∀ d ∈ dgF f v, d < 10
  | 0, _, d, h => by cases h
  | f + 1, v, d, h => by
    rw [dgF] at h
    split at h
    · cases h
    · rcases List.mem_cons.1 h with rfl | h
      · exact Nat.mod_lt _ (by decide)
      · exact dg_lt f _ d h
theorem dg_last : ∀ f v, v ≤ f → ∀ h : dgF f v ≠ [], (dgF f v).getLast h ≠ 0
  | 0, _, _, h => absurd rfl h
  | f + 1, v, hv, h => by
    have h0 : v ≠ 0 := fun e => h (by rw [dgF, if_pos e])
    have e : dgF (f + 1) v = v % 10 :: dgF f (v / 10) := by rw [dgF, if_neg h0]
    by_cases h1 : dgF f (v / 10) = []
    · have h2 : v / 10 = 0 := by
        cases f with
        | zero => omega
        | succ f => rw [dgF] at h1; split at h1; · assumption
                    · cases h1
      have : (dgF (f + 1) v).getLast h = v % 10 := by simp [e, h1]
      rw [this]; omega
    · have : (dgF (f + 1) v).getLast h = (dgF f (v / 10)).getLast h1 := by simp [e, List.getLast_cons h1]
      rw [this]
      exact dg_last f (v / 10) (by omega) h1
theorem eCount30 : Entr Try.prog 37 := Entr.of Try.func37 rfl rfl
theorem eOf01 : Entr Try.prog 85 := Entr.of Try.func85 rfl rfl
theorem eForm01 : Entr Try.prog 129 := Entr.of Try.func129 rfl rfl
def outB (D : List Nat) (q : Nat) : List UInt8 := (D.reverse.take q).map fun d => UInt8.ofNat (48 + d)
theorem outB_s (D : List Nat) {q : Nat} (h : q < D.length) : outB D (q + 1) = outB D q ++ [UInt8.ofNat (48 + D.getD (D.length - 1 - q) 0)] := by
  unfold outB
  rw [List.take_add_one, List.map_append, List.getElem?_reverse h, List.getElem?_eq_getElem (by omega), List.getD_eq_getElem?_getD, List.getElem?_eq_getElem (by omega)]
  rfl
theorem outB_len (D : List Nat) {q : Nat} (h : q ≤ D.length) : (outB D q).length = q := by simp [outB]; omega
theorem outB_n (D : List Nat) : outB D D.length = (D.map fun d => UInt8.ofNat (48 + d)).reverse := by
  unfold outB
  rw [List.take_of_length_le (by simp), List.map_reverse]
theorem form_any (D : List Nat) (hD : ∀ d ∈ D, d < 10) (hlast : ∀ h : D ≠ [], D.getLast h ≠ 0) (hl : D.length ≤ 1000) (a : Option Addr) (c : Nat) (h : Heap) (hs : SlT encI 1 a (natI D) h) (w : World) (hw1 : Holds h w) :
    Calls Try.prog 129 #[.slice a D.length c] w fun e w' => e = .returned (.string (S (if D = [] then [48] else (D.map fun d => UInt8.ofNat (48 + d)).reverse))) ∧ Below w.heap.size w w' := by
  have q0 : ∀ L, RdH h L h := fun L => RdH.old fun _ hh => hh
  have hnl := natI_len D
  have hz : 1 < D.length → (((D.getD (D.length - 1) 0 : Nat) : Int) == 0) = false := fun h1 => by
    have hne : D ≠ [] := fun e => by rw [e] at h1; simp at h1
    have := hlast hne
    rw [List.getLast_eq_getElem] at this
    rw [List.getD_eq_getElem?_getD, List.getElem?_eq_getElem (by omega)]
    simpa using this
  refine calls_of_JC (R := h) Try.func129 Try.ntmps129 rfl rfl (hw1) ?_
  repeat' first
    | (refine J.isJ ?_; first | (fail) | (first | (refine J.o 0 ?_; refine J.ev' hΓ ?_) | refine J.nil ?_ | refine J.kd ?_ | (refine J.o 4 ?_; first | refine J.lT default hΓ ?_) | (refine J.o 3 ?_; first | refine J.iJ hΓ ?_ | refine J.ev' hΓ ?_) | (refine J.o 1 ?_; first | refine J.sb ?_) | (refine J.o 9 ?_; refine J.bl hΓ (fun _ => ?_)) | (refine J.o 10 ?_; refine J.ev' hΓ ?_) | (refine J.o 11 ?_; refine J.ev' hΓ ?_)) | ((fail_if_success refine J.wt ?_); refine J.gc rfl rfl (fun hc => ?_) (fun hc => ?_) <;> ((try simp only [decide_eq_true_eq, decide_eq_false_iff_not, beq_iff_eq, beq_eq_false_iff_ne, bne_iff_ne, bne_eq_false_iff_eq, Bool.not_eq_true', Bool.not_eq_false', Bool.not_eq_true, Bool.not_eq_false] at hc) <;> first | (first | (exact absurd rfl hc) | (exfalso; omega) | (exact absurd (hc.symm.trans (by assumption : _ = false)) (by decide)) | (exact absurd (hc.symm.trans (by assumption : _ = true)) (by decide))) | skip)))
    | (first | refine JC.seq ?_ | refine JC.region ?_ | refine JC.block ?_ | refine JC.ret ?_ | refine JC.exit ?_ | refine JC.skip ?_ | refine thenK.nn ?_ | refine thenK.r ?_ | refine thenK.x ?_ | refine blockK.nn ?_ | refine blockK.hit rfl ?_ | refine JC.condT rfl ?_ | refine JC.condF rfl ?_ | (refine JC.cond rfl (fun hc => ?_) (fun hc => ?_) <;> ((try simp only [decide_eq_true_eq, decide_eq_false_iff_not, beq_iff_eq, beq_eq_false_iff_ne, bne_iff_ne, bne_eq_false_iff_eq, Bool.not_eq_true', Bool.not_eq_false', Bool.not_eq_true, Bool.not_eq_false] at hc) <;> first | (first | (exact absurd rfl hc) | (exfalso; omega) | (exact absurd (hc.symm.trans (by assumption : _ = false)) (by decide)) | (exact absurd (hc.symm.trans (by assumption : _ = true)) (by decide))) | skip)) | refine loopK.x ?_)
    | (fail)
    | fail
  all_goals first | (exfalso; omega) | skip
  refine JC.loop (fun i => i == 3 || Nat.ble 8 i) (fun m g L => g 3 = .int .i64 (D.length : Int) ∧ L = []) 0 ⟨rfl, rfl⟩ ?_
  rintro m g L ⟨e3, rfl⟩
  refine JC.pin 3 e3 ?_
  have hgt : 1 < D.length → (natI D).getD (D.length - 1) default = ((D.getD (D.length - 1) 0 : Nat) : Int) := fun h1 => natI_get D (by omega)
  repeat' first
    | (refine J.isJ ?_; first | (first | (refine J.o 1 ?_; refine J.gsub (b := 1) ?_) | (refine J.o 3 ?_; refine J.iJ hΓ ?_ (hs := hs)) | (refine J.o 4 ?_; refine J.lT default hΓ ?_ (hs := hs) (hr := q0 _); rw [hgt (by omega)]) | (refine J.o 11 ?_; refine J.ev' hΓ ?_; rw [hz (by omega)]) | (refine J.o 9 ?_; refine J.makeC (enc := encB) (m := D.length) (0 : UInt8) hΓ rfl rfl rfl rfl rfl rfl (fun _ => rfl) (by omega) (by omega) (fun bp hp0 op0 => ?_))) | (first | (refine J.o 0 ?_; refine J.ev' hΓ ?_) | refine J.nil ?_ | refine J.kd ?_ | (refine J.o 4 ?_; first | refine J.lT default hΓ ?_) | (refine J.o 3 ?_; first | refine J.iJ hΓ ?_ | refine J.ev' hΓ ?_) | (refine J.o 1 ?_; first | refine J.sb ?_) | (refine J.o 9 ?_; refine J.bl hΓ (fun _ => ?_)) | (refine J.o 10 ?_; refine J.ev' hΓ ?_) | (refine J.o 11 ?_; refine J.ev' hΓ ?_)) | ((fail_if_success refine J.wt ?_); refine J.gc rfl rfl (fun hc => ?_) (fun hc => ?_) <;> ((try simp only [decide_eq_true_eq, decide_eq_false_iff_not, beq_iff_eq, beq_eq_false_iff_ne, bne_iff_ne, bne_eq_false_iff_eq, Bool.not_eq_true', Bool.not_eq_false', Bool.not_eq_true, Bool.not_eq_false] at hc) <;> first | (first | (exact absurd rfl hc) | (exfalso; omega) | (exact absurd (hc.symm.trans (by assumption : _ = false)) (by decide)) | (exact absurd (hc.symm.trans (by assumption : _ = true)) (by decide))) | skip)))
    | (first | refine JC.seq ?_ | refine JC.region ?_ | refine JC.block ?_ | refine JC.ret ?_ | refine JC.exit ?_ | refine JC.skip ?_ | refine thenK.nn ?_ | refine thenK.r ?_ | refine thenK.x ?_ | refine blockK.nn ?_ | refine blockK.hit rfl ?_ | refine JC.condT rfl ?_ | refine JC.condF rfl ?_ | (refine JC.cond rfl (fun hc => ?_) (fun hc => ?_) <;> ((try simp only [decide_eq_true_eq, decide_eq_false_iff_not, beq_iff_eq, beq_eq_false_iff_ne, bne_iff_ne, bne_eq_false_iff_eq, Bool.not_eq_true', Bool.not_eq_false', Bool.not_eq_true, Bool.not_eq_false] at hc) <;> first | (first | (exact absurd rfl hc) | (exfalso; omega) | (exact absurd (hc.symm.trans (by assumption : _ = false)) (by decide)) | (exact absurd (hc.symm.trans (by assumption : _ = true)) (by decide))) | skip)) | refine loopK.x ?_)
    | (fail)
    | fail
  all_goals first | (exfalso; omega) | skip
  all_goals
    refine JC.loop (fun i => i == 4 || i == 5 || Nat.ble 24 i) (fun m g L => ∃ (q : Nat) (aO : Option Addr) (cO : Nat) (hO : Heap), g 5 = .int .i64 ((D.length : Int) - 1 - (q : Int)) ∧ g 4 = .slice aO (outB D q).length cO ∧ q + m = D.length ∧ OwT encB 1 5 aO cO (outB D q) hO ∧ L = [hO]) D.length ⟨0, _, _, _, by show Value.int .i64 _ = _; congr 1; omega, rfl, by omega, op0, rfl⟩ ?_
    rintro m g L ⟨q, aO, cO, hO, e5, e4, hqm, oO, rfl⟩
    refine JC.pin 4 e4 ?_
    have hol := outB_len D (q := q) (by omega)
    rcases Nat.lt_or_ge q D.length with hq | hq
    ·
      have e5' : g 5 = .int .i64 ((D.length - 1 - q : Nat) : Int) := by rw [e5]; congr 1; omega
      refine JC.pin 5 e5' ?_
      have hgq : (natI D).getD (D.length - 1 - q) default = ((D.getD (D.length - 1 - q) 0 : Nat) : Int) := natI_get D (by omega)
      have hd10 := hD _ (mem_g0 D (k := D.length - 1 - q) (by omega))
      have hos := outB_s D hq
      repeat' first
        | (refine J.isJ ?_; first | (first | (refine J.o 3 ?_; refine J.iJ hΓ ?_ (hs := hs)) | (refine J.o 4 ?_; refine J.lT default hΓ ?_ (hs := hs) (hr := q0 _); rw [hgq]) | (refine J.o 1 ?_; first | refine J.gadd (a := 48) ?_ (hw := wI64 (by omega))) | (refine J.o 2 ?_; refine J.gcv hΓ ?_ (hk := wT8 _)) | (refine J.o 9 ?_; first | (first | (refine J.ap1 (enc := encB) [UInt8.ofNat (48 + D.getD (D.length - 1 - q) 0)] hΓ (fun a2 c2 h2 o2 => ?_))))) | (first | (refine J.o 0 ?_; refine J.ev' hΓ ?_) | refine J.nil ?_ | refine J.kd ?_ | (refine J.o 4 ?_; first | refine J.lT default hΓ ?_) | (refine J.o 3 ?_; first | refine J.iJ hΓ ?_ | refine J.ev' hΓ ?_) | (refine J.o 1 ?_; first | refine J.sb ?_) | (refine J.o 9 ?_; refine J.bl hΓ (fun _ => ?_)) | (refine J.o 10 ?_; refine J.ev' hΓ ?_) | (refine J.o 11 ?_; refine J.ev' hΓ ?_)) | ((fail_if_success refine J.wt ?_); refine J.gc rfl rfl (fun hc => ?_) (fun hc => ?_) <;> ((try simp only [decide_eq_true_eq, decide_eq_false_iff_not, beq_iff_eq, beq_eq_false_iff_ne, bne_iff_ne, bne_eq_false_iff_eq, Bool.not_eq_true', Bool.not_eq_false', Bool.not_eq_true, Bool.not_eq_false] at hc) <;> first | (first | (exact absurd rfl hc) | (exfalso; omega) | (exact absurd (hc.symm.trans (by assumption : _ = false)) (by decide)) | (exact absurd (hc.symm.trans (by assumption : _ = true)) (by decide))) | skip)))
        | (first | refine JC.seq ?_ | refine JC.region ?_ | refine JC.block ?_ | refine JC.ret ?_ | refine JC.exit ?_ | refine JC.skip ?_ | refine thenK.nn ?_ | refine thenK.r ?_ | refine thenK.x ?_ | refine blockK.nn ?_ | refine blockK.hit rfl ?_ | refine JC.condT rfl ?_ | refine JC.condF rfl ?_ | (refine JC.cond rfl (fun hc => ?_) (fun hc => ?_) <;> ((try simp only [decide_eq_true_eq, decide_eq_false_iff_not, beq_iff_eq, beq_eq_false_iff_ne, bne_iff_ne, bne_eq_false_iff_eq, Bool.not_eq_true', Bool.not_eq_false', Bool.not_eq_true, Bool.not_eq_false] at hc) <;> first | (first | (exact absurd rfl hc) | (exfalso; omega) | (exact absurd (hc.symm.trans (by assumption : _ = false)) (by decide)) | (exact absurd (hc.symm.trans (by assumption : _ = true)) (by decide))) | skip)) | refine loopK.x ?_)
        | (fail)
        | fail
      all_goals first | (exfalso; omega) | skip
      rw [← hos] at o2
      refine loopK.nn (m - 1) (by omega) (by repeat (first | refine Ag.upd rfl ?_ | exact Ag.hv | refine Ag.hv2 (fun i hi => by simp at hi ⊢; omega) ?_)) ⟨q + 1, a2, c2, h2, ?_, ?_, by omega, o2, rfl⟩
      · show Value.int .i64 _ = _; congr 1; omega
      · show Value.slice _ _ _ = _; rw [hos]
    ·
      obtain rfl : q = D.length := by omega
      refine JC.pin 5 e5 ?_
      have hon := outB_n D
      by_cases h0 : D = []
      ·
        have hl0 : D.length = 0 := by rw [h0]; rfl
        rw [if_pos h0]
        repeat' first
          | (refine J.isJ ?_; first | (fail) | (first | (refine J.o 0 ?_; refine J.ev' hΓ ?_) | refine J.nil ?_ | refine J.kd ?_ | (refine J.o 4 ?_; first | refine J.lT default hΓ ?_) | (refine J.o 3 ?_; first | refine J.iJ hΓ ?_ | refine J.ev' hΓ ?_) | (refine J.o 1 ?_; first | refine J.sb ?_) | (refine J.o 9 ?_; refine J.bl hΓ (fun _ => ?_)) | (refine J.o 10 ?_; refine J.ev' hΓ ?_) | (refine J.o 11 ?_; refine J.ev' hΓ ?_)) | ((fail_if_success refine J.wt ?_); refine J.gc rfl rfl (fun hc => ?_) (fun hc => ?_) <;> ((try simp only [decide_eq_true_eq, decide_eq_false_iff_not, beq_iff_eq, beq_eq_false_iff_ne, bne_iff_ne, bne_eq_false_iff_eq, Bool.not_eq_true', Bool.not_eq_false', Bool.not_eq_true, Bool.not_eq_false] at hc) <;> first | (first | (exact absurd rfl hc) | (exfalso; omega) | (exact absurd (hc.symm.trans (by assumption : _ = false)) (by decide)) | (exact absurd (hc.symm.trans (by assumption : _ = true)) (by decide))) | skip)))
          | (first | refine JC.seq ?_ | refine JC.region ?_ | refine JC.block ?_ | refine JC.ret ?_ | refine JC.exit ?_ | refine JC.skip ?_ | refine thenK.nn ?_ | refine thenK.r ?_ | refine thenK.x ?_ | refine blockK.nn ?_ | refine blockK.hit rfl ?_ | refine JC.condT rfl ?_ | refine JC.condF rfl ?_ | (refine JC.cond rfl (fun hc => ?_) (fun hc => ?_) <;> ((try simp only [decide_eq_true_eq, decide_eq_false_iff_not, beq_iff_eq, beq_eq_false_iff_ne, bne_iff_ne, bne_eq_false_iff_eq, Bool.not_eq_true', Bool.not_eq_false', Bool.not_eq_true, Bool.not_eq_false] at hc) <;> first | (first | (exact absurd rfl hc) | (exfalso; omega) | (exact absurd (hc.symm.trans (by assumption : _ = false)) (by decide)) | (exact absurd (hc.symm.trans (by assumption : _ = true)) (by decide))) | skip)) | refine loopK.x ?_)
          | (fail)
          | fail
        all_goals first | (exfalso; omega) | skip
        all_goals (refine ret1f rfl rfl rfl (fun w1 hw => ⟨rfl, hw.below⟩))
      ·
        have hl0 : D.length ≠ 0 := fun e => h0 (List.eq_nil_of_length_eq_zero e)
        rw [if_neg h0, ← hon]
        repeat' first
          | (refine J.isJ ?_; first | ((refine J.o 2 ?_; refine J.cvS (bs := outB D D.length) hΓ ?_ (hs := oO.sl))) | (first | (refine J.o 0 ?_; refine J.ev' hΓ ?_) | refine J.nil ?_ | refine J.kd ?_ | (refine J.o 4 ?_; first | refine J.lT default hΓ ?_) | (refine J.o 3 ?_; first | refine J.iJ hΓ ?_ | refine J.ev' hΓ ?_) | (refine J.o 1 ?_; first | refine J.sb ?_) | (refine J.o 9 ?_; refine J.bl hΓ (fun _ => ?_)) | (refine J.o 10 ?_; refine J.ev' hΓ ?_) | (refine J.o 11 ?_; refine J.ev' hΓ ?_)) | ((fail_if_success refine J.wt ?_); refine J.gc rfl rfl (fun hc => ?_) (fun hc => ?_) <;> ((try simp only [decide_eq_true_eq, decide_eq_false_iff_not, beq_iff_eq, beq_eq_false_iff_ne, bne_iff_ne, bne_eq_false_iff_eq, Bool.not_eq_true', Bool.not_eq_false', Bool.not_eq_true, Bool.not_eq_false] at hc) <;> first | (first | (exact absurd rfl hc) | (exfalso; omega) | (exact absurd (hc.symm.trans (by assumption : _ = false)) (by decide)) | (exact absurd (hc.symm.trans (by assumption : _ = true)) (by decide))) | skip)))
          | (first | refine JC.seq ?_ | refine JC.region ?_ | refine JC.block ?_ | refine JC.ret ?_ | refine JC.exit ?_ | refine JC.skip ?_ | refine thenK.nn ?_ | refine thenK.r ?_ | refine thenK.x ?_ | refine blockK.nn ?_ | refine blockK.hit rfl ?_ | refine JC.condT rfl ?_ | refine JC.condF rfl ?_ | (refine JC.cond rfl (fun hc => ?_) (fun hc => ?_) <;> ((try simp only [decide_eq_true_eq, decide_eq_false_iff_not, beq_iff_eq, beq_eq_false_iff_ne, bne_iff_ne, bne_eq_false_iff_eq, Bool.not_eq_true', Bool.not_eq_false', Bool.not_eq_true, Bool.not_eq_false] at hc) <;> first | (first | (exact absurd rfl hc) | (exfalso; omega) | (exact absurd (hc.symm.trans (by assumption : _ = false)) (by decide)) | (exact absurd (hc.symm.trans (by assumption : _ = true)) (by decide))) | skip)) | refine loopK.x ?_)
          | (fail)
          | fail
        all_goals first | (exfalso; omega) | skip
        all_goals (refine ret1f rfl rfl rfl (fun w1 hw => ⟨rfl, hw.below⟩))
def m10 (v : Nat) : Nat := v % 10
theorem form_any2 (D : List Nat) (nl : Nat) (hnl : D.length = nl) (hD : ∀ d ∈ D, d < 10) (hlast : ∀ h : D ≠ [], D.getLast h ≠ 0) (hl : D.length ≤ 1000) (a : Option Addr) (c : Nat) (h : Heap) (hs : SlT encI 1 a (natI D) h) (w : World) (hw1 : Holds h w) :
    Calls Try.prog 129 #[.slice a nl c] w fun e w' => e = .returned (.string (S (if D = [] then [48] else (D.map fun d => UInt8.ofNat (48 + d)).reverse))) ∧ Below w.heap.size w w' := by
  subst hnl
  exact form_any D hD hlast hl a c h hs w hw1
theorem dg_len : ∀ f v, (dgF f v).length ≤ v
  | 0, _ => Nat.zero_le _
  | f + 1, v => by
    rw [dgF]
    split
    · exact Nat.zero_le _
    · have := dg_len f (v / 10); rw [List.length_cons]; omega
def txt (v : Nat) : List UInt8 := if dgF v v = [] then [48] else ((dgF v v).map fun d => UInt8.ofNat (48 + d)).reverse
theorem of01_any (V : Nat) (hV : V ≤ 1000) (w : World) : Calls Try.prog 85 #[.int .u64 (V : Int)] w fun e w' => e = .returned (.string (S (txt V))) ∧ Below w.heap.size w w' := by
  have hdl := dg_len V V
  refine calls_of_JC (R := []) Try.func85 Try.ntmps85 rfl rfl (Holds.nil _) ?_
  repeat' first
    | (refine J.isJ ?_; first | (fail) | (first | (refine J.o 0 ?_; refine J.ev' hΓ ?_) | refine J.nil ?_ | (refine J.o 3 ?_; first | refine J.ev' hΓ ?_) | (refine J.o 9 ?_; refine J.bl hΓ (fun _ => ?_)) | (refine J.o 10 ?_; refine J.ev' hΓ ?_) | (refine J.o 11 ?_; refine J.ev' hΓ ?_)))
    | (first | refine JC.seq ?_ | refine JC.region ?_ | refine JC.block ?_ | refine JC.ret ?_ | refine JC.exit ?_ | refine JC.skip ?_ | refine thenK.nn ?_ | refine thenK.x ?_ | refine blockK.nn ?_ | refine blockK.hit rfl ?_ | refine JC.condF rfl ?_ | (refine JC.cond rfl (fun hc => ?_) (fun hc => ?_) <;> ((try simp only [decide_eq_true_eq, decide_eq_false_iff_not, beq_iff_eq, beq_eq_false_iff_ne, bne_iff_ne, bne_eq_false_iff_eq, Bool.not_eq_true', Bool.not_eq_false', Bool.not_eq_true, Bool.not_eq_false] at hc) <;> first | (first | (exact absurd rfl hc) | (exfalso; omega) | (exact absurd (hc.symm.trans (by assumption : _ = false)) (by decide)) | (exact absurd (hc.symm.trans (by assumption : _ = true)) (by decide))) | skip)) | refine loopK.x ?_)
    | (fail)
    | fail
  all_goals first | (exfalso; omega) | skip
  refine JC.nilF ?_
  refine JC.loop (fun i => i == 0 || i == 3 || Nat.ble 4 i) (fun m g L => ∃ (v : Nat) (ds : List Nat) (aO : Option Addr) (cO : Nat) (hO : Heap), g 0 = .int .u64 (v : Int) ∧ g 3 = .slice aO (natI ds).length cO ∧ v ≤ m ∧ m ≤ 1000 ∧ ds ++ dgF m v = dgF V V ∧ OwT encI 1 3 aO cO (natI ds) hO ∧ L = [hO]) V ⟨V, [], none, 0, [], rfl, rfl, Nat.le_refl _, hV, rfl, OwT.nil (fun _ => rfl), rfl⟩ ?_
  rintro m g L ⟨v, ds, aO, cO, hO, e0, e3, hvm, hm, hds, oO, rfl⟩
  refine JC.pin 0 e0 ?_
  refine JC.pin 3 e3 ?_
  have hnl := natI_len ds
  have hdsl : ds.length ≤ (dgF V V).length := by rw [← hds, List.length_append]; omega
  rcases Nat.eq_zero_or_pos v with h0 | h0
  ·
    subst h0
    have hz : dgF m 0 = [] := by cases m <;> simp [dgF]
    rw [hz, List.append_nil] at hds
    subst hds
    have cF := fun w hw => form_any2 (dgF V V) (natI (dgF V V)).length (natI_len _).symm (dg_lt V V) (dg_last V V (Nat.le_refl _)) (by omega) aO cO hO oO.sl w hw
    repeat' first
      | (refine J.isJ ?_; first | ((refine J.fc 129 ?_; refine J.call0 eForm01 rfl rfl (fun w hw => cF w (hw.rdH RdH.hd)) ?_)) | (first | (refine J.o 0 ?_; refine J.ev' hΓ ?_) | refine J.nil ?_ | (refine J.o 3 ?_; first | refine J.ev' hΓ ?_) | (refine J.o 9 ?_; refine J.bl hΓ (fun _ => ?_)) | (refine J.o 10 ?_; refine J.ev' hΓ ?_) | (refine J.o 11 ?_; refine J.ev' hΓ ?_)))
      | (first | refine JC.seq ?_ | refine JC.region ?_ | refine JC.block ?_ | refine JC.ret ?_ | refine JC.exit ?_ | refine JC.skip ?_ | refine thenK.nn ?_ | refine thenK.x ?_ | refine blockK.nn ?_ | refine blockK.hit rfl ?_ | refine JC.condF rfl ?_ | (refine JC.cond rfl (fun hc => ?_) (fun hc => ?_) <;> ((try simp only [decide_eq_true_eq, decide_eq_false_iff_not, beq_iff_eq, beq_eq_false_iff_ne, bne_iff_ne, bne_eq_false_iff_eq, Bool.not_eq_true', Bool.not_eq_false', Bool.not_eq_true, Bool.not_eq_false] at hc) <;> first | (first | (exact absurd rfl hc) | (exfalso; omega) | (exact absurd (hc.symm.trans (by assumption : _ = false)) (by decide)) | (exact absurd (hc.symm.trans (by assumption : _ = true)) (by decide))) | skip)) | refine loopK.x ?_)
      | (fail)
      | fail
    all_goals first | (exfalso; omega) | skip
    all_goals (refine ret1f rfl rfl rfl (fun w1 hw => ⟨rfl, hw.below⟩))
  ·
    obtain ⟨m', rfl⟩ : ∃ m', m = m' + 1 := ⟨m - 1, by omega⟩
    have hd : dgF (m' + 1) v = v % 10 :: dgF m' (v / 10) := by rw [dgF, if_neg (by omega)]
    repeat' first
      | (refine J.isJ ?_; first | (first | (refine J.o 1 ?_; first | refine J.grem (b := 10) ?_ | refine J.gquo (b := 10) ?_ (hw := wU64 (by omega))) | (refine J.o 2 ?_; refine J.gcv hΓ ?_ (hk := wI64 (by omega))) | (refine J.o 9 ?_; first | (first | (refine J.ap1 (enc := encI) [((m10 v : Nat) : Int)] hΓ (fun a2 c2 h2 o2 => ?_))))) | (first | (refine J.o 0 ?_; refine J.ev' hΓ ?_) | refine J.nil ?_ | (refine J.o 3 ?_; first | refine J.ev' hΓ ?_) | (refine J.o 9 ?_; refine J.bl hΓ (fun _ => ?_)) | (refine J.o 10 ?_; refine J.ev' hΓ ?_) | (refine J.o 11 ?_; refine J.ev' hΓ ?_)))
      | (first | refine JC.seq ?_ | refine JC.region ?_ | refine JC.block ?_ | refine JC.ret ?_ | refine JC.exit ?_ | refine JC.skip ?_ | refine thenK.nn ?_ | refine thenK.x ?_ | refine blockK.nn ?_ | refine blockK.hit rfl ?_ | refine JC.condF rfl ?_ | (refine JC.cond rfl (fun hc => ?_) (fun hc => ?_) <;> ((try simp only [decide_eq_true_eq, decide_eq_false_iff_not, beq_iff_eq, beq_eq_false_iff_ne, bne_iff_ne, bne_eq_false_iff_eq, Bool.not_eq_true', Bool.not_eq_false', Bool.not_eq_true, Bool.not_eq_false] at hc) <;> first | (first | (exact absurd rfl hc) | (exfalso; omega) | (exact absurd (hc.symm.trans (by assumption : _ = false)) (by decide)) | (exact absurd (hc.symm.trans (by assumption : _ = true)) (by decide))) | skip)) | refine loopK.x ?_)
      | (fail)
      | fail
    all_goals first | (exfalso; omega) | skip
    have hn2 : natI (ds ++ [m10 v]) = natI ds ++ [((m10 v : Nat) : Int)] := by unfold natI; rw [List.map_append]; rfl
    rw [← hn2] at o2
    refine loopK.nn m' (by omega) (by repeat (first | refine Ag.upd rfl ?_ | exact Ag.hv)) ⟨v / 10, ds ++ [m10 v], a2, c2, h2, rfl, ?_, by omega, by omega, by rw [← hds, hd, List.append_assoc]; rfl, o2, rfl⟩
    show Value.slice _ _ _ = _; rw [hn2]
theorem cnt_s (t : List Bool) {q : Nat} (h : q < t.length) : (t.take (q + 1)).count true = (t.take q).count true + (if t.getD q default then 1 else 0) := by
  rw [List.take_add_one, List.getElem?_eq_getElem h, List.getD_eq_getElem?_getD, List.getElem?_eq_getElem h, List.count_append]
  cases t[q] <;> rfl
theorem count30_any (t : List Bool) (hl : t.length ≤ 256) (a : Option Addr) (c : Nat) (h : Heap) (hs : SlT encBo 1 a t h) (w : World) (hw1 : Holds h w) :
    Calls Try.prog 37 #[.slice a t.length c] w fun e w' => e = .returned (.string (S (txt (t.count true)))) ∧ Below w.heap.size w w' := by
  have q0 : ∀ L, RdH h L h := fun L => RdH.old fun _ hh => hh
  refine calls_of_JC (R := h) Try.func37 Try.ntmps37 rfl rfl (hw1) ?_
  repeat' first
    | (refine J.isJ ?_; first | (fail) | (first | (refine J.o 0 ?_; refine J.ev' hΓ ?_) | refine J.nil ?_ | (refine J.o 4 ?_; first | refine J.lT default hΓ ?_) | (refine J.o 3 ?_; first | refine J.iJ hΓ ?_ | refine J.ev' hΓ ?_) | (refine J.o 1 ?_; first | refine J.ad ?_) | (refine J.o 10 ?_; refine J.ev' hΓ ?_) | (refine J.o 11 ?_; refine J.ev' hΓ ?_)))
    | (first | refine JC.seq ?_ | refine JC.region ?_ | refine JC.block ?_ | refine JC.ret ?_ | refine JC.exit ?_ | refine JC.skip ?_ | refine thenK.nn ?_ | refine thenK.x ?_ | refine blockK.nn ?_ | refine blockK.hit rfl ?_ | refine JC.condT rfl ?_ | refine JC.condF rfl ?_ | (refine JC.cond rfl (fun hc => ?_) (fun hc => ?_) <;> ((try simp only [decide_eq_true_eq, decide_eq_false_iff_not, beq_iff_eq, beq_eq_false_iff_ne, bne_iff_ne, bne_eq_false_iff_eq, Bool.not_eq_true', Bool.not_eq_false', Bool.not_eq_true, Bool.not_eq_false] at hc) <;> first | (first | (exact absurd rfl hc) | (exfalso; omega) | (exact absurd (hc.symm.trans (by assumption : _ = false)) (by decide)) | (exact absurd (hc.symm.trans (by assumption : _ = true)) (by decide))) | skip)) | refine loopK.x ?_)
    | (fail)
    | fail
  all_goals first | (exfalso; omega) | skip
  refine JC.loop (fun i => i == 3 || i == 4 || Nat.ble 5 i) (fun m g L => ∃ q : Nat, g 4 = .int .i64 (q : Int) ∧ g 3 = .int .u64 (((t.take q).count true : Nat) : Int) ∧ q + m = t.length ∧ L = []) t.length ⟨0, rfl, rfl, by omega, rfl⟩ ?_
  rintro m g L ⟨q, e4, e3, hqm, rfl⟩
  refine JC.pin 4 e4 ?_
  refine JC.pin 3 e3 ?_
  rcases Nat.lt_or_ge q t.length with hq | hq
  ·
    have hcs := cnt_s t hq
    have hle : (t.take q).count true ≤ 256 := by have := List.count_le_length (a := true) (l := t.take q); rw [List.length_take] at this; omega
    cases hb : t.getD q default with
    | true =>
      rw [hb, if_pos rfl] at hcs
      repeat' first
        | (refine J.isJ ?_; first | (first | (refine J.o 1 ?_; refine J.gadd (b := 1) ?_ (hw := wU64 (by omega))) | (refine J.o 3 ?_; refine J.iJ hΓ ?_ (hs := hs)) | (refine J.o 4 ?_; refine J.lT default hΓ ?_ (hs := hs) (hr := q0 _); rw [hb])) | (first | (refine J.o 0 ?_; refine J.ev' hΓ ?_) | refine J.nil ?_ | (refine J.o 4 ?_; first | refine J.lT default hΓ ?_) | (refine J.o 3 ?_; first | refine J.iJ hΓ ?_ | refine J.ev' hΓ ?_) | (refine J.o 1 ?_; first | refine J.ad ?_) | (refine J.o 10 ?_; refine J.ev' hΓ ?_) | (refine J.o 11 ?_; refine J.ev' hΓ ?_)))
        | (first | refine JC.seq ?_ | refine JC.region ?_ | refine JC.block ?_ | refine JC.ret ?_ | refine JC.exit ?_ | refine JC.skip ?_ | refine thenK.nn ?_ | refine thenK.x ?_ | refine blockK.nn ?_ | refine blockK.hit rfl ?_ | refine JC.condT rfl ?_ | refine JC.condF rfl ?_ | (refine JC.cond rfl (fun hc => ?_) (fun hc => ?_) <;> ((try simp only [decide_eq_true_eq, decide_eq_false_iff_not, beq_iff_eq, beq_eq_false_iff_ne, bne_iff_ne, bne_eq_false_iff_eq, Bool.not_eq_true', Bool.not_eq_false', Bool.not_eq_true, Bool.not_eq_false] at hc) <;> first | (first | (exact absurd rfl hc) | (exfalso; omega) | (exact absurd (hc.symm.trans (by assumption : _ = false)) (by decide)) | (exact absurd (hc.symm.trans (by assumption : _ = true)) (by decide))) | skip)) | refine loopK.x ?_)
        | (fail)
        | fail
      all_goals first | (exfalso; omega) | skip
      refine loopK.nn (m - 1) (by omega) (by repeat (first | refine Ag.upd rfl ?_ | exact Ag.hv)) ⟨q + 1, ?_, ?_, by omega, rfl⟩
      · show Value.int .i64 _ = _; congr 1
      · show Value.int .u64 _ = _; rw [hcs]
    | false =>
      rw [hb, if_neg (by decide), Nat.add_zero] at hcs
      repeat' first
        | (refine J.isJ ?_; first | (first | (refine J.o 3 ?_; refine J.iJ hΓ ?_ (hs := hs)) | (refine J.o 4 ?_; refine J.lT default hΓ ?_ (hs := hs) (hr := q0 _); rw [hb])) | (first | (refine J.o 0 ?_; refine J.ev' hΓ ?_) | refine J.nil ?_ | (refine J.o 4 ?_; first | refine J.lT default hΓ ?_) | (refine J.o 3 ?_; first | refine J.iJ hΓ ?_ | refine J.ev' hΓ ?_) | (refine J.o 1 ?_; first | refine J.ad ?_) | (refine J.o 10 ?_; refine J.ev' hΓ ?_) | (refine J.o 11 ?_; refine J.ev' hΓ ?_)))
        | (first | refine JC.seq ?_ | refine JC.region ?_ | refine JC.block ?_ | refine JC.ret ?_ | refine JC.exit ?_ | refine JC.skip ?_ | refine thenK.nn ?_ | refine thenK.x ?_ | refine blockK.nn ?_ | refine blockK.hit rfl ?_ | refine JC.condT rfl ?_ | refine JC.condF rfl ?_ | (refine JC.cond rfl (fun hc => ?_) (fun hc => ?_) <;> ((try simp only [decide_eq_true_eq, decide_eq_false_iff_not, beq_iff_eq, beq_eq_false_iff_ne, bne_iff_ne, bne_eq_false_iff_eq, Bool.not_eq_true', Bool.not_eq_false', Bool.not_eq_true, Bool.not_eq_false] at hc) <;> first | (first | (exact absurd rfl hc) | (exfalso; omega) | (exact absurd (hc.symm.trans (by assumption : _ = false)) (by decide)) | (exact absurd (hc.symm.trans (by assumption : _ = true)) (by decide))) | skip)) | refine loopK.x ?_)
        | (fail)
        | fail
      all_goals first | (exfalso; omega) | skip
      refine loopK.nn (m - 1) (by omega) (by repeat (first | refine Ag.upd rfl ?_ | exact Ag.hv)) ⟨q + 1, ?_, ?_, by omega, rfl⟩
      · show Value.int .i64 _ = _; congr 1
      · show Value.int .u64 _ = _; rw [hcs]; rfl
  ·
    have hqe : q = t.length := by omega
    have hct : t.take q = t := List.take_of_length_le (by omega)
    rw [hct]
    have hcl := List.count_le_length (a := true) (l := t)
    repeat' first
      | (refine J.isJ ?_; first | ((refine J.fc 85 ?_; refine J.call0 eOf01 rfl rfl (fun w hw => of01_any (t.count true) (by omega) w) ?_)) | (first | (refine J.o 0 ?_; refine J.ev' hΓ ?_) | refine J.nil ?_ | (refine J.o 4 ?_; first | refine J.lT default hΓ ?_) | (refine J.o 3 ?_; first | refine J.iJ hΓ ?_ | refine J.ev' hΓ ?_) | (refine J.o 1 ?_; first | refine J.ad ?_) | (refine J.o 10 ?_; refine J.ev' hΓ ?_) | (refine J.o 11 ?_; refine J.ev' hΓ ?_)))
      | (first | refine JC.seq ?_ | refine JC.region ?_ | refine JC.block ?_ | refine JC.ret ?_ | refine JC.exit ?_ | refine JC.skip ?_ | refine thenK.nn ?_ | refine thenK.x ?_ | refine blockK.nn ?_ | refine blockK.hit rfl ?_ | refine JC.condT rfl ?_ | refine JC.condF rfl ?_ | (refine JC.cond rfl (fun hc => ?_) (fun hc => ?_) <;> ((try simp only [decide_eq_true_eq, decide_eq_false_iff_not, beq_iff_eq, beq_eq_false_iff_ne, bne_iff_ne, bne_eq_false_iff_eq, Bool.not_eq_true', Bool.not_eq_false', Bool.not_eq_true, Bool.not_eq_false] at hc) <;> first | (first | (exact absurd rfl hc) | (exfalso; omega) | (exact absurd (hc.symm.trans (by assumption : _ = false)) (by decide)) | (exact absurd (hc.symm.trans (by assumption : _ = true)) (by decide))) | skip)) | refine loopK.x ?_)
      | (fail)
      | fail
    all_goals first | (exfalso; omega) | skip
    all_goals (refine ret1f rfl rfl rfl (fun w1 hw => ⟨rfl, hw.below⟩))
end Go.Proofs.Ytbhgahjeocnfcaa
namespace Go.Proofs.Ytbhgahjeocnfcaa
open Go Go.Cx Go.RowKit
set_option linter.unusedVariables false
set_option linter.unusedSimpArgs false
set_option maxHeartbeats 4000000
attribute [local irreducible] J JC thenK blockK loopK drawK retK QW Qt pel List.set Calls
open Go.Maps Go.Lib
set_option maxRecDepth 8000
attribute [local irreducible] JE Br eK0 eK3 brK pc
theorem fn_lt {n : Nat} {ns : List N3} (w : WF n ns) {a b : Nat → Bool} : ∀ (m i : Nat), n - (nd ns i).p ≤ m → i < ns.length → (∀ k, k < n → a k = b k) → fn n ns i a = fn n ns i b
  | m, i, hm, hi, hab => by
    rcases Nat.lt_or_ge i 2 with h2 | h2
    · unfold fn; rw [ev_const _ _ _ h2, ev_const _ _ _ h2]
    · have hp := w.pl i h2 hi
      have hl := w.lp i h2 hi
      have hh := w.hp i h2 hi
      obtain ⟨m', rfl⟩ : ∃ m', m = m' + 1 := ⟨m - 1, by omega⟩
      rw [fn_node w a h2 hi, fn_node w b h2 hi, hab _ hp, fn_lt w m' _ (by omega) (w.ll i h2 hi) hab, fn_lt w m' _ (by omega) (w.hl i h2 hi) hab]
theorem asg_of (n : Nat) (α : Nat → Bool) {k : Nat} (hk : k < n) : asg n (idxQ α n n) k = α k := by
  unfold asg
  rw [(idxQ_ok _ _ _ (Nat.le_refl _)).2 k hk, decide_eq_true hk]; rfl
theorem decN_dg (v : Nat) : decN v = (dgF v v).map fun d => UInt8.ofNat (48 + d) := dec_dg v v
theorem txt_pos {v : Nat} (h : 0 < v) : txt v = (decN v).reverse := by
  unfold txt
  have h0 : dgF v v ≠ [] := by
    obtain ⟨f, rfl⟩ : ∃ f, v = f + 1 := ⟨v - 1, by omega⟩
    rw [dgF, if_neg (by omega)]; exact List.cons_ne_nil _ _
  rw [if_neg h0, decN_dg]
theorem txt_zero : txt 0 = [48] := rfl
theorem textV_any (v : Nat) (hv : v < 1000000000) (w : World) : Calls Try.prog 33 #[natV v] w fun e w' => e = .returned (.string (S (txt v))) ∧ Below w.heap.size w w' := by
  rcases Nat.eq_zero_or_pos v with rfl | h0
  · rw [txt_zero]; exact text_zero w
  · rw [txt_pos h0]; exact text_any v h0 hv w
theorem Bel.size {n : Nat} {ns : List N3} (w : WF n ns) {a : Nat} (ha : a < ns.length) {l : List Int} (b : Bel ns a l) {g : BF} (hg : ∀ α, fn n ns a α = g α) : l.length = sizeT n (tabF n g) := by
  have : tab n ns a = tabF n g := by
    unfold tab blk tabF
    exact List.map_congr_left fun r _ => hg _
  rw [← this]
  exact size_eq w ha b.nodup b.mem
end Go.Proofs.Ytbhgahjeocnfcaa
namespace Go.Proofs.Ytbhgahjeocnfcaa
open Go Go.Cx Go.RowKit
set_option linter.unusedVariables false
set_option linter.unusedSimpArgs false
set_option maxHeartbeats 4000000
attribute [local irreducible] J JC thenK blockK loopK drawK retK QW Qt pel List.set Calls
open Go.Maps Go.Lib
set_option maxRecDepth 8000
attribute [local irreducible] JE Br eK0 eK3 brK pc
abbrev VF := (Int → Bool) → Bool
def asgV (l : List Int) (β : Int → Bool) : Nat → Bool := fun k => β (l.getD k default)
def betaV (l : List Int) (α : Nat → Bool) : Int → Bool := fun v => match rk l v 0 with
  | some k => α k
  | none => false
theorem beta_at {l : List Int} (hn : l.Nodup) (α : Nat → Bool) {k : Nat} (hk : k < l.length) : betaV l α (l.getD k default) = α k := by
  unfold betaV; rw [rk_at hn hk]
theorem mem_at {l : List Int} {v : Int} (h : v ∈ l) : ∃ k, k < l.length ∧ l.getD k default = v := by
  obtain ⟨k, hk, e⟩ := List.mem_iff_getElem.1 h
  exact ⟨k, hk, by rw [List.getD_eq_getElem?_getD, List.getElem?_eq_getElem hk]; exact e⟩
def Says (ns : List N3) (l : List Int) (y : Nat) (F : VF) : Prop := y < ns.length ∧ ∀ β, fn l.length ns y (asgV l β) = F β
def gF (l : List Int) (F : VF) : BF := fun α => F (betaV l α)
theorem Says.fn {ns : List N3} {l : List Int} (hn : l.Nodup) (w : WF l.length ns) {y : Nat} {F : VF} (h : Says ns l y F) (α : Nat → Bool) : fn l.length ns y α = gF l F α := by
  unfold gF
  rw [← h.2]
  exact fn_lt w _ y (Nat.le_refl _) h.1 fun k hk => (beta_at hn α hk).symm
end Go.Proofs.Ytbhgahjeocnfcaa
namespace Go.Proofs.Ytbhgahjeocnfcaa
open Go Go.Cx Go.RowKit
set_option linter.unusedVariables false
set_option linter.unusedSimpArgs false
set_option maxHeartbeats 4000000
attribute [local irreducible] J JC thenK blockK loopK drawK retK QW Qt pel List.set Calls
theorem c_ints : Try.prog.cellsOf 28 = 1 := by kernel_rfl
theorem c_intss : Try.prog.cellsOf 22 = 1 := by kernel_rfl
theorem c_th : Try.prog.cellsOf 24 = 2 := by kernel_rfl
def toHV (s : Sl Int) : HV := ⟨s.a, s.cap, s.ts⟩
theorem slT_hv {a : Option Addr} {ts : List (Sl Int)} {h : Heap} (hs : SlT encSl 1 a ts h) : SlT encHV 1 a (ts.map toHV) h := by
  refine ⟨fun _ => rfl, fun i hi => ?_⟩
  obtain ⟨b, off, cs, e, fr, h1, h2, h3, h4⟩ := hs.at_ i (by simpa using hi)
  exact ⟨b, off, cs, e, fr, h1, h2, h3, by rw [h4, List.getElem_map]; rfl⟩
structure ThI where
  n : Int
  a : Option Addr
  c : Nat
  vs : List HV
def encTh (v : ThI) : List Value := [.int .i64 v.n, .slice v.a v.vs.length v.c]
structure ThIn (W : World) (v : ThI) : Prop where
  l : LLR v.a v.vs (heapOf W)
  n : -9223372036854775808 ≤ v.n ∧ v.n ≤ 9223372036854775807
  m : v.vs.length ≤ 9223372036854775807
theorem reads_th (W : World) : Reads Try.prog W 24 encTh (ThIn W) := by
  intro A ec base spare held fuel cs x h
  obtain ⟨hl, hp⟩ := reads_parts Try.underlying24 h
  rw [c_th] at hl
  obtain ⟨k, e0, g0⟩ := hp 0 0 rfl c_int (reads_int Try.underlying3)
  obtain ⟨l, e1, g1⟩ := hp 1 1 rfl c_intss (reads_slice Try.underlying22 c_ints (by decide) (fun _ => rfl) (reads_ints W))
  clear h hp
  match cs, hl with
  | [c0, c1], _ =>
    simp [encSl] at e0 e1
    subst e0; subst e1
    have hm : l.ts.length ≤ 9223372036854775807 := by have := g1.cap; unfold maxLen at this; omega
    refine ⟨⟨k, l.a, l.cap, l.ts.map toHV⟩, by unfold encTh; rw [List.length_map], ⟨slT_hv g1.sl, fun v hv => ?_⟩, i64_wf g0, by show (l.ts.map toHV).length ≤ _; rw [List.length_map]; exact hm⟩
    obtain ⟨s, hs, rfl⟩ := List.mem_map.1 hv
    exact (g1.all s hs).sl
end Go.Proofs.Ytbhgahjeocnfcaa
namespace Go.Proofs.Ytbhgahjeocnfcaa
open Go Go.Cx Go.RowKit
set_option linter.unusedVariables false
set_option linter.unusedSimpArgs false
set_option maxHeartbeats 4000000
attribute [local irreducible] J JC thenK blockK loopK drawK retK QW Qt pel List.set Calls
open Go.Maps Go.Lib
set_option maxRecDepth 8000
attribute [local irreducible] JE Br eK0 eK3 brK pc
theorem asg_inj {n r q : Nat} (hr : r < 2 ^ n) (hq : q < 2 ^ n) (h : ∀ k, k < n → asg n r k = asg n q k) : r = q := by
  refine Nat.eq_of_testBit_eq fun i => ?_
  rcases Nat.lt_or_ge i n with hi | hi
  · have := h (n - 1 - i) (by omega)
    unfold asg at this
    rw [decide_eq_true (by omega), Bool.true_and, Bool.true_and, show n - 1 - (n - 1 - i) = i by omega] at this
    exact this
  · rw [Nat.testBit_lt_two_pow (Nat.lt_of_lt_of_le hr (Nat.pow_le_pow_right (by decide) hi)), Nat.testBit_lt_two_pow (Nat.lt_of_lt_of_le hq (Nat.pow_le_pow_right (by decide) hi))]
end Go.Proofs.Ytbhgahjeocnfcaa
namespace Go.Proofs.Ytbhgahjeocnfcaa
open Go Go.Cx Go.RowKit
set_option linter.unusedVariables false
set_option linter.unusedSimpArgs false
set_option maxHeartbeats 4000000
attribute [local irreducible] J JC thenK blockK loopK drawK retK QW Qt pel List.set Calls
open Go.Maps Go.Lib
set_option maxRecDepth 8000
attribute [local irreducible] JE Br eK0 eK3 brK pc
theorem stR_of2 {R : Heap} {L : List Heap} {K : KS} {b : Nat} {s : SS} {hO : Heap} (r : RdH R L (stR K b s hO)) {w0 w : World} (hw : H w0 R L w) : Holds (stR K b s hO) w := hw.rdH r
end Go.Proofs.Ytbhgahjeocnfcaa
namespace Go.Proofs.Ytbhgahjeocnfcaa
open Go Go.Cx Go.RowKit
set_option linter.unusedVariables false
set_option linter.unusedSimpArgs false
set_option maxHeartbeats 4000000
attribute [local irreducible] J JC thenK blockK loopK drawK retK QW Qt pel List.set Calls
open Go.Maps Go.Lib
set_option maxRecDepth 8000
attribute [local irreducible] JE Br eK0 eK3 brK pc
structure Stv (F : VF) (l : List Int) (K : KS) (s : SS) (y : Nat) (hO hP : Heap) : Prop where
  so : SOk l.length K s
  po : POk K l hO hP
  sy : Says s.ns l y F
theorem Stv.ho {F : VF} {l : List Int} {K : KS} {s : SS} {y : Nat} {hO hP : Heap} (st : Stv F l K s y hO hP) : okOrd l := st.po.ok
def RebQ (F : VF) (l : List Int) (L : List Heap) (v : Value) (L' : List Heap) : Prop := ∃ bt Kt t y hO2 hP2, v = .tuple #[.pointer (some ⟨bt, 0, none⟩), .int .i64 ((y : Nat) : Int), .int .i64 0] ∧ L' = sF Kt bt t ++ (hO2 :: hP2 :: L) ∧ Stv F l Kt t y hO2 hP2
theorem stR_b {R : Heap} {L : List Heap} {K : KS} {b : Nat} {s : SS} {hO : Heap} (r : RdH R L (stR K b s hO)) : Rd R L b (stO K s.an s.ns.length s.cn) := r _ List.mem_cons_self
theorem stR_N {R : Heap} {L : List Heap} {K : KS} {b : Nat} {s : SS} {hO : Heap} (r : RdH R L (stR K b s hO)) : RdH R L s.hN := fun x hx => r x (List.mem_cons_of_mem _ (List.mem_append_left _ hx))
theorem stR_hd {R : Heap} {K : KS} {b : Nat} {s : SS} {hO hP : Heap} (M : List Heap) : RdH R (sF K b s ++ (hO :: hP :: M)) (stR K b s hO) := fun x hx => by
  rcases List.mem_cons.1 hx with rfl | hx
  · exact (Rd.hd : Rd R (sF K b s ++ (hO :: hP :: M)) b _)
  · rcases List.mem_append.1 hx with h | h
    · exact (RdH.hd.tl : RdH R (sF K b s ++ (hO :: hP :: M)) s.hN) x h
    · exact (RdH.hd.tl.tl.tl.tl : RdH R (sF K b s ++ (hO :: hP :: M)) hO) x h
end Go.Proofs.Ytbhgahjeocnfcaa
namespace Go.Proofs.Ytbhgahjeocnfcaa
open Go Go.Cx Go.RowKit
set_option linter.unusedVariables false
set_option linter.unusedSimpArgs false
set_option maxHeartbeats 4000000
attribute [local irreducible] J JC thenK blockK loopK drawK retK QW Qt pel List.set Calls
open Go.Maps Go.Lib
set_option maxRecDepth 8000
attribute [local irreducible] JE Br eK0 eK3 brK pc
section
variable {P : Program} {n : Nat} {w0 : World} {R : Heap} {l0 : List Oper} {K : Exit → Fr → List Heap → Prop} {f : Fr} {L : List Heap} {rest : List (Nat × Oper)} {κ : Nat}
variable {d : Nat} {ty : TypeId} {pos : String} {aft : Array Edge} {g : Option (Nat × Bool)} {t u : TypeId} {x y : Operand}
theorem J.neSF {a b : List UInt8} (h : a = b) (k : J P n w0 R l0 K rest (upd f d (.bool false)) L) (hg : wantB n f l0 ⟨some d, .binOp .neq t x y u, ty, pos, aft, g⟩ = true := by exact rfl) (hx : Cx.ev n f x = .string (S a) := by exact rfl) (hy : Cx.ev n f y = .string (S b) := by exact rfl) :
    J P n w0 R l0 K ((κ, ⟨some d, .binOp .neq t x y u, ty, pos, aft, g⟩) :: rest) f L := by
  subst h
  have e : (!(a == a)) = false := by simp
  rw [← e] at k
  exact J.neS hg hx hy k
end
end Go.Proofs.Ytbhgahjeocnfcaa
namespace Go.Proofs.Ytbhgahjeocnfcaa
open Go Go.Cx Go.RowKit
set_option linter.unusedVariables false
set_option linter.unusedSimpArgs false
set_option maxHeartbeats 4000000
attribute [local irreducible] J JC thenK blockK loopK drawK retK QW Qt pel List.set Calls
set_option maxRecDepth 8000
attribute [local irreducible] JE Br eK0 eK3 brK pc
theorem eHas05 : Entr Try.prog 134 := Entr.of Try.func134 rfl rfl
theorem eHolds05 : Entr Try.prog 91 := Entr.of Try.func91 rfl rfl
theorem eAssignm : Entr Try.prog 90 := Entr.of Try.func90 rfl rfl
theorem eAssign : Entr Try.prog 84 := Entr.of Try.func84 rfl rfl
theorem has05_any (s : Nat × Nat) (hs : okS s) (v : Int) (w : World) :
    Calls Try.prog 134 #[sv s, .int .i64 v] w fun e w' => e = .returned (.bool (hasB s v)) ∧ Below w.heap.size w w' := by
  obtain ⟨h1, h2⟩ := hs
  unfold hasB
  by_cases hl : 1 ≤ v ∧ v ≤ 64
  · have e1 : (v - 1) / 64 = 0 := by omega
    have e2 : (v - 1) % 64 = v - 1 := by omega
    refine calls_of_JC (R := []) Try.func134 Try.ntmps134 rfl rfl (Holds.nil _) ?_
    repeat' first
      | (refine J.isJ ?_; (first | (first | (refine J.o 0 ?_; refine J.ev' hΓ ?_) | refine J.nil ?_ | refine J.kd ?_ | (refine J.o 4 ?_; first | refine J.e0 hΓ ?_) | (refine J.o 3 ?_; first | refine J.iA hΓ ?_ | refine J.ev' hΓ ?_) | (refine J.o 1 ?_; first | refine J.sb ?_ | refine J.qu ?_ | refine J.rm ?_ | refine J.sr ?_) | (refine J.o 2 ?_; refine J.cv _ hΓ ?_) | (refine J.o 6 ?_; refine J.bx (fun _ => ?_)) | (refine J.o 10 ?_; first | refine J.ev' hΓ ?_) | (refine J.o 11 ?_; first | refine J.ev' hΓ ?_)) | ((fail_if_success refine J.wt ?_); refine J.gc rfl rfl (fun hc => ?_) (fun hc => ?_) <;> ((try simp only [decide_eq_true_eq, decide_eq_false_iff_not, beq_iff_eq, beq_eq_false_iff_ne, bne_iff_ne, bne_eq_false_iff_eq, Bool.not_eq_true', Bool.not_eq_false', Bool.not_eq_true, Bool.not_eq_false] at hc) <;> first | (first | (exact absurd rfl hc) | (exfalso; omega) | (exact absurd (hc.symm.trans (by assumption : _ = false)) (by decide)) | (exact absurd (hc.symm.trans (by assumption : _ = true)) (by decide))) | skip))))
      | (first | refine JC.seq ?_ | refine JC.region ?_ | refine JC.ret ?_ | refine thenK.nn ?_)
      | fail
    all_goals first | (exfalso; omega) | skip
    all_goals (refine ret1f rfl rfl rfl (fun w1 hw => ⟨retB ?_, hw.below⟩))
    rw [if_pos hl, ← shr_bit, e2]
  by_cases hh : 65 ≤ v ∧ v ≤ 128
  · have e1 : (v - 1) / 64 = 1 := by omega
    have e2 : (v - 1) % 64 = v - 65 := by omega
    refine calls_of_JC (R := []) Try.func134 Try.ntmps134 rfl rfl (Holds.nil _) ?_
    repeat' first
      | (refine J.isJ ?_; (first | (first | (refine J.o 0 ?_; refine J.ev' hΓ ?_) | refine J.nil ?_ | refine J.kd ?_ | (refine J.o 4 ?_; first | refine J.e0 hΓ ?_) | (refine J.o 3 ?_; first | refine J.iA hΓ ?_ | refine J.ev' hΓ ?_) | (refine J.o 1 ?_; first | refine J.sb ?_ | refine J.qu ?_ | refine J.rm ?_ | refine J.sr ?_) | (refine J.o 2 ?_; refine J.cv _ hΓ ?_) | (refine J.o 6 ?_; refine J.bx (fun _ => ?_)) | (refine J.o 10 ?_; first | refine J.ev' hΓ ?_) | (refine J.o 11 ?_; first | refine J.ev' hΓ ?_)) | ((fail_if_success refine J.wt ?_); refine J.gc rfl rfl (fun hc => ?_) (fun hc => ?_) <;> ((try simp only [decide_eq_true_eq, decide_eq_false_iff_not, beq_iff_eq, beq_eq_false_iff_ne, bne_iff_ne, bne_eq_false_iff_eq, Bool.not_eq_true', Bool.not_eq_false', Bool.not_eq_true, Bool.not_eq_false] at hc) <;> first | (first | (exact absurd rfl hc) | (exfalso; omega) | (exact absurd (hc.symm.trans (by assumption : _ = false)) (by decide)) | (exact absurd (hc.symm.trans (by assumption : _ = true)) (by decide))) | skip))))
      | (first | refine JC.seq ?_ | refine JC.region ?_ | refine JC.ret ?_ | refine thenK.nn ?_)
      | fail
    all_goals first | (exfalso; omega) | skip
    all_goals (refine ret1f rfl rfl rfl (fun w1 hw => ⟨retB ?_, hw.below⟩))
    rw [if_neg hl, if_pos hh, ← shr_bit, e2]
  rw [if_neg hl, if_neg hh]
  refine calls_of_JC (R := []) Try.func134 Try.ntmps134 rfl rfl (Holds.nil _) ?_
  repeat' first
    | (refine J.isJ ?_; (first | (first | (refine J.o 0 ?_; refine J.ev' hΓ ?_) | refine J.nil ?_ | refine J.kd ?_ | (refine J.o 4 ?_; first | refine J.e0 hΓ ?_) | (refine J.o 3 ?_; first | refine J.iA hΓ ?_ | refine J.ev' hΓ ?_) | (refine J.o 1 ?_; first | refine J.sb ?_ | refine J.qu ?_ | refine J.rm ?_ | refine J.sr ?_) | (refine J.o 2 ?_; refine J.cv _ hΓ ?_) | (refine J.o 6 ?_; refine J.bx (fun _ => ?_)) | (refine J.o 10 ?_; first | refine J.ev' hΓ ?_) | (refine J.o 11 ?_; first | refine J.ev' hΓ ?_)) | ((fail_if_success refine J.wt ?_); refine J.gc rfl rfl (fun hc => ?_) (fun hc => ?_) <;> ((try simp only [decide_eq_true_eq, decide_eq_false_iff_not, beq_iff_eq, beq_eq_false_iff_ne, bne_iff_ne, bne_eq_false_iff_eq, Bool.not_eq_true', Bool.not_eq_false', Bool.not_eq_true, Bool.not_eq_false] at hc) <;> first | (first | (exact absurd rfl hc) | (exfalso; omega) | (exact absurd (hc.symm.trans (by assumption : _ = false)) (by decide)) | (exact absurd (hc.symm.trans (by assumption : _ = true)) (by decide))) | skip))))
    | (first | refine JC.seq ?_ | refine JC.region ?_ | refine JC.ret ?_ | refine thenK.nn ?_)
    | fail
  all_goals first | (exfalso; omega) | exact ret1f rfl rfl rfl (fun w1 hw => ⟨rfl, hw.below⟩)
theorem holds05_any (s : Nat × Nat) (hs : okS s) (l : Int) (hl : -128 ≤ l ∧ l ≤ 128) (w : World) :
    Calls Try.prog 91 #[sv s, .int .i64 l] w fun e w' => e = .returned (.bool (if l < 0 then !hasB s (-l) else hasB s l)) ∧ Below w.heap.size w w' := by
  by_cases h : l < 0
  · rw [if_pos h]
    refine calls_of_JC (R := []) Try.func91 Try.ntmps91 rfl rfl (Holds.nil _) ?_
    repeat' first
      | (refine J.isJ ?_; first | (first | (refine J.o 0 ?_; refine J.ev' hΓ ?_) | refine J.nil ?_ | (refine J.o 4 ?_; first | refine J.e0 hΓ ?_) | (refine J.o 3 ?_; first | refine J.ev' hΓ ?_) | (refine J.o 1 ?_; first | refine J.ng ?_) | (refine J.o 6 ?_; refine J.bx (fun _ => ?_)) | (refine J.o 10 ?_; first | refine J.ev' hΓ ?_) | (refine J.o 11 ?_; first | refine J.ev' hΓ ?_)) | ((refine J.fc 134 ?_; refine J.call0 eHas05 rfl rfl (fun w hw => has05_any s hs (-l) w) ?_)))
      | (first | refine JC.seq ?_ | refine JC.region ?_ | refine JC.ret ?_ | refine JC.skip ?_ | refine thenK.nn ?_ | refine thenK.r ?_ | (refine JC.cond rfl (fun hc => ?_) (fun hc => ?_) <;> ((try simp only [decide_eq_true_eq, decide_eq_false_iff_not, beq_iff_eq, beq_eq_false_iff_ne, bne_iff_ne, bne_eq_false_iff_eq, Bool.not_eq_true', Bool.not_eq_false', Bool.not_eq_true, Bool.not_eq_false] at hc) <;> first | (first | (exact absurd rfl hc) | (exfalso; omega) | (exact absurd (hc.symm.trans (by assumption : _ = false)) (by decide)) | (exact absurd (hc.symm.trans (by assumption : _ = true)) (by decide))) | skip)))
      | fail
    all_goals first | (exfalso; omega) | exact ret1f rfl rfl rfl (fun w1 hw => ⟨rfl, hw.below⟩)
  · rw [if_neg h]
    refine calls_of_JC (R := []) Try.func91 Try.ntmps91 rfl rfl (Holds.nil _) ?_
    repeat' first
      | (refine J.isJ ?_; first | (first | (refine J.o 0 ?_; refine J.ev' hΓ ?_) | refine J.nil ?_ | (refine J.o 4 ?_; first | refine J.e0 hΓ ?_) | (refine J.o 3 ?_; first | refine J.ev' hΓ ?_) | (refine J.o 1 ?_; first | refine J.ng ?_) | (refine J.o 6 ?_; refine J.bx (fun _ => ?_)) | (refine J.o 10 ?_; first | refine J.ev' hΓ ?_) | (refine J.o 11 ?_; first | refine J.ev' hΓ ?_)) | ((refine J.fc 134 ?_; refine J.call0 eHas05 rfl rfl (fun w hw => has05_any s hs l w) ?_)))
      | (first | refine JC.seq ?_ | refine JC.region ?_ | refine JC.ret ?_ | refine JC.skip ?_ | refine thenK.nn ?_ | refine thenK.r ?_ | (refine JC.cond rfl (fun hc => ?_) (fun hc => ?_) <;> ((try simp only [decide_eq_true_eq, decide_eq_false_iff_not, beq_iff_eq, beq_eq_false_iff_ne, bne_iff_ne, bne_eq_false_iff_eq, Bool.not_eq_true', Bool.not_eq_false', Bool.not_eq_true, Bool.not_eq_false] at hc) <;> first | (first | (exact absurd rfl hc) | (exfalso; omega) | (exact absurd (hc.symm.trans (by assumption : _ = false)) (by decide)) | (exact absurd (hc.symm.trans (by assumption : _ = true)) (by decide))) | skip)))
      | fail
    all_goals first | (exfalso; omega) | exact ret1f rfl rfl rfl (fun w1 hw => ⟨rfl, hw.below⟩)
theorem assignm_any (s : Nat × Nat) (hs : okS s) (N : Nat) (hN : N ≤ 128) (hsub : ∀ u, hasB s u = true → u ≤ N) (w : World) :
    Calls Try.prog 90 #[sv s, .int .i64 (N : Int)] w fun e w' => e = .returned (.bool true) ∧ Below w.heap.size w w' := by
  refine calls_of_JC (R := []) Try.func90 Try.ntmps90 rfl rfl (Holds.nil _) ?_
  repeat' first
    | (refine J.isJ ?_; (first | (first | (refine J.o 0 ?_; refine J.ev' hΓ ?_) | refine J.nil ?_ | (refine J.o 4 ?_; first | refine J.e0 hΓ ?_) | (refine J.o 3 ?_; first | refine J.ev' hΓ ?_) | (refine J.o 1 ?_; first | refine J.ad ?_) | (refine J.o 6 ?_; refine J.bx (fun _ => ?_)) | (refine J.o 10 ?_; first | refine J.ev' hΓ ?_) | (refine J.o 11 ?_; first | refine J.ev' hΓ ?_))))
    | (first | refine JC.seq ?_ | refine JC.region ?_ | refine JC.block ?_ | refine JC.ret ?_ | refine JC.exit ?_ | refine JC.skip ?_ | refine thenK.nn ?_ | refine thenK.x ?_ | refine blockK.nn ?_ | refine blockK.hit rfl ?_ | refine JC.condF rfl ?_ | (refine JC.cond rfl (fun hc => ?_) (fun hc => ?_) <;> ((try simp only [decide_eq_true_eq, decide_eq_false_iff_not, beq_iff_eq, beq_eq_false_iff_ne, bne_iff_ne, bne_eq_false_iff_eq, Bool.not_eq_true', Bool.not_eq_false', Bool.not_eq_true, Bool.not_eq_false] at hc) <;> first | (first | (exact absurd rfl hc) | (exfalso; omega) | (exact absurd (hc.symm.trans (by assumption : _ = false)) (by decide)) | (exact absurd (hc.symm.trans (by assumption : _ = true)) (by decide))) | skip)) | refine loopK.x ?_)
    | fail
  all_goals first | (exfalso; omega) | skip
  refine JC.loop (fun i => i == 4 || Nat.ble 5 i) (fun m g L => ∃ (k : Nat), g 5 = .int .i64 ((N : Int) + 1 + k) ∧ N + k + m = 128 ∧ L = _) (128 - N) ⟨0, rfl, by omega, rfl⟩ ?_
  rintro m g L ⟨k, e5, hkm, rfl⟩
  refine JC.pin 5 e5 ?_
  clear e5
  have hb : hasB s ((N : Int) + 1 + k) = false := by
    cases h : hasB s ((N : Int) + 1 + k) with
    | false => rfl
    | true => have := hsub _ h; omega
  have cH := fun w => has05_any s hs ((N : Int) + 1 + k) w
  rw [hb] at cH
  rcases Nat.lt_or_ge (N + k) 128 with hk | hk
  · 
    repeat' first
      | (refine J.isJ ?_; first | (first | (refine J.o 0 ?_; refine J.ev' hΓ ?_) | refine J.nil ?_ | (refine J.o 4 ?_; first | refine J.e0 hΓ ?_) | (refine J.o 3 ?_; first | refine J.ev' hΓ ?_) | (refine J.o 1 ?_; first | refine J.ad ?_) | (refine J.o 6 ?_; refine J.bx (fun _ => ?_)) | (refine J.o 10 ?_; first | refine J.ev' hΓ ?_) | (refine J.o 11 ?_; first | refine J.ev' hΓ ?_)) | ((refine J.fc 134 ?_; refine J.call0 eHas05 rfl rfl (fun w hw => cH w) ?_)))
      | (first | refine JC.seq ?_ | refine JC.region ?_ | refine JC.block ?_ | refine JC.ret ?_ | refine JC.exit ?_ | refine JC.skip ?_ | refine thenK.nn ?_ | refine thenK.x ?_ | refine blockK.nn ?_ | refine blockK.hit rfl ?_ | refine JC.condF rfl ?_ | (refine JC.cond rfl (fun hc => ?_) (fun hc => ?_) <;> ((try simp only [decide_eq_true_eq, decide_eq_false_iff_not, beq_iff_eq, beq_eq_false_iff_ne, bne_iff_ne, bne_eq_false_iff_eq, Bool.not_eq_true', Bool.not_eq_false', Bool.not_eq_true, Bool.not_eq_false] at hc) <;> first | (first | (exact absurd rfl hc) | (exfalso; omega) | (exact absurd (hc.symm.trans (by assumption : _ = false)) (by decide)) | (exact absurd (hc.symm.trans (by assumption : _ = true)) (by decide))) | skip)) | refine loopK.x ?_)
      | fail
    all_goals first | (exfalso; omega) | skip
    all_goals refine loopK.nn (m - 1) (by omega) (by repeat (first | refine Ag.upd rfl ?_ | exact Ag.hv)) ⟨k + 1, ?_, by omega, rfl⟩
    all_goals (show Value.int .i64 _ = _; congr 1)
  · 
    repeat' first
      | (refine J.isJ ?_; (first | (first | (refine J.o 0 ?_; refine J.ev' hΓ ?_) | refine J.nil ?_ | (refine J.o 4 ?_; first | refine J.e0 hΓ ?_) | (refine J.o 3 ?_; first | refine J.ev' hΓ ?_) | (refine J.o 1 ?_; first | refine J.ad ?_) | (refine J.o 6 ?_; refine J.bx (fun _ => ?_)) | (refine J.o 10 ?_; first | refine J.ev' hΓ ?_) | (refine J.o 11 ?_; first | refine J.ev' hΓ ?_))))
      | (first | refine JC.seq ?_ | refine JC.region ?_ | refine JC.block ?_ | refine JC.ret ?_ | refine JC.exit ?_ | refine JC.skip ?_ | refine thenK.nn ?_ | refine thenK.x ?_ | refine blockK.nn ?_ | refine blockK.hit rfl ?_ | refine JC.condF rfl ?_ | (refine JC.cond rfl (fun hc => ?_) (fun hc => ?_) <;> ((try simp only [decide_eq_true_eq, decide_eq_false_iff_not, beq_iff_eq, beq_eq_false_iff_ne, bne_iff_ne, bne_eq_false_iff_eq, Bool.not_eq_true', Bool.not_eq_false', Bool.not_eq_true, Bool.not_eq_false] at hc) <;> first | (first | (exact absurd rfl hc) | (exfalso; omega) | (exact absurd (hc.symm.trans (by assumption : _ = false)) (by decide)) | (exact absurd (hc.symm.trans (by assumption : _ = true)) (by decide))) | skip)) | refine loopK.x ?_)
      | fail
    all_goals first | (exfalso; omega) | exact ret1f rfl rfl rfl (fun w1 hw => ⟨rfl, hw.below⟩)
section
variable {P : Program} {n : Nat} {w0 : World} {R : Heap} {l0 : List Oper} {K : Exit → Fr → List Heap → Prop} {f : Fr} {L : List Heap} {rest : List (Nat × Oper)} {κ : Nat}
variable {d : Nat} {ty : TypeId} {pos : String} {aft : Array Edge} {g : Option (Nat × Bool)} {t u : TypeId} {x y : Operand}
theorem J.au {a b : Nat} (k : J P n w0 R l0 K rest (upd f d (.int .u64 ((a + b : Nat) : Int))) L) (hg : wantB n f l0 ⟨some d, .binOp .add t x y u, ty, pos, aft, g⟩ = true := by exact rfl) (hx : Cx.ev n f x = .int .u64 (a : Int) := by exact rfl) (hy : Cx.ev n f y = .int .u64 (b : Int) := by exact rfl) (h : a + b < 2 ^ 64 := by omega) : J P n w0 R l0 K ((κ, ⟨some d, .binOp .add t x y u, ty, pos, aft, g⟩) :: rest) f L :=
  J.p hg (bin_run hx hy (fun w => by
    have h1 : IntKind.u64.wrap ((a : Int) + (b : Int)) = ((a + b : Nat) : Int) := by rw [IntWalk.u64_in _ (by omega)]; rfl
    simp [binOp, Op.intArith, h1, go_sem])) k
theorem J.s2 {yk : IntKind} {j : Int} (k : J P n w0 R l0 K rest (upd f d (.int .i64 ((2 ^ j.toNat : Nat) : Int))) L) (hg : wantB n f l0 ⟨some d, .binOp .shl t x y u, ty, pos, aft, g⟩ = true := by exact rfl) (hx : Cx.ev n f x = .int .i64 1 := by exact rfl) (hy : Cx.ev n f y = .int yk j := by exact rfl) (h0 : 0 ≤ j := by omega) (h1 : j < 63 := by omega) : J P n w0 R l0 K ((κ, ⟨some d, .binOp .shl t x y u, ty, pos, aft, g⟩) :: rest) f L :=
  J.p hg (bin_run hx hy (fun w => by
    have hj : j.toNat < 63 := by omega
    have hlt : 2 ^ j.toNat < 2 ^ 63 := Nat.pow_lt_pow_right (by omega) hj
    have hm : min j.toNat 64 = j.toNat := by omega
    have hn : ¬ j < 0 := by omega
    have hcast : ((2 : Int) ^ j.toNat) = ((2 ^ j.toNat : Nat) : Int) := by rw [Int.natCast_pow]; rfl
    have hw : IntKind.i64.wrap ((2 : Int) ^ j.toNat) = ((2 ^ j.toNat : Nat) : Int) := by
      rw [hcast, IntWalk.i64_in _ ⟨by have := Int.natCast_nonneg (2 ^ j.toNat); omega, by have := Int.ofNat_lt.mpr hlt; have e : ((2 ^ 63 : Nat) : Int) = 9223372036854775808 := rfl; omega⟩]
    simp only [binOp, Op.shift, if_neg hn, IntKind.bits, hm, Int.one_mul, hw]
    rfl)) k
end
def revN (k : Nat) : Nat → Nat
  | 0 => 0
  | j + 1 => 2 * revN k j + k / 2 ^ j % 2
theorem revN_lt (k : Nat) : ∀ j, revN k j < 2 ^ j
  | 0 => by simp [revN]
  | j + 1 => by
    have := revN_lt k j
    rw [revN, Nat.pow_succ]
    omega
theorem revN_bit (k : Nat) : ∀ (j i : Nat), (revN k j).testBit i = (decide (i < j) && k.testBit (j - 1 - i))
  | 0, i => by simp [revN]
  | j + 1, 0 => by
    rw [revN, Nat.testBit_zero, Nat.testBit_eq_decide_div_mod_eq]
    simp
  | j + 1, i + 1 => by
    rw [revN, Nat.testBit_succ, show (2 * revN k j + k / 2 ^ j % 2) / 2 = revN k j by omega, revN_bit k j i]
    rw [show j + 1 - 1 - (i + 1) = j - 1 - i by omega]
    simp
theorem has_rev (k n : Nat) (hn : n ≤ 60) (u : Int) : hasB (revN k n, 0) u = (decide (1 ≤ u ∧ u ≤ n) && k.testBit (n - u).toNat) := by
  unfold hasB
  by_cases h : 1 ≤ u ∧ u ≤ 64
  · rw [if_pos h, revN_bit]
    by_cases h2 : u ≤ n
    · rw [decide_eq_true (by omega), decide_eq_true ⟨h.1, h2⟩, show n - 1 - (u - 1).toNat = (n - u).toNat by omega]
    · rw [decide_eq_false (by omega), decide_eq_false (by omega)]
      rfl
  · rw [if_neg h, decide_eq_false (by omega)]
    split
    · exact Nat.zero_testBit _
    · rfl
theorem assign_any (k n : Nat) (hk : k ≤ 1000000) (hn : n ≤ 60) (w : World) :
    Calls Try.prog 84 #[.int .i64 (k : Int), .int .i64 (n : Int)] w fun e w' => e = .returned (sv (revN k n, 0)) ∧ Below w.heap.size w w' := by
  refine calls_of_JC (R := []) Try.func84 Try.ntmps84 rfl rfl (Holds.nil _) ?_
  repeat' first
    | (refine J.isJ ?_; (first | (first | (refine J.o 0 ?_; refine J.ev' hΓ ?_) | refine J.nil ?_ | (refine J.o 4 ?_; first | refine J.e0 hΓ ?_) | (refine J.o 3 ?_; first | refine J.iA hΓ ?_ | refine J.ev' hΓ ?_) | (refine J.o 1 ?_; first | refine J.sb ?_ | refine J.qu ?_ | refine J.rm ?_ | refine J.s1 ?_) | (refine J.o 2 ?_; refine J.cv _ hΓ ?_) | (refine J.o 5 ?_; first | refine J.t0 hΓ ?_ | refine J.t1 hΓ ?_) | (refine J.o 7 ?_; refine J.al hΓ (fun _ => ?_)) | (refine J.o 10 ?_; first | refine J.ev' hΓ ?_) | (refine J.o 11 ?_; first | refine J.ev' hΓ ?_))))
    | (first | refine JC.seq ?_ | refine JC.region ?_ | refine JC.block ?_ | refine JC.ret ?_ | refine JC.exit ?_ | refine JC.skip ?_ | refine thenK.nn ?_ | refine thenK.x ?_ | refine blockK.nn ?_ | refine blockK.hit rfl ?_ | (refine JC.cond rfl (fun hc => ?_) (fun hc => ?_) <;> ((try simp only [decide_eq_true_eq, decide_eq_false_iff_not, beq_iff_eq, beq_eq_false_iff_ne, bne_iff_ne, bne_eq_false_iff_eq, Bool.not_eq_true', Bool.not_eq_false', Bool.not_eq_true, Bool.not_eq_false] at hc) <;> first | (first | (exact absurd rfl hc) | (exfalso; omega) | (exact absurd (hc.symm.trans (by assumption : _ = false)) (by decide)) | (exact absurd (hc.symm.trans (by assumption : _ = true)) (by decide))) | skip)) | refine loopK.x ?_)
    | fail
  all_goals first | (exfalso; omega) | skip
  rename_i b4 b5
  refine JC.loop (fun i => i == 0 || i == 6 || Nat.ble 8 i) (fun m g L => ∃ (j : Nat), g 6 = .int .i64 ((n : Int) - j) ∧ g 0 = .int .i64 ((k / 2 ^ j : Nat) : Int) ∧ j + m = n ∧ L = [[(b5, .cells ⟨[.int .u64 ((2 ^ (n - j) * revN k j : Nat) : Int), .int .u64 0]⟩ 53 (0, 0))], [(b4, .cells ⟨[.int .u64 0, .int .u64 0]⟩ 53 (0, 0))]]) n ⟨0, ?_, ?_, by omega, rfl⟩ ?_
  · show Value.int .i64 _ = _; congr 1
  · show Value.int .i64 _ = _; simp
  rintro m g L ⟨j, e6, e0, hjm, rfl⟩
  refine JC.pin 6 e6 (JC.pin 0 e0 ?_)
  clear e6 e0
  rcases Nat.lt_or_ge j n with hj | hj
  case inr =>
    obtain rfl : j = n := by omega
    rw [Nat.sub_self, Nat.pow_zero, Nat.one_mul]
    repeat' first
      | (refine J.isJ ?_; (first | (first | (refine J.o 0 ?_; refine J.ev' hΓ ?_) | refine J.nil ?_ | (refine J.o 4 ?_; first | refine J.e0 hΓ ?_) | (refine J.o 3 ?_; first | refine J.iA hΓ ?_ | refine J.ev' hΓ ?_) | (refine J.o 1 ?_; first | refine J.sb ?_ | refine J.qu ?_ | refine J.rm ?_ | refine J.s1 ?_) | (refine J.o 2 ?_; refine J.cv _ hΓ ?_) | (refine J.o 5 ?_; first | refine J.t0 hΓ ?_ | refine J.t1 hΓ ?_) | (refine J.o 7 ?_; refine J.al hΓ (fun _ => ?_)) | (refine J.o 10 ?_; first | refine J.ev' hΓ ?_) | (refine J.o 11 ?_; first | refine J.ev' hΓ ?_))))
      | (first | refine JC.seq ?_ | refine JC.region ?_ | refine JC.block ?_ | refine JC.ret ?_ | refine JC.exit ?_ | refine JC.skip ?_ | refine thenK.nn ?_ | refine thenK.x ?_ | refine blockK.nn ?_ | refine blockK.hit rfl ?_ | (refine JC.cond rfl (fun hc => ?_) (fun hc => ?_) <;> ((try simp only [decide_eq_true_eq, decide_eq_false_iff_not, beq_iff_eq, beq_eq_false_iff_ne, bne_iff_ne, bne_eq_false_iff_eq, Bool.not_eq_true', Bool.not_eq_false', Bool.not_eq_true, Bool.not_eq_false] at hc) <;> first | (first | (exact absurd rfl hc) | (exfalso; omega) | (exact absurd (hc.symm.trans (by assumption : _ = false)) (by decide)) | (exact absurd (hc.symm.trans (by assumption : _ = true)) (by decide))) | skip)) | refine loopK.x ?_)
      | fail
    all_goals first | (exfalso; omega) | skip
    all_goals (refine retC hΓ rfl rfl rfl (by first | exact Rd.hd | exact Rd.hd.tl) rfl (fun w1 hw => ⟨rfl, hw.below⟩))
  have hp : 2 ^ (n - j) = 2 * 2 ^ (n - (j + 1)) := by rw [show n - j = n - (j + 1) + 1 by omega, Nat.pow_succ]; omega
  have hr := revN_lt k j
  have hsz : 2 ^ (n - j) * revN k j + 2 ^ (n - (j + 1)) < 2 ^ 64 := by
    have h1 : 2 ^ (n - (j + 1)) * (2 * revN k j + 1) < 2 ^ (n - (j + 1)) * 2 ^ (j + 1) := Nat.mul_lt_mul_of_pos_left (by rw [Nat.pow_succ]; omega) (Nat.two_pow_pos _)
    rw [← Nat.pow_add, show n - (j + 1) + (j + 1) = n by omega, Nat.mul_add, Nat.mul_one, ← Nat.mul_assoc, Nat.mul_comm _ 2, ← hp] at h1
    exact Nat.lt_trans h1 (Nat.pow_lt_pow_right (by omega) (by omega))
  have hdiv : k / 2 ^ (j + 1) = k / 2 ^ j / 2 := by rw [Nat.pow_succ, Nat.div_div_eq_div_mul]
  have hle : k / 2 ^ j ≤ k := Nat.div_le_self _ _
  have he1 : ((n : Int) - j - 1) % 64 = (n : Int) - j - 1 := by omega
  have hrs : revN k (j + 1) = 2 * revN k j + k / 2 ^ j % 2 := rfl
  generalize hq : k / 2 ^ j = q at *
  by_cases hb : q % 2 = 1
  · have hb2 : (q : Int) % 2 = 1 := by omega
    have hnew : 2 ^ (n - (j + 1)) * revN k (j + 1) = 2 ^ (n - j) * revN k j + 2 ^ (((n : Int) - j - 1) % 64).toNat := by
      rw [hrs, hb, hp, Nat.mul_add, Nat.mul_one, ← Nat.mul_assoc, Nat.mul_comm _ 2, show (((n : Int) - j - 1) % 64).toNat = n - (j + 1) by omega]
    repeat' first
      | (refine J.isJ ?_; first | (first | (refine J.o 0 ?_; refine J.ev' hΓ ?_) | refine J.nil ?_ | (refine J.o 4 ?_; first | refine J.e0 hΓ ?_) | (refine J.o 3 ?_; first | refine J.iA hΓ ?_ | refine J.ev' hΓ ?_) | (refine J.o 1 ?_; first | refine J.sb ?_ | refine J.qu ?_ | refine J.rm ?_ | refine J.s1 ?_) | (refine J.o 2 ?_; refine J.cv _ hΓ ?_) | (refine J.o 5 ?_; first | refine J.t0 hΓ ?_ | refine J.t1 hΓ ?_) | (refine J.o 7 ?_; refine J.al hΓ (fun _ => ?_)) | (refine J.o 10 ?_; first | refine J.ev' hΓ ?_) | (refine J.o 11 ?_; first | refine J.ev' hΓ ?_)) | ((refine J.o 1 ?_; refine J.au (a := 2 ^ (n - j) * revN k j) ?_ (h := by rw [show (((n : Int) - j - 1) % 64).toNat = n - (j + 1) by omega]; exact hsz))))
      | (first | refine JC.seq ?_ | refine JC.region ?_ | refine JC.block ?_ | refine JC.ret ?_ | refine JC.exit ?_ | refine JC.skip ?_ | refine thenK.nn ?_ | refine thenK.x ?_ | refine blockK.nn ?_ | refine blockK.hit rfl ?_ | (refine JC.cond rfl (fun hc => ?_) (fun hc => ?_) <;> ((try simp only [decide_eq_true_eq, decide_eq_false_iff_not, beq_iff_eq, beq_eq_false_iff_ne, bne_iff_ne, bne_eq_false_iff_eq, Bool.not_eq_true', Bool.not_eq_false', Bool.not_eq_true, Bool.not_eq_false] at hc) <;> first | (first | (exact absurd rfl hc) | (exfalso; omega) | (exact absurd (hc.symm.trans (by assumption : _ = false)) (by decide)) | (exact absurd (hc.symm.trans (by assumption : _ = true)) (by decide))) | skip)) | refine loopK.x ?_)
      | fail
    all_goals first | (exfalso; omega) | skip
    rw [← hnew]
    refine loopK.nn (m - 1) (by omega) (by repeat (first | refine Ag.upd rfl ?_ | exact Ag.hv)) ⟨j + 1, ?_, ?_, by omega, rfl⟩
    · show Value.int .i64 _ = _; congr 1; omega
    · show Value.int .i64 _ = _; congr 1; rw [hdiv]; rfl
  · have hb2 : (q : Int) % 2 = 0 := by omega
    have hb3 : q % 2 = 0 := by omega
    have hnew : 2 ^ (n - (j + 1)) * revN k (j + 1) = 2 ^ (n - j) * revN k j := by
      rw [hrs, hb3, hp, Nat.mul_add, Nat.mul_zero, Nat.add_zero, ← Nat.mul_assoc, Nat.mul_comm _ 2]
    repeat' first
      | (refine J.isJ ?_; (first | (first | (refine J.o 0 ?_; refine J.ev' hΓ ?_) | refine J.nil ?_ | (refine J.o 4 ?_; first | refine J.e0 hΓ ?_) | (refine J.o 3 ?_; first | refine J.iA hΓ ?_ | refine J.ev' hΓ ?_) | (refine J.o 1 ?_; first | refine J.sb ?_ | refine J.qu ?_ | refine J.rm ?_ | refine J.s1 ?_) | (refine J.o 2 ?_; refine J.cv _ hΓ ?_) | (refine J.o 5 ?_; first | refine J.t0 hΓ ?_ | refine J.t1 hΓ ?_) | (refine J.o 7 ?_; refine J.al hΓ (fun _ => ?_)) | (refine J.o 10 ?_; first | refine J.ev' hΓ ?_) | (refine J.o 11 ?_; first | refine J.ev' hΓ ?_))))
      | (first | refine JC.seq ?_ | refine JC.region ?_ | refine JC.block ?_ | refine JC.ret ?_ | refine JC.exit ?_ | refine JC.skip ?_ | refine thenK.nn ?_ | refine thenK.x ?_ | refine blockK.nn ?_ | refine blockK.hit rfl ?_ | (refine JC.cond rfl (fun hc => ?_) (fun hc => ?_) <;> ((try simp only [decide_eq_true_eq, decide_eq_false_iff_not, beq_iff_eq, beq_eq_false_iff_ne, bne_iff_ne, bne_eq_false_iff_eq, Bool.not_eq_true', Bool.not_eq_false', Bool.not_eq_true, Bool.not_eq_false] at hc) <;> first | (first | (exact absurd rfl hc) | (exfalso; omega) | (exact absurd (hc.symm.trans (by assumption : _ = false)) (by decide)) | (exact absurd (hc.symm.trans (by assumption : _ = true)) (by decide))) | skip)) | refine loopK.x ?_)
      | fail
    all_goals first | (exfalso; omega) | skip
    rw [← hnew]
    refine loopK.nn (m - 1) (by omega) (by repeat (first | refine Ag.upd rfl ?_ | exact Ag.hv)) ⟨j + 1, ?_, ?_, by omega, rfl⟩
    · show Value.int .i64 _ = _; congr 1; omega
    · show Value.int .i64 _ = _; congr 1; rw [hdiv]; rfl
end Go.Proofs.Ytbhgahjeocnfcaa
namespace Go.Proofs.Ytbhgahjeocnfcaa
open Go Go.Cx Go.RowKit
set_option linter.unusedVariables false
set_option linter.unusedSimpArgs false
set_option maxHeartbeats 4000000
attribute [local irreducible] J JC thenK blockK loopK drawK retK QW Qt pel List.set Calls
open Go.Maps Go.Lib
set_option maxRecDepth 8000
attribute [local irreducible] JE Br eK0 eK3 brK pc
theorem eEval05 : Entr Try.prog 41 := Entr.of Try.func41 rfl rfl
def litT (b : Int → Bool) (l : Int) : Bool := if l < 0 then !b (-l) else b l
def evT (b : Int → Bool) (T : List (List Int)) : Bool := T.all fun c => c.any (litT b)
def okTh (N : Nat) (T : List (List Int)) : Prop := N ≤ 128 ∧ T.length ≤ 4096 ∧ ∀ c ∈ T, c.length ≤ 128 ∧ ∀ x ∈ c, x ≠ 0 ∧ -(N : Int) ≤ x ∧ x ≤ N
theorem okTh_iff {N : Nat} {T : List (List Int)} : thE (N : Int) T = 0 ↔ okTh N T := by
  rw [thE_ok]
  unfold okTh
  constructor
  · rintro ⟨h1, h2, h3⟩; exact ⟨by omega, h2, h3⟩
  · rintro ⟨h1, h2, h3⟩; exact ⟨⟨by omega, by omega⟩, h2, h3⟩
set_option maxHeartbeats 8000000 in
theorem eval05_any (N : Nat) (a : Option Addr) (cap : Nat) (vs : List HV) (s : Nat × Nat) (hs : okS s) (h : Heap) (hr : LLR a vs h) (hok : okTh N (vs.map (·.l))) (hsub : ∀ u, hasB s u = true → u ≤ N) (w : World) (hw : Holds h w) :
    Calls Try.prog 41 #[.agg ⟨[.int .i64 (N : Int), .slice a vs.length cap]⟩, sv s] w fun e w' => e = .returned (.bool (evT (hasB s) (vs.map (·.l)))) ∧ Below w.heap.size w w' := by
  have q0 : ∀ L, RdH h L h := fun L => RdH.old fun _ hh => hh
  have cC := fun w hw => check05_any (N : Int) a cap vs h hr w hw
  rw [okTh_iff.2 hok] at cC
  obtain ⟨hN, hTl, hv⟩ := hok
  have cA := fun w => assignm_any s hs N hN hsub w
  have hlen : (vs.map (·.l)).length = vs.length := List.length_map _
  obtain ⟨ho, hi⟩ := hr
  refine calls_of_JC (R := h) Try.func41 Try.ntmps41 rfl rfl (hw) ?_
  repeat' first
    | (refine J.isJ ?_; first | (first | (refine J.o 6 ?_; first | refine J.bx (t := 24) (fun b2 => ?_) | refine J.bx (t := 53) (fun b3 => ?_)) | (refine J.fc 52 ?_; refine J.call0 eCheck05 rfl rfl (fun w hw => cC w (hw.rdH (q0 _))) ?_) | (refine J.fc 90 ?_; refine J.call0 eAssignm rfl rfl (fun w hw => cA w) ?_) | (refine J.o 4 ?_; first | refine J.e0 hΓ ?_ | refine J.e1 hΓ ?_)) | (first | (refine J.o 0 ?_; refine J.ev' hΓ ?_) | refine J.nil ?_ | refine J.kd ?_ | (refine J.o 4 ?_; first | refine J.lT default hΓ ?_) | (refine J.o 3 ?_; first | refine J.iJ hΓ ?_ | refine J.ev' hΓ ?_) | (refine J.o 1 ?_; first | refine J.ad ?_) | (refine J.o 6 ?_; refine J.bx (fun _ => ?_)) | (refine J.o 10 ?_; refine J.ev' hΓ ?_) | (refine J.o 11 ?_; refine J.ev' hΓ ?_)))
    | (first | refine JC.seq ?_ | refine JC.region ?_ | refine JC.block ?_ | refine JC.ret ?_ | refine JC.exit ?_ | refine JC.skip ?_ | refine thenK.nn ?_ | refine thenK.r ?_ | refine thenK.x ?_ | refine blockK.nn ?_ | refine blockK.r ?_ | refine blockK.hit rfl ?_ | refine JC.condT rfl ?_ | refine JC.condF rfl ?_ | (refine JC.cond rfl (fun hc => ?_) (fun hc => ?_) <;> ((try simp only [decide_eq_true_eq, decide_eq_false_iff_not, beq_iff_eq, beq_eq_false_iff_ne, bne_iff_ne, bne_eq_false_iff_eq, Bool.not_eq_true', Bool.not_eq_false', Bool.not_eq_true, Bool.not_eq_false] at hc) <;> first | (first | (exact absurd rfl hc) | (exfalso; omega) | (exact absurd (hc.symm.trans (by assumption : _ = false)) (by decide)) | (exact absurd (hc.symm.trans (by assumption : _ = true)) (by decide))) | skip)) | refine drawK.nn ?_ | refine loopK.r ?_ | refine loopK.x ?_)
    | (fail)
    | fail
  all_goals first | (exfalso; omega) | skip
  refine JC.loop (fun i => i == 4 || i == 5 || i == 6 || i == 7 || Nat.ble 18 i) (fun m g L => ∃ (k : Nat), g 5 = .int .i64 (k : Int) ∧ k + m = vs.length ∧ (((vs.map (·.l)).take k).all fun c => c.any (litT (hasB s))) = true ∧ L = _) vs.length ⟨0, rfl, by omega, rfl, rfl⟩ ?_
  rintro m g L ⟨k, e5, hkm, hall, rfl⟩
  refine JC.pin 5 e5 ?_
  clear e5
  rcases Nat.lt_or_ge k vs.length with hk | hk
  case inr =>
    rw [List.take_of_length_le (by rw [List.length_map]; exact hk)] at hall
    repeat' first
      | (refine J.isJ ?_; first | ((refine J.o 4 ?_; first | refine J.e0 hΓ ?_ | refine J.e1 hΓ ?_)) | (first | (refine J.o 0 ?_; refine J.ev' hΓ ?_) | refine J.nil ?_ | refine J.kd ?_ | (refine J.o 4 ?_; first | refine J.lT default hΓ ?_) | (refine J.o 3 ?_; first | refine J.iJ hΓ ?_ | refine J.ev' hΓ ?_) | (refine J.o 1 ?_; first | refine J.ad ?_) | (refine J.o 6 ?_; refine J.bx (fun _ => ?_)) | (refine J.o 10 ?_; refine J.ev' hΓ ?_) | (refine J.o 11 ?_; refine J.ev' hΓ ?_)))
      | (first | refine JC.seq ?_ | refine JC.region ?_ | refine JC.block ?_ | refine JC.ret ?_ | refine JC.exit ?_ | refine JC.skip ?_ | refine thenK.nn ?_ | refine thenK.r ?_ | refine thenK.x ?_ | refine blockK.nn ?_ | refine blockK.r ?_ | refine blockK.hit rfl ?_ | refine JC.condT rfl ?_ | refine JC.condF rfl ?_ | (refine JC.cond rfl (fun hc => ?_) (fun hc => ?_) <;> ((try simp only [decide_eq_true_eq, decide_eq_false_iff_not, beq_iff_eq, beq_eq_false_iff_ne, bne_iff_ne, bne_eq_false_iff_eq, Bool.not_eq_true', Bool.not_eq_false', Bool.not_eq_true, Bool.not_eq_false] at hc) <;> first | (first | (exact absurd rfl hc) | (exfalso; omega) | (exact absurd (hc.symm.trans (by assumption : _ = false)) (by decide)) | (exact absurd (hc.symm.trans (by assumption : _ = true)) (by decide))) | skip)) | refine drawK.nn ?_ | refine loopK.r ?_ | refine loopK.x ?_)
      | (fail)
      | fail
    all_goals first | (exfalso; omega) | exact ret1f rfl rfl rfl (fun w1 hw => ⟨by rw [show evT (hasB s) (vs.map (·.l)) = true from hall], hw.below⟩)
  have hm := mem_g vs k hk
  have hik := hi _ hm
  have hml : (vs.getD k default).l ∈ vs.map (·.l) := List.mem_map_of_mem (f := (·.l)) hm
  have hck := hv _ hml
  have hcn := hck.1
  repeat' first
    | (refine J.isJ ?_; first | (first | (refine J.o 3 ?_; refine J.iJ hΓ ?_ (hs := ho)) | (refine J.o 4 ?_; first | refine J.lT default hΓ ?_ (hs := ho) (hr := q0 _) | refine J.e0 hΓ ?_ | refine J.e1 hΓ ?_)) | (first | (refine J.o 0 ?_; refine J.ev' hΓ ?_) | refine J.nil ?_ | refine J.kd ?_ | (refine J.o 4 ?_; first | refine J.lT default hΓ ?_) | (refine J.o 3 ?_; first | refine J.iJ hΓ ?_ | refine J.ev' hΓ ?_) | (refine J.o 1 ?_; first | refine J.ad ?_) | (refine J.o 6 ?_; refine J.bx (fun _ => ?_)) | (refine J.o 10 ?_; refine J.ev' hΓ ?_) | (refine J.o 11 ?_; refine J.ev' hΓ ?_)))
    | (first | refine JC.seq ?_ | refine JC.region ?_ | refine JC.block ?_ | refine JC.ret ?_ | refine JC.exit ?_ | refine JC.skip ?_ | refine thenK.nn ?_ | refine thenK.r ?_ | refine thenK.x ?_ | refine blockK.nn ?_ | refine blockK.r ?_ | refine blockK.hit rfl ?_ | refine JC.condT rfl ?_ | refine JC.condF rfl ?_ | (refine JC.cond rfl (fun hc => ?_) (fun hc => ?_) <;> ((try simp only [decide_eq_true_eq, decide_eq_false_iff_not, beq_iff_eq, beq_eq_false_iff_ne, bne_iff_ne, bne_eq_false_iff_eq, Bool.not_eq_true', Bool.not_eq_false', Bool.not_eq_true, Bool.not_eq_false] at hc) <;> first | (first | (exact absurd rfl hc) | (exfalso; omega) | (exact absurd (hc.symm.trans (by assumption : _ = false)) (by decide)) | (exact absurd (hc.symm.trans (by assumption : _ = true)) (by decide))) | skip)) | refine drawK.nn ?_ | refine loopK.r ?_ | refine loopK.x ?_)
    | (fail)
    | fail
  all_goals first | (exfalso; omega) | skip
  refine JC.loop (fun i => i == 6 || i == 7 || (Nat.ble 25 i && Nat.ble i 47)) (fun m g L => ∃ (j : Nat), g 7 = .int .i64 (j : Int) ∧ g 6 = .bool (((vs.getD k default).l.take j).any (litT (hasB s))) ∧ j + m = (vs.getD k default).l.length ∧ L = _) (vs.getD k default).l.length ⟨0, rfl, rfl, by omega, rfl⟩ ?_
  rintro m3 g3 L3 ⟨j, e7, e6, hjm, rfl⟩
  refine JC.pin 7 e7 (JC.pin 6 e6 ?_)
  clear e7 e6
  rcases Nat.lt_or_ge j (vs.getD k default).l.length with hj | hj
  case inl =>
    have hvj := hck.2 _ (mem_g (vs.getD k default).l j hj)
    have cH := fun w => holds05_any s hs ((vs.getD k default).l.getD j default) (by omega) w
    have hsn : ((vs.getD k default).l.take (j + 1)).any (litT (hasB s)) = (Bool.or (((vs.getD k default).l.take j).any (litT (hasB s))) (litT (hasB s) ((vs.getD k default).l.getD j default))) := by
      rw [take_g _ j hj, List.any_append, List.any_cons, List.any_nil, Bool.or_false]
    rw [show (if (vs.getD k default).l.getD j default < 0 then !hasB s (-(vs.getD k default).l.getD j default) else hasB s ((vs.getD k default).l.getD j default)) = litT (hasB s) ((vs.getD k default).l.getD j default) from rfl] at cH
    generalize ((vs.getD k default).l.take j).any (litT (hasB s)) = is at *
    cases is with
    | true =>
      repeat' first
        | (refine J.isJ ?_; first | (first | (refine J.o 3 ?_; first | refine J.iJ hΓ ?_ (hs := ho) | refine J.iJ hΓ ?_ (hs := hik)) | (refine J.o 4 ?_; first | refine J.lT default hΓ ?_ (hs := hik) (hr := q0 _) | refine J.lT default hΓ ?_ (hs := ho) (hr := q0 _) | refine J.e0 hΓ ?_ | refine J.e1 hΓ ?_)) | (first | (refine J.o 0 ?_; refine J.ev' hΓ ?_) | refine J.nil ?_ | refine J.kd ?_ | (refine J.o 4 ?_; first | refine J.lT default hΓ ?_) | (refine J.o 3 ?_; first | refine J.iJ hΓ ?_ | refine J.ev' hΓ ?_) | (refine J.o 1 ?_; first | refine J.ad ?_) | (refine J.o 6 ?_; refine J.bx (fun _ => ?_)) | (refine J.o 10 ?_; refine J.ev' hΓ ?_) | (refine J.o 11 ?_; refine J.ev' hΓ ?_)))
        | (first | refine JC.seq ?_ | refine JC.region ?_ | refine JC.block ?_ | refine JC.ret ?_ | refine JC.exit ?_ | refine JC.skip ?_ | refine thenK.nn ?_ | refine thenK.r ?_ | refine thenK.x ?_ | refine blockK.nn ?_ | refine blockK.r ?_ | refine blockK.hit rfl ?_ | refine JC.condT rfl ?_ | refine JC.condF rfl ?_ | (refine JC.cond rfl (fun hc => ?_) (fun hc => ?_) <;> ((try simp only [decide_eq_true_eq, decide_eq_false_iff_not, beq_iff_eq, beq_eq_false_iff_ne, bne_iff_ne, bne_eq_false_iff_eq, Bool.not_eq_true', Bool.not_eq_false', Bool.not_eq_true, Bool.not_eq_false] at hc) <;> first | (first | (exact absurd rfl hc) | (exfalso; omega) | (exact absurd (hc.symm.trans (by assumption : _ = false)) (by decide)) | (exact absurd (hc.symm.trans (by assumption : _ = true)) (by decide))) | skip)) | refine drawK.nn ?_ | refine loopK.r ?_ | refine loopK.x ?_)
        | ((refine JC.drawW [] [] (by kernel_rfl) (by kernel_rfl) ?_))
        | fail
      all_goals first | (exfalso; omega) | skip
      all_goals refine loopK.nn (m3 - 1) (by omega) (by repeat (first | refine Ag.upd rfl ?_ | exact Ag.hv)) ⟨j + 1, ?_, ?_, by omega, rfl⟩
      · show Value.int .i64 _ = _; congr 1
      · rw [hsn]; rfl
    | false =>
      repeat' first
        | (refine J.isJ ?_; first | (first | (refine J.o 3 ?_; first | refine J.iJ hΓ ?_ (hs := ho) | refine J.iJ hΓ ?_ (hs := hik)) | (refine J.o 4 ?_; first | refine J.lT default hΓ ?_ (hs := hik) (hr := q0 _) | refine J.lT default hΓ ?_ (hs := ho) (hr := q0 _) | refine J.e0 hΓ ?_ | refine J.e1 hΓ ?_) | (refine J.fc 91 ?_; refine J.call0 eHolds05 rfl rfl (fun w hw => cH w) ?_)) | (first | (refine J.o 0 ?_; refine J.ev' hΓ ?_) | refine J.nil ?_ | refine J.kd ?_ | (refine J.o 4 ?_; first | refine J.lT default hΓ ?_) | (refine J.o 3 ?_; first | refine J.iJ hΓ ?_ | refine J.ev' hΓ ?_) | (refine J.o 1 ?_; first | refine J.ad ?_) | (refine J.o 6 ?_; refine J.bx (fun _ => ?_)) | (refine J.o 10 ?_; refine J.ev' hΓ ?_) | (refine J.o 11 ?_; refine J.ev' hΓ ?_)))
        | (first | refine JC.seq ?_ | refine JC.region ?_ | refine JC.block ?_ | refine JC.ret ?_ | refine JC.exit ?_ | refine JC.skip ?_ | refine thenK.nn ?_ | refine thenK.r ?_ | refine thenK.x ?_ | refine blockK.nn ?_ | refine blockK.r ?_ | refine blockK.hit rfl ?_ | refine JC.condT rfl ?_ | refine JC.condF rfl ?_ | (refine JC.cond rfl (fun hc => ?_) (fun hc => ?_) <;> ((try simp only [decide_eq_true_eq, decide_eq_false_iff_not, beq_iff_eq, beq_eq_false_iff_ne, bne_iff_ne, bne_eq_false_iff_eq, Bool.not_eq_true', Bool.not_eq_false', Bool.not_eq_true, Bool.not_eq_false] at hc) <;> first | (first | (exact absurd rfl hc) | (exfalso; omega) | (exact absurd (hc.symm.trans (by assumption : _ = false)) (by decide)) | (exact absurd (hc.symm.trans (by assumption : _ = true)) (by decide))) | skip)) | refine drawK.nn ?_ | refine loopK.r ?_ | refine loopK.x ?_)
        | ((refine JC.drawW [] [] (by kernel_rfl) (by kernel_rfl) ?_))
        | fail
      all_goals first | (exfalso; omega) | skip
      all_goals refine loopK.nn (m3 - 1) (by omega) (by repeat (first | refine Ag.upd rfl ?_ | exact Ag.hv)) ⟨j + 1, ?_, ?_, by omega, rfl⟩
      · show Value.int .i64 _ = _; congr 1
      · rw [hsn]; rfl
  rw [List.take_of_length_le hj]
  cases hb : (vs.getD k default).l.any (litT (hasB s)) with
  | true =>
    have hall2 : (((vs.map (·.l)).take (k + 1)).all fun c => c.any (litT (hasB s))) = true := by
      rw [← List.map_take, take_g vs k hk, List.map_append, List.all_append, List.map_take, hall]
      simp only [List.map_cons, List.map_nil, List.all_cons, List.all_nil, hb, Bool.and_self]
    repeat' first
      | (refine J.isJ ?_; first | (first | (refine J.o 3 ?_; first | refine J.iJ hΓ ?_ (hs := ho)) | (refine J.o 4 ?_; first | refine J.lT default hΓ ?_ (hs := ho) (hr := q0 _) | refine J.e0 hΓ ?_ | refine J.e1 hΓ ?_)) | (first | (refine J.o 0 ?_; refine J.ev' hΓ ?_) | refine J.nil ?_ | refine J.kd ?_ | (refine J.o 4 ?_; first | refine J.lT default hΓ ?_) | (refine J.o 3 ?_; first | refine J.iJ hΓ ?_ | refine J.ev' hΓ ?_) | (refine J.o 1 ?_; first | refine J.ad ?_) | (refine J.o 6 ?_; refine J.bx (fun _ => ?_)) | (refine J.o 10 ?_; refine J.ev' hΓ ?_) | (refine J.o 11 ?_; refine J.ev' hΓ ?_)))
      | (first | refine JC.seq ?_ | refine JC.region ?_ | refine JC.block ?_ | refine JC.ret ?_ | refine JC.exit ?_ | refine JC.skip ?_ | refine thenK.nn ?_ | refine thenK.r ?_ | refine thenK.x ?_ | refine blockK.nn ?_ | refine blockK.r ?_ | refine blockK.hit rfl ?_ | refine JC.condT rfl ?_ | refine JC.condF rfl ?_ | (refine JC.cond rfl (fun hc => ?_) (fun hc => ?_) <;> ((try simp only [decide_eq_true_eq, decide_eq_false_iff_not, beq_iff_eq, beq_eq_false_iff_ne, bne_iff_ne, bne_eq_false_iff_eq, Bool.not_eq_true', Bool.not_eq_false', Bool.not_eq_true, Bool.not_eq_false] at hc) <;> first | (first | (exact absurd rfl hc) | (exfalso; omega) | (exact absurd (hc.symm.trans (by assumption : _ = false)) (by decide)) | (exact absurd (hc.symm.trans (by assumption : _ = true)) (by decide))) | skip)) | refine drawK.nn ?_ | refine loopK.r ?_ | refine loopK.x ?_)
      | ((refine JC.drawW [] [] (by kernel_rfl) (by kernel_rfl) ?_))
      | fail
    all_goals first | (exfalso; omega) | skip
    all_goals refine loopK.nn (m - 1) (by omega) (by repeat (first | refine Ag.upd rfl ?_ | exact Ag.hv | refine Ag.hv2 (fun i hi => by simp at hi ⊢; omega) ?_)) ⟨k + 1, ?_, by omega, hall2, rfl⟩
    all_goals (show Value.int .i64 _ = _; congr 1)
  | false =>
    have hno : evT (hasB s) (vs.map (·.l)) = false := by
      unfold evT
      rw [List.all_eq_false]
      exact ⟨_, hml, by rw [hb]; decide⟩
    repeat' first
      | (refine J.isJ ?_; first | (first | (refine J.o 3 ?_; first | refine J.iJ hΓ ?_ (hs := ho)) | (refine J.o 4 ?_; first | refine J.lT default hΓ ?_ (hs := ho) (hr := q0 _) | refine J.e0 hΓ ?_ | refine J.e1 hΓ ?_)) | (first | (refine J.o 0 ?_; refine J.ev' hΓ ?_) | refine J.nil ?_ | refine J.kd ?_ | (refine J.o 4 ?_; first | refine J.lT default hΓ ?_) | (refine J.o 3 ?_; first | refine J.iJ hΓ ?_ | refine J.ev' hΓ ?_) | (refine J.o 1 ?_; first | refine J.ad ?_) | (refine J.o 6 ?_; refine J.bx (fun _ => ?_)) | (refine J.o 10 ?_; refine J.ev' hΓ ?_) | (refine J.o 11 ?_; refine J.ev' hΓ ?_)))
      | (first | refine JC.seq ?_ | refine JC.region ?_ | refine JC.block ?_ | refine JC.ret ?_ | refine JC.exit ?_ | refine JC.skip ?_ | refine thenK.nn ?_ | refine thenK.r ?_ | refine thenK.x ?_ | refine blockK.nn ?_ | refine blockK.r ?_ | refine blockK.hit rfl ?_ | refine JC.condT rfl ?_ | refine JC.condF rfl ?_ | (refine JC.cond rfl (fun hc => ?_) (fun hc => ?_) <;> ((try simp only [decide_eq_true_eq, decide_eq_false_iff_not, beq_iff_eq, beq_eq_false_iff_ne, bne_iff_ne, bne_eq_false_iff_eq, Bool.not_eq_true', Bool.not_eq_false', Bool.not_eq_true, Bool.not_eq_false] at hc) <;> first | (first | (exact absurd rfl hc) | (exfalso; omega) | (exact absurd (hc.symm.trans (by assumption : _ = false)) (by decide)) | (exact absurd (hc.symm.trans (by assumption : _ = true)) (by decide))) | skip)) | refine drawK.nn ?_ | refine loopK.r ?_ | refine loopK.x ?_)
      | ((refine JC.drawW [] [] (by kernel_rfl) (by kernel_rfl) ?_))
      | fail
    all_goals first | (exfalso; omega) | exact ret1f rfl rfl rfl (fun w1 hw => ⟨by rw [hno], hw.below⟩)
end Go.Proofs.Ytbhgahjeocnfcaa
namespace Go.Proofs.Ytbhgahjeocnfcaa
open Go Go.Cx Go.RowKit
set_option linter.unusedVariables false
set_option linter.unusedSimpArgs false
set_option maxHeartbeats 4000000
attribute [local irreducible] J JC thenK blockK loopK drawK retK QW Qt pel List.set Calls
open Go.Maps Go.Lib
set_option maxRecDepth 8000
attribute [local irreducible] JE Br eK0 eK3 brK pc
def thF (T : List (List Int)) : VF := fun β => evT β T
theorem thA_ev {l : List Int} {N : Nat} {T : List (List Int)} (hok : okTh N T) (hm : ∀ v : Int, 1 ≤ v → v ≤ N → v ∈ l) (β : Int → Bool) : thA l T (asgV l β) = evT β T := by
  have hlit : ∀ c ∈ T, ∀ x ∈ c, litA l x (asgV l β) = litT β x := fun c hc x hx => by
    have h := (hok.2.2 c hc).2 x hx
    have hN := hok.1
    have hv := varI_ok hN h
    obtain ⟨k, hk⟩ : ∃ k, rk l (varI x) 0 = some k := by
      cases g : rk l (varI x) 0 with
      | some k => exact ⟨k, rfl⟩
      | none => exact absurd (hm _ hv.1 hv.2) (rk_none.1 g)
    have hg := (rk_some hk).2.2
    rw [Nat.sub_zero] at hg
    unfold litT
    by_cases hn : x < 0
    · have hx2 : varI x = -x := by unfold varI; rw [if_neg (by omega), if_pos (by omega)]
      rw [litA_neg hn hk, if_pos hn]
      unfold asgV
      rw [hg, hx2]
    · have hx2 : varI x = x := by unfold varI; rw [if_pos (by omega)]
      rw [litA_pos hn hk, if_neg hn]
      unfold asgV
      rw [hg, hx2]
  unfold thA evT clA
  rw [Bool.eq_iff_iff, List.all_eq_true, List.all_eq_true]
  refine forall_congr' fun c => forall_congr' fun hc => ?_
  rw [List.any_eq_true, List.any_eq_true]
  refine exists_congr fun x => ?_
  constructor
  · rintro ⟨h1, h2⟩; exact ⟨h1, by rw [← hlit c hc x h1]; exact h2⟩
  · rintro ⟨h1, h2⟩; exact ⟨h1, by rw [hlit c hc x h1]; exact h2⟩
theorem of_ints {l : List Int} {N : Nat} (hN : N ≤ 128) (hp : l.Perm (ints N)) : ofS l = allS N := by
  refine set_ext (okS_of l (0, 0) okS_zero) (okS_all N) fun u h1 h2 => ?_
  rw [Bool.eq_iff_iff, has_all N u hN]
  unfold ofS
  rw [ofS_has l (0, 0) u, has_zero, hp.mem_iff, ints_mem]
  constructor
  · rintro (h | h)
    · cases h
    · exact h.1
  · intro h; exact .inr ⟨h, h1, h2⟩
theorem costT_le : ∀ (T : List (List Int)) (m : Nat), (∀ c ∈ T, c.length ≤ m) → costT T ≤ T.length * (m * 20 + 255)
  | [], m, _ => by rw [costT]; omega
  | c :: T, m, h => by
    have h1 := costT_le T m fun x hx => h x (List.mem_cons_of_mem _ hx)
    have h2 := Nat.mul_le_mul_right 20 (h c List.mem_cons_self)
    rw [costT, List.length_cons, Nat.succ_mul]
    omega
theorem compile_V (N : Nat) (h8 : N ≤ 8) (l : List Int) (hp : l.Perm (ints N)) (a : Option Addr) (c : Nat) (h : Heap) (hs : SlT encI 1 a l h) (aT : Option Addr) (cap : Nat) (vs : List HV) (hT : Heap) (ll : LLR aT vs hT) (T : List (List Int)) (hvs : vs.map (·.l) = T) (hok : okTh N T) (hcost : 2 + costT T ≤ 1048576) {w0 w : World} {R : Heap} {L : List Heap} (hr : RdH R L h) (rT : RdH R L hT) (hw : H w0 R L w) :
    Calls Try.prog 16 #[.agg ⟨[.int .i64 (N : Int), .slice aT vs.length cap]⟩, .slice a l.length c] w fun e w' => ∃ v L', e = .returned v ∧ H w0 R L' w' ∧ RebQ (thF T) l L v L' := by
  subst hvs
  have hlen : l.length = N := by rw [hp.length_eq, ints_len]
  refine (compile_any N l a c h hs aT cap vs hT ll (okTh_iff.2 hok) hlen (of_ints (by omega) hp) h8 hcost hr rT hw).mono ?_
  rintro e w' ⟨v, L', h1, h2, b, K, s, y, hO, hP, h3, h4, so, po, hy, hf, _⟩
  subst hlen
  exact ⟨v, L', h1, h2, b, K, s, y, hO, hP, h3, h4, so, po, hy, fun β => by
    rw [hf]
    exact thA_ev hok (fun v h1 h2 => hp.mem_iff.2 ((ints_mem _ _).2 ⟨h1, h2⟩)) β⟩
def szF (l : List Int) (F : VF) : Nat := sizeT l.length (tabF l.length (gF l F))
theorem Stv.size {F : VF} {l : List Int} {K : KS} {s : SS} {y : Nat} {hO hP : Heap} (sv : Stv F l K s y hO hP) {m : List Int} (b : Bel s.ns y m) : m.length = szF l F :=
  b.size sv.so.wf sv.sy.1 (sv.sy.fn sv.ho.2 sv.so.wf)
end Go.Proofs.Ytbhgahjeocnfcaa
