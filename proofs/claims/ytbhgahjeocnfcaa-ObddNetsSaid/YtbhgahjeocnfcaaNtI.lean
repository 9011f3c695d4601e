/- ObddNets: part 9. -/
import Derived.Test.YtbhgahjeocnfcaaNtH
namespace Go.Proofs.Ytbhgahjeocnfcaa
open Go Go.Cx Go.RowKit
set_option linter.unusedVariables false
set_option linter.unusedSimpArgs false
set_option maxHeartbeats 4000000
attribute [local irreducible] J JC thenK blockK loopK drawK retK QW Qt pel List.set Calls
open Go.Maps Go.Lib
set_option maxRecDepth 8000
attribute [local irreducible] JE Br eK0 eK2 eK3 brK pc
theorem eTerms : Entr Try.prog 43 := Entr.of Try.func43 rfl rfl
theorem wU16 {r : Nat} (h : r < 65536) : IntKind.u16.wrap (r : Int) = (r : Int) := IntWalk.u16_in _ (by omega)
theorem wAnd (x b : Nat) (h : b < 65536) : IntKind.u16.wrap ((x &&& b : Nat) : Int) = ((x &&& b : Nat) : Int) := wU16 (Nat.lt_of_le_of_lt Nat.and_le_right h)
theorem nz {x : Nat} (h : (x : Int) = 0) : x = 0 := by omega
theorem nnz {x : Nat} (h : ¬ (x : Int) = 0) : ¬ x = 0 := by omega
theorem litB_no {p k : Nat} {α : Nat → Bool} (h : p / 2 ^ (2 * k) &&& 1 = 0) : litB p k α = true := by unfold litB; rw [if_pos h]
theorem litB_pos {p k : Nat} {α : Nat → Bool} (h : ¬ p / 2 ^ (2 * k) &&& 1 = 0) (h2 : p / 2 ^ (2 * k) &&& 2 = 0) : litB p k α = α k := by unfold litB; rw [if_neg h, if_pos h2]
theorem litB_neg {p k : Nat} {α : Nat → Bool} (h : ¬ p / 2 ^ (2 * k) &&& 1 = 0) (h2 : ¬ p / 2 ^ (2 * k) &&& 2 = 0) : litB p k α = !α k := by unfold litB; rw [if_neg h, if_neg h2]
set_option maxHeartbeats 8000000 in
theorem terms_any {n : Nat} {K : KS} {s : SS} (so : SOk n K s) {order : List Int} {hO hP : Heap} (po : POk K order hO hP) (a : Option Addr) (c : Nat) (h : Heap) (hs : SlT encI 1 a order h) (ps : List Nat) (ap : Option Addr) (cp : Nat) (hp : Heap) (hsp : SlT encH 1 ap ps hp) (hpb : ∀ p ∈ ps, p < 65536) (last : Bool) (h8 : n ≤ 8) (h12 : ps.length ≤ 12) (hfull : s.ns.length + ps.length * 4343 ≤ 1048576) {w0 w : World} {R : Heap} {L : List Heap} {b : Nat} (hr : ∀ M, RdH R M h) (hrp : ∀ M, RdH R M hp) (hw : H w0 R (sF K b s ++ (hO :: hP :: L)) w) :
    Calls Try.prog 43 #[.pointer (some ⟨b, 0, none⟩), .slice a order.length c, .slice ap ps.length cp, .bool last] w fun e w' => ∃ v L', e = .returned v ∧ H w0 R L' w' ∧ ∃ s' y, v = .tuple #[.int .i64 ((y : Nat) : Int), .bool true] ∧ L' = sF K b s' ++ (hO :: hP :: L) ∧ Res n K s s' (ps.length * 4343) y (disB n ps) := by
  have h2n := pow8 h8
  have hno := so.no
  have hpl := po.len
  have hon : order.length = n := by omega
  have two := so.wf.two
  have hok := po.ok
  subst hon
  cases last
  ·
    refine calls_in Try.func43 Try.ntmps43 rfl rfl (hw) ?_
    repeat' first
      | (refine J.isJ ?_; first | (fail) | (first | (refine J.o 0 ?_; refine J.ev' hΓ ?_) | refine J.nil ?_ | (refine J.o 4 ?_; first | refine J.lT default hΓ ?_) | (refine J.o 3 ?_; first | refine J.iJ hΓ ?_ | refine J.ev' hΓ ?_) | (refine J.o 1 ?_; first | refine J.ad ?_) | (refine J.o 10 ?_; refine J.ev' hΓ ?_) | (refine J.o 11 ?_; refine J.ev' hΓ ?_)))
      | (first | refine JC.seq ?_ | refine JC.region ?_ | refine JC.block ?_ | refine JC.ret ?_ | refine JC.exit ?_ | refine JC.skip ?_ | refine thenK.nn ?_ | refine thenK.x ?_ | refine blockK.nn ?_ | refine blockK.hit rfl ?_ | refine JC.condT rfl ?_ | refine JC.condF rfl ?_ | (refine JC.cond rfl (fun hc => ?_) (fun hc => ?_) <;> ((try simp only [decide_eq_true_eq, decide_eq_false_iff_not, beq_iff_eq, beq_eq_false_iff_ne, bne_iff_ne, bne_eq_false_iff_eq, Bool.not_eq_true', Bool.not_eq_false', Bool.not_eq_true, Bool.not_eq_false] at hc) <;> first | (first | (exact absurd rfl hc) | (exfalso; omega) | (exact absurd (hc.symm.trans (by assumption : _ = false)) (by decide)) | (exact absurd (hc.symm.trans (by assumption : _ = true)) (by decide))) | skip)) | refine loopK.x ?_)
      | (fail)
      | fail
    refine JC.loop (fun i => Nat.ble 10 i) (fun m g L' => ∃ q s1 y, g 12 = .int .i64 ((q : Nat) : Int) ∧ g 10 = .int .i64 ((y : Nat) : Int) ∧ g 11 = .bool true ∧ q + m = ps.length ∧ Adds order.length K s s1 (q * 4343) y ∧ (∀ α, fn order.length s1.ns y α = disQ false order.length ps q α) ∧ L' = sF K b s1 ++ (hO :: hP :: L)) ps.length ⟨0, s, 0, rfl, rfl, rfl, by omega, (Adds.refl so (by omega)).mono (by omega), fun α => fn_0 so.wf α, rfl⟩ ?_
    rintro m g L' ⟨q, s1, y, e12, e10, e11, hq, ad, hfn, rfl⟩
    refine JC.pin 12 e12 ?_
    refine JC.pin 10 e10 ?_
    refine JC.pin 11 e11 ?_
    have adl := ad.le
    have two1 := ad.ok.wf.two
    rcases Nat.lt_or_ge q ps.length with hlt | hge
    ·
      have hpe : ps.getD (q) 0 < 65536 := hpb _ (mem_g0 ps (by omega))
      repeat' first
        | (refine J.isJ ?_; first | (first | (refine J.o 1 ?_; first | refine J.gsub (b := 1) ?_ | refine J.gsub ?_) | (refine J.o 4 ?_; refine J.lT (0 : Nat) hΓ ?_ (hs := hsp) (hr := hrp _))) | (first | (refine J.o 0 ?_; refine J.ev' hΓ ?_) | refine J.nil ?_ | (refine J.o 4 ?_; first | refine J.lT default hΓ ?_) | (refine J.o 3 ?_; first | refine J.iJ hΓ ?_ | refine J.ev' hΓ ?_) | (refine J.o 1 ?_; first | refine J.ad ?_) | (refine J.o 10 ?_; refine J.ev' hΓ ?_) | (refine J.o 11 ?_; refine J.ev' hΓ ?_)))
        | (first | refine JC.seq ?_ | refine JC.region ?_ | refine JC.block ?_ | refine JC.ret ?_ | refine JC.exit ?_ | refine JC.skip ?_ | refine thenK.nn ?_ | refine thenK.x ?_ | refine blockK.nn ?_ | refine blockK.hit rfl ?_ | refine JC.condT rfl ?_ | refine JC.condF rfl ?_ | (refine JC.cond rfl (fun hc => ?_) (fun hc => ?_) <;> ((try simp only [decide_eq_true_eq, decide_eq_false_iff_not, beq_iff_eq, beq_eq_false_iff_ne, bne_iff_ne, bne_eq_false_iff_eq, Bool.not_eq_true', Bool.not_eq_false', Bool.not_eq_true, Bool.not_eq_false] at hc) <;> first | (first | (exact absurd rfl hc) | (exfalso; omega) | (exact absurd (hc.symm.trans (by assumption : _ = false)) (by decide)) | (exact absurd (hc.symm.trans (by assumption : _ = true)) (by decide))) | skip)) | refine loopK.x ?_)
        | (fail)
        | fail
      all_goals first | (exfalso; omega) | skip
      refine JC.loop (fun i => i == 11 || i == 14 || i == 15 || i == 16 || i == 17 || i == 18 || i == 19 || i == 20 || Nat.ble 42 i) (fun m2 g2 L' => ∃ k s2 y2, g2 15 = .int .i64 ((k : Nat) : Int) ∧ g2 14 = .int .i64 ((y2 : Nat) : Int) ∧ g2 11 = .bool true ∧ k + m2 = order.length ∧ Adds order.length K s1 s2 (k * 511) y2 ∧ (∀ α, fn order.length s2.ns y2 α = termQ false order.length (ps.getD (q) 0) k α) ∧ L' = sF K b s2 ++ (hO :: hP :: L)) order.length ⟨0, s1, 1, rfl, rfl, rfl, by omega, (Adds.refl ad.ok (by omega)).mono (by omega), fun α => fn_1 ad.ok.wf α, rfl⟩ ?_
      rintro m2 g2 L' ⟨k, s2, y2, e15, e14, e11b, hk, ad2, hfn2, rfl⟩
      refine JC.pin 15 e15 ?_
      refine JC.pin 14 e14 ?_
      refine JC.pin 11 e11b ?_
      have adl2 := ad2.le
      rcases Nat.lt_or_ge k order.length with hklt | hkge
      ·
        have hel := hok.1 _ (mem_g order (k) (by omega))
        have hsh : ps.getD (q) 0 / 2 ^ (2 * (k)) < 2 ^ IntKind.u16.bits := by show _ < 65536; exact Nat.lt_of_le_of_lt (Nat.div_le_self _ _) hpe
        have hb1 : 1 < 2 ^ IntKind.u16.bits := by show 1 < 65536; decide
        have hb2 : 2 < 2 ^ IntKind.u16.bits := by show 2 < 65536; decide
        have hrk := rk_at hok.2 (k := k) (by omega)
        repeat' first
          | (refine J.isJ ?_; first | (first | (refine J.o 1 ?_; first | refine J.gsub (b := 1) ?_ | refine J.gsub ?_ | refine J.gmul (a := 2) ?_ (hw := wI64 (by omega)) | refine J.gshr (k := .u16) (j := 2 * (k)) ?_ (hj := (by show 2 * (k) ≤ 16; omega)) | refine J.gand (k := .u16) (b := 1) ?_ (ha := hsh) (hb := hb1) (hw := wAnd _ 1 (by decide)) | refine J.gand (k := .u16) (b := 2) ?_ (ha := hsh) (hb := hb2) (hw := wAnd _ 2 (by decide))) | (refine J.o 4 ?_; refine J.lT default hΓ ?_ (hs := hs) (hr := hr _)) | (refine J.fc 26 ?_; refine J.callx eVarS rfl rfl (fun w hw => Var_any ad2.ok po _ (by omega) (k) hrk (by omega) hw) ?_; rintro _ _ ⟨s3, y3, rfl, rfl, ad3, f3⟩; have adl3 := ad3.le) | (refine J.fc 93 ?_; refine J.callx eNot rfl rfl (fun w hw => Not_any ad3.ok y3 ad3.lt (by omega) hw) ?_; rintro _ _ ⟨s4, y4, rfl, rfl, ad4, f4⟩; have adl4 := ad4.le) | (refine J.fc 28 ?_; first | (refine J.callx eAnd rfl rfl (fun w hw => And_any ad4.ok y2 (ad4.old (ad3.old ad2.lt)) y4 ad4.lt (by omega) hw) ?_; rintro _ _ ⟨s5, y5, rfl, rfl, ad5, f5⟩) | (refine J.callx eAnd rfl rfl (fun w hw => And_any ad3.ok y2 (ad3.old ad2.lt) y3 ad3.lt (by omega) hw) ?_; rintro _ _ ⟨s5, y5, rfl, rfl, ad5, f5⟩))) | (first | (refine J.o 0 ?_; refine J.ev' hΓ ?_) | refine J.nil ?_ | (refine J.o 4 ?_; first | refine J.lT default hΓ ?_) | (refine J.o 3 ?_; first | refine J.iJ hΓ ?_ | refine J.ev' hΓ ?_) | (refine J.o 1 ?_; first | refine J.ad ?_) | (refine J.o 10 ?_; refine J.ev' hΓ ?_) | (refine J.o 11 ?_; refine J.ev' hΓ ?_)))
          | (first | refine JC.seq ?_ | refine JC.region ?_ | refine JC.block ?_ | refine JC.ret ?_ | refine JC.exit ?_ | refine JC.skip ?_ | refine thenK.nn ?_ | refine thenK.x ?_ | refine blockK.nn ?_ | refine blockK.hit rfl ?_ | refine JC.condT rfl ?_ | refine JC.condF rfl ?_ | (refine JC.cond rfl (fun hc => ?_) (fun hc => ?_) <;> ((try simp only [decide_eq_true_eq, decide_eq_false_iff_not, beq_iff_eq, beq_eq_false_iff_ne, bne_iff_ne, bne_eq_false_iff_eq, Bool.not_eq_true', Bool.not_eq_false', Bool.not_eq_true, Bool.not_eq_false] at hc) <;> first | (first | (exact absurd rfl hc) | (exfalso; omega) | (exact absurd (hc.symm.trans (by assumption : _ = false)) (by decide)) | (exact absurd (hc.symm.trans (by assumption : _ = true)) (by decide))) | skip)) | refine loopK.x ?_)
          | (fail)
          | fail
        all_goals first | (exfalso; omega) | skip
        · refine loopK.nn (m2 - 1) (by omega) (by repeat (first | refine Ag.upd rfl ?_ | exact Ag.hv | refine Ag.hv2 (fun i hi => by simp at hi ⊢; omega) ?_)) ⟨k + 1, s2, y2, ?_, rfl, rfl, by omega, ad2.mono (by omega), fun α => ?_, rfl⟩
          · show Value.int .i64 _ = _; congr 1
          · rw [termQ_s, hfn2]; show _ = (_ && litB (ps.getD (q) 0) (k) α); rw [litB_no (nz hc), Bool.and_true]
        · rename_i hc1
          refine loopK.nn (m2 - 1) (by omega) (by repeat (first | refine Ag.upd rfl ?_ | exact Ag.hv | refine Ag.hv2 (fun i hi => by simp at hi ⊢; omega) ?_)) ⟨k + 1, s5, y5, ?_, rfl, rfl, by omega, (((ad2.trans ad3).trans ad4).trans ad5).mono (by omega), fun α => ?_, rfl⟩
          · show Value.int .i64 _ = _; congr 1
          · have h3 := f3 α
            have h4 := f4 α
            have h5 := f5 α
            dsimp only at h3 h4 h5
            rw [termQ_s, h5, h4, h3, fn_ext ad3.ok.wf ad4.ext (ad3.old ad2.lt), fn_ext ad2.ok.wf ad3.ext ad2.lt, hfn2]; show _ = (_ && litB (ps.getD (q) 0) (k) α); rw [litB_neg (nnz hc1) (nnz hc)]
        · rename_i hc1
          refine loopK.nn (m2 - 1) (by omega) (by repeat (first | refine Ag.upd rfl ?_ | exact Ag.hv | refine Ag.hv2 (fun i hi => by simp at hi ⊢; omega) ?_)) ⟨k + 1, s5, y5, ?_, rfl, rfl, by omega, ((ad2.trans ad3).trans ad5).mono (by omega), fun α => ?_, rfl⟩
          · show Value.int .i64 _ = _; congr 1
          · have h3 := f3 α
            have h5 := f5 α
            dsimp only at h3 h5
            rw [termQ_s, h5, h3, fn_ext ad2.ok.wf ad3.ext ad2.lt, hfn2]; show _ = (_ && litB (ps.getD (q) 0) (k) α); rw [litB_pos (nnz hc1) (nz hc)]
      ·
        repeat' first
          | (refine J.isJ ?_; first | ((refine J.fc 94 ?_; refine J.callx eOr rfl rfl (fun w hw => Or_any ad2.ok y (ad2.old ad.lt) y2 ad2.lt (by omega) hw) ?_; rintro _ _ ⟨s3, y3, rfl, rfl, ad3, f3⟩)) | (first | (refine J.o 0 ?_; refine J.ev' hΓ ?_) | refine J.nil ?_ | (refine J.o 4 ?_; first | refine J.lT default hΓ ?_) | (refine J.o 3 ?_; first | refine J.iJ hΓ ?_ | refine J.ev' hΓ ?_) | (refine J.o 1 ?_; first | refine J.ad ?_) | (refine J.o 10 ?_; refine J.ev' hΓ ?_) | (refine J.o 11 ?_; refine J.ev' hΓ ?_)))
          | (first | refine JC.seq ?_ | refine JC.region ?_ | refine JC.block ?_ | refine JC.ret ?_ | refine JC.exit ?_ | refine JC.skip ?_ | refine thenK.nn ?_ | refine thenK.x ?_ | refine blockK.nn ?_ | refine blockK.hit rfl ?_ | refine JC.condT rfl ?_ | refine JC.condF rfl ?_ | (refine JC.cond rfl (fun hc => ?_) (fun hc => ?_) <;> ((try simp only [decide_eq_true_eq, decide_eq_false_iff_not, beq_iff_eq, beq_eq_false_iff_ne, bne_iff_ne, bne_eq_false_iff_eq, Bool.not_eq_true', Bool.not_eq_false', Bool.not_eq_true, Bool.not_eq_false] at hc) <;> first | (first | (exact absurd rfl hc) | (exfalso; omega) | (exact absurd (hc.symm.trans (by assumption : _ = false)) (by decide)) | (exact absurd (hc.symm.trans (by assumption : _ = true)) (by decide))) | skip)) | refine loopK.x ?_)
          | (fail)
          | fail
        all_goals first | (exfalso; omega) | skip
        refine loopK.nn (m - 1) (by omega) (by repeat (first | refine Ag.upd rfl ?_ | exact Ag.hv | refine Ag.hv2 (fun i hi => by simp at hi ⊢; omega) ?_)) ⟨q + 1, s3, y3, ?_, rfl, rfl, by omega, ((ad.trans ad2).trans ad3).mono (by omega), fun α => ?_, rfl⟩
        · show Value.int .i64 _ = _; congr 1
        · have hx := f3 α; dsimp only at hx; rw [hx, disQ_s, fn_ext ad.ok.wf ad2.ext ad.lt, hfn, hfn2, show k = order.length by omega, termQ_n]; rfl
    ·
      repeat' first
        | (refine J.isJ ?_; first | (fail) | (first | (refine J.o 0 ?_; refine J.ev' hΓ ?_) | refine J.nil ?_ | (refine J.o 4 ?_; first | refine J.lT default hΓ ?_) | (refine J.o 3 ?_; first | refine J.iJ hΓ ?_ | refine J.ev' hΓ ?_) | (refine J.o 1 ?_; first | refine J.ad ?_) | (refine J.o 10 ?_; refine J.ev' hΓ ?_) | (refine J.o 11 ?_; refine J.ev' hΓ ?_)))
        | (first | refine JC.seq ?_ | refine JC.region ?_ | refine JC.block ?_ | refine JC.ret ?_ | refine JC.exit ?_ | refine JC.skip ?_ | refine thenK.nn ?_ | refine thenK.x ?_ | refine blockK.nn ?_ | refine blockK.hit rfl ?_ | refine JC.condT rfl ?_ | refine JC.condF rfl ?_ | (refine JC.cond rfl (fun hc => ?_) (fun hc => ?_) <;> ((try simp only [decide_eq_true_eq, decide_eq_false_iff_not, beq_iff_eq, beq_eq_false_iff_ne, bne_iff_ne, bne_eq_false_iff_eq, Bool.not_eq_true', Bool.not_eq_false', Bool.not_eq_true, Bool.not_eq_false] at hc) <;> first | (first | (exact absurd rfl hc) | (exfalso; omega) | (exact absurd (hc.symm.trans (by assumption : _ = false)) (by decide)) | (exact absurd (hc.symm.trans (by assumption : _ = true)) (by decide))) | skip)) | refine loopK.x ?_)
        | (fail)
        | fail
      all_goals first | (exfalso; omega) | skip
      refine ret2f rfl rfl rfl rfl rfl (fun w1 hw => ⟨_, _, rfl, hw, s1, y, rfl, rfl, ad.mono (by omega), fun α => ?_⟩)
      rw [hfn, show q = ps.length by omega, disQ_n]
  ·
    refine calls_in Try.func43 Try.ntmps43 rfl rfl (hw) ?_
    repeat' first
      | (refine J.isJ ?_; first | (fail) | (first | (refine J.o 0 ?_; refine J.ev' hΓ ?_) | refine J.nil ?_ | (refine J.o 4 ?_; first | refine J.lT default hΓ ?_) | (refine J.o 3 ?_; first | refine J.iJ hΓ ?_ | refine J.ev' hΓ ?_) | (refine J.o 1 ?_; first | refine J.ad ?_) | (refine J.o 10 ?_; refine J.ev' hΓ ?_) | (refine J.o 11 ?_; refine J.ev' hΓ ?_)))
      | (first | refine JC.seq ?_ | refine JC.region ?_ | refine JC.block ?_ | refine JC.ret ?_ | refine JC.exit ?_ | refine JC.skip ?_ | refine thenK.nn ?_ | refine thenK.x ?_ | refine blockK.nn ?_ | refine blockK.hit rfl ?_ | refine JC.condT rfl ?_ | refine JC.condF rfl ?_ | (refine JC.cond rfl (fun hc => ?_) (fun hc => ?_) <;> ((try simp only [decide_eq_true_eq, decide_eq_false_iff_not, beq_iff_eq, beq_eq_false_iff_ne, bne_iff_ne, bne_eq_false_iff_eq, Bool.not_eq_true', Bool.not_eq_false', Bool.not_eq_true, Bool.not_eq_false] at hc) <;> first | (first | (exact absurd rfl hc) | (exfalso; omega) | (exact absurd (hc.symm.trans (by assumption : _ = false)) (by decide)) | (exact absurd (hc.symm.trans (by assumption : _ = true)) (by decide))) | skip)) | refine loopK.x ?_)
      | (fail)
      | fail
    refine JC.loop (fun i => Nat.ble 10 i) (fun m g L' => ∃ q s1 y, g 12 = .int .i64 ((q : Nat) : Int) ∧ g 10 = .int .i64 ((y : Nat) : Int) ∧ g 11 = .bool true ∧ q + m = ps.length ∧ Adds order.length K s s1 (q * 4343) y ∧ (∀ α, fn order.length s1.ns y α = disQ true order.length ps q α) ∧ L' = sF K b s1 ++ (hO :: hP :: L)) ps.length ⟨0, s, 0, rfl, rfl, rfl, by omega, (Adds.refl so (by omega)).mono (by omega), fun α => fn_0 so.wf α, rfl⟩ ?_
    rintro m g L' ⟨q, s1, y, e12, e10, e11, hq, ad, hfn, rfl⟩
    refine JC.pin 12 e12 ?_
    refine JC.pin 10 e10 ?_
    refine JC.pin 11 e11 ?_
    have adl := ad.le
    have two1 := ad.ok.wf.two
    rcases Nat.lt_or_ge q ps.length with hlt | hge
    ·
      have hpe : ps.getD (ps.length - 1 - q) 0 < 65536 := hpb _ (mem_g0 ps (by omega))
      repeat' first
        | (refine J.isJ ?_; first | (first | (refine J.o 1 ?_; first | refine J.gsub (b := 1) ?_ | refine J.gsub ?_) | (refine J.o 4 ?_; refine J.lT (0 : Nat) hΓ ?_ (hs := hsp) (hr := hrp _))) | (first | (refine J.o 0 ?_; refine J.ev' hΓ ?_) | refine J.nil ?_ | (refine J.o 4 ?_; first | refine J.lT default hΓ ?_) | (refine J.o 3 ?_; first | refine J.iJ hΓ ?_ | refine J.ev' hΓ ?_) | (refine J.o 1 ?_; first | refine J.ad ?_) | (refine J.o 10 ?_; refine J.ev' hΓ ?_) | (refine J.o 11 ?_; refine J.ev' hΓ ?_)))
        | (first | refine JC.seq ?_ | refine JC.region ?_ | refine JC.block ?_ | refine JC.ret ?_ | refine JC.exit ?_ | refine JC.skip ?_ | refine thenK.nn ?_ | refine thenK.x ?_ | refine blockK.nn ?_ | refine blockK.hit rfl ?_ | refine JC.condT rfl ?_ | refine JC.condF rfl ?_ | (refine JC.cond rfl (fun hc => ?_) (fun hc => ?_) <;> ((try simp only [decide_eq_true_eq, decide_eq_false_iff_not, beq_iff_eq, beq_eq_false_iff_ne, bne_iff_ne, bne_eq_false_iff_eq, Bool.not_eq_true', Bool.not_eq_false', Bool.not_eq_true, Bool.not_eq_false] at hc) <;> first | (first | (exact absurd rfl hc) | (exfalso; omega) | (exact absurd (hc.symm.trans (by assumption : _ = false)) (by decide)) | (exact absurd (hc.symm.trans (by assumption : _ = true)) (by decide))) | skip)) | refine loopK.x ?_)
        | (fail)
        | fail
      all_goals first | (exfalso; omega) | skip
      refine JC.loop (fun i => i == 11 || i == 14 || i == 15 || i == 16 || i == 17 || i == 18 || i == 19 || i == 20 || Nat.ble 42 i) (fun m2 g2 L' => ∃ k s2 y2, g2 15 = .int .i64 ((k : Nat) : Int) ∧ g2 14 = .int .i64 ((y2 : Nat) : Int) ∧ g2 11 = .bool true ∧ k + m2 = order.length ∧ Adds order.length K s1 s2 (k * 511) y2 ∧ (∀ α, fn order.length s2.ns y2 α = termQ true order.length (ps.getD (ps.length - 1 - q) 0) k α) ∧ L' = sF K b s2 ++ (hO :: hP :: L)) order.length ⟨0, s1, 1, rfl, rfl, rfl, by omega, (Adds.refl ad.ok (by omega)).mono (by omega), fun α => fn_1 ad.ok.wf α, rfl⟩ ?_
      rintro m2 g2 L' ⟨k, s2, y2, e15, e14, e11b, hk, ad2, hfn2, rfl⟩
      refine JC.pin 15 e15 ?_
      refine JC.pin 14 e14 ?_
      refine JC.pin 11 e11b ?_
      have adl2 := ad2.le
      rcases Nat.lt_or_ge k order.length with hklt | hkge
      ·
        have hel := hok.1 _ (mem_g order (order.length - 1 - k) (by omega))
        have hsh : ps.getD (ps.length - 1 - q) 0 / 2 ^ (2 * (order.length - 1 - k)) < 2 ^ IntKind.u16.bits := by show _ < 65536; exact Nat.lt_of_le_of_lt (Nat.div_le_self _ _) hpe
        have hb1 : 1 < 2 ^ IntKind.u16.bits := by show 1 < 65536; decide
        have hb2 : 2 < 2 ^ IntKind.u16.bits := by show 2 < 65536; decide
        have hrk := rk_at hok.2 (k := order.length - 1 - k) (by omega)
        repeat' first
          | (refine J.isJ ?_; first | (first | (refine J.o 1 ?_; first | refine J.gsub (b := 1) ?_ | refine J.gsub ?_ | refine J.gmul (a := 2) ?_ (hw := wI64 (by omega)) | refine J.gshr (k := .u16) (j := 2 * (order.length - 1 - k)) ?_ (hj := (by show 2 * (order.length - 1 - k) ≤ 16; omega)) | refine J.gand (k := .u16) (b := 1) ?_ (ha := hsh) (hb := hb1) (hw := wAnd _ 1 (by decide)) | refine J.gand (k := .u16) (b := 2) ?_ (ha := hsh) (hb := hb2) (hw := wAnd _ 2 (by decide))) | (refine J.o 4 ?_; refine J.lT default hΓ ?_ (hs := hs) (hr := hr _)) | (refine J.fc 26 ?_; refine J.callx eVarS rfl rfl (fun w hw => Var_any ad2.ok po _ (by omega) (order.length - 1 - k) hrk (by omega) hw) ?_; rintro _ _ ⟨s3, y3, rfl, rfl, ad3, f3⟩; have adl3 := ad3.le) | (refine J.fc 93 ?_; refine J.callx eNot rfl rfl (fun w hw => Not_any ad3.ok y3 ad3.lt (by omega) hw) ?_; rintro _ _ ⟨s4, y4, rfl, rfl, ad4, f4⟩; have adl4 := ad4.le) | (refine J.fc 28 ?_; first | (refine J.callx eAnd rfl rfl (fun w hw => And_any ad4.ok y2 (ad4.old (ad3.old ad2.lt)) y4 ad4.lt (by omega) hw) ?_; rintro _ _ ⟨s5, y5, rfl, rfl, ad5, f5⟩) | (refine J.callx eAnd rfl rfl (fun w hw => And_any ad3.ok y2 (ad3.old ad2.lt) y3 ad3.lt (by omega) hw) ?_; rintro _ _ ⟨s5, y5, rfl, rfl, ad5, f5⟩))) | (first | (refine J.o 0 ?_; refine J.ev' hΓ ?_) | refine J.nil ?_ | (refine J.o 4 ?_; first | refine J.lT default hΓ ?_) | (refine J.o 3 ?_; first | refine J.iJ hΓ ?_ | refine J.ev' hΓ ?_) | (refine J.o 1 ?_; first | refine J.ad ?_) | (refine J.o 10 ?_; refine J.ev' hΓ ?_) | (refine J.o 11 ?_; refine J.ev' hΓ ?_)))
          | (first | refine JC.seq ?_ | refine JC.region ?_ | refine JC.block ?_ | refine JC.ret ?_ | refine JC.exit ?_ | refine JC.skip ?_ | refine thenK.nn ?_ | refine thenK.x ?_ | refine blockK.nn ?_ | refine blockK.hit rfl ?_ | refine JC.condT rfl ?_ | refine JC.condF rfl ?_ | (refine JC.cond rfl (fun hc => ?_) (fun hc => ?_) <;> ((try simp only [decide_eq_true_eq, decide_eq_false_iff_not, beq_iff_eq, beq_eq_false_iff_ne, bne_iff_ne, bne_eq_false_iff_eq, Bool.not_eq_true', Bool.not_eq_false', Bool.not_eq_true, Bool.not_eq_false] at hc) <;> first | (first | (exact absurd rfl hc) | (exfalso; omega) | (exact absurd (hc.symm.trans (by assumption : _ = false)) (by decide)) | (exact absurd (hc.symm.trans (by assumption : _ = true)) (by decide))) | skip)) | refine loopK.x ?_)
          | (fail)
          | fail
        all_goals first | (exfalso; omega) | skip
        · refine loopK.nn (m2 - 1) (by omega) (by repeat (first | refine Ag.upd rfl ?_ | exact Ag.hv | refine Ag.hv2 (fun i hi => by simp at hi ⊢; omega) ?_)) ⟨k + 1, s2, y2, ?_, rfl, rfl, by omega, ad2.mono (by omega), fun α => ?_, rfl⟩
          · show Value.int .i64 _ = _; congr 1
          · rw [termQ_s, hfn2]; show _ = (_ && litB (ps.getD (ps.length - 1 - q) 0) (order.length - 1 - k) α); rw [litB_no (nz hc), Bool.and_true]
        · rename_i hc1
          refine loopK.nn (m2 - 1) (by omega) (by repeat (first | refine Ag.upd rfl ?_ | exact Ag.hv | refine Ag.hv2 (fun i hi => by simp at hi ⊢; omega) ?_)) ⟨k + 1, s5, y5, ?_, rfl, rfl, by omega, (((ad2.trans ad3).trans ad4).trans ad5).mono (by omega), fun α => ?_, rfl⟩
          · show Value.int .i64 _ = _; congr 1
          · have h3 := f3 α
            have h4 := f4 α
            have h5 := f5 α
            dsimp only at h3 h4 h5
            rw [termQ_s, h5, h4, h3, fn_ext ad3.ok.wf ad4.ext (ad3.old ad2.lt), fn_ext ad2.ok.wf ad3.ext ad2.lt, hfn2]; show _ = (_ && litB (ps.getD (ps.length - 1 - q) 0) (order.length - 1 - k) α); rw [litB_neg (nnz hc1) (nnz hc)]
        · rename_i hc1
          refine loopK.nn (m2 - 1) (by omega) (by repeat (first | refine Ag.upd rfl ?_ | exact Ag.hv | refine Ag.hv2 (fun i hi => by simp at hi ⊢; omega) ?_)) ⟨k + 1, s5, y5, ?_, rfl, rfl, by omega, ((ad2.trans ad3).trans ad5).mono (by omega), fun α => ?_, rfl⟩
          · show Value.int .i64 _ = _; congr 1
          · have h3 := f3 α
            have h5 := f5 α
            dsimp only at h3 h5
            rw [termQ_s, h5, h3, fn_ext ad2.ok.wf ad3.ext ad2.lt, hfn2]; show _ = (_ && litB (ps.getD (ps.length - 1 - q) 0) (order.length - 1 - k) α); rw [litB_pos (nnz hc1) (nz hc)]
      ·
        repeat' first
          | (refine J.isJ ?_; first | ((refine J.fc 94 ?_; refine J.callx eOr rfl rfl (fun w hw => Or_any ad2.ok y (ad2.old ad.lt) y2 ad2.lt (by omega) hw) ?_; rintro _ _ ⟨s3, y3, rfl, rfl, ad3, f3⟩)) | (first | (refine J.o 0 ?_; refine J.ev' hΓ ?_) | refine J.nil ?_ | (refine J.o 4 ?_; first | refine J.lT default hΓ ?_) | (refine J.o 3 ?_; first | refine J.iJ hΓ ?_ | refine J.ev' hΓ ?_) | (refine J.o 1 ?_; first | refine J.ad ?_) | (refine J.o 10 ?_; refine J.ev' hΓ ?_) | (refine J.o 11 ?_; refine J.ev' hΓ ?_)))
          | (first | refine JC.seq ?_ | refine JC.region ?_ | refine JC.block ?_ | refine JC.ret ?_ | refine JC.exit ?_ | refine JC.skip ?_ | refine thenK.nn ?_ | refine thenK.x ?_ | refine blockK.nn ?_ | refine blockK.hit rfl ?_ | refine JC.condT rfl ?_ | refine JC.condF rfl ?_ | (refine JC.cond rfl (fun hc => ?_) (fun hc => ?_) <;> ((try simp only [decide_eq_true_eq, decide_eq_false_iff_not, beq_iff_eq, beq_eq_false_iff_ne, bne_iff_ne, bne_eq_false_iff_eq, Bool.not_eq_true', Bool.not_eq_false', Bool.not_eq_true, Bool.not_eq_false] at hc) <;> first | (first | (exact absurd rfl hc) | (exfalso; omega) | (exact absurd (hc.symm.trans (by assumption : _ = false)) (by decide)) | (exact absurd (hc.symm.trans (by assumption : _ = true)) (by decide))) | skip)) | refine loopK.x ?_)
          | (fail)
          | fail
        all_goals first | (exfalso; omega) | skip
        refine loopK.nn (m - 1) (by omega) (by repeat (first | refine Ag.upd rfl ?_ | exact Ag.hv | refine Ag.hv2 (fun i hi => by simp at hi ⊢; omega) ?_)) ⟨q + 1, s3, y3, ?_, rfl, rfl, by omega, ((ad.trans ad2).trans ad3).mono (by omega), fun α => ?_, rfl⟩
        · show Value.int .i64 _ = _; congr 1
        · have hx := f3 α; dsimp only at hx; rw [hx, disQ_s, fn_ext ad.ok.wf ad2.ext ad.lt, hfn, hfn2, show k = order.length by omega, termQ_n]; rfl
    ·
      repeat' first
        | (refine J.isJ ?_; first | (fail) | (first | (refine J.o 0 ?_; refine J.ev' hΓ ?_) | refine J.nil ?_ | (refine J.o 4 ?_; first | refine J.lT default hΓ ?_) | (refine J.o 3 ?_; first | refine J.iJ hΓ ?_ | refine J.ev' hΓ ?_) | (refine J.o 1 ?_; first | refine J.ad ?_) | (refine J.o 10 ?_; refine J.ev' hΓ ?_) | (refine J.o 11 ?_; refine J.ev' hΓ ?_)))
        | (first | refine JC.seq ?_ | refine JC.region ?_ | refine JC.block ?_ | refine JC.ret ?_ | refine JC.exit ?_ | refine JC.skip ?_ | refine thenK.nn ?_ | refine thenK.x ?_ | refine blockK.nn ?_ | refine blockK.hit rfl ?_ | refine JC.condT rfl ?_ | refine JC.condF rfl ?_ | (refine JC.cond rfl (fun hc => ?_) (fun hc => ?_) <;> ((try simp only [decide_eq_true_eq, decide_eq_false_iff_not, beq_iff_eq, beq_eq_false_iff_ne, bne_iff_ne, bne_eq_false_iff_eq, Bool.not_eq_true', Bool.not_eq_false', Bool.not_eq_true, Bool.not_eq_false] at hc) <;> first | (first | (exact absurd rfl hc) | (exfalso; omega) | (exact absurd (hc.symm.trans (by assumption : _ = false)) (by decide)) | (exact absurd (hc.symm.trans (by assumption : _ = true)) (by decide))) | skip)) | refine loopK.x ?_)
        | (fail)
        | fail
      all_goals first | (exfalso; omega) | skip
      refine ret2f rfl rfl rfl rfl rfl (fun w1 hw => ⟨_, _, rfl, hw, s1, y, rfl, rfl, ad.mono (by omega), fun α => ?_⟩)
      rw [hfn, show q = ps.length by omega, disQ_n]
end Go.Proofs.Ytbhgahjeocnfcaa
namespace Go.Proofs.Ytbhgahjeocnfcaa
open Go Go.Cx Go.RowKit
set_option linter.unusedVariables false
set_option linter.unusedSimpArgs false
set_option maxHeartbeats 4000000
attribute [local irreducible] J JC thenK blockK loopK drawK retK QW Qt pel List.set Calls
open Go.Maps Go.Lib
set_option maxRecDepth 8000
attribute [local irreducible] JE Br eK0 eK2 eK3 brK pc
theorem lvls_len (n : Nat) (ns : List N3) (i : Nat) : ∀ m, ((List.range m).flatMap (lvl n ns i)).length = 2 ^ m - 1
  | 0 => rfl
  | m + 1 => by
    have := Nat.one_le_two_pow (n := m)
    rw [List.range_succ, List.flatMap_append, List.length_append, lvls_len n ns i m, List.flatMap_cons, List.flatMap_nil, List.append_nil, lvl_len, Nat.pow_succ]; omega
theorem rch_len {n : Nat} {ns : List N3} (w : WF n ns) {i : Nat} (hi : i < ns.length) {A : List Nat} (hn : A.Nodup) (h : ∀ x ∈ A, Rch ns i x) : A.length ≤ 2 ^ n + 1 := by
  have hs : ∀ x ∈ A, x ∈ 0 :: 1 :: (List.range n).flatMap (lvl n ns i) := fun x hx => by
    rcases Nat.lt_or_ge x 2 with h2 | h2
    · have : x = 0 ∨ x = 1 := by omega
      rcases this with rfl | rfl <;> simp
    · have hr := h x hx
      have hp := w.pl x h2 (hr.lt w hi)
      refine List.mem_cons_of_mem _ (List.mem_cons_of_mem _ (List.mem_flatMap.2 ⟨(nd ns x).p, List.mem_range.2 hp, ?_⟩))
      exact ((lvl_iff w hi hp).2 ⟨hr, h2, rfl⟩).1
  have := nodup_sub _ _ hn hs
  have h1 := Nat.one_le_two_pow (n := n)
  rw [List.length_cons, List.length_cons, lvls_len] at this
  omega
end Go.Proofs.Ytbhgahjeocnfcaa
namespace Go.Proofs.Ytbhgahjeocnfcaa
open Go Go.Cx Go.RowKit
set_option linter.unusedVariables false
set_option linter.unusedSimpArgs false
set_option maxHeartbeats 4000000
attribute [local irreducible] J JC thenK blockK loopK drawK retK QW Qt pel List.set Calls
open Go.Maps Go.Lib
set_option maxRecDepth 8000
attribute [local irreducible] JE Br eK0 eK2 eK3 brK pc
structure TV where
  a : Option Addr
  c : Nat
  g : BF
instance : Inhabited TV := ⟨⟨none, 0, fun _ => false⟩⟩
end Go.Proofs.Ytbhgahjeocnfcaa
namespace Go.Proofs.Ytbhgahjeocnfcaa
open Go Go.Cx Go.RowKit
set_option linter.unusedVariables false
set_option linter.unusedSimpArgs false
set_option maxHeartbeats 4000000
attribute [local irreducible] J JC thenK blockK loopK drawK retK QW Qt pel List.set Calls
open Go.Maps Go.Lib
set_option maxRecDepth 8000
attribute [local irreducible] JE Br eK0 eK2 eK3 brK pc
structure BW where
  a : Option Addr
  c : Nat
  l : List Bool
instance : Inhabited BW := ⟨⟨none, 0, []⟩⟩
end Go.Proofs.Ytbhgahjeocnfcaa
namespace Go.Proofs.Ytbhgahjeocnfcaa
open Go Go.Cx Go.RowKit
set_option linter.unusedVariables false
set_option linter.unusedSimpArgs false
set_option maxHeartbeats 4000000
attribute [local irreducible] J JC thenK blockK loopK drawK retK QW Qt pel List.set Calls
open Go.Maps Go.Lib
set_option maxRecDepth 8000
attribute [local irreducible] JE Br eK0 eK2 eK3 brK pc
theorem stR_of2 {R : Heap} {L : List Heap} {K : KS} {b : Nat} {s : SS} {hO : Heap} (r : RdH R L (stR K b s hO)) {w0 w : World} (hw : H w0 R L w) : Holds (stR K b s hO) w := hw.rdH r
end Go.Proofs.Ytbhgahjeocnfcaa
namespace Go.Proofs.Ytbhgahjeocnfcaa
open Go Go.Cx Go.RowKit
set_option linter.unusedVariables false
set_option linter.unusedSimpArgs false
set_option maxHeartbeats 4000000
attribute [local irreducible] J JC thenK blockK loopK drawK retK QW Qt pel List.set Calls
open Go.Maps Go.Lib
set_option maxRecDepth 8000
attribute [local irreducible] JE Br eK0 eK2 eK3 brK pc
theorem stR_hd {R : Heap} {K : KS} {b : Nat} {s : SS} {hO hP : Heap} (M : List Heap) : RdH R (sF K b s ++ (hO :: hP :: M)) (stR K b s hO) := fun x hx => by
  rcases List.mem_cons.1 hx with rfl | hx
  · exact (Rd.hd : Rd R (sF K b s ++ (hO :: hP :: M)) b _)
  · rcases List.mem_append.1 hx with h | h
    · exact (RdH.hd.tl : RdH R (sF K b s ++ (hO :: hP :: M)) s.hN) x h
    · exact (RdH.hd.tl.tl.tl.tl : RdH R (sF K b s ++ (hO :: hP :: M)) hO) x h
end Go.Proofs.Ytbhgahjeocnfcaa
namespace Go.Proofs.Ytbhgahjeocnfcaa
open Go Go.Cx Go.RowKit
set_option linter.unusedVariables false
set_option linter.unusedSimpArgs false
set_option maxHeartbeats 4000000
attribute [local irreducible] J JC thenK blockK loopK drawK retK QW Qt pel List.set Calls
open Go.Maps Go.Lib
set_option maxRecDepth 8000
attribute [local irreducible] JE Br eK0 eK2 eK3 brK pc
theorem mget_cons {κ β : Type} [DecidableEq κ] (p : κ × β) (m : List (κ × β)) (v : κ) : mget (p :: m) v = if p.1 = v then some p.2 else mget m v := by
  unfold mget
  rw [List.find?_cons]
  by_cases h : p.1 = v
  · rw [if_pos h]; simp [h]
  · rw [if_neg h]; simp [h]
theorem mget_app1 {κ β : Type} [DecidableEq κ] (x : κ) (y : β) (v : κ) : ∀ m : List (κ × β), mget (m ++ [(x, y)]) v = match mget m v with | some z => some z | none => if x = v then some y else none
  | [] => by rw [List.nil_append, mget_cons]; rfl
  | p :: m => by
    rw [List.cons_append, mget_cons, mget_cons, mget_app1 x y v m]
    by_cases h : p.1 = v
    · rw [if_pos h, if_pos h]
    · rw [if_neg h, if_neg h]
theorem mget_nil2 {κ β : Type} [DecidableEq κ] {v : κ} : ∀ {m : List (κ × β)}, v ∉ m.map (·.1) → mget m v = none
  | [], _ => rfl
  | p :: m, h => by
    rw [List.map_cons, List.mem_cons, not_or] at h
    rw [mget_cons, if_neg (fun e => h.1 e.symm), mget_nil2 h.2]
theorem mget_mput {κ β : Type} [DecidableEq κ] (m : List (κ × β)) (x : κ) (y : β) (v : κ) : mget (mput m x y) v = if v = x then some y else mget m v := by
  unfold mput
  split
  · rename_i hc
    have hx : x ∈ m.map (·.1) := by simpa using hc
    clear hc
    induction m with
    | nil => cases hx
    | cons p m ih =>
      rw [List.map_cons, mget_cons, mget_cons]
      by_cases hp : p.1 = x
      · rw [if_pos hp]
        by_cases hv : v = x
        · rw [if_pos hv, if_pos hv.symm]
        · rw [if_neg (fun e => hv e.symm), if_neg hv, if_neg (fun e => hv (by rw [← e, hp]))]
          by_cases hm : x ∈ m.map (·.1)
          · rw [ih hm, if_neg hv]
          · have : ∀ l : List (κ × β), x ∉ l.map (·.1) → (l.map fun p => if p.1 = x then (x, y) else p) = l := by
              intro l
              induction l with
              | nil => intro _; rfl
              | cons q l ih2 =>
                intro h
                rw [List.map_cons, List.mem_cons, not_or] at h
                rw [List.map_cons, if_neg (fun e => h.1 e.symm), ih2 h.2]
            rw [this m hm]
      · rw [if_neg hp]
        have hm : x ∈ m.map (·.1) := by
          rw [List.map_cons, List.mem_cons] at hx
          rcases hx with h | h
          · exact absurd h.symm hp
          · exact h
        rw [ih hm]
        by_cases hv : v = x
        · rw [if_pos hv, if_neg (fun e => hp (by rw [e, hv])), if_pos hv]
        · rw [if_neg hv, if_neg hv]
  · rename_i hc
    have hx : x ∉ m.map (·.1) := by simpa using hc
    rw [mget_app1]
    by_cases hv : v = x
    · rw [if_pos hv, hv, mget_nil2 hx, if_pos rfl]
    · rw [if_neg hv]
      cases mget m v with
      | some z => rfl
      | none => rw [if_neg (fun e => hv e.symm)]
end Go.Proofs.Ytbhgahjeocnfcaa
namespace Go.Proofs.Ytbhgahjeocnfcaa
open Go Go.Cx Go.RowKit
set_option linter.unusedVariables false
set_option linter.unusedSimpArgs false
set_option maxHeartbeats 4000000
attribute [local irreducible] J JC thenK blockK loopK drawK retK QW Qt pel List.set Calls
open Go.Maps Go.Lib
set_option maxRecDepth 8000
attribute [local irreducible] JE Br eK0 eK2 eK3 brK pc
section
variable {P : Program} {n : Nat} {w0 : World} {R : Heap} {K0 : Exit → Fr → List Heap → Prop} {f : Fr} {L : List Heap} {l0 : List Oper} {rest : List (Nat × Oper)} {q : Nat}
variable {Γ : List (Nat × TI)} {d : Nat} {ty : TypeId} {pos : String} {aft : Array Edge} {g : Option (Nat × Bool)}
variable {κ : Type} [DecidableEq κ] {kt e : TypeId} {ek : κ → Value}
theorem J.lkN {t : TypeId} {m x : Operand} {mm : List (κ × Nat)} {b : Nat} {h : Heap} {a : κ} {s1 s2 b1 b2 : Nat} {z1 : Option Value} {de : TypeDesc} (c : Nat) (K : Keyed P kt) (inj : ∀ x y, ek x = ek y → x = y) (mt : MapT P kt ek evI mm b h) (hr : RdH R L h) (hkey : ∃ l, keyOf P kt (ek a) = some l) (hΓ : Fits P Γ) (hget : (mget mm a).getD 0 = c)
    (k : J P n w0 R l0 K0 rest (upd f d (.int .i64 (c : Int))) L)
    (hg : wantB n f l0 ⟨some d, .lookup t m x false, ty, pos, aft, g⟩ = true := by exact rfl) (hm : Cx.ev n f m = .map (some b) := by exact rfl) (hx : Cx.ev n f x = ek a := by exact rfl) (ht : Go.Cx.look Γ t = some ⟨.map kt e, s1, z1, b1⟩ := by exact rfl) (he : Go.Cx.look Γ e = some ⟨de, s2, some (.int .i64 0), b2⟩ := by exact rfl) :
    J P n w0 R l0 K0 ((q + 1, ⟨some d, .lookup t m x false, ty, pos, aft, g⟩) :: rest) f L := by
  refine J.lk K inj mt hr hkey hΓ ?_ hg hm hx ht he
  subst hget
  cases hmm : mget mm a with
  | some y => rw [hmm] at k; exact k
  | none => rw [hmm] at k; exact k
end
end Go.Proofs.Ytbhgahjeocnfcaa
namespace Go.Proofs.Ytbhgahjeocnfcaa
open Go Go.Cx Go.RowKit
set_option linter.unusedVariables false
set_option linter.unusedSimpArgs false
set_option maxHeartbeats 4000000
attribute [local irreducible] J JC thenK blockK loopK drawK retK QW Qt pel List.set Calls
open Go.Maps Go.Lib
set_option maxRecDepth 8000
attribute [local irreducible] JE Br eK0 eK2 eK3 brK pc
theorem eNet1 : Entr Try.prog 95 := Entr.of Try.func95 rfl rfl
theorem eNet2 : Entr Try.prog 96 := Entr.of Try.func96 rfl rfl
theorem eNet3 : Entr Try.prog 97 := Entr.of Try.func97 rfl rfl
abbrev NSt := List PN × List (Int × Nat)
def litN (s : NSt) (l : Int) : Nat × NSt := match mget s.2 l with
  | some i => (i, s)
  | none => (s.1.length, (s.1 ++ [(2, l, [])], mput s.2 l s.1.length))
def sideN (at_ : List (Int × Nat)) (s : NSt) (l : Int) (b : Nat) : Nat × NSt := if b = 1 then litN s l else ((litN s l).2.1.length, ((litN s l).2.1 ++ [(3, 0, [((litN s l).1 : Int), (((mget at_ (b : Int)).getD 0 : Nat) : Int)])], (litN s l).2.2))
structure NtS (s : NSt) (a : Option Addr) (c : Nat) (vs : List NV) (ml : Nat) (hX hI hl : Heap) : Prop where
  eq : vs.map pnV = s.1
  ow : OwT encNV 3 144 a c vs hX
  ins : ∀ v ∈ vs, SlT encI 1 v.a v.l hI
  mp : MapT Try.prog 3 ekI evI s.2 ml hl
def NtQ (b7 : Nat) (N : Int) (ml : Nat) (r : Nat × NSt) (L : List Heap) (v : Value) (L' : List Heap) : Prop := ∃ a c vs hX hI hl, v = .int .i64 ((r.1 : Nat) : Int) ∧ L' = [(b7, netOb N a vs.length c)] :: hX :: hI :: hl :: L ∧ NtS r.2 a c vs ml hX hI hl
def fnA (b7 : Nat) : Obj := .cells ⟨[.func (.func 95) ⟨[]⟩ ⟨[.pointer (some ⟨b7, 0, none⟩)]⟩]⟩ 145 (0, 0)
def fnL (b11 b10 : Nat) : Obj := .cells ⟨[.func (.func 96) ⟨[]⟩ ⟨[.pointer (some ⟨b11, 0, none⟩), .pointer (some ⟨b10, 0, none⟩)]⟩]⟩ 105 (0, 0)
def mapN (m : Nat) : Obj := .cells ⟨[.map (some m)]⟩ 40 (0, 0)
theorem _root_.Go.Cx.H.mgN {w0 w : World} {R a b c d : Heap} {L : List Heap} (h : H w0 R (a :: b :: c :: d :: L) w) : H w0 R (a :: b :: (c ++ d) :: L) w := by
  have e : (a :: b :: (c ++ d) :: L).flatten = (a :: b :: c :: d :: L).flatten := by simp
  exact ⟨h.below, h.old, by rw [e]; exact h.own, by rw [e]; exact h.new, by rw [e]; exact h.nodup⟩
theorem addN_any {w0 w : World} {R hX : Heap} {L : List Heap} {b7 : Nat} {N : Int} {a : Option Addr} {c : Nat} {vs : List NV} (v : NV) (ow : OwT encNV 3 144 a c vs hX) (hlen : vs.length ≤ 100000) (hw : H w0 R ([(b7, netOb N a vs.length c)] :: hX :: L) w) :
    Calls Try.prog 95 #[.agg ⟨encNV v⟩, .pointer (some ⟨b7, 0, none⟩)] w fun e' w' => ∃ v' L', e' = .returned v' ∧ H w0 R L' w' ∧ (v' = .int .i64 (vs.length : Int) ∧ ∃ a' c' hX', OwT encNV 3 144 a' c' (vs ++ [v]) hX' ∧ L' = [(b7, netOb N a' (vs.length + 1) c')] :: hX' :: L) := by
  unfold netOb at hw ⊢
  have hl1 : (vs ++ [v]).length = vs.length + 1 := by simp
  refine calls_in Try.func95 Try.ntmps95 rfl rfl (hw) ?_
  repeat' first
    | (refine J.isJ ?_; first | (first | (refine J.o 4 ?_; first | refine J.lR hΓ ?_ (hr := Rd.hd.tl.tl) | refine J.lR hΓ ?_ (hr := Rd.hd.tl)) | (refine J.o 9 ?_; first | (first | (refine J.ap1 (enc := encNV) [v] hΓ (fun a2 c2 h2 o2 => ?_)) | (refine J.perm (br1.cons _) ?_; refine J.ap1 (enc := encNV) [v] hΓ (fun a2 c2 h2 o2 => ?_)) | (refine J.perm (br2.cons _) ?_; refine J.ap1 (enc := encNV) [v] hΓ (fun a2 c2 h2 o2 => ?_)) | (refine J.perm (br3.cons _) ?_; refine J.ap1 (enc := encNV) [v] hΓ (fun a2 c2 h2 o2 => ?_)) | (refine J.perm (br4.cons _) ?_; refine J.ap1 (enc := encNV) [v] hΓ (fun a2 c2 h2 o2 => ?_)) | (refine J.perm (br5.cons _) ?_; refine J.ap1 (enc := encNV) [v] hΓ (fun a2 c2 h2 o2 => ?_))) | (refine J.perm br1 ?_; first | (refine J.ap1 (enc := encNV) [v] hΓ (fun a2 c2 h2 o2 => ?_)) | (refine J.perm (br1.cons _) ?_; refine J.ap1 (enc := encNV) [v] hΓ (fun a2 c2 h2 o2 => ?_)) | (refine J.perm (br2.cons _) ?_; refine J.ap1 (enc := encNV) [v] hΓ (fun a2 c2 h2 o2 => ?_)) | (refine J.perm (br3.cons _) ?_; refine J.ap1 (enc := encNV) [v] hΓ (fun a2 c2 h2 o2 => ?_)) | (refine J.perm (br4.cons _) ?_; refine J.ap1 (enc := encNV) [v] hΓ (fun a2 c2 h2 o2 => ?_)) | (refine J.perm (br5.cons _) ?_; refine J.ap1 (enc := encNV) [v] hΓ (fun a2 c2 h2 o2 => ?_))) | (refine J.perm br2 ?_; first | (refine J.ap1 (enc := encNV) [v] hΓ (fun a2 c2 h2 o2 => ?_)) | (refine J.perm (br1.cons _) ?_; refine J.ap1 (enc := encNV) [v] hΓ (fun a2 c2 h2 o2 => ?_)) | (refine J.perm (br2.cons _) ?_; refine J.ap1 (enc := encNV) [v] hΓ (fun a2 c2 h2 o2 => ?_)) | (refine J.perm (br3.cons _) ?_; refine J.ap1 (enc := encNV) [v] hΓ (fun a2 c2 h2 o2 => ?_)) | (refine J.perm (br4.cons _) ?_; refine J.ap1 (enc := encNV) [v] hΓ (fun a2 c2 h2 o2 => ?_)) | (refine J.perm (br5.cons _) ?_; refine J.ap1 (enc := encNV) [v] hΓ (fun a2 c2 h2 o2 => ?_))))) | (first | (refine J.o 0 ?_; refine J.ev' hΓ ?_) | refine J.nil ?_ | (refine J.o 4 ?_; first | refine J.lR hΓ ?_) | (refine J.o 3 ?_; first | refine J.ev' hΓ ?_) | (refine J.o 1 ?_; first | refine J.sb ?_) | (refine J.o 5 ?_; first | refine J.t2 hΓ ?_) | (refine J.o 6 ?_; refine J.bx (fun _ => ?_)) | (refine J.o 9 ?_; refine J.bl hΓ (fun _ => ?_)) | (refine J.o 10 ?_; refine J.ev' hΓ ?_) | (refine J.o 11 ?_; refine J.ev' hΓ ?_)))
    | (first | refine JC.seq ?_ | refine JC.region ?_ | refine JC.ret ?_ | refine thenK.nn ?_)
    | (fail)
    | fail
  all_goals first | (exfalso; omega) | skip
  refine ret1f rfl rfl rfl (fun w1 hw => ⟨_, _, rfl, H.sel (l := [_, _, _]) (M := L) hw [2, 0], ?_, a2, c2, h2, o2, ?_⟩)
  · show Value.int .i64 _ = _; congr 1; omega
  · rw [hl1]; rfl
theorem NtS.new {s : NSt} {a : Option Addr} {c : Nat} {vs : List NV} {ml : Nat} {hX hI hl : Heap} (st : NtS s a c vs ml hX hI hl) (v : NV) {hI' : Heap} (hsub : ∀ x ∈ hI, x ∈ hI') (hv : SlT encI 1 v.a v.l hI') {a' : Option Addr} {c' : Nat} {hX' hl' : Heap} {m' : List (Int × Nat)} (ow : OwT encNV 3 144 a' c' (vs ++ [v]) hX') (mp : MapT Try.prog 3 ekI evI m' ml hl') : NtS (s.1 ++ [pnV v], m') a' c' (vs ++ [v]) ml hX' hI' hl' :=
  ⟨by rw [List.map_append, st.eq]; rfl, ow, fun u hu => by
    rcases List.mem_append.1 hu with h | h
    · exact (st.ins u h).sub hsub
    · rw [List.mem_singleton.1 h]; exact hv, mp⟩
theorem litC_any {s : NSt} {a : Option Addr} {c : Nat} {vs : List NV} {ml : Nat} {hX hI hl : Heap} (st : NtS s a c vs ml hX hI hl) (l : Int) (hlr : -1000 ≤ l ∧ l ≤ 1000) (hlen : vs.length ≤ 50000) {w0 w : World} {R : Heap} {L : List Heap} {b7 b10 b11 : Nat} {N : Int} (r11 : Rd R L b11 (mapN ml)) (r10 : Rd R L b10 (fnA b7)) (hw : H w0 R ([(b7, netOb N a vs.length c)] :: hX :: hI :: hl :: L) w) :
    Calls Try.prog 96 #[.int .i64 l, .pointer (some ⟨b11, 0, none⟩), .pointer (some ⟨b10, 0, none⟩)] w fun e' w' => ∃ v' L', e' = .returned v' ∧ H w0 R L' w' ∧ NtQ b7 N ml (litN s l) L v' L' := by
  have hkey := keyI l (by omega)
  have hsl : s.1.length = vs.length := by rw [← st.eq, List.length_map]
  unfold mapN at r11
  unfold fnA at r10
  cases hg : mget s.2 l with
  | some i =>
    have hL : litN s l = (i, s) := by unfold litN; rw [hg]
    rw [hL]
    refine calls_in Try.func96 Try.ntmps96 rfl rfl (hw) ?_
    repeat' first
      | (refine J.isJ ?_; first | (first | (refine J.o 4 ?_; refine J.lR hΓ ?_ (hr := r11.tl.tl.tl.tl)) | (refine J.o 9 ?_; refine J.lk (a := l) keyedI ekI_inj st.mp RdH.hd.tl.tl.tl hkey hΓ ?_; rw [hg])) | (first | (refine J.o 0 ?_; refine J.ev' hΓ ?_) | refine J.nil ?_ | (refine J.o 4 ?_; first | refine J.lR hΓ ?_) | (refine J.o 3 ?_; first | refine J.ev' hΓ ?_) | (refine J.o 8 ?_; refine J.bd hΓ ?_) | (refine J.o 10 ?_; refine J.ev' hΓ ?_) | (refine J.o 11 ?_; refine J.ev' hΓ ?_)))
      | (first | refine JC.seq ?_ | refine JC.region ?_ | refine JC.ret ?_ | refine JC.skip ?_ | refine thenK.nn ?_ | refine JC.condT rfl ?_ | refine JC.condF rfl ?_)
      | (fail)
      | fail
    all_goals first | (exfalso; omega) | skip
    exact ret1f rfl rfl rfl (fun w1 hw => ⟨_, _, rfl, hw, a, c, vs, hX, hI, hl, rfl, rfl, st⟩)
  | none =>
    have hL : litN s l = (s.1.length, (s.1 ++ [(2, l, [])], mput s.2 l s.1.length)) := by unfold litN; rw [hg]
    have hg2 : mget (mput s.2 l s.1.length) l = some s.1.length := by rw [mget_mput, if_pos rfl]
    rw [hL]
    rw [hsl] at hg2 ⊢
    refine calls_in Try.func96 Try.ntmps96 rfl rfl (hw) ?_
    repeat' first
      | (refine J.isJ ?_; first | (first | (refine J.o 4 ?_; refine J.lR hΓ ?_ (hr := r11.tl.tl.tl.tl)) | (refine J.o 9 ?_; refine J.lk (a := l) keyedI ekI_inj st.mp RdH.hd.tl.tl.tl hkey hΓ ?_; rw [hg])) | (first | (refine J.o 0 ?_; refine J.ev' hΓ ?_) | refine J.nil ?_ | (refine J.o 4 ?_; first | refine J.lR hΓ ?_) | (refine J.o 3 ?_; first | refine J.ev' hΓ ?_) | (refine J.o 8 ?_; refine J.bd hΓ ?_) | (refine J.o 10 ?_; refine J.ev' hΓ ?_) | (refine J.o 11 ?_; refine J.ev' hΓ ?_)))
      | (first | refine JC.seq ?_ | refine JC.region ?_ | refine JC.ret ?_ | refine JC.skip ?_ | refine thenK.nn ?_ | refine JC.condT rfl ?_ | refine JC.condF rfl ?_)
      | (fail)
      | fail
    refine JC.drawE L [5, 6] [5] [(4,0),(0,1),(4,2),(0,3),(0,4),(3,5),(2,6)] 0 _ (by kernel_rfl) (by kernel_rfl) rfl ?_
    repeat' first
      | (refine J.isJ ?_; first | (first | (refine J.o 4 ?_; first | refine J.lR hΓ ?_ (hr := r11) | refine J.lR hΓ ?_ (hr := r10)) | (refine J.o 9 ?_; first | (refine J.callvx eNet1 rfl rfl rfl (fun w hw => addN_any ⟨2, l, none, 0, []⟩ st.ow (by omega) hw) ?_; rintro _ _ ⟨rfl, a2, c2, hX2, o2, rfl⟩) | (refine J.perm br3 ?_; refine J.mup (a := l) (ev := evI) vs.length keyedI ekI_inj st.mp hkey hΓ (fun h4 mt4 => ?_)))) | (first | (refine J.o 0 ?_; refine J.ev' hΓ ?_) | refine J.nil ?_ | (refine J.o 4 ?_; first | refine J.lR hΓ ?_) | (refine J.o 3 ?_; first | refine J.ev' hΓ ?_) | (refine J.o 8 ?_; refine J.bd hΓ ?_) | (refine J.o 10 ?_; refine J.ev' hΓ ?_) | (refine J.o 11 ?_; refine J.ev' hΓ ?_)))
      | (first | (refine JE.is ?_; first | refine JE.s0 ?_ | refine JE.s2 ?_ | refine JE.s3 ?_ | refine JE.nil ?_ | refine JE.s4 rfl (fun w hw => (by first | exact hw.drop.drop.drop.drop)) ?_) | refine eK0.nn ?_ | refine eK2.nn ?_ | (refine eK3.is ?_; refine eK3.nn (fun w hw => (by first | exact hw.drop.drop.drop.drop)) ?_) | refine brK.nn ?_)
      | (first | refine JC.seq ?_ | refine JC.region ?_ | refine JC.ret ?_ | refine JC.skip ?_ | refine thenK.nn ?_ | refine JC.condT rfl ?_ | refine JC.condF rfl ?_)
      | (fail)
      | fail
    refine Br.done (by kernel_rfl) ?_
    repeat' first
      | (refine J.isJ ?_; first | (first | (refine J.o 4 ?_; refine J.lR hΓ ?_ (hr := r11.tl.tl.tl.tl)) | (refine J.o 9 ?_; refine J.lk (a := l) keyedI ekI_inj mt4 RdH.hd hkey hΓ ?_; rw [hg2])) | (first | (refine J.o 0 ?_; refine J.ev' hΓ ?_) | refine J.nil ?_ | (refine J.o 4 ?_; first | refine J.lR hΓ ?_) | (refine J.o 3 ?_; first | refine J.ev' hΓ ?_) | (refine J.o 8 ?_; refine J.bd hΓ ?_) | (refine J.o 10 ?_; refine J.ev' hΓ ?_) | (refine J.o 11 ?_; refine J.ev' hΓ ?_)))
      | (first | refine JC.seq ?_ | refine JC.region ?_ | refine JC.ret ?_ | refine JC.skip ?_ | refine thenK.nn ?_ | refine JC.condT rfl ?_ | refine JC.condF rfl ?_)
      | (fail)
      | fail
    all_goals first | (exfalso; omega) | skip
    have hl1 : (vs ++ [(⟨2, l, none, 0, []⟩ : NV)]).length = vs.length + 1 := by simp
    exact ret1f rfl rfl rfl (fun w1 hw => ⟨_, _, rfl, H.sel (l := [_, _, _, _]) (M := L) hw [1, 2, 3, 0], a2, c2, vs ++ [(⟨2, l, none, 0, []⟩ : NV)], hX2, hI, h4, rfl, by rw [hl1]; rfl, st.new ⟨2, l, none, 0, []⟩ (fun x hx => hx) ⟨fun _ => rfl, fun i hi => absurd hi (Nat.not_lt_zero _)⟩ o2 mt4⟩)
theorem litN_len (s : NSt) (l : Int) : (litN s l).2.1.length ≤ s.1.length + 1 := by
  unfold litN
  split
  · show s.1.length ≤ _; omega
  · simp
set_option maxHeartbeats 8000000 in
theorem sideC_any {s : NSt} {a : Option Addr} {c : Nat} {vs : List NV} {ml : Nat} {hX hI hl : Heap} (st : NtS s a c vs ml hX hI hl) (at_ : List (Int × Nat)) {ma : Nat} {ha : Heap} (mt : MapT Try.prog 3 ekI evI at_ ma ha) (l : Int) (hlr : -1000 ≤ l ∧ l ≤ 1000) (b : Nat) (hb : b ≤ 10000000) (hlen : vs.length ≤ 50000) {w0 w : World} {R : Heap} {L : List Heap} {b7 b10 b11 b12 b13 : Nat} {N : Int} (ra : RdH R L ha) (r11 : Rd R L b11 (mapN ml)) (r10 : Rd R L b10 (fnA b7)) (r12 : Rd R L b12 (mapN ma)) (r13 : Rd R L b13 (fnL b11 b10)) (hw : H w0 R ([(b7, netOb N a vs.length c)] :: hX :: hI :: hl :: L) w) :
    Calls Try.prog 97 #[.int .i64 l, .int .i64 (b : Int), .pointer (some ⟨b13, 0, none⟩), .pointer (some ⟨b10, 0, none⟩), .pointer (some ⟨b12, 0, none⟩)] w fun e' w' => ∃ v' L', e' = .returned v' ∧ H w0 R L' w' ∧ NtQ b7 N ml (sideN at_ s l b) L v' L' := by
  have hkey := keyI (b : Int) (by omega)
  have hsl : s.1.length = vs.length := by rw [← st.eq, List.length_map]
  have r10' := r10
  unfold mapN at r12
  unfold fnL at r13
  unfold fnA at r10'
  have hll := litN_len s l
  have hl5 : ∀ vs1 : List NV, vs1.map pnV = (litN s l).2.1 → vs1.length ≤ 50001 := fun vs1 h => by
    have : vs1.length = (litN s l).2.1.length := by rw [← h, List.length_map]
    omega
  have hl6 : ∀ vs1 : List NV, vs1.map pnV = (litN s l).2.1 → vs1.length = (litN s l).2.1.length := fun vs1 h => by rw [← h, List.length_map]
  by_cases hb1 : b = 1
  · subst hb1
    have hS : sideN at_ s l 1 = litN s l := if_pos rfl
    rw [hS]
    refine calls_in Try.func97 Try.ntmps97 rfl rfl (hw) ?_
    repeat' first
      | (refine J.isJ ?_; first | (first | (refine J.o 4 ?_; refine J.lR hΓ ?_ (hr := r13.tl.tl.tl.tl)) | (refine J.o 9 ?_; refine J.callvx eNet2 rfl rfl rfl (fun w hw => litC_any st l hlr hlen r11 r10 hw) ?_; rintro _ _ ⟨a1, c1, vs1, hX1, hI1, hl1, rfl, rfl, st1⟩)) | (first | (refine J.o 0 ?_; refine J.ev' hΓ ?_) | refine J.nil ?_ | (refine J.o 4 ?_; first | refine J.lR hΓ ?_) | (refine J.o 3 ?_; first | refine J.ev' hΓ ?_) | (refine J.o 8 ?_; refine J.bd hΓ ?_) | (refine J.o 9 ?_; refine J.bl hΓ (fun _ => ?_)) | (refine J.o 10 ?_; refine J.ev' hΓ ?_) | (refine J.o 11 ?_; refine J.ev' hΓ ?_)))
      | (first | refine JC.seq ?_ | refine JC.region ?_ | refine JC.ret ?_ | refine JC.skip ?_ | refine thenK.nn ?_ | refine thenK.r ?_ | refine JC.condT rfl ?_ | (refine JC.cond rfl (fun hc => ?_) (fun hc => ?_) <;> ((try simp only [decide_eq_true_eq, decide_eq_false_iff_not, beq_iff_eq, beq_eq_false_iff_ne, bne_iff_ne, bne_eq_false_iff_eq, Bool.not_eq_true', Bool.not_eq_false', Bool.not_eq_true, Bool.not_eq_false] at hc) <;> first | (first | (exact absurd rfl hc) | (exfalso; omega) | (exact absurd (hc.symm.trans (by assumption : _ = false)) (by decide)) | (exact absurd (hc.symm.trans (by assumption : _ = true)) (by decide))) | skip)))
      | (fail)
      | fail
    all_goals first | (exfalso; omega) | skip
    exact ret1f rfl rfl rfl (fun w1 hw => ⟨_, _, rfl, hw, a1, c1, vs1, hX1, hI1, hl1, rfl, rfl, st1⟩)
  · have hS : sideN at_ s l b = ((litN s l).2.1.length, ((litN s l).2.1 ++ [(3, 0, [((litN s l).1 : Int), (((mget at_ (b : Int)).getD 0 : Nat) : Int)])], (litN s l).2.2)) := if_neg hb1
    rw [hS]
    refine calls_in Try.func97 Try.ntmps97 rfl rfl (hw) ?_
    repeat' first
      | (refine J.isJ ?_; first | (fail) | (first | (refine J.o 0 ?_; refine J.ev' hΓ ?_) | refine J.nil ?_ | (refine J.o 4 ?_; first | refine J.lR hΓ ?_) | (refine J.o 3 ?_; first | refine J.ev' hΓ ?_) | (refine J.o 8 ?_; refine J.bd hΓ ?_) | (refine J.o 9 ?_; refine J.bl hΓ (fun _ => ?_)) | (refine J.o 10 ?_; refine J.ev' hΓ ?_) | (refine J.o 11 ?_; refine J.ev' hΓ ?_)))
      | (first | refine JC.seq ?_ | refine JC.region ?_ | refine JC.ret ?_ | refine JC.skip ?_ | refine thenK.nn ?_ | refine thenK.r ?_ | refine JC.condT rfl ?_ | (refine JC.cond rfl (fun hc => ?_) (fun hc => ?_) <;> ((try simp only [decide_eq_true_eq, decide_eq_false_iff_not, beq_iff_eq, beq_eq_false_iff_ne, bne_iff_ne, bne_eq_false_iff_eq, Bool.not_eq_true', Bool.not_eq_false', Bool.not_eq_true, Bool.not_eq_false] at hc) <;> first | (first | (exact absurd rfl hc) | (exfalso; omega) | (exact absurd (hc.symm.trans (by assumption : _ = false)) (by decide)) | (exact absurd (hc.symm.trans (by assumption : _ = true)) (by decide))) | skip)))
      | (fail)
      | fail
    all_goals first | (exfalso; omega) | skip
    refine JC.drawE L [3, 6, 7, 9] [3, 6, 7] [(4,0),(4,1),(0,2),(4,4),(0,5)] 6 _ (by kernel_rfl) (by kernel_rfl) rfl ?_
    repeat' first
      | (refine J.isJ ?_; first | ((refine J.o 4 ?_; first | refine J.lR hΓ ?_ (hr := r13) | refine J.lR hΓ ?_ (hr := r10') | refine J.lR hΓ ?_ (hr := r12))) | (first | (refine J.o 0 ?_; refine J.ev' hΓ ?_) | refine J.nil ?_ | (refine J.o 4 ?_; first | refine J.lR hΓ ?_) | (refine J.o 3 ?_; first | refine J.ev' hΓ ?_) | (refine J.o 8 ?_; refine J.bd hΓ ?_) | (refine J.o 9 ?_; refine J.bl hΓ (fun _ => ?_)) | (refine J.o 10 ?_; refine J.ev' hΓ ?_) | (refine J.o 11 ?_; refine J.ev' hΓ ?_)))
      | (first | (refine JE.is ?_; first | refine JE.s0 ?_ | refine JE.s2 ?_ | refine JE.s3 ?_ | refine JE.nil ?_ | refine JE.s4 rfl (fun w hw => (by first | exact hw.drop.drop.drop.drop)) ?_) | refine eK0.nn ?_ | refine eK2.nn ?_ | (refine eK3.is ?_; refine eK3.nn (fun w hw => (by first | exact hw.drop.drop.drop.drop)) ?_) | refine brK.nn ?_)
      | (first | refine JC.seq ?_ | refine JC.region ?_ | refine JC.ret ?_ | refine JC.skip ?_ | refine thenK.nn ?_ | refine thenK.r ?_ | refine JC.condT rfl ?_ | (refine JC.cond rfl (fun hc => ?_) (fun hc => ?_) <;> ((try simp only [decide_eq_true_eq, decide_eq_false_iff_not, beq_iff_eq, beq_eq_false_iff_ne, bne_iff_ne, bne_eq_false_iff_eq, Bool.not_eq_true', Bool.not_eq_false', Bool.not_eq_true, Bool.not_eq_false] at hc) <;> first | (first | (exact absurd rfl hc) | (exfalso; omega) | (exact absurd (hc.symm.trans (by assumption : _ = false)) (by decide)) | (exact absurd (hc.symm.trans (by assumption : _ = true)) (by decide))) | skip)))
      | (fail)
      | fail
    refine Br.two (c1 := 1) (c2 := 1) (m1 := 0) (m2 := 0) 3 6 [(3, 6), (3, 7), (0, 8), (2, 9), (0, 10)] [(3, 3), (3, 7), (0, 8), (2, 9), (0, 10)] (by decide +kernel) rfl rfl (by decide +kernel) rfl (by decide +kernel) rfl ?_ ?_
    ·
      repeat' first
        | (refine J.isJ ?_; first | (first | (refine J.o 4 ?_; first | refine J.lR hΓ ?_ (hr := r13) | refine J.lR hΓ ?_ (hr := r10') | refine J.lR hΓ ?_ (hr := r12)) | (refine J.o 9 ?_; first | (refine J.callvx eNet2 rfl rfl rfl (fun w hw => litC_any st l hlr hlen r11 r10 hw) ?_; rintro _ _ ⟨a1, c1, vs1, hX1, hI1, hl1, rfl, rfl, st1⟩) | refine J.lkN (a := (b : Int)) ((mget at_ (b : Int)).getD 0) keyedI ekI_inj mt ra.tl.tl.tl.tl hkey hΓ rfl ?_ | refine J.bl hΓ (fun b20 => ?_) | (refine J.callvx eNet1 rfl rfl rfl (fun w hw => addN_any ⟨3, 0, some ⟨b20, 0, none⟩, 2, [((litN s l).1 : Int), (((mget at_ (b : Int)).getD 0 : Nat) : Int)]⟩ st1.ow (by have := hl5 vs1 st1.eq; omega) (hw.perm ((List.Perm.swap _ _ _).trans ((List.Perm.swap _ _ _).cons _)))) ?_; rintro _ _ ⟨rfl, a2, c2, hX2, o2, rfl⟩))) | (first | (refine J.o 0 ?_; refine J.ev' hΓ ?_) | refine J.nil ?_ | (refine J.o 4 ?_; first | refine J.lR hΓ ?_) | (refine J.o 3 ?_; first | refine J.ev' hΓ ?_) | (refine J.o 8 ?_; refine J.bd hΓ ?_) | (refine J.o 9 ?_; refine J.bl hΓ (fun _ => ?_)) | (refine J.o 10 ?_; refine J.ev' hΓ ?_) | (refine J.o 11 ?_; refine J.ev' hΓ ?_)))
        | (first | (refine JE.is ?_; first | refine JE.s0 ?_ | refine JE.s2 ?_ | refine JE.s3 ?_ | refine JE.nil ?_ | refine JE.s4 rfl (fun w hw => (by first | exact hw.drop.drop.drop.drop | exact hw.drop.drop.drop.drop.drop)) ?_) | refine eK0.nn ?_ | refine eK2.nn ?_ | (refine eK3.is ?_; refine eK3.nn (fun w hw => (by first | exact hw.drop.drop.drop.drop | exact hw.drop.drop.drop.drop.drop)) ?_) | refine brK.nn ?_)
        | (first | refine JC.seq ?_ | refine JC.region ?_ | refine JC.ret ?_ | refine JC.skip ?_ | refine thenK.nn ?_ | refine thenK.r ?_ | refine JC.condT rfl ?_ | (refine JC.cond rfl (fun hc => ?_) (fun hc => ?_) <;> ((try simp only [decide_eq_true_eq, decide_eq_false_iff_not, beq_iff_eq, beq_eq_false_iff_ne, bne_iff_ne, bne_eq_false_iff_eq, Bool.not_eq_true', Bool.not_eq_false', Bool.not_eq_true, Bool.not_eq_false] at hc) <;> first | (first | (exact absurd rfl hc) | (exfalso; omega) | (exact absurd (hc.symm.trans (by assumption : _ = false)) (by decide)) | (exact absurd (hc.symm.trans (by assumption : _ = true)) (by decide))) | skip)))
        | (fail)
        | fail
      refine Br.done (by kernel_rfl) ?_
      repeat' first
        | (refine J.isJ ?_; first | (fail) | (first | (refine J.o 0 ?_; refine J.ev' hΓ ?_) | refine J.nil ?_ | (refine J.o 4 ?_; first | refine J.lR hΓ ?_) | (refine J.o 3 ?_; first | refine J.ev' hΓ ?_) | (refine J.o 8 ?_; refine J.bd hΓ ?_) | (refine J.o 9 ?_; refine J.bl hΓ (fun _ => ?_)) | (refine J.o 10 ?_; refine J.ev' hΓ ?_) | (refine J.o 11 ?_; refine J.ev' hΓ ?_)))
        | (first | refine JC.seq ?_ | refine JC.region ?_ | refine JC.ret ?_ | refine JC.skip ?_ | refine thenK.nn ?_ | refine thenK.r ?_ | refine JC.condT rfl ?_ | (refine JC.cond rfl (fun hc => ?_) (fun hc => ?_) <;> ((try simp only [decide_eq_true_eq, decide_eq_false_iff_not, beq_iff_eq, beq_eq_false_iff_ne, bne_iff_ne, bne_eq_false_iff_eq, Bool.not_eq_true', Bool.not_eq_false', Bool.not_eq_true, Bool.not_eq_false] at hc) <;> first | (first | (exact absurd rfl hc) | (exfalso; omega) | (exact absurd (hc.symm.trans (by assumption : _ = false)) (by decide)) | (exact absurd (hc.symm.trans (by assumption : _ = true)) (by decide))) | skip)))
        | (fail)
        | fail
      all_goals first | (exfalso; omega) | skip
      have hlx : (vs1 ++ [(⟨3, 0, some ⟨b20, 0, none⟩, 2, [((litN s l).1 : Int), (((mget at_ (b : Int)).getD 0 : Nat) : Int)]⟩ : NV)]).length = vs1.length + 1 := by simp
      exact ret1f rfl rfl rfl (fun w1 hw => ⟨_, _, rfl, hw.mgN, a2, c2, vs1 ++ [(⟨3, 0, some ⟨b20, 0, none⟩, 2, [((litN s l).1 : Int), (((mget at_ (b : Int)).getD 0 : Nat) : Int)]⟩ : NV)], hX2, _, hl1, by rw [hl6 vs1 st1.eq], by rw [hlx]; rfl, st1.new _ (fun x hx => List.mem_append_right _ hx) ((slArg b20 [((litN s l).1 : Int), (((mget at_ (b : Int)).getD 0 : Nat) : Int)] 3).sub fun x hx => List.mem_append_left _ hx) o2 st1.mp⟩)
    ·
      repeat' first
        | (refine J.isJ ?_; first | (first | (refine J.o 4 ?_; first | refine J.lR hΓ ?_ (hr := r13) | refine J.lR hΓ ?_ (hr := r10') | refine J.lR hΓ ?_ (hr := r12)) | (refine J.o 9 ?_; first | (refine J.callvx eNet2 rfl rfl rfl (fun w hw => litC_any st l hlr hlen r11 r10 hw) ?_; rintro _ _ ⟨a1, c1, vs1, hX1, hI1, hl1, rfl, rfl, st1⟩) | refine J.lkN (a := (b : Int)) ((mget at_ (b : Int)).getD 0) keyedI ekI_inj mt ra.tl.tl.tl.tl hkey hΓ rfl ?_ | refine J.bl hΓ (fun b20 => ?_) | (refine J.callvx eNet1 rfl rfl rfl (fun w hw => addN_any ⟨3, 0, some ⟨b20, 0, none⟩, 2, [((litN s l).1 : Int), (((mget at_ (b : Int)).getD 0 : Nat) : Int)]⟩ st1.ow (by have := hl5 vs1 st1.eq; omega) (hw.perm ((List.Perm.swap _ _ _).trans ((List.Perm.swap _ _ _).cons _)))) ?_; rintro _ _ ⟨rfl, a2, c2, hX2, o2, rfl⟩))) | (first | (refine J.o 0 ?_; refine J.ev' hΓ ?_) | refine J.nil ?_ | (refine J.o 4 ?_; first | refine J.lR hΓ ?_) | (refine J.o 3 ?_; first | refine J.ev' hΓ ?_) | (refine J.o 8 ?_; refine J.bd hΓ ?_) | (refine J.o 9 ?_; refine J.bl hΓ (fun _ => ?_)) | (refine J.o 10 ?_; refine J.ev' hΓ ?_) | (refine J.o 11 ?_; refine J.ev' hΓ ?_)))
        | (first | (refine JE.is ?_; first | refine JE.s0 ?_ | refine JE.s2 ?_ | refine JE.s3 ?_ | refine JE.nil ?_ | refine JE.s4 rfl (fun w hw => (by first | exact hw.drop.drop.drop.drop | exact hw.drop.drop.drop.drop.drop)) ?_) | refine eK0.nn ?_ | refine eK2.nn ?_ | (refine eK3.is ?_; refine eK3.nn (fun w hw => (by first | exact hw.drop.drop.drop.drop | exact hw.drop.drop.drop.drop.drop)) ?_) | refine brK.nn ?_)
        | (first | refine JC.seq ?_ | refine JC.region ?_ | refine JC.ret ?_ | refine JC.skip ?_ | refine thenK.nn ?_ | refine thenK.r ?_ | refine JC.condT rfl ?_ | (refine JC.cond rfl (fun hc => ?_) (fun hc => ?_) <;> ((try simp only [decide_eq_true_eq, decide_eq_false_iff_not, beq_iff_eq, beq_eq_false_iff_ne, bne_iff_ne, bne_eq_false_iff_eq, Bool.not_eq_true', Bool.not_eq_false', Bool.not_eq_true, Bool.not_eq_false] at hc) <;> first | (first | (exact absurd rfl hc) | (exfalso; omega) | (exact absurd (hc.symm.trans (by assumption : _ = false)) (by decide)) | (exact absurd (hc.symm.trans (by assumption : _ = true)) (by decide))) | skip)))
        | (fail)
        | fail
      refine Br.done (by kernel_rfl) ?_
      repeat' first
        | (refine J.isJ ?_; first | (fail) | (first | (refine J.o 0 ?_; refine J.ev' hΓ ?_) | refine J.nil ?_ | (refine J.o 4 ?_; first | refine J.lR hΓ ?_) | (refine J.o 3 ?_; first | refine J.ev' hΓ ?_) | (refine J.o 8 ?_; refine J.bd hΓ ?_) | (refine J.o 9 ?_; refine J.bl hΓ (fun _ => ?_)) | (refine J.o 10 ?_; refine J.ev' hΓ ?_) | (refine J.o 11 ?_; refine J.ev' hΓ ?_)))
        | (first | refine JC.seq ?_ | refine JC.region ?_ | refine JC.ret ?_ | refine JC.skip ?_ | refine thenK.nn ?_ | refine thenK.r ?_ | refine JC.condT rfl ?_ | (refine JC.cond rfl (fun hc => ?_) (fun hc => ?_) <;> ((try simp only [decide_eq_true_eq, decide_eq_false_iff_not, beq_iff_eq, beq_eq_false_iff_ne, bne_iff_ne, bne_eq_false_iff_eq, Bool.not_eq_true', Bool.not_eq_false', Bool.not_eq_true, Bool.not_eq_false] at hc) <;> first | (first | (exact absurd rfl hc) | (exfalso; omega) | (exact absurd (hc.symm.trans (by assumption : _ = false)) (by decide)) | (exact absurd (hc.symm.trans (by assumption : _ = true)) (by decide))) | skip)))
        | (fail)
        | fail
      all_goals first | (exfalso; omega) | skip
      have hlx : (vs1 ++ [(⟨3, 0, some ⟨b20, 0, none⟩, 2, [((litN s l).1 : Int), (((mget at_ (b : Int)).getD 0 : Nat) : Int)]⟩ : NV)]).length = vs1.length + 1 := by simp
      exact ret1f rfl rfl rfl (fun w1 hw => ⟨_, _, rfl, hw.mgN, a2, c2, vs1 ++ [(⟨3, 0, some ⟨b20, 0, none⟩, 2, [((litN s l).1 : Int), (((mget at_ (b : Int)).getD 0 : Nat) : Int)]⟩ : NV)], hX2, _, hl1, by rw [hl6 vs1 st1.eq], by rw [hlx]; rfl, st1.new _ (fun x hx => List.mem_append_right _ hx) ((slArg b20 [((litN s l).1 : Int), (((mget at_ (b : Int)).getD 0 : Nat) : Int)] 3).sub fun x hx => List.mem_append_left _ hx) o2 st1.mp⟩)
end Go.Proofs.Ytbhgahjeocnfcaa
namespace Go.Proofs.Ytbhgahjeocnfcaa
open Go Go.Cx Go.RowKit
set_option linter.unusedVariables false
set_option linter.unusedSimpArgs false
set_option maxHeartbeats 4000000
attribute [local irreducible] J JC thenK blockK loopK drawK retK QW Qt pel List.set Calls
open Go.Maps Go.Lib
set_option maxRecDepth 8000
def stepNt (order : List Int) (ns : List N3) (st : NSt × List (Int × Nat)) (b : Nat) : NSt × List (Int × Nat) :=
  if (nd ns b).l = 0 then ((sideN st.2 st.1 (order.getD (nd ns b).p default) (nd ns b).h).2, mput st.2 (b : Int) (sideN st.2 st.1 (order.getD (nd ns b).p default) (nd ns b).h).1)
  else if (nd ns b).h = 0 then ((sideN st.2 st.1 (-order.getD (nd ns b).p default) (nd ns b).l).2, mput st.2 (b : Int) (sideN st.2 st.1 (-order.getD (nd ns b).p default) (nd ns b).l).1)
  else
    (((sideN st.2 (sideN st.2 st.1 (-order.getD (nd ns b).p default) (nd ns b).l).2 (order.getD (nd ns b).p default) (nd ns b).h).2.1 ++ [(4, 0, [((sideN st.2 st.1 (-order.getD (nd ns b).p default) (nd ns b).l).1 : Int), ((sideN st.2 (sideN st.2 st.1 (-order.getD (nd ns b).p default) (nd ns b).l).2 (order.getD (nd ns b).p default) (nd ns b).h).1 : Int)])], (sideN st.2 (sideN st.2 st.1 (-order.getD (nd ns b).p default) (nd ns b).l).2 (order.getD (nd ns b).p default) (nd ns b).h).2.2),
      mput st.2 (b : Int) (sideN st.2 (sideN st.2 st.1 (-order.getD (nd ns b).p default) (nd ns b).l).2 (order.getD (nd ns b).p default) (nd ns b).h).2.1.length)
def netNt (order : List Int) (ns : List N3) (bs : List Int) : NSt × List (Int × Nat) := bs.foldl (fun st b => stepNt order ns st b.toNat) (([], []), [])
theorem netNt_snoc (order : List Int) (ns : List N3) (bs : List Int) (b : Int) : netNt order ns (bs ++ [b]) = stepNt order ns (netNt order ns bs) b.toNat := by
  unfold netNt; rw [List.foldl_append]; rfl
theorem sideN_len (at_ : List (Int × Nat)) (s : NSt) (l : Int) (b : Nat) : (sideN at_ s l b).2.1.length ≤ s.1.length + 2 := by
  have := litN_len s l
  unfold sideN
  split
  · omega
  · simp only [List.length_append, List.length_cons, List.length_nil]; omega
theorem stepNt_len (order : List Int) (ns : List N3) (st : NSt × List (Int × Nat)) (b : Nat) : (stepNt order ns st b).1.1.length ≤ st.1.1.length + 5 := by
  have h1 := sideN_len st.2 st.1 (order.getD (nd ns b).p default) (nd ns b).h
  have h2 := sideN_len st.2 st.1 (-order.getD (nd ns b).p default) (nd ns b).l
  have h3 := sideN_len st.2 (sideN st.2 st.1 (-order.getD (nd ns b).p default) (nd ns b).l).2 (order.getD (nd ns b).p default) (nd ns b).h
  unfold stepNt
  split
  · show (sideN _ _ _ _).2.1.length ≤ _; omega
  · split
    · show (sideN _ _ _ _).2.1.length ≤ _; omega
    · simp only [List.length_append, List.length_cons, List.length_nil]; omega
def maxO (l : List Int) : Int := l.foldl max 0
theorem maxO_snoc (l : List Int) (x : Int) : maxO (l ++ [x]) = max (maxO l) x := by
  unfold maxO; rw [List.foldl_append]; rfl
theorem maxO_rng : ∀ {l : List Int}, (∀ v ∈ l, 1 ≤ v ∧ v ≤ 128) → 0 ≤ maxO l ∧ maxO l ≤ 128 ∧ ∀ v ∈ l, v ≤ maxO l := fun {l} h => by
  have key : ∀ (l : List Int) (m : Int), 0 ≤ m → m ≤ 128 → (∀ v ∈ l, 1 ≤ v ∧ v ≤ 128) → 0 ≤ l.foldl max m ∧ l.foldl max m ≤ 128 ∧ m ≤ l.foldl max m ∧ ∀ v ∈ l, v ≤ l.foldl max m := fun l => by
    induction l with
    | nil => intro m h1 h2 _; exact ⟨h1, h2, Int.le_refl _, fun v hv => by cases hv⟩
    | cons x l ih =>
      intro m h1 h2 h3
      have hx := h3 x List.mem_cons_self
      obtain ⟨g1, g2, g3, g4⟩ := ih (max m x) (by omega) (by omega) fun v hv => h3 v (List.mem_cons_of_mem _ hv)
      rw [List.foldl_cons]
      refine ⟨g1, g2, by omega, fun v hv => ?_⟩
      rcases List.mem_cons.1 hv with rfl | hv
      · omega
      · exact g4 v hv
  obtain ⟨g1, g2, _, g4⟩ := key l 0 (by omega) (by omega) h
  exact ⟨g1, g2, g4⟩
theorem netNt_len (order : List Int) (ns : List N3) : ∀ (bs : List Int), (netNt order ns bs).1.1.length ≤ 5 * bs.length := fun bs => by
  have key : ∀ (bs : List Int) (st : NSt × List (Int × Nat)), (bs.foldl (fun st b => stepNt order ns st b.toNat) st).1.1.length ≤ st.1.1.length + 5 * bs.length := fun bs => by
    induction bs with
    | nil => intro st; exact Nat.le_add_right _ _
    | cons b bs ih =>
      intro st
      have h1 := ih (stepNt order ns st b.toNat)
      have h2 := stepNt_len order ns st b.toNat
      rw [List.foldl_cons, List.length_cons]
      omega
  have := key bs (([], []), [])
  unfold netNt
  simpa using this
end Go.Proofs.Ytbhgahjeocnfcaa
namespace Go.Proofs.Ytbhgahjeocnfcaa
open Go Go.Cx Go.RowKit
set_option linter.unusedVariables false
set_option linter.unusedSimpArgs false
set_option maxHeartbeats 4000000
attribute [local irreducible] J JC thenK blockK loopK drawK retK QW Qt pel List.set Calls
open Go.Maps Go.Lib
set_option maxRecDepth 8000
attribute [local irreducible] JE Br eK0 eK2 eK3 brK pc
theorem eNetS : Entr Try.prog 44 := Entr.of Try.func44 rfl rfl
theorem Bel.len {n : Nat} {ns : List N3} (w : WF n ns) {a : Nat} (ha : a < ns.length) {bs : List Int} (h : Bel ns a bs) : bs.length ≤ 2 ^ n + 1 := by
  have hm : ∀ x ∈ bs, 2 ≤ x := fun x hx => by
    obtain ⟨j, rfl, h2, _⟩ := (h.mem x).1 hx
    omega
  have := rch_len w ha (A := bs.map Int.toNat) (by
    rw [List.Nodup, List.pairwise_map]
    refine h.nodup.imp_of_mem fun {x y} hx hy hne e => hne ?_
    have := hm x hx
    have := hm y hy
    omega) (fun x hx => by
    obtain ⟨y, hy, rfl⟩ := List.mem_map.1 hx
    obtain ⟨j, rfl, h2, hr⟩ := (h.mem y).1 hy
    exact hr)
  rw [List.length_map] at this
  exact this
def NetR (order : List Int) (ns : List N3) (a : Nat) (L : List Heap) (v : Value) (L' : List Heap) : Prop := ∃ aX cX vs hX hI, v = .tuple #[.agg ⟨[.int .i64 (maxO order), .slice aX vs.length cX]⟩, .int .i64 0] ∧ L' = hX :: hI :: L ∧ SlT encNV 3 aX vs hX ∧ (∀ v ∈ vs, SlT encI 1 v.a v.l hI) ∧ ((a < 2 ∧ vs.map pnV = [((a : Int), 0, [])]) ∨ (2 ≤ a ∧ ∃ bs, Bel ns a bs ∧ vs.map pnV = (netNt order ns bs).1.1))
set_option maxHeartbeats 16000000 in
theorem Net_any {n : Nat} {K : KS} {s : SS} (so : SOk n K s) {order : List Int} {hO hP : Heap} (po : POk K order hO hP) (h8 : order.length ≤ 8) (b0 a : Nat) (ha : a < s.ns.length) {w0 w : World} {R : Heap} {L : List Heap} (rb : Rd R L b0 (stO K s.an s.ns.length s.cn)) (rN : RdH R L s.hN) (rO : RdH R L hO) (hw : H w0 R L w) :
    Calls Try.prog 44 #[.pointer (some ⟨b0, 0, none⟩), .int .i64 (a : Int)] w fun e w' => ∃ v L', e = .returned v ∧ H w0 R L' w' ∧ NetR order s.ns a L v L' := by
  have two := so.wf.two
  have hno := so.no
  have hpl := po.len
  have hsm := so.sm
  have rb' := rb
  unfold stO at rb'
  have hso : SlT encI 1 K.ao order hO := po.ow.sl
  have hsn : SlT enc3 3 s.an s.ns s.hN := so.ow.sl
  have cChk : ∀ L1 w1 b1, H w0 R L1 w1 → Rd R L1 b0 (stO K s.an s.ns.length s.cn) → Rd R L1 b1 (intO a) → Calls Try.prog 64 #[.pointer (some ⟨b0, 0, none⟩), .slice (some ⟨b1, 0, none⟩) 1 1] w1 fun e w' => e = .returned (.int .i64 0) ∧ Below w1.heap.size w1 w' := fun L1 w1 b1 hw hb hr => by
    have hc := chk_ok (m := s.ns.length) (l := [a]) (by simp only [List.mem_cons, List.not_mem_nil, or_false, forall_eq]; exact ha)
    have := check_any K b0 s.an s.cn s.ns.length two [(b0, stO K s.an s.ns.length s.cn), (b1, intO a)] List.mem_cons_self [(a : Int)] (some ⟨b1, 0, none⟩) 1 ((slArg b1 [(a : Int)] 3).sub fun y hy => List.mem_cons_of_mem _ hy) (by show 1 ≤ 1000; omega) w1 (holds2 (hw.rd hb) (holds2 (hw.rd hr) (Holds.nil _)))
    rw [show chkP s.ns.length [(a : Int)] = true from hc, if_pos rfl] at this
    exact this
  have hrg : ∀ v ∈ order, 1 ≤ v ∧ v ≤ 128 := po.ok.1
  refine calls_in Try.func44 Try.ntmps44 rfl rfl (hw) ?_
  repeat' first
    | (refine J.isJ ?_; first | (first | (refine J.o 7 ?_; refine J.al (t := 81) hΓ (fun b7 => ?_)) | (refine J.o 9 ?_; refine J.bl hΓ (fun b1 => ?_)) | (refine J.fc 64 ?_; refine J.call0 eCheck rfl rfl (fun w hw => cChk _ w _ hw rb.tl.tl Rd.hd) ?_) | (refine J.o 4 ?_; first | refine J.lR hΓ ?_ (hr := rb'.tl.tl.tl))) | (first | (refine J.o 0 ?_; refine J.ev' hΓ ?_) | refine J.nil ?_ | (refine J.o 4 ?_; first | refine J.lT default hΓ ?_ | refine J.lR hΓ ?_) | (refine J.o 3 ?_; first | refine J.iJ hΓ ?_ | refine J.ev' hΓ ?_) | (refine J.o 1 ?_; first | refine J.ad ?_ | refine J.ng ?_) | (refine J.o 5 ?_; first | refine J.t0 hΓ ?_ | refine J.t1 hΓ ?_) | (refine J.o 7 ?_; refine J.al hΓ (fun _ => ?_)) | (refine J.o 8 ?_; refine J.bd hΓ ?_) | (refine J.o 9 ?_; refine J.bl hΓ (fun _ => ?_)) | (refine J.o 10 ?_; refine J.ev' hΓ ?_) | (refine J.o 11 ?_; refine J.ev' hΓ ?_)))
    | (first | refine JC.seq ?_ | refine JC.region ?_ | refine JC.block ?_ | refine JC.ret ?_ | refine JC.exit ?_ | refine JC.skip ?_ | refine thenK.nn ?_ | refine thenK.r ?_ | refine thenK.x ?_ | refine blockK.nn ?_ | refine blockK.hit rfl ?_ | refine JC.condF rfl ?_ | (refine JC.cond rfl (fun hc => ?_) (fun hc => ?_) <;> ((try simp only [decide_eq_true_eq, decide_eq_false_iff_not, beq_iff_eq, beq_eq_false_iff_ne, bne_iff_ne, bne_eq_false_iff_eq, Bool.not_eq_true', Bool.not_eq_false', Bool.not_eq_true, Bool.not_eq_false] at hc) <;> first | (first | (exact absurd rfl hc) | (exfalso; omega) | (exact absurd (hc.symm.trans (by assumption : _ = false)) (by decide)) | (exact absurd (hc.symm.trans (by assumption : _ = true)) (by decide))) | skip)) | refine drawK.nn ?_ | refine loopK.x ?_)
    | (fail)
    | fail
  all_goals first | (exfalso; omega) | skip
  rename_i b4
  refine JC.loop (fun i => i == 9 || Nat.ble 34 i) (fun m g L' => ∃ (k : Nat), g 34 = .int .i64 (k : Int) ∧ k + m = order.length ∧ L' = [(b7, netOb (maxO (order.take k)) none 0 0)] :: [(b1, .cells ⟨[.int .i64 (a : Int)]⟩ 3 (0, 0))] :: [(b4, netOb 0 none 0 0)] :: L) order.length ⟨0, rfl, by omega, rfl⟩ ?_
  rintro m g _ ⟨k, e34, hkm, rfl⟩
  refine JC.pin 34 e34 ?_
  clear e34
  unfold netOb
  rcases Nat.lt_or_ge k order.length with hk | hk
  case inl =>
    have hst := maxO_snoc (order.take k) (order.getD k default)
    rw [← take_g order k hk] at hst
    have hmr := maxO_rng (l := order.take k) fun v hv => hrg v (List.mem_of_mem_take hv)
    have hvr := hrg _ (mem_g order k hk)
    repeat' first
      | (refine J.isJ ?_; first | (first | (refine J.o 3 ?_; refine J.iJ hΓ ?_ (hs := hso)) | (refine J.o 4 ?_; refine J.lT default hΓ ?_ (hs := hso) (hr := rO.tl.tl.tl))) | (first | (refine J.o 0 ?_; refine J.ev' hΓ ?_) | refine J.nil ?_ | (refine J.o 4 ?_; first | refine J.lT default hΓ ?_ | refine J.lR hΓ ?_) | (refine J.o 3 ?_; first | refine J.iJ hΓ ?_ | refine J.ev' hΓ ?_) | (refine J.o 1 ?_; first | refine J.ad ?_ | refine J.ng ?_) | (refine J.o 5 ?_; first | refine J.t0 hΓ ?_ | refine J.t1 hΓ ?_) | (refine J.o 7 ?_; refine J.al hΓ (fun _ => ?_)) | (refine J.o 8 ?_; refine J.bd hΓ ?_) | (refine J.o 9 ?_; refine J.bl hΓ (fun _ => ?_)) | (refine J.o 10 ?_; refine J.ev' hΓ ?_) | (refine J.o 11 ?_; refine J.ev' hΓ ?_)))
      | (first | refine JC.seq ?_ | refine JC.region ?_ | refine JC.block ?_ | refine JC.ret ?_ | refine JC.exit ?_ | refine JC.skip ?_ | refine thenK.nn ?_ | refine thenK.r ?_ | refine thenK.x ?_ | refine blockK.nn ?_ | refine blockK.hit rfl ?_ | refine JC.condF rfl ?_ | (refine JC.cond rfl (fun hc => ?_) (fun hc => ?_) <;> ((try simp only [decide_eq_true_eq, decide_eq_false_iff_not, beq_iff_eq, beq_eq_false_iff_ne, bne_iff_ne, bne_eq_false_iff_eq, Bool.not_eq_true', Bool.not_eq_false', Bool.not_eq_true, Bool.not_eq_false] at hc) <;> first | (first | (exact absurd rfl hc) | (exfalso; omega) | (exact absurd (hc.symm.trans (by assumption : _ = false)) (by decide)) | (exact absurd (hc.symm.trans (by assumption : _ = true)) (by decide))) | skip)) | refine drawK.nn ?_ | refine loopK.x ?_)
      | (fail)
      | fail
    all_goals first | (exfalso; omega) | skip
    refine loopK.nn (m - 1) (by omega) (by repeat (first | refine Ag.upd rfl ?_ | exact Ag.hv)) ⟨k + 1, ?_, by omega, by rw [hst]⟩
    show Value.int .i64 _ = _; congr 1
  rw [List.take_of_length_le hk]
  have hmr := maxO_rng hrg
  obtain ⟨N, hN⟩ : ∃ N, maxO order = N := ⟨_, rfl⟩
  unfold NetR
  rw [hN] at hmr ⊢
  rcases Nat.lt_or_ge a 2 with h2 | h2
  case inl =>
    have h01 : ((a : Int) : Int) < 2 := by omega
    repeat' first
      | (refine J.isJ ?_; first | (first | (refine J.o 7 ?_; refine J.al (t := 145) hΓ (fun b10 => ?_)) | (refine J.o 14 ?_; refine J.mfV [.pointer (some ⟨b7, 0, none⟩)] hΓ ?_) | (refine J.o 9 ?_; refine J.callvx eNet1 rfl rfl rfl (fun w hw => addN_any ⟨0 + (a : Int), 0, none, 0, []⟩ (OwT.nil (fun _ => rfl)) (by show 0 ≤ 100000; omega) (H.sel (l := [_, _, _]) (M := _) hw.nilF [2, 0, 1])) ?_; rintro _ _ ⟨rfl, aX, cX, hX, oX, rfl⟩; unfold netOb) | (refine J.o 5 ?_; first | (refine J.perm br3 ?_; refine J.t0 hΓ ?_) | (refine J.perm br4 ?_; refine J.t0 hΓ ?_) | (refine J.perm br5 ?_; refine J.t0 hΓ ?_) | (refine J.perm br6 ?_; refine J.t0 hΓ ?_) | (refine J.perm br7 ?_; refine J.t0 hΓ ?_))) | (first | (refine J.o 0 ?_; refine J.ev' hΓ ?_) | refine J.nil ?_ | (refine J.o 4 ?_; first | refine J.lT default hΓ ?_ | refine J.lR hΓ ?_) | (refine J.o 3 ?_; first | refine J.iJ hΓ ?_ | refine J.ev' hΓ ?_) | (refine J.o 1 ?_; first | refine J.ad ?_ | refine J.ng ?_) | (refine J.o 5 ?_; first | refine J.t0 hΓ ?_ | refine J.t1 hΓ ?_) | (refine J.o 7 ?_; refine J.al hΓ (fun _ => ?_)) | (refine J.o 8 ?_; refine J.bd hΓ ?_) | (refine J.o 9 ?_; refine J.bl hΓ (fun _ => ?_)) | (refine J.o 10 ?_; refine J.ev' hΓ ?_) | (refine J.o 11 ?_; refine J.ev' hΓ ?_)))
      | (first | refine JC.seq ?_ | refine JC.region ?_ | refine JC.block ?_ | refine JC.ret ?_ | refine JC.exit ?_ | refine JC.skip ?_ | refine thenK.nn ?_ | refine thenK.r ?_ | refine thenK.x ?_ | refine blockK.nn ?_ | refine blockK.hit rfl ?_ | refine JC.condF rfl ?_ | (refine JC.cond rfl (fun hc => ?_) (fun hc => ?_) <;> ((try simp only [decide_eq_true_eq, decide_eq_false_iff_not, beq_iff_eq, beq_eq_false_iff_ne, bne_iff_ne, bne_eq_false_iff_eq, Bool.not_eq_true', Bool.not_eq_false', Bool.not_eq_true, Bool.not_eq_false] at hc) <;> first | (first | (exact absurd rfl hc) | (exfalso; omega) | (exact absurd (hc.symm.trans (by assumption : _ = false)) (by decide)) | (exact absurd (hc.symm.trans (by assumption : _ = true)) (by decide))) | skip)) | refine drawK.nn ?_ | refine loopK.x ?_)
      | (fail)
      | fail
    all_goals first | (exfalso; omega) | skip
    refine retCS hΓ rfl rfl rfl rfl Rd.hd rfl rfl (fun w1 hw => ⟨_, _, rfl, H.sel (l := [_, _, _, _, _, _]) (M := L) hw.nilF [3, 0], aX, cX, [⟨0 + (a : Int), 0, none, 0, []⟩], hX, [], rfl, rfl, oX.sl, fun v hv => ?_, .inl ⟨h2, ?_⟩⟩)
    · rw [List.mem_singleton.1 hv]
      exact ⟨fun _ => rfl, fun i hi => absurd hi (Nat.not_lt_zero _)⟩
    · show [((0 : Int) + (a : Int), (0 : Int), ([] : List Int))] = _
      rw [Int.zero_add]
  repeat' first
    | (refine J.isJ ?_; first | (first | (refine J.o 7 ?_; first | refine J.al (d := 10) hΓ (fun b10 => ?_) | refine J.al (d := 11) hΓ (fun b11 => ?_) | refine J.al (d := 12) hΓ (fun b12 => ?_) | refine J.al (d := 13) hΓ (fun b13 => ?_)) | (refine J.o 14 ?_; first | refine J.mfV (d := 44) [.pointer (some ⟨b7, 0, none⟩)] hΓ ?_ | refine J.mfV (d := 55) [.pointer (some ⟨b11, 0, none⟩), .pointer (some ⟨b10, 0, none⟩)] hΓ ?_ | refine J.mfV (d := 56) [.pointer (some ⟨b13, 0, none⟩), .pointer (some ⟨b10, 0, none⟩), .pointer (some ⟨b12, 0, none⟩)] hΓ ?_) | (refine J.o 9 ?_; first | refine J.mkm (d := 53) (fun ml => ?_) | refine J.mkm (d := 54) (fun ma => ?_) | (refine J.callx eBelow rfl rfl (fun w hw => below_any so b0 a ha rb.tl.tl.tl.tl.tl.tl.tl.tl.tl rN.tl.tl.tl.tl.tl.tl.tl.tl.tl hw) ?_; rintro _ _ ⟨aB, cB, bs, hB, rfl, rfl, oB, bel⟩))) | (first | (refine J.o 0 ?_; refine J.ev' hΓ ?_) | refine J.nil ?_ | (refine J.o 4 ?_; first | refine J.lT default hΓ ?_ | refine J.lR hΓ ?_) | (refine J.o 3 ?_; first | refine J.iJ hΓ ?_ | refine J.ev' hΓ ?_) | (refine J.o 1 ?_; first | refine J.ad ?_ | refine J.ng ?_) | (refine J.o 5 ?_; first | refine J.t0 hΓ ?_ | refine J.t1 hΓ ?_) | (refine J.o 7 ?_; refine J.al hΓ (fun _ => ?_)) | (refine J.o 8 ?_; refine J.bd hΓ ?_) | (refine J.o 9 ?_; refine J.bl hΓ (fun _ => ?_)) | (refine J.o 10 ?_; refine J.ev' hΓ ?_) | (refine J.o 11 ?_; refine J.ev' hΓ ?_)))
    | (first | refine JC.seq ?_ | refine JC.region ?_ | refine JC.block ?_ | refine JC.ret ?_ | refine JC.exit ?_ | refine JC.skip ?_ | refine thenK.nn ?_ | refine thenK.r ?_ | refine thenK.x ?_ | refine blockK.nn ?_ | refine blockK.hit rfl ?_ | refine JC.condF rfl ?_ | (refine JC.cond rfl (fun hc => ?_) (fun hc => ?_) <;> ((try simp only [decide_eq_true_eq, decide_eq_false_iff_not, beq_iff_eq, beq_eq_false_iff_ne, bne_iff_ne, bne_eq_false_iff_eq, Bool.not_eq_true', Bool.not_eq_false', Bool.not_eq_true, Bool.not_eq_false] at hc) <;> first | (first | (exact absurd rfl hc) | (exfalso; omega) | (exact absurd (hc.symm.trans (by assumption : _ = false)) (by decide)) | (exact absurd (hc.symm.trans (by assumption : _ = true)) (by decide))) | skip)) | refine drawK.nn ?_ | refine loopK.x ?_)
    | (fail)
    | fail
  all_goals first | (exfalso; omega) | skip
  refine JC.weak (L' := [(b7, netOb N none 0 0)] :: [] :: [] :: [(ml, .map ⟨[]⟩ 0)] :: [(ma, .map ⟨[]⟩ 0)] :: (hB :: [(b13, fnL b11 b10)] :: [(b12, mapN ma)] :: [(b11, mapN ml)] :: [(b10, fnA b7)] :: [(b4, netOb 0 none 0 0)] :: L)) (fun w hw => H.sel (l := [_, _, _, _, _, _, _, _, _, _, _, _]) (M := L) hw.nilF.nilF [9, 0, 1, 7, 6, 2, 3, 4, 5, 8, 11]) ?_
  generalize hLy : (hB :: [(b13, fnL b11 b10)] :: [(b12, mapN ma)] :: [(b11, mapN ml)] :: [(b10, fnA b7)] :: [(b4, netOb 0 none 0 0)] :: L) = Ly
  have qB : RdH R Ly hB := hLy ▸ RdH.hd
  have q13 : Rd R Ly b13 (fnL b11 b10) := hLy ▸ Rd.hd.tl
  have q12 : Rd R Ly b12 (mapN ma) := hLy ▸ Rd.hd.tl.tl
  have q11 : Rd R Ly b11 (mapN ml) := hLy ▸ Rd.hd.tl.tl.tl
  have q10 : Rd R Ly b10 (fnA b7) := hLy ▸ Rd.hd.tl.tl.tl.tl
  have qb : Rd R Ly b0 (stO K s.an s.ns.length s.cn) := hLy ▸ rb.tl.tl.tl.tl.tl.tl
  have qN : RdH R Ly s.hN := hLy ▸ rN.tl.tl.tl.tl.tl.tl
  have qO : RdH R Ly hO := hLy ▸ rO.tl.tl.tl.tl.tl.tl
  have qb' := qb
  unfold stO at qb'
  have q12' := q12
  unfold mapN at q12'
  have q10' := q10
  unfold fnA at q10'
  have h2n := pow8 (show n ≤ 8 by omega)
  have hbl := bel.len so.wf ha
  refine JC.gen [(0, .pointer (some ⟨b0, 0, none⟩)), (4, .pointer (some ⟨b4, 0, none⟩)), (7, .pointer (some ⟨b7, 0, none⟩)), (10, .pointer (some ⟨b10, 0, none⟩)), (12, .pointer (some ⟨b12, 0, none⟩)), (14, .func (.func 97) ⟨[]⟩ ⟨[.pointer (some ⟨b13, 0, none⟩), .pointer (some ⟨b10, 0, none⟩), .pointer (some ⟨b12, 0, none⟩)]⟩), (59, .slice aB bs.length cB), (60, .int .i64 bs.length), (61, .int .i64 0)] ⟨rfl, rfl, rfl, rfl, rfl, rfl, rfl, rfl, rfl, trivial⟩ (fun F1 => ?_)
  refine JC.loopG (fun i => i == 16 || i == 17 || i == 18 || i == 19 || Nat.ble 61 i) (fun m g L' => ∃ (k : Nat) (st : NSt × List (Int × Nat)) (aX : Option Addr) (cX : Nat) (vs : List NV) (hX hI hl hA : Heap), g 61 = .int .i64 (k : Int) ∧ k + m = bs.length ∧ st = netNt order s.ns (bs.take k) ∧ NtS st.1 aX cX vs ml hX hI hl ∧ MapT Try.prog 3 ekI evI st.2 ma hA ∧ L' = [(b7, netOb N aX vs.length cX)] :: hX :: hI :: hl :: hA :: Ly) bs.length ⟨0, (([], []), []), none, 0, [], [], [], _, _, rfl, by omega, rfl, ⟨rfl, OwT.nil (fun _ => rfl), fun v hv => absurd hv List.not_mem_nil, MapT.nil _⟩, MapT.nil _, rfl⟩ ?_
  rintro m2 g2 _ ⟨k, st, aX, cX, vs, hX, hI, hl, hA, e61, hkm2, hst, nt, mt, rfl⟩
  refine JC.pin 61 e61 ?_
  clear e61
  have hln := netNt_len order s.ns (bs.take k)
  rw [← hst, List.length_take] at hln
  have hvl : vs.length = st.1.1.length := by rw [← nt.eq, List.length_map]
  rcases Nat.lt_or_ge k bs.length with hkl | hkl
  case inr =>
    rw [List.take_of_length_le hkl] at hst
    subst hLy
    unfold netOb
    repeat' first
      | (refine J.isJ ?_; first | ((refine J.o 5 ?_; refine J.perm (bring_perm 10 _) ?_; refine J.t0 hΓ ?_)) | (first | (refine J.o 0 ?_; refine J.ev' hΓ ?_) | refine J.nil ?_ | (refine J.o 4 ?_; first | refine J.lT default hΓ ?_ | refine J.lR hΓ ?_) | (refine J.o 3 ?_; first | refine J.iJ hΓ ?_ | refine J.ev' hΓ ?_) | (refine J.o 1 ?_; first | refine J.ad ?_ | refine J.ng ?_) | (refine J.o 5 ?_; first | refine J.t0 hΓ ?_ | refine J.t1 hΓ ?_) | (refine J.o 7 ?_; refine J.al hΓ (fun _ => ?_)) | (refine J.o 8 ?_; refine J.bd hΓ ?_) | (refine J.o 9 ?_; refine J.bl hΓ (fun _ => ?_)) | (refine J.o 10 ?_; refine J.ev' hΓ ?_) | (refine J.o 11 ?_; refine J.ev' hΓ ?_)))
      | (first | refine JC.seq ?_ | refine JC.region ?_ | refine JC.block ?_ | refine JC.ret ?_ | refine JC.exit ?_ | refine JC.skip ?_ | refine thenK.nn ?_ | refine thenK.r ?_ | refine thenK.x ?_ | refine blockK.nn ?_ | refine blockK.hit rfl ?_ | refine JC.condF rfl ?_ | (refine JC.cond rfl (fun hc => ?_) (fun hc => ?_) <;> ((try simp only [decide_eq_true_eq, decide_eq_false_iff_not, beq_iff_eq, beq_eq_false_iff_ne, bne_iff_ne, bne_eq_false_iff_eq, Bool.not_eq_true', Bool.not_eq_false', Bool.not_eq_true, Bool.not_eq_false] at hc) <;> first | (first | (exact absurd rfl hc) | (exfalso; omega) | (exact absurd (hc.symm.trans (by assumption : _ = false)) (by decide)) | (exact absurd (hc.symm.trans (by assumption : _ = true)) (by decide))) | skip)) | refine drawK.nn ?_ | refine loopK.x ?_)
      | (fail)
      | fail
    all_goals first | (exfalso; omega) | skip
    refine retCS hΓ rfl rfl rfl rfl Rd.hd rfl rfl (fun w1 hw => ⟨_, _, rfl, H.sel (l := [_, _, _, _, _, _, _, _, _, _, _]) (M := L) hw [2, 3], aX, cX, vs, hX, hI, rfl, rfl, nt.ow.sl, nt.ins, .inr ⟨h2, bs, bel, by rw [nt.eq, hst]⟩⟩)
  have hmb := mem_g bs k hkl
  obtain ⟨j, hbj, hj2, hjr⟩ := (bel.mem _).1 hmb
  have hjl : j < s.ns.length := hjr.lt so.wf ha
  have hsn2 := netNt_snoc order s.ns (bs.take k) (bs.getD k default)
  rw [← take_g bs k hkl, ← hst, hbj, Int.toNat_natCast] at hsn2
  have hxp := so.wf.pl j hj2 hjl
  have hxl := so.wf.ll j hj2 hjl
  have hxh := so.wf.hl j hj2 hjl
  have hvr := hrg _ (mem_g order (nd s.ns j).p (by omega))
  have hkey := keyI (j : Int) (by omega)
  have hnd : s.ns.getD j default = nd s.ns j := rfl
  unfold stepNt at hsn2
  obtain ⟨x, hx⟩ : ∃ x, nd s.ns j = x := ⟨_, rfl⟩
  rw [hx] at hsn2 hxp hxl hxh hvr hnd
  obtain ⟨v, hv⟩ : ∃ v, order.getD x.p default = v := ⟨_, rfl⟩
  rw [hv] at hsn2 hvr
  repeat' first
    | (refine J.isJ ?_; first | (first | (refine J.o 7 ?_; refine J.al (d := 17) hΓ (fun b17 => ?_)) | (refine J.o 3 ?_; first | refine J.iJ hΓ ?_ (hs := oB.sl) | refine J.iJ hΓ ?_ (hs := hsn)) | (refine J.o 4 ?_; first | refine J.lR hΓ ?_ (hr := qb'.tl.tl.tl.tl.tl) | (refine J.lT default hΓ ?_ (hs := oB.sl) (hr := qB.tl.tl.tl.tl.tl); rw [hbj]) | (refine J.lT default hΓ ?_ (hs := hsn) (hr := qN.tl.tl.tl.tl.tl); rw [hnd]))) | (first | (refine J.o 0 ?_; refine J.ev' hΓ ?_) | refine J.nil ?_ | (refine J.o 4 ?_; first | refine J.lT default hΓ ?_ | refine J.lR hΓ ?_) | (refine J.o 3 ?_; first | refine J.iJ hΓ ?_ | refine J.ev' hΓ ?_) | (refine J.o 1 ?_; first | refine J.ad ?_ | refine J.ng ?_) | (refine J.o 5 ?_; first | refine J.t0 hΓ ?_ | refine J.t1 hΓ ?_) | (refine J.o 7 ?_; refine J.al hΓ (fun _ => ?_)) | (refine J.o 8 ?_; refine J.bd hΓ ?_) | (refine J.o 9 ?_; refine J.bl hΓ (fun _ => ?_)) | (refine J.o 10 ?_; refine J.ev' hΓ ?_) | (refine J.o 11 ?_; refine J.ev' hΓ ?_)))
    | (first | refine JC.seq ?_ | refine JC.region ?_ | refine JC.block ?_ | refine JC.ret ?_ | refine JC.exit ?_ | refine JC.skip ?_ | refine thenK.nn ?_ | refine thenK.r ?_ | refine thenK.x ?_ | refine blockK.nn ?_ | refine blockK.hit rfl ?_ | refine JC.condF rfl ?_ | (refine JC.cond rfl (fun hc => ?_) (fun hc => ?_) <;> ((try simp only [decide_eq_true_eq, decide_eq_false_iff_not, beq_iff_eq, beq_eq_false_iff_ne, bne_iff_ne, bne_eq_false_iff_eq, Bool.not_eq_true', Bool.not_eq_false', Bool.not_eq_true, Bool.not_eq_false] at hc) <;> first | (first | (exact absurd rfl hc) | (exfalso; omega) | (exact absurd (hc.symm.trans (by assumption : _ = false)) (by decide)) | (exact absurd (hc.symm.trans (by assumption : _ = true)) (by decide))) | skip)) | refine drawK.nn ?_ | refine loopK.x ?_)
    | (fail)
    | fail
  all_goals first | (exfalso; omega) | skip
  refine JC.weak (L' := [(b7, netOb N aX vs.length cX)] :: hX :: hI :: hl :: hA :: [(b17, .cells ⟨[.int .i64 (x.p : Int), .int .i64 (x.l : Int), .int .i64 (x.h : Int)]⟩ 107 (0, 0))] :: Ly) (fun w hw => H.sel (l := [_, _, _, _, _, _]) (M := Ly) hw [1, 2, 3, 4, 5, 0]) ?_
  refine JC.drawO [(0,0),(0,1),(0,2),(1,3),(0,4),(1,5),(0,6),(1,7),(0,8)] (by kernel_rfl) (by kernel_rfl) ?_
  by_cases hl0 : x.l = 0
  · rw [if_pos hl0] at hsn2
    repeat' first
      | (refine J.isJ ?_; first | (first | (refine J.o 3 ?_; refine J.iJ hΓ ?_ (hs := hso)) | (refine J.o 4 ?_; first | refine J.lR hΓ ?_ (hr := qb'.tl.tl.tl.tl.tl.tl) | refine J.lR hΓ ?_ (hr := Rd.hd.tl.tl.tl.tl.tl) | (refine J.lT default hΓ ?_ (hs := hso) (hr := qO.tl.tl.tl.tl.tl.tl); rw [hv]))) | (first | (refine J.o 0 ?_; refine J.ev' hΓ ?_) | refine J.nil ?_ | (refine J.o 4 ?_; first | refine J.lT default hΓ ?_ | refine J.lR hΓ ?_) | (refine J.o 3 ?_; first | refine J.iJ hΓ ?_ | refine J.ev' hΓ ?_) | (refine J.o 1 ?_; first | refine J.ad ?_ | refine J.ng ?_) | (refine J.o 5 ?_; first | refine J.t0 hΓ ?_ | refine J.t1 hΓ ?_) | (refine J.o 7 ?_; refine J.al hΓ (fun _ => ?_)) | (refine J.o 8 ?_; refine J.bd hΓ ?_) | (refine J.o 9 ?_; refine J.bl hΓ (fun _ => ?_)) | (refine J.o 10 ?_; refine J.ev' hΓ ?_) | (refine J.o 11 ?_; refine J.ev' hΓ ?_)))
      | (first | refine JC.seq ?_ | refine JC.region ?_ | refine JC.block ?_ | refine JC.ret ?_ | refine JC.exit ?_ | refine JC.skip ?_ | refine thenK.nn ?_ | refine thenK.r ?_ | refine thenK.x ?_ | refine blockK.nn ?_ | refine blockK.hit rfl ?_ | refine JC.condF rfl ?_ | (refine JC.cond rfl (fun hc => ?_) (fun hc => ?_) <;> ((try simp only [decide_eq_true_eq, decide_eq_false_iff_not, beq_iff_eq, beq_eq_false_iff_ne, bne_iff_ne, bne_eq_false_iff_eq, Bool.not_eq_true', Bool.not_eq_false', Bool.not_eq_true, Bool.not_eq_false] at hc) <;> first | (first | (exact absurd rfl hc) | (exfalso; omega) | (exact absurd (hc.symm.trans (by assumption : _ = false)) (by decide)) | (exact absurd (hc.symm.trans (by assumption : _ = true)) (by decide))) | skip)) | refine drawK.nn ?_ | refine loopK.x ?_)
      | (fail)
      | fail
    all_goals first | (exfalso; omega) | skip
    refine JC.drawE (hA :: [(b17, .cells ⟨[.int .i64 (x.p : Int), .int .i64 (x.l : Int), .int .i64 (x.h : Int)]⟩ 107 (0, 0))] :: Ly) [6, 7] [6] [(4,0),(0,1),(0,2),(0,3),(0,4),(4,5),(3,6),(2,7)] 0 _ (by kernel_rfl) (by kernel_rfl) rfl ?_
    repeat' first
      | (refine J.isJ ?_; first | (first | (refine J.o 4 ?_; first | refine J.lR hΓ ?_ (hr := q12'.tl.tl) | refine J.lR hΓ ?_ (hr := Rd.hd.tl)) | (refine J.o 9 ?_; first | (refine J.callvx eNet3 rfl rfl rfl (fun w hw => sideC_any nt st.2 mt v (by omega) x.h (by omega) (by omega) RdH.hd q11.tl.tl q10.tl.tl q12.tl.tl q13.tl.tl hw) ?_; rintro _ _ ⟨a1, c1, vs1, hX1, hI1, hl1, rfl, rfl, nt1⟩) | (refine J.perm br4 ?_; refine J.mup (a := (j : Int)) (ev := evI) (sideN st.2 st.1 v x.h).1 keyedI ekI_inj mt hkey hΓ (fun h4 mt4 => ?_)))) | (first | (refine J.o 0 ?_; refine J.ev' hΓ ?_) | refine J.nil ?_ | (refine J.o 4 ?_; first | refine J.lT default hΓ ?_ | refine J.lR hΓ ?_) | (refine J.o 3 ?_; first | refine J.iJ hΓ ?_ | refine J.ev' hΓ ?_) | (refine J.o 1 ?_; first | refine J.ad ?_ | refine J.ng ?_) | (refine J.o 5 ?_; first | refine J.t0 hΓ ?_ | refine J.t1 hΓ ?_) | (refine J.o 7 ?_; refine J.al hΓ (fun _ => ?_)) | (refine J.o 8 ?_; refine J.bd hΓ ?_) | (refine J.o 9 ?_; refine J.bl hΓ (fun _ => ?_)) | (refine J.o 10 ?_; refine J.ev' hΓ ?_) | (refine J.o 11 ?_; refine J.ev' hΓ ?_)))
      | (first | (refine JE.is ?_; first | refine JE.s0 ?_ | refine JE.s2 ?_ | refine JE.s3 ?_ | refine JE.nil ?_ | refine JE.s4 rfl (fun w hw => (by first | exact hw.drop.drop.drop.drop)) ?_) | refine eK0.nn ?_ | refine eK2.nn ?_ | (refine eK3.is ?_; refine eK3.nn (fun w hw => (by first | exact hw.drop.drop.drop.drop)) ?_) | refine brK.nn ?_)
      | (first | refine JC.seq ?_ | refine JC.region ?_ | refine JC.block ?_ | refine JC.ret ?_ | refine JC.exit ?_ | refine JC.skip ?_ | refine thenK.nn ?_ | refine thenK.r ?_ | refine thenK.x ?_ | refine blockK.nn ?_ | refine blockK.hit rfl ?_ | refine JC.condF rfl ?_ | (refine JC.cond rfl (fun hc => ?_) (fun hc => ?_) <;> ((try simp only [decide_eq_true_eq, decide_eq_false_iff_not, beq_iff_eq, beq_eq_false_iff_ne, bne_iff_ne, bne_eq_false_iff_eq, Bool.not_eq_true', Bool.not_eq_false', Bool.not_eq_true, Bool.not_eq_false] at hc) <;> first | (first | (exact absurd rfl hc) | (exfalso; omega) | (exact absurd (hc.symm.trans (by assumption : _ = false)) (by decide)) | (exact absurd (hc.symm.trans (by assumption : _ = true)) (by decide))) | skip)) | refine drawK.nn ?_ | refine loopK.x ?_)
      | (fail)
      | fail
    refine Br.done (by kernel_rfl) ?_
    repeat' first
      | (refine J.isJ ?_; first | (fail) | (first | (refine J.o 0 ?_; refine J.ev' hΓ ?_) | refine J.nil ?_ | (refine J.o 4 ?_; first | refine J.lT default hΓ ?_ | refine J.lR hΓ ?_) | (refine J.o 3 ?_; first | refine J.iJ hΓ ?_ | refine J.ev' hΓ ?_) | (refine J.o 1 ?_; first | refine J.ad ?_ | refine J.ng ?_) | (refine J.o 5 ?_; first | refine J.t0 hΓ ?_ | refine J.t1 hΓ ?_) | (refine J.o 7 ?_; refine J.al hΓ (fun _ => ?_)) | (refine J.o 8 ?_; refine J.bd hΓ ?_) | (refine J.o 9 ?_; refine J.bl hΓ (fun _ => ?_)) | (refine J.o 10 ?_; refine J.ev' hΓ ?_) | (refine J.o 11 ?_; refine J.ev' hΓ ?_)))
      | (first | refine JC.seq ?_ | refine JC.region ?_ | refine JC.block ?_ | refine JC.ret ?_ | refine JC.exit ?_ | refine JC.skip ?_ | refine thenK.nn ?_ | refine thenK.r ?_ | refine thenK.x ?_ | refine blockK.nn ?_ | refine blockK.hit rfl ?_ | refine JC.condF rfl ?_ | (refine JC.cond rfl (fun hc => ?_) (fun hc => ?_) <;> ((try simp only [decide_eq_true_eq, decide_eq_false_iff_not, beq_iff_eq, beq_eq_false_iff_ne, bne_iff_ne, bne_eq_false_iff_eq, Bool.not_eq_true', Bool.not_eq_false', Bool.not_eq_true, Bool.not_eq_false] at hc) <;> first | (first | (exact absurd rfl hc) | (exfalso; omega) | (exact absurd (hc.symm.trans (by assumption : _ = false)) (by decide)) | (exact absurd (hc.symm.trans (by assumption : _ = true)) (by decide))) | skip)) | refine drawK.nn ?_ | refine loopK.x ?_)
      | (fail)
      | fail
    all_goals first | (exfalso; omega) | skip
    refine loopK.nn (m2 - 1) (by omega) (by repeat (first | refine Ag.upd rfl ?_ | exact Ag.hv)) ⟨_, ⟨k + 1, _, a1, c1, vs1, hX1, hI1, hl1, h4, ?_, by omega, hsn2.symm, nt1, mt4, rfl⟩, fun w hw => H.sel (l := [_, _, _, _, _, _]) (M := Ly) hw [1, 2, 3, 4, 0]⟩
    show Value.int .i64 _ = _; congr 1
  rw [if_neg hl0] at hsn2
  by_cases hh0 : x.h = 0
  · rw [if_pos hh0] at hsn2
    repeat' first
      | (refine J.isJ ?_; first | (first | (refine J.o 3 ?_; refine J.iJ hΓ ?_ (hs := hso)) | (refine J.o 4 ?_; first | refine J.lR hΓ ?_ (hr := qb'.tl.tl.tl.tl.tl.tl) | refine J.lR hΓ ?_ (hr := Rd.hd.tl.tl.tl.tl.tl) | (refine J.lT default hΓ ?_ (hs := hso) (hr := qO.tl.tl.tl.tl.tl.tl); rw [hv]))) | (first | (refine J.o 0 ?_; refine J.ev' hΓ ?_) | refine J.nil ?_ | (refine J.o 4 ?_; first | refine J.lT default hΓ ?_ | refine J.lR hΓ ?_) | (refine J.o 3 ?_; first | refine J.iJ hΓ ?_ | refine J.ev' hΓ ?_) | (refine J.o 1 ?_; first | refine J.ad ?_ | refine J.ng ?_) | (refine J.o 5 ?_; first | refine J.t0 hΓ ?_ | refine J.t1 hΓ ?_) | (refine J.o 7 ?_; refine J.al hΓ (fun _ => ?_)) | (refine J.o 8 ?_; refine J.bd hΓ ?_) | (refine J.o 9 ?_; refine J.bl hΓ (fun _ => ?_)) | (refine J.o 10 ?_; refine J.ev' hΓ ?_) | (refine J.o 11 ?_; refine J.ev' hΓ ?_)))
      | (first | refine JC.seq ?_ | refine JC.region ?_ | refine JC.block ?_ | refine JC.ret ?_ | refine JC.exit ?_ | refine JC.skip ?_ | refine thenK.nn ?_ | refine thenK.r ?_ | refine thenK.x ?_ | refine blockK.nn ?_ | refine blockK.hit rfl ?_ | refine JC.condF rfl ?_ | (refine JC.cond rfl (fun hc => ?_) (fun hc => ?_) <;> ((try simp only [decide_eq_true_eq, decide_eq_false_iff_not, beq_iff_eq, beq_eq_false_iff_ne, bne_iff_ne, bne_eq_false_iff_eq, Bool.not_eq_true', Bool.not_eq_false', Bool.not_eq_true, Bool.not_eq_false] at hc) <;> first | (first | (exact absurd rfl hc) | (exfalso; omega) | (exact absurd (hc.symm.trans (by assumption : _ = false)) (by decide)) | (exact absurd (hc.symm.trans (by assumption : _ = true)) (by decide))) | skip)) | refine drawK.nn ?_ | refine loopK.x ?_)
      | (fail)
      | fail
    all_goals first | (exfalso; omega) | skip
    refine JC.drawE (hA :: [(b17, .cells ⟨[.int .i64 (x.p : Int), .int .i64 (x.l : Int), .int .i64 (x.h : Int)]⟩ 107 (0, 0))] :: Ly) [7, 8] [7] [(4,0),(0,1),(0,2),(0,3),(0,4),(0,5),(4,6),(3,7),(2,8)] 0 _ (by kernel_rfl) (by kernel_rfl) rfl ?_
    repeat' first
      | (refine J.isJ ?_; first | (first | (refine J.o 4 ?_; first | refine J.lR hΓ ?_ (hr := q12'.tl.tl) | refine J.lR hΓ ?_ (hr := Rd.hd.tl)) | (refine J.o 9 ?_; first | (refine J.callvx eNet3 rfl rfl rfl (fun w hw => sideC_any nt st.2 mt (-v) (by omega) x.l (by omega) (by omega) RdH.hd q11.tl.tl q10.tl.tl q12.tl.tl q13.tl.tl hw) ?_; rintro _ _ ⟨a1, c1, vs1, hX1, hI1, hl1, rfl, rfl, nt1⟩) | (refine J.perm br4 ?_; refine J.mup (a := (j : Int)) (ev := evI) (sideN st.2 st.1 (-v) x.l).1 keyedI ekI_inj mt hkey hΓ (fun h4 mt4 => ?_)))) | (first | (refine J.o 0 ?_; refine J.ev' hΓ ?_) | refine J.nil ?_ | (refine J.o 4 ?_; first | refine J.lT default hΓ ?_ | refine J.lR hΓ ?_) | (refine J.o 3 ?_; first | refine J.iJ hΓ ?_ | refine J.ev' hΓ ?_) | (refine J.o 1 ?_; first | refine J.ad ?_ | refine J.ng ?_) | (refine J.o 5 ?_; first | refine J.t0 hΓ ?_ | refine J.t1 hΓ ?_) | (refine J.o 7 ?_; refine J.al hΓ (fun _ => ?_)) | (refine J.o 8 ?_; refine J.bd hΓ ?_) | (refine J.o 9 ?_; refine J.bl hΓ (fun _ => ?_)) | (refine J.o 10 ?_; refine J.ev' hΓ ?_) | (refine J.o 11 ?_; refine J.ev' hΓ ?_)))
      | (first | (refine JE.is ?_; first | refine JE.s0 ?_ | refine JE.s2 ?_ | refine JE.s3 ?_ | refine JE.nil ?_ | refine JE.s4 rfl (fun w hw => (by first | exact hw.drop.drop.drop.drop)) ?_) | refine eK0.nn ?_ | refine eK2.nn ?_ | (refine eK3.is ?_; refine eK3.nn (fun w hw => (by first | exact hw.drop.drop.drop.drop)) ?_) | refine brK.nn ?_)
      | (first | refine JC.seq ?_ | refine JC.region ?_ | refine JC.block ?_ | refine JC.ret ?_ | refine JC.exit ?_ | refine JC.skip ?_ | refine thenK.nn ?_ | refine thenK.r ?_ | refine thenK.x ?_ | refine blockK.nn ?_ | refine blockK.hit rfl ?_ | refine JC.condF rfl ?_ | (refine JC.cond rfl (fun hc => ?_) (fun hc => ?_) <;> ((try simp only [decide_eq_true_eq, decide_eq_false_iff_not, beq_iff_eq, beq_eq_false_iff_ne, bne_iff_ne, bne_eq_false_iff_eq, Bool.not_eq_true', Bool.not_eq_false', Bool.not_eq_true, Bool.not_eq_false] at hc) <;> first | (first | (exact absurd rfl hc) | (exfalso; omega) | (exact absurd (hc.symm.trans (by assumption : _ = false)) (by decide)) | (exact absurd (hc.symm.trans (by assumption : _ = true)) (by decide))) | skip)) | refine drawK.nn ?_ | refine loopK.x ?_)
      | (fail)
      | fail
    refine Br.done (by kernel_rfl) ?_
    repeat' first
      | (refine J.isJ ?_; first | (fail) | (first | (refine J.o 0 ?_; refine J.ev' hΓ ?_) | refine J.nil ?_ | (refine J.o 4 ?_; first | refine J.lT default hΓ ?_ | refine J.lR hΓ ?_) | (refine J.o 3 ?_; first | refine J.iJ hΓ ?_ | refine J.ev' hΓ ?_) | (refine J.o 1 ?_; first | refine J.ad ?_ | refine J.ng ?_) | (refine J.o 5 ?_; first | refine J.t0 hΓ ?_ | refine J.t1 hΓ ?_) | (refine J.o 7 ?_; refine J.al hΓ (fun _ => ?_)) | (refine J.o 8 ?_; refine J.bd hΓ ?_) | (refine J.o 9 ?_; refine J.bl hΓ (fun _ => ?_)) | (refine J.o 10 ?_; refine J.ev' hΓ ?_) | (refine J.o 11 ?_; refine J.ev' hΓ ?_)))
      | (first | refine JC.seq ?_ | refine JC.region ?_ | refine JC.block ?_ | refine JC.ret ?_ | refine JC.exit ?_ | refine JC.skip ?_ | refine thenK.nn ?_ | refine thenK.r ?_ | refine thenK.x ?_ | refine blockK.nn ?_ | refine blockK.hit rfl ?_ | refine JC.condF rfl ?_ | (refine JC.cond rfl (fun hc => ?_) (fun hc => ?_) <;> ((try simp only [decide_eq_true_eq, decide_eq_false_iff_not, beq_iff_eq, beq_eq_false_iff_ne, bne_iff_ne, bne_eq_false_iff_eq, Bool.not_eq_true', Bool.not_eq_false', Bool.not_eq_true, Bool.not_eq_false] at hc) <;> first | (first | (exact absurd rfl hc) | (exfalso; omega) | (exact absurd (hc.symm.trans (by assumption : _ = false)) (by decide)) | (exact absurd (hc.symm.trans (by assumption : _ = true)) (by decide))) | skip)) | refine drawK.nn ?_ | refine loopK.x ?_)
      | (fail)
      | fail
    all_goals first | (exfalso; omega) | skip
    refine loopK.nn (m2 - 1) (by omega) (by repeat (first | refine Ag.upd rfl ?_ | exact Ag.hv)) ⟨_, ⟨k + 1, _, a1, c1, vs1, hX1, hI1, hl1, h4, ?_, by omega, hsn2.symm, nt1, mt4, rfl⟩, fun w hw => H.sel (l := [_, _, _, _, _, _]) (M := Ly) hw [1, 2, 3, 4, 0]⟩
    show Value.int .i64 _ = _; congr 1
  rw [if_neg hh0] at hsn2
  have hs1 := sideN_len st.2 st.1 (-v) x.l
  have hs2 := sideN_len st.2 (sideN st.2 st.1 (-v) x.l).2 v x.h
  have hm : ∀ (s : NSt) (vs1 : List NV), vs1.map pnV = s.1 → vs1.length = s.1.length := fun s vs1 h => by rw [← h, List.length_map]
  repeat' first
    | (refine J.isJ ?_; first | (first | (refine J.o 3 ?_; refine J.iJ hΓ ?_ (hs := hso)) | (refine J.o 4 ?_; first | refine J.lR hΓ ?_ (hr := qb'.tl.tl.tl.tl.tl.tl) | refine J.lR hΓ ?_ (hr := Rd.hd.tl.tl.tl.tl.tl) | (refine J.lT default hΓ ?_ (hs := hso) (hr := qO.tl.tl.tl.tl.tl.tl); rw [hv])) | (refine J.o 9 ?_; refine J.callvx eNet3 rfl rfl rfl (fun w hw => sideC_any nt st.2 mt (-v) (by omega) x.l (by omega) (by omega) RdH.hd q11.tl.tl q10.tl.tl q12.tl.tl q13.tl.tl hw) ?_; rintro _ _ ⟨a1, c1, vs1, hX1, hI1, hl1, rfl, rfl, nt1⟩)) | (first | (refine J.o 0 ?_; refine J.ev' hΓ ?_) | refine J.nil ?_ | (refine J.o 4 ?_; first | refine J.lT default hΓ ?_ | refine J.lR hΓ ?_) | (refine J.o 3 ?_; first | refine J.iJ hΓ ?_ | refine J.ev' hΓ ?_) | (refine J.o 1 ?_; first | refine J.ad ?_ | refine J.ng ?_) | (refine J.o 5 ?_; first | refine J.t0 hΓ ?_ | refine J.t1 hΓ ?_) | (refine J.o 7 ?_; refine J.al hΓ (fun _ => ?_)) | (refine J.o 8 ?_; refine J.bd hΓ ?_) | (refine J.o 9 ?_; refine J.bl hΓ (fun _ => ?_)) | (refine J.o 10 ?_; refine J.ev' hΓ ?_) | (refine J.o 11 ?_; refine J.ev' hΓ ?_)))
    | (first | refine JC.seq ?_ | refine JC.region ?_ | refine JC.block ?_ | refine JC.ret ?_ | refine JC.exit ?_ | refine JC.skip ?_ | refine thenK.nn ?_ | refine thenK.r ?_ | refine thenK.x ?_ | refine blockK.nn ?_ | refine blockK.hit rfl ?_ | refine JC.condF rfl ?_ | (refine JC.cond rfl (fun hc => ?_) (fun hc => ?_) <;> ((try simp only [decide_eq_true_eq, decide_eq_false_iff_not, beq_iff_eq, beq_eq_false_iff_ne, bne_iff_ne, bne_eq_false_iff_eq, Bool.not_eq_true', Bool.not_eq_false', Bool.not_eq_true, Bool.not_eq_false] at hc) <;> first | (first | (exact absurd rfl hc) | (exfalso; omega) | (exact absurd (hc.symm.trans (by assumption : _ = false)) (by decide)) | (exact absurd (hc.symm.trans (by assumption : _ = true)) (by decide))) | skip)) | refine drawK.nn ?_ | refine loopK.x ?_)
    | (fail)
    | fail
  all_goals first | (exfalso; omega) | skip
  have hv1 := hm _ vs1 nt1.eq
  refine JC.drawE (hA :: [(b17, .cells ⟨[.int .i64 (x.p : Int), .int .i64 (x.l : Int), .int .i64 (x.h : Int)]⟩ 107 (0, 0))] :: Ly) [8, 9, 11, 12] [8, 9, 11] [(4,0),(0,1),(4,2),(0,3),(0,4),(0,5),(0,6),(4,7),(3,8),(3,9),(0,10),(3,11),(2,12)] 0 _ (by kernel_rfl) (by kernel_rfl) rfl ?_
  repeat' first
    | (refine J.isJ ?_; first | (first | (refine J.o 4 ?_; first | refine J.lR hΓ ?_ (hr := q12'.tl.tl) | refine J.lR hΓ ?_ (hr := q10'.tl.tl) | refine J.lR hΓ ?_ (hr := Rd.hd.tl)) | (refine J.o 9 ?_; first | (refine J.callvx eNet3 rfl rfl rfl (fun w hw => sideC_any nt1 st.2 mt v (by omega) x.h (by omega) (by omega) RdH.hd q11.tl.tl q10.tl.tl q12.tl.tl q13.tl.tl hw) ?_; rintro _ _ ⟨a2, c2, vs2, hX2, hI2, hl2, rfl, rfl, nt2⟩) | refine J.bl hΓ (fun b20 => ?_) | (refine J.callvx eNet1 rfl rfl rfl (fun w hw => addN_any ⟨4, 0, some ⟨b20, 0, none⟩, 2, [((sideN st.2 st.1 (-v) x.l).1 : Int), ((sideN st.2 (sideN st.2 st.1 (-v) x.l).2 v x.h).1 : Int)]⟩ nt2.ow (by have := hm _ vs2 nt2.eq; omega) (hw.perm ((List.Perm.swap _ _ _).trans ((List.Perm.swap _ _ _).cons _)))) ?_; rintro _ _ ⟨rfl, a3, c3, hX3, o3, rfl⟩; rw [hm _ vs2 nt2.eq]) | (refine J.perm br5 ?_; refine J.mup (a := (j : Int)) (ev := evI) (sideN st.2 (sideN st.2 st.1 (-v) x.l).2 v x.h).2.1.length keyedI ekI_inj mt hkey hΓ (fun h4 mt4 => ?_)))) | (first | (refine J.o 0 ?_; refine J.ev' hΓ ?_) | refine J.nil ?_ | (refine J.o 4 ?_; first | refine J.lT default hΓ ?_ | refine J.lR hΓ ?_) | (refine J.o 3 ?_; first | refine J.iJ hΓ ?_ | refine J.ev' hΓ ?_) | (refine J.o 1 ?_; first | refine J.ad ?_ | refine J.ng ?_) | (refine J.o 5 ?_; first | refine J.t0 hΓ ?_ | refine J.t1 hΓ ?_) | (refine J.o 7 ?_; refine J.al hΓ (fun _ => ?_)) | (refine J.o 8 ?_; refine J.bd hΓ ?_) | (refine J.o 9 ?_; refine J.bl hΓ (fun _ => ?_)) | (refine J.o 10 ?_; refine J.ev' hΓ ?_) | (refine J.o 11 ?_; refine J.ev' hΓ ?_)))
    | (first | (refine JE.is ?_; first | refine JE.s0 ?_ | refine JE.s2 ?_ | refine JE.s3 ?_ | refine JE.nil ?_ | refine JE.s4 rfl (fun w hw => (by first | exact hw.drop.drop.drop.drop | exact hw.drop.drop.drop.drop.drop)) ?_) | refine eK0.nn ?_ | refine eK2.nn ?_ | (refine eK3.is ?_; refine eK3.nn (fun w hw => (by first | exact hw.drop.drop.drop.drop | exact hw.drop.drop.drop.drop.drop)) ?_) | refine brK.nn ?_)
    | (first | refine JC.seq ?_ | refine JC.region ?_ | refine JC.block ?_ | refine JC.ret ?_ | refine JC.exit ?_ | refine JC.skip ?_ | refine thenK.nn ?_ | refine thenK.r ?_ | refine thenK.x ?_ | refine blockK.nn ?_ | refine blockK.hit rfl ?_ | refine JC.condF rfl ?_ | (refine JC.cond rfl (fun hc => ?_) (fun hc => ?_) <;> ((try simp only [decide_eq_true_eq, decide_eq_false_iff_not, beq_iff_eq, beq_eq_false_iff_ne, bne_iff_ne, bne_eq_false_iff_eq, Bool.not_eq_true', Bool.not_eq_false', Bool.not_eq_true, Bool.not_eq_false] at hc) <;> first | (first | (exact absurd rfl hc) | (exfalso; omega) | (exact absurd (hc.symm.trans (by assumption : _ = false)) (by decide)) | (exact absurd (hc.symm.trans (by assumption : _ = true)) (by decide))) | skip)) | refine drawK.nn ?_ | refine loopK.x ?_)
    | (fail)
    | fail
  refine Br.done (by kernel_rfl) ?_
  repeat' first
    | (refine J.isJ ?_; first | (fail) | (first | (refine J.o 0 ?_; refine J.ev' hΓ ?_) | refine J.nil ?_ | (refine J.o 4 ?_; first | refine J.lT default hΓ ?_ | refine J.lR hΓ ?_) | (refine J.o 3 ?_; first | refine J.iJ hΓ ?_ | refine J.ev' hΓ ?_) | (refine J.o 1 ?_; first | refine J.ad ?_ | refine J.ng ?_) | (refine J.o 5 ?_; first | refine J.t0 hΓ ?_ | refine J.t1 hΓ ?_) | (refine J.o 7 ?_; refine J.al hΓ (fun _ => ?_)) | (refine J.o 8 ?_; refine J.bd hΓ ?_) | (refine J.o 9 ?_; refine J.bl hΓ (fun _ => ?_)) | (refine J.o 10 ?_; refine J.ev' hΓ ?_) | (refine J.o 11 ?_; refine J.ev' hΓ ?_)))
    | (first | refine JC.seq ?_ | refine JC.region ?_ | refine JC.block ?_ | refine JC.ret ?_ | refine JC.exit ?_ | refine JC.skip ?_ | refine thenK.nn ?_ | refine thenK.r ?_ | refine thenK.x ?_ | refine blockK.nn ?_ | refine blockK.hit rfl ?_ | refine JC.condF rfl ?_ | (refine JC.cond rfl (fun hc => ?_) (fun hc => ?_) <;> ((try simp only [decide_eq_true_eq, decide_eq_false_iff_not, beq_iff_eq, beq_eq_false_iff_ne, bne_iff_ne, bne_eq_false_iff_eq, Bool.not_eq_true', Bool.not_eq_false', Bool.not_eq_true, Bool.not_eq_false] at hc) <;> first | (first | (exact absurd rfl hc) | (exfalso; omega) | (exact absurd (hc.symm.trans (by assumption : _ = false)) (by decide)) | (exact absurd (hc.symm.trans (by assumption : _ = true)) (by decide))) | skip)) | refine drawK.nn ?_ | refine loopK.x ?_)
    | (fail)
    | fail
  all_goals first | (exfalso; omega) | skip
  have hlx : (vs2 ++ [(⟨4, 0, some ⟨b20, 0, none⟩, 2, [((sideN st.2 st.1 (-v) x.l).1 : Int), ((sideN st.2 (sideN st.2 st.1 (-v) x.l).2 v x.h).1 : Int)]⟩ : NV)]).length = (sideN st.2 (sideN st.2 st.1 (-v) x.l).2 v x.h).2.1.length + 1 := by rw [← hm _ vs2 nt2.eq]; simp
  refine loopK.nn (m2 - 1) (by omega) (by repeat (first | refine Ag.upd rfl ?_ | exact Ag.hv)) ⟨_, ⟨k + 1, _, a3, c3, vs2 ++ [(⟨4, 0, some ⟨b20, 0, none⟩, 2, [((sideN st.2 st.1 (-v) x.l).1 : Int), ((sideN st.2 (sideN st.2 st.1 (-v) x.l).2 v x.h).1 : Int)]⟩ : NV)], hX3, _, hl2, h4, ?_, by omega, hsn2.symm, nt2.new _ (fun x hx => List.mem_append_right _ hx) ((slArg b20 [((sideN st.2 st.1 (-v) x.l).1 : Int), ((sideN st.2 (sideN st.2 st.1 (-v) x.l).2 v x.h).1 : Int)] 3).sub fun x hx => List.mem_append_left _ hx) o3 nt2.mp, mt4, by rw [hlx]; rfl⟩, fun w hw => (H.sel (l := [_, _, _, _, _, _, _]) (M := Ly) hw [1, 2, 3, 4, 5, 0]).mgN⟩
  show Value.int .i64 _ = _; congr 1
end Go.Proofs.Ytbhgahjeocnfcaa
namespace Go.Proofs.Ytbhgahjeocnfcaa
open Go Go.Cx Go.RowKit
set_option linter.unusedVariables false
set_option linter.unusedSimpArgs false
set_option maxHeartbeats 4000000
attribute [local irreducible] J JC thenK blockK loopK drawK retK QW Qt pel List.set Calls
open Go.Maps Go.Lib
set_option maxRecDepth 8000
theorem tru_at (s : Nat × Nat) (X : List PN) (x : PN) {i : Nat} (hi : i < X.length) : (truT s (X ++ [x])).getD i default = (truT s X).getD i default := by
  rw [truT_snoc, app_getD _ _ _ (by rw [truT_len]; exact hi)]
theorem tru_last (s : Nat × Nat) (X : List PN) (x : PN) : (truT s (X ++ [x])).getD X.length default = truS s (truT s X) x := by
  have := app_at (truT s X) (truS s (truT s X) x) []
  rw [truT_len] at this
  rw [truT_snoc]
  exact this
theorem var_at (X : List PN) (x : PN) {i : Nat} (hi : i < X.length) : (varT (X ++ [x])).getD i default = (varT X).getD i default := by
  rw [varT_snoc, app_getD _ _ _ (by rw [varT_len]; exact hi)]
theorem var_last (X : List PN) (x : PN) : (varT (X ++ [x])).getD X.length default = varS (varT X) x := by
  have := app_at (varT X) (varS (varT X) x) []
  rw [varT_len] at this
  rw [varT_snoc]
  exact this
theorem nd_at (X : List PN) (x : PN) {i : Nat} (hi : i < X.length) : (X ++ [x]).getD i default = X.getD i default := app_getD _ _ _ hi
theorem nd_lst (X : List PN) (x : PN) : (X ++ [x]).getD X.length default = x := app_at X x []
theorem formAll_snoc (N : Int) : ∀ (X : List PN) (k : Int) (x : PN), formAll N (X ++ [x]) k = (formAll N X k && formedP x N (k + X.length))
  | [], k, x => by simp [formAll]
  | y :: X, k, x => by
    show (formedP y N k && formAll N (X ++ [x]) (k + 1)) = _
    rw [formAll_snoc N X (k + 1) x]
    show _ = ((formedP y N k && formAll N X (k + 1)) && _)
    rw [Bool.and_assoc, List.length_cons]
    congr 3
    omega
theorem cut_zero {s t : Nat × Nat} (hs : okS s) (h : ∀ u, hasB s u = true → hasB t u = false) : cutS s t = (0, 0) := by
  have e1 : s.1 &&& t.1 = 0 := by
    apply Nat.eq_of_testBit_eq
    intro i
    rw [Nat.testBit_and, Nat.zero_testBit]
    cases hi : s.1.testBit i with
    | false => rfl
    | true =>
      have hil : i < 64 := Nat.lt_of_not_le fun hge => by
        rw [Nat.testBit_lt_two_pow (Nat.lt_of_lt_of_le hs.1 (Nat.pow_le_pow_right (by omega) hge))] at hi
        cases hi
      have := h ((i : Int) + 1)
      unfold hasB at this
      rw [if_pos (by omega), if_pos (by omega), show ((i : Int) + 1 - 1).toNat = i by omega] at this
      rw [this hi]; rfl
  have e2 : s.2 &&& t.2 = 0 := by
    apply Nat.eq_of_testBit_eq
    intro i
    rw [Nat.testBit_and, Nat.zero_testBit]
    cases hi : s.2.testBit i with
    | false => rfl
    | true =>
      have hil : i < 64 := Nat.lt_of_not_le fun hge => by
        rw [Nat.testBit_lt_two_pow (Nat.lt_of_lt_of_le hs.2 (Nat.pow_le_pow_right (by omega) hge))] at hi
        cases hi
      have := h ((i : Int) + 65)
      unfold hasB at this
      rw [if_neg (by omega), if_pos (by omega), if_neg (by omega), if_pos (by omega), show ((i : Int) + 65 - 65).toNat = i by omega] at this
      rw [this hi]; rfl
  unfold cutS
  rw [e1, e2]
structure NW (N : Int) (X : List PN) : Prop where
  form : formAll N X 0 = true
  dec : DecP X
  dci : DciP X
  sm : ∀ x ∈ X, x.2.2.length ≤ 2
structure NodW (X : List PN) (i : Nat) (F : Nat × Nat → Bool) (V : Int → Prop) : Prop where
  lt : i < X.length
  tr : ∀ s, okS s → (truT s X).getD i default = F s
  va : ∀ u, hasB ((varT X).getD i default) u = true → V u
theorem NodW.more {X : List PN} {i : Nat} {F : Nat × Nat → Bool} {V : Int → Prop} (h : NodW X i F V) (x : PN) : NodW (X ++ [x]) i F V :=
  ⟨by rw [List.length_append]; have := h.lt; omega, fun s hs => by rw [tru_at s X x h.lt]; exact h.tr s hs, fun u hu => by rw [var_at X x h.lt] at hu; exact h.va u hu⟩
theorem NodW.imp {X : List PN} {i : Nat} {F G : Nat × Nat → Bool} {V W : Int → Prop} (h : NodW X i F V) (hF : ∀ s, okS s → F s = G s) (hV : ∀ u, V u → W u) : NodW X i G W :=
  ⟨h.lt, fun s hs => by rw [h.tr s hs, hF s hs], fun u hu => hV u (h.va u hu)⟩
theorem formed_at {N : Int} {X : List PN} (h : formAll N X 0 = true) {i : Nat} (hi : i < X.length) : ∀ k ∈ (X.getD i default).2.2, 0 ≤ k ∧ k < (i : Int) := by
  have := formAll_at N X 0 h i hi
  rw [Int.zero_add] at this
  exact formed_rng this
theorem hd_at {N : Int} {X : List PN} (h : formAll N X 0 = true) (x : PN) {i : Nat} (hi : i < X.length) : hdP (X ++ [x]) i = hdP X i := by
  have hr := formed_at h hi
  unfold hdP hdL
  rw [nd_at X x hi]
  have e : ∀ k ∈ (X.getD i default).2.2, (X ++ [x]).getD k.toNat default = X.getD k.toNat default := fun k hk => nd_at X x (by have := hr k hk; omega)
  rw [List.filter_congr fun k hk => by rw [e k hk]]
  congr 2
  refine List.map_congr_left fun k hk => ?_
  rw [e k (List.mem_filter.1 hk).1]
theorem pref_at {X : List PN} (x : PN) {l : List Int} (hl : ∀ k ∈ l, 0 ≤ k ∧ k < (X.length : Int)) : prefS (varT (X ++ [x])) l = prefS (varT X) l := by
  unfold prefS
  have key : ∀ (l : List Int) (s : Nat × Nat), (∀ k ∈ l, 0 ≤ k ∧ k < (X.length : Int)) → l.foldl (fun s (k : Int) => uniS s ((varT (X ++ [x])).getD k.toNat default)) s = l.foldl (fun s (k : Int) => uniS s ((varT X).getD k.toNat default)) s := fun l => by
    induction l with
    | nil => intro s _; rfl
    | cons k l ih =>
      intro s h
      rw [List.foldl_cons, List.foldl_cons, ih _ fun j hj => h j (List.mem_cons_of_mem _ hj)]
      have := h k List.mem_cons_self
      rw [var_at X x (by omega)]
  exact key l (0, 0) hl
theorem NW.snoc {N : Int} {X : List PN} (h : NW N X) {x : PN} (hf : formedP x N (X.length : Int) = true) (h2 : x.2.2.length ≤ 2) (hd : x.1 = 3 → ∀ q, q < x.2.2.length → cutS (prefS (varT X) (x.2.2.take q)) ((varT X).getD (x.2.2.getD q default).toNat default) = (0, 0)) (hc : x.1 = 4 → ∃ j k : Nat, x.2.2 = [(j : Int), (k : Int)] ∧ oppP (hdP X j) (hdP X k) = true) : NW N (X ++ [x]) := by
  have hxr := formed_rng hf
  refine ⟨by rw [formAll_snoc, h.form, Bool.true_and, Int.zero_add]; exact hf, ?_, ?_, ?_⟩
  · intro i hi h3 q hq
    rw [List.length_append, List.length_singleton] at hi
    rcases Nat.lt_or_ge i X.length with hlt | hge
    · rw [nd_at X x hlt] at h3 hq ⊢
      have hr := formed_at h.form hlt
      rw [pref_at x fun k hk => by have := hr k (List.mem_of_mem_take hk); omega, var_at X x (by have := hr _ (mem_g _ q hq); omega)]
      exact h.dec i hlt h3 q hq
    · obtain rfl : i = X.length := by omega
      rw [nd_lst] at h3 hq ⊢
      rw [pref_at x fun k hk => hxr k (List.mem_of_mem_take hk), var_at X x (by have := hxr _ (mem_g _ q hq); omega)]
      exact hd h3 q hq
  · intro i hi h4
    rw [List.length_append, List.length_singleton] at hi
    rcases Nat.lt_or_ge i X.length with hlt | hge
    · rw [nd_at X x hlt] at h4 ⊢
      obtain ⟨j, k, e, g⟩ := h.dci i hlt h4
      have hr := formed_at h.form hlt
      have hj := hr (j : Int) (by rw [e]; exact List.mem_cons_self)
      have hk := hr (k : Int) (by rw [e]; exact List.mem_cons_of_mem _ List.mem_cons_self)
      exact ⟨j, k, e, by rw [hd_at h.form x (by omega), hd_at h.form x (by omega)]; exact g⟩
    · obtain rfl : i = X.length := by omega
      rw [nd_lst] at h4 ⊢
      obtain ⟨j, k, e, g⟩ := hc h4
      have hj := hxr (j : Int) (by rw [e]; exact List.mem_cons_self)
      have hk := hxr (k : Int) (by rw [e]; exact List.mem_cons_of_mem _ List.mem_cons_self)
      exact ⟨j, k, e, by rw [hd_at h.form x (by omega), hd_at h.form x (by omega)]; exact g⟩
  · intro y hy
    rcases List.mem_append.1 hy with hy | hy
    · exact h.sm y hy
    · rw [List.mem_singleton.1 hy]; exact h2
structure Gr (X Y : List PN) : Prop where
  le : X.length ≤ Y.length
  nw : ∀ {i F V}, NodW X i F V → NodW Y i F V
  at_ : ∀ {i}, i < X.length → Y.getD i default = X.getD i default
  hd : ∀ {i}, i < X.length → hdP Y i = hdP X i
theorem Gr.refl (X : List PN) : Gr X X := ⟨Nat.le_refl _, fun h => h, fun _ => rfl, fun _ => rfl⟩
theorem Gr.trans {X Y Z : List PN} (h : Gr X Y) (g : Gr Y Z) : Gr X Z := ⟨Nat.le_trans h.le g.le, fun k => g.nw (h.nw k), fun hi => by rw [g.at_ (Nat.lt_of_lt_of_le hi h.le), h.at_ hi], fun hi => by rw [g.hd (Nat.lt_of_lt_of_le hi h.le), h.hd hi]⟩
theorem Gr.snoc {N : Int} {X : List PN} (h : formAll N X 0 = true) (x : PN) : Gr X (X ++ [x]) := ⟨by simp, fun k => k.more x, fun hi => nd_at X x hi, fun hi => hd_at h x hi⟩
structure LitI (order : List Int) (X : List PN) (m : List (Int × Nat)) : Prop where
  nod : (m.map (·.1)).Nodup
  all : ∀ l i, (l, i) ∈ m → X.getD i default = (2, l, []) ∧ NodW X i (fun s => litT (hasB s) l) (fun u => 0 < u ∧ (u = l ∨ u = -l)) ∧ (l ∈ order ∨ -l ∈ order)
theorem LitI.grow {order : List Int} {X Y : List PN} {m : List (Int × Nat)} (h : LitI order X m) (g : Gr X Y) : LitI order Y m := ⟨h.nod, fun l i hm => by
  obtain ⟨h1, h2, h3⟩ := h.all l i hm
  exact ⟨by rw [g.at_ h2.lt]; exact h1, g.nw h2, h3⟩⟩
theorem varI_lit {l : Int} (h : l ≠ 0 ∧ -128 ≤ l ∧ l ≤ 128) : 1 ≤ varI l ∧ varI l ≤ 128 ∧ (varI l = l ∨ varI l = -l) := by
  unfold varI
  split
  · omega
  · rw [if_pos (by omega)]; omega
theorem litN_ok {order : List Int} {N : Int} (hN : 0 ≤ N ∧ N ≤ 128) (hrg : ∀ v ∈ order, 1 ≤ v ∧ v ≤ N) {s : NSt} (nw : NW N s.1) (li : LitI order s.1 s.2) {l : Int} (hl : l ∈ order ∨ -l ∈ order) :
    NW N (litN s l).2.1 ∧ LitI order (litN s l).2.1 (litN s l).2.2 ∧ Gr s.1 (litN s l).2.1 ∧ (litN s l).2.1.getD (litN s l).1 default = (2, l, []) ∧ NodW (litN s l).2.1 (litN s l).1 (fun s => litT (hasB s) l) (fun u => 0 < u ∧ (u = l ∨ u = -l)) ∧ (litN s l).2.1.length + s.2.length = s.1.length + (litN s l).2.2.length ∧ (s.1 = [] → s.2 = [] → (litN s l).1 + 1 = (litN s l).2.1.length) := by
  have hlr : l ≠ 0 ∧ -N ≤ l ∧ l ≤ N := by
    rcases hl with h | h
    · have := hrg _ h; omega
    · have := hrg _ h; omega
  cases hg : mget s.2 l with
  | some i =>
    have e : litN s l = (i, s) := by unfold litN; rw [hg]
    rw [e]
    obtain ⟨h1, h2, h3⟩ := li.all l i (mget_mem hg)
    exact ⟨nw, li, Gr.refl _, h1, h2, rfl, fun _ h => by rw [h] at hg; cases hg⟩
  | none =>
    have e : litN s l = (s.1.length, (s.1 ++ [(2, l, [])], mput s.2 l s.1.length)) := by unfold litN; rw [hg]
    rw [e]
    have hout := mget_out hg
    have hmp : mput s.2 l s.1.length = s.2 ++ [(l, s.1.length)] := mput_new _ hout
    have hf : formedP (2, l, []) N (s.1.length : Int) = true := by
      unfold formedP validB
      simp only [List.any_nil, Bool.not_false, Bool.true_and]
      rw [if_neg (by decide), if_pos trivial, Bool.and_eq_true]
      exact ⟨decide_eq_true hlr, decide_eq_true rfl⟩
    have gr : Gr s.1 (s.1 ++ [(2, l, [])]) := Gr.snoc nw.form _
    have hnw : NodW (s.1 ++ [((2, l, []) : PN)]) s.1.length (fun s => litT (hasB s) l) (fun u => 0 < u ∧ (u = l ∨ u = -l)) := by
      refine ⟨by simp, fun t ht => ?_, fun u hu => ?_⟩
      · rw [tru_last]; rfl
      · rw [var_last] at hu
        have hvi := varI_lit (l := l) (by omega)
        have hu : hasB (withS (0, 0) (varI l)) u = true := hu
        rcases (has_with _ _ u ⟨hvi.1, hvi.2.1⟩).1 hu with h | h
        · rw [has_zero] at h; cases h
        · omega
    refine ⟨nw.snoc hf (by show 0 ≤ 2; omega) (fun h => absurd (show (2 : Int) = 3 from h) (by decide)) (fun h => absurd (show (2 : Int) = 4 from h) (by decide)), ?_, gr, nd_lst _ _, hnw, ?_, fun _ _ => by simp⟩
    · show LitI order (s.1 ++ [(2, l, [])]) (mput s.2 l s.1.length)
      rw [hmp]
      refine ⟨?_, fun l2 i hm => ?_⟩
      · rw [List.map_append, List.nodup_append]
        refine ⟨li.nod, by simp, fun a ha b hb hab => ?_⟩
        obtain ⟨p, hp, rfl⟩ := List.mem_map.1 ha
        have hb : b = l := by simpa using hb
        exact hout p.2 (by rw [← hb, ← hab]; exact hp)
      · rcases List.mem_append.1 hm with hm | hm
        · exact (li.grow gr).all l2 i hm
        · have hm := List.mem_singleton.1 hm
          injection hm with e1 e2
          subst e1 e2
          exact ⟨nd_lst _ _, hnw, hl⟩
    · show (s.1 ++ [_]).length + s.2.length = s.1.length + (mput s.2 l s.1.length).length
      rw [hmp]
      simp only [List.length_append, List.length_singleton]
      omega
def Vb (n : Nat) (order : List Int) (ns : List N3) (b : Nat) (u : Int) : Prop := ∃ j, (nd ns b).p ≤ j ∧ j < n ∧ order.getD j default = u
theorem badI_no {bf i : Int} (h : 0 ≤ i ∧ i < bf) : badI bf i = false := by
  unfold badI
  rw [decide_eq_false (by omega), decide_eq_false (by omega)]
  rfl
theorem formed_in {k : Int} (hk : k = 3 ∨ k = 4) {N bf i j : Int} (hi : 0 ≤ i ∧ i < bf) (hj : 0 ≤ j ∧ j < bf) : formedP (k, 0, [i, j]) N bf = true := by
  unfold formedP
  simp only [List.any_cons, List.any_nil, badI_no hi, badI_no hj, Bool.or_false, Bool.not_false, Bool.true_and]
  rw [if_neg (by omega), if_neg (by omega), if_pos hk]
  exact decide_eq_true trivial
theorem has_uni0 (s : Nat × Nat) (u : Int) : hasB (uniS (0, 0) s) u = hasB s u := by rw [has_uni, has_zero, Bool.false_or]
theorem with0 : withS (0, 0) (varI 0) = (0, 0) := by decide
theorem var_in (T : List (Nat × Nat)) (k : Int) (i j : Nat) (u : Int) : hasB (varS T (k, 0, [(i : Int), (j : Int)])) u = (hasB (T.getD i default) u || hasB (T.getD j default) u) := by
  unfold varS
  simp only [List.foldl_cons, List.foldl_nil, with0, has_uni, has_zero, Bool.false_or, Int.toNat_natCast]
theorem hdP_lit {X : List PN} {i : Nat} {l : Int} (h : X.getD i default = (2, l, [])) : hdP X i = [l] := by
  unfold hdP
  rw [h]
  rfl
theorem hd_and {X : List PN} {r i j : Nat} {l : Int} (hr : X.getD r default = (3, 0, [(i : Int), (j : Int)])) (hi : X.getD i default = (2, l, [])) : l ∈ hdP X r := by
  unfold hdP
  rw [hr]
  show l ∈ (if (3 : Int) = 2 then _ else if (3 : Int) = 3 then hdL X [(i : Int), (j : Int)] else [])
  rw [if_neg (by decide), if_pos rfl]
  unfold hdL
  refine List.mem_map.2 ⟨(i : Int), List.mem_filter.2 ⟨List.mem_cons_self, decide_eq_true ?_⟩, ?_⟩
  · rw [Int.toNat_natCast, hi]
  · rw [Int.toNat_natCast, hi]
theorem sideN_ok {order : List Int} {n : Nat} {ns : List N3} (w : WF n ns) (hno : order.length = n) (hnd : order.Nodup) {N : Int} (hN : 0 ≤ N ∧ N ≤ 128) (hrg : ∀ v ∈ order, 1 ≤ v ∧ v ≤ N) {s : NSt} (nw : NW N s.1) (li : LitI order s.1 s.2) (at_ : List (Int × Nat)) {l : Int} {p : Nat} (hp : p < n) (hl : l = order.getD p default ∨ l = -order.getD p default) (b : Nat) (hb0 : b ≠ 0) (hbp : p < (nd ns b).p) (hb : 2 ≤ b → ∃ k, mget at_ (b : Int) = some k ∧ NodW s.1 k (fun s => fn n ns b (asgS order s)) (Vb n order ns b)) :
    NW N (sideN at_ s l b).2.1 ∧ LitI order (sideN at_ s l b).2.1 (sideN at_ s l b).2.2 ∧ Gr s.1 (sideN at_ s l b).2.1 ∧ NodW (sideN at_ s l b).2.1 (sideN at_ s l b).1 (fun s => litT (hasB s) l && fn n ns b (asgS order s)) (fun u => (0 < u ∧ (u = l ∨ u = -l)) ∨ Vb n order ns b u) ∧ l ∈ hdP (sideN at_ s l b).2.1 (sideN at_ s l b).1 ∧ (sideN at_ s l b).2.1.length + s.2.length ≤ s.1.length + (sideN at_ s l b).2.2.length + 1 ∧ (b ≠ 1 ∨ (s.1 = [] ∧ s.2 = []) → (sideN at_ s l b).1 + 1 = (sideN at_ s l b).2.1.length) := by
  have hop := hrg _ (mem_g order p (by omega))
  have hlo : l ∈ order ∨ -l ∈ order := by
    rcases hl with h | h
    · exact .inl (h ▸ mem_g order p (by omega))
    · exact .inr (by rw [h, Int.neg_neg]; exact mem_g order p (by omega))
  obtain ⟨nw1, li1, gr1, at1, nd1, ct1, em1⟩ := litN_ok hN hrg nw li hlo
  by_cases h1 : b = 1
  · subst h1
    have e : sideN at_ s l 1 = litN s l := if_pos rfl
    rw [e]
    refine ⟨nw1, li1, gr1, nd1.imp (fun t _ => by rw [fn_1 w, Bool.and_true]) (fun u hu => .inl hu), by rw [hdP_lit at1]; exact List.mem_singleton_self _, by omega, fun h => ?_⟩
    rcases h with h | ⟨h, h'⟩
    · exact absurd rfl h
    · exact em1 h h'
  obtain ⟨k, hk, ndk⟩ := hb (by omega)
  have e : sideN at_ s l b = ((litN s l).2.1.length, ((litN s l).2.1 ++ [(3, 0, [((litN s l).1 : Int), (k : Int)])], (litN s l).2.2)) := by
    unfold sideN
    rw [if_neg h1, hk]
    rfl
  rw [e]
  clear e
  generalize litN s l = r at *
  obtain ⟨i, X, m⟩ := r
  dsimp only at nw1 li1 gr1 at1 nd1 ct1 ⊢
  have nk := gr1.nw ndk
  have hil := nd1.lt
  have hkl := nk.lt
  have okT := okS_varT X
  have hf : formedP (3, 0, [(i : Int), (k : Int)]) N (X.length : Int) = true := formed_in (.inl rfl) ⟨by omega, by omega⟩ ⟨by omega, by omega⟩
  have gr2 : Gr X (X ++ [(3, 0, [(i : Int), (k : Int)])]) := Gr.snoc nw1.form _
  have hnw : NodW (X ++ [((3, 0, [(i : Int), (k : Int)]) : PN)]) X.length (fun s => litT (hasB s) l && fn n ns b (asgS order s)) (fun u => (0 < u ∧ (u = l ∨ u = -l)) ∨ Vb n order ns b u) := by
    refine ⟨by simp, fun t ht => ?_, fun u hu => ?_⟩
    · rw [tru_last]
      show (!([(i : Int), (k : Int)].any fun k => !((truT t X).getD k.toNat default))) = _
      simp only [List.any_cons, List.any_nil, Int.toNat_natCast, Bool.or_false]
      rw [nd1.tr t ht, nk.tr t ht]
      cases litT (hasB t) l <;> cases fn n ns b (asgS order t) <;> rfl
    · rw [var_last, var_in, Bool.or_eq_true] at hu
      rcases hu with h | h
      · exact .inl (nd1.va u h)
      · exact .inr (nk.va u h)
  refine ⟨nw1.snoc hf (Nat.le_refl 2) (fun _ q hq => ?_) (fun h => absurd (show (3 : Int) = 4 from h) (by decide)), li1.grow gr2, gr1.trans gr2, hnw, hd_and (nd_lst _ _) (by rw [nd_at _ _ hil]; exact at1), ?_, fun _ => by simp⟩
  · have hq : q < 2 := hq
    rcases Nat.lt_or_ge q 1 with h | h
    · obtain rfl : q = 0 := by omega
      exact cut_zero okS_zero fun u hu => by
        rw [show prefS (varT X) (List.take 0 [(i : Int), (k : Int)]) = (0, 0) from rfl, has_zero] at hu
        cases hu
    · obtain rfl : q = 1 := by omega
      refine cut_zero (okS_fold _ okT _ _ okS_zero) fun u hu => ?_
      have hu : hasB (uniS (0, 0) ((varT X).getD i default)) u = true := hu
      rw [has_uni0] at hu
      have hu := nd1.va u hu
      show hasB ((varT X).getD k default) u = false
      cases hc : hasB ((varT X).getD k default) u with
      | false => rfl
      | true =>
        obtain ⟨j, g1, g2, g3⟩ := nk.va u hc
        have hgj := hrg _ (mem_g order j (by omega))
        have hlp : order.getD j default = order.getD p default := by omega
        rw [List.getD_eq_getElem?_getD, List.getD_eq_getElem?_getD, List.getElem?_eq_getElem (by omega), List.getElem?_eq_getElem (by omega)] at hlp
        exact absurd (show order[p] = order[j] from hlp.symm) (List.pairwise_iff_getElem.1 hnd p j (by omega) (by omega) (by omega))
  · simp only [List.length_append, List.length_singleton]
    omega
structure NI (n : Nat) (order : List Int) (ns : List N3) (N : Int) (st : NSt × List (Int × Nat)) (P : Nat → Prop) (c : Nat) : Prop where
  nw : NW N st.1.1
  li : LitI order st.1.1 st.1.2
  at_ : ∀ b : Nat, P b → ∃ k, mget st.2 (b : Int) = some k ∧ NodW st.1.1 k (fun s => fn n ns b (asgS order s)) (Vb n order ns b)
  ct : st.1.1.length ≤ st.1.2.length + 3 * c
theorem stepNt_ok {order : List Int} {n : Nat} {ns : List N3} (w : WF n ns) (hno : order.length = n) (hnd : order.Nodup) {N : Int} (hN : 0 ≤ N ∧ N ≤ 128) (hrg : ∀ v ∈ order, 1 ≤ v ∧ v ≤ N) {st : NSt × List (Int × Nat)} {P : Nat → Prop} {c : Nat} (ni : NI n order ns N st P c) {j : Nat} (hj2 : 2 ≤ j) (hjl : j < ns.length) (hl : 2 ≤ (nd ns j).l → P (nd ns j).l) (hh : 2 ≤ (nd ns j).h → P (nd ns j).h) :
    NI n order ns N (stepNt order ns st j) (fun b => P b ∨ b = j) (c + 1) ∧ (((nd ns j).l < 2 → (nd ns j).h < 2 → st.1.1 = [] ∧ st.1.2 = []) → mget (stepNt order ns st j).2 (j : Int) = some ((stepNt order ns st j).1.1.length - 1) ∧ 1 ≤ (stepNt order ns st j).1.1.length) := by
  have hpp := w.pl j hj2 hjl
  have hlp := w.lp j hj2 hjl
  have hhp := w.hp j hj2 hjl
  have hne := w.ne j hj2 hjl
  have hfn := fun t => fn_node w (asgS order t) hj2 hjl
  unfold stepNt
  obtain ⟨x, hx⟩ : ∃ x, nd ns j = x := ⟨_, rfl⟩
  simp only [hx] at hpp hlp hhp hne hfn hl hh ⊢
  have hVj : Vb n order ns j (order.getD x.p default) := ⟨x.p, by rw [hx]; exact Nat.le_refl _, hpp, rfl⟩
  have hVs : ∀ b, x.p < (nd ns b).p → ∀ u, Vb n order ns b u → Vb n order ns j u := fun b hb u ⟨i, g1, g2, g3⟩ => ⟨i, by rw [hx]; omega, g2, g3⟩
  have hop := hrg _ (mem_g order x.p (by omega))
  obtain ⟨v, hv⟩ : ∃ v, order.getD x.p default = v := ⟨_, rfl⟩
  have hasv : ∀ t, asgS order t x.p = hasB t v := fun t => by rw [← hv]; rfl
  rw [hv] at hVj hop ⊢
  have ltp : ∀ t : Int → Bool, litT t v = t v := fun t => by unfold litT; rw [if_neg (by omega)]
  have ltn : ∀ t : Int → Bool, litT t (-v) = !t v := fun t => by unfold litT; rw [if_pos (by omega), Int.neg_neg]
  have put : ∀ (X : List PN) (r : Nat), Gr st.1.1 X → NodW X r (fun s => fn n ns j (asgS order s)) (Vb n order ns j) → ∀ b : Nat, P b ∨ b = j → ∃ k, mget (mput st.2 (j : Int) r) (b : Int) = some k ∧ NodW X k (fun s => fn n ns b (asgS order s)) (Vb n order ns b) := fun X r gr hr b hb => by
    rw [mget_mput]
    by_cases e : b = j
    · subst e
      exact ⟨r, by rw [if_pos rfl], hr⟩
    · rw [if_neg (by omega)]
      obtain ⟨k, h1, h2⟩ := ni.at_ b (hb.resolve_right e)
      exact ⟨k, h1, gr.nw h2⟩
  have gP : ∀ (m : List (Int × Nat)) (r : Nat), mget (mput m (j : Int) r) (j : Int) = some r := fun m r => by rw [mget_mput, if_pos rfl]
  have hct := ni.ct
  by_cases hl0 : x.l = 0
  · rw [if_pos hl0]
    obtain ⟨nw1, li1, gr1, nd1, hd1, ct1, la1⟩ := sideN_ok w hno hnd hN hrg ni.nw ni.li st.2 (l := v) hpp (.inl hv.symm) x.h (by omega) hhp fun h => ni.at_ _ (hh h)
    have hr : NodW (sideN st.2 st.1 v x.h).2.1 (sideN st.2 st.1 v x.h).1 (fun s => fn n ns j (asgS order s)) (Vb n order ns j) := nd1.imp (fun t _ => by
      rw [hfn, hasv, hl0, fn_0 w, ltp]
      cases hasB t v <;> rfl) (fun u hu => by
      rcases hu with h | h
      · obtain rfl : u = v := by omega
        exact hVj
      · exact hVs _ hhp u h)
    refine ⟨⟨nw1, li1, put _ _ gr1 hr, by show (sideN st.2 st.1 v x.h).2.1.length ≤ (sideN st.2 st.1 v x.h).2.2.length + 3 * (c + 1); omega⟩, fun hem => ?_⟩
    show mget (mput st.2 (j : Int) (sideN st.2 st.1 v x.h).1) (j : Int) = some ((sideN st.2 st.1 v x.h).2.1.length - 1) ∧ 1 ≤ (sideN st.2 st.1 v x.h).2.1.length
    have hla := la1 (by
      by_cases e : x.h = 1
      · exact .inr (hem (by omega) (by omega))
      · exact .inl e)
    rw [gP]
    exact ⟨by congr 1; omega, by omega⟩
  rw [if_neg hl0]
  by_cases hh0 : x.h = 0
  · rw [if_pos hh0]
    obtain ⟨nw1, li1, gr1, nd1, hd1, ct1, la1⟩ := sideN_ok w hno hnd hN hrg ni.nw ni.li st.2 (l := -v) hpp (.inr (by rw [hv])) x.l hl0 hlp fun h => ni.at_ _ (hl h)
    have hr : NodW (sideN st.2 st.1 (-v) x.l).2.1 (sideN st.2 st.1 (-v) x.l).1 (fun s => fn n ns j (asgS order s)) (Vb n order ns j) := nd1.imp (fun t _ => by
      rw [hfn, hasv, hh0, fn_0 w, ltn]
      cases hasB t v <;> simp) (fun u hu => by
      rcases hu with h | h
      · obtain rfl : u = v := by omega
        exact hVj
      · exact hVs _ hlp u h)
    refine ⟨⟨nw1, li1, put _ _ gr1 hr, by show (sideN st.2 st.1 (-v) x.l).2.1.length ≤ (sideN st.2 st.1 (-v) x.l).2.2.length + 3 * (c + 1); omega⟩, fun hem => ?_⟩
    show mget (mput st.2 (j : Int) (sideN st.2 st.1 (-v) x.l).1) (j : Int) = some ((sideN st.2 st.1 (-v) x.l).2.1.length - 1) ∧ 1 ≤ (sideN st.2 st.1 (-v) x.l).2.1.length
    have hla := la1 (by
      by_cases e : x.l = 1
      · exact .inr (hem (by omega) (by omega))
      · exact .inl e)
    rw [gP]
    exact ⟨by congr 1; omega, by omega⟩
  rw [if_neg hh0]
  obtain ⟨nw1, li1, gr1, nd1, hd1, ct1, _⟩ := sideN_ok w hno hnd hN hrg ni.nw ni.li st.2 (l := -v) hpp (.inr (by rw [hv])) x.l hl0 hlp fun h => ni.at_ _ (hl h)
  generalize sideN st.2 st.1 (-v) x.l = r1 at *
  obtain ⟨i1, s1⟩ := r1
  dsimp only at nw1 li1 gr1 nd1 hd1 ct1 ⊢
  obtain ⟨nw2, li2, gr2, nd2, hd2, ct2, _⟩ := sideN_ok w hno hnd hN hrg nw1 li1 st.2 (l := v) hpp (.inl hv.symm) x.h hh0 hhp fun h => by
    obtain ⟨k, h1, h2⟩ := ni.at_ _ (hh h)
    exact ⟨k, h1, gr1.nw h2⟩
  generalize sideN st.2 s1 v x.h = r2 at *
  obtain ⟨i2, X2, m2⟩ := r2
  dsimp only at nw2 li2 gr2 nd2 hd2 ct2 ⊢
  have nd1' := gr2.nw nd1
  have hi1 := nd1'.lt
  have hi2 := nd2.lt
  have hf : formedP (4, 0, [(i1 : Int), (i2 : Int)]) N (X2.length : Int) = true := formed_in (.inr rfl) ⟨by omega, by omega⟩ ⟨by omega, by omega⟩
  have gr3 : Gr X2 (X2 ++ [(4, 0, [(i1 : Int), (i2 : Int)])]) := Gr.snoc nw2.form _
  have hopp : oppP (hdP X2 i1) (hdP X2 i2) = true := oppP_true (l := v) (by rw [gr2.hd nd1.lt]; exact hd1) hd2 (by omega)
  have hr : NodW (X2 ++ [((4, 0, [(i1 : Int), (i2 : Int)]) : PN)]) X2.length (fun s => fn n ns j (asgS order s)) (Vb n order ns j) := by
    refine ⟨by simp, fun t ht => ?_, fun u hu => ?_⟩
    · rw [tru_last]
      show ([(i1 : Int), (i2 : Int)].any fun k => (truT t X2).getD k.toNat default) = _
      simp only [List.any_cons, List.any_nil, Int.toNat_natCast, Bool.or_false]
      rw [nd1'.tr t ht, nd2.tr t ht, hfn, hasv, ltn, ltp]
      cases hasB t v <;> simp
    · rw [var_last, var_in, Bool.or_eq_true] at hu
      rcases hu with h | h
      · rcases nd1'.va u h with h | h
        · obtain rfl : u = v := by omega
          exact hVj
        · exact hVs _ hlp u h
      · rcases nd2.va u h with h | h
        · obtain rfl : u = v := by omega
          exact hVj
        · exact hVs _ hhp u h
  refine ⟨⟨nw2.snoc hf (Nat.le_refl 2) (fun h => absurd (show (4 : Int) = 3 from h) (by decide)) (fun _ => ⟨i1, i2, rfl, hopp⟩), li2.grow gr3, put _ _ ((gr1.trans gr2).trans gr3) hr, ?_⟩, fun _ => ?_⟩
  · show (X2 ++ [_]).length ≤ m2.length + 3 * (c + 1)
    rw [List.length_append, List.length_singleton]
    omega
  · show mget (mput st.2 (j : Int) X2.length) (j : Int) = some ((X2 ++ [_]).length - 1) ∧ 1 ≤ (X2 ++ [_]).length
    rw [gP, List.length_append, List.length_singleton]
    exact ⟨by congr 1, by omega⟩
theorem rch_le {n : Nat} {ns : List N3} (w : WF n ns) {a : Nat} (ha : a < ns.length) {j : Nat} (h : Rch ns a j) : j ≤ a := by
  induction h with
  | refl => exact Nat.le_refl _
  | @low j hj h2 ih => have := (w.asc j h2 (hj.lt w ha)).1; omega
  | @high j hj h2 ih => have := (w.asc j h2 (hj.lt w ha)).2; omega
theorem rch_one {ns : List N3} {a : Nat} (hl : (nd ns a).l < 2) (hh : (nd ns a).h < 2) {j : Nat} (h : Rch ns a j) : j = a ∨ j < 2 := by
  induction h with
  | refl => exact .inl rfl
  | @low j hj h2 ih =>
    rcases ih with rfl | h
    · exact .inr hl
    · omega
  | @high j hj h2 ih =>
    rcases ih with rfl | h
    · exact .inr hh
    · omega
theorem nsub_len : ∀ (l m : List Int), l.Nodup → (∀ x ∈ l, x ∈ m) → l.length ≤ m.length
  | [], _, _, _ => Nat.zero_le _
  | x :: l, m, hn, hs => by
    have hx := hs x List.mem_cons_self
    have h1 := nsub_len l (m.erase x) (List.nodup_cons.1 hn).2 fun y hy => by
      have hne : y ≠ x := fun e => (List.nodup_cons.1 hn).1 (e ▸ hy)
      exact (List.mem_erase_of_ne hne).2 (hs y (List.mem_cons_of_mem _ hy))
    rw [List.length_erase_of_mem hx] at h1
    have := List.length_pos_of_mem hx
    rw [List.length_cons]
    omega
theorem NI.imp {n : Nat} {order : List Int} {ns : List N3} {N : Int} {st : NSt × List (Int × Nat)} {P Q : Nat → Prop} {c : Nat} (h : NI n order ns N st P c) (hq : ∀ b, Q b → P b) : NI n order ns N st Q c := ⟨h.nw, h.li, fun b hb => h.at_ b (hq b hb), h.ct⟩
theorem net_ok {order : List Int} {n : Nat} {ns : List N3} (w : WF n ns) (hno : order.length = n) (ho : okOrd order) {a : Nat} (h2 : 2 ≤ a) (ha : a < ns.length) {bs : List Int} (bel : Bel ns a bs) :
    NW (maxO order) (netNt order ns bs).1.1 ∧ (netNt order ns bs).1.1.length ≤ 3 * bs.length + 2 * order.length ∧ 1 ≤ (netNt order ns bs).1.1.length ∧ ∀ s, okS s → (truT s (netNt order ns bs).1.1).getD ((netNt order ns bs).1.1.length - 1) default = fn n ns a (asgS order s) := by
  have hm := maxO_rng ho.1
  obtain ⟨N, hN⟩ : ∃ N, maxO order = N := ⟨_, rfl⟩
  rw [hN] at hm ⊢
  have hrg : ∀ v ∈ order, 1 ≤ v ∧ v ≤ N := fun v hv => ⟨(ho.1 v hv).1, hm.2.2 v hv⟩
  have hat : ∀ k, k < bs.length → ∃ j : Nat, bs.getD k default = (j : Int) ∧ 2 ≤ j ∧ Rch ns a j := fun k hk => (bel.mem _).1 (mem_g bs k hk)
  have hbig : ∀ k, k < bs.length → ∀ y ∈ bs.drop (k + 1), bs.getD k default ≤ y := fun k hk y hy => by
    have h1 := bel.sorted.sublist (List.drop_sublist k bs)
    rw [drop_g bs k hk] at h1
    exact (List.pairwise_cons.1 h1).1 y hy
  have hin : ∀ k, k < bs.length → ∀ c : Nat, 2 ≤ c → Rch ns a c → (c : Int) < bs.getD k default → (c : Int) ∈ bs.take k := fun k hk c h2 hr hlt => by
    have h1 : (c : Int) ∈ bs := (bel.mem _).2 ⟨c, rfl, h2, hr⟩
    rw [← List.take_append_drop k bs] at h1
    rcases List.mem_append.1 h1 with h | h
    · exact h
    · rw [drop_g bs k hk] at h
      rcases List.mem_cons.1 h with h | h
      · omega
      · have := hbig k hk _ h; omega
  have step : ∀ k, k < bs.length → NI n order ns N (netNt order ns (bs.take k)) (fun b => (b : Int) ∈ bs.take k) k → ∃ j : Nat, bs.getD k default = (j : Int) ∧ 2 ≤ j ∧ j < ns.length ∧ netNt order ns (bs.take (k + 1)) = stepNt order ns (netNt order ns (bs.take k)) j ∧ NI n order ns N (netNt order ns (bs.take (k + 1))) (fun b => (b : Int) ∈ bs.take (k + 1)) (k + 1) ∧ (((nd ns j).l < 2 → (nd ns j).h < 2 → (netNt order ns (bs.take k)).1.1 = [] ∧ (netNt order ns (bs.take k)).1.2 = []) → mget (netNt order ns (bs.take (k + 1))).2 (j : Int) = some ((netNt order ns (bs.take (k + 1))).1.1.length - 1) ∧ 1 ≤ (netNt order ns (bs.take (k + 1))).1.1.length) := fun k hk ni => by
    obtain ⟨j, hj, hj2, hjr⟩ := hat k hk
    have hjl := hjr.lt w ha
    have hasc := w.asc j hj2 hjl
    have e : netNt order ns (bs.take (k + 1)) = stepNt order ns (netNt order ns (bs.take k)) j := by
      rw [take_g bs k hk, netNt_snoc, hj, Int.toNat_natCast]
    have ok := stepNt_ok w hno ho.2 ⟨hm.1, hm.2.1⟩ hrg ni hj2 hjl (fun h => hin k hk _ h (.low hjr hj2) (by omega)) (fun h => hin k hk _ h (.high hjr hj2) (by omega))
    rw [← e] at ok
    refine ⟨j, hj, hj2, hjl, e, ok.1.imp fun b hb => ?_, ok.2⟩
    rw [take_g bs k hk] at hb
    rcases List.mem_append.1 hb with h | h
    · exact .inl h
    · right
      rw [List.mem_singleton, hj] at h
      omega
  have all : ∀ k, k ≤ bs.length → NI n order ns N (netNt order ns (bs.take k)) (fun b => (b : Int) ∈ bs.take k) k := fun k => by
    induction k with
    | zero =>
      intro _
      refine ⟨⟨rfl, fun i hi => absurd hi (Nat.not_lt_zero _), fun i hi => absurd hi (Nat.not_lt_zero _), fun x hx => absurd hx List.not_mem_nil⟩, ⟨List.nodup_nil, fun l i h => absurd h List.not_mem_nil⟩, fun b hb => ?_, Nat.zero_le _⟩
      rw [List.take_zero] at hb
      exact absurd hb List.not_mem_nil
    | succ k ih =>
      intro hk
      obtain ⟨j, _, _, _, _, h, _⟩ := step k (by omega) (ih (by omega))
      exact h
  have hab : (a : Int) ∈ bs := (bel.mem _).2 ⟨a, rfl, h2, .refl⟩
  have hpos := List.length_pos_of_mem hab
  obtain ⟨k, hk⟩ : ∃ k, bs.length = k + 1 := ⟨bs.length - 1, by omega⟩
  obtain ⟨j, hj, hj2, hjl, e, ni, last⟩ := step k (by omega) (all k (by omega))
  have htk : bs.take (k + 1) = bs := List.take_of_length_le (by omega)
  have hja : j = a := by
    obtain ⟨j', h1, _, h3⟩ := hat k (by omega)
    have := rch_le w ha h3
    have h4 := hab
    rw [← htk, take_g bs k (by omega)] at h4
    rcases List.mem_append.1 h4 with h | h
    · have h5 := bel.sorted
      rw [← htk, take_g bs k (by omega), List.pairwise_append] at h5
      have := h5.2.2 _ h _ (List.mem_singleton_self _)
      omega
    · have := List.mem_singleton.1 h
      omega
  subst hja
  have hl := last fun hl hh => by
    have hk0 : k = 0 := by
      refine Classical.byContradiction fun hne => ?_
      obtain ⟨j0, g1, g2, g3⟩ := hat 0 (by omega)
      have := (rch_one hl hh g3).resolve_right (by omega)
      subst this
      have h5 := List.pairwise_iff_getElem.1 bel.nodup 0 k (by omega) (by omega) (by omega)
      rw [List.getD_eq_getElem?_getD, List.getElem?_eq_getElem (by omega)] at g1 hj
      exact h5 ((show bs[0] = _ from g1).trans (show bs[k] = _ from hj).symm)
    subst hk0
    rw [List.take_zero]
    exact ⟨rfl, rfl⟩
  rw [htk] at hl ni
  obtain ⟨r, hr1, hr2⟩ := ni.at_ j hab
  rw [hl.1] at hr1
  injection hr1 with hr1
  subst hr1
  have hml : (netNt order ns bs).1.2.length ≤ 2 * order.length := by
    have := nsub_len ((netNt order ns bs).1.2.map (·.1)) (order ++ order.map fun v => -v) ni.li.nod fun x hx => by
      obtain ⟨p, hp, rfl⟩ := List.mem_map.1 hx
      rcases (ni.li.all p.1 p.2 hp).2.2 with h | h
      · exact List.mem_append_left _ h
      · exact List.mem_append_right _ (List.mem_map.2 ⟨_, h, Int.neg_neg _⟩)
    rw [List.length_map, List.length_append, List.length_map] at this
    omega
  have hct := ni.ct
  exact ⟨ni.nw, by omega, hl.2, fun s hs => hr2.tr s hs⟩
end Go.Proofs.Ytbhgahjeocnfcaa
