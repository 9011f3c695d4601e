/- ObddReduced's walk. -/
import Derived.Test.YthnhijdfcmcnhaaHd
namespace Go.Proofs.Ythnhijdfcmcnhaa
open Go Go.Cx Go.RowKit
set_option linter.unusedVariables false
set_option linter.unusedSimpArgs false
set_option maxHeartbeats 4000000
attribute [local irreducible] J JC thenK blockK loopK roundK drawK retK QW Qt pel List.set Calls
open Go.Maps Go.Lib
set_option maxRecDepth 8000
attribute [local irreducible] JE Br eK0 eK2 eK3 brK pc
theorem brA (K : KS) (b : Nat) (s : SS) (hO hP hA : Heap) (M : List Heap) : (sF K b s ++ (hO :: hP :: hA :: M)).Perm (hA :: (sF K b s ++ (hO :: hP :: M))) := by
  have : sF K b s ++ (hO :: hP :: hA :: M) = (sF K b s ++ [hO, hP]) ++ hA :: M := by simp
  rw [this, show sF K b s ++ (hO :: hP :: M) = (sF K b s ++ [hO, hP]) ++ M by simp]
  exact List.perm_middle
theorem rA {R : Heap} (K : KS) (b : Nat) (s : SS) (hO hP hA : Heap) (M : List Heap) : RdH R (sF K b s ++ (hO :: hP :: hA :: M)) hA := by
  unfold sF; exact RdH.hd.tl.tl.tl.tl.tl.tl
theorem stR_of {K : KS} {b : Nat} {s : SS} {hO hP : Heap} {M : List Heap} {w0 w : World} {R : Heap} (hw : H w0 R (sF K b s ++ (hO :: hP :: M)) w) : Holds (stR K b s hO) w := by
  unfold sF at hw
  exact holds2 (hw.rd Rd.hd) ((hw.rdH RdH.hd.tl).append (hw.rdH RdH.hd.tl.tl.tl.tl))
theorem rbS {R : Heap} (K : KS) (b : Nat) (s : SS) (M : List Heap) : Rd R (sF K b s ++ M) b (stO K s.an s.ns.length s.cn) := by unfold sF; exact Rd.hd
theorem rnS {R : Heap} (K : KS) (b : Nat) (s : SS) (M : List Heap) : RdH R (sF K b s ++ M) s.hN := by unfold sF; exact RdH.hd.tl
theorem withN_len (A : List Nat) (x m : Nat) (h : A.length ≤ m) : (natI (withN A x)).length ≤ 1000000 ∨ 999999 < m := by
  rw [natI_len]
  unfold withN
  split
  · omega
  · rw [List.length_append, List.length_singleton]; omega
theorem with30_nat {a : Option Addr} {c : Nat} {A : List Nat} {hA : Heap} (o : OwT encI 1 3 a c (natI A) hA) (hl : (natI A).length ≤ 1000000) (x : Nat) {w0 w : World} {R : Heap} {L : List Heap} (hw : H w0 R (hA :: L) w) :
    Calls Try.prog 26 #[.slice a (natI A).length c, .int .i64 (x : Int)] w fun e w' => ∃ v L', e = .returned v ∧ H w0 R L' w' ∧ ∃ a' c' hA', v = .slice a' (natI (withN A x)).length c' ∧ L' = hA' :: L ∧ OwT encI 1 3 a' c' (natI (withN A x)) hA' := by
  have := with30_any o hl (x : Int) hw
  rwa [natI_with] at this
set_option maxHeartbeats 8000000 in
theorem reduced_any (l : List Int) (a : Option Addr) (c : Nat) (h : Heap) (hs : SlT encI 1 a l h) (ps : List Nat) (ap : Option Addr) (cp : Nat) (hp : Heap) (hsp : SlT encH 1 ap ps hp) (hpb : ∀ p ∈ ps, p < 65536) (w : World) (hw1 : Holds (h ++ hp) w) :
    Calls Try.prog 5 #[.slice a l.length c, .slice ap ps.length cp] w fun e w' => e = .returned (.bool true) ∧ Below w.heap.size w w' := by
  have q0 : ∀ L, RdH (h ++ hp) L h := fun L => RdH.old fun _ hh => List.mem_append_left _ hh
  have q1 : ∀ L, RdH (h ++ hp) L hp := fun L => RdH.old fun _ hh => List.mem_append_right _ hh
  have cF := fun w hw => few_any l a c h hs w hw
  by_cases hf : l.length ≤ 8 ∧ okOrd l
  · rw [decide_eq_true hf] at cF
    obtain ⟨h8, ho⟩ := hf
    by_cases h12 : ps.length ≤ 12
    ·
      have h2n := pow8 h8
      refine calls_of_JC (R := (h ++ hp)) Try.func5 Try.ntmps5 rfl rfl (hw1) ?_
      repeat' first
        | (refine J.isJ ?_; first | (first | (refine J.fc 18 ?_; refine J.call0 eFew rfl rfl (fun w hw => cF w (hw.rdH (q0 _))) ?_) | (refine J.fc 14 ?_; refine J.callx eNew rfl rfl (fun w hw => new_any l a c h hs ho (q0 _) hw) ?_; rintro _ _ ⟨b0, K, s, hO, hP, rfl, rfl, so, hns, po⟩; have hlen : s.ns.length = 2 := (by rw [hns]; rfl)) | (refine J.fc 19 ?_; refine J.callx eTerms rfl rfl (fun w hw => terms_any so po a c h hs ps ap cp hp hsp hpb false h8 h12 (by omega) q0 q1 hw) ?_; rintro _ _ ⟨s1, y1, rfl, rfl, ad1, f1⟩; have adl1 := ad1.le) | (refine J.o 9 ?_; refine J.bl hΓ (fun bA => ?_))) | (first | (refine J.o 0 ?_; refine J.ev' hΓ ?_) | refine J.nil ?_ | refine J.kd ?_ | (refine J.o 4 ?_; first | refine J.lT default hΓ ?_ | refine J.lR hΓ ?_) | (refine J.o 3 ?_; first | refine J.iA hΓ ?_ | refine J.iJ hΓ ?_ | refine J.fP hΓ ?_ | refine J.iC hΓ ?_ | refine J.ev' hΓ ?_) | (refine J.o 1 ?_; first | refine J.ad ?_ | refine J.sb ?_ | refine J.ng ?_ | refine J.mu ?_) | (refine J.o 5 ?_; first | refine J.t0 hΓ ?_ | refine J.t1 hΓ ?_ | refine J.t2 hΓ ?_ | refine J.tT _ default hΓ (fun _ _ => ?_) | refine J.tT1 _ default hΓ (fun _ _ => ?_) | refine J.tT2 _ default hΓ (fun _ _ => ?_)) | (refine J.o 6 ?_; refine J.bx (fun _ => ?_)) | (refine J.o 7 ?_; refine J.al hΓ (fun _ => ?_)) | (refine J.o 8 ?_; refine J.bd hΓ ?_) | (refine J.o 9 ?_; refine J.bl hΓ (fun _ => ?_)) | (refine J.o 10 ?_; refine J.ev' hΓ ?_) | (refine J.o 11 ?_; refine J.ev' hΓ ?_) | (refine J.o 14 ?_; refine J.mf hΓ ?_) | refine J.kn ?_) | ((fail_if_success refine J.wt ?_); refine J.gc rfl rfl (fun hc => ?_) (fun hc => ?_) <;> ((try simp only [decide_eq_true_eq, decide_eq_false_iff_not, beq_iff_eq, beq_eq_false_iff_ne, bne_iff_ne, bne_eq_false_iff_eq, Bool.not_eq_true', Bool.not_eq_false', Bool.not_eq_true, Bool.not_eq_false] at hc) <;> first | (first | (exact absurd rfl hc) | (exfalso; omega) | (exact absurd (hc.symm.trans (by assumption : _ = false)) (by decide)) | (exact absurd (hc.symm.trans (by assumption : _ = true)) (by decide))) | skip)))
        | (first | refine JC.seq ?_ | refine JC.region ?_ | refine JC.block ?_ | refine JC.ret ?_ | refine JC.exit ?_ | refine JC.skip ?_ | refine thenK.nn ?_ | refine thenK.r ?_ | refine thenK.x ?_ | refine blockK.nn ?_ | refine blockK.r ?_ | refine blockK.hit rfl ?_ | refine blockK.miss rfl ?_ | refine JC.condT rfl ?_ | refine JC.condF rfl ?_ | (refine JC.cond rfl (fun hc => ?_) (fun hc => ?_) <;> ((try simp only [decide_eq_true_eq, decide_eq_false_iff_not, beq_iff_eq, beq_eq_false_iff_ne, bne_iff_ne, bne_eq_false_iff_eq, Bool.not_eq_true', Bool.not_eq_false', Bool.not_eq_true, Bool.not_eq_false] at hc) <;> first | (first | (exact absurd rfl hc) | (exfalso; omega) | (exact absurd (hc.symm.trans (by assumption : _ = false)) (by decide)) | (exact absurd (hc.symm.trans (by assumption : _ = true)) (by decide))) | skip)) | refine drawK.nn ?_ | refine roundK.nn ?_ | refine roundK.r ?_ | refine roundK.x ?_ | refine loopK.r ?_ | refine loopK.x ?_)
        | (fail)
        | fail
      all_goals first | (exfalso; omega) | skip
      refine JC.perm (L' := sF K b0 s1 ++ (hO :: hP :: [(bA, .cells ⟨[.int .i64 (y1 : Int)]⟩ 3 (0, 0))] :: [])) (brA K b0 s1 hO hP _ []).symm ?_
      have o0 : OwT encI 1 3 (some ⟨bA, 0, none⟩) 1 (natI [y1]) [(bA, .cells ⟨[.int .i64 (y1 : Int)]⟩ 3 (0, 0))] := ⟨fun _ => rfl, .inr ⟨bA, _, rfl, rfl, rfl, Nat.le_refl _, rfl⟩⟩
      refine JC.loop (fun i => (Nat.ble 9 i && Nat.ble i 19) || Nat.ble 47 i) (fun m g L' => ∃ q s2 A size aA cA hA, g 11 = .int .i64 ((q : Nat) : Int) ∧ g 10 = .int .i64 ((size : Nat) : Int) ∧ g 9 = .slice aA (natI A).length cA ∧ q + m = 258 ∧ Adds l.length K s1 s2 (q * 256) y1 ∧ RInv s1.ns y1 A q size ∧ OwT encI 1 3 aA cA (natI A) hA ∧ L' = sF K b0 s2 ++ (hO :: hP :: hA :: [])) 258 ⟨0, s1, [y1], 0, _, _, _, rfl, rfl, rfl, rfl, (Adds.refl ad1.ok ad1.lt).mono (by omega), RInv.start _ _, o0, rfl⟩ ?_
      rintro m g L' ⟨q, s2, A, size, aA, cA, hA, e11, e10, e9, hq, ad2, ri, oA, rfl⟩
      refine JC.pin 11 e11 ?_
      refine JC.pin 10 e10 ?_
      refine JC.pin 9 e9 ?_
      have adl2 := ad2.le
      have hAl := rch_len ad1.ok.wf ad1.lt ri.nd_ ri.all
      have hnl := natI_len A
      have hqA := ri.le
      have hsz : size ≤ A.length := by have := ri.sz; have := List.length_filter_le (fun x => decide (2 ≤ x)) (A.take q); have := List.length_take_le q A; omega
      rcases Nat.lt_or_ge q A.length with hlt | hge
      ·
        have hx1 := ri.all _ (mem_g0 A hlt)
        have hx2 := hx1.lt ad1.ok.wf ad1.lt
        have hx3 := ad2.old hx2
        have hg := natI_get A hlt
        rcases Nat.lt_or_ge (A.getD q 0) 2 with h2 | h2
        ·
          have cP := fun w hw => Parts_const ad2.ok b0 _ h2 hO w hw
          repeat' first
            | (refine J.isJ ?_; first | (first | (refine J.o 4 ?_; refine J.lT default hΓ ?_ (hs := oA.sl) (hr := rA _ _ _ _ _ _ _); rw [hg]) | (refine J.fc 23 ?_; refine J.call0 eParts rfl rfl (fun w hw => cP w (stR_of hw)) ?_)) | (first | (refine J.o 0 ?_; refine J.ev' hΓ ?_) | refine J.nil ?_ | refine J.kd ?_ | (refine J.o 4 ?_; first | refine J.lT default hΓ ?_ | refine J.lR hΓ ?_) | (refine J.o 3 ?_; first | refine J.iA hΓ ?_ | refine J.iJ hΓ ?_ | refine J.fP hΓ ?_ | refine J.iC hΓ ?_ | refine J.ev' hΓ ?_) | (refine J.o 1 ?_; first | refine J.ad ?_ | refine J.sb ?_ | refine J.ng ?_ | refine J.mu ?_) | (refine J.o 5 ?_; first | refine J.t0 hΓ ?_ | refine J.t1 hΓ ?_ | refine J.t2 hΓ ?_ | refine J.tT _ default hΓ (fun _ _ => ?_) | refine J.tT1 _ default hΓ (fun _ _ => ?_) | refine J.tT2 _ default hΓ (fun _ _ => ?_)) | (refine J.o 6 ?_; refine J.bx (fun _ => ?_)) | (refine J.o 7 ?_; refine J.al hΓ (fun _ => ?_)) | (refine J.o 8 ?_; refine J.bd hΓ ?_) | (refine J.o 9 ?_; refine J.bl hΓ (fun _ => ?_)) | (refine J.o 10 ?_; refine J.ev' hΓ ?_) | (refine J.o 11 ?_; refine J.ev' hΓ ?_) | (refine J.o 14 ?_; refine J.mf hΓ ?_) | refine J.kn ?_) | ((fail_if_success refine J.wt ?_); refine J.gc rfl rfl (fun hc => ?_) (fun hc => ?_) <;> ((try simp only [decide_eq_true_eq, decide_eq_false_iff_not, beq_iff_eq, beq_eq_false_iff_ne, bne_iff_ne, bne_eq_false_iff_eq, Bool.not_eq_true', Bool.not_eq_false', Bool.not_eq_true, Bool.not_eq_false] at hc) <;> first | (first | (exact absurd rfl hc) | (exfalso; omega) | (exact absurd (hc.symm.trans (by assumption : _ = false)) (by decide)) | (exact absurd (hc.symm.trans (by assumption : _ = true)) (by decide))) | skip)))
            | (first | refine JC.seq ?_ | refine JC.region ?_ | refine JC.block ?_ | refine JC.ret ?_ | refine JC.exit ?_ | refine JC.skip ?_ | refine thenK.nn ?_ | refine thenK.r ?_ | refine thenK.x ?_ | refine blockK.nn ?_ | refine blockK.r ?_ | refine blockK.hit rfl ?_ | refine blockK.miss rfl ?_ | refine JC.condT rfl ?_ | refine JC.condF rfl ?_ | (refine JC.cond rfl (fun hc => ?_) (fun hc => ?_) <;> ((try simp only [decide_eq_true_eq, decide_eq_false_iff_not, beq_iff_eq, beq_eq_false_iff_ne, bne_iff_ne, bne_eq_false_iff_eq, Bool.not_eq_true', Bool.not_eq_false', Bool.not_eq_true, Bool.not_eq_false] at hc) <;> first | (first | (exact absurd rfl hc) | (exfalso; omega) | (exact absurd (hc.symm.trans (by assumption : _ = false)) (by decide)) | (exact absurd (hc.symm.trans (by assumption : _ = true)) (by decide))) | skip)) | refine drawK.nn ?_ | refine roundK.nn ?_ | refine roundK.r ?_ | refine roundK.x ?_ | refine loopK.r ?_ | refine loopK.x ?_)
            | (fail)
            | fail
          all_goals first | (exfalso; omega) | skip
          refine loopK.nn (m - 1) (by omega) (by repeat (first | refine Ag.upd rfl ?_ | exact Ag.hv | refine Ag.hv2 (fun i hi => by simp at hi ⊢; omega) ?_)) ⟨q + 1, s2, A, size, aA, cA, hA, ?_, rfl, rfl, by omega, ad2.mono (by omega), ri.const hlt h2, oA, rfl⟩
          show Value.int .i64 _ = _; congr 1
        ·
          have hnd := ad2.ext.at_ _ hx2
          have wf2 := ad2.ok.wf
          have hpl := wf2.pl _ h2 hx3
          have hll := wf2.ll _ h2 hx3
          have hhl := wf2.hl _ h2 hx3
          have hlp := decide_eq_true (wf2.lp _ h2 hx3)
          have hhp := decide_eq_true (wf2.hp _ h2 hx3)
          have hne := wf2.ne _ h2 hx3
          have hdec : decide ((((nd s2.ns (A.getD q 0)).l : Nat) : Int) = (((nd s2.ns (A.getD q 0)).h : Nat) : Int)) = false := decide_eq_false (by omega)
          have hel := ho.1 _ (mem_g l (nd s2.ns (A.getD q 0)).p hpl)
          have hrk := rk_at ho.2 (k := (nd s2.ns (A.getD q 0)).p) hpl
          have ri2 := ri.node hlt h2
          rw [← hnd] at ri2
          have cP := fun w hw => Parts_node ad2.ok po b0 _ h2 hx3 w hw
          have cL := fun w hw => later_any ad2.ok po a c h hs b0 _ _ hpl hll w hw
          have cH := fun w hw => later_any ad2.ok po a c h hs b0 _ _ hpl hhl w hw
          rw [hlp] at cL
          rw [hhp] at cH
          repeat' first
            | (refine J.isJ ?_; first | (first | (refine J.o 11 ?_; refine J.ev' hΓ ?_; rw [hdec]) | (refine J.o 4 ?_; refine J.lT default hΓ ?_ (hs := oA.sl) (hr := rA _ _ _ _ _ _ _); rw [hg]) | (refine J.fc 23 ?_; refine J.call0 eParts rfl rfl (fun w hw => cP w (stR_of hw)) ?_) | (refine J.fc 24 ?_; refine J.call0 eLater rfl rfl (fun w hw => cL w ((stR_of hw).append (hw.rdH (q0 _)))) ?_) | (refine J.fc 24 ?_; refine J.call0 eLater rfl rfl (fun w hw => cH w ((stR_of hw).append (hw.rdH (q0 _)))) ?_) | (refine J.fc 25 ?_; refine J.callx eVarS rfl rfl (fun w hw => Var_any ad2.ok po _ (by omega) _ hrk (by omega) hw) ?_; rintro _ _ ⟨s3, y3, rfl, rfl, ad3, f3⟩; have adl3 := ad3.le) | (refine J.fc 20 ?_; refine J.callx eIf rfl rfl (fun w hw => If_any ad3.ok y3 ad3.lt _ (ad3.old hhl) _ (ad3.old hll) (by omega) hw) ?_; rintro _ _ ⟨s4, y4, rfl, rfl, ad4, f4⟩; obtain rfl : y4 = A.getD q 0 := (by refine ad4.ok.wf.eq ad4.lt (ad4.old (ad3.old hx3)) (fun α => ?_); have h4 := f4 α; have h3 := f3 α; dsimp only at h4 h3; rw [h4, h3, fn_ext ad3.ok.wf ad4.ext (ad3.old hx3), fn_ext wf2 ad3.ext hx3, fn_ext wf2 ad3.ext hhl, fn_ext wf2 ad3.ext hll, fn_node wf2 α h2 hx3])) | (refine J.fc 26 ?_; first | (refine J.callx eWith30 rfl rfl (fun w hw => with30_nat oA1 (by omega) _ hw) ?_; rintro _ _ ⟨a2, c2, hA2, rfl, rfl, oA2⟩) | (refine J.perm (brA K b0 s4 hO hP hA []) ?_; refine J.callx eWith30 rfl rfl (fun w hw => with30_nat oA (by omega) _ hw) ?_; rintro _ _ ⟨a1, c1, hA1, rfl, rfl, oA1⟩; have hA1l := withN_len A (nd s2.ns (A.getD q 0)).l 1000 (by omega)))) | (first | (refine J.o 0 ?_; refine J.ev' hΓ ?_) | refine J.nil ?_ | refine J.kd ?_ | (refine J.o 4 ?_; first | refine J.lT default hΓ ?_ | refine J.lR hΓ ?_) | (refine J.o 3 ?_; first | refine J.iA hΓ ?_ | refine J.iJ hΓ ?_ | refine J.fP hΓ ?_ | refine J.iC hΓ ?_ | refine J.ev' hΓ ?_) | (refine J.o 1 ?_; first | refine J.ad ?_ | refine J.sb ?_ | refine J.ng ?_ | refine J.mu ?_) | (refine J.o 5 ?_; first | refine J.t0 hΓ ?_ | refine J.t1 hΓ ?_ | refine J.t2 hΓ ?_ | refine J.tT _ default hΓ (fun _ _ => ?_) | refine J.tT1 _ default hΓ (fun _ _ => ?_) | refine J.tT2 _ default hΓ (fun _ _ => ?_)) | (refine J.o 6 ?_; refine J.bx (fun _ => ?_)) | (refine J.o 7 ?_; refine J.al hΓ (fun _ => ?_)) | (refine J.o 8 ?_; refine J.bd hΓ ?_) | (refine J.o 9 ?_; refine J.bl hΓ (fun _ => ?_)) | (refine J.o 10 ?_; refine J.ev' hΓ ?_) | (refine J.o 11 ?_; refine J.ev' hΓ ?_) | (refine J.o 14 ?_; refine J.mf hΓ ?_) | refine J.kn ?_) | ((fail_if_success refine J.wt ?_); refine J.gc rfl rfl (fun hc => ?_) (fun hc => ?_) <;> ((try simp only [decide_eq_true_eq, decide_eq_false_iff_not, beq_iff_eq, beq_eq_false_iff_ne, bne_iff_ne, bne_eq_false_iff_eq, Bool.not_eq_true', Bool.not_eq_false', Bool.not_eq_true, Bool.not_eq_false] at hc) <;> first | (first | (exact absurd rfl hc) | (exfalso; omega) | (exact absurd (hc.symm.trans (by assumption : _ = false)) (by decide)) | (exact absurd (hc.symm.trans (by assumption : _ = true)) (by decide))) | skip)))
            | (first | refine JC.seq ?_ | refine JC.region ?_ | refine JC.block ?_ | refine JC.ret ?_ | refine JC.exit ?_ | refine JC.skip ?_ | refine thenK.nn ?_ | refine thenK.r ?_ | refine thenK.x ?_ | refine blockK.nn ?_ | refine blockK.r ?_ | refine blockK.hit rfl ?_ | refine blockK.miss rfl ?_ | refine JC.condT rfl ?_ | refine JC.condF rfl ?_ | (refine JC.cond rfl (fun hc => ?_) (fun hc => ?_) <;> ((try simp only [decide_eq_true_eq, decide_eq_false_iff_not, beq_iff_eq, beq_eq_false_iff_ne, bne_iff_ne, bne_eq_false_iff_eq, Bool.not_eq_true', Bool.not_eq_false', Bool.not_eq_true, Bool.not_eq_false] at hc) <;> first | (first | (exact absurd rfl hc) | (exfalso; omega) | (exact absurd (hc.symm.trans (by assumption : _ = false)) (by decide)) | (exact absurd (hc.symm.trans (by assumption : _ = true)) (by decide))) | skip)) | refine drawK.nn ?_ | refine roundK.nn ?_ | refine roundK.r ?_ | refine roundK.x ?_ | refine loopK.r ?_ | refine loopK.x ?_)
            | (fail)
            | fail
          all_goals first | (exfalso; omega) | skip
          refine loopK.np (m - 1) [] _ (by omega) (by repeat (first | refine Ag.upd rfl ?_ | exact Ag.hv | refine Ag.hv2 (fun i hi => by simp at hi ⊢; omega) ?_)) (brA K b0 s4 hO hP hA2 []).symm ⟨q + 1, s4, _, size + 1, a2, c2, hA2, ?_, ?_, rfl, by omega, ?_, ri2, oA2, rfl⟩
          · show Value.int .i64 _ = _; congr 1
          · show Value.int .i64 _ = _; congr 1
          · refine ⟨ad4.ok, ad2.ext.trans (ad3.ext.trans ad4.ext), ?_, ad4.old (ad3.old ad2.lt)⟩
            have := ad4.le
            omega
      ·
        have hsz2 : ∀ l2, Bel s2.ns y1 l2 → l2.length = size := fun l2 bel => ri.done ad1.ok.wf hge bel.nodup (fun x => by
          rw [bel.mem x]
          constructor
          · rintro ⟨j, h1, h2, h3⟩; exact ⟨j, h1, h2, (Rch.ext ad1.ok.wf ad2.ext ad1.lt).1 h3⟩
          · rintro ⟨j, h1, h2, h3⟩; exact ⟨j, h1, h2, (Rch.ext ad1.ok.wf ad2.ext ad1.lt).2 h3⟩)
        repeat' first
          | (refine J.isJ ?_; first | (first | (refine J.fc 13 ?_; refine J.call0 eWorks30 rfl rfl (fun w hw => works_any w) ?_) | (refine J.fc 27 ?_; refine J.callx eSize rfl rfl (fun w hw => Size_any ad2.ok b0 y1 ad2.lt (rbS K b0 s2 _) (rnS K b0 s2 _) hw) ?_; rintro _ _ ⟨l2, rfl, rfl, bel⟩; rw [hsz2 l2 bel])) | (first | (refine J.o 0 ?_; refine J.ev' hΓ ?_) | refine J.nil ?_ | refine J.kd ?_ | (refine J.o 4 ?_; first | refine J.lT default hΓ ?_ | refine J.lR hΓ ?_) | (refine J.o 3 ?_; first | refine J.iA hΓ ?_ | refine J.iJ hΓ ?_ | refine J.fP hΓ ?_ | refine J.iC hΓ ?_ | refine J.ev' hΓ ?_) | (refine J.o 1 ?_; first | refine J.ad ?_ | refine J.sb ?_ | refine J.ng ?_ | refine J.mu ?_) | (refine J.o 5 ?_; first | refine J.t0 hΓ ?_ | refine J.t1 hΓ ?_ | refine J.t2 hΓ ?_ | refine J.tT _ default hΓ (fun _ _ => ?_) | refine J.tT1 _ default hΓ (fun _ _ => ?_) | refine J.tT2 _ default hΓ (fun _ _ => ?_)) | (refine J.o 6 ?_; refine J.bx (fun _ => ?_)) | (refine J.o 7 ?_; refine J.al hΓ (fun _ => ?_)) | (refine J.o 8 ?_; refine J.bd hΓ ?_) | (refine J.o 9 ?_; refine J.bl hΓ (fun _ => ?_)) | (refine J.o 10 ?_; refine J.ev' hΓ ?_) | (refine J.o 11 ?_; refine J.ev' hΓ ?_) | (refine J.o 14 ?_; refine J.mf hΓ ?_) | refine J.kn ?_) | ((fail_if_success refine J.wt ?_); refine J.gc rfl rfl (fun hc => ?_) (fun hc => ?_) <;> ((try simp only [decide_eq_true_eq, decide_eq_false_iff_not, beq_iff_eq, beq_eq_false_iff_ne, bne_iff_ne, bne_eq_false_iff_eq, Bool.not_eq_true', Bool.not_eq_false', Bool.not_eq_true, Bool.not_eq_false] at hc) <;> first | (first | (exact absurd rfl hc) | (exfalso; omega) | (exact absurd (hc.symm.trans (by assumption : _ = false)) (by decide)) | (exact absurd (hc.symm.trans (by assumption : _ = true)) (by decide))) | skip)))
          | (first | refine JC.seq ?_ | refine JC.region ?_ | refine JC.block ?_ | refine JC.ret ?_ | refine JC.exit ?_ | refine JC.skip ?_ | refine thenK.nn ?_ | refine thenK.r ?_ | refine thenK.x ?_ | refine blockK.nn ?_ | refine blockK.r ?_ | refine blockK.hit rfl ?_ | refine blockK.miss rfl ?_ | refine JC.condT rfl ?_ | refine JC.condF rfl ?_ | (refine JC.cond rfl (fun hc => ?_) (fun hc => ?_) <;> ((try simp only [decide_eq_true_eq, decide_eq_false_iff_not, beq_iff_eq, beq_eq_false_iff_ne, bne_iff_ne, bne_eq_false_iff_eq, Bool.not_eq_true', Bool.not_eq_false', Bool.not_eq_true, Bool.not_eq_false] at hc) <;> first | (first | (exact absurd rfl hc) | (exfalso; omega) | (exact absurd (hc.symm.trans (by assumption : _ = false)) (by decide)) | (exact absurd (hc.symm.trans (by assumption : _ = true)) (by decide))) | skip)) | refine drawK.nn ?_ | refine roundK.nn ?_ | refine roundK.r ?_ | refine roundK.x ?_ | refine loopK.r ?_ | refine loopK.x ?_)
          | (fail)
          | fail
        all_goals first | (exfalso; omega) | skip
        all_goals (refine ret1f rfl rfl rfl (fun w1 hw => ⟨rfl, hw.below⟩))
    ·
      refine calls_of_JC (R := (h ++ hp)) Try.func5 Try.ntmps5 rfl rfl (hw1) ?_
      repeat' first
        | (refine J.isJ ?_; first | (first | (refine J.fc 13 ?_; refine J.call0 eWorks30 rfl rfl (fun w hw => works_any w) ?_) | (refine J.fc 18 ?_; refine J.call0 eFew rfl rfl (fun w hw => cF w (hw.rdH (q0 _))) ?_)) | (first | (refine J.o 0 ?_; refine J.ev' hΓ ?_) | refine J.nil ?_ | refine J.kd ?_ | (refine J.o 4 ?_; first | refine J.lT default hΓ ?_ | refine J.lR hΓ ?_) | (refine J.o 3 ?_; first | refine J.iA hΓ ?_ | refine J.iJ hΓ ?_ | refine J.fP hΓ ?_ | refine J.iC hΓ ?_ | refine J.ev' hΓ ?_) | (refine J.o 1 ?_; first | refine J.ad ?_ | refine J.sb ?_ | refine J.ng ?_ | refine J.mu ?_) | (refine J.o 5 ?_; first | refine J.t0 hΓ ?_ | refine J.t1 hΓ ?_ | refine J.t2 hΓ ?_ | refine J.tT _ default hΓ (fun _ _ => ?_) | refine J.tT1 _ default hΓ (fun _ _ => ?_) | refine J.tT2 _ default hΓ (fun _ _ => ?_)) | (refine J.o 6 ?_; refine J.bx (fun _ => ?_)) | (refine J.o 7 ?_; refine J.al hΓ (fun _ => ?_)) | (refine J.o 8 ?_; refine J.bd hΓ ?_) | (refine J.o 9 ?_; refine J.bl hΓ (fun _ => ?_)) | (refine J.o 10 ?_; refine J.ev' hΓ ?_) | (refine J.o 11 ?_; refine J.ev' hΓ ?_) | (refine J.o 14 ?_; refine J.mf hΓ ?_) | refine J.kn ?_) | ((fail_if_success refine J.wt ?_); refine J.gc rfl rfl (fun hc => ?_) (fun hc => ?_) <;> ((try simp only [decide_eq_true_eq, decide_eq_false_iff_not, beq_iff_eq, beq_eq_false_iff_ne, bne_iff_ne, bne_eq_false_iff_eq, Bool.not_eq_true', Bool.not_eq_false', Bool.not_eq_true, Bool.not_eq_false] at hc) <;> first | (first | (exact absurd rfl hc) | (exfalso; omega) | (exact absurd (hc.symm.trans (by assumption : _ = false)) (by decide)) | (exact absurd (hc.symm.trans (by assumption : _ = true)) (by decide))) | skip)))
        | (first | refine JC.seq ?_ | refine JC.region ?_ | refine JC.block ?_ | refine JC.ret ?_ | refine JC.exit ?_ | refine JC.skip ?_ | refine thenK.nn ?_ | refine thenK.r ?_ | refine thenK.x ?_ | refine blockK.nn ?_ | refine blockK.r ?_ | refine blockK.hit rfl ?_ | refine blockK.miss rfl ?_ | refine JC.condT rfl ?_ | refine JC.condF rfl ?_ | (refine JC.cond rfl (fun hc => ?_) (fun hc => ?_) <;> ((try simp only [decide_eq_true_eq, decide_eq_false_iff_not, beq_iff_eq, beq_eq_false_iff_ne, bne_iff_ne, bne_eq_false_iff_eq, Bool.not_eq_true', Bool.not_eq_false', Bool.not_eq_true, Bool.not_eq_false] at hc) <;> first | (first | (exact absurd rfl hc) | (exfalso; omega) | (exact absurd (hc.symm.trans (by assumption : _ = false)) (by decide)) | (exact absurd (hc.symm.trans (by assumption : _ = true)) (by decide))) | skip)) | refine drawK.nn ?_ | refine roundK.nn ?_ | refine roundK.r ?_ | refine roundK.x ?_ | refine loopK.r ?_ | refine loopK.x ?_)
        | (fail)
        | fail
      all_goals first | (exfalso; omega) | skip
      all_goals (refine ret1f rfl rfl rfl (fun w1 hw => ⟨rfl, hw.below⟩))
  · rw [decide_eq_false hf] at cF
    refine calls_of_JC (R := (h ++ hp)) Try.func5 Try.ntmps5 rfl rfl (hw1) ?_
    repeat' first
      | (refine J.isJ ?_; first | (first | (refine J.fc 13 ?_; refine J.call0 eWorks30 rfl rfl (fun w hw => works_any w) ?_) | (refine J.fc 18 ?_; refine J.call0 eFew rfl rfl (fun w hw => cF w (hw.rdH (q0 _))) ?_)) | (first | (refine J.o 0 ?_; refine J.ev' hΓ ?_) | refine J.nil ?_ | refine J.kd ?_ | (refine J.o 4 ?_; first | refine J.lT default hΓ ?_ | refine J.lR hΓ ?_) | (refine J.o 3 ?_; first | refine J.iA hΓ ?_ | refine J.iJ hΓ ?_ | refine J.fP hΓ ?_ | refine J.iC hΓ ?_ | refine J.ev' hΓ ?_) | (refine J.o 1 ?_; first | refine J.ad ?_ | refine J.sb ?_ | refine J.ng ?_ | refine J.mu ?_) | (refine J.o 5 ?_; first | refine J.t0 hΓ ?_ | refine J.t1 hΓ ?_ | refine J.t2 hΓ ?_ | refine J.tT _ default hΓ (fun _ _ => ?_) | refine J.tT1 _ default hΓ (fun _ _ => ?_) | refine J.tT2 _ default hΓ (fun _ _ => ?_)) | (refine J.o 6 ?_; refine J.bx (fun _ => ?_)) | (refine J.o 7 ?_; refine J.al hΓ (fun _ => ?_)) | (refine J.o 8 ?_; refine J.bd hΓ ?_) | (refine J.o 9 ?_; refine J.bl hΓ (fun _ => ?_)) | (refine J.o 10 ?_; refine J.ev' hΓ ?_) | (refine J.o 11 ?_; refine J.ev' hΓ ?_) | (refine J.o 14 ?_; refine J.mf hΓ ?_) | refine J.kn ?_) | ((fail_if_success refine J.wt ?_); refine J.gc rfl rfl (fun hc => ?_) (fun hc => ?_) <;> ((try simp only [decide_eq_true_eq, decide_eq_false_iff_not, beq_iff_eq, beq_eq_false_iff_ne, bne_iff_ne, bne_eq_false_iff_eq, Bool.not_eq_true', Bool.not_eq_false', Bool.not_eq_true, Bool.not_eq_false] at hc) <;> first | (first | (exact absurd rfl hc) | (exfalso; omega) | (exact absurd (hc.symm.trans (by assumption : _ = false)) (by decide)) | (exact absurd (hc.symm.trans (by assumption : _ = true)) (by decide))) | skip)))
      | (first | refine JC.seq ?_ | refine JC.region ?_ | refine JC.block ?_ | refine JC.ret ?_ | refine JC.exit ?_ | refine JC.skip ?_ | refine thenK.nn ?_ | refine thenK.r ?_ | refine thenK.x ?_ | refine blockK.nn ?_ | refine blockK.r ?_ | refine blockK.hit rfl ?_ | refine blockK.miss rfl ?_ | refine JC.condT rfl ?_ | refine JC.condF rfl ?_ | (refine JC.cond rfl (fun hc => ?_) (fun hc => ?_) <;> ((try simp only [decide_eq_true_eq, decide_eq_false_iff_not, beq_iff_eq, beq_eq_false_iff_ne, bne_iff_ne, bne_eq_false_iff_eq, Bool.not_eq_true', Bool.not_eq_false', Bool.not_eq_true, Bool.not_eq_false] at hc) <;> first | (first | (exact absurd rfl hc) | (exfalso; omega) | (exact absurd (hc.symm.trans (by assumption : _ = false)) (by decide)) | (exact absurd (hc.symm.trans (by assumption : _ = true)) (by decide))) | skip)) | refine drawK.nn ?_ | refine roundK.nn ?_ | refine roundK.r ?_ | refine roundK.x ?_ | refine loopK.r ?_ | refine loopK.x ?_)
      | (fail)
      | fail
    all_goals first | (exfalso; omega) | skip
    all_goals (refine ret1f rfl rfl rfl (fun w1 hw => ⟨rfl, hw.below⟩))
end Go.Proofs.Ythnhijdfcmcnhaa
