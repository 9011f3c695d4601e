/- SiftSifts: part 9. -/
import Derived.Test.YtbhgahjeocnfcaaGreatSiH
namespace Go.Proofs.YtbhgahjeocnfcaaGreat
open Go Go.Cx Go.RowKit
set_option linter.unusedVariables false
set_option linter.unusedSimpArgs false
set_option maxHeartbeats 4000000
attribute [local irreducible] J JC thenK blockK loopK roundK drawK retK QW Qt pel List.set Calls
open Go.Maps Go.Lib
set_option maxRecDepth 8000
attribute [local irreducible] JE Br eK0 eK3 brK pc
theorem eCmpS : Entr Tryz.prog 37 := Entr.of Tryz.func37 rfl rfl
theorem eSift : Entr Tryz.prog 10 := Entr.of Tryz.func10 rfl rfl
def cmS (W : Int → Nat) (x y : Int) : Int := if W x ≠ W y then (W y : Int) - W x else x - y
theorem cmpS_any {mm : List (Int × Nat)} {bm b8 : Nat} {hm : Heap} {W : Int → Nat} (mt : MapT Tryz.prog 3 ekI evI mm bm hm) (hW : ∀ u, (mget mm u).getD 0 = W u) (hb : ∀ u, W u ≤ 1000) (x y : Int) (hx : 1 ≤ x ∧ x ≤ 128) (hy : 1 ≤ y ∧ y ≤ 128) (w : World) (hw : Holds ([(b8, .cells ⟨[.map (some bm)]⟩ 67 (0, 0))] ++ hm) w) :
    Calls Tryz.prog 37 #[.int .i64 x, .int .i64 y, .pointer (some ⟨b8, 0, none⟩)] w fun e w' => e = .returned (.int .i64 (cmS W x y)) ∧ Below w.heap.size w w' := by
  have hbx := hb x
  have hby := hb y
  have q8 : ∀ L, Rd ([(b8, .cells ⟨[.map (some bm)]⟩ 67 (0, 0))] ++ hm) L b8 (.cells ⟨[.map (some bm)]⟩ 67 (0, 0)) := fun L => Rd.old (by simp)
  have qm : ∀ L, RdH ([(b8, .cells ⟨[.map (some bm)]⟩ 67 (0, 0))] ++ hm) L hm := fun L => RdH.old fun _ hh => List.mem_append_right _ hh
  have kx := keyI x (by omega)
  have ky := keyI y (by omega)
  unfold cmS
  by_cases hxy : W x = W y
  ·
    rw [if_neg (by simpa using hxy)]
    refine calls_of_JC (R := ([(b8, .cells ⟨[.map (some bm)]⟩ 67 (0, 0))] ++ hm)) Tryz.func37 Tryz.ntmps37 rfl rfl (hw) ?_
    repeat' first
      | (refine J.isJ ?_; first | (first | (refine J.o 4 ?_; refine J.lR hΓ ?_ (hr := q8 _)) | (refine J.o 9 ?_; first | refine J.lkN (a := x) (W x) keyedI ekI_inj mt (qm _) kx hΓ (hW x) ?_ | refine J.lkN (a := y) (W y) keyedI ekI_inj mt (qm _) ky hΓ (hW y) ?_)) | (first | (refine J.o 0 ?_; refine J.ev' hΓ ?_) | refine J.nil ?_ | (refine J.o 4 ?_; first | refine J.lR hΓ ?_) | (refine J.o 3 ?_; first | refine J.ev' hΓ ?_) | (refine J.o 1 ?_; first | refine J.sb ?_) | (refine J.o 10 ?_; refine J.ev' hΓ ?_) | (refine J.o 11 ?_; refine J.ev' hΓ ?_)))
      | (first | refine JC.seq ?_ | refine JC.region ?_ | refine JC.ret ?_ | refine JC.skip ?_ | refine thenK.nn ?_ | refine thenK.r ?_ | (refine JC.cond rfl (fun hc => ?_) (fun hc => ?_) <;> ((try simp only [decide_eq_true_eq, decide_eq_false_iff_not, beq_iff_eq, beq_eq_false_iff_ne, bne_iff_ne, bne_eq_false_iff_eq, Bool.not_eq_true', Bool.not_eq_false', Bool.not_eq_true, Bool.not_eq_false] at hc) <;> first | (first | (exact absurd rfl hc) | (exfalso; omega) | (exact absurd (hc.symm.trans (by assumption : _ = false)) (by decide)) | (exact absurd (hc.symm.trans (by assumption : _ = true)) (by decide))) | skip)))
      | (fail)
      | fail
    all_goals first | (exfalso; omega) | skip
    all_goals exact ret1f rfl rfl rfl (fun w1 hw => ⟨rfl, hw.below⟩)
  ·
    rw [if_pos hxy]
    refine calls_of_JC (R := ([(b8, .cells ⟨[.map (some bm)]⟩ 67 (0, 0))] ++ hm)) Tryz.func37 Tryz.ntmps37 rfl rfl (hw) ?_
    repeat' first
      | (refine J.isJ ?_; first | (first | (refine J.o 4 ?_; refine J.lR hΓ ?_ (hr := q8 _)) | (refine J.o 9 ?_; first | refine J.lkN (a := x) (W x) keyedI ekI_inj mt (qm _) kx hΓ (hW x) ?_ | refine J.lkN (a := y) (W y) keyedI ekI_inj mt (qm _) ky hΓ (hW y) ?_)) | (first | (refine J.o 0 ?_; refine J.ev' hΓ ?_) | refine J.nil ?_ | (refine J.o 4 ?_; first | refine J.lR hΓ ?_) | (refine J.o 3 ?_; first | refine J.ev' hΓ ?_) | (refine J.o 1 ?_; first | refine J.sb ?_) | (refine J.o 10 ?_; refine J.ev' hΓ ?_) | (refine J.o 11 ?_; refine J.ev' hΓ ?_)))
      | (first | refine JC.seq ?_ | refine JC.region ?_ | refine JC.ret ?_ | refine JC.skip ?_ | refine thenK.nn ?_ | refine thenK.r ?_ | (refine JC.cond rfl (fun hc => ?_) (fun hc => ?_) <;> ((try simp only [decide_eq_true_eq, decide_eq_false_iff_not, beq_iff_eq, beq_eq_false_iff_ne, bne_iff_ne, bne_eq_false_iff_eq, Bool.not_eq_true', Bool.not_eq_false', Bool.not_eq_true, Bool.not_eq_false] at hc) <;> first | (first | (exact absurd rfl hc) | (exfalso; omega) | (exact absurd (hc.symm.trans (by assumption : _ = false)) (by decide)) | (exact absurd (hc.symm.trans (by assumption : _ = true)) (by decide))) | skip)))
      | (fail)
      | fail
    all_goals first | (exfalso; omega) | skip
    all_goals exact ret1f rfl rfl rfl (fun w1 hw => ⟨rfl, hw.below⟩)
theorem cmS_ok {W : Int → Nat} {mm : List (Int × Nat)} {bm b8 : Nat} {hm : Heap} (mt : MapT Tryz.prog 3 ekI evI mm bm hm) (hW : ∀ u, (mget mm u).getD 0 = W u) (hb : ∀ u, W u ≤ 1000) {o : List Int} (ho : okOrd o) : CmpOk 37 [.pointer (some ⟨b8, 0, none⟩)] (cmS W) o ([(b8, .cells ⟨[.map (some bm)]⟩ 67 (0, 0))] ++ hm) :=
  ⟨eCmpS, fun x hx y hy w hw => cmpS_any mt hW hb x y (ho.1 x hx) (ho.1 y hy) w hw, fun x _ y _ hne h => by
    unfold cmS at h ⊢
    split at h <;> split <;> omega, fun x _ y _ z _ h1 h2 => by
    unfold cmS at h1 h2 ⊢
    split at h1 <;> split at h2 <;> split <;> omega⟩
def WtOf (ns : List N3) (o : List Int) (r : Nat) (W : Int → Nat) : Prop := ∃ S : List Nat, S.Nodup ∧ (∀ x, x ∈ S ↔ 2 ≤ x ∧ Rch ns r x) ∧ ∀ v, W v = cntV ns o S v
def sftO (F : VF) (q o : List Int) : List Int := q.foldl (fun o v => movO F o v) o
theorem movO_perm (F : VF) {o : List Int} {v : Int} (hv : v ∈ o) (hn : o.Nodup) : (movO F o v).Perm o := bestO_perm hv hn _ _
theorem sftO_perm (F : VF) : ∀ (q o : List Int), (∀ v ∈ q, v ∈ o) → o.Nodup → (sftO F q o).Perm o
  | [], o, _, _ => .refl _
  | v :: q, o, hv, hn => by
    have h1 := movO_perm F (hv v List.mem_cons_self) hn
    exact (sftO_perm F q (movO F o v) (fun u hu => h1.mem_iff.2 (hv u (List.mem_cons_of_mem _ hu))) (h1.nodup_iff.2 hn)).trans h1
theorem sftO_snoc (F : VF) (q : List Int) (v : Int) (o : List Int) : sftO F (q ++ [v]) o = movO F (sftO F q o) v := by
  unfold sftO
  rw [List.foldl_append]
  rfl
set_option maxHeartbeats 16000000 in
theorem Sift_any {F : VF} {o : List Int} {K : KS} {s : SS} {a : Nat} {hO hP : Heap} (sv : Stv F o K s a hO hP) (h8 : o.length ≤ 8) {w0 w : World} {R : Heap} {L : List Heap} {bs : Nat} (rS : RdH R L (stR K bs s hO)) (hw : H w0 R L w) :
    Calls Tryz.prog 10 #[.pointer (some ⟨bs, 0, none⟩), .int .i64 (a : Int)] w fun e w' => ∃ x L', e = .returned x ∧ H w0 R L' w' ∧ ∃ W q, WtOf s.ns o a W ∧ q.Perm o ∧ SrtO (cmS W) q q.length ∧ RebQ F (sftO F q o) L x L' := by
  have so := sv.so
  have ha := sv.sy.1
  have hnd := sv.ho.2
  have cO := fun w hw => Order_any so sv.po bs w hw
  have hol := so.no
  have hpl := sv.po.len
  refine calls_in Tryz.func10 Tryz.ntmps10 rfl rfl (hw) ?_
  repeat' first
    | (refine J.isJ ?_; first | (first | (refine J.fc 34 ?_; refine J.callx eChecked rfl rfl (fun w hw => checked_any so bs a ha rS hw) ?_; rintro _ _ ⟨rfl, rfl⟩) | (refine J.fc 35 ?_; refine J.call1 eWeights rfl rfl (fun w hw => weights_any so sv.po (by omega) bs a ha w (stR_of2 rS hw)) ?_; rintro _ hm ⟨bm, mm, S, rfl, mt, hSn, hSm, hSc⟩) | (refine J.o 7 ?_; refine J.al hΓ (fun b8 => ?_)) | (refine J.fc 21 ?_; refine J.call1 eOrder rfl rfl (fun w hw => cO w (stR_of2 rS.tl.tl hw)) ?_; rintro _ hQ ⟨aQ, cQ, rfl, oQ⟩) | (refine J.o 14 ?_; refine J.mf hΓ ?_)) | (first | (refine J.o 0 ?_; refine J.ev' hΓ ?_) | refine J.nil ?_ | (refine J.o 4 ?_; first | refine J.lT default hΓ ?_) | (refine J.o 3 ?_; first | refine J.iJ hΓ ?_ | refine J.ev' hΓ ?_) | (refine J.o 1 ?_; first | refine J.ad ?_) | (refine J.o 5 ?_; first | refine J.t0 hΓ ?_) | (refine J.o 7 ?_; refine J.al hΓ (fun _ => ?_)) | (refine J.o 10 ?_; refine J.ev' hΓ ?_) | (refine J.o 11 ?_; refine J.ev' hΓ ?_) | (refine J.o 14 ?_; refine J.mf hΓ ?_)))
    | (first | refine JC.seq ?_ | refine JC.region ?_ | refine JC.block ?_ | refine JC.ret ?_ | refine JC.exit ?_ | refine JC.skip ?_ | refine thenK.nn ?_ | refine thenK.x ?_ | refine blockK.nn ?_ | refine blockK.hit rfl ?_ | refine JC.condF rfl ?_ | (refine JC.cond rfl (fun hc => ?_) (fun hc => ?_) <;> ((try simp only [decide_eq_true_eq, decide_eq_false_iff_not, beq_iff_eq, beq_eq_false_iff_ne, bne_iff_ne, bne_eq_false_iff_eq, Bool.not_eq_true', Bool.not_eq_false', Bool.not_eq_true, Bool.not_eq_false] at hc) <;> first | (first | (exact absurd rfl hc) | (exfalso; omega) | (exact absurd (hc.symm.trans (by assumption : _ = false)) (by decide)) | (exact absurd (hc.symm.trans (by assumption : _ = true)) (by decide))) | skip)) | refine loopK.x ?_)
    | (fail)
    | fail
  all_goals first | (exfalso; omega) | skip
  rename_i L
  have hW : ∀ u, (mget mm u).getD 0 = cntV s.ns o S u := hSc
  have hWb : ∀ u, cntV s.ns o S u ≤ 1000 := fun u => by
    have h1 : cntV s.ns o S u ≤ S.length := List.length_filter_le _ _
    have h2 := rch_len so.wf ha hSn (fun x hx => ((hSm x).1 hx).2)
    have h3 := pow8 h8
    omega
  obtain ⟨W, hWd⟩ : ∃ W : Int → Nat, W = fun u => cntV s.ns o S u := ⟨_, rfl⟩
  have cok := cmS_ok (b8 := b8) mt (W := W) (fun u => by rw [hWd]; exact hSc u) (fun u => by rw [hWd]; exact hWb u) sv.ho
  have cO := fun w hw => Order_any so sv.po bs w hw
  repeat' first
    | (refine J.isJ ?_; first | (first | (refine J.fc 36 ?_; refine J.callx eSortF rfl rfl (fun w hw => sortF_any cok hnd (by omega) oQ (RdH.hd.append RdH.hd.tl) hw) ?_; rintro _ _ ⟨q, hD, rfl, rfl, hqp, hqs, oD⟩) | (refine J.fc 21 ?_; refine J.call1 eOrder rfl rfl (fun w hw => cO w (stR_of2 rS.tl.tl.tl hw)) ?_; rintro _ hQ2 ⟨aQ2, cQ2, rfl, oQ2⟩) | (refine J.fc 38 ?_; refine J.callx eReb2 rfl rfl (fun w hw => rebuilt_any sv h8 o rfl sv.ho (fun v h => h) aQ2 cQ2 hQ2 oQ2.sl rS.tl.tl.tl.tl RdH.hd hw) ?_; rintro _ _ ⟨b1, K1, s1, y1, hO1, hP1, rfl, rfl, sv1⟩)) | (first | (refine J.o 0 ?_; refine J.ev' hΓ ?_) | refine J.nil ?_ | (refine J.o 4 ?_; first | refine J.lT default hΓ ?_) | (refine J.o 3 ?_; first | refine J.iJ hΓ ?_ | refine J.ev' hΓ ?_) | (refine J.o 1 ?_; first | refine J.ad ?_) | (refine J.o 5 ?_; first | refine J.t0 hΓ ?_) | (refine J.o 7 ?_; refine J.al hΓ (fun _ => ?_)) | (refine J.o 10 ?_; refine J.ev' hΓ ?_) | (refine J.o 11 ?_; refine J.ev' hΓ ?_) | (refine J.o 14 ?_; refine J.mf hΓ ?_)))
    | (first | refine JC.seq ?_ | refine JC.region ?_ | refine JC.block ?_ | refine JC.ret ?_ | refine JC.exit ?_ | refine JC.skip ?_ | refine thenK.nn ?_ | refine thenK.x ?_ | refine blockK.nn ?_ | refine blockK.hit rfl ?_ | refine JC.condF rfl ?_ | (refine JC.cond rfl (fun hc => ?_) (fun hc => ?_) <;> ((try simp only [decide_eq_true_eq, decide_eq_false_iff_not, beq_iff_eq, beq_eq_false_iff_ne, bne_iff_ne, bne_eq_false_iff_eq, Bool.not_eq_true', Bool.not_eq_false', Bool.not_eq_true, Bool.not_eq_false] at hc) <;> first | (first | (exact absurd rfl hc) | (exfalso; omega) | (exact absurd (hc.symm.trans (by assumption : _ = false)) (by decide)) | (exact absurd (hc.symm.trans (by assumption : _ = true)) (by decide))) | skip)) | refine loopK.x ?_)
    | (fail)
    | fail
  all_goals first | (exfalso; omega) | skip
  have hql := hqp.length_eq
  refine JC.weak (L' := sF K1 b1 s1 ++ (hO1 :: hP1 :: hD :: L)) (fun w hw => H.sel (l := [_, _, _, _, _, _, _, _, _, _]) (M := L) hw [0, 1, 2, 3, 4, 5, 7]) ?_
  refine JC.loopG (fun i => i == 10 || i == 11 || i == 12 || i == 14 || Nat.ble 40 i) (fun m g L' => ∃ (i : Nat) (b : Nat) (K : KS) (s : SS) (y : Nat) (hO hP : Heap), g 40 = .int .i64 (i : Int) ∧ g 10 = .pointer (some ⟨b, 0, none⟩) ∧ g 11 = .int .i64 ((y : Nat) : Int) ∧ g 12 = .int .i64 0 ∧ i + m = o.length ∧ Stv F (sftO F (q.take i) o) K s y hO hP ∧ L' = sF K b s ++ (hO :: hP :: hD :: L)) o.length ⟨0, b1, K1, s1, y1, hO1, hP1, rfl, rfl, rfl, rfl, by omega, sv1, rfl⟩ ?_
  rintro m g _ ⟨i, b, Kc, sc, yc, hOc, hPc, e40, e10, e11, e12, him, svc, rfl⟩
  refine JC.pin 40 e40 (JC.pin 10 e10 (JC.pin 11 e11 (JC.pin 12 e12 ?_)))
  rcases Nat.lt_or_ge i o.length with hil | hil
  case inr =>
    obtain rfl : i = o.length := by omega
    rw [← hql, List.take_length] at svc
    repeat' first
      | (refine J.isJ ?_; first | (fail) | (first | (refine J.o 0 ?_; refine J.ev' hΓ ?_) | refine J.nil ?_ | (refine J.o 4 ?_; first | refine J.lT default hΓ ?_) | (refine J.o 3 ?_; first | refine J.iJ hΓ ?_ | refine J.ev' hΓ ?_) | (refine J.o 1 ?_; first | refine J.ad ?_) | (refine J.o 5 ?_; first | refine J.t0 hΓ ?_) | (refine J.o 7 ?_; refine J.al hΓ (fun _ => ?_)) | (refine J.o 10 ?_; refine J.ev' hΓ ?_) | (refine J.o 11 ?_; refine J.ev' hΓ ?_) | (refine J.o 14 ?_; refine J.mf hΓ ?_)))
      | (first | refine JC.seq ?_ | refine JC.region ?_ | refine JC.block ?_ | refine JC.ret ?_ | refine JC.exit ?_ | refine JC.skip ?_ | refine thenK.nn ?_ | refine thenK.x ?_ | refine blockK.nn ?_ | refine blockK.hit rfl ?_ | refine JC.condF rfl ?_ | (refine JC.cond rfl (fun hc => ?_) (fun hc => ?_) <;> ((try simp only [decide_eq_true_eq, decide_eq_false_iff_not, beq_iff_eq, beq_eq_false_iff_ne, bne_iff_ne, bne_eq_false_iff_eq, Bool.not_eq_true', Bool.not_eq_false', Bool.not_eq_true, Bool.not_eq_false] at hc) <;> first | (first | (exact absurd rfl hc) | (exfalso; omega) | (exact absurd (hc.symm.trans (by assumption : _ = false)) (by decide)) | (exact absurd (hc.symm.trans (by assumption : _ = true)) (by decide))) | skip)) | refine loopK.x ?_)
      | (fail)
      | fail
    all_goals first | (exfalso; omega) | skip
    exact ret3f rfl rfl rfl rfl rfl rfl rfl (fun w1 hw => ⟨_, _, rfl, H.drop6 hw, W, q, ⟨S, hSn, hSm, fun v => by rw [hWd]⟩, hqp, hqs, b, Kc, sc, yc, hOc, hPc, rfl, rfl, svc⟩)
  have hpc := sftO_perm F (q.take i) o (fun v hv => hqp.mem_iff.1 (List.mem_of_mem_take hv)) hnd
  have hlc := hpc.length_eq
  have hqi : q.getD i default ∈ sftO F (q.take i) o := hpc.mem_iff.2 (hqp.mem_iff.1 (getD_mem (by omega)))
  have hmv : movO F (sftO F (q.take i) o) (q.getD i default) = sftO F (q.take (i + 1)) o := by
    rw [← sftO_snoc, List.take_succ_eq_append_getElem (by omega), List.getD_eq_getElem?_getD, List.getElem?_eq_getElem (by omega)]
    rfl
  repeat' first
    | (refine J.isJ ?_; first | (first | (refine J.o 3 ?_; refine J.iJ hΓ ?_ (hs := oD.sl)) | (refine J.o 4 ?_; refine J.lT default hΓ ?_ (hs := oD.sl) (hr := RdH.app (sF Kc b sc) RdH.hd.tl.tl)) | (refine J.fc 39 ?_; refine J.callx eMoved rfl rfl (fun w hw => moved_any svc (by omega) hqi (stR_hd _) hw) ?_; rintro _ _ ⟨b2, K2, s2, y2, hO2, hP2, rfl, rfl, sv2⟩)) | (first | (refine J.o 0 ?_; refine J.ev' hΓ ?_) | refine J.nil ?_ | (refine J.o 4 ?_; first | refine J.lT default hΓ ?_) | (refine J.o 3 ?_; first | refine J.iJ hΓ ?_ | refine J.ev' hΓ ?_) | (refine J.o 1 ?_; first | refine J.ad ?_) | (refine J.o 5 ?_; first | refine J.t0 hΓ ?_) | (refine J.o 7 ?_; refine J.al hΓ (fun _ => ?_)) | (refine J.o 10 ?_; refine J.ev' hΓ ?_) | (refine J.o 11 ?_; refine J.ev' hΓ ?_) | (refine J.o 14 ?_; refine J.mf hΓ ?_)))
    | (first | refine JC.seq ?_ | refine JC.region ?_ | refine JC.block ?_ | refine JC.ret ?_ | refine JC.exit ?_ | refine JC.skip ?_ | refine thenK.nn ?_ | refine thenK.x ?_ | refine blockK.nn ?_ | refine blockK.hit rfl ?_ | refine JC.condF rfl ?_ | (refine JC.cond rfl (fun hc => ?_) (fun hc => ?_) <;> ((try simp only [decide_eq_true_eq, decide_eq_false_iff_not, beq_iff_eq, beq_eq_false_iff_ne, bne_iff_ne, bne_eq_false_iff_eq, Bool.not_eq_true', Bool.not_eq_false', Bool.not_eq_true, Bool.not_eq_false] at hc) <;> first | (first | (exact absurd rfl hc) | (exfalso; omega) | (exact absurd (hc.symm.trans (by assumption : _ = false)) (by decide)) | (exact absurd (hc.symm.trans (by assumption : _ = true)) (by decide))) | skip)) | refine loopK.x ?_)
    | (fail)
    | fail
  all_goals first | (exfalso; omega) | skip
  rw [hmv] at sv2
  refine loopK.nn (m - 1) (by omega) (by repeat (first | refine Ag.upd rfl ?_ | exact Ag.hv | refine Ag.hv2 (fun i hi => by simp at hi ⊢; omega) ?_)) ⟨_, ⟨i + 1, b2, K2, s2, y2, hO2, hP2, ?_, rfl, rfl, rfl, by omega, sv2, rfl⟩, fun w hw => H.sel (l := [_, _, _, _, _, _, _, _, _, _, _, _, _]) (M := L) hw [0, 1, 2, 3, 4, 5, 12]⟩
  show Value.int .i64 _ = _; congr 1
end Go.Proofs.YtbhgahjeocnfcaaGreat
namespace Go.Proofs.YtbhgahjeocnfcaaGreat
open Go Go.Cx Go.RowKit
set_option linter.unusedVariables false
set_option linter.unusedSimpArgs false
set_option maxHeartbeats 4000000
attribute [local irreducible] J JC thenK blockK loopK roundK drawK retK QW Qt pel List.set Calls
open Go.Maps Go.Lib
set_option maxRecDepth 8000
theorem srt_pw {cm : Int → Int → Int} {q : List Int} (h : SrtO cm q q.length) : q.Pairwise fun x y => cm x y < 0 := by
  rw [List.pairwise_iff_getElem]
  intro i j hi hj hij
  have := h i j hij hj
  rw [List.getD_eq_getElem?_getD, List.getD_eq_getElem?_getD, List.getElem?_eq_getElem hi, List.getElem?_eq_getElem hj] at this
  exact this
theorem pw_uniq {cm : Int → Int → Int} (asy : ∀ x y, cm x y < 0 → ¬ cm y x < 0) : ∀ (q r : List Int), q.Perm r → q.Pairwise (fun x y => cm x y < 0) → r.Pairwise (fun x y => cm x y < 0) → q = r
  | [], r, h, _, _ => (List.Perm.nil_eq h)
  | x :: q, [], h, _, _ => absurd h.length_eq (by simp)
  | x :: q, y :: r, h, h1, h2 => by
    rw [List.pairwise_cons] at h1 h2
    have e : x = y := by
      have hx := h.mem_iff.1 (List.mem_cons_self (a := x) (l := q))
      have hy := h.mem_iff.2 (List.mem_cons_self (a := y) (l := r))
      rcases List.mem_cons.1 hx with hx | hx
      · exact hx
      · rcases List.mem_cons.1 hy with hy | hy
        · exact hy.symm
        · exact absurd (h2.1 x hx) (asy _ _ (h1.1 y hy))
    subst e
    rw [pw_uniq asy q r (List.Perm.cons_inv h) h1.2 h2.2]
theorem cmS_as (W : Int → Nat) (x y : Int) (h : cmS W x y < 0) : ¬ cmS W y x < 0 := by
  unfold cmS at h ⊢
  split at h <;> split <;> omega
theorem queue_uniq {W : Int → Nat} {q r : List Int} (hp : q.Perm r) (hq : SrtO (cmS W) q q.length) (hr : r.Pairwise fun x y => cmS W x y < 0) : q = r := pw_uniq (cmS_as W) q r hp (srt_pw hq) hr
end Go.Proofs.YtbhgahjeocnfcaaGreat
namespace Go.Proofs.YtbhgahjeocnfcaaGreat
open Go Go.Cx Go.RowKit
set_option linter.unusedVariables false
set_option linter.unusedSimpArgs false
set_option maxHeartbeats 4000000
attribute [local irreducible] J JC thenK blockK loopK roundK drawK retK QW Qt pel List.set Calls
open Go.Maps Go.Lib
set_option maxRecDepth 8000
attribute [local irreducible] JE Br eK0 eK3 brK pc
def fromB (f : Nat → Bool) : Nat → Nat
  | 0 => 0
  | j + 1 => 2 * fromB f j + if f j = true then 1 else 0
theorem fromB_lt (f : Nat → Bool) : ∀ j, fromB f j < 2 ^ j
  | 0 => by simp [fromB]
  | j + 1 => by
    have := fromB_lt f j
    rw [fromB, Nat.pow_succ]
    split <;> omega
theorem fromB_bit (f : Nat → Bool) : ∀ (j i : Nat), (fromB f j).testBit i = (decide (i < j) && f (j - 1 - i))
  | 0, i => by simp [fromB]
  | j + 1, 0 => by
    rw [fromB, Nat.testBit_zero, show j + 1 - 1 - 0 = j by omega]
    cases f j <;> simp <;> omega
  | j + 1, i + 1 => by
    rw [fromB, Nat.testBit_succ, show (2 * fromB f j + if f j = true then 1 else 0) / 2 = fromB f j by split <;> omega, fromB_bit f j i]
    rw [show j + 1 - 1 - (i + 1) = j - 1 - i by omega]
    simp
theorem evT_congr {N : Nat} {T : List (List Int)} (hok : okTh N T) {b c : Int → Bool} (h : ∀ u : Int, 1 ≤ u → u ≤ N → b u = c u) : evT b T = evT c T := by
  have hl : ∀ cl ∈ T, ∀ x ∈ cl, litT b x = litT c x := fun cl hc x hx => by
    have := (hok.2.2 cl hc).2 x hx
    unfold litT
    split
    · rw [h (-x) (by omega) (by omega)]
    · rw [h x (by omega) (by omega)]
  unfold evT
  rw [Bool.eq_iff_iff, List.all_eq_true, List.all_eq_true]
  refine forall_congr' fun cl => forall_congr' fun hc => ?_
  rw [List.any_eq_true, List.any_eq_true]
  refine exists_congr fun x => ?_
  constructor
  · rintro ⟨h1, h2⟩; exact ⟨h1, by rw [← hl cl hc x h1]; exact h2⟩
  · rintro ⟨h1, h2⟩; exact ⟨h1, by rw [hl cl hc x h1]; exact h2⟩
end Go.Proofs.YtbhgahjeocnfcaaGreat
namespace Go.Proofs.YtbhgahjeocnfcaaGreat
open Go Go.Cx Go.RowKit
set_option linter.unusedVariables false
set_option linter.unusedSimpArgs false
set_option maxHeartbeats 4000000
attribute [local irreducible] J JC thenK blockK loopK roundK drawK retK QW Qt pel List.set Calls
open Go.Maps Go.Lib
set_option maxRecDepth 8000
attribute [local irreducible] JE Br eK0 eK3 brK pc
theorem Bel.nats {ns : List N3} {a : Nat} {l : List Int} (b : Bel ns a l) : ∃ A : List Nat, A.Nodup ∧ (∀ j, j ∈ A ↔ 2 ≤ j ∧ Rch ns a j) ∧ A.length = l.length := by
  refine ⟨l.map Int.toNat, ?_, fun j => ?_, List.length_map _⟩
  · rw [List.Nodup, List.pairwise_map]
    refine List.Pairwise.imp_of_mem (fun {x y} hx hy hxy e => hxy ?_) b.nodup
    obtain ⟨i, hi, _⟩ := (b.mem x).1 hx
    obtain ⟨j, hj, _⟩ := (b.mem y).1 hy
    omega
  · rw [List.mem_map]
    constructor
    · rintro ⟨x, hx, rfl⟩
      obtain ⟨i, rfl, h⟩ := (b.mem x).1 hx
      exact h
    · intro h
      exact ⟨(j : Int), (b.mem _).2 ⟨j, rfl, h⟩, by simp⟩
end Go.Proofs.YtbhgahjeocnfcaaGreat
namespace Go.Proofs.YtbhgahjeocnfcaaGreat
open Go Go.Cx Go.RowKit
set_option linter.unusedVariables false
set_option linter.unusedSimpArgs false
set_option maxHeartbeats 4000000
attribute [local irreducible] J JC thenK blockK loopK roundK drawK retK QW Qt pel List.set Calls
open Go.Maps Go.Lib
set_option maxRecDepth 8000
attribute [local irreducible] JE Br eK0 eK3 brK pc
def tabX (N : Nat) (F : VF) : List Bool := (List.range (2 ^ N)).map fun x => F (hasB (x, 0))
theorem tabX_len (N : Nat) (F : VF) : (tabX N F).length = 2 ^ N := by simp [tabX]
theorem tabX_get (N : Nat) (F : VF) {x : Nat} (h : x < 2 ^ N) : (tabX N F).getD x default = F (hasB (x, 0)) := by
  unfold tabX; rw [List.getD_eq_getElem?_getD, List.getElem?_map, List.getElem?_range h]; rfl
def DepN (N : Nat) (F : VF) : Prop := ∀ b c : Int → Bool, (∀ u : Int, 1 ≤ u → u ≤ N → b u = c u) → F b = F c
def idxX (N : Nat) (β : Int → Bool) : Nat := fromB (fun j => β ((N : Int) - j)) N
theorem idxX_lt (N : Nat) (β : Int → Bool) : idxX N β < 2 ^ N := fromB_lt _ _
theorem idxX_bit (N : Nat) (β : Int → Bool) (i : Nat) : (idxX N β).testBit i = (decide (i < N) && β ((i : Int) + 1)) := by
  unfold idxX
  rw [fromB_bit]
  by_cases h : i < N
  · rw [decide_eq_true h, show (N : Int) - ((N - 1 - i : Nat) : Int) = (i : Int) + 1 by omega]
  · rw [decide_eq_false h]; rfl
theorem has_idx {N : Nat} (hN : N ≤ 60) (β : Int → Bool) {u : Int} (h1 : 1 ≤ u) (h2 : u ≤ N) : hasB (idxX N β, 0) u = β u := by
  unfold hasB
  rw [if_pos (by omega), idxX_bit, decide_eq_true (by omega), Bool.true_and]
  congr 1; omega
theorem idx_has {N : Nat} (hN : N ≤ 60) {x : Nat} (hx : x < 2 ^ N) : idxX N (hasB (x, 0)) = x := by
  refine Nat.eq_of_testBit_eq fun i => ?_
  rw [idxX_bit]
  by_cases h : i < N
  · rw [decide_eq_true h, Bool.true_and]
    unfold hasB
    rw [if_pos (by omega)]
    congr 1; omega
  · rw [decide_eq_false h, Nat.testBit_lt_two_pow (Nat.lt_of_lt_of_le hx (Nat.pow_le_pow_right (by decide) (by omega)))]; rfl
def vfT (N : Nat) (t : List Bool) : VF := fun β => t.getD (idxX N β) default
theorem vfT_tab {N : Nat} (hN : N ≤ 60) {G : VF} (hG : DepN N G) : vfT N (tabX N G) = G := by
  funext β
  unfold vfT
  rw [tabX_get N G (idxX_lt N β)]
  exact hG _ _ fun u h1 h2 => has_idx hN β h1 h2
theorem tab_vfT {N : Nat} (hN : N ≤ 60) {t : List Bool} (ht : t.length = 2 ^ N) : tabX N (vfT N t) = t := by
  refine list_eq (by rw [tabX_len, ht]) fun x hx => ?_
  rw [tabX_len] at hx
  rw [tabX_get N _ hx]
  unfold vfT
  rw [idx_has hN hx]
def cstT (t : List Bool) : Prop := ∀ i, i < t.length → t.getD i default = t.getD 0 default
instance (t : List Bool) : Decidable (cstT t) := by unfold cstT; exact inferInstance
def stepT (out : List (List Bool)) (t : List Bool) : List (List Bool) := if cstT t ∨ t ∈ out then out else out ++ [t]
theorem foldT_all : ∀ (ts out : List (List Bool)), out.Nodup → (ts.foldl stepT out).Nodup ∧ ∀ t, t ∈ ts.foldl stepT out ↔ t ∈ out ∨ (t ∈ ts ∧ ¬ cstT t)
  | [], out, h => ⟨h, fun t => by simp⟩
  | x :: ts, out, h => by
    rw [List.foldl_cons]
    have hs : (stepT out x).Nodup ∧ ∀ t, t ∈ stepT out x ↔ t ∈ out ∨ (t = x ∧ ¬ cstT t) := by
      unfold stepT
      by_cases hc : cstT x ∨ x ∈ out
      · rw [if_pos hc]
        refine ⟨h, fun t => ⟨.inl, ?_⟩⟩
        rintro (g | ⟨rfl, g⟩)
        · exact g
        · exact hc.resolve_left g
      · rw [if_neg hc]
        refine ⟨?_, fun t => ?_⟩
        · rw [List.nodup_append]
          exact ⟨h, List.nodup_cons.2 ⟨List.not_mem_nil, List.nodup_nil⟩, fun a ha b hb e => by rw [List.mem_singleton.1 hb] at e; exact hc (.inr (e ▸ ha))⟩
        · rw [List.mem_append, List.mem_singleton]
          constructor
          · rintro (g | rfl)
            · exact .inl g
            · exact .inr ⟨rfl, fun g => hc (.inl g)⟩
          · rintro (g | ⟨rfl, _⟩)
            · exact .inl g
            · exact .inr rfl
    obtain ⟨h1, h2⟩ := foldT_all ts _ hs.1
    refine ⟨h1, fun t => ?_⟩
    rw [h2, hs.2, List.mem_cons]
    constructor
    · rintro ((g | ⟨g1, g2⟩) | ⟨g1, g2⟩)
      · exact .inl g
      · exact .inr ⟨.inl g1, g2⟩
      · exact .inr ⟨.inr g1, g2⟩
    · rintro (g | ⟨g1 | g1, g2⟩)
      · exact .inl (.inl g)
      · exact .inl (.inr ⟨g1, g2⟩)
      · exact .inr ⟨g1, g2⟩
def asgL (l : List Int) : Nat → List (Nat × Nat)
  | 0 => [(0, 0)]
  | k + 1 => asgL l k ++ (asgL l k).map fun s => withS s (l.getD k default)
theorem asgL_len (l : List Int) : ∀ k, (asgL l k).length = 2 ^ k
  | 0 => rfl
  | k + 1 => by rw [asgL, List.length_append, List.length_map, asgL_len l k, Nat.pow_succ]; omega
theorem take_mem_s {l : List Int} {k : Nat} (hk : k < l.length) (u : Int) : u ∈ l.take (k + 1) ↔ u ∈ l.take k ∨ u = l.getD k default := by
  rw [take_g l k hk, List.mem_append, List.mem_singleton]
theorem asgL_ok {l : List Int} (ho : okOrd l) : ∀ k, k ≤ l.length → ∀ a ∈ asgL l k, okS a ∧ ∀ u, hasB a u = true → u ∈ l.take k
  | 0, _, a, ha => by
    rw [List.mem_singleton.1 ha]
    exact ⟨okS_zero, fun u hu => by rw [has_zero] at hu; cases hu⟩
  | k + 1, hk, a, ha => by
    rw [asgL] at ha
    rcases List.mem_append.1 ha with g | g
    · obtain ⟨h1, h2⟩ := asgL_ok ho k (by omega) a g
      exact ⟨h1, fun u hu => (take_mem_s (by omega) u).2 (.inl (h2 u hu))⟩
    · obtain ⟨s, hs, rfl⟩ := List.mem_map.1 g
      obtain ⟨h1, h2⟩ := asgL_ok ho k (by omega) s hs
      refine ⟨ok_with h1 _, fun u hu => (take_mem_s (by omega) u).2 ?_⟩
      exact ((has_with s _ u (ho.1 _ (mem_g l k (by omega)))).1 hu).imp (h2 u) id
theorem asgL_all {l : List Int} (ho : okOrd l) (γ : Int → Bool) : ∀ k, k ≤ l.length → ∃ a ∈ asgL l k, ∀ u, u ∈ l.take k → hasB a u = γ u
  | 0, _ => ⟨(0, 0), List.mem_singleton_self _, fun u hu => by cases hu⟩
  | k + 1, hk => by
    obtain ⟨a, ha, h⟩ := asgL_all ho γ k (by omega)
    have hv := ho.1 _ (mem_g l k (by omega))
    have hnot : l.getD k default ∉ l.take k := fun g => by have := (take_at ho.2 (i := k) (by omega) (by omega)).1 g; omega
    cases hg : γ (l.getD k default) with
    | false =>
      refine ⟨a, List.mem_append_left _ ha, fun u hu => ?_⟩
      rcases (take_mem_s (by omega) u).1 hu with g | rfl
      · exact h u g
      · rw [hg]
        cases hh : hasB a (l.getD k default) with
        | false => rfl
        | true => exact absurd ((asgL_ok ho k (by omega) a ha).2 _ hh) hnot
    | true =>
      refine ⟨withS a (l.getD k default), List.mem_append_right _ (List.mem_map.2 ⟨a, ha, rfl⟩), fun u hu => ?_⟩
      rcases (take_mem_s (by omega) u).1 hu with g | rfl
      · have hne : u ≠ l.getD k default := fun e => hnot (e ▸ g)
        rw [← h u g, Bool.eq_iff_iff, has_with a _ u hv]
        exact ⟨fun x => x.resolve_right hne, .inl⟩
      · rw [hg]; exact (has_with a _ _ hv).2 (.inr rfl)
def leftF (l : List Int) (F : VF) (k : Nat) (a : Nat × Nat) : VF := fun β => F (restr (l.take k) (hasB a) β)
def rowT (N : Nat) (l : List Int) (F : VF) (k : Nat) : List (List Bool) := (asgL l k).map fun a => tabX N (leftF l F k a)
def nodesT (N : Nat) (l : List Int) (F : VF) (m : Nat) : List (List Bool) := ((List.range m).flatMap (rowT N l F)).foldl stepT []
theorem leftF_dep {N : Nat} {F : VF} (hF : DepN N F) (l : List Int) (k : Nat) (a : Nat × Nat) : DepN N (leftF l F k a) := fun b c h => hF _ _ fun u h1 h2 => by
  unfold restr
  split
  · rfl
  · exact h u h1 h2
theorem nodesT_size {N : Nat} (hN : N ≤ 60) {F : VF} (hF : DepN N F) {l : List Int} (hp : l.Perm (ints N)) {K : KS} {s : SS} {y : Nat} {hO hP : Heap} (sv : Stv F l K s y hO hP) {L1 : List Int} (bel : Bel s.ns y L1) : L1.length = (nodesT N l F (l.length + 1)).length := by
  have ho := sv.ho
  have w := sv.so.wf
  obtain ⟨A, hA, mA, hAl⟩ := bel.nats
  obtain ⟨hTn, hTm⟩ := foldT_all ((List.range (l.length + 1)).flatMap (rowT N l F)) [] List.nodup_nil
  have hmem : ∀ t, t ∈ nodesT N l F (l.length + 1) ↔ (∃ k a, k ≤ l.length ∧ a ∈ asgL l k ∧ t = tabX N (leftF l F k a)) ∧ ¬ cstT t := fun t => by
    unfold nodesT
    rw [hTm]
    constructor
    · rintro (g | ⟨g1, g2⟩)
      · cases g
      · obtain ⟨k, hk, g⟩ := List.mem_flatMap.1 g1
        obtain ⟨a, ha, e⟩ := List.mem_map.1 g
        exact ⟨⟨k, a, by have := List.mem_range.1 hk; omega, ha, e.symm⟩, g2⟩
    · rintro ⟨⟨k, a, hk, ha, e⟩, g⟩
      exact .inr ⟨List.mem_flatMap.2 ⟨k, List.mem_range.2 (by omega), List.mem_map.2 ⟨a, ha, e.symm⟩⟩, g⟩
  have hlen : ∀ t, t ∈ nodesT N l F (l.length + 1) → t.length = 2 ^ N := fun t ht => by
    obtain ⟨⟨k, a, _, _, rfl⟩, _⟩ := (hmem t).1 ht
    exact tabX_len _ _
  have hT : ((nodesT N l F (l.length + 1)).map (vfT N)).Nodup := by
    rw [List.Nodup, List.pairwise_map]
    refine List.Pairwise.imp_of_mem (fun {a b} ha hb hab e => hab ?_) (show (nodesT N l F (l.length + 1)).Nodup from hTn)
    rw [← tab_vfT hN (hlen a ha), ← tab_vfT hN (hlen b hb), e]
  have hmv : ∀ v : Int, v ∈ l ↔ 1 ≤ v ∧ v ≤ N := fun v => by rw [hp.mem_iff, ints_mem]
  have hdepG : ∀ j, j < s.ns.length → DepN N (fun β => fn l.length s.ns j (asgV l β)) := fun j hj b c h => by
    dsimp only
    refine fn_lt w _ j (Nat.le_refl _) hj fun i hi => ?_
    have := (hmv _).1 (mem_g l i hi)
    exact h _ this.1 this.2
  have key := len_fn ho.2 w hA (fun j hj => ((mA j).1 hj).2.lt w sv.sy.1) hT fun G => by
    rw [List.mem_map]
    constructor
    · rintro ⟨t, ht, rfl⟩
      obtain ⟨⟨k, a, hk, ha, rfl⟩, hc⟩ := (hmem t).1 ht
      rw [vfT_tab hN (leftF_dep hF l k a)]
      obtain ⟨j, h1, h2, h3⟩ := left_rch ho.2 w sv.sy hk (G := leftF l F k a) ⟨hasB a, fun β => rfl⟩
      refine ⟨j, (mA j).2 ⟨?_, h1⟩, h3.2⟩
      rcases Nat.lt_or_ge j 2 with g | g
      · exfalso
        refine hc fun i hi => ?_
        rw [tabX_len] at hi
        rw [tabX_get _ _ hi, tabX_get _ _ (Nat.two_pow_pos N), ← h3.2, ← h3.2]
        unfold fn; rw [ev_const _ _ _ g, ev_const _ _ _ g]
      · exact g
    · rintro ⟨j, hj, hG⟩
      obtain ⟨h2, hr⟩ := (mA j).1 hj
      have hjl := hr.lt w sv.sy.1
      have hple := w.ple hjl
      obtain ⟨γ, hγ⟩ := rch_left ho.2 w sv.sy hr
      obtain ⟨a, ha, hag⟩ := asgL_all ho γ (nd s.ns j).p hple
      have hGl : G = leftF l F (nd s.ns j).p a := funext fun β => by
        rw [← hG]
        have := hγ β
        dsimp only at this
        rw [this]
        unfold leftF
        congr 1
        funext u
        unfold restr
        by_cases hu : u ∈ l.take (nd s.ns j).p
        · rw [if_pos hu, if_pos hu, hag u hu]
        · rw [if_neg hu, if_neg hu]
      refine ⟨tabX N (leftF l F (nd s.ns j).p a), (hmem _).2 ⟨⟨_, a, hple, ha, rfl⟩, fun hc => ?_⟩, ?_⟩
      · refine fn_noncst w h2 hjl fun α β => ?_
        have hv : ∀ α : Nat → Bool, fn l.length s.ns j α = (tabX N (leftF l F (nd s.ns j).p a)).getD 0 default := fun α => by
          have h1 : fn l.length s.ns j α = G (betaV l α) := by
            rw [← hG]
            exact fn_lt w _ j (Nat.le_refl _) hjl fun i hi => (beta_at ho.2 α hi).symm
          have h3 := congrFun (vfT_tab hN (leftF_dep hF l (nd s.ns j).p a)) (betaV l α)
          rw [h1, hGl, ← h3]
          exact hc _ (by rw [tabX_len]; exact idxX_lt _ _)
        rw [hv α, hv β]
      · rw [vfT_tab hN (leftF_dep hF l _ a), hGl]
  rw [List.length_map] at key
  rw [← hAl, key]
end Go.Proofs.YtbhgahjeocnfcaaGreat
namespace Go.Proofs.YtbhgahjeocnfcaaGreat
open Go Go.Cx Go.RowKit
set_option linter.unusedVariables false
set_option linter.unusedSimpArgs false
set_option maxHeartbeats 4000000
attribute [local irreducible] J JC thenK blockK loopK roundK drawK retK QW Qt pel List.set Calls
open Go.Maps Go.Lib
set_option maxRecDepth 8000
theorem up_me (a : Nat → Bool) (k : Nat) : up a k (a k) = a := funext fun j => by
  unfold up
  split
  · rename_i h; rw [h]
  · rfl
theorem dia_go {n : Nat} : ∀ m k, k + m = n → ∀ ns, WF n ns → ∀ g : BF, (∀ α β : Nat → Bool, (∀ i, k ≤ i → i < n → α i = β i) → g α = g β) → ∃ ms y, Ext ns ms ∧ WF n ms ∧ y < ms.length ∧ k ≤ (nd ms y).p ∧ ∀ α, fn n ms y α = g α
  | 0, k, hk, ns, w, g, hg => by
    have hc : ∀ α, g α = g (fun _ => false) := fun α => hg _ _ fun i h1 h2 => by omega
    have h2 := w.two
    cases hb : g (fun _ => false) with
    | false => exact ⟨ns, 0, Ext.refl _, w, by omega, by rw [w.pconst (by omega)]; omega, fun α => by rw [fn_0 w, hc, hb]⟩
    | true => exact ⟨ns, 1, Ext.refl _, w, by omega, by rw [w.pconst (by omega)]; omega, fun α => by rw [fn_1 w, hc, hb]⟩
  | m + 1, k, hk, ns, w, g, hg => by
    have hgb : ∀ b : Bool, ∀ α β : Nat → Bool, (∀ i, k + 1 ≤ i → i < n → α i = β i) → g (up α k b) = g (up β k b) := fun b α β h => hg _ _ fun i h1 h2 => by
      unfold up
      split
      · rfl
      · exact h i (by omega) h2
    obtain ⟨m1, y1, e1, w1, l1, p1, f1⟩ := dia_go m (k + 1) (by omega) ns w (fun α => g (up α k false)) (hgb false)
    obtain ⟨m2, y2, e2, w2, l2, p2, f2⟩ := dia_go m (k + 1) (by omega) m1 w1 (fun α => g (up α k true)) (hgb true)
    have l1' : y1 < m2.length := Nat.lt_of_lt_of_le l1 e2.le
    have f1' : ∀ α, fn n m2 y1 α = g (up α k false) := fun α => by rw [fn_ext w1 e2 l1]; exact f1 α
    have p1' : k + 1 ≤ (nd m2 y1).p := by rw [e2.at_ y1 l1]; exact p1
    have hga : ∀ α, g α = if α k then fn n m2 y2 α else fn n m2 y1 α := fun α => by
      rw [f2, f1']
      cases hb : α k with
      | false => rw [if_neg (by decide), ← hb, up_me]
      | true => rw [if_pos rfl, ← hb, up_me]
    by_cases hy : y1 = y2
    · refine ⟨m2, y1, e1.trans e2, w2, l1', by omega, fun α => ?_⟩
      rw [hga α, ← hy]
      split <;> rfl
    · by_cases hx : ∃ i, 2 ≤ i ∧ i < m2.length ∧ nd m2 i = ⟨k, y1, y2⟩
      · obtain ⟨i, h2, hi, e⟩ := hx
        refine ⟨m2, i, e1.trans e2, w2, hi, by rw [e]; exact Nat.le_refl _, fun α => ?_⟩
        rw [fn_node w2 α h2 hi, e, hga α]
      · have w3 : WF n (m2 ++ [⟨k, y1, y2⟩]) := w2.add (x := ⟨k, y1, y2⟩) (by show k < n; omega) l1' l2 (show k < (nd m2 y1).p by omega) (show k < (nd m2 y2).p by omega) hy (fun i h2 hi e => hx ⟨i, h2, hi, e⟩)
        have e3 := Ext.app m2 (⟨k, y1, y2⟩ : N3)
        have hl : m2.length < (m2 ++ [(⟨k, y1, y2⟩ : N3)]).length := by simp
        refine ⟨m2 ++ [⟨k, y1, y2⟩], m2.length, (e1.trans e2).trans e3, w3, hl, by rw [nd_last]; exact Nat.le_refl _, fun α => ?_⟩
        rw [fn_node w3 α w2.two hl, nd_last, hga α]
        show (if α k then fn n (m2 ++ [⟨k, y1, y2⟩]) y2 α else fn n (m2 ++ [⟨k, y1, y2⟩]) y1 α) = _
        rw [fn_ext w2 e3 l2, fn_ext w2 e3 l1']
theorem beta_asg {N : Nat} {l : List Int} (hp : l.Perm (ints N)) (hn : l.Nodup) (β : Int → Bool) {u : Int} (h1 : 1 ≤ u) (h2 : u ≤ N) : betaV l (asgV l β) u = β u := by
  have hu : u ∈ l := hp.mem_iff.2 ((ints_mem _ _).2 ⟨h1, h2⟩)
  obtain ⟨k, hk, rfl⟩ := mem_at hu
  rw [beta_at hn _ hk]
  rfl
theorem dia {N : Nat} {F : VF} (hF : DepN N F) {l : List Int} (hp : l.Perm (ints N)) (ho : okOrd l) : ∃ ns y, WF l.length ns ∧ Says ns l y F := by
  obtain ⟨ms, y, _, w, hy, _, hf⟩ := dia_go (n := l.length) l.length 0 (by omega) (ends l.length) (ends_wf _) (gF l F) (fun α β h => hF _ _ fun u h1 h2 => by
    have hu : u ∈ l := hp.mem_iff.2 ((ints_mem _ _).2 ⟨h1, h2⟩)
    obtain ⟨k, hk, rfl⟩ := mem_at hu
    rw [beta_at ho.2 _ hk, beta_at ho.2 _ hk]
    exact h k (by omega) hk)
  exact ⟨ms, y, w, hy, fun β => by
    rw [hf]
    exact hF _ _ fun u h1 h2 => beta_asg hp ho.2 β h1 h2⟩
theorem nodesT_key {N : Nat} (hN : N ≤ 60) {F : VF} (hF : DepN N F) {l : List Int} (hp : l.Perm (ints N)) {ns : List N3} {y : Nat} (w : WF l.length ns) (ho : okOrd l) (sy : Says ns l y F) {A : List Nat} (mA : ∀ j, j ∈ A ↔ 2 ≤ j ∧ Rch ns y j) (G : VF) : G ∈ (nodesT N l F (l.length + 1)).map (vfT N) ↔ ∃ j ∈ A, ∀ β, fn l.length ns j (asgV l β) = G β := by
  obtain ⟨hTn, hTm⟩ := foldT_all ((List.range (l.length + 1)).flatMap (rowT N l F)) [] List.nodup_nil
  have hmem : ∀ t, t ∈ nodesT N l F (l.length + 1) ↔ (∃ k a, k ≤ l.length ∧ a ∈ asgL l k ∧ t = tabX N (leftF l F k a)) ∧ ¬ cstT t := fun t => by
    unfold nodesT
    rw [hTm]
    constructor
    · rintro (g | ⟨g1, g2⟩)
      · cases g
      · obtain ⟨k, hk, g⟩ := List.mem_flatMap.1 g1
        obtain ⟨a, ha, e⟩ := List.mem_map.1 g
        exact ⟨⟨k, a, by have := List.mem_range.1 hk; omega, ha, e.symm⟩, g2⟩
    · rintro ⟨⟨k, a, hk, ha, e⟩, g⟩
      exact .inr ⟨List.mem_flatMap.2 ⟨k, List.mem_range.2 (by omega), List.mem_map.2 ⟨a, ha, e.symm⟩⟩, g⟩
  have hlen : ∀ t, t ∈ nodesT N l F (l.length + 1) → t.length = 2 ^ N := fun t ht => by
    obtain ⟨⟨k, a, _, _, rfl⟩, _⟩ := (hmem t).1 ht
    exact tabX_len _ _
  have hmv : ∀ v : Int, v ∈ l ↔ 1 ≤ v ∧ v ≤ N := fun v => by rw [hp.mem_iff, ints_mem]
  have hdepG : ∀ j, j < ns.length → DepN N (fun β => fn l.length ns j (asgV l β)) := fun j hj b c h => by
    dsimp only
    refine fn_lt w _ j (Nat.le_refl _) hj fun i hi => ?_
    have := (hmv _).1 (mem_g l i hi)
    exact h _ this.1 this.2
  rw [List.mem_map]
  constructor
  · rintro ⟨t, ht, rfl⟩
    obtain ⟨⟨k, a, hk, ha, rfl⟩, hc⟩ := (hmem t).1 ht
    rw [vfT_tab hN (leftF_dep hF l k a)]
    obtain ⟨j, h1, h2, h3⟩ := left_rch ho.2 w sy hk (G := leftF l F k a) ⟨hasB a, fun β => rfl⟩
    refine ⟨j, (mA j).2 ⟨?_, h1⟩, h3.2⟩
    rcases Nat.lt_or_ge j 2 with g | g
    · exfalso
      refine hc fun i hi => ?_
      rw [tabX_len] at hi
      rw [tabX_get _ _ hi, tabX_get _ _ (Nat.two_pow_pos N), ← h3.2, ← h3.2]
      unfold fn; rw [ev_const _ _ _ g, ev_const _ _ _ g]
    · exact g
  · rintro ⟨j, hj, hG⟩
    obtain ⟨h2, hr⟩ := (mA j).1 hj
    have hjl := hr.lt w sy.1
    have hple := w.ple hjl
    obtain ⟨γ, hγ⟩ := rch_left ho.2 w sy hr
    obtain ⟨a, ha, hag⟩ := asgL_all ho γ (nd ns j).p hple
    have hGl : G = leftF l F (nd ns j).p a := funext fun β => by
      rw [← hG]
      have := hγ β
      dsimp only at this
      rw [this]
      unfold leftF
      congr 1
      funext u
      unfold restr
      by_cases hu : u ∈ l.take (nd ns j).p
      · rw [if_pos hu, if_pos hu, hag u hu]
      · rw [if_neg hu, if_neg hu]
    refine ⟨tabX N (leftF l F (nd ns j).p a), (hmem _).2 ⟨⟨_, a, hple, ha, rfl⟩, fun hc => ?_⟩, ?_⟩
    · refine fn_noncst w h2 hjl fun α β => ?_
      have hv : ∀ α : Nat → Bool, fn l.length ns j α = (tabX N (leftF l F (nd ns j).p a)).getD 0 default := fun α => by
        have h1 : fn l.length ns j α = G (betaV l α) := by
          rw [← hG]
          exact fn_lt w _ j (Nat.le_refl _) hjl fun i hi => (beta_at ho.2 α hi).symm
        have h3 := congrFun (vfT_tab hN (leftF_dep hF l (nd ns j).p a)) (betaV l α)
        rw [h1, hGl, ← h3]
        exact hc _ (by rw [tabX_len]; exact idxX_lt _ _)
      rw [hv α, hv β]
    · rw [vfT_tab hN (leftF_dep hF l _ a), hGl]
theorem nodesT_nd (N : Nat) (hN : N ≤ 60) (l : List Int) (F : VF) (m : Nat) : (nodesT N l F m).Nodup ∧ ∀ t ∈ nodesT N l F m, t.length = 2 ^ N := by
  obtain ⟨hTn, hTm⟩ := foldT_all ((List.range m).flatMap (rowT N l F)) [] List.nodup_nil
  refine ⟨hTn, fun t ht => ?_⟩
  rcases (hTm t).1 ht with g | ⟨g, _⟩
  · cases g
  · obtain ⟨k, hk, g⟩ := List.mem_flatMap.1 g
    obtain ⟨a, ha, e⟩ := List.mem_map.1 g
    rw [← e]
    exact tabX_len _ _
theorem vfT_nd {N : Nat} (hN : N ≤ 60) {T : List (List Bool)} (hT : T.Nodup) (hl : ∀ t ∈ T, t.length = 2 ^ N) : (T.map (vfT N)).Nodup := by
  rw [List.Nodup, List.pairwise_map]
  refine List.Pairwise.imp_of_mem (fun {a b} ha hb hab e => hab ?_) hT
  rw [← tab_vfT hN (hl a ha), ← tab_vfT hN (hl b hb), e]
theorem szF_nodes {N : Nat} (hN : N ≤ 60) {F : VF} (hF : DepN N F) {l : List Int} (hp : l.Perm (ints N)) (ho : okOrd l) : (nodesT N l F (l.length + 1)).length = szF l F := by
  obtain ⟨ns, y, w, sy⟩ := dia hF hp ho
  have hA := allN_nodup w sy.1 l.length (Nat.le_refl _)
  have mA : ∀ j, j ∈ allN l.length ns y l.length ↔ 2 ≤ j ∧ Rch ns y j := fun j => by
    rw [allN_mem w sy.1 l.length (Nat.le_refl _)]
    constructor
    · rintro ⟨g1, g2, _⟩; exact ⟨g2, g1⟩
    · rintro ⟨g1, g2⟩; exact ⟨g2, g1, w.pl j g1 (g2.lt w sy.1)⟩
  obtain ⟨hn, hl⟩ := nodesT_nd N hN l F (l.length + 1)
  have key := len_fn ho.2 w hA (fun j hj => ((mA j).1 hj).2.lt w sy.1) (vfT_nd hN hn hl) (nodesT_key hN hF hp w ho sy mA)
  rw [List.length_map] at key
  have hs := allN_len w sy.1 l.length (Nat.le_refl _)
  have ht : tab l.length ns y = tabF l.length (gF l F) := by
    unfold tab blk tabF
    exact List.map_congr_left fun r _ => sy.fn ho.2 w _
  unfold szF sizeT
  rw [← ht, ← hs, key]
def depX (N : Nat) (t : List Bool) (v : Int) : Bool := (List.range (2 ^ N)).any fun x => !x.testBit (v - 1).toNat && (t.getD x default != t.getD (x + 2 ^ (v - 1).toNat) default)
def topT (N : Nat) (t : List Bool) : List Int → Int
  | [] => 0
  | v :: l => if depX N t v = true then v else topT N t l
theorem topT_at (N : Nat) (t : List Bool) : ∀ (l : List Int) (k : Nat), k < l.length → depX N t (l.getD k default) = true → (∀ i, i < k → depX N t (l.getD i default) = false) → topT N t l = l.getD k default
  | v :: l, 0, _, h, _ => by
    have h' : depX N t v = true := h
    unfold topT
    rw [if_pos h']
    rfl
  | v :: l, k + 1, hk, h, g => by
    have h0 : depX N t v = false := g 0 (by omega)
    unfold topT
    rw [if_neg (by rw [h0]; decide)]
    exact topT_at N t l k (by simpa using hk) h (fun i hi => g (i + 1) (by omega))
theorem gi_add {m q : Nat} (h : q.testBit m = false) : q + 2 ^ m = gi m true q := by
  have h0 : q / 2 ^ m % 2 = 0 := by
    rw [Nat.testBit_eq_decide_div_mod_eq] at h
    have := of_decide_eq_false h
    omega
  have hs := q_split q m
  rw [h0, Nat.add_zero] at hs
  rw [gi_eq, if_pos rfl, Nat.mul_add, Nat.mul_one]
  omega
theorem has_clear {N x : Nat} (hN : N ≤ 60) {v : Int} (h1 : 1 ≤ v) (h2 : v ≤ N) : hasB (x, 0) v = x.testBit (v - 1).toNat := by
  unfold hasB
  rw [if_pos (by omega)]
theorem has_add {N x : Nat} (hN : N ≤ 60) {v : Int} (h1 : 1 ≤ v) (h2 : v ≤ N) (hb : x.testBit (v - 1).toNat = false) {u : Int} (g1 : 1 ≤ u) (g2 : u ≤ N) : hasB (x + 2 ^ (v - 1).toNat, 0) u = if u = v then true else hasB (x, 0) u := by
  rw [gi_add hb, has_clear hN g1 g2, has_clear hN g1 g2, gi_bit]
  by_cases e : u = v
  · rw [if_pos (by rw [e]), if_pos e]
  · rw [if_neg (by omega), if_neg e]
theorem vfT_dep (N : Nat) (t : List Bool) : DepN N (vfT N t) := fun b c h => by
  unfold vfT
  congr 1
  refine Nat.eq_of_testBit_eq fun i => ?_
  rw [idxX_bit, idxX_bit]
  by_cases hi : i < N
  · rw [h ((i : Int) + 1) (by omega) (by omega)]
  · rw [decide_eq_false hi, Bool.false_and, Bool.false_and]
theorem add_lt {N x : Nat} {v : Int} (h1 : 1 ≤ v) (h2 : v ≤ N) (hx : x < 2 ^ N) (hb : x.testBit (v - 1).toNat = false) : x + 2 ^ (v - 1).toNat < 2 ^ N := by
  rw [gi_add hb]
  exact gi_lt (by omega) true hx
theorem dep_iff {N : Nat} (hN : N ≤ 60) {G : VF} (hG : DepN N G) {v : Int} (h1 : 1 ≤ v) (h2 : v ≤ N) : depX N (tabX N G) v = true ↔ Deps G v := by
  unfold depX
  rw [List.any_eq_true]
  constructor
  · rintro ⟨x, hx, h⟩
    have hx := List.mem_range.1 hx
    rw [Bool.and_eq_true, Bool.not_eq_true', bne_iff_ne] at h
    obtain ⟨hb, hne⟩ := h
    rw [tabX_get N G hx, tabX_get N G (add_lt h1 h2 hx hb)] at hne
    refine ⟨hasB (x, 0), ?_⟩
    have e1 : G (fun u => if u = v then false else hasB (x, 0) u) = G (hasB (x, 0)) := hG _ _ fun u g1 g2 => by
      by_cases e : u = v
      · rw [if_pos e, e, has_clear hN h1 h2, hb]
      · rw [if_neg e]
    have e2 : G (fun u => if u = v then true else hasB (x, 0) u) = G (hasB (x + 2 ^ (v - 1).toNat, 0)) := hG _ _ fun u g1 g2 => (has_add hN h1 h2 hb g1 g2).symm
    rw [e1, e2]
    exact hne
  · rintro ⟨β, hβ⟩
    have hx := idxX_lt N (fun u => if u = v then false else β u)
    have hb : (idxX N (fun u => if u = v then false else β u)).testBit (v - 1).toNat = false := by
      rw [idxX_bit, if_pos (by omega), Bool.and_false]
    refine ⟨_, List.mem_range.2 hx, ?_⟩
    rw [Bool.and_eq_true, Bool.not_eq_true', bne_iff_ne]
    refine ⟨hb, ?_⟩
    rw [tabX_get N G hx, tabX_get N G (add_lt h1 h2 hx hb)]
    have e1 : G (hasB (idxX N (fun u => if u = v then false else β u), 0)) = G (fun u => if u = v then false else β u) := hG _ _ fun u g1 g2 => has_idx hN _ g1 g2
    have e2 : G (hasB (idxX N (fun u => if u = v then false else β u) + 2 ^ (v - 1).toNat, 0)) = G (fun u => if u = v then true else β u) := hG _ _ fun u g1 g2 => by
      rw [has_add hN h1 h2 hb g1 g2]
      by_cases e : u = v
      · rw [if_pos e, if_pos e]
      · rw [if_neg e, if_neg e, has_idx hN _ g1 g2, if_neg e]
    rw [e1, e2]
    exact hβ
theorem wt_nodes {N : Nat} (hN : N ≤ 60) {F : VF} (hF : DepN N F) {o : List Int} (hp : o.Perm (ints N)) {K : KS} {s : SS} {a : Nat} {hO hP : Heap} (sv : Stv F o K s a hO hP) {W : Int → Nat} (wt : WtOf s.ns o a W) {v : Int} (hv : v ∈ o) : ((nodesT N o F (o.length + 1)).filter fun t => decide (topT N t o = v)).length = W v := by
  obtain ⟨S, hS, mS, hW⟩ := wt
  have w := sv.so.wf
  have ho := sv.ho
  obtain ⟨hn, hl⟩ := nodesT_nd N hN o F (o.length + 1)
  have hmv : ∀ v : Int, v ∈ o ↔ 1 ≤ v ∧ v ≤ N := fun v => by rw [hp.mem_iff, ints_mem]
  have htop : ∀ (j : Nat) (G : VF), 2 ≤ j → Rch s.ns a j → DepN N G → (∀ β, fn o.length s.ns j (asgV o β) = G β) → topT N (tabX N G) o = o.getD (nd s.ns j).p default := fun j G h2 hr hG hj => by
    have hjl := hr.lt w sv.sy.1
    have hpl := w.pl j h2 hjl
    have hsay : Says s.ns o j G := ⟨hjl, hj⟩
    refine topT_at N _ o _ hpl ?_ (fun i hi => ?_)
    · have := (hmv _).1 (mem_g o _ hpl)
      exact (dep_iff hN hG this.1 this.2).2 ((hsay.top ho w hpl (Nat.le_refl _)).1 rfl)
    · have := (hmv _).1 (mem_g o i (by omega))
      cases hb : depX N (tabX N G) (o.getD i default) with
      | false => rfl
      | true =>
        have := (hsay.top ho w (k := i) (by omega) (by omega)).2 ((dep_iff hN hG this.1 this.2).1 hb)
        omega
  have key := nodesT_key hN hF hp w ho sv.sy mS
  have hT2 : (((nodesT N o F (o.length + 1)).filter fun t => decide (topT N t o = v)).map (vfT N)).Nodup := vfT_nd hN (hn.filter _) fun t ht => hl t (List.mem_filter.1 ht).1
  have := len_fn ho.2 w (A := S.filter fun j => decide (o.getD (nd s.ns j).p default = v)) (hS.filter _) (fun j hj => ((mS j).1 (List.mem_filter.1 hj).1).2.lt w sv.sy.1) hT2 fun G => by
    constructor
    · intro hg
      obtain ⟨t, ht, rfl⟩ := List.mem_map.1 hg
      obtain ⟨h1, h2⟩ := List.mem_filter.1 ht
      obtain ⟨j, hj, hG⟩ := (key _).1 (List.mem_map.2 ⟨t, h1, rfl⟩)
      refine ⟨j, List.mem_filter.2 ⟨hj, ?_⟩, hG⟩
      obtain ⟨g1, g2⟩ := (mS j).1 hj
      have hd := vfT_dep N t
      have := htop j (vfT N t) g1 g2 hd hG
      rw [tab_vfT hN (hl t h1)] at this
      rw [← this]
      exact h2
    · rintro ⟨j, hj, hG⟩
      obtain ⟨h1, h2⟩ := List.mem_filter.1 hj
      obtain ⟨t, ht, rfl⟩ := List.mem_map.1 ((key G).2 ⟨j, h1, hG⟩)
      obtain ⟨g1, g2⟩ := (mS j).1 h1
      have hd := vfT_dep N t
      refine List.mem_map.2 ⟨t, List.mem_filter.2 ⟨ht, ?_⟩, rfl⟩
      have := htop j (vfT N t) g1 g2 hd hG
      rw [tab_vfT hN (hl t ht)] at this
      rw [this]
      exact h2
  rw [hW]
  unfold cntV
  rw [this, List.length_map]
end Go.Proofs.YtbhgahjeocnfcaaGreat
namespace Go.Proofs.YtbhgahjeocnfcaaGreat
open Go Go.Cx Go.RowKit
set_option linter.unusedVariables false
set_option linter.unusedSimpArgs false
set_option maxHeartbeats 4000000
attribute [local irreducible] J JC thenK blockK loopK roundK drawK retK QW Qt pel List.set Calls
open Go.Maps Go.Lib
set_option maxRecDepth 20000
attribute [local irreducible] JE Br eK0 eK3 brK pc
theorem eMinus3 : Entr Tryz.prog 115 := Entr.of Tryz.func115 rfl rfl
theorem eUnion3 : Entr Tryz.prog 114 := Entr.of Tryz.func114 rfl rfl
theorem ePart31 : Entr Tryz.prog 101 := Entr.of Tryz.func101 rfl rfl
theorem eAsg31 : Entr Tryz.prog 100 := Entr.of Tryz.func100 rfl rfl
theorem eConst31 : Entr Tryz.prog 102 := Entr.of Tryz.func102 rfl rfl
theorem eSame31 : Entr Tryz.prog 103 := Entr.of Tryz.func103 rfl rfl
def minQ (s t : Nat × Nat) : Nat × Nat := ofP ((upTo s 128).filter fun u => !hasB t u)
theorem minQ_has (s t : Nat × Nat) (u : Int) : hasB (minQ s t) u = (hasB s u && !hasB t u) := by
  unfold minQ
  rw [Bool.eq_iff_iff, ofP_has, List.mem_filter, upTo_mem, Bool.and_eq_true]
  constructor
  · rintro ⟨_, _, ⟨_, _, h⟩, g⟩; exact ⟨h, g⟩
  · rintro ⟨h, g⟩
    have := hasB_rng h
    exact ⟨this.1, this.2, ⟨this.1, this.2, h⟩, g⟩
def uniQ (s t : Nat × Nat) : Nat × Nat := ofP (upTo s 128 ++ upTo t 128)
theorem uniQ_has (s t : Nat × Nat) (u : Int) : hasB (uniQ s t) u = (Bool.or (hasB s u) (hasB t u)) := by
  unfold uniQ
  rw [Bool.eq_iff_iff, ofP_has, List.mem_append, upTo_mem, upTo_mem, Bool.or_eq_true]
  constructor
  · rintro ⟨_, _, ⟨_, _, h⟩ | ⟨_, _, h⟩⟩
    · exact .inl h
    · exact .inr h
  · rintro (h | h)
    · have := hasB_rng h
      exact ⟨this.1, this.2, .inl ⟨this.1, this.2, h⟩⟩
    · have := hasB_rng h
      exact ⟨this.1, this.2, .inr ⟨this.1, this.2, h⟩⟩
theorem union3_any (s t : Nat × Nat) (hs : okS s) (ht : okS t) (w : World) : Calls Tryz.prog 114 #[sv s, sv t] w fun e w' => e = .returned (sv (uniQ s t)) ∧ Below w.heap.size w w' := by
  have l1 := upTo_len s 128
  have l2 := upTo_len t 128
  refine calls_of_JC (R := []) Tryz.func114 Tryz.ntmps114 rfl rfl (Holds.nil _) ?_
  refine JC.seq ?_
  refine JC.region ?_
  refine J.isJ ?_
  refine J.o 6 ?_
  refine J.bx (fun b2 => ?_)
  refine J.isJ ?_
  refine J.o 6 ?_
  refine J.bx (fun b3 => ?_)
  refine J.isJ ?_
  refine J.o 7 ?_
  refine J.al hΓ (fun b4 => ?_)
  repeat' first
    | (refine J.isJ ?_; first | (first | (refine J.o 4 ?_; first | refine J.lR hΓ ?_ (hr := Rd.hd.tl.tl) | refine J.lR hΓ ?_ (hr := Rd.hd.tl.tl)) | (refine J.fc 128 ?_; first | (refine J.call1 eList3 rfl rfl (fun w hw => list3_any s hs w) ?_; rintro _ h1 ⟨a1, c1, rfl, o1⟩) | (refine J.call1 eList3 rfl rfl (fun w hw => list3_any t ht w) ?_; rintro _ h2 ⟨a2, c2, rfl, o2⟩)) | (refine J.o 9 ?_; refine J.perm (bring_perm 1 _) ?_; refine J.apA hΓ o1 o2.sl RdH.hd.tl (fun a3 c3 h3 o3 => ?_)) | (refine J.fc 127 ?_; refine J.call0 eOf3 rfl rfl (fun w hw => of3_any a3 c3 (upTo s 128 ++ upTo t 128) h3 o3.sl (by rw [List.length_append]; omega) w (hw.rdH RdH.hd)) ?_)) | (first | refine J.nil ?_ | (refine J.o 4 ?_; first | refine J.lR hΓ ?_) | (refine J.o 5 ?_; first | refine J.t2 hΓ ?_) | (refine J.o 6 ?_; refine J.bx (fun _ => ?_)) | (refine J.o 7 ?_; refine J.al hΓ (fun _ => ?_))))
    | (first | refine JC.seq ?_ | refine JC.region ?_ | refine JC.ret ?_ | refine thenK.nn ?_ | refine drawK.nn ?_)
    | ((first | refine JC.drawO [(1,0),(1,2),(3,1),(3,3),(2,4),(1,5),(2,6)] (by decide +kernel) (by decide +kernel) ?_ | refine JC.drawO [(1,0),(1,2),(2,1),(2,3),(2,4),(1,5),(2,6)] (by decide +kernel) (by decide +kernel) ?_ | refine JC.drawO [(1,0),(1,2),(3,1),(3,3),(3,4),(1,5),(2,6)] (by decide +kernel) (by decide +kernel) ?_))
    | fail
  all_goals first | (exfalso; omega) | skip
  refine retC hΓ rfl rfl rfl (by first | exact Rd.hd | exact Rd.hd.tl | exact Rd.hd.tl.tl) rfl (fun w1 hw => ⟨rfl, hw.below⟩)
theorem minus3_any (s t : Nat × Nat) (hs : okS s) (ht : okS t) (w : World) : Calls Tryz.prog 115 #[sv s, sv t] w fun e w' => e = .returned (sv (minQ s t)) ∧ Below w.heap.size w w' := by
  refine calls_of_JC (R := []) Tryz.func115 Tryz.ntmps115 rfl rfl (Holds.nil _) ?_
  refine JC.seq ?_
  refine JC.region ?_
  refine J.isJ ?_
  refine J.o 6 ?_
  refine J.bx (fun b2 => ?_)
  refine J.isJ ?_
  refine J.o 6 ?_
  refine J.bx (fun b3 => ?_)
  refine J.isJ ?_
  refine J.o 7 ?_
  refine J.al hΓ (fun b4 => ?_)
  repeat' first
    | (refine J.isJ ?_; first | ((refine J.fc 129 ?_; refine J.call1 eNone3 rfl rfl (fun w hw => none_any w) ?_; rintro _ hx ⟨bx, rfl, ox⟩)) | (first | (refine J.o 0 ?_; refine J.ev' hΓ ?_) | refine J.nil ?_ | refine J.kd ?_ | (refine J.o 4 ?_; first | refine J.lR hΓ ?_) | (refine J.o 3 ?_; first | refine J.iJ hΓ ?_ | refine J.ev' hΓ ?_) | (refine J.o 1 ?_; first | refine J.ad ?_) | (refine J.o 5 ?_; first | refine J.t1 hΓ ?_ | refine J.tT _ default hΓ (fun _ _ => ?_)) | (refine J.o 6 ?_; refine J.bx (fun _ => ?_)) | (refine J.o 7 ?_; refine J.al hΓ (fun _ => ?_)) | (refine J.o 10 ?_; refine J.ev' hΓ ?_) | (refine J.o 11 ?_; refine J.ev' hΓ ?_)))
    | (first | refine JC.seq ?_ | refine JC.region ?_ | refine JC.block ?_ | refine JC.ret ?_ | refine JC.exit ?_ | refine JC.skip ?_ | refine thenK.nn ?_ | refine thenK.x ?_ | refine blockK.nn ?_ | refine blockK.hit rfl ?_ | refine JC.condF rfl ?_ | (refine JC.cond rfl (fun hc => ?_) (fun hc => ?_) <;> ((try simp only [decide_eq_true_eq, decide_eq_false_iff_not, beq_iff_eq, beq_eq_false_iff_ne, bne_iff_ne, bne_eq_false_iff_eq, Bool.not_eq_true', Bool.not_eq_false', Bool.not_eq_true, Bool.not_eq_false] at hc) <;> first | (first | (exact absurd rfl hc) | (exfalso; omega) | (exact absurd (hc.symm.trans (by assumption : _ = false)) (by decide)) | (exact absurd (hc.symm.trans (by assumption : _ = true)) (by decide))) | skip)) | refine loopK.x ?_)
    | (fail)
    | fail
  all_goals first | (exfalso; omega) | skip
  refine JC.loop (fun i => i == 6 || Nat.ble 8 i) (fun m g L' => ∃ (k : Nat) (x : List Bool) (hx : Heap), g 6 = .int .i64 ((k + 1 : Nat) : Int) ∧ k + m = 128 ∧ x.length = 129 ∧ (∀ u : Nat, 1 ≤ u → u ≤ k → x.getD u default = (hasB s u && !hasB t u)) ∧ OwT encBo 1 4 (some ⟨bx, 0, none⟩) 129 x hx ∧ L' = [hx, _, _, _]) 128 ⟨0, _, _, rfl, rfl, List.length_replicate, fun u h1 h2 => by omega, ox, rfl⟩ ?_
  clear ox
  rintro m g L' ⟨k, x, hx, e6, hkm, hxl, hall, ox, rfl⟩
  refine JC.pin 6 e6 ?_
  rcases Nat.lt_or_ge k 128 with hk | hk
  ·
    have c1 := fun w => refHas_any s hs ((k + 1 : Nat) : Int) w
    have c2 := fun w => refHas_any t ht ((k + 1 : Nat) : Int) w
    obtain ⟨bv, hbv⟩ : ∃ bv, (hasB s ((k + 1 : Nat) : Int) && !hasB t ((k + 1 : Nat) : Int)) = bv := ⟨_, rfl⟩
    have hset : ∀ u : Nat, 1 ≤ u → u ≤ k + 1 → (x.set (k + 1) bv).getD u default = (hasB s u && !hasB t u) := fun u h1 h2 => by
      rw [List.getD_eq_getElem?_getD, List.getElem?_set]
      by_cases e : k + 1 = u
      · subst e; rw [if_pos rfl, if_pos (by omega), hbv]; rfl
      · rw [if_neg e, ← List.getD_eq_getElem?_getD]; exact hall u h1 (by omega)
    cases hb1 : hasB s ((k + 1 : Nat) : Int) <;> cases hb2 : hasB t ((k + 1 : Nat) : Int)
    all_goals
      rw [hb1] at c1 hbv
      rw [hb2] at c2 hbv
      subst hbv
      repeat' first
        | (refine J.isJ ?_; first | (first | (refine J.o 4 ?_; first | refine J.lR hΓ ?_ (hr := Rd.hd.tl.tl.tl) | refine J.lR hΓ ?_ (hr := Rd.hd.tl.tl)) | (refine J.fc 130 ?_; first | refine J.call0 eHasR rfl rfl (fun w hw => c1 w) ?_ | refine J.call0 eHasR rfl rfl (fun w hw => c2 w) ?_) | (refine J.o 3 ?_; refine J.iJ hΓ ?_ (hs := ox.sl)) | (refine J.o 5 ?_; first | refine J.tT (enc := encBo) true default hΓ (fun h5 o5 => ?_) (ho := ox) | refine J.tT (enc := encBo) false default hΓ (fun h5 o5 => ?_) (ho := ox))) | (first | (refine J.o 0 ?_; refine J.ev' hΓ ?_) | refine J.nil ?_ | refine J.kd ?_ | (refine J.o 4 ?_; first | refine J.lR hΓ ?_) | (refine J.o 3 ?_; first | refine J.iJ hΓ ?_ | refine J.ev' hΓ ?_) | (refine J.o 1 ?_; first | refine J.ad ?_) | (refine J.o 5 ?_; first | refine J.t1 hΓ ?_ | refine J.tT _ default hΓ (fun _ _ => ?_)) | (refine J.o 6 ?_; refine J.bx (fun _ => ?_)) | (refine J.o 7 ?_; refine J.al hΓ (fun _ => ?_)) | (refine J.o 10 ?_; refine J.ev' hΓ ?_) | (refine J.o 11 ?_; refine J.ev' hΓ ?_)))
        | (first | refine JC.seq ?_ | refine JC.region ?_ | refine JC.block ?_ | refine JC.ret ?_ | refine JC.exit ?_ | refine JC.skip ?_ | refine thenK.nn ?_ | refine thenK.x ?_ | refine blockK.nn ?_ | refine blockK.hit rfl ?_ | refine JC.condF rfl ?_ | (refine JC.cond rfl (fun hc => ?_) (fun hc => ?_) <;> ((try simp only [decide_eq_true_eq, decide_eq_false_iff_not, beq_iff_eq, beq_eq_false_iff_ne, bne_iff_ne, bne_eq_false_iff_eq, Bool.not_eq_true', Bool.not_eq_false', Bool.not_eq_true, Bool.not_eq_false] at hc) <;> first | (first | (exact absurd rfl hc) | (exfalso; omega) | (exact absurd (hc.symm.trans (by assumption : _ = false)) (by decide)) | (exact absurd (hc.symm.trans (by assumption : _ = true)) (by decide))) | skip)) | refine loopK.x ?_)
        | fail
      all_goals first | (exfalso; omega) | skip
      refine loopK.nn (m - 1) (by omega) (by repeat (first | refine Ag.upd rfl ?_ | exact Ag.hv)) ⟨k + 1, _, _, ?_, by omega, by rw [List.length_set]; exact hxl, hset, by assumption, rfl⟩
      show Value.int .i64 _ = _; congr 1
  ·
    obtain rfl : k = 128 := by omega
    have hq : setP x = minQ s t := by
      refine set_ext (setP_ok x) (ofP_ok _) fun u h1 h2 => ?_
      rw [minQ_has, Bool.eq_iff_iff, setP_has x hxl u]
      have := hall u.toNat (by omega) (by omega)
      rw [show ((u.toNat : Nat) : Int) = u by omega] at this
      rw [← this]
      exact ⟨fun g => g.2.2, fun g => ⟨h1, h2, g⟩⟩
    have cS := fun w hw => set_any (some ⟨bx, 0, none⟩) 129 x hx ox.sl hxl w hw
    rw [hxl, hq] at cS
    repeat' first
      | (refine J.isJ ?_; first | (first | (refine J.fc 131 ?_; refine J.call0 eSet3 rfl rfl (fun w hw => cS w (hw.rdH RdH.hd)) ?_)) | (first | (refine J.o 0 ?_; refine J.ev' hΓ ?_) | refine J.nil ?_ | refine J.kd ?_ | (refine J.o 4 ?_; first | refine J.lR hΓ ?_) | (refine J.o 3 ?_; first | refine J.iJ hΓ ?_ | refine J.ev' hΓ ?_) | (refine J.o 1 ?_; first | refine J.ad ?_) | (refine J.o 5 ?_; first | refine J.t1 hΓ ?_ | refine J.tT _ default hΓ (fun _ _ => ?_)) | (refine J.o 6 ?_; refine J.bx (fun _ => ?_)) | (refine J.o 7 ?_; refine J.al hΓ (fun _ => ?_)) | (refine J.o 10 ?_; refine J.ev' hΓ ?_) | (refine J.o 11 ?_; refine J.ev' hΓ ?_)))
      | (first | refine JC.seq ?_ | refine JC.region ?_ | refine JC.block ?_ | refine JC.ret ?_ | refine JC.exit ?_ | refine JC.skip ?_ | refine thenK.nn ?_ | refine thenK.x ?_ | refine blockK.nn ?_ | refine blockK.hit rfl ?_ | refine JC.condF rfl ?_ | (refine JC.cond rfl (fun hc => ?_) (fun hc => ?_) <;> ((try simp only [decide_eq_true_eq, decide_eq_false_iff_not, beq_iff_eq, beq_eq_false_iff_ne, bne_iff_ne, bne_eq_false_iff_eq, Bool.not_eq_true', Bool.not_eq_false', Bool.not_eq_true, Bool.not_eq_false] at hc) <;> first | (first | (exact absurd rfl hc) | (exfalso; omega) | (exact absurd (hc.symm.trans (by assumption : _ = false)) (by decide)) | (exact absurd (hc.symm.trans (by assumption : _ = true)) (by decide))) | skip)) | refine loopK.x ?_)
      | (fail)
      | fail
    all_goals first | (exfalso; omega) | skip
    refine retC hΓ rfl rfl rfl (by first | exact Rd.hd | exact Rd.hd.tl | exact Rd.hd.tl.tl) rfl (fun w1 hw => ⟨rfl, hw.below⟩)
end Go.Proofs.YtbhgahjeocnfcaaGreat
namespace Go.Proofs.YtbhgahjeocnfcaaGreat
open Go Go.Cx Go.RowKit
set_option linter.unusedVariables false
set_option linter.unusedSimpArgs false
set_option maxHeartbeats 4000000
attribute [local irreducible] J JC thenK blockK loopK roundK drawK retK QW Qt pel List.set Calls
open Go.Maps Go.Lib
set_option maxRecDepth 8000
attribute [local irreducible] JE Br eK0 eK3 brK pc
theorem ofS_take (l : List Int) {k : Nat} (hk : k < l.length) : ofS (l.take (k + 1)) = withS (ofS (l.take k)) (l.getD k default) := by
  unfold ofS; rw [take_g l k hk, List.foldl_append]; rfl
theorem part_set {N : Nat} (hN : N ≤ 60) {l : List Int} (ho : okOrd l) (hle : ∀ v ∈ l, v ≤ N) {k : Nat} (hk : k ≤ l.length) {a : Nat × Nat} (ha : okS a) (hak : ∀ u, hasB a u = true → u ∈ l.take k) {x : Nat} (hx : x < 2 ^ N) :
    (uniQ (minQ (x, 0) (ofS (l.take k))) a).1 < 2 ^ N ∧ hasB ((uniQ (minQ (x, 0) (ofS (l.take k))) a).1, 0) = restr (l.take k) (hasB a) (hasB (x, 0)) := by
  have hU : ∀ u, hasB (uniQ (minQ (x, 0) (ofS (l.take k))) a) u = restr (l.take k) (hasB a) (hasB (x, 0)) u := fun u => by
    rw [uniQ_has, minQ_has]
    unfold restr
    have hf : hasB (ofS (l.take k)) u = decide (u ∈ l.take k) := by
      rw [Bool.eq_iff_iff, decide_eq_true_iff]
      unfold ofS
      rw [ofS_has, has_zero]
      constructor
      · rintro (g | g)
        · cases g
        · exact g.1
      · intro g; exact .inr ⟨g, ho.1 u (List.mem_of_mem_take g)⟩
    rw [hf]
    by_cases hu : u ∈ l.take k
    · rw [if_pos hu, decide_eq_true hu]; cases hasB (x, 0) u <;> cases hasB a u <;> rfl
    · rw [if_neg hu, decide_eq_false hu]
      cases h : hasB a u with
      | true => exact absurd (hak u h) hu
      | false => cases hasB (x, 0) u <;> rfl
  have hle2 : ∀ u, hasB (uniQ (minQ (x, 0) (ofS (l.take k))) a) u = true → 1 ≤ u ∧ u ≤ N := fun u h => by
    have hr := hasB_rng h
    rw [hU] at h
    unfold restr at h
    split at h
    · rename_i hm; exact ⟨hr.1, hle u (List.mem_of_mem_take hm)⟩
    · refine ⟨hr.1, ?_⟩
      unfold hasB at h
      split at h
      · rename_i h1
        apply Classical.byContradiction
        intro hn
        have : x.testBit (u - 1).toNat = false := Nat.testBit_lt_two_pow (Nat.lt_of_lt_of_le hx (Nat.pow_le_pow_right (by decide) (by omega)))
        rw [show ((x, 0) : Nat × Nat).1 = x from rfl, this] at h
        cases h
      · split at h
        · rw [show ((x, 0) : Nat × Nat).2 = 0 from rfl, Nat.zero_testBit] at h; cases h
        · cases h
  have hok : okS (uniQ (minQ (x, 0) (ofS (l.take k))) a) := ofP_ok _
  refine ⟨?_, funext fun u => ?_⟩
  · refine Nat.lt_pow_two_of_testBit _ fun i hi => ?_
    cases h : (uniQ (minQ (x, 0) (ofS (l.take k))) a).1.testBit i with
    | false => rfl
    | true =>
      exfalso
      rcases Nat.lt_or_ge i 64 with g | g
      · have := hle2 ((i : Int) + 1) (by
          unfold hasB
          rw [if_pos (by omega), show ((i : Int) + 1 - 1).toNat = i by omega]
          exact h)
        omega
      · rw [Nat.testBit_lt_two_pow (Nat.lt_of_lt_of_le hok.1 (Nat.pow_le_pow_right (by decide) g))] at h
        cases h
  · rw [← hU]
    by_cases h1 : 1 ≤ u ∧ u ≤ 64
    · unfold hasB; rw [if_pos h1, if_pos h1]
    · cases h : hasB (uniQ (minQ (x, 0) (ofS (l.take k))) a) u with
      | true => have := hle2 u h; omega
      | false =>
        unfold hasB
        rw [if_neg h1]
        split
        · rw [show (((uniQ (minQ (x, 0) (ofS (l.take k))) a).1, 0) : Nat × Nat).2 = 0 from rfl, Nat.zero_testBit]
        · rfl
theorem part31_any (N : Nat) (hN : N ≤ 8) (F : VF) (l : List Int) (ho : okOrd l) (hle : ∀ v ∈ l, v ≤ N) (al : Option Addr) (cl : Nat) (hl : Heap) (hsl : SlT encI 1 al l hl) (aF : Option Addr) (cF : Nat) (hF : Heap) (hsF : SlT encBo 1 aF (tabX N F) hF) (k : Nat) (hk : k ≤ l.length) (a : Nat × Nat) (ha : okS a) (hak : ∀ u, hasB a u = true → u ∈ l.take k) (w : World) (hw1 : Holds (hl ++ hF) w) :
    Calls Tryz.prog 101 #[.agg ⟨[.int .i64 (N : Int), .slice aF (2 ^ N) cF]⟩, .slice al l.length cl, .int .i64 (k : Int), sv a] w (Gives (Sls encBo 1 4 (tabX N (leftF l F k a))) w) := by
  have h2n := pow8 hN
  have q0 : ∀ L, RdH (hl ++ hF) L hl := fun L => RdH.old fun _ hh => List.mem_append_left _ hh
  have q1 : ∀ L, RdH (hl ++ hF) L hF := fun L => RdH.old fun _ hh => List.mem_append_right _ hh
  have hll := ord_le l ho
  have htl := tabX_len N F
  refine calls_of_JC (R := (hl ++ hF)) Tryz.func101 Tryz.ntmps101 rfl rfl (hw1) ?_
  refine JC.seq ?_
  refine JC.region ?_
  refine J.isJ ?_
  refine J.o 6 ?_
  refine J.bx (fun b4 => ?_)
  refine J.isJ ?_
  refine J.o 6 ?_
  refine J.bx (fun b7 => ?_)
  repeat' first
    | (refine J.isJ ?_; first | ((refine J.o 7 ?_; refine J.al hΓ (fun b9 => ?_))) | (first | (refine J.o 0 ?_; refine J.ev' hΓ ?_) | refine J.nil ?_ | (refine J.o 4 ?_; first | refine J.lT default hΓ ?_ | refine J.lR hΓ ?_) | (refine J.o 3 ?_; first | refine J.iJ hΓ ?_ | refine J.ev' hΓ ?_) | (refine J.o 1 ?_; first | refine J.ad ?_) | (refine J.o 5 ?_; first | refine J.t0 hΓ ?_ | refine J.tT _ default hΓ (fun _ _ => ?_)) | (refine J.o 6 ?_; refine J.bx (fun _ => ?_)) | (refine J.o 7 ?_; refine J.al hΓ (fun _ => ?_)) | (refine J.o 8 ?_; refine J.bd hΓ ?_) | (refine J.o 10 ?_; refine J.ev' hΓ ?_) | (refine J.o 11 ?_; refine J.ev' hΓ ?_)))
    | (first | refine JC.seq ?_ | refine JC.region ?_ | refine JC.block ?_ | refine JC.ret ?_ | refine JC.exit ?_ | refine JC.skip ?_ | refine thenK.nn ?_ | refine thenK.x ?_ | refine blockK.nn ?_ | refine blockK.hit rfl ?_ | (refine JC.cond rfl (fun hc => ?_) (fun hc => ?_) <;> ((try simp only [decide_eq_true_eq, decide_eq_false_iff_not, beq_iff_eq, beq_eq_false_iff_ne, bne_iff_ne, bne_eq_false_iff_eq, Bool.not_eq_true', Bool.not_eq_false', Bool.not_eq_true, Bool.not_eq_false] at hc) <;> first | (first | (exact absurd rfl hc) | (exfalso; omega) | (exact absurd (hc.symm.trans (by assumption : _ = false)) (by decide)) | (exact absurd (hc.symm.trans (by assumption : _ = true)) (by decide))) | skip)) | refine drawK.nn ?_ | refine loopK.x ?_)
    | (fail)
    | fail
  all_goals first | (exfalso; omega) | skip
  refine JC.loop (fun i => i == 10 || (Nat.ble 14 i && Nat.ble i 24)) (fun m g L' => ∃ i : Nat, g 10 = .int .i64 (i : Int) ∧ i + m = k ∧ L' = [[(b9, setO (ofS (l.take i)))], [(b7, setO a)], [(b4, .cells ⟨[.int .i64 (N : Int), .slice aF (2 ^ N) cF]⟩ 36 (0, 0))]]) k ⟨0, rfl, by omega, rfl⟩ ?_
  rintro m g L' ⟨i, e10, him, rfl⟩
  refine JC.pin 10 e10 ?_
  unfold setO
  rcases Nat.lt_or_ge i k with hi | hi
  ·
    have cW := fun w => with3_any (ofS (l.take i)) (okS_of _ _ okS_zero) (l.getD i default) (ho.1 _ (mem_g l i (by omega))) w
    rw [← ofS_take l (by omega)] at cW
    repeat' first
      | (refine J.isJ ?_; first | (first | (refine J.o 4 ?_; first | refine J.lR hΓ ?_ (hr := Rd.hd) | refine J.lT default hΓ ?_ (hs := hsl) (hr := q0 _)) | (refine J.o 3 ?_; refine J.iJ hΓ ?_ (hs := hsl)) | (refine J.fc 113 ?_; refine J.call0 eWith3 rfl rfl (fun w hw => cW w) ?_) | (refine J.o 5 ?_; refine J.t0 hΓ ?_)) | (first | (refine J.o 0 ?_; refine J.ev' hΓ ?_) | refine J.nil ?_ | (refine J.o 4 ?_; first | refine J.lT default hΓ ?_ | refine J.lR hΓ ?_) | (refine J.o 3 ?_; first | refine J.iJ hΓ ?_ | refine J.ev' hΓ ?_) | (refine J.o 1 ?_; first | refine J.ad ?_) | (refine J.o 5 ?_; first | refine J.t0 hΓ ?_ | refine J.tT _ default hΓ (fun _ _ => ?_)) | (refine J.o 6 ?_; refine J.bx (fun _ => ?_)) | (refine J.o 7 ?_; refine J.al hΓ (fun _ => ?_)) | (refine J.o 8 ?_; refine J.bd hΓ ?_) | (refine J.o 10 ?_; refine J.ev' hΓ ?_) | (refine J.o 11 ?_; refine J.ev' hΓ ?_)))
      | (first | refine JC.seq ?_ | refine JC.region ?_ | refine JC.block ?_ | refine JC.ret ?_ | refine JC.exit ?_ | refine JC.skip ?_ | refine thenK.nn ?_ | refine thenK.x ?_ | refine blockK.nn ?_ | refine blockK.hit rfl ?_ | (refine JC.cond rfl (fun hc => ?_) (fun hc => ?_) <;> ((try simp only [decide_eq_true_eq, decide_eq_false_iff_not, beq_iff_eq, beq_eq_false_iff_ne, bne_iff_ne, bne_eq_false_iff_eq, Bool.not_eq_true', Bool.not_eq_false', Bool.not_eq_true, Bool.not_eq_false] at hc) <;> first | (first | (exact absurd rfl hc) | (exfalso; omega) | (exact absurd (hc.symm.trans (by assumption : _ = false)) (by decide)) | (exact absurd (hc.symm.trans (by assumption : _ = true)) (by decide))) | skip)) | refine drawK.nn ?_ | refine loopK.x ?_)
      | ((refine JC.drawO [(1,0),(0,1),(0,2),(0,3),(1,4),(1,5),(2,6)] (by decide +kernel) (by decide +kernel) ?_))
      | fail
    all_goals first | (exfalso; omega) | skip
    refine loopK.nn (m - 1) (by omega) (by repeat (first | refine Ag.upd rfl ?_ | exact Ag.hv)) ⟨i + 1, ?_, by omega, rfl⟩
    show Value.int .i64 _ = _; congr 1
  ·
    obtain rfl : i = k := by omega
    repeat' first
      | (refine J.isJ ?_; first | (first | (refine J.o 4 ?_; refine J.lR hΓ ?_ (hr := Rd.hd.tl.tl)) | (refine J.o 9 ?_; refine J.make (enc := encBo) (m := 2 ^ N) false hΓ rfl rfl rfl rfl rfl rfl (fun _ => rfl) (by omega) (by omega) (fun bp hp0 op0 => ?_))) | (first | (refine J.o 0 ?_; refine J.ev' hΓ ?_) | refine J.nil ?_ | (refine J.o 4 ?_; first | refine J.lT default hΓ ?_ | refine J.lR hΓ ?_) | (refine J.o 3 ?_; first | refine J.iJ hΓ ?_ | refine J.ev' hΓ ?_) | (refine J.o 1 ?_; first | refine J.ad ?_) | (refine J.o 5 ?_; first | refine J.t0 hΓ ?_ | refine J.tT _ default hΓ (fun _ _ => ?_)) | (refine J.o 6 ?_; refine J.bx (fun _ => ?_)) | (refine J.o 7 ?_; refine J.al hΓ (fun _ => ?_)) | (refine J.o 8 ?_; refine J.bd hΓ ?_) | (refine J.o 10 ?_; refine J.ev' hΓ ?_) | (refine J.o 11 ?_; refine J.ev' hΓ ?_)))
      | (first | refine JC.seq ?_ | refine JC.region ?_ | refine JC.block ?_ | refine JC.ret ?_ | refine JC.exit ?_ | refine JC.skip ?_ | refine thenK.nn ?_ | refine thenK.x ?_ | refine blockK.nn ?_ | refine blockK.hit rfl ?_ | (refine JC.cond rfl (fun hc => ?_) (fun hc => ?_) <;> ((try simp only [decide_eq_true_eq, decide_eq_false_iff_not, beq_iff_eq, beq_eq_false_iff_ne, bne_iff_ne, bne_eq_false_iff_eq, Bool.not_eq_true', Bool.not_eq_false', Bool.not_eq_true, Bool.not_eq_false] at hc) <;> first | (first | (exact absurd rfl hc) | (exfalso; omega) | (exact absurd (hc.symm.trans (by assumption : _ = false)) (by decide)) | (exact absurd (hc.symm.trans (by assumption : _ = true)) (by decide))) | skip)) | refine drawK.nn ?_ | refine loopK.x ?_)
      | (fail)
      | fail
    all_goals first | (exfalso; omega) | skip
    refine JC.loop (fun i => i == 12 || i == 13 || Nat.ble 29 i) (fun m g L' => ∃ q h', g 12 = .int .i64 ((q : Nat) : Int) ∧ q + m = 2 ^ N ∧ OwT encBo 1 4 (some ⟨bp, 0, none⟩) (2 ^ N) (fillL (fun x => leftF l F i a (hasB (x, 0))) (2 ^ N) q) h' ∧ L' = [h', [(b9, setO (ofS (l.take i)))], [(b7, setO a)], [(b4, .cells ⟨[.int .i64 (N : Int), .slice aF (2 ^ N) cF]⟩ 36 (0, 0))]]) (2 ^ N) ⟨0, _, rfl, by omega, by rw [fill_0]; exact op0, rfl⟩ ?_
    clear op0
    rintro m2 g2 L' ⟨q, h', e12, hqm, o4, rfl⟩
    refine JC.pin 12 e12 ?_
    unfold setO
    have hfl := fill_len (fun x => leftF l F i a (hasB (x, 0))) (N := 2 ^ N) (q := q) (by omega)
    have hrl : (List.replicate (2 ^ N) false).length = 2 ^ N := List.length_replicate
    rcases Nat.lt_or_ge q (2 ^ N) with hlt | hge
    ·
      obtain ⟨hp1, hp2⟩ := part_set (by omega) ho hle hk ha hak hlt
      have okx : okS (q, 0) := ⟨by show q < 2 ^ 64; exact Nat.lt_trans hlt (Nat.lt_of_le_of_lt h2n (by decide)), by show 0 < 2 ^ 64; decide⟩
      have cM := fun w => minus3_any (q, 0) (ofS (l.take i)) okx (okS_of _ _ okS_zero) w
      have cU := fun w => union3_any (minQ (q, 0) (ofS (l.take i))) a (ofP_ok _) ha w
      obtain ⟨z, hz⟩ : ∃ z, z = (uniQ (minQ (q, 0) (ofS (l.take i))) a).1 := ⟨_, rfl⟩
      have hget : (tabX N F).getD z default = leftF l F i a (hasB (q, 0)) := by
        rw [hz, tabX_get N F hp1, hp2]; rfl
      rw [← hz] at hp1
      have hzv : Value.int .u64 ((uniQ (minQ (q, 0) (ofS (l.take i))) a).1 : Int) = .int .u64 (z : Int) := by rw [hz]
      have hfs := fill_s (fun x => leftF l F i a (hasB (x, 0))) hlt
      repeat' first
        | (refine J.isJ ?_; first | (first | (refine J.o 4 ?_; first | refine J.lR hΓ ?_ (hr := Rd.hd.tl) | refine J.lR hΓ ?_ (hr := Rd.hd.tl.tl) | refine J.lR hΓ ?_ (hr := Rd.hd.tl.tl.tl) | (refine J.lT default hΓ ?_ (hs := hsF) (hr := q1 _); rw [hget])) | (refine J.o 2 ?_; first | (refine J.gcv (a := q) hΓ ?_ (hk := wU64 (by omega))) | (refine J.gcv (a := z) hΓ ?_ (hk := wI64 (by omega)))) | (refine J.fc 115 ?_; refine J.call0 eMinus3 rfl rfl (fun w hw => cM w) ?_) | (refine J.fc 114 ?_; refine J.call0 eUnion3 rfl rfl (fun w hw => cU w) ?_) | (refine J.o 12 ?_; refine J.xI hΓ ?_; rw [hzv]) | (refine J.o 3 ?_; first | refine J.iJ hΓ ?_ (hs := hsF) | refine J.iJ hΓ ?_ (hs := o4.sl)) | (refine J.o 5 ?_; refine J.tT (enc := encBo) (leftF l F i a (hasB (q, 0))) default hΓ (fun h5 o5 => ?_) (ho := o4))) | (first | (refine J.o 0 ?_; refine J.ev' hΓ ?_) | refine J.nil ?_ | (refine J.o 4 ?_; first | refine J.lT default hΓ ?_ | refine J.lR hΓ ?_) | (refine J.o 3 ?_; first | refine J.iJ hΓ ?_ | refine J.ev' hΓ ?_) | (refine J.o 1 ?_; first | refine J.ad ?_) | (refine J.o 5 ?_; first | refine J.t0 hΓ ?_ | refine J.tT _ default hΓ (fun _ _ => ?_)) | (refine J.o 6 ?_; refine J.bx (fun _ => ?_)) | (refine J.o 7 ?_; refine J.al hΓ (fun _ => ?_)) | (refine J.o 8 ?_; refine J.bd hΓ ?_) | (refine J.o 10 ?_; refine J.ev' hΓ ?_) | (refine J.o 11 ?_; refine J.ev' hΓ ?_)))
        | (first | refine JC.seq ?_ | refine JC.region ?_ | refine JC.block ?_ | refine JC.ret ?_ | refine JC.exit ?_ | refine JC.skip ?_ | refine thenK.nn ?_ | refine thenK.x ?_ | refine blockK.nn ?_ | refine blockK.hit rfl ?_ | (refine JC.cond rfl (fun hc => ?_) (fun hc => ?_) <;> ((try simp only [decide_eq_true_eq, decide_eq_false_iff_not, beq_iff_eq, beq_eq_false_iff_ne, bne_iff_ne, bne_eq_false_iff_eq, Bool.not_eq_true', Bool.not_eq_false', Bool.not_eq_true, Bool.not_eq_false] at hc) <;> first | (first | (exact absurd rfl hc) | (exfalso; omega) | (exact absurd (hc.symm.trans (by assumption : _ = false)) (by decide)) | (exact absurd (hc.symm.trans (by assumption : _ = true)) (by decide))) | skip)) | refine drawK.nn ?_ | refine loopK.x ?_)
        | ((refine JC.drawW [] [] (by kernel_rfl) (by kernel_rfl) ?_))
        | fail
      all_goals first | (exfalso; omega) | skip
      rw [hfs] at o5
      refine loopK.nn (m2 - 1) (by omega) (by repeat (first | refine Ag.upd rfl ?_ | exact Ag.hv)) ⟨q + 1, _, ?_, by omega, o5, rfl⟩
      show Value.int .i64 _ = _; congr 1
    ·
      obtain rfl : q = 2 ^ N := by omega
      rw [fill_n] at o4
      repeat' first
        | (refine J.isJ ?_; first | (first | (refine J.o 4 ?_; refine J.lR hΓ ?_ (hr := Rd.hd.tl.tl.tl))) | (first | (refine J.o 0 ?_; refine J.ev' hΓ ?_) | refine J.nil ?_ | (refine J.o 4 ?_; first | refine J.lT default hΓ ?_ | refine J.lR hΓ ?_) | (refine J.o 3 ?_; first | refine J.iJ hΓ ?_ | refine J.ev' hΓ ?_) | (refine J.o 1 ?_; first | refine J.ad ?_) | (refine J.o 5 ?_; first | refine J.t0 hΓ ?_ | refine J.tT _ default hΓ (fun _ _ => ?_)) | (refine J.o 6 ?_; refine J.bx (fun _ => ?_)) | (refine J.o 7 ?_; refine J.al hΓ (fun _ => ?_)) | (refine J.o 8 ?_; refine J.bd hΓ ?_) | (refine J.o 10 ?_; refine J.ev' hΓ ?_) | (refine J.o 11 ?_; refine J.ev' hΓ ?_)))
        | (first | refine JC.seq ?_ | refine JC.region ?_ | refine JC.block ?_ | refine JC.ret ?_ | refine JC.exit ?_ | refine JC.skip ?_ | refine thenK.nn ?_ | refine thenK.x ?_ | refine blockK.nn ?_ | refine blockK.hit rfl ?_ | (refine JC.cond rfl (fun hc => ?_) (fun hc => ?_) <;> ((try simp only [decide_eq_true_eq, decide_eq_false_iff_not, beq_iff_eq, beq_eq_false_iff_ne, bne_iff_ne, bne_eq_false_iff_eq, Bool.not_eq_true', Bool.not_eq_false', Bool.not_eq_true, Bool.not_eq_false] at hc) <;> first | (first | (exact absurd rfl hc) | (exfalso; omega) | (exact absurd (hc.symm.trans (by assumption : _ = false)) (by decide)) | (exact absurd (hc.symm.trans (by assumption : _ = true)) (by decide))) | skip)) | refine drawK.nn ?_ | refine loopK.x ?_)
        | (fail)
        | fail
      all_goals first | (exfalso; omega) | skip
      exact ret1f rfl rfl rfl (fun w1 hw => Gives.of (H.sel (l := [_, _, _, _]) (M := []) hw [0]) ⟨_, _, by rw [tabX_len], o4⟩)
end Go.Proofs.YtbhgahjeocnfcaaGreat
namespace Go.Proofs.YtbhgahjeocnfcaaGreat
open Go Go.Cx Go.RowKit
set_option linter.unusedVariables false
set_option linter.unusedSimpArgs false
set_option maxHeartbeats 4000000
attribute [local irreducible] J JC thenK blockK loopK roundK drawK retK QW Qt pel List.set Calls
open Go.Maps Go.Lib
set_option maxRecDepth 8000
attribute [local irreducible] JE Br eK0 eK3 brK pc
theorem same31_any (f g : List Bool) (af ag : Option Addr) (cf cg : Nat) (h : Heap) (sf : SlT encBo 1 af f h) (sg : SlT encBo 1 ag g h) (hlen : f.length = g.length) (hl : f.length ≤ 100000) (w : World) (hw1 : Holds h w) :
    Calls Tryz.prog 103 #[.slice af f.length cf, .slice ag g.length cg] w fun e w' => e = .returned (.bool (decide (f = g))) ∧ Below w.heap.size w w' := by
  have q0 : ∀ L, RdH h L h := fun L => RdH.old fun _ hh => hh
  refine calls_of_JC (R := h) Tryz.func103 Tryz.ntmps103 rfl rfl (hw1) ?_
  repeat' first
    | (refine J.isJ ?_; first | (fail) | (first | (refine J.o 0 ?_; refine J.ev' hΓ ?_) | refine J.nil ?_ | (refine J.o 4 ?_; first | refine J.lT default hΓ ?_) | (refine J.o 3 ?_; first | refine J.iJ hΓ ?_ | refine J.ev' hΓ ?_) | (refine J.o 1 ?_; first | refine J.ad ?_) | (refine J.o 10 ?_; refine J.ev' hΓ ?_) | (refine J.o 11 ?_; refine J.ev' hΓ ?_)))
    | (first | refine JC.seq ?_ | refine JC.region ?_ | refine JC.block ?_ | refine JC.ret ?_ | refine JC.exit ?_ | refine JC.skip ?_ | refine thenK.nn ?_ | refine thenK.r ?_ | refine thenK.x ?_ | refine blockK.nn ?_ | refine blockK.r ?_ | refine blockK.hit rfl ?_ | (refine JC.cond rfl (fun hc => ?_) (fun hc => ?_) <;> ((try simp only [decide_eq_true_eq, decide_eq_false_iff_not, beq_iff_eq, beq_eq_false_iff_ne, bne_iff_ne, bne_eq_false_iff_eq, Bool.not_eq_true', Bool.not_eq_false', Bool.not_eq_true, Bool.not_eq_false] at hc) <;> first | (first | (exact absurd rfl hc) | (exfalso; omega) | (exact absurd (hc.symm.trans (by assumption : _ = false)) (by decide)) | (exact absurd (hc.symm.trans (by assumption : _ = true)) (by decide))) | skip)) | refine drawK.nn ?_ | refine loopK.r ?_ | refine loopK.x ?_)
    | (fail)
    | fail
  all_goals first | (exfalso; omega) | skip
  refine JC.loop (fun i => i == 4 || i == 5 || Nat.ble 6 i) (fun m gg L => ∃ q : Nat, gg 5 = .int .i64 (q : Int) ∧ q + m = f.length ∧ (∀ j, j < q → f.getD j default = g.getD j default) ∧ L = []) f.length ⟨0, rfl, by omega, fun j hj => absurd hj (Nat.not_lt_zero _), rfl⟩ ?_
  rintro m gg L ⟨q, e5, hqm, heq, rfl⟩
  refine JC.pin 5 e5 ?_
  rcases Nat.lt_or_ge q f.length with hq | hq
  ·
    by_cases hx : f.getD q default = g.getD q default
    ·
      have hd : (f.getD q default != g.getD q default) = false := by rw [hx]; simp
      repeat' first
        | (refine J.isJ ?_; first | (first | (refine J.o 3 ?_; first | refine J.iJ hΓ ?_ (hs := sf) | refine J.iJ hΓ ?_ (hs := sg)) | (refine J.o 4 ?_; first | refine J.lT default hΓ ?_ (hs := sf) (hr := q0 _) | refine J.lT default hΓ ?_ (hs := sg) (hr := q0 _)) | (refine J.o 11 ?_; refine J.ev' hΓ ?_; rw [hd])) | (first | (refine J.o 0 ?_; refine J.ev' hΓ ?_) | refine J.nil ?_ | (refine J.o 4 ?_; first | refine J.lT default hΓ ?_) | (refine J.o 3 ?_; first | refine J.iJ hΓ ?_ | refine J.ev' hΓ ?_) | (refine J.o 1 ?_; first | refine J.ad ?_) | (refine J.o 10 ?_; refine J.ev' hΓ ?_) | (refine J.o 11 ?_; refine J.ev' hΓ ?_)))
        | (first | refine JC.seq ?_ | refine JC.region ?_ | refine JC.block ?_ | refine JC.ret ?_ | refine JC.exit ?_ | refine JC.skip ?_ | refine thenK.nn ?_ | refine thenK.r ?_ | refine thenK.x ?_ | refine blockK.nn ?_ | refine blockK.r ?_ | refine blockK.hit rfl ?_ | (refine JC.cond rfl (fun hc => ?_) (fun hc => ?_) <;> ((try simp only [decide_eq_true_eq, decide_eq_false_iff_not, beq_iff_eq, beq_eq_false_iff_ne, bne_iff_ne, bne_eq_false_iff_eq, Bool.not_eq_true', Bool.not_eq_false', Bool.not_eq_true, Bool.not_eq_false] at hc) <;> first | (first | (exact absurd rfl hc) | (exfalso; omega) | (exact absurd (hc.symm.trans (by assumption : _ = false)) (by decide)) | (exact absurd (hc.symm.trans (by assumption : _ = true)) (by decide))) | skip)) | refine drawK.nn ?_ | refine loopK.r ?_ | refine loopK.x ?_)
        | ((refine JC.drawW [] [] (by kernel_rfl) (by kernel_rfl) ?_))
        | fail
      all_goals first | (exfalso; omega) | (exact absurd hx ‹_›) | (exact absurd ‹_› hx) | skip
      refine loopK.nn (m - 1) (by omega) (by repeat (first | refine Ag.upd rfl ?_ | exact Ag.hv)) ⟨q + 1, ?_, by omega, fun j hj => ?_, rfl⟩
      · show Value.int .i64 _ = _; congr 1
      · rcases Nat.lt_or_ge j q with g1 | g1
        · exact heq j g1
        · obtain rfl : j = q := by omega
          exact hx
    ·
      have hd : (f.getD q default != g.getD q default) = true := by simpa using hx
      rw [decide_eq_false (fun e => hx (by rw [e]))]
      repeat' first
        | (refine J.isJ ?_; first | (first | (refine J.o 3 ?_; first | refine J.iJ hΓ ?_ (hs := sf) | refine J.iJ hΓ ?_ (hs := sg)) | (refine J.o 4 ?_; first | refine J.lT default hΓ ?_ (hs := sf) (hr := q0 _) | refine J.lT default hΓ ?_ (hs := sg) (hr := q0 _)) | (refine J.o 11 ?_; refine J.ev' hΓ ?_; rw [hd])) | (first | (refine J.o 0 ?_; refine J.ev' hΓ ?_) | refine J.nil ?_ | (refine J.o 4 ?_; first | refine J.lT default hΓ ?_) | (refine J.o 3 ?_; first | refine J.iJ hΓ ?_ | refine J.ev' hΓ ?_) | (refine J.o 1 ?_; first | refine J.ad ?_) | (refine J.o 10 ?_; refine J.ev' hΓ ?_) | (refine J.o 11 ?_; refine J.ev' hΓ ?_)))
        | (first | refine JC.seq ?_ | refine JC.region ?_ | refine JC.block ?_ | refine JC.ret ?_ | refine JC.exit ?_ | refine JC.skip ?_ | refine thenK.nn ?_ | refine thenK.r ?_ | refine thenK.x ?_ | refine blockK.nn ?_ | refine blockK.r ?_ | refine blockK.hit rfl ?_ | (refine JC.cond rfl (fun hc => ?_) (fun hc => ?_) <;> ((try simp only [decide_eq_true_eq, decide_eq_false_iff_not, beq_iff_eq, beq_eq_false_iff_ne, bne_iff_ne, bne_eq_false_iff_eq, Bool.not_eq_true', Bool.not_eq_false', Bool.not_eq_true, Bool.not_eq_false] at hc) <;> first | (first | (exact absurd rfl hc) | (exfalso; omega) | (exact absurd (hc.symm.trans (by assumption : _ = false)) (by decide)) | (exact absurd (hc.symm.trans (by assumption : _ = true)) (by decide))) | skip)) | refine drawK.nn ?_ | refine loopK.r ?_ | refine loopK.x ?_)
        | ((refine JC.drawW [] [] (by kernel_rfl) (by kernel_rfl) ?_))
        | fail
      all_goals first | (exfalso; omega) | (exact absurd hx ‹_›) | (exact absurd ‹_› hx) | skip
      all_goals (refine ret1f rfl rfl rfl (fun w1 hw => ⟨rfl, hw.below⟩))
  ·
    have he : f = g := by
      refine list_eq hlen fun i hi => heq i (by omega)
    rw [decide_eq_true he]
    repeat' first
      | (refine J.isJ ?_; first | (fail) | (first | (refine J.o 0 ?_; refine J.ev' hΓ ?_) | refine J.nil ?_ | (refine J.o 4 ?_; first | refine J.lT default hΓ ?_) | (refine J.o 3 ?_; first | refine J.iJ hΓ ?_ | refine J.ev' hΓ ?_) | (refine J.o 1 ?_; first | refine J.ad ?_) | (refine J.o 10 ?_; refine J.ev' hΓ ?_) | (refine J.o 11 ?_; refine J.ev' hΓ ?_)))
      | (first | refine JC.seq ?_ | refine JC.region ?_ | refine JC.block ?_ | refine JC.ret ?_ | refine JC.exit ?_ | refine JC.skip ?_ | refine thenK.nn ?_ | refine thenK.r ?_ | refine thenK.x ?_ | refine blockK.nn ?_ | refine blockK.r ?_ | refine blockK.hit rfl ?_ | (refine JC.cond rfl (fun hc => ?_) (fun hc => ?_) <;> ((try simp only [decide_eq_true_eq, decide_eq_false_iff_not, beq_iff_eq, beq_eq_false_iff_ne, bne_iff_ne, bne_eq_false_iff_eq, Bool.not_eq_true', Bool.not_eq_false', Bool.not_eq_true, Bool.not_eq_false] at hc) <;> first | (first | (exact absurd rfl hc) | (exfalso; omega) | (exact absurd (hc.symm.trans (by assumption : _ = false)) (by decide)) | (exact absurd (hc.symm.trans (by assumption : _ = true)) (by decide))) | skip)) | refine drawK.nn ?_ | refine loopK.r ?_ | refine loopK.x ?_)
      | (fail)
      | fail
    all_goals first | (exfalso; omega) | skip
    all_goals (refine ret1f rfl rfl rfl (fun w1 hw => ⟨rfl, hw.below⟩))
theorem const31_any (f : List Bool) (af : Option Addr) (cf : Nat) (h : Heap) (sf : SlT encBo 1 af f h) (hl : f.length ≤ 100000) (w : World) (hw1 : Holds h w) :
    Calls Tryz.prog 102 #[.slice af f.length cf] w fun e w' => e = .returned (.bool (decide (cstT f))) ∧ Below w.heap.size w w' := by
  have q0 : ∀ L, RdH h L h := fun L => RdH.old fun _ hh => hh
  refine calls_of_JC (R := h) Tryz.func102 Tryz.ntmps102 rfl rfl (hw1) ?_
  repeat' first
    | (refine J.isJ ?_; first | (fail) | (first | (refine J.o 0 ?_; refine J.ev' hΓ ?_) | refine J.nil ?_ | (refine J.o 4 ?_; first | refine J.lT default hΓ ?_) | (refine J.o 3 ?_; first | refine J.iJ hΓ ?_ | refine J.ev' hΓ ?_) | (refine J.o 1 ?_; first | refine J.ad ?_) | (refine J.o 10 ?_; refine J.ev' hΓ ?_) | (refine J.o 11 ?_; refine J.ev' hΓ ?_)))
    | (first | refine JC.seq ?_ | refine JC.region ?_ | refine JC.block ?_ | refine JC.ret ?_ | refine JC.exit ?_ | refine JC.skip ?_ | refine thenK.nn ?_ | refine thenK.r ?_ | refine thenK.x ?_ | refine blockK.nn ?_ | refine blockK.r ?_ | refine blockK.hit rfl ?_ | (refine JC.cond rfl (fun hc => ?_) (fun hc => ?_) <;> ((try simp only [decide_eq_true_eq, decide_eq_false_iff_not, beq_iff_eq, beq_eq_false_iff_ne, bne_iff_ne, bne_eq_false_iff_eq, Bool.not_eq_true', Bool.not_eq_false', Bool.not_eq_true, Bool.not_eq_false] at hc) <;> first | (first | (exact absurd rfl hc) | (exfalso; omega) | (exact absurd (hc.symm.trans (by assumption : _ = false)) (by decide)) | (exact absurd (hc.symm.trans (by assumption : _ = true)) (by decide))) | skip)) | refine drawK.nn ?_ | refine loopK.r ?_ | refine loopK.x ?_)
    | (fail)
    | fail
  all_goals first | (exfalso; omega) | skip
  refine JC.loop (fun i => i == 2 || i == 3 || Nat.ble 4 i) (fun m gg L => ∃ q : Nat, gg 3 = .int .i64 (q : Int) ∧ q + m = f.length ∧ (∀ j, j < q → f.getD j default = f.getD 0 default) ∧ L = []) f.length ⟨0, rfl, by omega, fun j hj => absurd hj (Nat.not_lt_zero _), rfl⟩ ?_
  rintro m gg L ⟨q, e5, hqm, heq, rfl⟩
  refine JC.pin 3 e5 ?_
  rcases Nat.lt_or_ge q f.length with hq | hq
  ·
    by_cases hx : f.getD q default = f.getD 0 default
    ·
      have hd : (f.getD q default != f.getD 0 default) = false := by rw [hx]; simp
      repeat' first
        | (refine J.isJ ?_; first | (first | (refine J.o 3 ?_; refine J.iJ hΓ ?_ (hs := sf)) | (refine J.o 4 ?_; refine J.lT default hΓ ?_ (hs := sf) (hr := q0 _)) | (refine J.o 11 ?_; refine J.ev' hΓ ?_; rw [hd])) | (first | (refine J.o 0 ?_; refine J.ev' hΓ ?_) | refine J.nil ?_ | (refine J.o 4 ?_; first | refine J.lT default hΓ ?_) | (refine J.o 3 ?_; first | refine J.iJ hΓ ?_ | refine J.ev' hΓ ?_) | (refine J.o 1 ?_; first | refine J.ad ?_) | (refine J.o 10 ?_; refine J.ev' hΓ ?_) | (refine J.o 11 ?_; refine J.ev' hΓ ?_)))
        | (first | refine JC.seq ?_ | refine JC.region ?_ | refine JC.block ?_ | refine JC.ret ?_ | refine JC.exit ?_ | refine JC.skip ?_ | refine thenK.nn ?_ | refine thenK.r ?_ | refine thenK.x ?_ | refine blockK.nn ?_ | refine blockK.r ?_ | refine blockK.hit rfl ?_ | (refine JC.cond rfl (fun hc => ?_) (fun hc => ?_) <;> ((try simp only [decide_eq_true_eq, decide_eq_false_iff_not, beq_iff_eq, beq_eq_false_iff_ne, bne_iff_ne, bne_eq_false_iff_eq, Bool.not_eq_true', Bool.not_eq_false', Bool.not_eq_true, Bool.not_eq_false] at hc) <;> first | (first | (exact absurd rfl hc) | (exfalso; omega) | (exact absurd (hc.symm.trans (by assumption : _ = false)) (by decide)) | (exact absurd (hc.symm.trans (by assumption : _ = true)) (by decide))) | skip)) | refine drawK.nn ?_ | refine loopK.r ?_ | refine loopK.x ?_)
        | ((refine JC.drawW [] [] (by kernel_rfl) (by kernel_rfl) ?_))
        | fail
      all_goals first | (exfalso; omega) | (exact absurd hx ‹_›) | (exact absurd ‹_› hx) | skip
      refine loopK.nn (m - 1) (by omega) (by repeat (first | refine Ag.upd rfl ?_ | exact Ag.hv)) ⟨q + 1, ?_, by omega, fun j hj => ?_, rfl⟩
      · show Value.int .i64 _ = _; congr 1
      · rcases Nat.lt_or_ge j q with g1 | g1
        · exact heq j g1
        · obtain rfl : j = q := by omega
          exact hx
    ·
      have hd : (f.getD q default != f.getD 0 default) = true := by simpa using hx
      rw [decide_eq_false (fun e => hx (e q hq))]
      repeat' first
        | (refine J.isJ ?_; first | (first | (refine J.o 3 ?_; refine J.iJ hΓ ?_ (hs := sf)) | (refine J.o 4 ?_; refine J.lT default hΓ ?_ (hs := sf) (hr := q0 _)) | (refine J.o 11 ?_; refine J.ev' hΓ ?_; rw [hd])) | (first | (refine J.o 0 ?_; refine J.ev' hΓ ?_) | refine J.nil ?_ | (refine J.o 4 ?_; first | refine J.lT default hΓ ?_) | (refine J.o 3 ?_; first | refine J.iJ hΓ ?_ | refine J.ev' hΓ ?_) | (refine J.o 1 ?_; first | refine J.ad ?_) | (refine J.o 10 ?_; refine J.ev' hΓ ?_) | (refine J.o 11 ?_; refine J.ev' hΓ ?_)))
        | (first | refine JC.seq ?_ | refine JC.region ?_ | refine JC.block ?_ | refine JC.ret ?_ | refine JC.exit ?_ | refine JC.skip ?_ | refine thenK.nn ?_ | refine thenK.r ?_ | refine thenK.x ?_ | refine blockK.nn ?_ | refine blockK.r ?_ | refine blockK.hit rfl ?_ | (refine JC.cond rfl (fun hc => ?_) (fun hc => ?_) <;> ((try simp only [decide_eq_true_eq, decide_eq_false_iff_not, beq_iff_eq, beq_eq_false_iff_ne, bne_iff_ne, bne_eq_false_iff_eq, Bool.not_eq_true', Bool.not_eq_false', Bool.not_eq_true, Bool.not_eq_false] at hc) <;> first | (first | (exact absurd rfl hc) | (exfalso; omega) | (exact absurd (hc.symm.trans (by assumption : _ = false)) (by decide)) | (exact absurd (hc.symm.trans (by assumption : _ = true)) (by decide))) | skip)) | refine drawK.nn ?_ | refine loopK.r ?_ | refine loopK.x ?_)
        | ((refine JC.drawW [] [] (by kernel_rfl) (by kernel_rfl) ?_))
        | fail
      all_goals first | (exfalso; omega) | (exact absurd hx ‹_›) | (exact absurd ‹_› hx) | skip
      all_goals (refine ret1f rfl rfl rfl (fun w1 hw => ⟨rfl, hw.below⟩))
  ·
    rw [decide_eq_true (show cstT f from fun j hj => heq j (by omega))]
    repeat' first
      | (refine J.isJ ?_; first | (fail) | (first | (refine J.o 0 ?_; refine J.ev' hΓ ?_) | refine J.nil ?_ | (refine J.o 4 ?_; first | refine J.lT default hΓ ?_) | (refine J.o 3 ?_; first | refine J.iJ hΓ ?_ | refine J.ev' hΓ ?_) | (refine J.o 1 ?_; first | refine J.ad ?_) | (refine J.o 10 ?_; refine J.ev' hΓ ?_) | (refine J.o 11 ?_; refine J.ev' hΓ ?_)))
      | (first | refine JC.seq ?_ | refine JC.region ?_ | refine JC.block ?_ | refine JC.ret ?_ | refine JC.exit ?_ | refine JC.skip ?_ | refine thenK.nn ?_ | refine thenK.r ?_ | refine thenK.x ?_ | refine blockK.nn ?_ | refine blockK.r ?_ | refine blockK.hit rfl ?_ | (refine JC.cond rfl (fun hc => ?_) (fun hc => ?_) <;> ((try simp only [decide_eq_true_eq, decide_eq_false_iff_not, beq_iff_eq, beq_eq_false_iff_ne, bne_iff_ne, bne_eq_false_iff_eq, Bool.not_eq_true', Bool.not_eq_false', Bool.not_eq_true, Bool.not_eq_false] at hc) <;> first | (first | (exact absurd rfl hc) | (exfalso; omega) | (exact absurd (hc.symm.trans (by assumption : _ = false)) (by decide)) | (exact absurd (hc.symm.trans (by assumption : _ = true)) (by decide))) | skip)) | refine drawK.nn ?_ | refine loopK.r ?_ | refine loopK.x ?_)
      | (fail)
      | fail
    all_goals first | (exfalso; omega) | skip
    all_goals (refine ret1f rfl rfl rfl (fun w1 hw => ⟨rfl, hw.below⟩))
theorem take_succ_g {α : Type} [Inhabited α] (l : List α) (k : Nat) (h : k < l.length) : l.take (k + 1) = l.take k ++ [l.getD k default] := by
  rw [List.take_add_one, List.getD_eq_getElem?_getD, List.getElem?_eq_getElem h]; rfl
theorem asg31_any (l : List Int) (ho : okOrd l) (al : Option Addr) (cl : Nat) (hl : Heap) (hsl : SlT encI 1 al l hl) (k : Nat) (hk : k ≤ l.length) (hk8 : k ≤ 8) (w : World) (hw1 : Holds hl w) :
    Calls Tryz.prog 100 #[.slice al l.length cl, .int .i64 (k : Int)] w (Gives (Sls encS 2 44 (asgL l k)) w) := by
  have q0 : ∀ L, RdH hl L hl := fun L => RdH.old fun _ hh => hh
  have hll := ord_le l ho
  refine calls_of_JC (R := hl) Tryz.func100 Tryz.ntmps100 rfl rfl (hw1) ?_
  repeat' first
    | (refine J.isJ ?_; first | ((refine J.o 9 ?_; refine J.bl (e := 44) hΓ (fun bl => ?_))) | (first | (refine J.o 0 ?_; refine J.ev' hΓ ?_) | refine J.nil ?_ | (refine J.o 4 ?_; first | refine J.lT default hΓ ?_) | (refine J.o 3 ?_; first | refine J.iJ hΓ ?_ | refine J.ev' hΓ ?_) | (refine J.o 1 ?_; first | refine J.ad ?_) | (refine J.o 8 ?_; refine J.bd hΓ ?_) | (refine J.o 9 ?_; refine J.bl hΓ (fun _ => ?_)) | (refine J.o 10 ?_; refine J.ev' hΓ ?_) | (refine J.o 11 ?_; refine J.ev' hΓ ?_)))
    | (first | refine JC.seq ?_ | refine JC.region ?_ | refine JC.block ?_ | refine JC.ret ?_ | refine JC.exit ?_ | refine JC.skip ?_ | refine thenK.nn ?_ | refine thenK.x ?_ | refine blockK.nn ?_ | refine blockK.hit rfl ?_ | (refine JC.cond rfl (fun hc => ?_) (fun hc => ?_) <;> ((try simp only [decide_eq_true_eq, decide_eq_false_iff_not, beq_iff_eq, beq_eq_false_iff_ne, bne_iff_ne, bne_eq_false_iff_eq, Bool.not_eq_true', Bool.not_eq_false', Bool.not_eq_true, Bool.not_eq_false] at hc) <;> first | (first | (exact absurd rfl hc) | (exfalso; omega) | (exact absurd (hc.symm.trans (by assumption : _ = false)) (by decide)) | (exact absurd (hc.symm.trans (by assumption : _ = true)) (by decide))) | skip)) | refine drawK.nn ?_ | refine loopK.x ?_)
    | (fail)
    | fail
  all_goals first | (exfalso; omega) | skip
  refine JC.loopG (fun i => i == 5 || i == 6 || i == 7 || i == 8 || Nat.ble 11 i) (fun m g L' => ∃ (i : Nat) (a : Option Addr) (c : Nat) (hO : Heap), g 6 = .int .i64 (i : Int) ∧ i + m = k ∧ g 5 = .slice a (asgL l i).length c ∧ OwT encS 2 44 a c (asgL l i) hO ∧ L' = [hO]) k ⟨0, some ⟨bl, 0, none⟩, 1, _, rfl, by omega, rfl, ⟨fun _ => rfl, .inr ⟨_, _, rfl, rfl, rfl, Nat.le_refl _, rfl⟩⟩, rfl⟩ ?_
  rintro m g L' ⟨i, a, c, hO, e6, him, e5, oO, rfl⟩
  refine JC.pin 6 e6 (JC.pin 5 e5 ?_)
  clear e6 e5
  have hBl := asgL_len l i
  have hp : 2 ^ i ≤ 2 ^ 8 := Nat.pow_le_pow_right (by omega) (by omega)
  rcases Nat.lt_or_ge i k with hi | hi
  ·
    have hsucc : asgL l (i + 1) = asgL l i ++ (asgL l i).map fun s => withS s (l.getD i default) := rfl
    have hok := fun s hs => (asgL_ok ho i (by omega) s hs).1
    generalize asgL l i = B at *
    repeat' first
      | (refine J.isJ ?_; first | (fail) | (first | (refine J.o 0 ?_; refine J.ev' hΓ ?_) | refine J.nil ?_ | (refine J.o 4 ?_; first | refine J.lT default hΓ ?_) | (refine J.o 3 ?_; first | refine J.iJ hΓ ?_ | refine J.ev' hΓ ?_) | (refine J.o 1 ?_; first | refine J.ad ?_) | (refine J.o 8 ?_; refine J.bd hΓ ?_) | (refine J.o 9 ?_; refine J.bl hΓ (fun _ => ?_)) | (refine J.o 10 ?_; refine J.ev' hΓ ?_) | (refine J.o 11 ?_; refine J.ev' hΓ ?_)))
      | (first | refine JC.seq ?_ | refine JC.region ?_ | refine JC.block ?_ | refine JC.ret ?_ | refine JC.exit ?_ | refine JC.skip ?_ | refine thenK.nn ?_ | refine thenK.x ?_ | refine blockK.nn ?_ | refine blockK.hit rfl ?_ | (refine JC.cond rfl (fun hc => ?_) (fun hc => ?_) <;> ((try simp only [decide_eq_true_eq, decide_eq_false_iff_not, beq_iff_eq, beq_eq_false_iff_ne, bne_iff_ne, bne_eq_false_iff_eq, Bool.not_eq_true', Bool.not_eq_false', Bool.not_eq_true, Bool.not_eq_false] at hc) <;> first | (first | (exact absurd rfl hc) | (exfalso; omega) | (exact absurd (hc.symm.trans (by assumption : _ = false)) (by decide)) | (exact absurd (hc.symm.trans (by assumption : _ = true)) (by decide))) | skip)) | refine drawK.nn ?_ | refine loopK.x ?_)
      | (fail)
      | fail
    all_goals first | (exfalso; omega) | skip
    refine JC.loopG (fun i => i == 5 || i == 8 || Nat.ble 18 i) (fun m g L' => ∃ (q : Nat) (a : Option Addr) (c : Nat) (hO : Heap), g 8 = .int .i64 (q : Int) ∧ q + m = B.length ∧ g 5 = .slice a (B ++ (B.take q).map fun s => withS s (l.getD i default)).length c ∧ OwT encS 2 44 a c (B ++ (B.take q).map fun s => withS s (l.getD i default)) hO ∧ L' = [hO]) B.length ⟨0, a, c, _, rfl, by omega, by simp; rfl, by simpa using oO, rfl⟩ ?_
    clear oO
    rintro m2 g2 L' ⟨q, a2, c2, h2, e8, hqm, e5, o2, rfl⟩
    refine JC.pin 8 e8 (JC.pin 5 e5 ?_)
    clear e8 e5
    rcases Nat.lt_or_ge q B.length with hq | hq
    ·
      have hts : (B.take (q + 1)).map (fun s => withS s (l.getD i default)) = (B.take q).map (fun s => withS s (l.getD i default)) ++ [withS (B.getD q default) (l.getD i default)] := by
        rw [take_succ_g B q hq, List.map_append]; rfl
      have hget : (B ++ (B.take q).map fun s => withS s (l.getD i default)).getD q default = B.getD q default := by
        rw [List.getD_eq_getElem?_getD, List.getElem?_append_left hq, ← List.getD_eq_getElem?_getD]
      have hlen : (B ++ (B.take q).map fun s => withS s (l.getD i default)).length = B.length + q := by
        rw [List.length_append, List.length_map, List.length_take]; omega
      have cW := fun w => with3_any (B.getD q default) (hok _ (mem_g B q hq)) (l.getD i default) (ho.1 _ (mem_g l i (by omega))) w
      generalize hM : (B ++ (B.take q).map fun s => withS s (l.getD i default)) = M at *
      repeat' first
        | (refine J.isJ ?_; first | (first | (refine J.o 3 ?_; first | refine J.iJ hΓ ?_ (hs := o2.sl) | refine J.iJ hΓ ?_ (hs := hsl)) | (refine J.o 4 ?_; first | (refine J.lT default hΓ ?_ (hs := o2.sl) (hr := RdH.hd); rw [hget]) | refine J.lT default hΓ ?_ (hs := hsl) (hr := q0 _)) | (refine J.fc 113 ?_; refine J.call0 eWith3 rfl rfl (fun w hw => cW w) ?_) | (refine J.o 9 ?_; first | (first | (refine J.ap1 (enc := encS) [withS (B.getD q default) (l.getD i default)] hΓ (fun a4 c4 h4 o4 => ?_))))) | (first | (refine J.o 0 ?_; refine J.ev' hΓ ?_) | refine J.nil ?_ | (refine J.o 4 ?_; first | refine J.lT default hΓ ?_) | (refine J.o 3 ?_; first | refine J.iJ hΓ ?_ | refine J.ev' hΓ ?_) | (refine J.o 1 ?_; first | refine J.ad ?_) | (refine J.o 8 ?_; refine J.bd hΓ ?_) | (refine J.o 9 ?_; refine J.bl hΓ (fun _ => ?_)) | (refine J.o 10 ?_; refine J.ev' hΓ ?_) | (refine J.o 11 ?_; refine J.ev' hΓ ?_)))
        | (first | refine JC.seq ?_ | refine JC.region ?_ | refine JC.block ?_ | refine JC.ret ?_ | refine JC.exit ?_ | refine JC.skip ?_ | refine thenK.nn ?_ | refine thenK.x ?_ | refine blockK.nn ?_ | refine blockK.hit rfl ?_ | (refine JC.cond rfl (fun hc => ?_) (fun hc => ?_) <;> ((try simp only [decide_eq_true_eq, decide_eq_false_iff_not, beq_iff_eq, beq_eq_false_iff_ne, bne_iff_ne, bne_eq_false_iff_eq, Bool.not_eq_true', Bool.not_eq_false', Bool.not_eq_true, Bool.not_eq_false] at hc) <;> first | (first | (exact absurd rfl hc) | (exfalso; omega) | (exact absurd (hc.symm.trans (by assumption : _ = false)) (by decide)) | (exact absurd (hc.symm.trans (by assumption : _ = true)) (by decide))) | skip)) | refine drawK.nn ?_ | refine loopK.x ?_)
        | ((first | refine JC.drawW [] [] (by kernel_rfl) (by kernel_rfl) ?_))
        | fail
      all_goals first | (exfalso; omega) | skip
      have hM2 : B ++ (B.take (q + 1)).map (fun s => withS s (l.getD i default)) = M ++ [withS (B.getD q default) (l.getD i default)] := by rw [hts, ← List.append_assoc, hM]
      refine loopK.nn (m2 - 1) (by omega) (by repeat (first | refine Ag.upd rfl ?_ | exact Ag.hv)) ⟨_, ⟨q + 1, a4, c4, h4, ?_, by omega, by rw [hM2]; rfl, by rw [hM2]; exact o4, rfl⟩, fun w hw => hw⟩
      show Value.int .i64 _ = _; congr 1
    ·
      obtain rfl : q = B.length := by omega
      rw [List.take_length, ← hsucc] at o2 ⊢
      repeat' first
        | (refine J.isJ ?_; first | (fail) | (first | (refine J.o 0 ?_; refine J.ev' hΓ ?_) | refine J.nil ?_ | (refine J.o 4 ?_; first | refine J.lT default hΓ ?_) | (refine J.o 3 ?_; first | refine J.iJ hΓ ?_ | refine J.ev' hΓ ?_) | (refine J.o 1 ?_; first | refine J.ad ?_) | (refine J.o 8 ?_; refine J.bd hΓ ?_) | (refine J.o 9 ?_; refine J.bl hΓ (fun _ => ?_)) | (refine J.o 10 ?_; refine J.ev' hΓ ?_) | (refine J.o 11 ?_; refine J.ev' hΓ ?_)))
        | (first | refine JC.seq ?_ | refine JC.region ?_ | refine JC.block ?_ | refine JC.ret ?_ | refine JC.exit ?_ | refine JC.skip ?_ | refine thenK.nn ?_ | refine thenK.x ?_ | refine blockK.nn ?_ | refine blockK.hit rfl ?_ | (refine JC.cond rfl (fun hc => ?_) (fun hc => ?_) <;> ((try simp only [decide_eq_true_eq, decide_eq_false_iff_not, beq_iff_eq, beq_eq_false_iff_ne, bne_iff_ne, bne_eq_false_iff_eq, Bool.not_eq_true', Bool.not_eq_false', Bool.not_eq_true, Bool.not_eq_false] at hc) <;> first | (first | (exact absurd rfl hc) | (exfalso; omega) | (exact absurd (hc.symm.trans (by assumption : _ = false)) (by decide)) | (exact absurd (hc.symm.trans (by assumption : _ = true)) (by decide))) | skip)) | refine drawK.nn ?_ | refine loopK.x ?_)
        | (fail)
        | fail
      all_goals first | (exfalso; omega) | skip
      refine loopK.nn (m - 1) (by omega) (by repeat (first | refine Ag.upd rfl ?_ | exact Ag.hv | refine Ag.hv2 (fun i hi => by simp at hi ⊢; omega) ?_)) ⟨_, ⟨i + 1, a2, c2, h2, ?_, by omega, rfl, o2, rfl⟩, fun w hw => hw⟩
      show Value.int .i64 _ = _; congr 1
  ·
    obtain rfl : i = k := by omega
    repeat' first
      | (refine J.isJ ?_; first | (fail) | (first | (refine J.o 0 ?_; refine J.ev' hΓ ?_) | refine J.nil ?_ | (refine J.o 4 ?_; first | refine J.lT default hΓ ?_) | (refine J.o 3 ?_; first | refine J.iJ hΓ ?_ | refine J.ev' hΓ ?_) | (refine J.o 1 ?_; first | refine J.ad ?_) | (refine J.o 8 ?_; refine J.bd hΓ ?_) | (refine J.o 9 ?_; refine J.bl hΓ (fun _ => ?_)) | (refine J.o 10 ?_; refine J.ev' hΓ ?_) | (refine J.o 11 ?_; refine J.ev' hΓ ?_)))
      | (first | refine JC.seq ?_ | refine JC.region ?_ | refine JC.block ?_ | refine JC.ret ?_ | refine JC.exit ?_ | refine JC.skip ?_ | refine thenK.nn ?_ | refine thenK.x ?_ | refine blockK.nn ?_ | refine blockK.hit rfl ?_ | (refine JC.cond rfl (fun hc => ?_) (fun hc => ?_) <;> ((try simp only [decide_eq_true_eq, decide_eq_false_iff_not, beq_iff_eq, beq_eq_false_iff_ne, bne_iff_ne, bne_eq_false_iff_eq, Bool.not_eq_true', Bool.not_eq_false', Bool.not_eq_true, Bool.not_eq_false] at hc) <;> first | (first | (exact absurd rfl hc) | (exfalso; omega) | (exact absurd (hc.symm.trans (by assumption : _ = false)) (by decide)) | (exact absurd (hc.symm.trans (by assumption : _ = true)) (by decide))) | skip)) | refine drawK.nn ?_ | refine loopK.x ?_)
      | (fail)
      | fail
    all_goals first | (exfalso; omega) | skip
    exact ret1f rfl rfl rfl (fun w1 hw => Gives.of (H.sel (l := [_]) (M := []) hw [0]) ⟨a, c, rfl, oO⟩)
end Go.Proofs.YtbhgahjeocnfcaaGreat
namespace Go.Proofs.YtbhgahjeocnfcaaGreat
open Go Go.Cx Go.RowKit
set_option linter.unusedVariables false
set_option linter.unusedSimpArgs false
set_option maxHeartbeats 4000000
attribute [local irreducible] J JC thenK blockK loopK roundK drawK retK QW Qt pel List.set Calls
open Go.Maps Go.Lib
set_option maxRecDepth 8000
attribute [local irreducible] JE Br eK0 eK3 brK pc
theorem eNodes31 : Entr Tryz.prog 69 := Entr.of Tryz.func69 rfl rfl
theorem eSize31 : Entr Tryz.prog 40 := Entr.of Tryz.func40 rfl rfl
theorem nodesT_succ (N : Nat) (l : List Int) (F : VF) (k : Nat) : nodesT N l F (k + 1) = (rowT N l F k).foldl stepT (nodesT N l F k) := by
  unfold nodesT
  rw [List.range_succ, List.flatMap_append, List.foldl_append]
  simp
theorem rowT_len (N : Nat) (l : List Int) (F : VF) (k : Nat) : (rowT N l F k).length = 2 ^ k := by unfold rowT; rw [List.length_map, asgL_len]
theorem rowT_get (N : Nat) (l : List Int) (F : VF) (k : Nat) {i : Nat} (hi : i < 2 ^ k) : (rowT N l F k).getD i default = tabX N (leftF l F k ((asgL l k).getD i default)) := by
  have h : i < (asgL l k).length := by rw [asgL_len]; exact hi
  unfold rowT
  rw [List.getD_eq_getElem?_getD, List.getElem?_map, List.getD_eq_getElem?_getD, List.getElem?_eq_getElem h]; rfl
theorem fresh_step (T : List (List Bool)) (G : List Bool) {j : Nat} (hj : j < T.length) :
    decide (¬ cstT G ∧ ∀ i, i < j + 1 → T.getD i default ≠ G) = (decide (¬ cstT G ∧ ∀ i, i < j → T.getD i default ≠ G) && !decide (T.getD j default = G)) := by
  rw [Bool.eq_iff_iff, Bool.and_eq_true, decide_eq_true_iff, decide_eq_true_iff, Bool.not_eq_true', decide_eq_false_iff_not]
  constructor
  · rintro ⟨h1, h2⟩; exact ⟨⟨h1, fun i hi => h2 i (by omega)⟩, h2 j (by omega)⟩
  · rintro ⟨⟨h1, h2⟩, h3⟩
    refine ⟨h1, fun i hi => ?_⟩
    rcases Nat.lt_or_ge i j with g | g
    · exact h2 i g
    · obtain rfl : i = j := by omega
      exact h3
theorem fresh_end (T : List (List Bool)) (G : List Bool) : (¬ cstT G ∧ ∀ i, i < T.length → T.getD i default ≠ G) ↔ ¬ (cstT G ∨ G ∈ T) := by
  rw [not_or]
  refine and_congr_right fun _ => ?_
  constructor
  · intro h hm
    obtain ⟨i, hi, e⟩ := List.getElem_of_mem hm
    exact h i hi (by rw [List.getD_eq_getElem?_getD, List.getElem?_eq_getElem hi]; exact e)
  · intro h i hi e
    exact h (e ▸ mem_g T i hi)
def BLR (S : Nat) (vs : List BW) (h : Heap) : Prop := ∀ v ∈ vs, v.l.length = S ∧ SlT encBo 1 v.a v.l h
theorem map_getD {α β : Type} [Inhabited α] [Inhabited β] (f : α → β) (vs : List α) {j : Nat} (hj : j < vs.length) : (vs.map f).getD j default = f (vs.getD j default) := by
  rw [List.getD_eq_getElem?_getD, List.getElem?_map, List.getD_eq_getElem?_getD, List.getElem?_eq_getElem hj]; rfl
theorem nodes31_any (N : Nat) (hN : N ≤ 8) (F : VF) (l : List Int) (ho : okOrd l) (hle : ∀ v ∈ l, v ≤ N) (hl8 : l.length ≤ 8) (al : Option Addr) (cl : Nat) (hl : Heap) (hsl : SlT encI 1 al l hl) (aF : Option Addr) (cF : Nat) (hF : Heap) (hsF : SlT encBo 1 aF (tabX N F) hF) (w : World) (hw1 : Holds (hl ++ hF) w) :
    Calls Tryz.prog 69 #[.agg ⟨[.int .i64 (N : Int), .slice aF (2 ^ N) cF]⟩, .slice al l.length cl] w (Gives (fun v h => ∃ (a : Option Addr) (c : Nat) (vs : List BW), v = .slice a vs.length c ∧ vs.map (·.l) = nodesT N l F (l.length + 1) ∧ SlT encBW 1 a vs h ∧ BLR (2 ^ N) vs h) w) := by
  have h2n := pow8 hN
  have q0 : ∀ L, RdH (hl ++ hF) L hl := fun L => RdH.old fun _ hh => List.mem_append_left _ hh
  have hll := ord_le l ho
  refine calls_of_JC (R := (hl ++ hF)) Tryz.func69 Tryz.ntmps69 rfl rfl (hw1) ?_
  repeat' first
    | (refine J.isJ ?_; first | ((refine J.o 6 ?_; refine J.bx (fun b2 => ?_))) | (first | (refine J.o 0 ?_; refine J.ev' hΓ ?_) | refine J.nil ?_ | refine J.kd ?_ | (refine J.o 4 ?_; first | refine J.lT default hΓ ?_ | refine J.lR hΓ ?_) | (refine J.o 3 ?_; first | refine J.iJ hΓ ?_ | refine J.ev' hΓ ?_) | (refine J.o 1 ?_; first | refine J.ad ?_) | (refine J.o 6 ?_; refine J.bx (fun _ => ?_)) | (refine J.o 9 ?_; refine J.bl hΓ (fun _ => ?_)) | (refine J.o 10 ?_; refine J.ev' hΓ ?_) | (refine J.o 11 ?_; refine J.ev' hΓ ?_)))
    | (first | refine JC.seq ?_ | refine JC.region ?_ | refine JC.block ?_ | refine JC.ret ?_ | refine JC.exit ?_ | refine JC.skip ?_ | refine thenK.nn ?_ | refine thenK.x ?_ | refine blockK.nn ?_ | refine blockK.hit rfl ?_ | refine JC.condT rfl ?_ | refine JC.condF rfl ?_ | (refine JC.cond rfl (fun hc => ?_) (fun hc => ?_) <;> ((try simp only [decide_eq_true_eq, decide_eq_false_iff_not, beq_iff_eq, beq_eq_false_iff_ne, bne_iff_ne, bne_eq_false_iff_eq, Bool.not_eq_true', Bool.not_eq_false', Bool.not_eq_true, Bool.not_eq_false] at hc) <;> first | (first | (exact absurd rfl hc) | (exfalso; omega) | (exact absurd (hc.symm.trans (by assumption : _ = false)) (by decide)) | (exact absurd (hc.symm.trans (by assumption : _ = true)) (by decide))) | skip)) | refine drawK.nn ?_ | refine loopK.x ?_)
    | (fail)
    | fail
  all_goals first | (exfalso; omega) | skip
  refine JC.nilF (JC.nilF ?_)
  refine JC.loopG (fun i => (Nat.ble 5 i && Nat.ble i 11) || Nat.ble 12 i) (fun m g L' => ∃ (k : Nat) (a : Option Addr) (c : Nat) (vs : List BW) (hO hI : Heap), g 6 = .int .i64 (k : Int) ∧ k + m = l.length + 1 ∧ g 5 = .slice a vs.length c ∧ vs.map (·.l) = nodesT N l F k ∧ vs.length + 1 ≤ 2 ^ k ∧ OwT encBW 1 34 a c vs hO ∧ BLR (2 ^ N) vs hI ∧ L' = [hO, hI, [(b2, .cells ⟨[.int .i64 (N : Int), .slice aF (2 ^ N) cF]⟩ 36 (0, 0))]]) (l.length + 1) ⟨0, none, 0, [], [], [], rfl, by omega, rfl, rfl, by decide, OwT.nil (fun _ => rfl), fun v hv => (by cases hv), rfl⟩ ?_
  rintro m g L' ⟨k, a, c, vs, hO, hI, e6, hkm, e5, hT, hvl, oO, sI, rfl⟩
  refine JC.pin 6 e6 (JC.pin 5 e5 ?_)
  clear e6 e5
  have hp : k ≤ 9 → 2 ^ k ≤ 2 ^ 9 := fun h => Nat.pow_le_pow_right (by omega) h
  rcases Nat.lt_or_ge k (l.length + 1) with hk | hk
  ·
    repeat' first
      | (refine J.isJ ?_; first | ((refine J.fc 100 ?_; refine J.call1 eAsg31 rfl rfl (fun w hw => asg31_any l ho al cl hl hsl k (by omega) (by omega) w (hw.rdH (q0 _))) ?_; rintro _ hA ⟨aA, cA, rfl, oA⟩)) | (first | (refine J.o 0 ?_; refine J.ev' hΓ ?_) | refine J.nil ?_ | refine J.kd ?_ | (refine J.o 4 ?_; first | refine J.lT default hΓ ?_ | refine J.lR hΓ ?_) | (refine J.o 3 ?_; first | refine J.iJ hΓ ?_ | refine J.ev' hΓ ?_) | (refine J.o 1 ?_; first | refine J.ad ?_) | (refine J.o 6 ?_; refine J.bx (fun _ => ?_)) | (refine J.o 9 ?_; refine J.bl hΓ (fun _ => ?_)) | (refine J.o 10 ?_; refine J.ev' hΓ ?_) | (refine J.o 11 ?_; refine J.ev' hΓ ?_)))
      | (first | refine JC.seq ?_ | refine JC.region ?_ | refine JC.block ?_ | refine JC.ret ?_ | refine JC.exit ?_ | refine JC.skip ?_ | refine thenK.nn ?_ | refine thenK.x ?_ | refine blockK.nn ?_ | refine blockK.hit rfl ?_ | refine JC.condT rfl ?_ | refine JC.condF rfl ?_ | (refine JC.cond rfl (fun hc => ?_) (fun hc => ?_) <;> ((try simp only [decide_eq_true_eq, decide_eq_false_iff_not, beq_iff_eq, beq_eq_false_iff_ne, bne_iff_ne, bne_eq_false_iff_eq, Bool.not_eq_true', Bool.not_eq_false', Bool.not_eq_true, Bool.not_eq_false] at hc) <;> first | (first | (exact absurd rfl hc) | (exfalso; omega) | (exact absurd (hc.symm.trans (by assumption : _ = false)) (by decide)) | (exact absurd (hc.symm.trans (by assumption : _ = true)) (by decide))) | skip)) | refine drawK.nn ?_ | refine loopK.x ?_)
      | (fail)
      | fail
    all_goals first | (exfalso; omega) | skip
    have hBl := asgL_len l k
    have hp8 : 2 ^ k ≤ 2 ^ 8 := Nat.pow_le_pow_right (by omega) (by omega)
    refine JC.loopG (fun i => i == 5 || (Nat.ble 8 i && Nat.ble i 11) || Nat.ble 21 i) (fun m g L' => ∃ (i : Nat) (a : Option Addr) (c : Nat) (vs : List BW) (hO hI : Heap), g 8 = .int .i64 (i : Int) ∧ i + m = 2 ^ k ∧ g 5 = .slice a vs.length c ∧ vs.map (·.l) = ((rowT N l F k).take i).foldl stepT (nodesT N l F k) ∧ vs.length + 1 ≤ 2 ^ k + i ∧ OwT encBW 1 34 a c vs hO ∧ BLR (2 ^ N) vs hI ∧ L' = [hA, hO, hI, [(b2, .cells ⟨[.int .i64 (N : Int), .slice aF (2 ^ N) cF]⟩ 36 (0, 0))]]) (2 ^ k) ⟨0, a, c, vs, hO, hI, rfl, by omega, rfl, hT, by omega, oO, sI, rfl⟩ ?_
    clear oO hT hvl
    clear sI
    rintro m2 g2 L' ⟨i, a, c, vs, hO, hI, e8, him, e5, hT, hvl, oO, sI, rfl⟩
    refine JC.pin 8 e8 (JC.pin 5 e5 ?_)
    clear e8 e5
    rcases Nat.lt_or_ge i (2 ^ k) with hi | hi
    ·
      obtain ⟨okA, hak⟩ := asgL_ok ho k (by omega) _ (mem_g (asgL l k) i (by omega))
      have hGl := tabX_len N (leftF l F k ((asgL l k).getD i default))
      have hts : ((rowT N l F k).take (i + 1)).foldl stepT (nodesT N l F k) = stepT (vs.map (·.l)) (tabX N (leftF l F k ((asgL l k).getD i default))) := by
        rw [take_succ_g _ i (by rw [rowT_len]; exact hi), List.foldl_append, ← hT, rowT_get N l F k hi]; rfl
      have cP := fun w hw => part31_any N hN F l ho hle al cl hl hsl aF cF hF hsF k (by omega) ((asgL l k).getD i default) okA hak w hw
      generalize tabX N (leftF l F k ((asgL l k).getD i default)) = G at *
      repeat' first
        | (refine J.isJ ?_; first | (first | (refine J.o 3 ?_; refine J.iJ hΓ ?_ (hs := oA.sl)) | (refine J.o 4 ?_; first | (refine J.lT default hΓ ?_ (hs := oA.sl) (hr := RdH.hd)) | refine J.lR hΓ ?_ (hr := Rd.hd.tl.tl.tl)) | (refine J.fc 101 ?_; refine J.call1 ePart31 rfl rfl (fun w hw => cP w (hw.rdH (RdH.old fun _ hh => hh))) ?_; rintro _ hG ⟨aG, cG, rfl, oG⟩) | (refine J.fc 102 ?_; refine J.call0 eConst31 rfl rfl (fun w hw => const31_any G aG cG hG oG.sl (by omega) w (hw.rdH RdH.hd)) ?_)) | (first | (refine J.o 0 ?_; refine J.ev' hΓ ?_) | refine J.nil ?_ | refine J.kd ?_ | (refine J.o 4 ?_; first | refine J.lT default hΓ ?_ | refine J.lR hΓ ?_) | (refine J.o 3 ?_; first | refine J.iJ hΓ ?_ | refine J.ev' hΓ ?_) | (refine J.o 1 ?_; first | refine J.ad ?_) | (refine J.o 6 ?_; refine J.bx (fun _ => ?_)) | (refine J.o 9 ?_; refine J.bl hΓ (fun _ => ?_)) | (refine J.o 10 ?_; refine J.ev' hΓ ?_) | (refine J.o 11 ?_; refine J.ev' hΓ ?_)))
        | (first | refine JC.seq ?_ | refine JC.region ?_ | refine JC.block ?_ | refine JC.ret ?_ | refine JC.exit ?_ | refine JC.skip ?_ | refine thenK.nn ?_ | refine thenK.x ?_ | refine blockK.nn ?_ | refine blockK.hit rfl ?_ | refine JC.condT rfl ?_ | refine JC.condF rfl ?_ | (refine JC.cond rfl (fun hc => ?_) (fun hc => ?_) <;> ((try simp only [decide_eq_true_eq, decide_eq_false_iff_not, beq_iff_eq, beq_eq_false_iff_ne, bne_iff_ne, bne_eq_false_iff_eq, Bool.not_eq_true', Bool.not_eq_false', Bool.not_eq_true, Bool.not_eq_false] at hc) <;> first | (first | (exact absurd rfl hc) | (exfalso; omega) | (exact absurd (hc.symm.trans (by assumption : _ = false)) (by decide)) | (exact absurd (hc.symm.trans (by assumption : _ = true)) (by decide))) | skip)) | refine drawK.nn ?_ | refine loopK.x ?_)
        | ((first | refine JC.drawO [(1,0),(0,1),(0,2),(0,3),(0,4),(1,5),(1,6),(3,7),(0,8)] (by decide +kernel) (by decide +kernel) ?_))
        | fail
      all_goals first | (exfalso; omega) | skip
      have hml : (vs.map (·.l)).length = vs.length := List.length_map _
      refine JC.loop (fun i => i == 10 || i == 11 || Nat.ble 38 i) (fun m g L' => ∃ (q : Nat), g 11 = .int .i64 (q : Int) ∧ q + m = vs.length ∧ g 10 = .bool (decide (¬ cstT G ∧ ∀ i, i < q → (vs.map (·.l)).getD i default ≠ G)) ∧ L' = [hG, hA, hO, hI, [(b2, .cells ⟨[.int .i64 (N : Int), .slice aF (2 ^ N) cF]⟩ 36 (0, 0))]]) vs.length ⟨0, rfl, by omega, congrArg Value.bool (by rw [Bool.eq_iff_iff, decide_eq_true_iff, Bool.not_eq_true', decide_eq_false_iff_not]; exact ⟨fun h => ⟨h, fun i hi => absurd hi (Nat.not_lt_zero _)⟩, fun h => h.1⟩), rfl⟩ ?_
      rintro m3 g3 L' ⟨q, e11, hqm, e10, rfl⟩
      rcases Nat.lt_or_ge q vs.length with hq | hq
      ·
        have hst := fresh_step (vs.map (·.l)) G (j := q) (by omega)
        rw [map_getD (·.l) vs hq] at hst
        obtain ⟨hvl2, hvs⟩ := sI _ (mem_g vs q hq)
        generalize decide (¬ cstT G ∧ ∀ i, i < q → (vs.map (·.l)).getD i default ≠ G) = fr at *
        refine JC.pin 11 e11 (JC.pin 10 e10 ?_)
        clear e11 e10
        cases fr with
        | true =>
          rw [Bool.true_and] at hst
          repeat' first
            | (refine J.isJ ?_; first | (first | (refine J.o 3 ?_; refine J.iJ hΓ ?_ (hs := oO.sl)) | (refine J.o 4 ?_; refine J.lT default hΓ ?_ (hs := oO.sl) (hr := RdH.hd.tl.tl)) | (refine J.fc 103 ?_; refine J.call0 eSame31 rfl rfl (fun w hw => same31_any (vs.getD q default).l G (vs.getD q default).a aG (vs.getD q default).c cG (hI ++ hG) (hvs.sub fun x hx => List.mem_append_left _ hx) (oG.sl.sub fun x hx => List.mem_append_right _ hx) (by rw [hvl2, hGl]) (by omega) w ((hw.rdH RdH.hd.tl.tl.tl).append (hw.rdH RdH.hd))) ?_)) | (first | (refine J.o 0 ?_; refine J.ev' hΓ ?_) | refine J.nil ?_ | refine J.kd ?_ | (refine J.o 4 ?_; first | refine J.lT default hΓ ?_ | refine J.lR hΓ ?_) | (refine J.o 3 ?_; first | refine J.iJ hΓ ?_ | refine J.ev' hΓ ?_) | (refine J.o 1 ?_; first | refine J.ad ?_) | (refine J.o 6 ?_; refine J.bx (fun _ => ?_)) | (refine J.o 9 ?_; refine J.bl hΓ (fun _ => ?_)) | (refine J.o 10 ?_; refine J.ev' hΓ ?_) | (refine J.o 11 ?_; refine J.ev' hΓ ?_)))
            | (first | refine JC.seq ?_ | refine JC.region ?_ | refine JC.block ?_ | refine JC.ret ?_ | refine JC.exit ?_ | refine JC.skip ?_ | refine thenK.nn ?_ | refine thenK.x ?_ | refine blockK.nn ?_ | refine blockK.hit rfl ?_ | refine JC.condT rfl ?_ | refine JC.condF rfl ?_ | (refine JC.cond rfl (fun hc => ?_) (fun hc => ?_) <;> ((try simp only [decide_eq_true_eq, decide_eq_false_iff_not, beq_iff_eq, beq_eq_false_iff_ne, bne_iff_ne, bne_eq_false_iff_eq, Bool.not_eq_true', Bool.not_eq_false', Bool.not_eq_true, Bool.not_eq_false] at hc) <;> first | (first | (exact absurd rfl hc) | (exfalso; omega) | (exact absurd (hc.symm.trans (by assumption : _ = false)) (by decide)) | (exact absurd (hc.symm.trans (by assumption : _ = true)) (by decide))) | skip)) | refine drawK.nn ?_ | refine loopK.x ?_)
            | fail
          all_goals first | (exfalso; omega) | skip
          refine loopK.nn (m3 - 1) (by omega) (by repeat (first | refine Ag.upd rfl ?_ | exact Ag.hv)) ⟨q + 1, ?_, by omega, by rw [hst]; rfl, rfl⟩
          show Value.int .i64 _ = _; congr 1
        | false =>
          rw [Bool.false_and] at hst
          repeat' first
            | (refine J.isJ ?_; first | (fail) | (first | (refine J.o 0 ?_; refine J.ev' hΓ ?_) | refine J.nil ?_ | refine J.kd ?_ | (refine J.o 4 ?_; first | refine J.lT default hΓ ?_ | refine J.lR hΓ ?_) | (refine J.o 3 ?_; first | refine J.iJ hΓ ?_ | refine J.ev' hΓ ?_) | (refine J.o 1 ?_; first | refine J.ad ?_) | (refine J.o 6 ?_; refine J.bx (fun _ => ?_)) | (refine J.o 9 ?_; refine J.bl hΓ (fun _ => ?_)) | (refine J.o 10 ?_; refine J.ev' hΓ ?_) | (refine J.o 11 ?_; refine J.ev' hΓ ?_)))
            | (first | refine JC.seq ?_ | refine JC.region ?_ | refine JC.block ?_ | refine JC.ret ?_ | refine JC.exit ?_ | refine JC.skip ?_ | refine thenK.nn ?_ | refine thenK.x ?_ | refine blockK.nn ?_ | refine blockK.hit rfl ?_ | refine JC.condT rfl ?_ | refine JC.condF rfl ?_ | (refine JC.cond rfl (fun hc => ?_) (fun hc => ?_) <;> ((try simp only [decide_eq_true_eq, decide_eq_false_iff_not, beq_iff_eq, beq_eq_false_iff_ne, bne_iff_ne, bne_eq_false_iff_eq, Bool.not_eq_true', Bool.not_eq_false', Bool.not_eq_true, Bool.not_eq_false] at hc) <;> first | (first | (exact absurd rfl hc) | (exfalso; omega) | (exact absurd (hc.symm.trans (by assumption : _ = false)) (by decide)) | (exact absurd (hc.symm.trans (by assumption : _ = true)) (by decide))) | skip)) | refine drawK.nn ?_ | refine loopK.x ?_)
            | fail
          all_goals first | (exfalso; omega) | skip
          refine loopK.nn (m3 - 1) (by omega) (by repeat (first | refine Ag.upd rfl ?_ | exact Ag.hv)) ⟨q + 1, ?_, by omega, by rw [hst]; rfl, rfl⟩
          show Value.int .i64 _ = _; congr 1
      ·
        obtain rfl : q = vs.length := by omega
        have hfe := fresh_end (vs.map (·.l)) G
        rw [hml] at hfe
        have hsi : BLR (2 ^ N) vs (hG ++ hI) := fun v hv => ⟨(sI v hv).1, (sI v hv).2.sub fun x hx => List.mem_append_right _ hx⟩
        by_cases hfr : cstT G ∨ G ∈ vs.map (·.l)
        ·
          rw [decide_eq_false (fun h => hfe.1 h hfr)] at e10
          refine JC.pin 11 e11 (JC.pin 10 e10 ?_)
          clear e11 e10
          have hs2 : stepT (vs.map (·.l)) G = vs.map (·.l) := if_pos hfr
          repeat' first
            | (refine J.isJ ?_; first | (fail) | (first | (refine J.o 0 ?_; refine J.ev' hΓ ?_) | refine J.nil ?_ | refine J.kd ?_ | (refine J.o 4 ?_; first | refine J.lT default hΓ ?_ | refine J.lR hΓ ?_) | (refine J.o 3 ?_; first | refine J.iJ hΓ ?_ | refine J.ev' hΓ ?_) | (refine J.o 1 ?_; first | refine J.ad ?_) | (refine J.o 6 ?_; refine J.bx (fun _ => ?_)) | (refine J.o 9 ?_; refine J.bl hΓ (fun _ => ?_)) | (refine J.o 10 ?_; refine J.ev' hΓ ?_) | (refine J.o 11 ?_; refine J.ev' hΓ ?_)))
            | (first | refine JC.seq ?_ | refine JC.region ?_ | refine JC.block ?_ | refine JC.ret ?_ | refine JC.exit ?_ | refine JC.skip ?_ | refine thenK.nn ?_ | refine thenK.x ?_ | refine blockK.nn ?_ | refine blockK.hit rfl ?_ | refine JC.condT rfl ?_ | refine JC.condF rfl ?_ | (refine JC.cond rfl (fun hc => ?_) (fun hc => ?_) <;> ((try simp only [decide_eq_true_eq, decide_eq_false_iff_not, beq_iff_eq, beq_eq_false_iff_ne, bne_iff_ne, bne_eq_false_iff_eq, Bool.not_eq_true', Bool.not_eq_false', Bool.not_eq_true, Bool.not_eq_false] at hc) <;> first | (first | (exact absurd rfl hc) | (exfalso; omega) | (exact absurd (hc.symm.trans (by assumption : _ = false)) (by decide)) | (exact absurd (hc.symm.trans (by assumption : _ = true)) (by decide))) | skip)) | refine drawK.nn ?_ | refine loopK.x ?_)
            | (fail)
            | fail
          all_goals first | (exfalso; omega) | skip
          refine loopK.nn (m2 - 1) (by omega) (by repeat (first | refine Ag.upd rfl ?_ | exact Ag.hv | refine Ag.hv2 (fun i hi => by simp at hi ⊢; omega) ?_)) ⟨_, ⟨i + 1, a, c, vs, hO, hI, ?_, by omega, rfl, by rw [hts, hs2], by omega, oO, sI, rfl⟩, fun w hw => H.sel (l := [_, _, _, _, _]) (M := []) hw [1, 2, 3, 4]⟩
          show Value.int .i64 _ = _; congr 1
        ·
          rw [decide_eq_true (hfe.2 hfr)] at e10
          refine JC.pin 11 e11 (JC.pin 10 e10 ?_)
          clear e11 e10
          have hs2 : stepT (vs.map (·.l)) G = vs.map (·.l) ++ [G] := if_neg hfr
          repeat' first
            | (refine J.isJ ?_; first | ((refine J.o 9 ?_; first | (first | (refine J.ap1 (enc := encBW) [(⟨aG, cG, G⟩ : BW)] hΓ (fun a4 c4 h4 o4 => ?_)) | (refine J.perm (br1.cons _) ?_; refine J.ap1 (enc := encBW) [(⟨aG, cG, G⟩ : BW)] hΓ (fun a4 c4 h4 o4 => ?_)) | (refine J.perm (br2.cons _) ?_; refine J.ap1 (enc := encBW) [(⟨aG, cG, G⟩ : BW)] hΓ (fun a4 c4 h4 o4 => ?_)) | (refine J.perm (br3.cons _) ?_; refine J.ap1 (enc := encBW) [(⟨aG, cG, G⟩ : BW)] hΓ (fun a4 c4 h4 o4 => ?_)) | (refine J.perm (br4.cons _) ?_; refine J.ap1 (enc := encBW) [(⟨aG, cG, G⟩ : BW)] hΓ (fun a4 c4 h4 o4 => ?_)) | (refine J.perm (br5.cons _) ?_; refine J.ap1 (enc := encBW) [(⟨aG, cG, G⟩ : BW)] hΓ (fun a4 c4 h4 o4 => ?_))) | (refine J.perm br1 ?_; first | (refine J.ap1 (enc := encBW) [(⟨aG, cG, G⟩ : BW)] hΓ (fun a4 c4 h4 o4 => ?_)) | (refine J.perm (br1.cons _) ?_; refine J.ap1 (enc := encBW) [(⟨aG, cG, G⟩ : BW)] hΓ (fun a4 c4 h4 o4 => ?_)) | (refine J.perm (br2.cons _) ?_; refine J.ap1 (enc := encBW) [(⟨aG, cG, G⟩ : BW)] hΓ (fun a4 c4 h4 o4 => ?_)) | (refine J.perm (br3.cons _) ?_; refine J.ap1 (enc := encBW) [(⟨aG, cG, G⟩ : BW)] hΓ (fun a4 c4 h4 o4 => ?_)) | (refine J.perm (br4.cons _) ?_; refine J.ap1 (enc := encBW) [(⟨aG, cG, G⟩ : BW)] hΓ (fun a4 c4 h4 o4 => ?_)) | (refine J.perm (br5.cons _) ?_; refine J.ap1 (enc := encBW) [(⟨aG, cG, G⟩ : BW)] hΓ (fun a4 c4 h4 o4 => ?_))) | (refine J.perm br2 ?_; first | (refine J.ap1 (enc := encBW) [(⟨aG, cG, G⟩ : BW)] hΓ (fun a4 c4 h4 o4 => ?_)) | (refine J.perm (br1.cons _) ?_; refine J.ap1 (enc := encBW) [(⟨aG, cG, G⟩ : BW)] hΓ (fun a4 c4 h4 o4 => ?_)) | (refine J.perm (br2.cons _) ?_; refine J.ap1 (enc := encBW) [(⟨aG, cG, G⟩ : BW)] hΓ (fun a4 c4 h4 o4 => ?_)) | (refine J.perm (br3.cons _) ?_; refine J.ap1 (enc := encBW) [(⟨aG, cG, G⟩ : BW)] hΓ (fun a4 c4 h4 o4 => ?_)) | (refine J.perm (br4.cons _) ?_; refine J.ap1 (enc := encBW) [(⟨aG, cG, G⟩ : BW)] hΓ (fun a4 c4 h4 o4 => ?_)) | (refine J.perm (br5.cons _) ?_; refine J.ap1 (enc := encBW) [(⟨aG, cG, G⟩ : BW)] hΓ (fun a4 c4 h4 o4 => ?_))))) | (first | (refine J.o 0 ?_; refine J.ev' hΓ ?_) | refine J.nil ?_ | refine J.kd ?_ | (refine J.o 4 ?_; first | refine J.lT default hΓ ?_ | refine J.lR hΓ ?_) | (refine J.o 3 ?_; first | refine J.iJ hΓ ?_ | refine J.ev' hΓ ?_) | (refine J.o 1 ?_; first | refine J.ad ?_) | (refine J.o 6 ?_; refine J.bx (fun _ => ?_)) | (refine J.o 9 ?_; refine J.bl hΓ (fun _ => ?_)) | (refine J.o 10 ?_; refine J.ev' hΓ ?_) | (refine J.o 11 ?_; refine J.ev' hΓ ?_)))
            | (first | refine JC.seq ?_ | refine JC.region ?_ | refine JC.block ?_ | refine JC.ret ?_ | refine JC.exit ?_ | refine JC.skip ?_ | refine thenK.nn ?_ | refine thenK.x ?_ | refine blockK.nn ?_ | refine blockK.hit rfl ?_ | refine JC.condT rfl ?_ | refine JC.condF rfl ?_ | (refine JC.cond rfl (fun hc => ?_) (fun hc => ?_) <;> ((try simp only [decide_eq_true_eq, decide_eq_false_iff_not, beq_iff_eq, beq_eq_false_iff_ne, bne_iff_ne, bne_eq_false_iff_eq, Bool.not_eq_true', Bool.not_eq_false', Bool.not_eq_true, Bool.not_eq_false] at hc) <;> first | (first | (exact absurd rfl hc) | (exfalso; omega) | (exact absurd (hc.symm.trans (by assumption : _ = false)) (by decide)) | (exact absurd (hc.symm.trans (by assumption : _ = true)) (by decide))) | skip)) | refine drawK.nn ?_ | refine loopK.x ?_)
            | fail
          all_goals first | (exfalso; omega) | skip
          have hm2 : (vs ++ [(⟨aG, cG, G⟩ : BW)]).map (·.l) = vs.map (·.l) ++ [G] := by rw [List.map_append]; rfl
          refine loopK.nn (m2 - 1) (by omega) (by repeat (first | refine Ag.upd rfl ?_ | exact Ag.hv | refine Ag.hv2 (fun i hi => by simp at hi ⊢; omega) ?_)) ⟨_, ⟨i + 1, a4, c4, vs ++ [⟨aG, cG, G⟩], h4, hG ++ hI, ?_, by omega, rfl, by rw [hts, hs2, hm2], by rw [List.length_append, show [(⟨aG, cG, G⟩ : BW)].length = 1 from rfl]; omega, o4, fun v hv => ?_, rfl⟩, fun w hw => by
            have hw2 := (H.sel (l := [_, _, _, _, _]) (M := []) hw [1, 3, 0, 2, 4]).mg1
            exact H.sel (l := [_, _, _, _]) (M := []) hw2 [2, 1, 0, 3]⟩
          · show Value.int .i64 _ = _; congr 1
          · rcases List.mem_append.1 hv with g | g
            · exact hsi v g
            · rw [List.mem_singleton.1 g]
              exact ⟨hGl, oG.sl.sub fun x hx => List.mem_append_left _ hx⟩
    ·
      obtain rfl : i = 2 ^ k := by omega
      rw [List.take_of_length_le (by rw [rowT_len]; exact Nat.le_refl _), ← nodesT_succ] at hT
      repeat' first
        | (refine J.isJ ?_; first | (fail) | (first | (refine J.o 0 ?_; refine J.ev' hΓ ?_) | refine J.nil ?_ | refine J.kd ?_ | (refine J.o 4 ?_; first | refine J.lT default hΓ ?_ | refine J.lR hΓ ?_) | (refine J.o 3 ?_; first | refine J.iJ hΓ ?_ | refine J.ev' hΓ ?_) | (refine J.o 1 ?_; first | refine J.ad ?_) | (refine J.o 6 ?_; refine J.bx (fun _ => ?_)) | (refine J.o 9 ?_; refine J.bl hΓ (fun _ => ?_)) | (refine J.o 10 ?_; refine J.ev' hΓ ?_) | (refine J.o 11 ?_; refine J.ev' hΓ ?_)))
        | (first | refine JC.seq ?_ | refine JC.region ?_ | refine JC.block ?_ | refine JC.ret ?_ | refine JC.exit ?_ | refine JC.skip ?_ | refine thenK.nn ?_ | refine thenK.x ?_ | refine blockK.nn ?_ | refine blockK.hit rfl ?_ | refine JC.condT rfl ?_ | refine JC.condF rfl ?_ | (refine JC.cond rfl (fun hc => ?_) (fun hc => ?_) <;> ((try simp only [decide_eq_true_eq, decide_eq_false_iff_not, beq_iff_eq, beq_eq_false_iff_ne, bne_iff_ne, bne_eq_false_iff_eq, Bool.not_eq_true', Bool.not_eq_false', Bool.not_eq_true, Bool.not_eq_false] at hc) <;> first | (first | (exact absurd rfl hc) | (exfalso; omega) | (exact absurd (hc.symm.trans (by assumption : _ = false)) (by decide)) | (exact absurd (hc.symm.trans (by assumption : _ = true)) (by decide))) | skip)) | refine drawK.nn ?_ | refine loopK.x ?_)
        | (fail)
        | fail
      all_goals first | (exfalso; omega) | skip
      refine loopK.nn (m - 1) (by omega) (by repeat (first | refine Ag.upd rfl ?_ | exact Ag.hv | refine Ag.hv2 (fun i hi => by simp at hi ⊢; omega) ?_)) ⟨_, ⟨k + 1, a, c, vs, hO, hI, ?_, by omega, rfl, hT, by rw [Nat.pow_succ]; omega, oO, sI, rfl⟩, fun w hw => H.sel (l := [_, _, _, _]) (M := []) hw [1, 2, 3]⟩
      show Value.int .i64 _ = _; congr 1
  ·
    obtain rfl : k = l.length + 1 := by omega
    repeat' first
      | (refine J.isJ ?_; first | (fail) | (first | (refine J.o 0 ?_; refine J.ev' hΓ ?_) | refine J.nil ?_ | refine J.kd ?_ | (refine J.o 4 ?_; first | refine J.lT default hΓ ?_ | refine J.lR hΓ ?_) | (refine J.o 3 ?_; first | refine J.iJ hΓ ?_ | refine J.ev' hΓ ?_) | (refine J.o 1 ?_; first | refine J.ad ?_) | (refine J.o 6 ?_; refine J.bx (fun _ => ?_)) | (refine J.o 9 ?_; refine J.bl hΓ (fun _ => ?_)) | (refine J.o 10 ?_; refine J.ev' hΓ ?_) | (refine J.o 11 ?_; refine J.ev' hΓ ?_)))
      | (first | refine JC.seq ?_ | refine JC.region ?_ | refine JC.block ?_ | refine JC.ret ?_ | refine JC.exit ?_ | refine JC.skip ?_ | refine thenK.nn ?_ | refine thenK.x ?_ | refine blockK.nn ?_ | refine blockK.hit rfl ?_ | refine JC.condT rfl ?_ | refine JC.condF rfl ?_ | (refine JC.cond rfl (fun hc => ?_) (fun hc => ?_) <;> ((try simp only [decide_eq_true_eq, decide_eq_false_iff_not, beq_iff_eq, beq_eq_false_iff_ne, bne_iff_ne, bne_eq_false_iff_eq, Bool.not_eq_true', Bool.not_eq_false', Bool.not_eq_true, Bool.not_eq_false] at hc) <;> first | (first | (exact absurd rfl hc) | (exfalso; omega) | (exact absurd (hc.symm.trans (by assumption : _ = false)) (by decide)) | (exact absurd (hc.symm.trans (by assumption : _ = true)) (by decide))) | skip)) | refine drawK.nn ?_ | refine loopK.x ?_)
      | (fail)
      | fail
    all_goals first | (exfalso; omega) | skip
    refine ret1f rfl rfl rfl (fun w1 hw => Gives.of ((H.sel (l := [_, _, _]) (M := []) hw [0, 1]).mg1) ⟨a, c, vs, rfl, hT, oO.sl.sub fun x hx => List.mem_append_left _ hx, fun v hv => ⟨(sI v hv).1, (sI v hv).2.sub fun x hx => List.mem_append_right _ hx⟩⟩)
theorem size31_any (N : Nat) (hN : N ≤ 8) (F : VF) (l : List Int) (ho : okOrd l) (hle : ∀ v ∈ l, v ≤ N) (hl8 : l.length ≤ 8) (al : Option Addr) (cl : Nat) (hl : Heap) (hsl : SlT encI 1 al l hl) (aF : Option Addr) (cF : Nat) (hF : Heap) (hsF : SlT encBo 1 aF (tabX N F) hF) (w : World) (hw1 : Holds (hl ++ hF) w) :
    Calls Tryz.prog 40 #[.agg ⟨[.int .i64 (N : Int), .slice aF (2 ^ N) cF]⟩, .slice al l.length cl] w fun e w' => e = .returned (.int .i64 ((nodesT N l F (l.length + 1)).length : Int)) ∧ Below w.heap.size w w' := by
  refine calls_of_JC (R := (hl ++ hF)) Tryz.func40 Tryz.ntmps40 rfl rfl (hw1) ?_
  repeat' first
    | (refine J.isJ ?_; first | (first | (refine J.o 6 ?_; refine J.bx (fun b2 => ?_)) | (refine J.o 4 ?_; refine J.lR hΓ ?_ (hr := Rd.hd)) | (refine J.fc 69 ?_; refine J.call1 eNodes31 rfl rfl (fun w hw => nodes31_any N hN F l ho hle hl8 al cl hl hsl aF cF hF hsF w (hw.rdH (RdH.old fun _ hh => hh))) ?_; rintro _ hR ⟨a, c, vs, rfl, hT, oO, sI⟩)) | (first | (refine J.o 0 ?_; refine J.ev' hΓ ?_) | refine J.nil ?_ | (refine J.o 4 ?_; first | refine J.lR hΓ ?_) | (refine J.o 3 ?_; first | refine J.ev' hΓ ?_) | (refine J.o 6 ?_; refine J.bx (fun _ => ?_)) | (refine J.o 10 ?_; refine J.ev' hΓ ?_) | (refine J.o 11 ?_; refine J.ev' hΓ ?_)))
    | (first | refine JC.seq ?_ | refine JC.region ?_ | refine JC.ret ?_ | refine thenK.nn ?_)
    | fail
  all_goals first | (exfalso; omega) | skip
  refine ret1f rfl rfl rfl (fun w1 hw => ⟨by rw [← hT, List.length_map], hw.below⟩)
end Go.Proofs.YtbhgahjeocnfcaaGreat
