/- SiftSifts: part 8. -/
import Derived.Test.YtbhgahjeocnfcaaGreatSiG
import Derived.Shelf.Spec.SlicesInsert
import Derived.Shelf.Spec.SlicesInsertGrow
import Derived.Laws.IdiomCopy
namespace Go.Proofs.YtbhgahjeocnfcaaGreat
open Go Go.Cx Go.RowKit
set_option linter.unusedVariables false
set_option linter.unusedSimpArgs false
set_option maxHeartbeats 4000000
attribute [local irreducible] J JC thenK blockK loopK roundK drawK retK QW Qt pel List.set Calls
open Go.Maps Go.Lib
set_option maxRecDepth 8000
attribute [local irreducible] JE Br eK0 eK3 brK pc
structure WInv (ns : List N3) (o : List Int) (r : Nat) (Q S : List Nat) (mm : List (Int × Nat)) : Prop where
  nodup : S.Nodup
  sub : ∀ x ∈ S, 2 ≤ x ∧ Rch ns r x
  rq : ∀ x ∈ Q, Rch ns r x
  root : r < 2 ∨ r ∈ S ∨ r ∈ Q
  cl : ∀ x ∈ S, ∀ y, (y = (nd ns x).l ∨ y = (nd ns x).h) → y < 2 ∨ y ∈ S ∨ y ∈ Q
  cnt : ∀ v, (mget mm v).getD 0 = cntV ns o S v
theorem WInv.start (ns : List N3) (o : List Int) (r : Nat) : WInv ns o r [r] [] [] :=
  ⟨List.nodup_nil, fun x hx => (by cases hx), fun x hx => by rw [List.mem_singleton.1 hx]; exact .refl, .inr (.inr (List.mem_singleton_self _)), fun x hx => (by cases hx), fun v => rfl⟩
theorem WInv.skip {ns : List N3} {o : List Int} {r a : Nat} {Q S : List Nat} {mm : List (Int × Nat)} (t : WInv ns o r (Q ++ [a]) S mm) (h : a < 2 ∨ a ∈ S) : WInv ns o r Q S mm := by
  have hk : ∀ y, y < 2 ∨ y ∈ S ∨ y ∈ Q ++ [a] → y < 2 ∨ y ∈ S ∨ y ∈ Q := fun y hy => by
    rcases hy with g | g | g
    · exact .inl g
    · exact .inr (.inl g)
    · rcases List.mem_append.1 g with g | g
      · exact .inr (.inr g)
      · rw [List.mem_singleton.1 g]; exact h.imp id .inl
  exact ⟨t.nodup, t.sub, fun x hx => t.rq x (List.mem_append_left _ hx), hk r t.root, fun x hx y hy => hk y (t.cl x hx y hy), t.cnt⟩
theorem WInv.next {ns : List N3} {o : List Int} {r a : Nat} {Q S : List Nat} {mm : List (Int × Nat)} (t : WInv ns o r (Q ++ [a]) S mm) (h2 : 2 ≤ a) (hS : a ∉ S) (c : Nat) (hc : (mget mm (o.getD (nd ns a).p default)).getD 0 = c) : WInv ns o r (Q ++ [(nd ns a).l, (nd ns a).h]) (S ++ [a]) (mput mm (o.getD (nd ns a).p default) (c + 1)) := by
  have hr := t.rq a (List.mem_append_right _ (List.mem_singleton_self _))
  have hk : ∀ y, y < 2 ∨ y ∈ S ∨ y ∈ Q ++ [a] → y < 2 ∨ y ∈ S ++ [a] ∨ y ∈ Q ++ [(nd ns a).l, (nd ns a).h] := fun y hy => by
    rcases hy with g | g | g
    · exact .inl g
    · exact .inr (.inl (List.mem_append_left _ g))
    · rcases List.mem_append.1 g with g | g
      · exact .inr (.inr (List.mem_append_left _ g))
      · exact .inr (.inl (List.mem_append_right _ g))
  refine ⟨?_, fun x hx => ?_, fun x hx => ?_, hk r t.root, fun x hx y hy => ?_, fun v => ?_⟩
  · rw [List.nodup_append]
    exact ⟨t.nodup, List.nodup_cons.2 ⟨List.not_mem_nil, List.nodup_nil⟩, fun a ha b hb e => by rw [List.mem_singleton.1 hb] at e; exact hS (e ▸ ha)⟩
  · rcases List.mem_append.1 hx with g | g
    · exact t.sub x g
    · rw [List.mem_singleton.1 g]; exact ⟨h2, hr⟩
  · rcases List.mem_append.1 hx with g | g
    · exact t.rq x (List.mem_append_left _ g)
    · rcases List.mem_cons.1 g with rfl | g
      · exact hr.low h2
      · rw [List.mem_singleton.1 g]; exact hr.high h2
  · rcases List.mem_append.1 hx with g | g
    · exact hk y (t.cl x g y hy)
    · rw [List.mem_singleton.1 g] at hy
      refine .inr (.inr (List.mem_append_right _ ?_))
      rcases hy with rfl | rfl
      · exact List.mem_cons_self
      · exact List.mem_cons_of_mem _ List.mem_cons_self
  · rw [mget_mput]
    unfold cntV
    rw [List.filter_append, List.length_append]
    have h := t.cnt v
    unfold cntV at h
    rw [List.filter_cons, List.filter_nil]
    by_cases hv : v = o.getD (nd ns a).p default
    · rw [if_pos hv, if_pos (decide_eq_true hv.symm), ← h, hv, hc]; rfl
    · rw [if_neg hv, if_neg (fun g => hv (of_decide_eq_true g).symm), h]; rfl
theorem WInv.all {ns : List N3} {o : List Int} {r : Nat} {S : List Nat} {mm : List (Int × Nat)} (t : WInv ns o r [] S mm) (x : Nat) : x ∈ S ↔ 2 ≤ x ∧ Rch ns r x := by
  constructor
  · exact t.sub x
  · rintro ⟨h2, hr⟩
    have key : x < 2 ∨ x ∈ S := by
      clear h2
      induction hr with
      | refl => exact t.root.imp id (fun g => g.resolve_right List.not_mem_nil)
      | low _ g2 ih => exact (t.cl _ (ih.resolve_left (by omega)) _ (.inl rfl)).imp id (fun g => g.resolve_right List.not_mem_nil)
      | high _ g2 ih => exact (t.cl _ (ih.resolve_left (by omega)) _ (.inr rfl)).imp id (fun g => g.resolve_right List.not_mem_nil)
    exact key.resolve_left (by omega)
theorem eWeights : Entr Tryz.prog 35 := Entr.of Tryz.func35 rfl rfl
theorem natI_snoc (Q : List Nat) (a : Nat) : natI (Q ++ [a]) = natI Q ++ [(a : Int)] := by unfold natI; rw [List.map_append]; rfl
set_option maxHeartbeats 16000000 in
theorem weights_any {n : Nat} {K : KS} {s : SS} (so : SOk n K s) {o : List Int} {hO hP : Heap} (po : POk K o hO hP) (h8 : n ≤ 8) (b r : Nat) (hr : r < s.ns.length) (w : World) (hw1 : Holds (stR K b s hO) w) :
    Calls Tryz.prog 35 #[.pointer (some ⟨b, 0, none⟩), .int .i64 (r : Int)] w (Gives (TopsV s.ns o r) w) := by
  have h2n := pow8 h8
  have q0 : ∀ L, RdH (stR K b s hO) L (stR K b s hO) := fun L => RdH.old fun _ hh => hh
  have hno := so.no
  have hpl := po.len
  refine calls_of_JC (R := (stR K b s hO)) Tryz.func35 Tryz.ntmps35 rfl rfl (hw1) ?_
  repeat' first
    | (refine J.isJ ?_; first | (first | (refine J.o 9 ?_; first | refine J.mkm (t := 67) (fun bm => ?_) | refine J.mkm (t := 105) (fun bs => ?_) | refine J.ins (ev := evBo) true keyedI ekI_inj (MapT.nil _) (keyI 0 (by omega)) hΓ (fun h1 mp1 => ?_) | refine J.ins (ev := evBo) true keyedI ekI_inj mp1 (keyI 1 (by omega)) hΓ (fun h2 mp2 => ?_) | refine J.bl (e := 3) hΓ (fun bq => ?_))) | (first | (refine J.o 0 ?_; refine J.ev' hΓ ?_) | refine J.nil ?_ | (refine J.o 4 ?_; first | refine J.lT default hΓ ?_) | (refine J.o 3 ?_; first | refine J.iJ hΓ ?_ | refine J.ev' hΓ ?_) | (refine J.o 9 ?_; refine J.bl hΓ (fun _ => ?_)) | (refine J.o 10 ?_; refine J.ev' hΓ ?_) | (refine J.o 11 ?_; refine J.ev' hΓ ?_)))
    | (first | refine JC.seq ?_ | refine JC.region ?_ | refine JC.block ?_ | refine JC.ret ?_ | refine JC.exit ?_ | refine JC.skip ?_ | refine thenK.nn ?_ | refine thenK.x ?_ | refine blockK.nn ?_ | refine blockK.hit rfl ?_ | refine JC.condT rfl ?_ | refine JC.condF rfl ?_ | (refine JC.cond rfl (fun hc => ?_) (fun hc => ?_) <;> ((try simp only [decide_eq_true_eq, decide_eq_false_iff_not, beq_iff_eq, beq_eq_false_iff_ne, bne_iff_ne, bne_eq_false_iff_eq, Bool.not_eq_true', Bool.not_eq_false', Bool.not_eq_true, Bool.not_eq_false] at hc) <;> first | (first | (exact absurd rfl hc) | (exfalso; omega) | (exact absurd (hc.symm.trans (by assumption : _ = false)) (by decide)) | (exact absurd (hc.symm.trans (by assumption : _ = true)) (by decide))) | skip)) | refine loopK.x ?_)
    | (fail)
    | fail
  all_goals first | (exfalso; omega) | skip
  refine JC.loopG (fun i => (Nat.ble 7 i && Nat.ble i 12) || Nat.ble 18 i) (fun m g L' => ∃ Q S mm aQ cQ hQ hS hM, g 7 = .slice aQ (natI Q).length cQ ∧ m = Q.length + 2 * (300 - S.length) ∧ Q.length ≤ S.length + 1 ∧ WInv s.ns o r Q S mm ∧ OwT encI 1 3 aQ cQ (natI Q) hQ ∧ MapT Tryz.prog 3 ekI evBo (seenS (0 :: 1 :: S)) bs hS ∧ MapT Tryz.prog 3 ekI evI mm bm hM ∧ L' = [hQ, hS, hM]) 601 ⟨[r], [], [], _, _, _, _, _, rfl, rfl, Nat.le_refl _, WInv.start _ _ _, ⟨fun _ => rfl, .inr ⟨bq, _, rfl, rfl, rfl, Nat.le_refl _, rfl⟩⟩, mp2, MapT.nil _, rfl⟩ ?_
  rintro m g L' ⟨Q, S, mm, aQ, cQ, hQ, hS, hM, e7, hm, hqs, t, oQ, ms, mt, rfl⟩
  have hSl := rch_len so.wf hr t.nodup (fun x hx => (t.sub x hx).2)
  rcases List.eq_nil_or_concat Q with rfl | ⟨Q, a, rfl⟩
  ·
    refine JC.pin 7 e7 ?_
    repeat' first
      | (refine J.isJ ?_; first | (fail) | (first | (refine J.o 0 ?_; refine J.ev' hΓ ?_) | refine J.nil ?_ | (refine J.o 4 ?_; first | refine J.lT default hΓ ?_) | (refine J.o 3 ?_; first | refine J.iJ hΓ ?_ | refine J.ev' hΓ ?_) | (refine J.o 9 ?_; refine J.bl hΓ (fun _ => ?_)) | (refine J.o 10 ?_; refine J.ev' hΓ ?_) | (refine J.o 11 ?_; refine J.ev' hΓ ?_)))
      | (first | refine JC.seq ?_ | refine JC.region ?_ | refine JC.block ?_ | refine JC.ret ?_ | refine JC.exit ?_ | refine JC.skip ?_ | refine thenK.nn ?_ | refine thenK.x ?_ | refine blockK.nn ?_ | refine blockK.hit rfl ?_ | refine JC.condT rfl ?_ | refine JC.condF rfl ?_ | (refine JC.cond rfl (fun hc => ?_) (fun hc => ?_) <;> ((try simp only [decide_eq_true_eq, decide_eq_false_iff_not, beq_iff_eq, beq_eq_false_iff_ne, bne_iff_ne, bne_eq_false_iff_eq, Bool.not_eq_true', Bool.not_eq_false', Bool.not_eq_true, Bool.not_eq_false] at hc) <;> first | (first | (exact absurd rfl hc) | (exfalso; omega) | (exact absurd (hc.symm.trans (by assumption : _ = false)) (by decide)) | (exact absurd (hc.symm.trans (by assumption : _ = true)) (by decide))) | skip)) | refine loopK.x ?_)
      | (fail)
      | fail
    all_goals first | (exfalso; omega) | skip
    all_goals exact ret1f rfl rfl rfl (fun w1 hw => Gives.of (H.sel (l := [_, _, _]) (M := []) hw [2]) ⟨bm, mm, S, rfl, mt, t.nodup, t.all, t.cnt⟩)
  ·
    rw [List.concat_eq_append] at *
    have hnl : (natI (Q ++ [a])).length = Q.length + 1 := by rw [natI_len, List.length_append]; rfl
    have hql : (Q ++ [a]).length = Q.length + 1 := by rw [List.length_append]; rfl
    rw [hnl] at e7
    refine JC.pin 7 e7 ?_
    clear e7
    have hg : (natI (Q ++ [a])).getD (Q.length + 1 - 1) default = (a : Int) := by
      rw [natI_snoc, show Q.length + 1 - 1 = (natI Q).length by rw [natI_len]; omega]
      simp
    have hrc := t.rq a (List.mem_append_right _ (List.mem_singleton_self _))
    have hx := hrc.lt so.wf hr
    have hkey := keyI (a : Int) (by have := so.sm; omega)
    have hsg := seenS_get a (0 :: 1 :: S)
    repeat' first
      | (refine J.isJ ?_; first | (first | (refine J.o 1 ?_; refine J.gsub (a := Q.length + 1) (b := 1) ?_) | (refine J.o 3 ?_; refine J.iJ hΓ ?_ (hs := oQ.sl)) | (refine J.o 4 ?_; refine J.lT default hΓ ?_ (hs := oQ.sl) (hr := RdH.hd); rw [hg])) | (first | (refine J.o 0 ?_; refine J.ev' hΓ ?_) | refine J.nil ?_ | (refine J.o 4 ?_; first | refine J.lT default hΓ ?_) | (refine J.o 3 ?_; first | refine J.iJ hΓ ?_ | refine J.ev' hΓ ?_) | (refine J.o 9 ?_; refine J.bl hΓ (fun _ => ?_)) | (refine J.o 10 ?_; refine J.ev' hΓ ?_) | (refine J.o 11 ?_; refine J.ev' hΓ ?_)))
      | (first | refine JC.seq ?_ | refine JC.region ?_ | refine JC.block ?_ | refine JC.ret ?_ | refine JC.exit ?_ | refine JC.skip ?_ | refine thenK.nn ?_ | refine thenK.x ?_ | refine blockK.nn ?_ | refine blockK.hit rfl ?_ | refine JC.condT rfl ?_ | refine JC.condF rfl ?_ | (refine JC.cond rfl (fun hc => ?_) (fun hc => ?_) <;> ((try simp only [decide_eq_true_eq, decide_eq_false_iff_not, beq_iff_eq, beq_eq_false_iff_ne, bne_iff_ne, bne_eq_false_iff_eq, Bool.not_eq_true', Bool.not_eq_false', Bool.not_eq_true, Bool.not_eq_false] at hc) <;> first | (first | (exact absurd rfl hc) | (exfalso; omega) | (exact absurd (hc.symm.trans (by assumption : _ = false)) (by decide)) | (exact absurd (hc.symm.trans (by assumption : _ = true)) (by decide))) | skip)) | refine loopK.x ?_)
      | (fail)
      | fail
    all_goals first | (exfalso; omega) | skip
    have oQ2 : OwT encI 1 3 aQ cQ (natI Q) hQ := by
      have h := oQ.take Q.length
      have e : (natI (Q ++ [a])).take Q.length = natI Q := by
        rw [natI_snoc, List.take_append_of_le_length (by rw [natI_len]; exact Nat.le_refl _), List.take_of_length_le (by rw [natI_len]; exact Nat.le_refl _)]
      rw [e] at h; exact h
    have hcap := own_le oQ
    rw [hnl] at hcap
    clear oQ
    have hnq := natI_len Q
    have hql2 : Q.length + 1 - 1 = (natI Q).length := by omega
    by_cases hin : a ∈ 0 :: 1 :: S
    ·
      rw [if_pos hin] at hsg
      have h2S : a < 2 ∨ a ∈ S := by
        rcases List.mem_cons.1 hin with rfl | g
        · exact .inl (by decide)
        · rcases List.mem_cons.1 g with rfl | g
          · exact .inl (by decide)
          · exact .inr g
      repeat' first
        | (refine J.isJ ?_; first | (first | (refine J.o 13 ?_; refine J.slF (m := Q.length + 1 - 1) hΓ ?_) | (refine J.o 9 ?_; refine J.lk (a := (a : Int)) keyedI ekI_inj ms (RdH.hd.tl) hkey hΓ ?_; rw [hsg])) | (first | (refine J.o 0 ?_; refine J.ev' hΓ ?_) | refine J.nil ?_ | (refine J.o 4 ?_; first | refine J.lT default hΓ ?_) | (refine J.o 3 ?_; first | refine J.iJ hΓ ?_ | refine J.ev' hΓ ?_) | (refine J.o 9 ?_; refine J.bl hΓ (fun _ => ?_)) | (refine J.o 10 ?_; refine J.ev' hΓ ?_) | (refine J.o 11 ?_; refine J.ev' hΓ ?_)))
        | (first | refine JC.seq ?_ | refine JC.region ?_ | refine JC.block ?_ | refine JC.ret ?_ | refine JC.exit ?_ | refine JC.skip ?_ | refine thenK.nn ?_ | refine thenK.x ?_ | refine blockK.nn ?_ | refine blockK.hit rfl ?_ | refine JC.condT rfl ?_ | refine JC.condF rfl ?_ | (refine JC.cond rfl (fun hc => ?_) (fun hc => ?_) <;> ((try simp only [decide_eq_true_eq, decide_eq_false_iff_not, beq_iff_eq, beq_eq_false_iff_ne, bne_iff_ne, bne_eq_false_iff_eq, Bool.not_eq_true', Bool.not_eq_false', Bool.not_eq_true, Bool.not_eq_false] at hc) <;> first | (first | (exact absurd rfl hc) | (exfalso; omega) | (exact absurd (hc.symm.trans (by assumption : _ = false)) (by decide)) | (exact absurd (hc.symm.trans (by assumption : _ = true)) (by decide))) | skip)) | refine loopK.x ?_)
        | (fail)
        | fail
      all_goals first | (exfalso; omega) | skip
      refine loopK.nn (m - 1) (by omega) (by repeat (first | refine Ag.upd rfl ?_ | exact Ag.hv)) ⟨_, ⟨Q, S, mm, aQ, cQ, hQ, hS, hM, ?_, by omega, by omega, t.skip h2S, oQ2, ms, mt, rfl⟩, fun w hw => hw⟩
      show Value.slice _ _ _ = _; rw [← hql2]
    ·
      rw [if_neg hin] at hsg
      have hn2 : 2 ≤ a := by
        rcases Nat.lt_or_ge a 2 with g | g
        · exfalso
          have : a = 0 ∨ a = 1 := by omega
          rcases this with rfl | rfl
          · exact hin List.mem_cons_self
          · exact hin (List.mem_cons_of_mem _ List.mem_cons_self)
        · exact g
      have hnS : a ∉ S := fun g => hin (List.mem_cons_of_mem _ (List.mem_cons_of_mem _ g))
      have cP := fun w hw => Parts_node so po b a hn2 hx w hw
      have hpn := so.wf.pl _ hn2 hx
      have hvo : o.getD (nd s.ns a).p default ∈ o := mem_g o _ (by omega)
      have hvr := po.ok.1 _ hvo
      obtain ⟨v, hv⟩ : ∃ v, v = o.getD (nd s.ns a).p default := ⟨_, rfl⟩
      rw [← hv] at hvr cP
      have hkv := keyI v (by omega)
      obtain ⟨c, hc⟩ : ∃ c, (mget mm v).getD 0 = c := ⟨_, rfl⟩
      have hnx := t.next hn2 hnS c (by rw [← hv]; exact hc)
      rw [← hv] at hnx
      have hc2 : c ≤ S.length := by rw [← hc, t.cnt v]; exact List.length_filter_le _ _
      have hQQ : natI Q ++ [(((nd s.ns a).l : Nat) : Int), (((nd s.ns a).h : Nat) : Int)] = natI (Q ++ [(nd s.ns a).l, (nd s.ns a).h]) := by unfold natI; rw [List.map_append]; rfl
      have hS1 : (S ++ [a]).length = S.length + 1 := by rw [List.length_append]; rfl
      have hQ2 : (Q ++ [(nd s.ns a).l, (nd s.ns a).h]).length = Q.length + 2 := by rw [List.length_append]; rfl
      cases hgv : mget mm v with
      | none =>
          obtain rfl : 0 = c := by rw [hgv] at hc; exact hc
          repeat' first
            | (refine J.isJ ?_; first | (first | (refine J.o 13 ?_; refine J.slF (m := Q.length + 1 - 1) hΓ ?_) | (refine J.fc 62 ?_; refine J.call0 eParts rfl rfl (fun w hw => cP w (hw.rdH (q0 _))) ?_) | (refine J.o 9 ?_; first | (refine J.lk (a := (a : Int)) keyedI ekI_inj ms (RdH.hd.tl) hkey hΓ ?_; rw [hsg]) | (refine J.perm (bring_perm 1 _) ?_; refine J.mup (a := (a : Int)) (ev := evBo) true keyedI ekI_inj ms hkey hΓ (fun h4 ms4 => ?_)) | (refine J.lk (a := v) keyedI ekI_inj mt (RdH.hd.tl.tl) hkv hΓ ?_; rw [hgv]) | (refine J.perm (bring_perm 2 _) ?_; refine J.mup (a := v) (ev := evI) (0 + 1) keyedI ekI_inj mt hkv hΓ (fun h5 mt5 => ?_))) | (refine J.o 1 ?_; refine J.gadd (a := 0) (b := 1) ?_ (hw := wI64 (by omega))) | (refine J.o 9 ?_; first | (first | (refine J.ap1 (enc := encI) [(((nd s.ns a).l : Nat) : Int), (((nd s.ns a).h : Nat) : Int)] hΓ (fun a6 c6 h6 o6 => ?_)) | (refine J.perm (br1.cons _) ?_; refine J.ap1 (enc := encI) [(((nd s.ns a).l : Nat) : Int), (((nd s.ns a).h : Nat) : Int)] hΓ (fun a6 c6 h6 o6 => ?_)) | (refine J.perm (br2.cons _) ?_; refine J.ap1 (enc := encI) [(((nd s.ns a).l : Nat) : Int), (((nd s.ns a).h : Nat) : Int)] hΓ (fun a6 c6 h6 o6 => ?_)) | (refine J.perm (br3.cons _) ?_; refine J.ap1 (enc := encI) [(((nd s.ns a).l : Nat) : Int), (((nd s.ns a).h : Nat) : Int)] hΓ (fun a6 c6 h6 o6 => ?_)) | (refine J.perm (br4.cons _) ?_; refine J.ap1 (enc := encI) [(((nd s.ns a).l : Nat) : Int), (((nd s.ns a).h : Nat) : Int)] hΓ (fun a6 c6 h6 o6 => ?_)) | (refine J.perm (br5.cons _) ?_; refine J.ap1 (enc := encI) [(((nd s.ns a).l : Nat) : Int), (((nd s.ns a).h : Nat) : Int)] hΓ (fun a6 c6 h6 o6 => ?_))) | (refine J.perm br1 ?_; first | (refine J.ap1 (enc := encI) [(((nd s.ns a).l : Nat) : Int), (((nd s.ns a).h : Nat) : Int)] hΓ (fun a6 c6 h6 o6 => ?_)) | (refine J.perm (br1.cons _) ?_; refine J.ap1 (enc := encI) [(((nd s.ns a).l : Nat) : Int), (((nd s.ns a).h : Nat) : Int)] hΓ (fun a6 c6 h6 o6 => ?_)) | (refine J.perm (br2.cons _) ?_; refine J.ap1 (enc := encI) [(((nd s.ns a).l : Nat) : Int), (((nd s.ns a).h : Nat) : Int)] hΓ (fun a6 c6 h6 o6 => ?_)) | (refine J.perm (br3.cons _) ?_; refine J.ap1 (enc := encI) [(((nd s.ns a).l : Nat) : Int), (((nd s.ns a).h : Nat) : Int)] hΓ (fun a6 c6 h6 o6 => ?_)) | (refine J.perm (br4.cons _) ?_; refine J.ap1 (enc := encI) [(((nd s.ns a).l : Nat) : Int), (((nd s.ns a).h : Nat) : Int)] hΓ (fun a6 c6 h6 o6 => ?_)) | (refine J.perm (br5.cons _) ?_; refine J.ap1 (enc := encI) [(((nd s.ns a).l : Nat) : Int), (((nd s.ns a).h : Nat) : Int)] hΓ (fun a6 c6 h6 o6 => ?_))) | (refine J.perm br2 ?_; first | (refine J.ap1 (enc := encI) [(((nd s.ns a).l : Nat) : Int), (((nd s.ns a).h : Nat) : Int)] hΓ (fun a6 c6 h6 o6 => ?_)) | (refine J.perm (br1.cons _) ?_; refine J.ap1 (enc := encI) [(((nd s.ns a).l : Nat) : Int), (((nd s.ns a).h : Nat) : Int)] hΓ (fun a6 c6 h6 o6 => ?_)) | (refine J.perm (br2.cons _) ?_; refine J.ap1 (enc := encI) [(((nd s.ns a).l : Nat) : Int), (((nd s.ns a).h : Nat) : Int)] hΓ (fun a6 c6 h6 o6 => ?_)) | (refine J.perm (br3.cons _) ?_; refine J.ap1 (enc := encI) [(((nd s.ns a).l : Nat) : Int), (((nd s.ns a).h : Nat) : Int)] hΓ (fun a6 c6 h6 o6 => ?_)) | (refine J.perm (br4.cons _) ?_; refine J.ap1 (enc := encI) [(((nd s.ns a).l : Nat) : Int), (((nd s.ns a).h : Nat) : Int)] hΓ (fun a6 c6 h6 o6 => ?_)) | (refine J.perm (br5.cons _) ?_; refine J.ap1 (enc := encI) [(((nd s.ns a).l : Nat) : Int), (((nd s.ns a).h : Nat) : Int)] hΓ (fun a6 c6 h6 o6 => ?_))))) | (first | (refine J.o 0 ?_; refine J.ev' hΓ ?_) | refine J.nil ?_ | (refine J.o 4 ?_; first | refine J.lT default hΓ ?_) | (refine J.o 3 ?_; first | refine J.iJ hΓ ?_ | refine J.ev' hΓ ?_) | (refine J.o 9 ?_; refine J.bl hΓ (fun _ => ?_)) | (refine J.o 10 ?_; refine J.ev' hΓ ?_) | (refine J.o 11 ?_; refine J.ev' hΓ ?_)))
            | (first | refine JC.seq ?_ | refine JC.region ?_ | refine JC.block ?_ | refine JC.ret ?_ | refine JC.exit ?_ | refine JC.skip ?_ | refine thenK.nn ?_ | refine thenK.x ?_ | refine blockK.nn ?_ | refine blockK.hit rfl ?_ | refine JC.condT rfl ?_ | refine JC.condF rfl ?_ | (refine JC.cond rfl (fun hc => ?_) (fun hc => ?_) <;> ((try simp only [decide_eq_true_eq, decide_eq_false_iff_not, beq_iff_eq, beq_eq_false_iff_ne, bne_iff_ne, bne_eq_false_iff_eq, Bool.not_eq_true', Bool.not_eq_false', Bool.not_eq_true, Bool.not_eq_false] at hc) <;> first | (first | (exact absurd rfl hc) | (exfalso; omega) | (exact absurd (hc.symm.trans (by assumption : _ = false)) (by decide)) | (exact absurd (hc.symm.trans (by assumption : _ = true)) (by decide))) | skip)) | refine loopK.x ?_)
            | (fail)
            | fail
          all_goals first | (exfalso; omega) | skip
          rw [hQQ] at o6
          rw [seenS_put hin] at ms4
          refine loopK.nn (m - 1) (by omega) (by repeat (first | refine Ag.upd rfl ?_ | exact Ag.hv)) ⟨_, ⟨Q ++ [(nd s.ns a).l, (nd s.ns a).h], S ++ [a], mput mm v (0 + 1), a6, c6, h6, h4, h5, ?_, by omega, by omega, hnx, o6, ms4, mt5, rfl⟩, fun w hw => H.sel (l := [_, _, _]) (M := []) hw [0, 2, 1]⟩
          show Value.slice _ _ _ = _; rw [hQQ]
      | some c0 =>
          obtain rfl : c0 = c := by rw [hgv] at hc; exact hc
          repeat' first
            | (refine J.isJ ?_; first | (first | (refine J.o 13 ?_; refine J.slF (m := Q.length + 1 - 1) hΓ ?_) | (refine J.fc 62 ?_; refine J.call0 eParts rfl rfl (fun w hw => cP w (hw.rdH (q0 _))) ?_) | (refine J.o 9 ?_; first | (refine J.lk (a := (a : Int)) keyedI ekI_inj ms (RdH.hd.tl) hkey hΓ ?_; rw [hsg]) | (refine J.perm (bring_perm 1 _) ?_; refine J.mup (a := (a : Int)) (ev := evBo) true keyedI ekI_inj ms hkey hΓ (fun h4 ms4 => ?_)) | (refine J.lk (a := v) keyedI ekI_inj mt (RdH.hd.tl.tl) hkv hΓ ?_; rw [hgv]) | (refine J.perm (bring_perm 2 _) ?_; refine J.mup (a := v) (ev := evI) (c0 + 1) keyedI ekI_inj mt hkv hΓ (fun h5 mt5 => ?_))) | (refine J.o 1 ?_; refine J.gadd (a := c0) (b := 1) ?_ (hw := wI64 (by omega))) | (refine J.o 9 ?_; first | (first | (refine J.ap1 (enc := encI) [(((nd s.ns a).l : Nat) : Int), (((nd s.ns a).h : Nat) : Int)] hΓ (fun a6 c6 h6 o6 => ?_)) | (refine J.perm (br1.cons _) ?_; refine J.ap1 (enc := encI) [(((nd s.ns a).l : Nat) : Int), (((nd s.ns a).h : Nat) : Int)] hΓ (fun a6 c6 h6 o6 => ?_)) | (refine J.perm (br2.cons _) ?_; refine J.ap1 (enc := encI) [(((nd s.ns a).l : Nat) : Int), (((nd s.ns a).h : Nat) : Int)] hΓ (fun a6 c6 h6 o6 => ?_)) | (refine J.perm (br3.cons _) ?_; refine J.ap1 (enc := encI) [(((nd s.ns a).l : Nat) : Int), (((nd s.ns a).h : Nat) : Int)] hΓ (fun a6 c6 h6 o6 => ?_)) | (refine J.perm (br4.cons _) ?_; refine J.ap1 (enc := encI) [(((nd s.ns a).l : Nat) : Int), (((nd s.ns a).h : Nat) : Int)] hΓ (fun a6 c6 h6 o6 => ?_)) | (refine J.perm (br5.cons _) ?_; refine J.ap1 (enc := encI) [(((nd s.ns a).l : Nat) : Int), (((nd s.ns a).h : Nat) : Int)] hΓ (fun a6 c6 h6 o6 => ?_))) | (refine J.perm br1 ?_; first | (refine J.ap1 (enc := encI) [(((nd s.ns a).l : Nat) : Int), (((nd s.ns a).h : Nat) : Int)] hΓ (fun a6 c6 h6 o6 => ?_)) | (refine J.perm (br1.cons _) ?_; refine J.ap1 (enc := encI) [(((nd s.ns a).l : Nat) : Int), (((nd s.ns a).h : Nat) : Int)] hΓ (fun a6 c6 h6 o6 => ?_)) | (refine J.perm (br2.cons _) ?_; refine J.ap1 (enc := encI) [(((nd s.ns a).l : Nat) : Int), (((nd s.ns a).h : Nat) : Int)] hΓ (fun a6 c6 h6 o6 => ?_)) | (refine J.perm (br3.cons _) ?_; refine J.ap1 (enc := encI) [(((nd s.ns a).l : Nat) : Int), (((nd s.ns a).h : Nat) : Int)] hΓ (fun a6 c6 h6 o6 => ?_)) | (refine J.perm (br4.cons _) ?_; refine J.ap1 (enc := encI) [(((nd s.ns a).l : Nat) : Int), (((nd s.ns a).h : Nat) : Int)] hΓ (fun a6 c6 h6 o6 => ?_)) | (refine J.perm (br5.cons _) ?_; refine J.ap1 (enc := encI) [(((nd s.ns a).l : Nat) : Int), (((nd s.ns a).h : Nat) : Int)] hΓ (fun a6 c6 h6 o6 => ?_))) | (refine J.perm br2 ?_; first | (refine J.ap1 (enc := encI) [(((nd s.ns a).l : Nat) : Int), (((nd s.ns a).h : Nat) : Int)] hΓ (fun a6 c6 h6 o6 => ?_)) | (refine J.perm (br1.cons _) ?_; refine J.ap1 (enc := encI) [(((nd s.ns a).l : Nat) : Int), (((nd s.ns a).h : Nat) : Int)] hΓ (fun a6 c6 h6 o6 => ?_)) | (refine J.perm (br2.cons _) ?_; refine J.ap1 (enc := encI) [(((nd s.ns a).l : Nat) : Int), (((nd s.ns a).h : Nat) : Int)] hΓ (fun a6 c6 h6 o6 => ?_)) | (refine J.perm (br3.cons _) ?_; refine J.ap1 (enc := encI) [(((nd s.ns a).l : Nat) : Int), (((nd s.ns a).h : Nat) : Int)] hΓ (fun a6 c6 h6 o6 => ?_)) | (refine J.perm (br4.cons _) ?_; refine J.ap1 (enc := encI) [(((nd s.ns a).l : Nat) : Int), (((nd s.ns a).h : Nat) : Int)] hΓ (fun a6 c6 h6 o6 => ?_)) | (refine J.perm (br5.cons _) ?_; refine J.ap1 (enc := encI) [(((nd s.ns a).l : Nat) : Int), (((nd s.ns a).h : Nat) : Int)] hΓ (fun a6 c6 h6 o6 => ?_))))) | (first | (refine J.o 0 ?_; refine J.ev' hΓ ?_) | refine J.nil ?_ | (refine J.o 4 ?_; first | refine J.lT default hΓ ?_) | (refine J.o 3 ?_; first | refine J.iJ hΓ ?_ | refine J.ev' hΓ ?_) | (refine J.o 9 ?_; refine J.bl hΓ (fun _ => ?_)) | (refine J.o 10 ?_; refine J.ev' hΓ ?_) | (refine J.o 11 ?_; refine J.ev' hΓ ?_)))
            | (first | refine JC.seq ?_ | refine JC.region ?_ | refine JC.block ?_ | refine JC.ret ?_ | refine JC.exit ?_ | refine JC.skip ?_ | refine thenK.nn ?_ | refine thenK.x ?_ | refine blockK.nn ?_ | refine blockK.hit rfl ?_ | refine JC.condT rfl ?_ | refine JC.condF rfl ?_ | (refine JC.cond rfl (fun hc => ?_) (fun hc => ?_) <;> ((try simp only [decide_eq_true_eq, decide_eq_false_iff_not, beq_iff_eq, beq_eq_false_iff_ne, bne_iff_ne, bne_eq_false_iff_eq, Bool.not_eq_true', Bool.not_eq_false', Bool.not_eq_true, Bool.not_eq_false] at hc) <;> first | (first | (exact absurd rfl hc) | (exfalso; omega) | (exact absurd (hc.symm.trans (by assumption : _ = false)) (by decide)) | (exact absurd (hc.symm.trans (by assumption : _ = true)) (by decide))) | skip)) | refine loopK.x ?_)
            | (fail)
            | fail
          all_goals first | (exfalso; omega) | skip
          rw [hQQ] at o6
          rw [seenS_put hin] at ms4
          refine loopK.nn (m - 1) (by omega) (by repeat (first | refine Ag.upd rfl ?_ | exact Ag.hv)) ⟨_, ⟨Q ++ [(nd s.ns a).l, (nd s.ns a).h], S ++ [a], mput mm v (c0 + 1), a6, c6, h6, h4, h5, ?_, by omega, by omega, hnx, o6, ms4, mt5, rfl⟩, fun w hw => H.sel (l := [_, _, _]) (M := []) hw [0, 2, 1]⟩
          show Value.slice _ _ _ = _; rw [hQQ]
end Go.Proofs.YtbhgahjeocnfcaaGreat
namespace Go.Proofs
open Go.Shelf
def Tryz.laysIns_ren : Go.Shelf.Ren := ⟨fun | 21 => 99 | 27 => 111 | 28 => 112 | 35 => 126 | 39 => 136 | n => n, fun | 22 => 28 | 3 => 3 | 4 => 4 | 0 => 0 | n => n, fun | n => n⟩
theorem Tryz.laysIns : Go.Proofs.Lays2.n21 Tryz.prog Tryz.laysIns_ren := {
  mixed := by kernel_rfl
  f21 := Tryz.func99.trans (congrArg some (by kernel_rfl))
  f27 := Tryz.func111.trans (congrArg some (by kernel_rfl))
  f28 := Tryz.func112.trans (congrArg some (by kernel_rfl))
  f35 := Tryz.func126.trans (congrArg some (by kernel_rfl))
  f39 := Tryz.func136.trans (congrArg some (by kernel_rfl))
  t0 := Tryz.underlying0
  a0 := Tryz.isAgg0
  z0 := Tryz.sizeOf0
  v0 := Tryz.zeroValue0
  t3 := Tryz.underlying3
  a3 := Tryz.isAgg3
  z3 := Tryz.sizeOf3
  v3 := Tryz.zeroValue3
  t4 := Tryz.underlying4
  a4 := Tryz.isAgg4
  z4 := Tryz.sizeOf4
  v4 := Tryz.zeroValue4
  t22 := Tryz.underlying28
  a22 := Tryz.isAgg28
  z22 := Tryz.sizeOf28
  v22 := Tryz.zeroValue28
  i3 := by kernel_rfl }
end Go.Proofs
namespace Go.Proofs.YtbhgahjeocnfcaaGreat
open Go Go.Cx Go.RowKit
set_option linter.unusedVariables false
set_option linter.unusedSimpArgs false
set_option maxHeartbeats 4000000
attribute [local irreducible] J JC thenK blockK loopK roundK drawK retK QW Qt pel List.set Calls
open Go.Maps Go.Lib
set_option maxRecDepth 8000
attribute [local irreducible] JE Br eK0 eK3 brK pc JR thenR JA
section
variable {P : Program} {n : Nat} {w0 : World} {R : Heap} {l0 : List Oper} {K : Exit → Fr → List Heap → Prop} {f : Fr} {L : List Heap} {rest : List (Nat × Oper)}
variable {Γ : List (Nat × TI)} {d : Nat} {ty : TypeId} {pos : String} {aft : Array Edge} {g : Option (Nat × Bool)}
variable {α : Type} {enc : α → List Value} {size : Nat} {e : TypeId} {us : List α}
theorem J.apC {t : TypeId} {x y : Operand} {m c gb : Nat} {b : Option Addr} {hs : Heap} {s1 b1 b2 : Nat} {z1 : Option Value} {z : Value} {zc : List Value} {de : TypeDesc} (hΓ : Fits P Γ) (hel : ∀ t, (enc t).length = size) (hus : SlT enc size b us hs) (hr : RdH R ([(gb, .cells ⟨[]⟩ e (0, 0))] :: L) hs)
    (k : ∀ a' cap' h', OwT enc size e a' cap' us h' → cap' ≤ 9223372036854775807 → J P n w0 R l0 K rest (upd f d (.slice a' us.length cap')) (h' :: L))
    (hg : wantB n f l0 ⟨some d, .call ⟨.builtin .append, ⟨[x, y]⟩, ⟨[t, t]⟩⟩, ty, pos, aft, g⟩ = true := by exact rfl)
    (hx : Cx.ev n f x = .slice (some ⟨gb, 0, none⟩) 0 0 := by exact rfl) (hy : Cx.ev n f y = .slice b m c := by exact rfl) (ht : Cx.look Γ t = some ⟨.slice e, s1, z1, b1⟩ := by exact rfl) (he : Cx.look Γ e = some ⟨de, size, some z, b2⟩ := by exact rfl) (hz : vcells z = some zc := by exact rfl) (hzl : Nat.beq zc.length size = true := by exact rfl)
    (hm : us.length = m := by first | rfl | assumption | omega) (h1 : ∀ t, ones (enc t) = true := by intro _; rfl) (hb : m * b2 ≤ 140737488355328 := by omega) (h63 : m ≤ 9223372036854775807 := by omega) :
    J P n w0 R l0 K ((2, ⟨some d, .call ⟨.builtin .append, ⟨[x, y]⟩, ⟨[t, t]⟩⟩, ty, pos, aft, g⟩) :: rest) f ([(gb, .cells ⟨[]⟩ e (0, 0))] :: L) := by
  subst hm
  have ho0 : OwT enc size e (some ⟨gb, 0, none⟩) 0 ([] : List α) [(gb, .cells ⟨[]⟩ e (0, 0))] := ⟨hel, .inr ⟨gb, [], rfl, rfl, by simp, Nat.le_refl _, by simp⟩⟩
  rcases Nat.eq_zero_or_pos us.length with h0 | hpos
  · have hun : us = [] := List.eq_nil_of_length_eq_zero h0
    subst hun
    refine J.v (Φ := fun v L' => v = .slice (some ⟨gb, 0, none⟩) 0 0 ∧ L' = [(gb, .cells ⟨[]⟩ e (0, 0))] :: L) hg (fun w hw => ⟨_, _, w, ?_, hw, rfl, rfl⟩) (fun v L' ⟨e1, e2⟩ => by subst e1; subst e2; exact k _ _ _ ho0 (by omega))
    have h2 : (⟨[x, y]⟩ : Array Operand).map (Cx.ev n f) = #[.slice (some ⟨gb, 0, none⟩) 0 0, .slice b 0 c] := by simp [hx, hy]
    simp only [execOp, resolve, h2, Sem.run_bind, Sem.run_pure, Result.andThen_ok, invoke, builtin]
    rw [app_empty hΓ ht he (Nat.le_refl _)]
    rfl
  refine J.v (Φ := fun v L' => ∃ a' cap' h', v = .slice a' us.length cap' ∧ L' = h' :: L ∧ OwT enc size e a' cap' us h' ∧ cap' ≤ 9223372036854775807) hg (fun w hw => ?_) (fun v L' ⟨a', cap', h', e1, e2, e3, e4⟩ => by subst e1; subst e2; exact k a' cap' h' e3 e4)
  obtain ⟨bb, off, cs0, e0, fr0, rfl, hm0, _, _⟩ := hus.at_ 0 hpos
  have hu := (hΓ t _ ht).1
  obtain ⟨hue, ie, hie, hse, hze, hbe⟩ := hΓ e _ he
  have hsz : ie.size = size := hse
  have hzs : z.cells.size = size := by rw [vcells_eq hz]; simpa using (Nat.eq_of_beq_eq_true hzl)
  have hl : (us.flatMap enc).length = us.length * ie.size := by rw [flat_len hel, hse]
  have hfit : Builtin.nextslicecap us.length 0 * ie.bytes ≤ 281474976710656 := by
    have h2 := nextslicecap_le (need := us.length) (old := 0) hpos
    have h3 : Builtin.nextslicecap us.length 0 * b2 ≤ (2 * us.length) * b2 := Nat.mul_le_mul_right _ h2
    rw [Nat.mul_assoc] at h3
    rw [hbe]
    show _ * b2 ≤ _
    omega
  have hrun := run_append_grow (P := P) w t ty e ie z hu hie hze ⟨gb, 0, none⟩ 0 0 [] (by simp) (fun j v hj => by simp at hj) ⟨bb, off, none⟩ us.length c (us.flatMap enc) hl
    (fun j u hj => by
      have hsz : 0 < size := by
        rcases Nat.eq_zero_or_pos size with h0 | h0
        · have hl0 := flat_len hel us
          rw [h0, Nat.mul_zero] at hl0
          rw [List.eq_nil_of_length_eq_zero hl0] at hj
          simp at hj
        · exact h0
      have hjl : j < us.length * size := by rw [← flat_len hel]; exact (List.getElem?_eq_some_iff.1 hj).1
      have hi : j / size < us.length := Nat.div_lt_of_lt_mul (by rw [Nat.mul_comm]; exact hjl)
      obtain ⟨b2', off2, cs, e2, fr2, e1, hm2, hf2, hc2⟩ := hus.at_ (j / size) hi
      simp only [Option.some.injEq, Addr.mk.injEq, and_true] at e1
      obtain ⟨rfl, rfl⟩ := e1
      have hadd : (⟨bb, off, none⟩ : Addr).add j = ⟨bb, off + j, none⟩ := by unfold Addr.add; split <;> simp_all
      have hbk := hw.rd (hr _ hm2)
      rw [hadd, cell_of_row w bb (off + j) _ e2 fr2 hbk]
      have hfa := flat_at hel us (j / size) hi
      have hmod : j / size * size + j % size = j := by rw [Nat.mul_comm]; exact Nat.div_add_mod j size
      have hml := Nat.mod_lt j hsz
      have e3 : ((us.flatMap enc).drop (j / size * size) |>.take size)[j % size]? = some u := by
        rw [List.getElem?_take, if_pos hml, List.getElem?_drop, hmod, hj]
      rw [hfa, ← hc2, List.getElem?_take, if_pos hml, List.getElem?_drop] at e3
      rw [show off + j = off + j / size * size + j % size by omega]
      simpa using e3) (by omega) (by omega) (by rw [Nat.zero_add]; exact hfit)
  have e0 : (([] : List Value).toArray ++ (us.flatMap enc).toArray) = (us.flatMap enc).toArray := by simp
  rw [Nat.zero_add, e0] at hrun
  have hge := grownCap_ge w us.length 0 e
  have hle := grownCap_le_maxLen w us.length 0 e (by unfold maxLen; omega)
  refine ⟨_, _, _, ?_, (hw.drop.drew (w.drawn + 1)).alloc (.cells ((us.flatMap enc).toArray ++ Builtin.zeroCells z.cells (grownCap w us.length 0 e - us.length)) e), some ⟨w.heap.size, 0, none⟩, grownCap w us.length 0 e, _, rfl, rfl, ⟨hel, .inr ⟨w.heap.size, us.flatMap enc ++ (Builtin.zeroCells z.cells (grownCap w us.length 0 e - us.length)).toList, rfl, ?_, ?_, hge, ?_⟩⟩, by unfold maxLen at hle; omega⟩
  · have h2 : (⟨[x, y]⟩ : Array Operand).map (Cx.ev n f) = #[.slice (some ⟨gb, 0, none⟩) 0 0, .slice (some ⟨bb, off, none⟩) us.length c] := by simp [hx, hy]
    simp only [execOp, resolve, h2, Sem.run_bind, Sem.run_pure, Result.andThen_ok, invoke, builtin]
    rw [hrun]
    rfl
  · simp
  · simp only [List.length_append, Array.length_toList, size_zeroCells, hzs, flat_len hel]
    rw [← Nat.add_mul]
    congr 1
    omega
  · rw [List.take_append_of_le_length (by rw [flat_len hel]; exact Nat.le_refl _), List.take_of_length_le (by rw [flat_len hel]; exact Nat.le_refl _)]
end
theorem cloneC_any (a : Option Addr) (c : Nat) (l : List Int) (h : Heap) (hs : SlT encI 1 a l h) (hl : l.length ≤ 1000000) (w : World) (hw : Holds h w) :
    Calls Tryz.prog 53 #[.slice a l.length c] w (Gives (fun v g => ∃ a' c', v = .slice a' l.length c' ∧ OwT encI 1 3 a' c' l g ∧ c' ≤ 9223372036854775807) w) := by
  have q0 : ∀ L, RdH h L h := fun L => RdH.old fun _ hh => hh
  cases a with
  | none =>
    have h0 : l = [] := by
      cases l with
      | nil => rfl
      | cons x l => obtain ⟨b, off, cs', e', fr, h1, _⟩ := hs.at_ 0 (by simp); cases h1
    subst h0
    refine calls_of_JC (R := h) Tryz.func53 Tryz.ntmps53 rfl rfl (hw) ?_
    repeat' first
      | (refine J.isJ ?_; first | ((refine J.o 11 ?_; refine J.sN hΓ ?_)) | (first | (refine J.o 0 ?_; refine J.ev' hΓ ?_) | refine J.nil ?_ | (refine J.o 3 ?_; first | refine J.ev' hΓ ?_) | (refine J.o 9 ?_; refine J.bl hΓ (fun _ => ?_)) | (refine J.o 10 ?_; refine J.ev' hΓ ?_) | (refine J.o 11 ?_; refine J.ev' hΓ ?_)))
      | (first | refine JC.seq ?_ | refine JC.region ?_ | refine JC.ret ?_ | refine JC.skip ?_ | refine thenK.nn ?_ | refine thenK.r ?_ | refine JC.condT rfl ?_ | refine JC.condF rfl ?_)
      | (fail)
      | fail
    all_goals first | (exfalso; omega) | skip
    exact ret1f rfl rfl rfl (fun w1 hw => Gives.of hw.nilF ⟨none, 0, rfl, OwT.nil (fun _ => rfl), by omega⟩)
  | some ad =>
    refine calls_of_JC (R := h) Tryz.func53 Tryz.ntmps53 rfl rfl (hw) ?_
    repeat' first
      | (refine J.isJ ?_; first | (first | (refine J.o 11 ?_; refine J.sN hΓ ?_) | (refine J.o 9 ?_; refine J.apC (enc := encI) hΓ (fun _ => rfl) hs (q0 _) (fun a2 c2 h2 o2 l2 => ?_))) | (first | (refine J.o 0 ?_; refine J.ev' hΓ ?_) | refine J.nil ?_ | (refine J.o 3 ?_; first | refine J.ev' hΓ ?_) | (refine J.o 9 ?_; refine J.bl hΓ (fun _ => ?_)) | (refine J.o 10 ?_; refine J.ev' hΓ ?_) | (refine J.o 11 ?_; refine J.ev' hΓ ?_)))
      | (first | refine JC.seq ?_ | refine JC.region ?_ | refine JC.ret ?_ | refine JC.skip ?_ | refine thenK.nn ?_ | refine thenK.r ?_ | refine JC.condT rfl ?_ | refine JC.condF rfl ?_)
      | (fail)
      | fail
    all_goals first | (exfalso; omega) | skip
    exact ret1f rfl rfl rfl (fun w1 hw => Gives.of hw ⟨a2, c2, rfl, o2, l2⟩)
theorem setCells_H {e : TypeId} {b : Nat} {w0 : World} {R : Heap} {L : List Heap} : ∀ (vs : List Value) (off : Nat) (cs : List Value) (w : World), H w0 R ([(b, .cells ⟨cs⟩ e (0, 0))] :: L) w → H w0 R ([(b, .cells ⟨putL cs off vs⟩ e (0, 0))] :: L) (w.setCells b off vs)
  | [], off, cs, w, h => by rw [putL_nil]; exact h
  | v :: vs, off, cs, w, h => by
    rw [World.setCells, putL_cons]
    refine setCells_H vs (off + 1) (cs.set off v) _ ?_
    have hb := h.rd Rd.hd
    refine h.write rfl rfl rfl ?_ ?_ ?_
    · simp [World.setCell]
    · show (w.heap.modify b _)[b]? = _
      rw [Array.getElem?_modify, if_pos rfl, hb]
      simp
    · intro k hk
      show (w.heap.modify b _)[k]? = _
      rw [Array.getElem?_modify, if_neg (Ne.symm hk)]
theorem ins_put1 {C D : List Value} {i : Nat} {x : Value} (h : i + 1 + D.length ≤ C.length) : putL (putL C i [x]) (i + 1) D = C.take i ++ x :: D ++ C.drop (i + 1 + D.length) := by
  have e : putL (putL C i [x]) (i + 1) D = putL C i (x :: D) := by rw [putL_cons, putL_cons, putL_nil]
  rw [e, putL_eq _ _ _ (by simp; omega)]
  simp [Nat.add_assoc, Nat.add_comm 1]
theorem ins_put2 {C D : List Value} {i : Nat} {x : Value} (h : i + 1 + D.length ≤ C.length) : putL (putL C (i + 1) D) i [x] = C.take i ++ x :: D ++ C.drop (i + 1 + D.length) := by
  rw [putL_cons, putL_nil, putL_eq C (i + 1) D h, List.take_succ_eq_append_getElem (by omega)]
  have hl : (C.take i).length = i := by rw [List.length_take]; omega
  simp only [List.append_assoc]
  rw [List.set_append_right _ _ (by rw [hl]; exact Nat.le_refl _), hl, Nat.sub_self]
  simp
def insAt (rest : List Int) (i : Nat) (v : Int) : List Int := rest.take i ++ v :: rest.drop i
theorem insAt_len {rest : List Int} {i : Nat} (hi : i ≤ rest.length) (v : Int) : (insAt rest i v).length = rest.length + 1 := by
  simp [insAt]; omega
theorem ins_own {g : Nat} {C : List Value} {c : Nat} {rest : List Int} {i : Nat} {v : Int} (hi : i ≤ rest.length) (hc : rest.length + 1 ≤ c) (hC : C.length = c) (hp : C.take i = (rest.map (Value.int .i64)).take i) : OwT encI 1 3 (some ⟨g, 0, none⟩) c (insAt rest i v) [(g, .cells ⟨C.take i ++ Value.int .i64 v :: (rest.map (Value.int .i64)).drop i ++ C.drop (i + 1 + ((rest.map (Value.int .i64)).drop i).length)⟩ 3 (0, 0))] := by
  refine ⟨fun _ => rfl, .inr ⟨g, _, rfl, rfl, ?_, ?_, ?_⟩⟩
  · simp; omega
  · rw [insAt_len hi]; exact hc
  · have e : (C.take i ++ Value.int .i64 v :: (rest.map (Value.int .i64)).drop i) = (insAt rest i v).flatMap encI := by
      rw [intsFlat, hp]
      simp [insAt, List.map_take, List.map_drop]
    rw [e]
    refine List.take_left' ?_
    rw [intsFlat]; simp
theorem eIns : Entr Tryz.prog 99 := Entr.of Tryz.func99 rfl rfl
theorem insert_any {rest : List Int} {ar : Option Addr} {cr : Nat} {hr : Heap} (o : OwT encI 1 3 ar cr rest hr) (hl : rest.length ≤ 128) (hcap : cr ≤ 9223372036854775807) {i : Nat} (hi : i ≤ rest.length) (v : Int) (bl : Nat) {w0 w : World} {R : Heap} {L : List Heap} (hw : H w0 R (hr :: [(bl, .cells ⟨[.int .i64 v]⟩ 3 (0, 0))] :: L) w) :
    Calls Tryz.prog 99 #[.slice ar rest.length cr, .int .i64 (i : Int), .slice (some ⟨bl, 0, none⟩) 1 1] w fun e w' => ∃ x L', e = .returned x ∧ H w0 R L' w' ∧ ∃ a c h, x = .slice a (insAt rest i v).length c ∧ OwT encI 1 3 a c (insAt rest i v) h ∧ L' = h :: L := by
  have hbl : w.heap[bl]? = some (.cells ⟨[.int .i64 v]⟩ 3 (0, 0)) := hw.rd Rd.hd.tl
  have hvs : ∀ j u, [Value.int .i64 v][j]? = some u → w.cell? ⟨bl, 0 + j, none⟩ = some u := fun j u hj => by
    simp only [World.cell?, hbl, Nat.zero_add]
    simpa using hj
  have h1v : ∀ u ∈ [Value.int .i64 v], u.oneCell' = true := fun u hu => by rw [List.mem_singleton.1 hu]; rfl
  have hD : ((rest.map (Value.int .i64)).drop i).length = rest.length - i := by simp
  have hadd : ∀ g j, (⟨g, 0, none⟩ : Addr).add j = ⟨g, j, none⟩ := fun g j => by unfold Addr.add; split <;> simp_all
  rw [insAt_len hi]
  have hz : ∀ k, (Builtin.zeroCells (Value.int .i64 0).cells k).size = k := fun k => by rw [size_zeroCells]; simp [Value.cells]
  have hml : (rest.map (Value.int .i64)).length = rest.length := List.length_map ..
  -- a new row, at the end
  have gE : i = rest.length → ∀ c, rest.length + 1 ≤ c → ∃ h, OwT encI 1 3 (some ⟨w.heap.size, 0, none⟩) c (insAt rest i v) h ∧ H w0 R (h :: L) (w.drew.alloc (.cells ((rest.map (Value.int .i64) ++ [Value.int .i64 v]).toArray ++ Builtin.zeroCells (Value.int .i64 0).cells (c - (rest.length + 1))) 3)) := by
    intro hie c hc
    refine ⟨_, ⟨fun _ => rfl, .inr ⟨w.heap.size, (rest.map (Value.int .i64) ++ [Value.int .i64 v]) ++ (Builtin.zeroCells (Value.int .i64 0).cells (c - (rest.length + 1))).toList, rfl, rfl, ?_, ?_, ?_⟩⟩, ?_⟩
    · simp [hz]; omega
    · rw [insAt_len hi]; exact hc
    · rw [intsFlat, insAt_len hi]
      refine (List.take_left' (by simp)).trans ?_
      simp [insAt, hie]
    · have := (hw.drop.drop.drew (w.drawn + 1)).alloc (.cells ((rest.map (Value.int .i64) ++ [Value.int .i64 v]).toArray ++ Builtin.zeroCells (Value.int .i64 0).cells (c - (rest.length + 1))) 3)
      have e : (⟨(rest.map (Value.int .i64) ++ [Value.int .i64 v]) ++ (Builtin.zeroCells (Value.int .i64 0).cells (c - (rest.length + 1))).toList⟩ : Array Value) = (rest.map (Value.int .i64) ++ [Value.int .i64 v]).toArray ++ Builtin.zeroCells (Value.int .i64 0).cells (c - (rest.length + 1)) := by
        apply Array.ext'
        simp
      rw [e]
      exact this
  have h1m : ∀ u ∈ rest.map (Value.int .i64), u.oneCell' = true := fun u hu => by
    obtain ⟨x, _, rfl⟩ := List.mem_map.1 hu
    rfl
  rcases o.row with ⟨rfl, rfl, rfl, rfl⟩ | ⟨g, C, rfl, rfl, h1, h2, h3⟩
  · obtain rfl : i = 0 := by simpa using hi
    refine (Any2.slices_Insert_int_end_grow Tryz.laysIns none 0 0 bl 0 1 1 [] [.int .i64 v] w (by omega) (by omega) (by omega) (by omega) rfl rfl (fun _ => rfl) (fun a h => by cases h) hvs h1v).mono ?_
    rintro e w' ⟨rfl, rfl⟩
    obtain ⟨h, oh, hH⟩ := gE rfl (grownCap w (0 + 1) 0 3) (grownCap_ge w 1 0 _)
    exact ⟨_, _, rfl, hH, _, _, h, rfl, oh, rfl⟩
  have hb : w.heap[g]? = some (.cells ⟨C⟩ 3 (0, 0)) := hw.rd Rd.hd
  rw [intsFlat, Nat.mul_one] at h3
  rw [Nat.mul_one] at h1
  have hcell : ∀ j u, (rest.map (Value.int .i64))[j]? = some u → w.cell? ⟨g, 0 + j, none⟩ = some u := fun j u hj => by
    simp only [World.cell?, hb, Nat.zero_add]
    rw [← h3, List.getElem?_take] at hj
    split at hj
    · simpa using hj
    · cases hj
  have hsome : ∀ j, j < cr → (w.cell? ⟨g, 0 + j, none⟩).isSome = true := fun j hj => by
    simp only [World.cell?, hb, Nat.zero_add]
    simp; omega
  have hfz : ∀ j, w.frozen? ⟨g, j, none⟩ = false := fun j => by simp [World.frozen?, hb]
  have hfb : ∀ j, w.frozen? ⟨bl, j, none⟩ = false := fun j => by simp [World.frozen?, hbl]
  have hne : bl ≠ g := fun e => by
    have := hw.nodup
    subst e
    simp at this
  have hpre : C.take i = (rest.map (Value.int .i64)).take i := by rw [← h3, List.take_take, Nat.min_eq_left hi]
  rcases Nat.lt_or_ge cr (rest.length + 1) with hroom | hroom
  · -- a new row
    have hcr : cr = rest.length := by omega
    subst hcr
    rcases Nat.lt_or_ge i rest.length with hlt | hge
    · refine (Any2.slices_Insert_int_grow Tryz.laysIns g 0 rest.length rest.length i bl 0 1 1 (rest.map (Value.int .i64)) [.int .i64 v] w hlt (by omega) (by omega) (by omega) (by omega) hml rfl hcell hvs h1m h1v).mono ?_
      rintro e w' ⟨rfl, rfl⟩
      have hgc := grownCap_ge w (rest.length + 1) rest.length 3
      simp only [show Tryz.laysIns_ren.t 3 = 3 from rfl]
      obtain ⟨c, hc⟩ : ∃ c, grownCap w (rest.length + 1) rest.length 3 = c := ⟨_, rfl⟩
      rw [hc] at hgc ⊢
      have hA := hw.drop.drop.alloc (.cells (((rest.map (Value.int .i64)).take i).toArray ++ Builtin.zeroCells (Value.int .i64 0).cells (rest.length + 1 - i) ++ Builtin.zeroCells (Value.int .i64 0).cells (c - (rest.length + 1))) 3)
      obtain ⟨D, hD1⟩ : ∃ D : List Value, (((rest.map (Value.int .i64)).take i).toArray ++ Builtin.zeroCells (Value.int .i64 0).cells (rest.length + 1 - i) ++ Builtin.zeroCells (Value.int .i64 0).cells (c - (rest.length + 1))) = ⟨D⟩ := ⟨_, rfl⟩
      have hDl : D.length = c := by
        have := congrArg Array.size hD1
        simp [hz] at this
        omega
      have hDp : D.take i = (rest.map (Value.int .i64)).take i := by
        have := congrArg Array.toList hD1
        simp only [Array.toList_append, List.append_assoc] at this
        rw [← this]
        exact List.take_left' (by simp; omega)
      rw [hD1] at hA ⊢
      have hB := setCells_H [.int .i64 v] i D _ (hA.drew (w.drawn + 1))
      have hC := setCells_H ((rest.map (Value.int .i64)).drop i) (i + 1) _ _ (hB.drew ((World.setCells { (w.alloc (.cells ⟨D⟩ 3)) with drawn := w.drawn + 1 } w.heap.size i [Value.int .i64 v]).drawn + 1))
      rw [ins_put1 (by rw [hD, hDl]; omega)] at hC
      exact ⟨_, _, rfl, hC, _, _, _, rfl, ins_own hi hgc hDl hDp, rfl⟩
    · obtain rfl : i = rest.length := by omega
      refine (Any2.slices_Insert_int_end_grow Tryz.laysIns (some ⟨g, 0, none⟩) rest.length rest.length bl 0 1 1 (rest.map (Value.int .i64)) [.int .i64 v] w (by omega) (by omega) (by omega) (by omega) hml rfl (fun h => by cases h) (fun a h j u hj => by cases h; rw [hadd]; simpa using hcell j u hj) hvs h1v).mono ?_
      rintro e w' ⟨rfl, rfl⟩
      obtain ⟨h, oh, hH⟩ := gE rfl (grownCap w (rest.length + 1) rest.length 3) (grownCap_ge w _ _ _)
      exact ⟨_, _, rfl, hH, _, _, h, rfl, oh, rfl⟩
  · -- in place
    rcases Nat.lt_or_ge i rest.length with hlt | hge
    · refine (Any2.slices_Insert_int_shift Tryz.laysIns g 0 rest.length cr i bl 0 1 1 (rest.map (Value.int .i64)) [.int .i64 v] w hlt (by omega) hroom hcap hne hml rfl hcell (fun j hj => hsome j (by omega)) (fun j _ => hfz _) hvs h1m h1v 3 3 1 cr (by simp [World.shape?, hbl]) (by simp [World.shape?, hb, h1]) (by omega) (hfb _) (hfb _)).mono ?_
      rintro e w' ⟨rfl, rfl⟩
      simp only [Nat.zero_add]
      have hB := setCells_H ((rest.map (Value.int .i64)).drop i) (i + 1) C _ (hw.drew (w.drawn + 1))
      have hC := setCells_H [.int .i64 v] i _ _ hB
      rw [ins_put2 (by rw [hD]; omega)] at hC
      exact ⟨_, _, rfl, (hC.perm (List.Perm.swap _ _ _)).drop, _, _, _, rfl, ins_own hi hroom h1 hpre, rfl⟩
    · obtain rfl : i = rest.length := by omega
      refine (Any2.slices_Insert_int_end_room Tryz.laysIns g 0 rest.length cr bl 0 1 1 [.int .i64 v] w (by omega) hroom hcap rfl (fun j hj => by rw [Nat.add_assoc]; exact hsome _ (by omega)) (fun j _ => hfz _) hvs h1v).mono ?_
      rintro e w' ⟨rfl, rfl⟩
      simp only [Nat.zero_add]
      have hC := setCells_H [.int .i64 v] rest.length C _ hw
      have e1 : putL C rest.length [Value.int .i64 v] = C.take rest.length ++ Value.int .i64 v :: (rest.map (Value.int .i64)).drop rest.length ++ C.drop (rest.length + 1 + ((rest.map (Value.int .i64)).drop rest.length).length) := by
        rw [← ins_put1 (by rw [hD]; omega)]
        rw [List.drop_eq_nil_of_le (by rw [hml]; exact Nat.le_refl _), putL_nil]
      rw [e1] at hC
      exact ⟨_, _, rfl, (hC.perm (List.Perm.swap _ _ _)).drop, _, _, _, rfl, ins_own hi hroom h1 hpre, rfl⟩
end Go.Proofs.YtbhgahjeocnfcaaGreat
namespace Go.Proofs.YtbhgahjeocnfcaaGreat
open Go Go.Cx Go.RowKit
set_option linter.unusedVariables false
set_option linter.unusedSimpArgs false
set_option maxHeartbeats 4000000
attribute [local irreducible] J JC thenK blockK loopK roundK drawK retK QW Qt pel List.set Calls
open Go.Maps Go.Lib
set_option maxRecDepth 8000
attribute [local irreducible] JE Br eK0 eK3 brK pc JR thenR JA
theorem eOrd2 : Entr Tryz.prog 98 := Entr.of Tryz.func98 rfl rfl
theorem ord2_any {l rest : List Int} {v : Int} (hl8 : l.length ≤ 128) (hrl : rest.length + 1 = l.length) {b2 b5 b3 : Nat} {a ar : Option Addr} {c cr : Nat} {hl hr X : Heap} (hX : X = [(b2, .cells ⟨[.slice a l.length c]⟩ 28 (0, 0))] ++ ([(b5, .cells ⟨[.slice ar rest.length cr]⟩ 28 (0, 0))] ++ ([(b3, .cells ⟨[.int .i64 v]⟩ 3 (0, 0))] ++ (hl ++ hr)))) (sl : SlT encI 1 a l hl) (sr : SlT encI 1 ar rest hr) (m lp : Nat) {w0 : World} {R : Heap} (I : Nat → List Heap → Prop) (hIX : ∀ i L, I i L → RdH R L X)
    (hround : ∀ i L, i < l.length → I i L → ∀ a c h, OwT encI 1 3 a c (insAt rest i v) h → ∀ w, H w0 R (h :: L) w → ∃ fn tmps assign body, (Instr.yield lp ⟨[.slice a (insAt rest i v).length c]⟩).run Tryz.prog w = .ok (.round lp fn tmps assign body) w ∧ RoundIn (FR none) (m - 1) Tryz.prog lp fn tmps assign body w fun e w' => ∃ v L', e = .returned v ∧ H w0 R L' w' ∧ v = .bool true ∧ I (i + 1) L')
    {L : List Heap} (h0 : I 0 L) {w : World} (hw : H w0 R L w) :
    CallsIn (FR none) m Tryz.prog 98 ⟨[.func (.yield lp) ⟨[]⟩ ⟨[]⟩, .pointer (some ⟨b2, 0, none⟩), .pointer (some ⟨b5, 0, none⟩), .pointer (some ⟨b3, 0, none⟩)]⟩ w fun e w' => ∃ v L', e = .returned v ∧ H w0 R L' w' ∧ I l.length L' := by
  have r2 : ∀ i L, I i L → Rd R L b2 (.cells ⟨[.slice a l.length c]⟩ 28 (0, 0)) := fun i L hi => hIX i L hi _ (by rw [hX]; exact List.mem_cons_self)
  refine calls_inR Tryz.func98 Tryz.ntmps98 rfl rfl hw ?_
  have h2 := r2 0 L h0
  repeat' first
    | (refine J.isJ ?_; first | ((refine J.o 4 ?_; refine J.lR hΓ ?_ (hr := h2))) | (first | (refine J.o 0 ?_; refine J.ev' hΓ ?_) | refine J.nil ?_ | (refine J.o 4 ?_; first | refine J.lR hΓ ?_) | (refine J.o 3 ?_; first | refine J.ev' hΓ ?_) | (refine J.o 1 ?_; first | refine J.ad ?_) | (refine J.o 9 ?_; refine J.bl hΓ (fun _ => ?_)) | (refine J.o 10 ?_; refine J.ev' hΓ ?_) | (refine J.o 11 ?_; refine J.ev' hΓ ?_)))
    | (first | refine JR.seq ?_ | refine JR.region (by kernel_rfl) ?_ | refine JR.block ?_ | refine JR.ret ?_ | refine JR.exit ?_ | refine JR.skip ?_ | refine thenR.nn ?_ | refine thenR.r ?_ | refine thenR.x ?_ | refine blockK.nn ?_ | refine blockK.hit rfl ?_ | refine JR.condT rfl ?_ | refine JR.condF rfl ?_ | (refine JR.cond rfl (fun hc => ?_) (fun hc => ?_) <;> ((try simp only [decide_eq_true_eq, decide_eq_false_iff_not, beq_iff_eq, beq_eq_false_iff_ne, bne_iff_ne, bne_eq_false_iff_eq, Bool.not_eq_true', Bool.not_eq_false', Bool.not_eq_true, Bool.not_eq_false] at hc) <;> first | (first | (exact absurd rfl hc) | (exfalso; omega) | (exact absurd (hc.symm.trans (by assumption : _ = false)) (by decide)) | (exact absurd (hc.symm.trans (by assumption : _ = true)) (by decide))) | skip)) | refine loopK.x ?_)
    | (fail)
    | fail
  all_goals first | (exfalso; omega) | skip
  refine JR.loop (fun i => i == 5 || Nat.ble 8 i) (fun k g L' => ∃ i : Nat, g 8 = .int .i64 (i : Int) ∧ i + k = l.length ∧ I i L') l.length ⟨0, rfl, by omega, h0⟩ ?_
  rintro k g L' ⟨i, e8, hik, hi⟩
  refine JR.pin 8 e8 ?_
  have h2 := r2 i L' hi
  rcases Nat.lt_or_ge i l.length with hil | hil
  case inr =>
    obtain rfl : i = l.length := by omega
    repeat' first
      | (refine J.isJ ?_; first | (fail) | (first | (refine J.o 0 ?_; refine J.ev' hΓ ?_) | refine J.nil ?_ | (refine J.o 4 ?_; first | refine J.lR hΓ ?_) | (refine J.o 3 ?_; first | refine J.ev' hΓ ?_) | (refine J.o 1 ?_; first | refine J.ad ?_) | (refine J.o 9 ?_; refine J.bl hΓ (fun _ => ?_)) | (refine J.o 10 ?_; refine J.ev' hΓ ?_) | (refine J.o 11 ?_; refine J.ev' hΓ ?_)))
      | (first | refine JR.seq ?_ | refine JR.region (by kernel_rfl) ?_ | refine JR.block ?_ | refine JR.ret ?_ | refine JR.exit ?_ | refine JR.skip ?_ | refine thenR.nn ?_ | refine thenR.r ?_ | refine thenR.x ?_ | refine blockK.nn ?_ | refine blockK.hit rfl ?_ | refine JR.condT rfl ?_ | refine JR.condF rfl ?_ | (refine JR.cond rfl (fun hc => ?_) (fun hc => ?_) <;> ((try simp only [decide_eq_true_eq, decide_eq_false_iff_not, beq_iff_eq, beq_eq_false_iff_ne, bne_iff_ne, bne_eq_false_iff_eq, Bool.not_eq_true', Bool.not_eq_false', Bool.not_eq_true, Bool.not_eq_false] at hc) <;> first | (first | (exact absurd rfl hc) | (exfalso; omega) | (exact absurd (hc.symm.trans (by assumption : _ = false)) (by decide)) | (exact absurd (hc.symm.trans (by assumption : _ = true)) (by decide))) | skip)) | refine loopK.x ?_)
      | (fail)
      | fail
    all_goals first | (exfalso; omega) | skip
    exact ret0n rfl (fun w hw => ⟨_, _, rfl, hw, hi⟩)
  repeat' first
    | (refine J.isJ ?_; first | (fail) | (first | (refine J.o 0 ?_; refine J.ev' hΓ ?_) | refine J.nil ?_ | (refine J.o 4 ?_; first | refine J.lR hΓ ?_) | (refine J.o 3 ?_; first | refine J.ev' hΓ ?_) | (refine J.o 1 ?_; first | refine J.ad ?_) | (refine J.o 9 ?_; refine J.bl hΓ (fun _ => ?_)) | (refine J.o 10 ?_; refine J.ev' hΓ ?_) | (refine J.o 11 ?_; refine J.ev' hΓ ?_)))
    | (first | refine JR.seq ?_ | refine JR.region (by kernel_rfl) ?_ | refine JR.block ?_ | refine JR.ret ?_ | refine JR.exit ?_ | refine JR.skip ?_ | refine thenR.nn ?_ | refine thenR.r ?_ | refine thenR.x ?_ | refine blockK.nn ?_ | refine blockK.hit rfl ?_ | refine JR.condT rfl ?_ | refine JR.condF rfl ?_ | (refine JR.cond rfl (fun hc => ?_) (fun hc => ?_) <;> ((try simp only [decide_eq_true_eq, decide_eq_false_iff_not, beq_iff_eq, beq_eq_false_iff_ne, bne_iff_ne, bne_eq_false_iff_eq, Bool.not_eq_true', Bool.not_eq_false', Bool.not_eq_true, Bool.not_eq_false] at hc) <;> first | (first | (exact absurd rfl hc) | (exfalso; omega) | (exact absurd (hc.symm.trans (by assumption : _ = false)) (by decide)) | (exact absurd (hc.symm.trans (by assumption : _ = true)) (by decide))) | skip)) | refine loopK.x ?_)
    | (fail)
    | fail
  all_goals first | (exfalso; omega) | skip
  refine JR.draw (by decide +kernel) ?_
  refine JA.quiet (i := 0) rfl (by decide +kernel) (by decide +kernel) (by decide +kernel) (fun _ _ => rfl) (noP.qw (by repeat (first | exact noP.retK | refine noP.thenR ?_ | refine noP.blockK ?_ | refine noP.loopK ?_))) ?_
  refine J.isJ ?_
  refine J.o 0 ?_
  refine J.ev' hΓ ?_
  refine J.nil ?_
  refine nextK.nn ?_
  refine JA.quiet (i := 3) rfl (by decide +kernel) (by decide +kernel) (by decide +kernel) (fun _ _ => rfl) (noP.qw (by repeat (first | exact noP.retK | refine noP.thenR ?_ | refine noP.blockK ?_ | refine noP.loopK ?_))) ?_
  refine J.isJ ?_
  refine J.o 0 ?_
  refine J.ev' hΓ ?_
  refine J.nil ?_
  refine nextK.nn ?_
  refine JA.meet (fuel' := 3) (listed' := #[true, true, true, true, true, true, false, false, false]) (fun f0 g2 Lx => ∃ (bl : Nat) (ac : Option Addr) (cc : Nat) (hC : Heap), OwT encI 1 3 ac cc rest hC ∧ cc ≤ 9223372036854775807 ∧ g2 13 = .slice ac rest.length cc ∧ g2 16 = .slice (some ⟨bl, 0, none⟩) 1 1 ∧ Ag (fun i => i == 12 || i == 13 || i == 15 || i == 16) f0 g2 ∧ Lx.Perm (hC :: [(bl, .cells ⟨[.int .i64 v]⟩ 3 (0, 0))] :: L')) ?_ (fun fin => ?_)
  case refine_2 =>
    have mX : ∀ x, x ∈ X → ∀ L, I i L → Rd R L x.1 x.2 := fun x hx L hi => hIX i L hi x hx
    have r5 : Rd R L' b5 (.cells ⟨[.slice ar rest.length cr]⟩ 28 (0, 0)) := hIX i L' hi (b5, _) (by rw [hX]; simp)
    have r3 : Rd R L' b3 (.cells ⟨[.int .i64 v]⟩ 3 (0, 0)) := hIX i L' hi (b3, _) (by rw [hX]; simp)
    have rr : RdH R L' hr := fun x hx => hIX i L' hi x (by rw [hX]; simp [hx])
    refine JA.two (i := 1) (j := 4) (by decide +kernel) ?_ ?_
    ·
      refine JO.of rfl (fun c h => by cases h) ?_
      (refine J.isJ ?_; refine J.o 4 ?_; first | refine J.lR hΓ ?_ (hr := r5) | refine J.lR hΓ ?_ (hr := r5.tl))
      (refine J.nil ?_; refine nextK.nn ?_)
      refine JA.two (i := 2) (j := 4) (by decide +kernel) ?_ ?_
      ·
        refine JO.of rfl (fun c h => by cases h) ?_
        (refine J.isJ ?_; refine J.fc 53 ?_; refine J.call1 eClone rfl rfl (fun w hw => cloneC_any ar cr rest hr sr (by omega) w (hw.rdH (by first | exact rr | exact rr.tl))) ?_; rintro _ hg ⟨a1, c1, rfl, o1, l1⟩)
        (refine J.nil ?_; refine nextK.nn ?_)
        refine JA.one (i := 4) (by decide +kernel) ?_
        refine JO.of rfl (fun c h => by cases h) ?_
        (refine J.isJ ?_; refine J.o 4 ?_; first | refine J.lR hΓ ?_ (hr := r3) | refine J.lR hΓ ?_ (hr := r3.tl))
        (refine J.nil ?_; refine nextK.nn ?_)
        refine JA.one (i := 5) (by decide +kernel) ?_
        refine JO.of rfl (fun c h => by cases h) ?_
        (refine J.isJ ?_; refine J.o 9 ?_; refine J.bl (e := 3) hΓ (fun bl => ?_))
        (refine J.nil ?_; refine nextK.nn ?_)
        refine JA.at (listed' := #[true, true, true, true, true, true, false, false, false]) ?_ (fin _ _ ⟨_, _, _, _, o1, l1, rfl, rfl, by (repeat (first | refine Ag.upd rfl ?_ | exact Ag.rfl')), by first | exact .refl _ | exact br1⟩)
        decide +kernel
      ·
        refine JO.of rfl (fun c h => by cases h) ?_
        (refine J.isJ ?_; refine J.o 4 ?_; first | refine J.lR hΓ ?_ (hr := r3) | refine J.lR hΓ ?_ (hr := r3.tl))
        (refine J.nil ?_; refine nextK.nn ?_)
        refine JA.two (i := 2) (j := 5) (by decide +kernel) ?_ ?_
        ·
          refine JO.of rfl (fun c h => by cases h) ?_
          (refine J.isJ ?_; refine J.fc 53 ?_; refine J.call1 eClone rfl rfl (fun w hw => cloneC_any ar cr rest hr sr (by omega) w (hw.rdH (by first | exact rr | exact rr.tl))) ?_; rintro _ hg ⟨a1, c1, rfl, o1, l1⟩)
          (refine J.nil ?_; refine nextK.nn ?_)
          refine JA.one (i := 5) (by decide +kernel) ?_
          refine JO.of rfl (fun c h => by cases h) ?_
          (refine J.isJ ?_; refine J.o 9 ?_; refine J.bl (e := 3) hΓ (fun bl => ?_))
          (refine J.nil ?_; refine nextK.nn ?_)
          refine JA.at (listed' := #[true, true, true, true, true, true, false, false, false]) ?_ (fin _ _ ⟨_, _, _, _, o1, l1, rfl, rfl, by (repeat (first | refine Ag.upd rfl ?_ | exact Ag.rfl')), by first | exact .refl _ | exact br1⟩)
          decide +kernel
        ·
          refine JO.of rfl (fun c h => by cases h) ?_
          (refine J.isJ ?_; refine J.o 9 ?_; refine J.bl (e := 3) hΓ (fun bl => ?_))
          (refine J.nil ?_; refine nextK.nn ?_)
          refine JA.one (i := 2) (by decide +kernel) ?_
          refine JO.of rfl (fun c h => by cases h) ?_
          (refine J.isJ ?_; refine J.fc 53 ?_; refine J.call1 eClone rfl rfl (fun w hw => cloneC_any ar cr rest hr sr (by omega) w (hw.rdH (by first | exact rr | exact rr.tl))) ?_; rintro _ hg ⟨a1, c1, rfl, o1, l1⟩)
          (refine J.nil ?_; refine nextK.nn ?_)
          refine JA.at (listed' := #[true, true, true, true, true, true, false, false, false]) ?_ (fin _ _ ⟨_, _, _, _, o1, l1, rfl, rfl, by (repeat (first | refine Ag.upd rfl ?_ | exact Ag.rfl')), by first | exact .refl _ | exact br1⟩)
          decide +kernel
    ·
      refine JO.of rfl (fun c h => by cases h) ?_
      (refine J.isJ ?_; refine J.o 4 ?_; first | refine J.lR hΓ ?_ (hr := r3) | refine J.lR hΓ ?_ (hr := r3.tl))
      (refine J.nil ?_; refine nextK.nn ?_)
      refine JA.two (i := 1) (j := 5) (by decide +kernel) ?_ ?_
      ·
        refine JO.of rfl (fun c h => by cases h) ?_
        (refine J.isJ ?_; refine J.o 4 ?_; first | refine J.lR hΓ ?_ (hr := r5) | refine J.lR hΓ ?_ (hr := r5.tl))
        (refine J.nil ?_; refine nextK.nn ?_)
        refine JA.two (i := 2) (j := 5) (by decide +kernel) ?_ ?_
        ·
          refine JO.of rfl (fun c h => by cases h) ?_
          (refine J.isJ ?_; refine J.fc 53 ?_; refine J.call1 eClone rfl rfl (fun w hw => cloneC_any ar cr rest hr sr (by omega) w (hw.rdH (by first | exact rr | exact rr.tl))) ?_; rintro _ hg ⟨a1, c1, rfl, o1, l1⟩)
          (refine J.nil ?_; refine nextK.nn ?_)
          refine JA.one (i := 5) (by decide +kernel) ?_
          refine JO.of rfl (fun c h => by cases h) ?_
          (refine J.isJ ?_; refine J.o 9 ?_; refine J.bl (e := 3) hΓ (fun bl => ?_))
          (refine J.nil ?_; refine nextK.nn ?_)
          refine JA.at (listed' := #[true, true, true, true, true, true, false, false, false]) ?_ (fin _ _ ⟨_, _, _, _, o1, l1, rfl, rfl, by (repeat (first | refine Ag.upd rfl ?_ | exact Ag.rfl')), by first | exact .refl _ | exact br1⟩)
          decide +kernel
        ·
          refine JO.of rfl (fun c h => by cases h) ?_
          (refine J.isJ ?_; refine J.o 9 ?_; refine J.bl (e := 3) hΓ (fun bl => ?_))
          (refine J.nil ?_; refine nextK.nn ?_)
          refine JA.one (i := 2) (by decide +kernel) ?_
          refine JO.of rfl (fun c h => by cases h) ?_
          (refine J.isJ ?_; refine J.fc 53 ?_; refine J.call1 eClone rfl rfl (fun w hw => cloneC_any ar cr rest hr sr (by omega) w (hw.rdH (by first | exact rr | exact rr.tl))) ?_; rintro _ hg ⟨a1, c1, rfl, o1, l1⟩)
          (refine J.nil ?_; refine nextK.nn ?_)
          refine JA.at (listed' := #[true, true, true, true, true, true, false, false, false]) ?_ (fin _ _ ⟨_, _, _, _, o1, l1, rfl, rfl, by (repeat (first | refine Ag.upd rfl ?_ | exact Ag.rfl')), by first | exact .refl _ | exact br1⟩)
          decide +kernel
      ·
        refine JO.of rfl (fun c h => by cases h) ?_
        (refine J.isJ ?_; refine J.o 9 ?_; refine J.bl (e := 3) hΓ (fun bl => ?_))
        (refine J.nil ?_; refine nextK.nn ?_)
        refine JA.one (i := 1) (by decide +kernel) ?_
        refine JO.of rfl (fun c h => by cases h) ?_
        (refine J.isJ ?_; refine J.o 4 ?_; first | refine J.lR hΓ ?_ (hr := r5) | refine J.lR hΓ ?_ (hr := r5.tl))
        (refine J.nil ?_; refine nextK.nn ?_)
        refine JA.one (i := 2) (by decide +kernel) ?_
        refine JO.of rfl (fun c h => by cases h) ?_
        (refine J.isJ ?_; refine J.fc 53 ?_; refine J.call1 eClone rfl rfl (fun w hw => cloneC_any ar cr rest hr sr (by omega) w (hw.rdH (by first | exact rr | exact rr.tl))) ?_; rintro _ hg ⟨a1, c1, rfl, o1, l1⟩)
        (refine J.nil ?_; refine nextK.nn ?_)
        refine JA.at (listed' := #[true, true, true, true, true, true, false, false, false]) ?_ (fin _ _ ⟨_, _, _, _, o1, l1, rfl, rfl, by (repeat (first | refine Ag.upd rfl ?_ | exact Ag.rfl')), by first | exact .refl _ | exact br1⟩)
        decide +kernel
  rintro g2 Lx ⟨bl, ac, cc, hC, oC, lC, e13, e16, ag, hpm⟩
  refine JA.perm hpm ?_
  rw [← ag.eq] at e13 e16 ⊢
  refine JA.pin 13 e13 (JA.pin 16 e16 ?_)
  refine JA.one (i := 6) (by decide +kernel) ?_
  refine JO.of rfl (fun c h => by cases h) ?_
  (refine J.isJ ?_; refine J.fc 99 ?_; refine J.callx eIns rfl rfl (fun w hw => insert_any oC (by omega) lC (show i ≤ rest.length by omega) v bl hw) ?_; rintro _ _ ⟨a6, c6, h6, rfl, o6, rfl⟩)
  (refine J.nil ?_; refine nextK.nn ?_)
  refine JA.one (i := 7) (by decide +kernel) ?_
  refine JO.yield rfl rfl rfl rfl (fun w hw => hround i L' hil hi a6 c6 h6 o6 w hw) ?_
  rintro _ L7 ⟨rfl, hi7⟩
  refine JA.one (i := 8) (by decide +kernel) ?_
  refine JO.of rfl (fun c h => by cases h) ?_
  (refine J.isJ ?_; first | (refine J.o 0 ?_; refine J.ev' hΓ ?_) | (refine J.o 1 ?_; refine J.ng ?_))
  (refine J.nil ?_; refine nextK.nn ?_)
  refine JA.fin (by decide +kernel) ?_
  repeat' first
    | (refine J.isJ ?_; first | (fail) | (first | (refine J.o 0 ?_; refine J.ev' hΓ ?_) | refine J.nil ?_ | (refine J.o 4 ?_; first | refine J.lR hΓ ?_) | (refine J.o 3 ?_; first | refine J.ev' hΓ ?_) | (refine J.o 1 ?_; first | refine J.ad ?_) | (refine J.o 9 ?_; refine J.bl hΓ (fun _ => ?_)) | (refine J.o 10 ?_; refine J.ev' hΓ ?_) | (refine J.o 11 ?_; refine J.ev' hΓ ?_)))
    | (first | refine JR.seq ?_ | refine JR.region (by kernel_rfl) ?_ | refine JR.block ?_ | refine JR.ret ?_ | refine JR.exit ?_ | refine JR.skip ?_ | refine thenR.nn ?_ | refine thenR.r ?_ | refine thenR.x ?_ | refine blockK.nn ?_ | refine blockK.hit rfl ?_ | refine JR.condT rfl ?_ | refine JR.condF rfl ?_ | (refine JR.cond rfl (fun hc => ?_) (fun hc => ?_) <;> ((try simp only [decide_eq_true_eq, decide_eq_false_iff_not, beq_iff_eq, beq_eq_false_iff_ne, bne_iff_ne, bne_eq_false_iff_eq, Bool.not_eq_true', Bool.not_eq_false', Bool.not_eq_true, Bool.not_eq_false] at hc) <;> first | (first | (exact absurd rfl hc) | (exfalso; omega) | (exact absurd (hc.symm.trans (by assumption : _ = false)) (by decide)) | (exact absurd (hc.symm.trans (by assumption : _ = true)) (by decide))) | skip)) | refine loopK.x ?_)
    | (fail)
    | fail
  all_goals first | (exfalso; omega) | skip
  refine loopK.nn (k - 1) (by omega) (by repeat (first | refine Ag.upd rfl ?_ | exact Ag.hv | refine Ag.hv2 (fun i hi => by simp at hi ⊢; omega) ?_)) ⟨i + 1, ?_, by omega, hi7⟩
  show Value.int .i64 _ = _; congr 1
end Go.Proofs.YtbhgahjeocnfcaaGreat
namespace Go.Proofs.YtbhgahjeocnfcaaGreat
open Go Go.Cx Go.RowKit
set_option linter.unusedVariables false
set_option linter.unusedSimpArgs false
set_option maxHeartbeats 4000000
attribute [local irreducible] J JC thenK blockK loopK roundK drawK retK QW Qt pel List.set Calls
open Go.Maps Go.Lib
set_option maxRecDepth 8000
attribute [local irreducible] JE Br eK0 eK3 brK pc
theorem J.asg {P : Program} {n : Nat} {w0 : World} {R : Heap} {l0 : List Oper} {K : Exit → Fr → List Heap → Prop} {f : Fr} {L : List Heap} {rest : List (Nat × Oper)} {κ d : Nat} {x : Operand} {v : Value} {ty : TypeId} {pos : String} {aft : Array Edge} {g : Option (Nat × Bool)} (k : J P n w0 R l0 K rest (upd f d v) L) (hg : wantB n f l0 ⟨some d, .assign x, ty, pos, aft, g⟩ = true := by exact rfl) (hx : Cx.ev n f x = v := by exact rfl) : J P n w0 R l0 K ((κ, ⟨some d, .assign x, ty, pos, aft, g⟩) :: rest) f L := J.p hg (fun w => by simp only [execOp, hx]; rfl) k
theorem eDelF : Entr Tryz.prog 96 := Entr.of Tryz.func96 rfl rfl
theorem eOrd1 : Entr Tryz.prog 97 := Entr.of Tryz.func97 rfl rfl
theorem eOrders : Entr Tryz.prog 68 := Entr.of Tryz.func68 rfl rfl
def wo (l : List Int) (v : Int) : List Int := l.filter fun x => !decide (x = v)
theorem wo_len {v : Int} : ∀ {l : List Int}, v ∈ l → l.Nodup → (wo l v).length + 1 = l.length
  | x :: l, hv, hn => by
    rw [List.nodup_cons] at hn
    by_cases hx : x = v
    · subst hx
      have : wo l x = l := List.filter_eq_self.2 fun y hy => by
        have : y ≠ x := fun e => hn.1 (e ▸ hy)
        simp [this]
      unfold wo at this ⊢
      rw [List.filter_cons_of_neg (by simp), this]
      rfl
    · have h1 : v ∈ l := by
        rcases List.mem_cons.1 hv with h | h
        · exact absurd h.symm hx
        · exact h
      have := wo_len h1 hn.2
      unfold wo at this ⊢
      rw [List.filter_cons_of_pos (by simp [hx])]
      simp only [List.length_cons]
      omega
theorem del1_gives {b : Nat} {v : Int} (x : Int) (W : World) (hb : W.heap[b]? = some (.cells ⟨[.int .i64 v]⟩ 3 (0, 0))) : FnGives Tryz.prog 97 #[.pointer (some ⟨b, 0, none⟩)] #[.int .i64 x] (.bool (decide (x = v))) W := by
  show Go.Calls Tryz.prog 97 #[.int .i64 x, .pointer (some ⟨b, 0, none⟩)] W _
  have hc : W.cell? ⟨b, 0, none⟩ = some (.int .i64 v) := by simp [World.cell?, hb]
  go_enter Tryz.func97, Tryz.ntmps97
  go_wp2
  all_goals (go_ret; exact ⟨by simp_all <;> rfl, 0, rfl⟩)
theorem sortW_heap {α : Type} [Inhabited α] (enc : α → Value) (w : World) (blk off n : Nat) (dk : Array α) (os : Array Obj) {b : Nat} (hb : b < w.heap.size) (hne : b ≠ blk) : (sortWorld enc w blk off n dk os).heap[b]? = w.heap[b]? := by
  show ((w.heap.modify blk _) ++ os)[b]? = _
  rw [Array.getElem?_append_left (by simpa using hb), Array.getElem?_modify, if_neg (Ne.symm hne)]
set_option maxHeartbeats 1000000 in
theorem delO_any {b : Nat} {v : Int} {l : List Int} (hl0 : 0 < l.length) (hl : l.length ≤ 1000000) {a : Option Addr} {c : Nat} {h : Heap} (o : OwT encI 1 3 a c l h) {w0 w : World} {R : Heap} {L : List Heap} (rb : Rd R L b (.cells ⟨[.int .i64 v]⟩ 3 (0, 0))) (hw : H w0 R (h :: L) w) :
    Calls Tryz.prog 96 #[.slice a l.length c, .func (.func 97) ⟨[]⟩ ⟨[.pointer (some ⟨b, 0, none⟩)]⟩] w fun e w' => ∃ x L', e = .returned x ∧ H w0 R L' w' ∧ ∃ h', x = .slice a (wo l v).length c ∧ L' = h' :: L ∧ OwT encI 1 3 a c (wo l v) h' := by
  rcases o.row with ⟨_, _, rfl, _⟩ | ⟨g, cs, rfl, rfl, h1, h2, h3⟩
  · simp at hl0
  have hb : w.heap[g]? = some (.cells ⟨cs⟩ 3 (0, 0)) := hw.rd Rd.hd
  have hgl : g < w.heap.size := (Array.getElem?_eq_some_iff.1 hb).1
  have hbb : w.heap[b]? = some (.cells ⟨[.int .i64 v]⟩ 3 (0, 0)) := hw.rd rb.tl
  have hbl : b < w.heap.size := (Array.getElem?_eq_some_iff.1 hbb).1
  have hne : b ≠ g := fun e => by
    subst e
    have hnd := hw.nodup
    rcases rb with hr | hr
    · have := hw.new (b, _) (List.mem_append_left _ List.mem_cons_self)
      have h4 := hw.old.lt hr
      simp at this h4
      omega
    · have hm : b ∈ L.flatten.map (·.1) := List.mem_map.2 ⟨_, hr, rfl⟩
      have : (b :: L.flatten.map (·.1)).Nodup := by simpa using hnd
      exact (List.nodup_cons.1 this).1 hm
  rw [intsFlat, Nat.mul_one] at h3
  have hcell : ∀ j (hj : j < l.length), cs[j]? = some (.int .i64 l[j]) := fun j hj => by
    have : (cs.take l.length)[j]? = (l.map (Value.int .i64))[j]? := by rw [h3]
    rw [List.getElem?_take_of_lt hj, List.getElem?_map, List.getElem?_eq_getElem hj] at this
    exact this
  have hH : Sort.Holds (Value.int .i64) w g 0 l.toArray := fun j hj => by
    have hj' : j < l.length := by simpa using hj
    constructor
    · simp [World.cell?, hb, hcell j hj', hj']
    · simp [World.frozen?, hb]
  have eg : ∀ args w, (callFunc 97 args).run Tryz.prog w = .ok (.enter 97 args) w := fun args w => eOrd1 args w
  have hfl : (wo l v).length ≤ l.length := List.length_filter_le _ _
  have hcon := Tryz.slices_DeleteFunc (Value.int .i64) (fun _ => rfl) (fun x => decide (x = v)) 97 #[.pointer (some ⟨b, 0, none⟩)] eg 0 Tryz.zeroValue3 g 0 c l.toArray w
    (fun W x hB => del1_gives x W ((hB.block b hbl).trans hbb))
    (fun n os dk x hdk => del1_gives x _ ((sortW_heap _ w g 0 n dk os hbl hne).trans hbb)) hH (by simp; omega) (by simpa using h2)
  have hsz : l.toArray.size = l.length := by simp
  rw [hsz] at hcon
  refine Go.Calls.mono hcon ?_
  rintro e w' ⟨rfl, q, rfl⟩
  obtain ⟨d, hd⟩ : ∃ d : List Int, (wo l v) ++ List.replicate (l.length - (wo l v).length) 0 = d := ⟨_, rfl⟩
  have hdl : d.length = l.length := by rw [← hd]; simp; omega
  have hnew : Sort.putCells (Value.int .i64) 0 d.toArray ⟨cs⟩ = ⟨d.map (Value.int .i64) ++ cs.drop l.length⟩ := by
    unfold Sort.putCells
    apply Array.ext
    · simp; omega
    · intro i hi1 hi2
      simp only [Array.getElem_mapIdx, Nat.zero_le, true_and, Nat.zero_add, List.size_toArray, Nat.sub_zero]
      by_cases hi : i < d.length
      · rw [if_pos hi]
        simp [hi]
      · rw [if_neg hi]
        simp only [List.getElem_toArray]
        rw [List.getElem_append_right (by simpa using hi)]
        simp only [List.length_map, List.getElem_drop]
        congr 1
        omega
  refine ⟨_, [(g, .cells ⟨d.map (Value.int .i64) ++ cs.drop l.length⟩ 3 (0, 0))] :: L, rfl, ?_, _, rfl, rfl, ⟨o.len, .inr ⟨g, _, rfl, rfl, ?_, by omega, ?_⟩⟩⟩
  · show H w0 R _ (Sort.putRow (Value.int .i64) (Sort.ahead w q) g 0 ((wo l v) ++ List.replicate (l.length - (wo l v).length) 0).toArray)
    rw [hd]
    refine hw.write (o' := .cells ⟨d.map (Value.int .i64) ++ cs.drop l.length⟩ 3 (0, 0)) rfl rfl rfl ?_ ?_ ?_
    · simp [Sort.putRow, Sort.mapBlock, Sort.ahead]
    · show (w.heap.modify g _)[g]? = _
      rw [Array.getElem?_modify, if_pos rfl, hb]
      show some (Obj.cells (Sort.putCells _ _ _ _) _ _) = _
      rw [hnew]
    · intro k hk
      show (w.heap.modify g _)[k]? = _
      rw [Array.getElem?_modify, if_neg (Ne.symm hk)]
  · simp; omega
  · rw [intsFlat, Nat.mul_one, ← hd, List.map_append, List.append_assoc, List.take_left' (by simp)]
theorem orders_any {l : List Int} {v : Int} (hv : v ∈ l) (hl : l.length ≤ 128) {a : Option Addr} {c : Nat} {hA : Heap} (sl : SlT encI 1 a l hA) {w0 w : World} {R : Heap} {L : List Heap} (rA : RdH R L hA) (hw : H w0 R L w) :
    Calls Tryz.prog 68 #[.slice a l.length c, .int .i64 v] w fun e w' => ∃ x L', e = .returned x ∧ H w0 R L' w' ∧ ∃ b2 b5 b3 ar cr hr, x = .func (.func 98) ⟨[]⟩ ⟨[.pointer (some ⟨b2, 0, none⟩), .pointer (some ⟨b5, 0, none⟩), .pointer (some ⟨b3, 0, none⟩)]⟩ ∧ L' = [(b5, .cells ⟨[.slice ar (wo l v).length cr]⟩ 28 (0, 0))] :: hr :: [(b3, .cells ⟨[.int .i64 v]⟩ 3 (0, 0))] :: [(b2, .cells ⟨[.slice a l.length c]⟩ 28 (0, 0))] :: L ∧ OwT encI 1 3 ar cr (wo l v) hr := by
  have hl0 : 0 < l.length := List.length_pos_of_mem hv
  refine calls_in Tryz.func68 Tryz.ntmps68 rfl rfl (hw) ?_
  repeat' first
    | (refine J.isJ ?_; first | (first | (refine J.o 0 ?_; first | refine J.ev' hΓ ?_ | refine J.asg (v := .nilFunc) ?_) | (refine J.o 6 ?_; refine J.bx (fun b => ?_)) | (refine J.fc 53 ?_; refine J.call1 eClone rfl rfl (fun w hw => cloneC_any a c l hA sl (by omega) w (hw.rdH rA.tl.tl)) ?_; rintro _ hg ⟨a1, c1, rfl, o1, l1⟩) | (refine J.o 14 ?_; refine J.mf hΓ ?_) | (refine J.fc 96 ?_; refine J.callx eDelF rfl rfl (fun w hw => delO_any hl0 (by omega) o1 Rd.hd hw) ?_; rintro _ _ ⟨h2, rfl, rfl, o2⟩)) | (first | (refine J.o 0 ?_; refine J.ev' hΓ ?_) | refine J.nil ?_ | (refine J.o 4 ?_; first | refine J.lR hΓ ?_) | (refine J.o 3 ?_; first | refine J.ev' hΓ ?_) | (refine J.o 5 ?_; first | refine J.t0 hΓ ?_) | (refine J.o 6 ?_; refine J.bx (fun _ => ?_)) | (refine J.o 7 ?_; refine J.al hΓ (fun _ => ?_)) | (refine J.o 10 ?_; refine J.ev' hΓ ?_) | (refine J.o 11 ?_; refine J.ev' hΓ ?_) | (refine J.o 14 ?_; refine J.mf hΓ ?_)))
    | (first | refine JC.seq ?_ | refine JC.region ?_ | refine JC.ret ?_ | refine thenK.nn ?_)
    | (fail)
    | fail
  all_goals first | (exfalso; omega) | skip
  exact ret1f rfl rfl rfl (fun w1 hw => ⟨_, _, rfl, hw, _, _, _, a1, c1, h2, rfl, rfl, o2⟩)
end Go.Proofs.YtbhgahjeocnfcaaGreat
namespace Go.Proofs.YtbhgahjeocnfcaaGreat
open Go Go.Cx Go.RowKit
set_option linter.unusedVariables false
set_option linter.unusedSimpArgs false
set_option maxHeartbeats 4000000
attribute [local irreducible] J JC thenK blockK loopK roundK drawK retK QW Qt pel List.set Calls
open Go.Maps Go.Lib
set_option maxRecDepth 8000
attribute [local irreducible] JE Br eK0 eK3 brK pc JR thenR JA
section
variable {m : Nat} {P : Program} {n : Nat} {w0 : World} {R : Heap} {f : Fr} {L : List Heap} {Γ : List (Nat × TI)}
theorem JW.rangeB {id : Nat} {g : Operand} {ps : Array Tmp} {assign body y : Code} {gf : FuncId} {lb : List Value} {Q : Exit → Act → World → Prop} {Ψ : List Heap → Prop} (hg : Cx.ev n f g = .func (.func gf) ⟨[]⟩ ⟨lb⟩) (he : Entr P gf)
    (hit : ∀ (fn D : Nat) (tmps : Array Value) (w1 : World), Rep n f { tmps := tmps, defers := [] } → H w0 R ([(D + 1, .loop (recL fn tmps ps assign body D))] :: [(D, .deferred (some []))] :: L) w1 →
      CallsIn (FR none) (m - 1) P gf ⟨.func (.yield (D + 1)) ⟨[]⟩ ⟨[]⟩ :: lb⟩ w1 fun e w' => ∃ v L', e = .returned v ∧ H w0 R ([(D + 1, .loop (recL fn tmps ps assign body D))] :: [(D, .deferred (some []))] :: L') w' ∧ Ψ L')
    (hk : ∀ (D : Nat) L', Ψ L' → JW [{ target := .collected D, args := #[] }] m P n w0 R y Q f ([(D, .deferred (some []))] :: L')) : JW [] m P n w0 R (.block id (.rangeFunc g ps assign body)) (Exit.then (y.wpIn (FR none) m P Q) Q) f L := fun a w ha hw => by
  rw [dfr_nil]
  exact wpIn_block (rangeF_any hg he hit (fun D L' hP a w ha hw => hk D L' hP a w ha hw) ha hw)
theorem JW.seq {ds : List Deferred} {x z : Code} {Q : Exit → Act → World → Prop} (h : JW ds m P n w0 R x (Exit.then (z.wpIn (FR none) m P Q) Q) f L) : JW ds m P n w0 R (.seq x z) Q f L := fun a w ha hw => wpIn_seq (h a w ha hw)
theorem calls_of_JW {fid : FuncId} {fn : Func} {c : Code} {args : List Value} {Post : Ending → World → Prop} {w : World} (hf : P.funcs[fid]? = some fn) (hn : fn.ntmps = n) (hb : fn.body = some c) (hsz : Nat.ble args.length n = true) (hw : H w0 R L w)
    (h : JW [] m P n w0 R c (bodyPostM (FR none) m P fn Post) (fr0 args) L) : Calls P fid args.toArray w Post :=
  calls_of_D hf hn hb hsz hw fun a ha => by
    have := h a w ha hw
    rwa [dfr_nil] at this
theorem JW.drawN {ds : List Deferred} {id : Nat} {l0 : List Oper} {y : Code} {Q : Exit → Act → World → Prop} (hm : P.follows .mixedOrders = true) (h : JA ds m P n w0 R l0 (fun e a w => e = .normal ∧ y.wpIn (FR none) m P Q a w) l0.length (Array.replicate l0.length false) f L) : JW ds m P n w0 R (.seq (.region id l0.toArray true) y) Q f L := fun a w ha hw =>
  wpIn_seq (wpIn_mono (JA.start hm h ha hw) (by rintro e a w ⟨rfl, q⟩; exact q))
theorem JW.weak {ds : List Deferred} {c : Code} {L' : List Heap} {Q : Exit → Act → World → Prop} (hp : ∀ w, H w0 R L w → H w0 R L' w) (k : JW ds m P n w0 R c Q f L') : JW ds m P n w0 R c Q f L := fun a w ha hw => k a w ha (hp w hw)
theorem JW.perm {ds : List Deferred} {c : Code} {L' : List Heap} {Q : Exit → Act → World → Prop} (hp : L.Perm L') (k : JW ds m P n w0 R c Q f L') : JW ds m P n w0 R c Q f L := fun a w ha hw => k a w ha (hw.perm hp)
theorem JW.pin {ds : List Deferred} {c : Code} {Q : Exit → Act → World → Prop} (i : Nat) {v : Value} (e : f i = v) (k : JW ds m P n w0 R c Q (upd f i v) L) : JW ds m P n w0 R c Q f L := by
  have : upd f i v = f := funext fun j => by
    by_cases h : j = i
    · subst h; rw [upd_same, e]
    · exact upd_ne f v h
  rw [this] at k
  exact k
theorem round_tmps (fn : FuncId) (tmps : Array Value) (p : Tmp) (assign body : Code) (D : Nat) (v : Value) : ((recL fn tmps #[p] assign body D).params.zip ⟨[v]⟩).foldl (fun tmps (t, a) => tmps.setIfInBounds t a) (recL fn tmps #[p] assign body D).tmps = tmps.setIfInBounds p v := by simp [recL]
theorem asgK.nn {l : Nat} {r : Loop} {Φ : Value → List Heap → Prop} (L2 : List Heap) (hto : ∀ w, H w0 R L w → H w0 R ([(l, .loop r)] :: L2) w) (h : JR (some l) m P n w0 R r.body (rndK w0 R l r Φ) f ([(l, .loop { r with state := .busy })] :: L2)) : asgK m P n w0 R l r Φ .normal f L := ⟨L2, hto, h⟩
theorem rndK.nn {l : Nat} {r : Loop} {Φ : Value → List Heap → Prop} (L2 : List Heap) (hto : ∀ w, H w0 R L w → H w0 R ([(l, .loop { r with state := .busy })] :: L2) w) (h : Φ (.bool true) ([(l, .loop { r with state := .ready, pending := none })] :: L2)) : rndK w0 R l r Φ .normal f L := ⟨L2, hto, h⟩
theorem resCCC {fn : Func} {t u s ty uy sy b c d : Nat} {cs ds es : List Value} {e e2 e3 : TypeId} {fr fr2 fr3 : Nat × Nat} {v x y : Value} {a : Act} {w : World} (hΓ : Fits P Γ) (hr : fn.results = #[.cell t ty, .cell u uy, .cell s sy]) (ha : Rep n f a) (hw : H w0 R L w) (ht : Nat.blt t n = true) (hu : Nat.blt u n = true) (hs : Nat.blt s n = true) (hv : f t = .pointer (some ⟨b, 0, none⟩)) (hx : f u = .pointer (some ⟨c, 0, none⟩)) (hy : f s = .pointer (some ⟨d, 0, none⟩))
    (hb : Rd R L b (.cells ⟨cs⟩ e fr)) (hc : Rd R L c (.cells ⟨ds⟩ e2 fr2)) (hd : Rd R L d (.cells ⟨es⟩ e3 fr3)) (hl : ldEv Γ ty cs 0 = some v) (hm : ldEv Γ uy ds 0 = some x) (hn : ldEv Γ sy es 0 = some y) : (results fn a.tmps).run P w = .ok (.tuple #[v, x, y]) w := by
  have h1 := ldEv_ok (P := P) hΓ (hw.rd hb) hl
  have g1 := ldEv_ok (P := P) hΓ (hw.rd hc) hm
  have k1 := ldEv_ok (P := P) hΓ (hw.rd hd) hn
  unfold Instr.loadAt Instr.sureAddr at h1 g1 k1
  simp only [Sem.run_bind, Sem.run_pure, Result.andThen_ok] at h1 g1 k1
  have h2 := ha.getD ht
  rw [hv] at h2
  have h3 : a.tmps[t]?.getD undef = .pointer (some ⟨b, 0, none⟩) := by rw [← h2]; simp [Array.getD_eq_getD_getElem?]
  have h4 := ha.getD hu
  rw [hx] at h4
  have h5 : a.tmps[u]?.getD undef = .pointer (some ⟨c, 0, none⟩) := by rw [← h4]; simp [Array.getD_eq_getD_getElem?]
  have h6 := ha.getD hs
  rw [hy] at h6
  have h7 : a.tmps[s]?.getD undef = .pointer (some ⟨d, 0, none⟩) := by rw [← h6]; simp [Array.getD_eq_getD_getElem?]
  simp only [results, hr]
  simp [h3, h5, h7, asAddr, Sem.run_bind]
  rw [h1]
  simp only [Result.andThen_ok]
  rw [g1]
  simp only [Result.andThen_ok]
  rw [k1]
  rfl
theorem retCCC {fn : Func} {Post : Ending → World → Prop} {t u s ty uy sy b c d : Nat} {cs ds es : List Value} {e e2 e3 : TypeId} {fr fr2 fr3 : Nat × Nat} {v x y : Value} (hΓ : Fits P Γ) (hr : fn.results = #[.cell t ty, .cell u uy, .cell s sy]) (ht : Nat.blt t n = true) (hu : Nat.blt u n = true) (hs : Nat.blt s n = true) (hv : f t = .pointer (some ⟨b, 0, none⟩)) (hx : f u = .pointer (some ⟨c, 0, none⟩)) (hy : f s = .pointer (some ⟨d, 0, none⟩))
    (hb : Rd R L b (.cells ⟨cs⟩ e fr)) (hc : Rd R L c (.cells ⟨ds⟩ e2 fr2)) (hd : Rd R L d (.cells ⟨es⟩ e3 fr3)) (hl : ldEv Γ ty cs 0 = some v) (hm : ldEv Γ uy ds 0 = some x) (hn : ldEv Γ sy es 0 = some y) (h : ∀ w, H w0 R L w → Post (.returned (.tuple #[v, x, y])) w) : retK P fn n w0 R Post .ret f L := by
  unfold retK
  exact fun a w ha hw => ⟨_, resCCC hΓ hr ha hw ht hu hs hv hx hy hb hc hd hl hm hn, h w hw⟩
end
theorem eMoved : Entr Tryz.prog 39 := Entr.of Tryz.func39 rfl rfl
theorem insAt_perm (l : List Int) (v : Int) (i : Nat) : (insAt l i v).Perm (v :: l) := by
  unfold insAt
  refine List.perm_middle.trans ?_
  rw [List.take_append_drop]
theorem wo_perm {v : Int} : ∀ {l : List Int}, v ∈ l → l.Nodup → (v :: wo l v).Perm l
  | x :: l, hv, hn => by
    rw [List.nodup_cons] at hn
    by_cases hx : x = v
    · subst hx
      have : wo l x = l := List.filter_eq_self.2 fun y hy => by
        have : y ≠ x := fun e => hn.1 (e ▸ hy)
        simp [this]
      unfold wo at this ⊢
      rw [List.filter_cons_of_neg (by simp), this]
    · have h1 : v ∈ l := by
        rcases List.mem_cons.1 hv with h | h
        · exact absurd h.symm hx
        · exact h
      have := wo_perm h1 hn.2
      unfold wo at this ⊢
      rw [List.filter_cons_of_pos (by simp [hx])]
      exact (List.Perm.swap _ _ _).trans (this.cons x)
theorem ins_perm {l : List Int} {v : Int} (hv : v ∈ l) (hn : l.Nodup) (i : Nat) : (insAt (wo l v) i v).Perm l := (insAt_perm _ _ _).trans (wo_perm hv hn)
theorem okOrd.perm {l o : List Int} (h : okOrd o) (p : l.Perm o) : okOrd l := ⟨fun v hv => h.1 v (p.mem_iff.1 hv), p.nodup_iff.2 h.2⟩
def bestO (sz : List Int → Nat) (rest : List Int) (v : Int) : Nat → List Int
  | 0 => insAt rest 0 v
  | i + 1 => if sz (insAt rest (i + 1) v) < sz (bestO sz rest v i) then insAt rest (i + 1) v else bestO sz rest v i
theorem bestO_perm {l : List Int} {v : Int} (hv : v ∈ l) (hn : l.Nodup) (sz : List Int → Nat) : ∀ i, (bestO sz (wo l v) v i).Perm l
  | 0 => ins_perm hv hn 0
  | i + 1 => by
    unfold bestO
    split
    · exact ins_perm hv hn (i + 1)
    · exact bestO_perm hv hn sz i
def movO (F : VF) (o : List Int) (v : Int) : List Int := bestO (fun l => szF l F) (wo o v) v (o.length - 1)
abbrev cI1 (b : Nat) (x : Int) : Heap := [(b, .cells ⟨[.int .i64 x]⟩ 3 (0, 0))]
abbrev cP1 (b : Nat) (p : Option Addr) : Heap := [(b, .cells ⟨[.pointer p]⟩ 30 (0, 0))]
def mvT (F : VF) (rest : List Int) (v : Int) (bs a b9 b10 b11 : Nat) (L0 : List Heap) : Nat → List Heap → Prop
  | 0, L => L = cP1 b9 (some ⟨bs, 0, none⟩) :: cI1 b10 (a : Int) :: cI1 b11 (-1) :: L0
  | i + 1, L => ∃ bt Kt t y hO2 hP2, Stv F (bestO (fun l => szF l F) rest v i) Kt t y hO2 hP2 ∧ L = cP1 b9 (some ⟨bt, 0, none⟩) :: cI1 b10 ((y : Nat) : Int) :: cI1 b11 ((szF (bestO (fun l => szF l F) rest v i) F : Nat) : Int) :: (sF Kt bt t ++ (hO2 :: hP2 :: L0))
theorem mvT.rd {F : VF} {rest : List Int} {v : Int} {bs a b9 b10 b11 : Nat} {L0 : List Heap} {R h : Heap} (r : RdH R L0 h) : ∀ {i : Nat} {L : List Heap}, mvT F rest v bs a b9 b10 b11 L0 i L → RdH R L h
  | 0, _, hm => by rw [show _ = _ from hm]; exact r.tl.tl.tl
  | i + 1, _, hm => by
    obtain ⟨bt, Kt, t, y, hO2, hP2, _, rfl⟩ := hm
    exact (RdH.app (sF Kt bt t) r.tl.tl).tl.tl.tl
theorem moved_any {F : VF} {o : List Int} {K : KS} {s : SS} {a : Nat} {hO hP : Heap} (sv : Stv F o K s a hO hP) (h8 : o.length ≤ 8) {v : Int} (hv : v ∈ o) {w0 w : World} {R : Heap} {L : List Heap} {bs : Nat} (rS : RdH R L (stR K bs s hO)) (hw : H w0 R L w) :
    Calls Tryz.prog 39 #[.pointer (some ⟨bs, 0, none⟩), .int .i64 (a : Int), .int .i64 v] w fun e w' => ∃ x L', e = .returned x ∧ H w0 R L' w' ∧ RebQ F (movO F o v) L x L' := by
  have hnd := sv.ho.2
  refine calls_of_JW (m := 5) (R := R) (L := L) (w0 := w0) Tryz.func39 Tryz.ntmps39 rfl rfl hw ?_
  refine JW.seqC ?_
  repeat' first
    | (refine J.isJ ?_; first | (first | (refine J.o 6 ?_; refine J.bx (fun _ => ?_)) | (refine J.o 7 ?_; refine J.al hΓ (fun _ => ?_))) | (first | (refine J.o 0 ?_; refine J.ev' hΓ ?_) | refine J.nil ?_ | refine J.kd ?_ | (refine J.o 4 ?_; first | refine J.lR hΓ ?_) | (refine J.o 3 ?_; first | refine J.ev' hΓ ?_) | (refine J.o 5 ?_; first | refine J.t0 hΓ ?_ | refine J.t1 hΓ ?_ | refine J.t2 hΓ ?_) | (refine J.o 6 ?_; refine J.bx (fun _ => ?_)) | (refine J.o 7 ?_; refine J.al hΓ (fun _ => ?_)) | (refine J.o 10 ?_; refine J.ev' hΓ ?_) | (refine J.o 11 ?_; refine J.ev' hΓ ?_)))
    | (first | refine JC.region ?_ | refine blockK.nn ?_)
    | (fail)
    | fail
  rename_i b3 b4 b6 b7 b8
  refine toW.nn ?_
  refine JW.seqC ?_
  refine JC.mid (fun i => i == 9 || i == 10 || i == 11 || i == 17 || i == 18) (fun g L' => ∃ b9 b10 b11, g 9 = .pointer (some ⟨b9, 0, none⟩) ∧ g 10 = .pointer (some ⟨b10, 0, none⟩) ∧ g 11 = .pointer (some ⟨b11, 0, none⟩) ∧ L'.Perm (cP1 b9 (some ⟨bs, 0, none⟩) :: cI1 b10 (a : Int) :: cI1 b11 (-1) :: [(b8, .cells ⟨[.int .i64 0]⟩ 31 (0, 0))] :: cI1 b7 0 :: cP1 b6 none :: cI1 b4 (a : Int) :: cP1 b3 (some ⟨bs, 0, none⟩) :: L)) ?_ ?_
  ·
    refine JC.drawE [cI1 b4 (a : Int), cP1 b3 (some ⟨bs, 0, none⟩)] [2, 3, 4, 5, 6, 7] [2, 3, 4, 5, 6, 7] [(4,0),(4,1)] 6 _ (by kernel_rfl) (by kernel_rfl) rfl ?_
    repeat' first
      | (refine J.isJ ?_; first | (fail) | (first | (refine J.o 0 ?_; refine J.ev' hΓ ?_) | refine J.nil ?_ | refine J.kd ?_ | (refine J.o 4 ?_; first | refine J.lR hΓ ?_) | (refine J.o 3 ?_; first | refine J.ev' hΓ ?_) | (refine J.o 5 ?_; first | refine J.t0 hΓ ?_ | refine J.t1 hΓ ?_ | refine J.t2 hΓ ?_) | (refine J.o 6 ?_; refine J.bx (fun _ => ?_)) | (refine J.o 7 ?_; refine J.al hΓ (fun _ => ?_)) | (refine J.o 10 ?_; refine J.ev' hΓ ?_) | (refine J.o 11 ?_; refine J.ev' hΓ ?_)))
      | (first | (refine JE.is ?_; first | refine JE.s3 ?_ | refine JE.nil ?_ | refine JE.s4 rfl (fun w hw => hw.subl (by repeat (first | exact List.nil_sublist _ | exact List.Sublist.refl _ | refine List.Sublist.cons_cons _ ?_ | refine List.Sublist.cons _ ?_))) ?_) | refine eK0.nn ?_ | (refine eK3.is ?_; refine eK3.nn (fun w hw => hw.subl (by repeat (first | exact List.nil_sublist _ | exact List.Sublist.refl _ | refine List.Sublist.cons_cons _ ?_ | refine List.Sublist.cons _ ?_))) ?_) | refine brK.nn ?_)
      | (first | refine JC.region ?_ | refine blockK.nn ?_)
      | (fail)
      | fail
    refine Br.three (c1 := 1) (c2 := 1) (c3 := 1) (m1 := 5) (m2 := 5) (m3 := 5) 2 3 4 [] [] [] (by decide +kernel) rfl rfl rfl (by decide +kernel) rfl (by decide +kernel) rfl (by decide +kernel) rfl ?_ ?_ ?_
    ·
      repeat' first
        | (refine J.isJ ?_; first | (first | (refine J.o 7 ?_; refine J.al hΓ (fun _ => ?_)) | (refine J.o 5 ?_; first | refine J.t0 hΓ ?_ | refine J.t1 hΓ ?_ | refine J.t2 hΓ ?_)) | (first | (refine J.o 0 ?_; refine J.ev' hΓ ?_) | refine J.nil ?_ | refine J.kd ?_ | (refine J.o 4 ?_; first | refine J.lR hΓ ?_) | (refine J.o 3 ?_; first | refine J.ev' hΓ ?_) | (refine J.o 5 ?_; first | refine J.t0 hΓ ?_ | refine J.t1 hΓ ?_ | refine J.t2 hΓ ?_) | (refine J.o 6 ?_; refine J.bx (fun _ => ?_)) | (refine J.o 7 ?_; refine J.al hΓ (fun _ => ?_)) | (refine J.o 10 ?_; refine J.ev' hΓ ?_) | (refine J.o 11 ?_; refine J.ev' hΓ ?_)))
        | (first | (refine JE.is ?_; first | refine JE.s3 ?_ | refine JE.nil ?_ | refine JE.s4 rfl (fun w hw => hw.subl (by repeat (first | exact List.nil_sublist _ | exact List.Sublist.refl _ | refine List.Sublist.cons_cons _ ?_ | refine List.Sublist.cons _ ?_))) ?_) | refine eK0.nn ?_ | (refine eK3.is ?_; refine eK3.nn (fun w hw => hw.subl (by repeat (first | exact List.nil_sublist _ | exact List.Sublist.refl _ | refine List.Sublist.cons_cons _ ?_ | refine List.Sublist.cons _ ?_))) ?_) | refine brK.nn ?_)
        | (first | refine JC.region ?_ | refine blockK.nn ?_)
        | (fail)
        | fail
      refine Br.two (c1 := 1) (c2 := 1) (m1 := 0) (m2 := 0) 3 4 [(3, 4), (3, 5), (3, 6), (3, 7)] [(3, 3), (3, 5), (3, 6), (3, 7)] (by decide +kernel) rfl rfl (by decide +kernel) rfl (by decide +kernel) rfl ?_ ?_
      ·
        repeat' first
          | (refine J.isJ ?_; first | (first | (refine J.o 7 ?_; refine J.al hΓ (fun _ => ?_)) | (refine J.o 5 ?_; first | refine J.t0 hΓ ?_ | refine J.t1 hΓ ?_ | refine J.t2 hΓ ?_)) | (first | (refine J.o 0 ?_; refine J.ev' hΓ ?_) | refine J.nil ?_ | refine J.kd ?_ | (refine J.o 4 ?_; first | refine J.lR hΓ ?_) | (refine J.o 3 ?_; first | refine J.ev' hΓ ?_) | (refine J.o 5 ?_; first | refine J.t0 hΓ ?_ | refine J.t1 hΓ ?_ | refine J.t2 hΓ ?_) | (refine J.o 6 ?_; refine J.bx (fun _ => ?_)) | (refine J.o 7 ?_; refine J.al hΓ (fun _ => ?_)) | (refine J.o 10 ?_; refine J.ev' hΓ ?_) | (refine J.o 11 ?_; refine J.ev' hΓ ?_)))
          | (first | (refine JE.is ?_; first | refine JE.s3 ?_ | refine JE.nil ?_ | refine JE.s4 rfl (fun w hw => hw.subl (by repeat (first | exact List.nil_sublist _ | exact List.Sublist.refl _ | refine List.Sublist.cons_cons _ ?_ | refine List.Sublist.cons _ ?_))) ?_) | refine eK0.nn ?_ | (refine eK3.is ?_; refine eK3.nn (fun w hw => hw.subl (by repeat (first | exact List.nil_sublist _ | exact List.Sublist.refl _ | refine List.Sublist.cons_cons _ ?_ | refine List.Sublist.cons _ ?_))) ?_) | refine brK.nn ?_)
          | (first | refine JC.region ?_ | refine blockK.nn ?_)
          | (fail)
          | fail
        refine Br.done (by kernel_rfl) ?_
        refine midK.nn (by repeat (first | refine Ag.upd rfl ?_ | exact Ag.rfl')) ⟨_, _, _, rfl, rfl, rfl, ?_⟩
        first | exact .refl _ | exact br1 | exact br1.cons _ | exact br2 | exact br2.symm | exact br2.trans (br1.cons _)
      ·
        repeat' first
          | (refine J.isJ ?_; first | (first | (refine J.o 7 ?_; refine J.al hΓ (fun _ => ?_)) | (refine J.o 5 ?_; first | refine J.t0 hΓ ?_ | refine J.t1 hΓ ?_ | refine J.t2 hΓ ?_)) | (first | (refine J.o 0 ?_; refine J.ev' hΓ ?_) | refine J.nil ?_ | refine J.kd ?_ | (refine J.o 4 ?_; first | refine J.lR hΓ ?_) | (refine J.o 3 ?_; first | refine J.ev' hΓ ?_) | (refine J.o 5 ?_; first | refine J.t0 hΓ ?_ | refine J.t1 hΓ ?_ | refine J.t2 hΓ ?_) | (refine J.o 6 ?_; refine J.bx (fun _ => ?_)) | (refine J.o 7 ?_; refine J.al hΓ (fun _ => ?_)) | (refine J.o 10 ?_; refine J.ev' hΓ ?_) | (refine J.o 11 ?_; refine J.ev' hΓ ?_)))
          | (first | (refine JE.is ?_; first | refine JE.s3 ?_ | refine JE.nil ?_ | refine JE.s4 rfl (fun w hw => hw.subl (by repeat (first | exact List.nil_sublist _ | exact List.Sublist.refl _ | refine List.Sublist.cons_cons _ ?_ | refine List.Sublist.cons _ ?_))) ?_) | refine eK0.nn ?_ | (refine eK3.is ?_; refine eK3.nn (fun w hw => hw.subl (by repeat (first | exact List.nil_sublist _ | exact List.Sublist.refl _ | refine List.Sublist.cons_cons _ ?_ | refine List.Sublist.cons _ ?_))) ?_) | refine brK.nn ?_)
          | (first | refine JC.region ?_ | refine blockK.nn ?_)
          | (fail)
          | fail
        refine Br.done (by kernel_rfl) ?_
        refine midK.nn (by repeat (first | refine Ag.upd rfl ?_ | exact Ag.rfl')) ⟨_, _, _, rfl, rfl, rfl, ?_⟩
        first | exact .refl _ | exact br1 | exact br1.cons _ | exact br2 | exact br2.symm | exact br2.trans (br1.cons _)
    ·
      repeat' first
        | (refine J.isJ ?_; first | (first | (refine J.o 7 ?_; refine J.al hΓ (fun _ => ?_)) | (refine J.o 5 ?_; first | refine J.t0 hΓ ?_ | refine J.t1 hΓ ?_ | refine J.t2 hΓ ?_)) | (first | (refine J.o 0 ?_; refine J.ev' hΓ ?_) | refine J.nil ?_ | refine J.kd ?_ | (refine J.o 4 ?_; first | refine J.lR hΓ ?_) | (refine J.o 3 ?_; first | refine J.ev' hΓ ?_) | (refine J.o 5 ?_; first | refine J.t0 hΓ ?_ | refine J.t1 hΓ ?_ | refine J.t2 hΓ ?_) | (refine J.o 6 ?_; refine J.bx (fun _ => ?_)) | (refine J.o 7 ?_; refine J.al hΓ (fun _ => ?_)) | (refine J.o 10 ?_; refine J.ev' hΓ ?_) | (refine J.o 11 ?_; refine J.ev' hΓ ?_)))
        | (first | (refine JE.is ?_; first | refine JE.s3 ?_ | refine JE.nil ?_ | refine JE.s4 rfl (fun w hw => hw.subl (by repeat (first | exact List.nil_sublist _ | exact List.Sublist.refl _ | refine List.Sublist.cons_cons _ ?_ | refine List.Sublist.cons _ ?_))) ?_) | refine eK0.nn ?_ | (refine eK3.is ?_; refine eK3.nn (fun w hw => hw.subl (by repeat (first | exact List.nil_sublist _ | exact List.Sublist.refl _ | refine List.Sublist.cons_cons _ ?_ | refine List.Sublist.cons _ ?_))) ?_) | refine brK.nn ?_)
        | (first | refine JC.region ?_ | refine blockK.nn ?_)
        | (fail)
        | fail
      refine Br.two (c1 := 1) (c2 := 1) (m1 := 0) (m2 := 0) 2 4 [(3, 4), (3, 5), (3, 6), (3, 7)] [(3, 2), (3, 5), (3, 6), (3, 7)] (by decide +kernel) rfl rfl (by decide +kernel) rfl (by decide +kernel) rfl ?_ ?_
      ·
        repeat' first
          | (refine J.isJ ?_; first | (first | (refine J.o 7 ?_; refine J.al hΓ (fun _ => ?_)) | (refine J.o 5 ?_; first | refine J.t0 hΓ ?_ | refine J.t1 hΓ ?_ | refine J.t2 hΓ ?_)) | (first | (refine J.o 0 ?_; refine J.ev' hΓ ?_) | refine J.nil ?_ | refine J.kd ?_ | (refine J.o 4 ?_; first | refine J.lR hΓ ?_) | (refine J.o 3 ?_; first | refine J.ev' hΓ ?_) | (refine J.o 5 ?_; first | refine J.t0 hΓ ?_ | refine J.t1 hΓ ?_ | refine J.t2 hΓ ?_) | (refine J.o 6 ?_; refine J.bx (fun _ => ?_)) | (refine J.o 7 ?_; refine J.al hΓ (fun _ => ?_)) | (refine J.o 10 ?_; refine J.ev' hΓ ?_) | (refine J.o 11 ?_; refine J.ev' hΓ ?_)))
          | (first | (refine JE.is ?_; first | refine JE.s3 ?_ | refine JE.nil ?_ | refine JE.s4 rfl (fun w hw => hw.subl (by repeat (first | exact List.nil_sublist _ | exact List.Sublist.refl _ | refine List.Sublist.cons_cons _ ?_ | refine List.Sublist.cons _ ?_))) ?_) | refine eK0.nn ?_ | (refine eK3.is ?_; refine eK3.nn (fun w hw => hw.subl (by repeat (first | exact List.nil_sublist _ | exact List.Sublist.refl _ | refine List.Sublist.cons_cons _ ?_ | refine List.Sublist.cons _ ?_))) ?_) | refine brK.nn ?_)
          | (first | refine JC.region ?_ | refine blockK.nn ?_)
          | (fail)
          | fail
        refine Br.done (by kernel_rfl) ?_
        refine midK.nn (by repeat (first | refine Ag.upd rfl ?_ | exact Ag.rfl')) ⟨_, _, _, rfl, rfl, rfl, ?_⟩
        first | exact .refl _ | exact br1 | exact br1.cons _ | exact br2 | exact br2.symm | exact br2.trans (br1.cons _)
      ·
        repeat' first
          | (refine J.isJ ?_; first | (first | (refine J.o 7 ?_; refine J.al hΓ (fun _ => ?_)) | (refine J.o 5 ?_; first | refine J.t0 hΓ ?_ | refine J.t1 hΓ ?_ | refine J.t2 hΓ ?_)) | (first | (refine J.o 0 ?_; refine J.ev' hΓ ?_) | refine J.nil ?_ | refine J.kd ?_ | (refine J.o 4 ?_; first | refine J.lR hΓ ?_) | (refine J.o 3 ?_; first | refine J.ev' hΓ ?_) | (refine J.o 5 ?_; first | refine J.t0 hΓ ?_ | refine J.t1 hΓ ?_ | refine J.t2 hΓ ?_) | (refine J.o 6 ?_; refine J.bx (fun _ => ?_)) | (refine J.o 7 ?_; refine J.al hΓ (fun _ => ?_)) | (refine J.o 10 ?_; refine J.ev' hΓ ?_) | (refine J.o 11 ?_; refine J.ev' hΓ ?_)))
          | (first | (refine JE.is ?_; first | refine JE.s3 ?_ | refine JE.nil ?_ | refine JE.s4 rfl (fun w hw => hw.subl (by repeat (first | exact List.nil_sublist _ | exact List.Sublist.refl _ | refine List.Sublist.cons_cons _ ?_ | refine List.Sublist.cons _ ?_))) ?_) | refine eK0.nn ?_ | (refine eK3.is ?_; refine eK3.nn (fun w hw => hw.subl (by repeat (first | exact List.nil_sublist _ | exact List.Sublist.refl _ | refine List.Sublist.cons_cons _ ?_ | refine List.Sublist.cons _ ?_))) ?_) | refine brK.nn ?_)
          | (first | refine JC.region ?_ | refine blockK.nn ?_)
          | (fail)
          | fail
        refine Br.done (by kernel_rfl) ?_
        refine midK.nn (by repeat (first | refine Ag.upd rfl ?_ | exact Ag.rfl')) ⟨_, _, _, rfl, rfl, rfl, ?_⟩
        first | exact .refl _ | exact br1 | exact br1.cons _ | exact br2 | exact br2.symm | exact br2.trans (br1.cons _)
    ·
      repeat' first
        | (refine J.isJ ?_; first | (first | (refine J.o 7 ?_; refine J.al hΓ (fun _ => ?_)) | (refine J.o 5 ?_; first | refine J.t0 hΓ ?_ | refine J.t1 hΓ ?_ | refine J.t2 hΓ ?_)) | (first | (refine J.o 0 ?_; refine J.ev' hΓ ?_) | refine J.nil ?_ | refine J.kd ?_ | (refine J.o 4 ?_; first | refine J.lR hΓ ?_) | (refine J.o 3 ?_; first | refine J.ev' hΓ ?_) | (refine J.o 5 ?_; first | refine J.t0 hΓ ?_ | refine J.t1 hΓ ?_ | refine J.t2 hΓ ?_) | (refine J.o 6 ?_; refine J.bx (fun _ => ?_)) | (refine J.o 7 ?_; refine J.al hΓ (fun _ => ?_)) | (refine J.o 10 ?_; refine J.ev' hΓ ?_) | (refine J.o 11 ?_; refine J.ev' hΓ ?_)))
        | (first | (refine JE.is ?_; first | refine JE.s3 ?_ | refine JE.nil ?_ | refine JE.s4 rfl (fun w hw => hw.subl (by repeat (first | exact List.nil_sublist _ | exact List.Sublist.refl _ | refine List.Sublist.cons_cons _ ?_ | refine List.Sublist.cons _ ?_))) ?_) | refine eK0.nn ?_ | (refine eK3.is ?_; refine eK3.nn (fun w hw => hw.subl (by repeat (first | exact List.nil_sublist _ | exact List.Sublist.refl _ | refine List.Sublist.cons_cons _ ?_ | refine List.Sublist.cons _ ?_))) ?_) | refine brK.nn ?_)
        | (first | refine JC.region ?_ | refine blockK.nn ?_)
        | (fail)
        | fail
      refine Br.two (c1 := 1) (c2 := 1) (m1 := 0) (m2 := 0) 2 3 [(3, 3), (3, 5), (3, 6), (3, 7)] [(3, 2), (3, 5), (3, 6), (3, 7)] (by decide +kernel) rfl rfl (by decide +kernel) rfl (by decide +kernel) rfl ?_ ?_
      ·
        repeat' first
          | (refine J.isJ ?_; first | (first | (refine J.o 7 ?_; refine J.al hΓ (fun _ => ?_)) | (refine J.o 5 ?_; first | refine J.t0 hΓ ?_ | refine J.t1 hΓ ?_ | refine J.t2 hΓ ?_)) | (first | (refine J.o 0 ?_; refine J.ev' hΓ ?_) | refine J.nil ?_ | refine J.kd ?_ | (refine J.o 4 ?_; first | refine J.lR hΓ ?_) | (refine J.o 3 ?_; first | refine J.ev' hΓ ?_) | (refine J.o 5 ?_; first | refine J.t0 hΓ ?_ | refine J.t1 hΓ ?_ | refine J.t2 hΓ ?_) | (refine J.o 6 ?_; refine J.bx (fun _ => ?_)) | (refine J.o 7 ?_; refine J.al hΓ (fun _ => ?_)) | (refine J.o 10 ?_; refine J.ev' hΓ ?_) | (refine J.o 11 ?_; refine J.ev' hΓ ?_)))
          | (first | (refine JE.is ?_; first | refine JE.s3 ?_ | refine JE.nil ?_ | refine JE.s4 rfl (fun w hw => hw.subl (by repeat (first | exact List.nil_sublist _ | exact List.Sublist.refl _ | refine List.Sublist.cons_cons _ ?_ | refine List.Sublist.cons _ ?_))) ?_) | refine eK0.nn ?_ | (refine eK3.is ?_; refine eK3.nn (fun w hw => hw.subl (by repeat (first | exact List.nil_sublist _ | exact List.Sublist.refl _ | refine List.Sublist.cons_cons _ ?_ | refine List.Sublist.cons _ ?_))) ?_) | refine brK.nn ?_)
          | (first | refine JC.region ?_ | refine blockK.nn ?_)
          | (fail)
          | fail
        refine Br.done (by kernel_rfl) ?_
        refine midK.nn (by repeat (first | refine Ag.upd rfl ?_ | exact Ag.rfl')) ⟨_, _, _, rfl, rfl, rfl, ?_⟩
        first | exact .refl _ | exact br1 | exact br1.cons _ | exact br2 | exact br2.symm | exact br2.trans (br1.cons _)
      ·
        repeat' first
          | (refine J.isJ ?_; first | (first | (refine J.o 7 ?_; refine J.al hΓ (fun _ => ?_)) | (refine J.o 5 ?_; first | refine J.t0 hΓ ?_ | refine J.t1 hΓ ?_ | refine J.t2 hΓ ?_)) | (first | (refine J.o 0 ?_; refine J.ev' hΓ ?_) | refine J.nil ?_ | refine J.kd ?_ | (refine J.o 4 ?_; first | refine J.lR hΓ ?_) | (refine J.o 3 ?_; first | refine J.ev' hΓ ?_) | (refine J.o 5 ?_; first | refine J.t0 hΓ ?_ | refine J.t1 hΓ ?_ | refine J.t2 hΓ ?_) | (refine J.o 6 ?_; refine J.bx (fun _ => ?_)) | (refine J.o 7 ?_; refine J.al hΓ (fun _ => ?_)) | (refine J.o 10 ?_; refine J.ev' hΓ ?_) | (refine J.o 11 ?_; refine J.ev' hΓ ?_)))
          | (first | (refine JE.is ?_; first | refine JE.s3 ?_ | refine JE.nil ?_ | refine JE.s4 rfl (fun w hw => hw.subl (by repeat (first | exact List.nil_sublist _ | exact List.Sublist.refl _ | refine List.Sublist.cons_cons _ ?_ | refine List.Sublist.cons _ ?_))) ?_) | refine eK0.nn ?_ | (refine eK3.is ?_; refine eK3.nn (fun w hw => hw.subl (by repeat (first | exact List.nil_sublist _ | exact List.Sublist.refl _ | refine List.Sublist.cons_cons _ ?_ | refine List.Sublist.cons _ ?_))) ?_) | refine brK.nn ?_)
          | (first | refine JC.region ?_ | refine blockK.nn ?_)
          | (fail)
          | fail
        refine Br.done (by kernel_rfl) ?_
        refine midK.nn (by repeat (first | refine Ag.upd rfl ?_ | exact Ag.rfl')) ⟨_, _, _, rfl, rfl, rfl, ?_⟩
        first | exact .refl _ | exact br1 | exact br1.cons _ | exact br2 | exact br2.symm | exact br2.trans (br1.cons _)
  rintro g L' ⟨b9, b10, b11, e9, e10, e11, hp⟩
  refine toW.nn ?_
  refine JW.perm hp ?_
  refine JW.pin 9 e9 (JW.pin 10 e10 (JW.pin 11 e11 ?_))
  refine JW.seq ?_
  refine JW.seqC ?_
  have cO := fun w hw => Order_any sv.so sv.po bs w hw
  repeat' first
    | (refine J.isJ ?_; first | (first | (refine J.o 4 ?_; refine J.lR hΓ ?_ (hr := Rd.hd.tl.tl.tl.tl.tl.tl.tl)) | (refine J.fc 21 ?_; refine J.call1 eOrder rfl rfl (fun w hw => cO w (stR_of2 rS.tl.tl.tl.tl.tl.tl.tl.tl hw)) ?_; rintro _ hA ⟨aA, cA, rfl, oA⟩) | (refine J.fc 68 ?_; refine J.callx eOrders rfl rfl (fun w hw => orders_any hv (by omega) oA.sl RdH.hd hw) ?_; rintro _ _ ⟨bx2, bx5, bx3, ar, cr, hr, rfl, rfl, oR⟩)) | (first | (refine J.o 0 ?_; refine J.ev' hΓ ?_) | refine J.nil ?_ | refine J.kd ?_ | (refine J.o 4 ?_; first | refine J.lR hΓ ?_) | (refine J.o 3 ?_; first | refine J.ev' hΓ ?_) | (refine J.o 5 ?_; first | refine J.t0 hΓ ?_ | refine J.t1 hΓ ?_ | refine J.t2 hΓ ?_) | (refine J.o 6 ?_; refine J.bx (fun _ => ?_)) | (refine J.o 7 ?_; refine J.al hΓ (fun _ => ?_)) | (refine J.o 10 ?_; refine J.ev' hΓ ?_) | (refine J.o 11 ?_; refine J.ev' hΓ ?_)))
    | (first | refine JC.region ?_ | refine blockK.nn ?_)
    | (fail)
    | fail
  refine toW.nn ?_
  have hwl := wo_len hv hnd
  have hol : 0 < o.length := List.length_pos_of_mem hv
  obtain ⟨L0, hL0⟩ : ∃ L0, [(bx5, Obj.cells ⟨[.slice ar (wo o v).length cr]⟩ 28 (0, 0))] :: hr :: cI1 bx3 v :: [(bx2, Obj.cells ⟨[.slice aA o.length cA]⟩ 28 (0, 0))] :: hA :: L = L0 := ⟨_, rfl⟩
  have rS0 : RdH R L0 (stR K bs s hO) := by rw [← hL0]; exact rS.tl.tl.tl.tl.tl
  obtain ⟨X, hX⟩ : ∃ X : Heap, X = [(bx2, .cells ⟨[.slice aA o.length cA]⟩ 28 (0, 0))] ++ ([(bx5, .cells ⟨[.slice ar (wo o v).length cr]⟩ 28 (0, 0))] ++ ([(bx3, .cells ⟨[.int .i64 v]⟩ 3 (0, 0))] ++ (hA ++ hr))) := ⟨_, rfl⟩
  have rX0 : RdH R L0 X := by
    rw [← hL0, hX]
    exact (RdH.hd.tl.tl.tl).append (RdH.hd.append ((RdH.hd.tl.tl).append ((RdH.hd.tl.tl.tl.tl).append RdH.hd.tl)))
  -- the fragments put in order
  refine JW.weak (L' := cP1 b3 (some ⟨bs, 0, none⟩) :: cI1 b4 (a : Int) :: cP1 b6 none :: cI1 b7 0 :: [(b8, .cells ⟨[.int .i64 0]⟩ 31 (0, 0))] :: cP1 b9 (some ⟨bs, 0, none⟩) :: cI1 b10 (a : Int) :: cI1 b11 (-1) :: L0) (fun w hw => by
    rw [← hL0]
    exact H.sel (l := [_, _, _, _, _, _, _, _, _, _, _, _, _]) (M := L) hw [12, 11, 10, 9, 8, 5, 6, 7, 0, 1, 2, 3, 4]) ?_
  refine JW.rangeB (Ψ := fun L' => ∃ L1, L' = cP1 b3 (some ⟨bs, 0, none⟩) :: cI1 b4 (a : Int) :: cP1 b6 none :: cI1 b7 0 :: [(b8, .cells ⟨[.int .i64 0]⟩ 31 (0, 0))] :: L1 ∧ mvT F (wo o v) v bs a b9 b10 b11 L0 o.length L1) rfl eOrd2 (fun fn D tmps w1 ha1 hw1 => ?_) ?_
  · refine (ord2_any (l := o) (rest := wo o v) (v := v) (by omega) hwl (a := aA) (c := cA) (ar := ar) (cr := cr) (b2 := bx2) (b5 := bx5) (b3 := bx3) (X := X) hX oA.sl oR.sl 4 (D + 1) (fun i L' => ∃ L1, L' = [(D + 1, .loop (recL fn tmps _ _ _ D))] :: [(D, .deferred (some []))] :: cP1 b3 (some ⟨bs, 0, none⟩) :: cI1 b4 (a : Int) :: cP1 b6 none :: cI1 b7 0 :: [(b8, .cells ⟨[.int .i64 0]⟩ 31 (0, 0))] :: L1 ∧ mvT F (wo o v) v bs a b9 b10 b11 L0 i L1) ?_ ?_ ⟨_, rfl, rfl⟩ hw1).mono ?_
    · rintro i _ ⟨L1, rfl, hm⟩
      exact (hm.rd rX0).tl.tl.tl.tl.tl.tl.tl
    · rintro i _ hil ⟨L1, rfl, hm⟩ a6 c6 h6 o6 w hw
      have hw2 := hw.perm (List.Perm.swap _ _ _)
      refine round_any (Φ := fun v' L' => v' = .bool true ∧ _) rfl rfl (by rw [round_tmps]; exact ha1.put (some 23) (.slice a6 (insAt (wo o v) i v).length c6)) ?_ hw2
      have hip := ins_perm hv hnd i
      have hil2 := hip.length_eq
      have rS1 := hm.rd rS0
      refine JR.region rfl ?_
      repeat' first
        | (refine J.isJ ?_; first | (fail) | (first | (refine J.o 0 ?_; refine J.ev' hΓ ?_) | refine J.nil ?_ | refine J.kd ?_ | (refine J.o 4 ?_; first | refine J.lR hΓ ?_) | (refine J.o 3 ?_; first | refine J.ev' hΓ ?_) | (refine J.o 5 ?_; first | refine J.t0 hΓ ?_ | refine J.t1 hΓ ?_ | refine J.t2 hΓ ?_) | (refine J.o 6 ?_; refine J.bx (fun _ => ?_)) | (refine J.o 7 ?_; refine J.al hΓ (fun _ => ?_)) | (refine J.o 10 ?_; refine J.ev' hΓ ?_) | (refine J.o 11 ?_; refine J.ev' hΓ ?_)))
        | (first | refine JR.seq ?_ | refine JR.region (by kernel_rfl) ?_ | refine JR.block ?_ | refine JR.ret ?_ | refine JR.exit ?_ | refine JR.skip ?_ | refine thenR.nn ?_ | refine thenR.r ?_ | refine thenR.x ?_ | refine blockK.nn ?_ | refine JR.condT rfl ?_ | refine JR.condF rfl ?_ | (refine JR.cond rfl (fun hc => ?_) (fun hc => ?_) <;> ((try simp only [decide_eq_true_eq, decide_eq_false_iff_not, beq_iff_eq, beq_eq_false_iff_ne, bne_iff_ne, bne_eq_false_iff_eq, Bool.not_eq_true', Bool.not_eq_false', Bool.not_eq_true, Bool.not_eq_false] at hc) <;> first | (first | (exact absurd rfl hc) | (exfalso; omega) | (exact absurd (hc.symm.trans (by assumption : _ = false)) (by decide)) | (exact absurd (hc.symm.trans (by assumption : _ = true)) (by decide))) | skip)))
        | (fail)
        | fail
      refine asgK.nn (h6 :: [(D, .deferred (some []))] :: cP1 b3 (some ⟨bs, 0, none⟩) :: cI1 b4 (a : Int) :: cP1 b6 none :: cI1 b7 0 :: [(b8, .cells ⟨[.int .i64 0]⟩ 31 (0, 0))] :: L1) (fun w hw => hw) ?_
      repeat' first
        | (refine J.isJ ?_; first | (first | (refine J.o 4 ?_; first | refine J.lR hΓ ?_ (hr := Rd.hd.tl.tl.tl) | refine J.lR hΓ ?_ (hr := Rd.hd.tl.tl.tl.tl)) | (refine J.fc 38 ?_; refine J.callx eReb2 rfl rfl (fun w hw => rebuilt_any sv h8 (insAt (wo o v) i v) hil2 (sv.ho.perm hip) (fun u hu => hip.mem_iff.2 hu) a6 c6 h6 o6.sl rS1.tl.tl.tl.tl.tl.tl.tl.tl RdH.hd.tl hw) ?_; rintro _ _ ⟨bt, Kt, t, y, hO2, hP2, rfl, rfl, sv2⟩) | (refine J.fc 16 ?_; refine J.callx eSize rfl rfl (fun w hw => Size_any sv2.so bt y sv2.sy.1 (stR_b (stR_hd _)) (stR_N (stR_hd _)) hw) ?_; rintro _ _ ⟨l1, rfl, rfl, bel1⟩)) | (first | (refine J.o 0 ?_; refine J.ev' hΓ ?_) | refine J.nil ?_ | refine J.kd ?_ | (refine J.o 4 ?_; first | refine J.lR hΓ ?_) | (refine J.o 3 ?_; first | refine J.ev' hΓ ?_) | (refine J.o 5 ?_; first | refine J.t0 hΓ ?_ | refine J.t1 hΓ ?_ | refine J.t2 hΓ ?_) | (refine J.o 6 ?_; refine J.bx (fun _ => ?_)) | (refine J.o 7 ?_; refine J.al hΓ (fun _ => ?_)) | (refine J.o 10 ?_; refine J.ev' hΓ ?_) | (refine J.o 11 ?_; refine J.ev' hΓ ?_)))
        | (first | refine JR.seq ?_ | refine JR.region (by kernel_rfl) ?_ | refine JR.block ?_ | refine JR.ret ?_ | refine JR.exit ?_ | refine JR.skip ?_ | refine thenR.nn ?_ | refine thenR.r ?_ | refine thenR.x ?_ | refine blockK.nn ?_ | refine JR.condT rfl ?_ | refine JR.condF rfl ?_ | (refine JR.cond rfl (fun hc => ?_) (fun hc => ?_) <;> ((try simp only [decide_eq_true_eq, decide_eq_false_iff_not, beq_iff_eq, beq_eq_false_iff_ne, bne_iff_ne, bne_eq_false_iff_eq, Bool.not_eq_true', Bool.not_eq_false', Bool.not_eq_true, Bool.not_eq_false] at hc) <;> first | (first | (exact absurd rfl hc) | (exfalso; omega) | (exact absurd (hc.symm.trans (by assumption : _ = false)) (by decide)) | (exact absurd (hc.symm.trans (by assumption : _ = true)) (by decide))) | skip)))
        | (fail)
        | fail
      all_goals first | (exfalso; omega) | skip
      have hz1 := sv2.size bel1
      rw [hz1]
      rcases i with _ | i
      · have hm : L1 = _ := hm
        subst hm
        repeat' first
          | (refine J.isJ ?_; first | ((refine J.o 4 ?_; refine J.lR hΓ ?_ (hr := Rd.app _ Rd.hd.tl.tl.tl.tl.tl.tl.tl.tl.tl.tl.tl.tl))) | (first | (refine J.o 0 ?_; refine J.ev' hΓ ?_) | refine J.nil ?_ | refine J.kd ?_ | (refine J.o 4 ?_; first | refine J.lR hΓ ?_) | (refine J.o 3 ?_; first | refine J.ev' hΓ ?_) | (refine J.o 5 ?_; first | refine J.t0 hΓ ?_ | refine J.t1 hΓ ?_ | refine J.t2 hΓ ?_) | (refine J.o 6 ?_; refine J.bx (fun _ => ?_)) | (refine J.o 7 ?_; refine J.al hΓ (fun _ => ?_)) | (refine J.o 10 ?_; refine J.ev' hΓ ?_) | (refine J.o 11 ?_; refine J.ev' hΓ ?_)))
          | (first | refine JR.seq ?_ | refine JR.region (by kernel_rfl) ?_ | refine JR.block ?_ | refine JR.ret ?_ | refine JR.exit ?_ | refine JR.skip ?_ | refine thenR.nn ?_ | refine thenR.r ?_ | refine thenR.x ?_ | refine blockK.nn ?_ | refine JR.condT rfl ?_ | refine JR.condF rfl ?_ | (refine JR.cond rfl (fun hc => ?_) (fun hc => ?_) <;> ((try simp only [decide_eq_true_eq, decide_eq_false_iff_not, beq_iff_eq, beq_eq_false_iff_ne, bne_iff_ne, bne_eq_false_iff_eq, Bool.not_eq_true', Bool.not_eq_false', Bool.not_eq_true, Bool.not_eq_false] at hc) <;> first | (first | (exact absurd rfl hc) | (exfalso; omega) | (exact absurd (hc.symm.trans (by assumption : _ = false)) (by decide)) | (exact absurd (hc.symm.trans (by assumption : _ = true)) (by decide))) | skip)))
          | (fail)
          | fail
        all_goals first | (exfalso; omega) | skip
        refine J.perm ((bring_perm 16 _).trans ((bring_perm 16 _).trans (bring_perm 16 _))) ?_
        repeat' first
          | (refine J.isJ ?_; first | ((refine J.o 5 ?_; first | refine J.t0 hΓ ?_ | refine J.t1 hΓ ?_ | refine J.t2 hΓ ?_)) | (first | (refine J.o 0 ?_; refine J.ev' hΓ ?_) | refine J.nil ?_ | refine J.kd ?_ | (refine J.o 4 ?_; first | refine J.lR hΓ ?_) | (refine J.o 3 ?_; first | refine J.ev' hΓ ?_) | (refine J.o 5 ?_; first | refine J.t0 hΓ ?_ | refine J.t1 hΓ ?_ | refine J.t2 hΓ ?_) | (refine J.o 6 ?_; refine J.bx (fun _ => ?_)) | (refine J.o 7 ?_; refine J.al hΓ (fun _ => ?_)) | (refine J.o 10 ?_; refine J.ev' hΓ ?_) | (refine J.o 11 ?_; refine J.ev' hΓ ?_)))
          | (first | refine JR.seq ?_ | refine JR.region (by kernel_rfl) ?_ | refine JR.block ?_ | refine JR.ret ?_ | refine JR.exit ?_ | refine JR.skip ?_ | refine thenR.nn ?_ | refine thenR.r ?_ | refine thenR.x ?_ | refine blockK.nn ?_ | refine JR.condT rfl ?_ | refine JR.condF rfl ?_ | (refine JR.cond rfl (fun hc => ?_) (fun hc => ?_) <;> ((try simp only [decide_eq_true_eq, decide_eq_false_iff_not, beq_iff_eq, beq_eq_false_iff_ne, bne_iff_ne, bne_eq_false_iff_eq, Bool.not_eq_true', Bool.not_eq_false', Bool.not_eq_true, Bool.not_eq_false] at hc) <;> first | (first | (exact absurd rfl hc) | (exfalso; omega) | (exact absurd (hc.symm.trans (by assumption : _ = false)) (by decide)) | (exact absurd (hc.symm.trans (by assumption : _ = true)) (by decide))) | skip)))
          | (fail)
          | fail
        refine rndK.nn ([(D, .deferred (some []))] :: cP1 b3 (some ⟨bs, 0, none⟩) :: cI1 b4 (a : Int) :: cP1 b6 none :: cI1 b7 0 :: [(b8, .cells ⟨[.int .i64 0]⟩ 31 (0, 0))] :: cP1 b9 (some ⟨bt, 0, none⟩) :: cI1 b10 ((y : Nat) : Int) :: cI1 b11 ((szF (insAt (wo o v) 0 v) F : Nat) : Int) :: (sF Kt bt t ++ (hO2 :: hP2 :: L0))) (fun w hw => H.sel (l := [_, _, _, _, _, _, _, _, _, _, _, _, _, _, _, _, _]) (M := L0) hw [9, 11, 12, 13, 14, 15, 16, 0, 1, 2, 3, 4, 5, 6, 7, 8]) ⟨rfl, _, rfl, bt, Kt, t, y, hO2, hP2, sv2, rfl⟩
      · obtain ⟨b1, K1, s1, y1, hO1, hP1, sv1, rfl⟩ := hm
        repeat' first
          | (refine J.isJ ?_; first | ((refine J.o 4 ?_; refine J.lR hΓ ?_ (hr := Rd.app _ Rd.hd.tl.tl.tl.tl.tl.tl.tl.tl.tl.tl.tl.tl))) | (first | (refine J.o 0 ?_; refine J.ev' hΓ ?_) | refine J.nil ?_ | refine J.kd ?_ | (refine J.o 4 ?_; first | refine J.lR hΓ ?_) | (refine J.o 3 ?_; first | refine J.ev' hΓ ?_) | (refine J.o 5 ?_; first | refine J.t0 hΓ ?_ | refine J.t1 hΓ ?_ | refine J.t2 hΓ ?_) | (refine J.o 6 ?_; refine J.bx (fun _ => ?_)) | (refine J.o 7 ?_; refine J.al hΓ (fun _ => ?_)) | (refine J.o 10 ?_; refine J.ev' hΓ ?_) | (refine J.o 11 ?_; refine J.ev' hΓ ?_)))
          | (first | refine JR.seq ?_ | refine JR.region (by kernel_rfl) ?_ | refine JR.block ?_ | refine JR.ret ?_ | refine JR.exit ?_ | refine JR.skip ?_ | refine thenR.nn ?_ | refine thenR.r ?_ | refine thenR.x ?_ | refine blockK.nn ?_ | refine JR.condT rfl ?_ | refine JR.condF rfl ?_ | (refine JR.cond rfl (fun hc => ?_) (fun hc => ?_) <;> ((try simp only [decide_eq_true_eq, decide_eq_false_iff_not, beq_iff_eq, beq_eq_false_iff_ne, bne_iff_ne, bne_eq_false_iff_eq, Bool.not_eq_true', Bool.not_eq_false', Bool.not_eq_true, Bool.not_eq_false] at hc) <;> first | (first | (exact absurd rfl hc) | (exfalso; omega) | (exact absurd (hc.symm.trans (by assumption : _ = false)) (by decide)) | (exact absurd (hc.symm.trans (by assumption : _ = true)) (by decide))) | skip)))
          | (fail)
          | fail
        all_goals first | (exfalso; omega) | skip
        ·
          have hb : bestO (fun l => szF l F) (wo o v) v (i + 1) = insAt (wo o v) (i + 1) v := by unfold bestO; rw [if_pos (by omega)]
          refine J.perm ((bring_perm 16 _).trans ((bring_perm 16 _).trans (bring_perm 16 _))) ?_
          repeat' first
            | (refine J.isJ ?_; first | ((refine J.o 5 ?_; first | refine J.t0 hΓ ?_ | refine J.t1 hΓ ?_ | refine J.t2 hΓ ?_)) | (first | (refine J.o 0 ?_; refine J.ev' hΓ ?_) | refine J.nil ?_ | refine J.kd ?_ | (refine J.o 4 ?_; first | refine J.lR hΓ ?_) | (refine J.o 3 ?_; first | refine J.ev' hΓ ?_) | (refine J.o 5 ?_; first | refine J.t0 hΓ ?_ | refine J.t1 hΓ ?_ | refine J.t2 hΓ ?_) | (refine J.o 6 ?_; refine J.bx (fun _ => ?_)) | (refine J.o 7 ?_; refine J.al hΓ (fun _ => ?_)) | (refine J.o 10 ?_; refine J.ev' hΓ ?_) | (refine J.o 11 ?_; refine J.ev' hΓ ?_)))
            | (first | refine JR.seq ?_ | refine JR.region (by kernel_rfl) ?_ | refine JR.block ?_ | refine JR.ret ?_ | refine JR.exit ?_ | refine JR.skip ?_ | refine thenR.nn ?_ | refine thenR.r ?_ | refine thenR.x ?_ | refine blockK.nn ?_ | refine JR.condT rfl ?_ | refine JR.condF rfl ?_ | (refine JR.cond rfl (fun hc => ?_) (fun hc => ?_) <;> ((try simp only [decide_eq_true_eq, decide_eq_false_iff_not, beq_iff_eq, beq_eq_false_iff_ne, bne_iff_ne, bne_eq_false_iff_eq, Bool.not_eq_true', Bool.not_eq_false', Bool.not_eq_true, Bool.not_eq_false] at hc) <;> first | (first | (exact absurd rfl hc) | (exfalso; omega) | (exact absurd (hc.symm.trans (by assumption : _ = false)) (by decide)) | (exact absurd (hc.symm.trans (by assumption : _ = true)) (by decide))) | skip)))
            | (fail)
            | fail
          refine rndK.nn ([(D, .deferred (some []))] :: cP1 b3 (some ⟨bs, 0, none⟩) :: cI1 b4 (a : Int) :: cP1 b6 none :: cI1 b7 0 :: [(b8, .cells ⟨[.int .i64 0]⟩ 31 (0, 0))] :: cP1 b9 (some ⟨bt, 0, none⟩) :: cI1 b10 ((y : Nat) : Int) :: cI1 b11 ((szF (insAt (wo o v) (i + 1) v) F : Nat) : Int) :: (sF Kt bt t ++ (hO2 :: hP2 :: L0))) (fun w hw => H.sel (l := [_, _, _, _, _, _, _, _, _, _, _, _, _, _, _, _, _, _, _, _, _, _, _]) (M := L0) hw [9, 11, 12, 13, 14, 15, 16, 0, 1, 2, 3, 4, 5, 6, 7, 8]) ⟨rfl, _, rfl, bt, Kt, t, y, hO2, hP2, by rw [hb]; exact sv2, by rw [hb]⟩
        ·
          have hb : bestO (fun l => szF l F) (wo o v) v (i + 1) = bestO (fun l => szF l F) (wo o v) v i := by
            conv => lhs; unfold bestO
            rw [if_neg (by omega)]
          refine rndK.nn ([(D, .deferred (some []))] :: cP1 b3 (some ⟨bs, 0, none⟩) :: cI1 b4 (a : Int) :: cP1 b6 none :: cI1 b7 0 :: [(b8, .cells ⟨[.int .i64 0]⟩ 31 (0, 0))] :: cP1 b9 (some ⟨b1, 0, none⟩) :: cI1 b10 ((y1 : Nat) : Int) :: cI1 b11 ((szF (bestO (fun l => szF l F) (wo o v) v i) F : Nat) : Int) :: (sF K1 b1 s1 ++ (hO1 :: hP1 :: L0))) (fun w hw => H.sel (l := [_, _, _, _, _, _, _, _, _, _, _, _, _, _, _, _, _, _, _, _, _, _, _]) (M := L0) hw [6, 8, 9, 10, 11, 12, 13, 14, 15, 16, 17, 18, 19, 20, 21, 22]) ⟨rfl, _, rfl, b1, K1, s1, y1, hO1, hP1, by rw [hb]; exact sv1, by rw [hb]⟩
    · rintro e w' ⟨v', L', rfl, hw', L1, rfl, hm⟩
      exact ⟨v', _, rfl, hw', L1, rfl, hm⟩
  · rintro D _ ⟨L1, rfl, hm⟩
    subst hL0
    obtain ⟨k, hk⟩ : ∃ k, o.length = k + 1 := ⟨o.length - 1, by omega⟩
    have hmov : bestO (fun l => szF l F) (wo o v) v k = movO F o v := by
      unfold movO
      rw [hk]
      rfl
    rw [hk] at hm
    obtain ⟨bt, Kt, t, y, hO2, hP2, svt, rfl⟩ := hm
    refine JW.perm ((bring_perm 5 _).trans ((bring_perm 5 _).trans (bring_perm 5 _))) ?_
    refine JW.drawN (by decide +kernel) ?_
    refine JA.two (i := 0) (j := 1) (by decide +kernel) ?_ ?_
    ·
      refine JO.of rfl (fun c h => by cases h) ?_
      (refine J.isJ ?_; refine J.o 4 ?_; refine J.lR hΓ ?_ (hr := Rd.hd.tl.tl.tl.tl.tl.tl))
      (refine J.nil ?_; refine nextK.nn ?_)
      refine JA.two (i := 1) (j := 2) (by decide +kernel) ?_ ?_
      ·
        refine JO.of rfl (fun c h => by cases h) ?_
        (refine J.isJ ?_; refine J.o 4 ?_; refine J.lR hΓ ?_ (hr := Rd.hd.tl.tl.tl.tl.tl.tl.tl))
        (refine J.nil ?_; refine nextK.nn ?_)
        refine JA.one (i := 2) (by decide +kernel) ?_
        refine JO.of rfl (fun c h => by cases h) ?_
        (refine J.isJ ?_; refine J.o 5 ?_; refine J.t0 hΓ ?_)
        (refine J.nil ?_; refine nextK.nn ?_)
        refine JA.one (i := 3) (by decide +kernel) ?_
        refine JO.of rfl (fun c h => by cases h) ?_
        (refine J.isJ ?_; refine J.o 5 ?_; refine J.t1 hΓ ?_)
        (refine J.nil ?_; refine nextK.nn ?_)
        refine JA.one (i := 4) (by decide +kernel) ?_
        refine JO.of rfl (fun c h => by cases h) ?_
        (refine J.isJ ?_; refine J.o 5 ?_; refine J.t2 hΓ ?_)
        (refine J.nil ?_; refine nextK.nn ?_)
        refine JA.done (by decide +kernel) fun a w ha hw => ⟨rfl, wpIn_ret (leaves_D ha (hw.perm (bring_perm 3 _)) ?_)⟩
        exact retCCC hΓ rfl rfl rfl rfl rfl rfl rfl (Rd.hd.tl) (Rd.hd.tl.tl) (Rd.hd.tl.tl.tl) rfl rfl rfl (fun w hw => ⟨_, _, rfl, H.sel (l := [_, _, _, _, _, _, _, _, _, _, _, _, _, _, _, _, _, _, _, _]) (M := L) hw [9, 10, 11, 12, 13, 14], bt, Kt, t, y, hO2, hP2, rfl, rfl, hmov ▸ svt⟩)
      ·
        refine JO.of rfl (fun c h => by cases h) ?_
        (refine J.isJ ?_; refine J.o 5 ?_; refine J.t0 hΓ ?_)
        (refine J.nil ?_; refine nextK.nn ?_)
        refine JA.one (i := 1) (by decide +kernel) ?_
        refine JO.of rfl (fun c h => by cases h) ?_
        (refine J.isJ ?_; refine J.o 4 ?_; refine J.lR hΓ ?_ (hr := Rd.hd.tl.tl.tl.tl.tl.tl.tl))
        (refine J.nil ?_; refine nextK.nn ?_)
        refine JA.one (i := 3) (by decide +kernel) ?_
        refine JO.of rfl (fun c h => by cases h) ?_
        (refine J.isJ ?_; refine J.o 5 ?_; refine J.t1 hΓ ?_)
        (refine J.nil ?_; refine nextK.nn ?_)
        refine JA.one (i := 4) (by decide +kernel) ?_
        refine JO.of rfl (fun c h => by cases h) ?_
        (refine J.isJ ?_; refine J.o 5 ?_; refine J.t2 hΓ ?_)
        (refine J.nil ?_; refine nextK.nn ?_)
        refine JA.done (by decide +kernel) fun a w ha hw => ⟨rfl, wpIn_ret (leaves_D ha (hw.perm (bring_perm 3 _)) ?_)⟩
        exact retCCC hΓ rfl rfl rfl rfl rfl rfl rfl (Rd.hd.tl) (Rd.hd.tl.tl) (Rd.hd.tl.tl.tl) rfl rfl rfl (fun w hw => ⟨_, _, rfl, H.sel (l := [_, _, _, _, _, _, _, _, _, _, _, _, _, _, _, _, _, _, _, _]) (M := L) hw [9, 10, 11, 12, 13, 14], bt, Kt, t, y, hO2, hP2, rfl, rfl, hmov ▸ svt⟩)
    ·
      refine JO.of rfl (fun c h => by cases h) ?_
      (refine J.isJ ?_; refine J.o 4 ?_; refine J.lR hΓ ?_ (hr := Rd.hd.tl.tl.tl.tl.tl.tl.tl))
      (refine J.nil ?_; refine nextK.nn ?_)
      refine JA.one (i := 0) (by decide +kernel) ?_
      refine JO.of rfl (fun c h => by cases h) ?_
      (refine J.isJ ?_; refine J.o 4 ?_; refine J.lR hΓ ?_ (hr := Rd.hd.tl.tl.tl.tl.tl.tl))
      (refine J.nil ?_; refine nextK.nn ?_)
      refine JA.one (i := 2) (by decide +kernel) ?_
      refine JO.of rfl (fun c h => by cases h) ?_
      (refine J.isJ ?_; refine J.o 5 ?_; refine J.t0 hΓ ?_)
      (refine J.nil ?_; refine nextK.nn ?_)
      refine JA.one (i := 3) (by decide +kernel) ?_
      refine JO.of rfl (fun c h => by cases h) ?_
      (refine J.isJ ?_; refine J.o 5 ?_; refine J.t1 hΓ ?_)
      (refine J.nil ?_; refine nextK.nn ?_)
      refine JA.one (i := 4) (by decide +kernel) ?_
      refine JO.of rfl (fun c h => by cases h) ?_
      (refine J.isJ ?_; refine J.o 5 ?_; refine J.t2 hΓ ?_)
      (refine J.nil ?_; refine nextK.nn ?_)
      refine JA.done (by decide +kernel) fun a w ha hw => ⟨rfl, wpIn_ret (leaves_D ha (hw.perm (bring_perm 3 _)) ?_)⟩
      exact retCCC hΓ rfl rfl rfl rfl rfl rfl rfl (Rd.hd.tl) (Rd.hd.tl.tl) (Rd.hd.tl.tl.tl) rfl rfl rfl (fun w hw => ⟨_, _, rfl, H.sel (l := [_, _, _, _, _, _, _, _, _, _, _, _, _, _, _, _, _, _, _, _]) (M := L) hw [9, 10, 11, 12, 13, 14], bt, Kt, t, y, hO2, hP2, rfl, rfl, hmov ▸ svt⟩)
end Go.Proofs.YtbhgahjeocnfcaaGreat
namespace Go.Proofs.YtbhgahjeocnfcaaGreat
open Go Go.Cx Go.RowKit
set_option linter.unusedVariables false
set_option linter.unusedSimpArgs false
set_option maxHeartbeats 4000000
attribute [local irreducible] J JC thenK blockK loopK roundK drawK retK QW Qt pel List.set Calls
open Go.Maps Go.Lib
set_option maxRecDepth 8000
attribute [local irreducible] JE Br eK0 eK3 brK pc
theorem eInsC : Entr Tryz.prog 84 := Entr.of Tryz.func84 rfl rfl
theorem ePdqC : Entr Tryz.prog 63 := Entr.of Tryz.func63 rfl rfl
theorem eSortF : Entr Tryz.prog 36 := Entr.of Tryz.func36 rfl rfl
theorem eBLen : Entr Tryz.prog 64 := Entr.of Tryz.func64 rfl rfl
structure CmpOk (fc : FuncId) (lb : List Value) (cm : Int → Int → Int) (l : List Int) (hM : Heap) : Prop where
  en : Entr Tryz.prog fc
  gv : ∀ x ∈ l, ∀ y ∈ l, ∀ w, Holds hM w → Calls Tryz.prog fc ⟨[.int .i64 x, .int .i64 y] ++ lb⟩ w fun e w' => e = .returned (.int .i64 (cm x y)) ∧ Below w.heap.size w w'
  tot : ∀ x ∈ l, ∀ y ∈ l, x ≠ y → ¬ cm x y < 0 → cm y x < 0
  tr : ∀ x ∈ l, ∀ y ∈ l, ∀ z ∈ l, cm x y < 0 → cm y z < 0 → cm x z < 0
def SrtI (cm : Int → Int → Int) (d : List Int) (i j : Nat) : Prop := ∀ p q, p < q → q ≤ i → q ≠ j → cm (d.getD p default) (d.getD q default) < 0
def SrtO (cm : Int → Int → Int) (d : List Int) (i : Nat) : Prop := ∀ p q, p < q → q < i → cm (d.getD p default) (d.getD q default) < 0
theorem getD_mem {d : List Int} {k : Nat} (h : k < d.length) : d.getD k default ∈ d := by
  rw [List.getD_eq_getElem?_getD, List.getElem?_eq_getElem h]
  exact List.getElem_mem h
theorem SrtI.step {cm : Int → Int → Int} {d : List Int} {i j : Nat} (h : SrtI cm d i (j + 1)) (hi : i < d.length) (hj : j + 1 ≤ i) (hc : cm (d.getD (j + 1) default) (d.getD j default) < 0) : SrtI cm (swp d j) i j := fun p q hpq hq hne => by
  have hd : j + 1 < d.length := by omega
  rw [swp_get d hd, swp_get d hd]
  by_cases h1 : q = j + 1
  · subst h1
    rw [if_neg (by omega : ¬ j + 1 = j), if_pos rfl]
    by_cases h2 : p = j
    · rw [if_pos h2]; exact hc
    · rw [if_neg h2, if_neg (by omega)]
      exact h p j (by omega) (by omega) (by omega)
  · rw [if_neg hne, if_neg h1]
    by_cases h2 : p = j
    · rw [if_pos h2]; exact h (j + 1) q (by omega) hq h1
    · rw [if_neg h2]
      by_cases h3 : p = j + 1
      · rw [if_pos h3]; exact h j q (by omega) hq h1
      · rw [if_neg h3]; exact h p q hpq hq h1
theorem SrtI.done {cm : Int → Int → Int} {l d : List Int} {i j : Nat} {fc : FuncId} {lb : List Value} {hM : Heap} (cok : CmpOk fc lb cm l hM) (hp : d.Perm l) (hn : l.Nodup) (h : SrtI cm d i j) (hi : i < d.length) (hj : j ≤ i) (hc : j = 0 ∨ ¬ cm (d.getD j default) (d.getD (j - 1) default) < 0) : SrtO cm d (i + 1) := fun p q hpq hq => by
  have hm : ∀ k, k < d.length → d.getD k default ∈ l := fun k hk => hp.mem_iff.1 (getD_mem hk)
  by_cases h1 : q = j
  · subst h1
    rcases hc with h0 | hc
    · omega
    · have hne : d.getD q default ≠ d.getD (q - 1) default := fun e => by
        have := getD_inj (hp.nodup_iff.2 hn) (by omega) (by omega) e
        omega
      have h2 := cok.tot _ (hm q (by omega)) _ (hm (q - 1) (by omega)) hne hc
      by_cases h3 : p = q - 1
      · rw [h3]; exact h2
      · exact cok.tr _ (hm p (by omega)) _ (hm (q - 1) (by omega)) _ (hm q (by omega)) (h p (q - 1) (by omega) (by omega) (by omega)) h2
  · exact h p q hpq (by omega) h1
theorem insC_any {fc : FuncId} {lb : List Value} {cm : Int → Int → Int} {l : List Int} {hM : Heap} (cok : CmpOk fc lb cm l hM) (hn : l.Nodup) (hl : l.length ≤ 12) {a : Option Addr} {c : Nat} {hQ : Heap} (oQ : OwT encI 1 3 a c l hQ) {w0 w : World} {R : Heap} {L : List Heap} (rM : RdH R L hM) (hw : H w0 R (hQ :: L) w) :
    Calls Tryz.prog 84 #[.slice a l.length c, .int .i64 0, .int .i64 (l.length : Int), .func (.func fc) ⟨[]⟩ ⟨lb⟩] w fun e w' => ∃ v L', e = .returned v ∧ H w0 R L' w' ∧ ∃ d hD, v = .tuple #[] ∧ L' = hD :: L ∧ d.Perm l ∧ SrtO cm d d.length ∧ OwT encI 1 3 a c d hD := by
  refine calls_in Tryz.func84 Tryz.ntmps84 rfl rfl (hw) ?_
  repeat' first
    | (refine J.isJ ?_; first | (fail) | (first | (refine J.o 0 ?_; refine J.ev' hΓ ?_) | refine J.nil ?_ | refine J.kd ?_ | (refine J.o 4 ?_; first | refine J.lT default hΓ ?_) | (refine J.o 3 ?_; first | refine J.iJ hΓ ?_ | refine J.ev' hΓ ?_) | (refine J.o 1 ?_; first | refine J.ad ?_ | refine J.sb ?_) | (refine J.o 5 ?_; first | refine J.tT _ default hΓ (fun _ _ => ?_)) | (refine J.o 10 ?_; refine J.ev' hΓ ?_) | (refine J.o 11 ?_; refine J.ev' hΓ ?_)) | ((fail_if_success refine J.wt ?_); refine J.gc rfl rfl (fun hc => ?_) (fun hc => ?_) <;> ((try simp only [decide_eq_true_eq, decide_eq_false_iff_not, beq_iff_eq, beq_eq_false_iff_ne, bne_iff_ne, bne_eq_false_iff_eq, Bool.not_eq_true', Bool.not_eq_false', Bool.not_eq_true, Bool.not_eq_false] at hc) <;> first | (first | (exact absurd rfl hc) | (exfalso; omega) | (exact absurd (hc.symm.trans (by assumption : _ = false)) (by decide)) | (exact absurd (hc.symm.trans (by assumption : _ = true)) (by decide))) | skip)))
    | (first | refine JC.seq ?_ | refine JC.region ?_ | refine JC.block ?_ | refine JC.exit ?_ | refine JC.skip ?_ | refine thenK.nn ?_ | refine thenK.x ?_ | refine blockK.nn ?_ | refine blockK.hit rfl ?_ | refine JC.condF rfl ?_ | (refine JC.cond rfl (fun hc => ?_) (fun hc => ?_) <;> ((try simp only [decide_eq_true_eq, decide_eq_false_iff_not, beq_iff_eq, beq_eq_false_iff_ne, bne_iff_ne, bne_eq_false_iff_eq, Bool.not_eq_true', Bool.not_eq_false', Bool.not_eq_true, Bool.not_eq_false] at hc) <;> first | (first | (exact absurd rfl hc) | (exfalso; omega) | (exact absurd (hc.symm.trans (by assumption : _ = false)) (by decide)) | (exact absurd (hc.symm.trans (by assumption : _ = true)) (by decide))) | skip)) | refine drawK.nn ?_ | refine loopK.x ?_)
    | (fail)
    | fail
  all_goals first | (exfalso; omega) | skip
  refine JC.loop (fun i => i == 8 || i == 9 || Nat.ble 12 i) (fun k g L' => ∃ (i : Nat) (d : List Int) (hD : Heap), g 8 = .int .i64 (i : Int) ∧ i + k = l.length + 1 ∧ 1 ≤ i ∧ L' = hD :: L ∧ d.Perm l ∧ SrtO cm d i ∧ OwT encI 1 3 a c d hD) l.length ⟨1, l, hQ, rfl, by omega, Nat.le_refl _, rfl, .refl _, fun p q h1 h2 => by omega, oQ⟩ ?_
  rintro k g _ ⟨i, d, hD, e8, hik, hi1, rfl, hp, hs, oD⟩
  have hdl : d.length = l.length := hp.length_eq
  refine JC.pin 8 e8 ?_
  rcases Nat.lt_or_ge i l.length with hil | hil
  case inr =>
    repeat' first
      | (refine J.isJ ?_; first | (fail) | (first | (refine J.o 0 ?_; refine J.ev' hΓ ?_) | refine J.nil ?_ | refine J.kd ?_ | (refine J.o 4 ?_; first | refine J.lT default hΓ ?_) | (refine J.o 3 ?_; first | refine J.iJ hΓ ?_ | refine J.ev' hΓ ?_) | (refine J.o 1 ?_; first | refine J.ad ?_ | refine J.sb ?_) | (refine J.o 5 ?_; first | refine J.tT _ default hΓ (fun _ _ => ?_)) | (refine J.o 10 ?_; refine J.ev' hΓ ?_) | (refine J.o 11 ?_; refine J.ev' hΓ ?_)) | ((fail_if_success refine J.wt ?_); refine J.gc rfl rfl (fun hc => ?_) (fun hc => ?_) <;> ((try simp only [decide_eq_true_eq, decide_eq_false_iff_not, beq_iff_eq, beq_eq_false_iff_ne, bne_iff_ne, bne_eq_false_iff_eq, Bool.not_eq_true', Bool.not_eq_false', Bool.not_eq_true, Bool.not_eq_false] at hc) <;> first | (first | (exact absurd rfl hc) | (exfalso; omega) | (exact absurd (hc.symm.trans (by assumption : _ = false)) (by decide)) | (exact absurd (hc.symm.trans (by assumption : _ = true)) (by decide))) | skip)))
      | (first | refine JC.seq ?_ | refine JC.region ?_ | refine JC.block ?_ | refine JC.exit ?_ | refine JC.skip ?_ | refine thenK.nn ?_ | refine thenK.x ?_ | refine blockK.nn ?_ | refine blockK.hit rfl ?_ | refine JC.condF rfl ?_ | (refine JC.cond rfl (fun hc => ?_) (fun hc => ?_) <;> ((try simp only [decide_eq_true_eq, decide_eq_false_iff_not, beq_iff_eq, beq_eq_false_iff_ne, bne_iff_ne, bne_eq_false_iff_eq, Bool.not_eq_true', Bool.not_eq_false', Bool.not_eq_true, Bool.not_eq_false] at hc) <;> first | (first | (exact absurd rfl hc) | (exfalso; omega) | (exact absurd (hc.symm.trans (by assumption : _ = false)) (by decide)) | (exact absurd (hc.symm.trans (by assumption : _ = true)) (by decide))) | skip)) | refine drawK.nn ?_ | refine loopK.x ?_)
      | (fail)
      | fail
    all_goals first | (exfalso; omega) | skip
    refine ret0n rfl (fun w hw => ⟨_, _, rfl, hw, d, hD, rfl, rfl, hp, ?_, oD⟩)
    exact fun p q h1 h2 => hs p q h1 (by omega)
  repeat' first
    | (refine J.isJ ?_; first | (fail) | (first | (refine J.o 0 ?_; refine J.ev' hΓ ?_) | refine J.nil ?_ | refine J.kd ?_ | (refine J.o 4 ?_; first | refine J.lT default hΓ ?_) | (refine J.o 3 ?_; first | refine J.iJ hΓ ?_ | refine J.ev' hΓ ?_) | (refine J.o 1 ?_; first | refine J.ad ?_ | refine J.sb ?_) | (refine J.o 5 ?_; first | refine J.tT _ default hΓ (fun _ _ => ?_)) | (refine J.o 10 ?_; refine J.ev' hΓ ?_) | (refine J.o 11 ?_; refine J.ev' hΓ ?_)) | ((fail_if_success refine J.wt ?_); refine J.gc rfl rfl (fun hc => ?_) (fun hc => ?_) <;> ((try simp only [decide_eq_true_eq, decide_eq_false_iff_not, beq_iff_eq, beq_eq_false_iff_ne, bne_iff_ne, bne_eq_false_iff_eq, Bool.not_eq_true', Bool.not_eq_false', Bool.not_eq_true, Bool.not_eq_false] at hc) <;> first | (first | (exact absurd rfl hc) | (exfalso; omega) | (exact absurd (hc.symm.trans (by assumption : _ = false)) (by decide)) | (exact absurd (hc.symm.trans (by assumption : _ = true)) (by decide))) | skip)))
    | (first | refine JC.seq ?_ | refine JC.region ?_ | refine JC.block ?_ | refine JC.exit ?_ | refine JC.skip ?_ | refine thenK.nn ?_ | refine thenK.x ?_ | refine blockK.nn ?_ | refine blockK.hit rfl ?_ | refine JC.condF rfl ?_ | (refine JC.cond rfl (fun hc => ?_) (fun hc => ?_) <;> ((try simp only [decide_eq_true_eq, decide_eq_false_iff_not, beq_iff_eq, beq_eq_false_iff_ne, bne_iff_ne, bne_eq_false_iff_eq, Bool.not_eq_true', Bool.not_eq_false', Bool.not_eq_true, Bool.not_eq_false] at hc) <;> first | (first | (exact absurd rfl hc) | (exfalso; omega) | (exact absurd (hc.symm.trans (by assumption : _ = false)) (by decide)) | (exact absurd (hc.symm.trans (by assumption : _ = true)) (by decide))) | skip)) | refine drawK.nn ?_ | refine loopK.x ?_)
    | (fail)
    | fail
  all_goals first | (exfalso; omega) | skip
  refine JC.loop (fun i => i == 9 || Nat.ble 18 i) (fun k2 g L' => ∃ (j : Nat) (d : List Int) (hD : Heap), g 9 = .int .i64 (j : Int) ∧ j = k2 ∧ j ≤ i ∧ L' = hD :: L ∧ d.Perm l ∧ SrtI cm d i j ∧ OwT encI 1 3 a c d hD) i ⟨i, d, hD, rfl, rfl, Nat.le_refl _, rfl, hp, fun p q h1 h2 h3 => hs p q h1 (by omega), oD⟩ ?_
  clear oD hs hp hdl hD d
  rintro k2 g2 _ ⟨j, d, hD, e9, rfl, hji, rfl, hp, hs, oD⟩
  have hdl : d.length = l.length := hp.length_eq
  have hm : ∀ k, k < l.length → d.getD k default ∈ l := fun k hk => hp.mem_iff.1 (getD_mem (by omega))
  refine JC.pin 9 e9 ?_
  rcases Nat.eq_zero_or_pos j with hj0 | hj0
  case inl =>
    subst hj0
    have hs1 := hs.done cok hp hn (by omega) (by omega) (.inl rfl)
    repeat' first
      | (refine J.isJ ?_; first | (fail) | (first | (refine J.o 0 ?_; refine J.ev' hΓ ?_) | refine J.nil ?_ | refine J.kd ?_ | (refine J.o 4 ?_; first | refine J.lT default hΓ ?_) | (refine J.o 3 ?_; first | refine J.iJ hΓ ?_ | refine J.ev' hΓ ?_) | (refine J.o 1 ?_; first | refine J.ad ?_ | refine J.sb ?_) | (refine J.o 5 ?_; first | refine J.tT _ default hΓ (fun _ _ => ?_)) | (refine J.o 10 ?_; refine J.ev' hΓ ?_) | (refine J.o 11 ?_; refine J.ev' hΓ ?_)) | ((fail_if_success refine J.wt ?_); refine J.gc rfl rfl (fun hc => ?_) (fun hc => ?_) <;> ((try simp only [decide_eq_true_eq, decide_eq_false_iff_not, beq_iff_eq, beq_eq_false_iff_ne, bne_iff_ne, bne_eq_false_iff_eq, Bool.not_eq_true', Bool.not_eq_false', Bool.not_eq_true, Bool.not_eq_false] at hc) <;> first | (first | (exact absurd rfl hc) | (exfalso; omega) | (exact absurd (hc.symm.trans (by assumption : _ = false)) (by decide)) | (exact absurd (hc.symm.trans (by assumption : _ = true)) (by decide))) | skip)))
      | (first | refine JC.seq ?_ | refine JC.region ?_ | refine JC.block ?_ | refine JC.exit ?_ | refine JC.skip ?_ | refine thenK.nn ?_ | refine thenK.x ?_ | refine blockK.nn ?_ | refine blockK.hit rfl ?_ | refine JC.condF rfl ?_ | (refine JC.cond rfl (fun hc => ?_) (fun hc => ?_) <;> ((try simp only [decide_eq_true_eq, decide_eq_false_iff_not, beq_iff_eq, beq_eq_false_iff_ne, bne_iff_ne, bne_eq_false_iff_eq, Bool.not_eq_true', Bool.not_eq_false', Bool.not_eq_true, Bool.not_eq_false] at hc) <;> first | (first | (exact absurd rfl hc) | (exfalso; omega) | (exact absurd (hc.symm.trans (by assumption : _ = false)) (by decide)) | (exact absurd (hc.symm.trans (by assumption : _ = true)) (by decide))) | skip)) | refine drawK.nn ?_ | refine loopK.x ?_)
      | ((refine JC.drawA [] (by decide +kernel) (by decide +kernel) ?_))
      | fail
    all_goals first | (exfalso; omega) | skip
    refine loopK.nn (k - 1) (by omega) (by repeat (first | refine Ag.upd rfl ?_ | exact Ag.hv | refine Ag.hv2 (fun i hi => by simp at hi ⊢; omega) ?_)) ⟨i + 1, d, hD, ?_, by omega, by omega, rfl, hp, hs1, oD⟩
    show Value.int .i64 _ = _; congr 1
  obtain ⟨j, rfl⟩ : ∃ m, j = m + 1 := ⟨j - 1, by omega⟩
  have hq : (((j + 1 : Nat) : Int) - 1).toNat = j := by omega
  have hj1 : j + 1 < d.length := by omega
  repeat' first
    | (refine J.isJ ?_; first | (first | (refine J.o 3 ?_; refine J.iJ hΓ ?_ (hs := oD.sl)) | (refine J.o 4 ?_; refine J.lT default hΓ ?_ (hs := oD.sl) (hr := RdH.hd)) | (refine J.o 9 ?_; refine J.callv0 cok.en rfl rfl rfl (fun w hw => cok.gv _ (hm _ (by omega)) _ (hm _ (by omega)) w (hw.rdH rM.tl)) ?_) | (refine J.o 5 ?_; first | refine J.tT (enc := encI) (d.getD j default) default hΓ (fun h5 o5 => ?_) (ho := oD))) | (first | (refine J.o 0 ?_; refine J.ev' hΓ ?_) | refine J.nil ?_ | refine J.kd ?_ | (refine J.o 4 ?_; first | refine J.lT default hΓ ?_) | (refine J.o 3 ?_; first | refine J.iJ hΓ ?_ | refine J.ev' hΓ ?_) | (refine J.o 1 ?_; first | refine J.ad ?_ | refine J.sb ?_) | (refine J.o 5 ?_; first | refine J.tT _ default hΓ (fun _ _ => ?_)) | (refine J.o 10 ?_; refine J.ev' hΓ ?_) | (refine J.o 11 ?_; refine J.ev' hΓ ?_)) | ((fail_if_success refine J.wt ?_); refine J.gc rfl rfl (fun hc => ?_) (fun hc => ?_) <;> ((try simp only [decide_eq_true_eq, decide_eq_false_iff_not, beq_iff_eq, beq_eq_false_iff_ne, bne_iff_ne, bne_eq_false_iff_eq, Bool.not_eq_true', Bool.not_eq_false', Bool.not_eq_true, Bool.not_eq_false] at hc) <;> first | (first | (exact absurd rfl hc) | (exfalso; omega) | (exact absurd (hc.symm.trans (by assumption : _ = false)) (by decide)) | (exact absurd (hc.symm.trans (by assumption : _ = true)) (by decide))) | skip)))
    | (first | refine JC.seq ?_ | refine JC.region ?_ | refine JC.block ?_ | refine JC.exit ?_ | refine JC.skip ?_ | refine thenK.nn ?_ | refine thenK.x ?_ | refine blockK.nn ?_ | refine blockK.hit rfl ?_ | refine JC.condF rfl ?_ | (refine JC.cond rfl (fun hc => ?_) (fun hc => ?_) <;> ((try simp only [decide_eq_true_eq, decide_eq_false_iff_not, beq_iff_eq, beq_eq_false_iff_ne, bne_iff_ne, bne_eq_false_iff_eq, Bool.not_eq_true', Bool.not_eq_false', Bool.not_eq_true, Bool.not_eq_false] at hc) <;> first | (first | (exact absurd rfl hc) | (exfalso; omega) | (exact absurd (hc.symm.trans (by assumption : _ = false)) (by decide)) | (exact absurd (hc.symm.trans (by assumption : _ = true)) (by decide))) | skip)) | refine drawK.nn ?_ | refine loopK.x ?_)
    | (first | (refine JC.drawO [(0,0),(0,1),(0,2),(0,3),(0,4),(0,5),(0,6),(0,7),(0,8),(1,9),(0,10),(0,11),(0,12),(1,13),(0,14),(2,15),(0,16),(2,17)] (by decide +kernel) (by decide +kernel) ?_) | (refine JC.drawA [] (by decide +kernel) (by decide +kernel) ?_))
    | fail
  all_goals first | (exfalso; omega) | skip
  · rename_i _ h5 o5 h6 o6
    rw [hq] at hc o6
    have o7 : OwT encI 1 3 a c (swp d j) h6 := by
      unfold swp
      rw [List.set_comm _ _ (by omega)]
      exact o6
    refine loopK.nn j (by omega) (by repeat (first | refine Ag.upd rfl ?_ | exact Ag.hv | refine Ag.hv2 (fun i hi => by simp at hi ⊢; omega) ?_)) ⟨j, swp d j, h6, ?_, rfl, by omega, rfl, (swp_perm d hj1).trans hp, hs.step (by omega) hji hc, o7⟩
    show Value.int .i64 _ = _; congr 1; omega
  · rw [hq] at hc
    have hs1 := hs.done cok hp hn (by omega) hji (.inr hc)
    refine loopK.nn (k - 1) (by omega) (by repeat (first | refine Ag.upd rfl ?_ | exact Ag.hv | refine Ag.hv2 (fun i hi => by simp at hi ⊢; omega) ?_)) ⟨i + 1, d, hD, ?_, by omega, by omega, rfl, hp, hs1, oD⟩
    show Value.int .i64 _ = _; congr 1
theorem pdqC_any {fc : FuncId} {lb : List Value} {cm : Int → Int → Int} {l : List Int} {hM : Heap} (cok : CmpOk fc lb cm l hM) (hn : l.Nodup) (hl : l.length ≤ 12) {a : Option Addr} {c : Nat} {hQ : Heap} (oQ : OwT encI 1 3 a c l hQ) (x : Int) {w0 w : World} {R : Heap} {L : List Heap} (rM : RdH R L hM) (hw : H w0 R (hQ :: L) w) :
    Calls Tryz.prog 63 #[.slice a l.length c, .int .i64 0, .int .i64 (l.length : Int), .int .i64 x, .func (.func fc) ⟨[]⟩ ⟨lb⟩] w fun e w' => ∃ v L', e = .returned v ∧ H w0 R L' w' ∧ ∃ d hD, v = .tuple #[] ∧ L' = hD :: L ∧ d.Perm l ∧ SrtO cm d d.length ∧ OwT encI 1 3 a c d hD := by
  refine calls_in Tryz.func63 Tryz.ntmps63 rfl rfl (hw) ?_
  repeat' first
    | (refine J.isJ ?_; first | ((refine J.fc 84 ?_; refine J.callx eInsC rfl rfl (fun w hw => insC_any cok hn hl oQ rM hw) ?_; rintro _ _ ⟨d, hD, rfl, rfl, h1, h2, h3⟩)) | (first | (refine J.o 0 ?_; refine J.ev' hΓ ?_) | refine J.nil ?_ | (refine J.o 3 ?_; first | refine J.ev' hΓ ?_) | (refine J.o 1 ?_; first | refine J.sb ?_) | (refine J.o 10 ?_; refine J.ev' hΓ ?_) | (refine J.o 11 ?_; refine J.ev' hΓ ?_)))
    | (first | refine JC.seq ?_ | refine JC.region ?_ | refine JC.block ?_ | refine JC.ret ?_ | refine thenK.nn ?_ | refine thenK.r ?_ | refine blockK.r ?_ | (refine JC.cond rfl (fun hc => ?_) (fun hc => ?_) <;> ((try simp only [decide_eq_true_eq, decide_eq_false_iff_not, beq_iff_eq, beq_eq_false_iff_ne, bne_iff_ne, bne_eq_false_iff_eq, Bool.not_eq_true', Bool.not_eq_false', Bool.not_eq_true, Bool.not_eq_false] at hc) <;> first | (first | (exact absurd rfl hc) | (exfalso; omega) | (exact absurd (hc.symm.trans (by assumption : _ = false)) (by decide)) | (exact absurd (hc.symm.trans (by assumption : _ = true)) (by decide))) | skip)) | refine roundK.r ?_)
    | ((refine JC.rounds 0 ?_))
    | fail
  all_goals first | (exfalso; omega) | skip
  all_goals first | exact ret0 rfl (fun w hw => ⟨_, _, rfl, hw, d, hD, rfl, rfl, h1, h2, h3⟩) | exact ret0n rfl (fun w hw => ⟨_, _, rfl, hw, d, hD, rfl, rfl, h1, h2, h3⟩)
theorem sortF_any {fc : FuncId} {lb : List Value} {cm : Int → Int → Int} {l : List Int} {hM : Heap} (cok : CmpOk fc lb cm l hM) (hn : l.Nodup) (hl : l.length ≤ 12) {a : Option Addr} {c : Nat} {hQ : Heap} (oQ : OwT encI 1 3 a c l hQ) {w0 w : World} {R : Heap} {L : List Heap} (rM : RdH R L hM) (hw : H w0 R (hQ :: L) w) :
    Calls Tryz.prog 36 #[.slice a l.length c, .func (.func fc) ⟨[]⟩ ⟨lb⟩] w fun e w' => ∃ v L', e = .returned v ∧ H w0 R L' w' ∧ ∃ d hD, v = .tuple #[] ∧ L' = hD :: L ∧ d.Perm l ∧ SrtO cm d d.length ∧ OwT encI 1 3 a c d hD := by
  refine calls_in Tryz.func36 Tryz.ntmps36 rfl rfl (hw) ?_
  repeat' first
    | (refine J.isJ ?_; first | (first | (refine J.o 2 ?_; refine J.cv _ hΓ ?_) | (refine J.fc 64 ?_; refine J.call0 eBLen rfl rfl (fun w hw => (Tryz.bits_Len _ w (by omega) (by omega)).mono (by rintro e w' ⟨rfl, rfl⟩; exact ⟨rfl, Below.refl _ _⟩)) ?_) | (refine J.fc 63 ?_; refine J.callx ePdqC rfl rfl (fun w hw => pdqC_any cok hn hl oQ _ rM hw) ?_; rintro _ _ ⟨d, hD, rfl, rfl, h1, h2, h3⟩)) | (first | (refine J.o 0 ?_; refine J.ev' hΓ ?_) | refine J.nil ?_ | (refine J.o 3 ?_; first | refine J.ev' hΓ ?_) | (refine J.o 10 ?_; refine J.ev' hΓ ?_) | (refine J.o 11 ?_; refine J.ev' hΓ ?_)))
    | (first | refine JC.seq ?_ | refine JC.region ?_ | refine thenK.nn ?_)
    | (fail)
    | fail
  all_goals first | (exfalso; omega) | skip
  all_goals first | exact ret0 rfl (fun w hw => ⟨_, _, rfl, hw, d, hD, rfl, rfl, h1, h2, h3⟩) | exact ret0n rfl (fun w hw => ⟨_, _, rfl, hw, d, hD, rfl, rfl, h1, h2, h3⟩)
end Go.Proofs.YtbhgahjeocnfcaaGreat
namespace Go.Proofs.YtbhgahjeocnfcaaGreat
open Go Go.Cx Go.RowKit
set_option linter.unusedVariables false
set_option linter.unusedSimpArgs false
set_option maxHeartbeats 4000000
attribute [local irreducible] J JC thenK blockK loopK roundK drawK retK QW Qt pel List.set Calls
open Go.Maps Go.Lib
set_option maxRecDepth 8000
attribute [local irreducible] JE Br eK0 eK3 brK pc
section
variable {P : Program} {n : Nat} {w0 : World} {R : Heap} {K0 : Exit → Fr → List Heap → Prop} {f : Fr} {L : List Heap} {l0 : List Oper} {rest : List (Nat × Oper)} {q : Nat}
variable {Γ : List (Nat × TI)} {d : Nat} {ty : TypeId} {pos : String} {aft : Array Edge} {g : Option (Nat × Bool)}
variable {κ : Type} [DecidableEq κ] {kt e : TypeId} {ek : κ → Value}
theorem J.lkN {t : TypeId} {m x : Operand} {mm : List (κ × Nat)} {b : Nat} {h : Heap} {a : κ} {s1 s2 b1 b2 : Nat} {z1 : Option Value} {de : TypeDesc} (c : Nat) (K : Keyed P kt) (inj : ∀ x y, ek x = ek y → x = y) (mt : MapT P kt ek evI mm b h) (hr : RdH R L h) (hkey : ∃ l, keyOf P kt (ek a) = some l) (hΓ : Fits P Γ) (hget : (mget mm a).getD 0 = c)
    (k : J P n w0 R l0 K0 rest (upd f d (.int .i64 (c : Int))) L)
    (hg : wantB n f l0 ⟨some d, .lookup t m x false, ty, pos, aft, g⟩ = true := by exact rfl) (hm : Cx.ev n f m = .map (some b) := by exact rfl) (hx : Cx.ev n f x = ek a := by exact rfl) (ht : Go.Cx.look Γ t = some ⟨.map kt e, s1, z1, b1⟩ := by exact rfl) (he : Go.Cx.look Γ e = some ⟨de, s2, some (.int .i64 0), b2⟩ := by exact rfl) :
    J P n w0 R l0 K0 ((q + 1, ⟨some d, .lookup t m x false, ty, pos, aft, g⟩) :: rest) f L := by
  refine J.lk K inj mt hr hkey hΓ ?_ hg hm hx ht he
  subst hget
  cases hmm : mget mm a with
  | some y => rw [hmm] at k; exact k
  | none => rw [hmm] at k; exact k
end
end Go.Proofs.YtbhgahjeocnfcaaGreat
