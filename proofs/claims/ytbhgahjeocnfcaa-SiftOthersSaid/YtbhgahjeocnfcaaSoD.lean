/- SiftOthers: a swap leaves the number of nodes of each other variable: the law returns true. -/
import Derived.Test.YtbhgahjeocnfcaaSoC
namespace Go.Proofs.Ytbhgahjeocnfcaa
open Go Go.Cx Go.RowKit
set_option linter.unusedVariables false
set_option linter.unusedSimpArgs false
set_option maxHeartbeats 4000000
attribute [local irreducible] J JC thenK blockK loopK drawK retK QW Qt pel List.set Calls
open Go.Maps Go.Lib
set_option maxRecDepth 8000
attribute [local irreducible] JE Br eK0 eK3 brK pc
theorem mput_keep {κ β : Type} [DecidableEq κ] {m : List (κ × β)} {x z : κ} {y v : β} (h : (z, v) ∈ m) : ∃ v', (z, v') ∈ mput m x y := by
  have : z ∈ (mput m x y).map (·.1) := by
    rw [mput_keys]
    have hz : z ∈ m.map (·.1) := List.mem_map.2 ⟨_, h, rfl⟩
    split
    · exact hz
    · exact List.mem_append_left _ hz
  obtain ⟨p, hp, e⟩ := List.mem_map.1 this
  exact ⟨p.2, by rw [← e]; exact hp⟩
structure ROk (n : Nat) (o l : List Int) (ns ts : List N3) (m : List (Int × Nat)) : Prop where
  at_ : ∀ (a y : Nat), ((a : Int), y) ∈ m → a < ns.length ∧ y < ts.length ∧ ∀ β, fn n ts y (asgV l β) = fn n ns a (asgV o β)
  two : ∀ a : Nat, a < 2 → ∃ y, ((a : Int), y) ∈ m
theorem ROk.ext {n : Nat} {o l : List Int} {ns ts us : List N3} {m : List (Int × Nat)} (w : WF n ts) (h : ROk n o l ns ts m) (e : Ext ts us) : ROk n o l ns us m := ⟨fun a y hm => by
  obtain ⟨h1, h2, h3⟩ := h.at_ a y hm
  exact ⟨h1, Nat.lt_of_lt_of_le h2 e.le, fun β => by rw [fn_ext w e h2, h3]⟩, h.two⟩
theorem ROk.put {n : Nat} {o l : List Int} {ns ts : List N3} {m : List (Int × Nat)} (h : ROk n o l ns ts m) {a y : Nat} (h1 : a < ns.length) (h2 : y < ts.length) (h3 : ∀ β, fn n ts y (asgV l β) = fn n ns a (asgV o β)) : ROk n o l ns ts (mput m (a : Int) y) := ⟨fun b z hm => by
  rcases mput_mem hm with hm | ⟨e1, e2⟩
  · exact h.at_ b z hm
  · obtain rfl : b = a := by omega
    subst e2
    exact ⟨h1, h2, h3⟩, fun b hb => by
  obtain ⟨z, hz⟩ := h.two b hb
  exact mput_keep hz⟩
def fnR (c1 c2 c3 c4 : Nat) : Obj := .cells ⟨[.func (.func 117) ⟨[]⟩ ⟨[.pointer (some ⟨c1, 0, none⟩), .pointer (some ⟨c2, 0, none⟩), .pointer (some ⟨c3, 0, none⟩), .pointer (some ⟨c4, 0, none⟩)]⟩]⟩ 38 (0, 0)
theorem eRebC : Entr Try.prog 117 := Entr.of Try.func117 rfl rfl
theorem eReb2 : Entr Try.prog 62 := Entr.of Try.func62 rfl rfl
theorem stR_of2 {R : Heap} {L : List Heap} {K : KS} {b : Nat} {s : SS} {hO : Heap} (r : RdH R L (stR K b s hO)) {w0 w : World} (hw : H w0 R L w) : Holds (stR K b s hO) w := hw.rdH r
set_option maxHeartbeats 16000000 in
theorem rebC_any {n : Nat} {K Kt : KS} {s : SS} {o l : List Int} {hO hP hO2 hP2 : Heap} (so : SOk n K s) (po : POk K o hO hP) (pt : POk Kt l hO2 hP2) (hKt : Kt.no = n) (h8 : n ≤ 8) (hm : ∀ v, v ∈ o → v ∈ l) (bs bt c1 c2 c3 c4 bd : Nat) : ∀ (d a : Nat) (t : SS) (m : List (Int × Nat)) (hD : Heap), n ≤ (nd s.ns a).p + d → SOk n Kt t → a < s.ns.length → t.ns.length + (2 ^ d - 1) * 256 ≤ 1048576 → MapT Try.prog 3 ekI evI m bd hD → ROk n o l s.ns t.ns m →
    ∀ {w0 w : World} {R : Heap} {L : List Heap}, H w0 R (sF Kt bt t ++ (hO2 :: hP2 :: hD :: L)) w → RdH R L (stR K bs s hO) → Rd R L c1 (mapD bd) → Rd R L c2 (ptrS bs) → Rd R L c3 (ptrS bt) → Rd R L c4 (fnR c1 c2 c3 c4) →
    Calls Try.prog 117 #[.int .i64 (a : Int), .pointer (some ⟨c1, 0, none⟩), .pointer (some ⟨c2, 0, none⟩), .pointer (some ⟨c3, 0, none⟩), .pointer (some ⟨c4, 0, none⟩)] w fun e w' => ∃ v L', e = .returned v ∧ H w0 R L' w' ∧ ∃ t' m' hD' y, v = .tuple #[.int .i64 ((y : Nat) : Int), .int .i64 0] ∧ L' = sF Kt bt t' ++ (hO2 :: hP2 :: hD' :: L) ∧ MapT Try.prog 3 ekI evI m' bd hD' ∧ ROk n o l s.ns t'.ns m' ∧ Adds n Kt t t' ((2 ^ d - 1) * 256) y ∧ ∀ β, fn n t'.ns y (asgV l β) = fn n s.ns a (asgV o β) := by
  have h2n := pow8 h8
  intro d
  induction d using Nat.strongRecOn with
  | ind d ih =>
  intro a t m hD hp st ha hfull mp ro w0 w R L hw rS r1 r2 r3 r4
  have sm := so.sm
  have wf := so.wf
  have hno := so.no
  have hpl := po.len
  have hkey := keyI (a : Int) (by omega)
  have r1' := r1
  have r2' := r2
  have r3' := r3
  have r4' := r4
  unfold mapD at r1'
  unfold ptrS at r2' r3'
  unfold fnR at r4'
  unfold sF at hw
  simp only [List.cons_append, List.nil_append] at hw
  cases hget : mget m (a : Int) with
  | some y =>
    obtain ⟨_, hy, hfy⟩ := ro.at_ a y (mget_mem hget)
    refine calls_in Try.func117 Try.ntmps117 rfl rfl (hw) ?_
    repeat' first
      | (refine J.isJ ?_; first | (first | (refine J.o 4 ?_; refine J.lR hΓ ?_ (hr := r1'.tl.tl.tl.tl.tl.tl.tl)) | (refine J.o 9 ?_; refine J.lk (a := (a : Int)) keyedI ekI_inj mp (by first | exact RdH.hd | exact RdH.hd.tl | exact RdH.hd.tl.tl | exact RdH.hd.tl.tl.tl | exact RdH.hd.tl.tl.tl.tl | exact RdH.hd.tl.tl.tl.tl.tl | exact RdH.hd.tl.tl.tl.tl.tl.tl | exact RdH.hd.tl.tl.tl.tl.tl.tl.tl | exact RdH.old (fun _ hh => hh) | assumption) hkey hΓ ?_; rw [hget])) | (first | (refine J.o 0 ?_; refine J.ev' hΓ ?_) | refine J.nil ?_ | (refine J.o 4 ?_; first | refine J.lR hΓ ?_) | (refine J.o 3 ?_; first | refine J.ev' hΓ ?_) | (refine J.o 10 ?_; refine J.ev' hΓ ?_) | (refine J.o 11 ?_; refine J.ev' hΓ ?_)))
      | (first | refine JC.seq ?_ | refine JC.region ?_ | refine JC.ret ?_ | refine JC.skip ?_ | refine thenK.nn ?_ | refine thenK.r ?_ | refine JC.condT rfl ?_ | refine JC.condF rfl ?_)
      | (fail)
      | fail
    all_goals first | (exfalso; omega) | skip
    refine ret2f rfl rfl rfl rfl rfl (fun w1 hw => ⟨_, _, rfl, hw, t, m, hD, y, rfl, rfl, mp, ro, ⟨st, Ext.refl _, by omega, hy⟩, hfy⟩)
  | none =>
    have h2 : 2 ≤ a := by
      rcases Nat.lt_or_ge a 2 with g | g
      · obtain ⟨y, hy⟩ := ro.two a g
        exact absurd hy (mget_out hget y)
      · exact g
    have hpn := wf.pl a h2 ha
    have hll := wf.ll a h2 ha
    have hhl := wf.hl a h2 ha
    have hlp := wf.lp a h2 ha
    have hhp := wf.hp a h2 ha
    have hvo : o.getD (nd s.ns a).p default ∈ o := mem_g o _ (by omega)
    obtain ⟨k, hk⟩ : ∃ k, rk l (o.getD (nd s.ns a).p default) 0 = some k := by
      cases h : rk l (o.getD (nd s.ns a).p default) 0 with
      | some k => exact ⟨k, rfl⟩
      | none => exact absurd (hm _ hvo) (rk_none.1 h)
    have hv := po.ok.1 _ hvo
    have hd2 : 2 ^ d = 2 ^ (d - 1) + 2 ^ (d - 1) := by rw [← Nat.mul_two, ← Nat.pow_succ, show (d - 1).succ = d by omega]
    have hd0 : 0 < 2 ^ (d - 1) := Nat.pow_pos (by decide)
    have cP := fun w hw => Parts_node so po bs a h2 ha w hw
    refine calls_in Try.func117 Try.ntmps117 rfl rfl (hw) ?_
    repeat' first
      | (refine J.isJ ?_; first | (first | (refine J.o 4 ?_; first | refine J.lR hΓ ?_ (hr := r1'.tl.tl.tl.tl.tl.tl.tl) | refine J.lR hΓ ?_ (hr := r2'.tl.tl.tl.tl.tl.tl.tl) | refine J.lR hΓ ?_ (hr := r3'.tl.tl.tl.tl.tl.tl.tl) | refine J.lR hΓ ?_ (hr := r4'.tl.tl.tl.tl.tl.tl.tl)) | (refine J.o 9 ?_; refine J.lk (a := (a : Int)) keyedI ekI_inj mp (by first | exact RdH.hd | exact RdH.hd.tl | exact RdH.hd.tl.tl | exact RdH.hd.tl.tl.tl | exact RdH.hd.tl.tl.tl.tl | exact RdH.hd.tl.tl.tl.tl.tl | exact RdH.hd.tl.tl.tl.tl.tl.tl | exact RdH.hd.tl.tl.tl.tl.tl.tl.tl | exact RdH.old (fun _ hh => hh) | assumption) hkey hΓ ?_; rw [hget]) | (refine J.fc 66 ?_; refine J.call0 eParts rfl rfl (fun w hw => cP w (stR_of2 rS.tl.tl.tl.tl.tl.tl.tl hw)) ?_) | (refine J.fc 26 ?_; refine J.callx eVarS rfl rfl (fun w hw => Var_any st pt _ (by omega) k hk (by omega) (L := hD :: L) hw) ?_; rintro _ _ ⟨t1, x1, rfl, rfl, ad1, f1⟩; unfold sF; simp only [List.cons_append, List.nil_append])) | (first | (refine J.o 0 ?_; refine J.ev' hΓ ?_) | refine J.nil ?_ | (refine J.o 4 ?_; first | refine J.lR hΓ ?_) | (refine J.o 3 ?_; first | refine J.ev' hΓ ?_) | (refine J.o 10 ?_; refine J.ev' hΓ ?_) | (refine J.o 11 ?_; refine J.ev' hΓ ?_)))
      | (first | refine JC.seq ?_ | refine JC.region ?_ | refine JC.ret ?_ | refine JC.skip ?_ | refine thenK.nn ?_ | refine thenK.r ?_ | refine JC.condT rfl ?_ | refine JC.condF rfl ?_)
      | (fail)
      | fail
    all_goals first | (exfalso; omega) | skip
    have l1 := ad1.le
    refine J.isJ ?_
    refine J.o 9 ?_
    refine J.callvx eRebC rfl rfl rfl (fun w hw => ih (d - 1) (by omega) (nd s.ns a).l t1 m hD (by omega) ad1.ok hll (by omega) mp (ro.ext st.wf ad1.ext) (L := L) hw rS r1 r2 r3 r4) ?_
    rintro _ _ ⟨t2, m2, hD2, y2, rfl, rfl, mp2, ro2, ad2, f2⟩
    have l2 := ad2.le
    unfold sF
    simp only [List.cons_append, List.nil_append]
    repeat' first
      | (refine J.isJ ?_; first | ((refine J.o 4 ?_; refine J.lR hΓ ?_ (hr := r4'.tl.tl.tl.tl.tl.tl.tl))) | (first | (refine J.o 0 ?_; refine J.ev' hΓ ?_) | refine J.nil ?_ | (refine J.o 4 ?_; first | refine J.lR hΓ ?_) | (refine J.o 3 ?_; first | refine J.ev' hΓ ?_) | (refine J.o 10 ?_; refine J.ev' hΓ ?_) | (refine J.o 11 ?_; refine J.ev' hΓ ?_)))
      | (first | refine JC.seq ?_ | refine JC.region ?_ | refine JC.ret ?_ | refine JC.skip ?_ | refine thenK.nn ?_ | refine thenK.r ?_ | refine JC.condT rfl ?_ | refine JC.condF rfl ?_)
      | (fail)
      | fail
    all_goals first | (exfalso; omega) | skip
    refine J.isJ ?_
    refine J.o 9 ?_
    refine J.callvx eRebC rfl rfl rfl (fun w hw => ih (d - 1) (by omega) (nd s.ns a).h t2 m2 hD2 (by omega) ad2.ok hhl (by omega) mp2 ro2 (L := L) hw rS r1 r2 r3 r4) ?_
    rintro _ _ ⟨t3, m3, hD3, y3, rfl, rfl, mp3, ro3, ad3, f3⟩
    have l3 := ad3.le
    unfold sF
    simp only [List.cons_append, List.nil_append]
    repeat' first
      | (refine J.isJ ?_; first | (first | (refine J.o 4 ?_; first | refine J.lR hΓ ?_ (hr := r3'.tl.tl.tl.tl.tl.tl.tl)) | (refine J.fc 118 ?_; refine J.callx eIf rfl rfl (fun w hw => If_any ad3.ok x1 (ad3.old (ad2.old ad1.lt)) y3 ad3.lt y2 (ad3.old ad2.lt) (by omega) (L := hO2 :: hP2 :: hD3 :: L) hw) ?_; rintro _ _ ⟨t4, y4, rfl, rfl, ad4, f4⟩; unfold sF; simp only [List.cons_append, List.nil_append]) | (refine J.o 4 ?_; refine J.lR hΓ ?_ (hr := r1'.tl.tl.tl.tl.tl.tl.tl)) | (refine J.o 9 ?_; refine J.perm (bring_perm 6 _) ?_; refine J.mup (a := (a : Int)) (ev := evI) y4 keyedI ekI_inj mp3 hkey hΓ (fun h4 mt4 => ?_))) | (first | (refine J.o 0 ?_; refine J.ev' hΓ ?_) | refine J.nil ?_ | (refine J.o 4 ?_; first | refine J.lR hΓ ?_) | (refine J.o 3 ?_; first | refine J.ev' hΓ ?_) | (refine J.o 10 ?_; refine J.ev' hΓ ?_) | (refine J.o 11 ?_; refine J.ev' hΓ ?_)))
      | (first | refine JC.seq ?_ | refine JC.region ?_ | refine JC.ret ?_ | refine JC.skip ?_ | refine thenK.nn ?_ | refine thenK.r ?_ | refine JC.condT rfl ?_ | refine JC.condF rfl ?_)
      | (fail)
      | fail
    all_goals first | (exfalso; omega) | skip
    have l4 := ad4.le
    have e12 := ad1.ext.trans ad2.ext
    have e23 := ad2.ext.trans ad3.ext
    have hff : ∀ β, fn n t4.ns y4 (asgV l β) = fn n s.ns a (asgV o β) := fun β => by
      have hβ : asgV l β k = β (o.getD (nd s.ns a).p default) := by
        unfold asgV
        have := (rk_some hk).2.2
        rw [Nat.sub_zero] at this
        rw [this]
      have h1 := f1 (asgV l β)
      dsimp only at h1
      rw [hβ] at h1
      rw [f4]
      dsimp only
      rw [fn_ext ad1.ok.wf e23 ad1.lt, h1, f3, fn_ext ad2.ok.wf ad3.ext ad2.lt, f2, fn_node wf _ h2 ha]
      rfl
    have ro4 := (ro3.ext ad3.ok.wf ad4.ext).put ha ad4.lt hff
    refine ret2f rfl rfl rfl rfl rfl (fun w1 hw => ⟨_, _, rfl, H.sel (l := [_, _, _, _, _, _, _]) (M := L) hw [1, 2, 3, 4, 5, 6, 0], t4, _, h4, y4, rfl, rfl, mt4, ro4, (((ad1.trans ad2).trans ad3).trans ad4).mono (by omega), hff⟩)
end Go.Proofs.Ytbhgahjeocnfcaa
namespace Go.Proofs.Ytbhgahjeocnfcaa
open Go Go.Cx Go.RowKit
set_option linter.unusedVariables false
set_option linter.unusedSimpArgs false
set_option maxHeartbeats 4000000
attribute [local irreducible] J JC thenK blockK loopK drawK retK QW Qt pel List.set Calls
open Go.Maps Go.Lib
set_option maxRecDepth 8000
attribute [local irreducible] JE Br eK0 eK3 brK pc
structure Stv (F : VF) (l : List Int) (K : KS) (s : SS) (y : Nat) (hO hP : Heap) : Prop where
  so : SOk l.length K s
  po : POk K l hO hP
  sy : Says s.ns l y F
theorem Stv.ho {F : VF} {l : List Int} {K : KS} {s : SS} {y : Nat} {hO hP : Heap} (st : Stv F l K s y hO hP) : okOrd l := st.po.ok
theorem ROk.start {n : Nat} {o l : List Int} {ns ts : List N3} (w : WF n ns) (w2 : WF n ts) : ROk n o l ns ts [((0 : Int), 0), ((1 : Int), 1)] := by
  have h1 := w.two
  have h2 := w2.two
  refine ⟨fun a y hm => ?_, fun a ha => ?_⟩
  · rcases List.mem_cons.1 hm with e | hm
    · obtain ⟨e1, e2⟩ := Prod.mk.inj e
      obtain rfl : a = 0 := by omega
      subst e2
      exact ⟨by omega, by omega, fun β => by rw [fn_0 w, fn_0 w2]⟩
    · obtain ⟨e1, e2⟩ := Prod.mk.inj (List.mem_singleton.1 hm)
      obtain rfl : a = 1 := by omega
      subst e2
      exact ⟨by omega, by omega, fun β => by rw [fn_1 w, fn_1 w2]⟩
  · rcases (by omega : a = 0 ∨ a = 1) with rfl | rfl
    · exact ⟨0, List.mem_cons_self⟩
    · exact ⟨1, List.mem_cons_of_mem _ List.mem_cons_self⟩
def RebQ (F : VF) (l : List Int) (L : List Heap) (v : Value) (L' : List Heap) : Prop := ∃ bt Kt t y hO2 hP2, v = .tuple #[.pointer (some ⟨bt, 0, none⟩), .int .i64 ((y : Nat) : Int), .int .i64 0] ∧ L' = sF Kt bt t ++ (hO2 :: hP2 :: L) ∧ Stv F l Kt t y hO2 hP2
set_option maxHeartbeats 16000000 in
theorem rebuilt_any {F : VF} {o : List Int} {K : KS} {s : SS} {a : Nat} {hO hP : Heap} (sv : Stv F o K s a hO hP) (h8 : o.length ≤ 8) (l : List Int) (hlen : l.length = o.length) (ho : okOrd l) (hm : ∀ v, v ∈ o → v ∈ l) (al : Option Addr) (cl : Nat) (hl : Heap) (hs : SlT encI 1 al l hl) {w0 w : World} {R : Heap} {L : List Heap} {bs : Nat} (rS : RdH R L (stR K bs s hO)) (rl : RdH R L hl) (hw : H w0 R L w) :
    Calls Try.prog 62 #[.pointer (some ⟨bs, 0, none⟩), .int .i64 (a : Int), .slice al l.length cl] w fun e w' => ∃ v L', e = .returned v ∧ H w0 R L' w' ∧ RebQ F l L v L' := by
  have h2n : 2 ^ o.length ≤ 2 ^ 8 := Nat.pow_le_pow_right (by decide) h8
  have so := sv.so
  have ha := sv.sy.1
  refine calls_in Try.func62 Try.ntmps62 rfl rfl (hw) ?_
  refine JC.seq ?_
  refine JC.region ?_
  refine J.isJ ?_
  refine J.o 6 ?_
  refine J.bx (fun c2 => ?_)
  repeat' first
    | (refine J.isJ ?_; first | (first | (refine J.o 7 ?_; first | refine J.al (t := 30) hΓ (fun c3 => ?_) | refine J.al (t := 40) hΓ (fun c1 => ?_) | refine J.al (t := 38) hΓ (fun c4 => ?_)) | (refine J.o 14 ?_; refine J.mfV [.pointer (some ⟨c1, 0, none⟩), .pointer (some ⟨c2, 0, none⟩), .pointer (some ⟨c3, 0, none⟩), .pointer (some ⟨c4, 0, none⟩)] hΓ ?_) | (refine J.fc 25 ?_; refine J.callx eNew rfl rfl (fun w hw => new_any l al cl hl hs ho rl.tl hw) ?_; rintro _ _ ⟨bt, Kt, t, hO2, hP2, rfl, rfl, st, hns, pt⟩; have hlt : t.ns.length = 2 := (by rw [hns]; rfl); unfold sF; simp only [List.cons_append, List.nil_append]) | (refine J.o 9 ?_; first | refine J.mkm (fun bd => ?_) | refine J.ins (ev := evI) 0 keyedI ekI_inj (MapT.nil _) (keyI 0 (by omega)) hΓ (fun h1 mp1 => ?_) | refine J.ins (ev := evI) 1 keyedI ekI_inj mp1 (keyI 1 (by omega)) hΓ (fun hD mp => ?_))) | (first | (refine J.o 0 ?_; refine J.ev' hΓ ?_) | refine J.nil ?_ | (refine J.o 4 ?_; first | refine J.lR hΓ ?_) | (refine J.o 3 ?_; first | refine J.ev' hΓ ?_) | (refine J.o 5 ?_; first | refine J.t0 hΓ ?_) | (refine J.o 6 ?_; refine J.bx (fun _ => ?_)) | (refine J.o 7 ?_; refine J.al hΓ (fun _ => ?_)) | (refine J.o 10 ?_; refine J.ev' hΓ ?_) | (refine J.o 11 ?_; refine J.ev' hΓ ?_)))
    | (first | refine JC.seq ?_ | refine JC.region ?_ | refine JC.ret ?_ | refine JC.skip ?_ | refine thenK.nn ?_ | refine JC.condF rfl ?_)
    | (fail)
    | fail
  all_goals first | (exfalso; omega) | skip
  rw [hlen] at st
  have hin : ∀ β, fn o.length s.ns a (asgV o β) = F β := sv.sy.2
  have hpw : 0 < 2 ^ o.length := Nat.pow_pos (by decide)
  refine J.isJ ?_
  refine J.o 9 ?_
  refine J.callvx eRebC rfl rfl rfl (fun w hw => rebC_any so sv.po pt st.no h8 hm bs bt c1 c2 c3 c4 bd o.length a t _ hD (by omega) st ha (by omega) mp (ROk.start so.wf st.wf) (L := [(c4, fnR c1 c2 c3 c4)] :: [(c1, mapD bd)] :: [(c3, ptrS bt)] :: [(c2, ptrS bs)] :: L) (H.sel (l := [_, _, _, _, _, _, _, _, _, _, _]) (M := L) hw [4, 5, 6, 7, 8, 9, 2, 0, 1, 3, 10]) rS.tl.tl.tl.tl Rd.hd.tl Rd.hd.tl.tl.tl Rd.hd.tl.tl Rd.hd) ?_
  rintro _ _ ⟨t2, m2, hD2, y2, rfl, rfl, mp2, ro2, ad2, f2⟩
  unfold sF
  simp only [List.cons_append, List.nil_append]
  repeat' first
    | (refine J.isJ ?_; first | (first | (refine J.o 4 ?_; refine J.lR hΓ ?_ (hr := Rd.hd.tl.tl.tl.tl.tl.tl.tl.tl.tl))) | (first | (refine J.o 0 ?_; refine J.ev' hΓ ?_) | refine J.nil ?_ | (refine J.o 4 ?_; first | refine J.lR hΓ ?_) | (refine J.o 3 ?_; first | refine J.ev' hΓ ?_) | (refine J.o 5 ?_; first | refine J.t0 hΓ ?_) | (refine J.o 6 ?_; refine J.bx (fun _ => ?_)) | (refine J.o 7 ?_; refine J.al hΓ (fun _ => ?_)) | (refine J.o 10 ?_; refine J.ev' hΓ ?_) | (refine J.o 11 ?_; refine J.ev' hΓ ?_)))
    | (first | refine JC.seq ?_ | refine JC.region ?_ | refine JC.ret ?_ | refine JC.skip ?_ | refine thenK.nn ?_ | refine JC.condF rfl ?_)
    | (fail)
    | fail
  all_goals first | (exfalso; omega) | skip
  refine ret3f rfl rfl rfl rfl rfl rfl rfl (fun w1 hw => ⟨_, _, rfl, H.sel (l := [_, _, _, _, _, _, _, _, _, _, _]) (M := L) hw [0, 1, 2, 3, 4, 5], bt, Kt, t2, y2, hO2, hP2, rfl, rfl, ?_⟩)
  have ok2 := ad2.ok
  have lt2 := ad2.lt
  rw [← hlen] at ok2 f2
  exact ⟨ok2, pt, lt2, fun β => by rw [f2, hlen]; exact hin β⟩
theorem stR_b {R : Heap} {L : List Heap} {K : KS} {b : Nat} {s : SS} {hO : Heap} (r : RdH R L (stR K b s hO)) : Rd R L b (stO K s.an s.ns.length s.cn) := r _ List.mem_cons_self
theorem stR_N {R : Heap} {L : List Heap} {K : KS} {b : Nat} {s : SS} {hO : Heap} (r : RdH R L (stR K b s hO)) : RdH R L s.hN := fun x hx => r x (List.mem_cons_of_mem _ (List.mem_append_left _ hx))
theorem stR_hd {R : Heap} {K : KS} {b : Nat} {s : SS} {hO hP : Heap} (M : List Heap) : RdH R (sF K b s ++ (hO :: hP :: M)) (stR K b s hO) := fun x hx => by
  rcases List.mem_cons.1 hx with rfl | hx
  · exact (Rd.hd : Rd R (sF K b s ++ (hO :: hP :: M)) b _)
  · rcases List.mem_append.1 hx with h | h
    · exact (RdH.hd.tl : RdH R (sF K b s ++ (hO :: hP :: M)) s.hN) x h
    · exact (RdH.hd.tl.tl.tl.tl : RdH R (sF K b s ++ (hO :: hP :: M)) hO) x h
theorem stR_tl {R : Heap} {L : List Heap} {h : Heap} (r : RdH R L h) (K : KS) (b : Nat) (s : SS) (hO hP : Heap) : RdH R (sF K b s ++ (hO :: hP :: L)) h := RdH.app (sF K b s) r.tl.tl
end Go.Proofs.Ytbhgahjeocnfcaa
namespace Go.Proofs.Ytbhgahjeocnfcaa
open Go Go.Cx Go.RowKit
set_option linter.unusedVariables false
set_option linter.unusedSimpArgs false
set_option maxHeartbeats 4000000
attribute [local irreducible] J JC thenK blockK loopK drawK retK QW Qt pel List.set Calls
open Go.Maps Go.Lib
set_option maxRecDepth 8000
attribute [local irreducible] JE Br eK0 eK3 brK pc
def swp (o : List Int) (p : Nat) : List Int := (o.set p (o.getD (p + 1) default)).set (p + 1) (o.getD p default)
theorem swp_len (o : List Int) (p : Nat) : (swp o p).length = o.length := by simp [swp]
theorem swp_get (o : List Int) {p : Nat} (hp : p + 1 < o.length) (i : Nat) : (swp o p).getD i default = if i = p then o.getD (p + 1) default else if i = p + 1 then o.getD p default else o.getD i default := by
  unfold swp
  rw [List.getD_eq_getElem?_getD, List.getElem?_set, List.getElem?_set, List.length_set]
  by_cases h1 : i = p
  · rw [if_pos h1, h1, if_neg (by omega), if_pos rfl, if_pos (by omega)]; rfl
  · rw [if_neg h1]
    by_cases h2 : i = p + 1
    · rw [if_pos h2, if_pos h2.symm, if_pos (by omega)]; rfl
    · rw [if_neg h2, if_neg (fun g => h2 g.symm), if_neg (fun g => h1 g.symm), List.getD_eq_getElem?_getD]
theorem swp_perm (o : List Int) {p : Nat} (hp : p + 1 < o.length) : (swp o p).Perm o := by
  have e1 : o = o.take p ++ o.getD p default :: o.getD (p + 1) default :: o.drop (p + 2) := by
    have h1 := (List.take_append_drop p o).symm
    have h2 := drop_g o p (by omega)
    have h3 := drop_g o (p + 1) hp
    rw [h2, h3] at h1
    exact h1
  have e2 : swp o p = o.take p ++ o.getD (p + 1) default :: o.getD p default :: o.drop (p + 2) := by
    refine List.ext_getElem (by rw [swp_len]; conv => lhs; rw [e1]
                                simp) fun i h1 h2 => ?_
    have hg : ∀ (l : List Int) (h : i < l.length), l[i] = l.getD i default := fun l h => by rw [List.getD_eq_getElem?_getD, List.getElem?_eq_getElem h]; rfl
    rw [hg _ h1, hg _ h2, swp_get o hp]
    rw [swp_len] at h1
    have ht : (o.take p).length = p := by rw [List.length_take]; omega
    rcases Nat.lt_trichotomy i p with g | g | g
    · rw [if_neg (by omega), if_neg (by omega), List.getD_eq_getElem?_getD, List.getD_eq_getElem?_getD, List.getElem?_append_left (by omega), List.getElem?_take_of_lt g]
    · subst g
      rw [if_pos rfl, List.getD_eq_getElem?_getD (l := _ ++ _), List.getElem?_append_right (by omega), ht, Nat.sub_self]; rfl
    · rw [if_neg (by omega), List.getD_eq_getElem?_getD (l := _ ++ _), List.getElem?_append_right (by omega), ht]
      by_cases g2 : i = p + 1
      · rw [if_pos g2, g2, show p + 1 - p = 1 by omega]; rfl
      · obtain ⟨j, hj⟩ : ∃ j, i - p = j + 2 := ⟨i - p - 2, by omega⟩
        rw [if_neg g2, hj, List.getElem?_cons_succ, List.getElem?_cons_succ, List.getElem?_drop, List.getD_eq_getElem?_getD, show p + 2 + j = i by omega]
  rw [e2]
  conv => rhs; rw [e1]
  exact List.Perm.append_left _ (List.Perm.swap _ _ _)
theorem swp_ord {o : List Int} (h : okOrd o) {p : Nat} (hp : p + 1 < o.length) : okOrd (swp o p) :=
  ⟨fun v hv => h.1 v ((swp_perm o hp).mem_iff.1 hv), (swp_perm o hp).nodup_iff.2 h.2⟩
theorem eSwap : Entr Try.prog 17 := Entr.of Try.func17 rfl rfl
theorem eChecked : Entr Try.prog 61 := Entr.of Try.func61 rfl rfl
theorem checked_any {n : Nat} {K : KS} {s : SS} (so : SOk n K s) (b a : Nat) (ha : a < s.ns.length) {hO : Heap} {w0 w : World} {R : Heap} {L : List Heap} (rS : RdH R L (stR K b s hO)) (hw : H w0 R L w) :
    Calls Try.prog 61 #[.pointer (some ⟨b, 0, none⟩), .int .i64 (a : Int)] w fun e w' => ∃ v L', e = .returned v ∧ H w0 R L' w' ∧ v = .int .i64 0 ∧ L' = L := by
  refine calls_in Try.func61 Try.ntmps61 rfl rfl (hw) ?_
  repeat' first
    | (refine J.isJ ?_; first | (first | (refine J.o 11 ?_; refine J.pN hΓ ?_) | (refine J.fc 20 ?_; refine J.callx eSize rfl rfl (fun w hw => Size_any so b a ha (stR_b rS) (stR_N rS) hw) ?_; rintro _ _ ⟨l, rfl, rfl, bel⟩)) | (first | (refine J.o 0 ?_; refine J.ev' hΓ ?_) | refine J.nil ?_ | (refine J.o 3 ?_; first | refine J.ev' hΓ ?_) | (refine J.o 10 ?_; refine J.ev' hΓ ?_) | (refine J.o 11 ?_; refine J.ev' hΓ ?_)))
    | (first | refine JC.seq ?_ | refine JC.region ?_ | refine JC.ret ?_ | refine JC.skip ?_ | refine thenK.nn ?_ | refine JC.condF rfl ?_)
    | (fail)
    | fail
  all_goals first | (exfalso; omega) | skip
  refine ret1f rfl rfl rfl (fun w1 hw => ⟨_, _, rfl, hw, rfl, rfl⟩)
theorem rebuilt_n {F : VF} {o : List Int} {K : KS} {s : SS} {a : Nat} {hO hP : Heap} (sv : Stv F o K s a hO hP) (h8 : o.length ≤ 8) (l : List Int) (nl : Nat) (hnl : l.length = nl) (hlen : l.length = o.length) (ho : okOrd l) (hm : ∀ v, v ∈ o → v ∈ l) (al : Option Addr) (cl : Nat) (hl : Heap) (hs : SlT encI 1 al l hl) {w0 w : World} {R : Heap} {L : List Heap} {bs : Nat} (rS : RdH R L (stR K bs s hO)) (rl : RdH R L hl) (hw : H w0 R L w) :
    Calls Try.prog 62 #[.pointer (some ⟨bs, 0, none⟩), .int .i64 (a : Int), .slice al nl cl] w fun e w' => ∃ v L', e = .returned v ∧ H w0 R L' w' ∧ RebQ F l L v L' := by
  subst hnl
  exact rebuilt_any sv h8 l hlen ho hm al cl hl hs rS rl hw
theorem H.drop6 {K : KS} {b : Nat} {s : SS} {hO hP h : Heap} {L : List Heap} {w0 w : World} {R : Heap} (hw : H w0 R (sF K b s ++ (hO :: hP :: h :: L)) w) : H w0 R (sF K b s ++ (hO :: hP :: L)) w := H.sel (l := [_, _, _, _, _, _, _]) (M := L) hw [0, 1, 2, 3, 4, 5]
theorem Swap_any {F : VF} {o : List Int} {K : KS} {s : SS} {a : Nat} {hO hP : Heap} (sv : Stv F o K s a hO hP) (h8 : o.length ≤ 8) (p : Nat) (hp : p + 1 < o.length) {w0 w : World} {R : Heap} {L : List Heap} {bs : Nat} (rS : RdH R L (stR K bs s hO)) (hw : H w0 R L w) :
    Calls Try.prog 17 #[.pointer (some ⟨bs, 0, none⟩), .int .i64 (a : Int), .int .i64 (p : Int)] w fun e w' => ∃ v L', e = .returned v ∧ H w0 R L' w' ∧ RebQ F (swp o p) L v L' := by
  have so := sv.so
  have ha := sv.sy.1
  have hsl : (swp o p).length = o.length := swp_len o p
  have cO := fun w hw => Order_any so sv.po bs w hw
  have hg1 : (o.set p (o.getD (p + 1) default)).length = o.length := by simp
  refine calls_in Try.func17 Try.ntmps17 rfl rfl (hw) ?_
  repeat' first
    | (refine J.isJ ?_; first | (first | (refine J.fc 61 ?_; refine J.callx eChecked rfl rfl (fun w hw => checked_any so bs a ha rS hw) ?_; rintro _ _ ⟨rfl, rfl⟩) | (refine J.fc 19 ?_; refine J.call1 eOrder rfl rfl (fun w hw => cO w (stR_of2 rS hw)) ?_; rintro _ ho ⟨ao, co, rfl, oo⟩) | (refine J.o 3 ?_; refine J.iJ hΓ ?_ (hs := oo.sl)) | (refine J.o 4 ?_; refine J.lT default hΓ ?_ (hs := oo.sl) (hr := RdH.hd)) | (refine J.o 5 ?_; first | refine J.tT (enc := encI) (o.getD (p + 1) default) default hΓ (fun h5 o5 => ?_) (ho := oo))) | (first | (refine J.o 0 ?_; refine J.ev' hΓ ?_) | refine J.nil ?_ | (refine J.o 4 ?_; first | refine J.lT default hΓ ?_) | (refine J.o 3 ?_; first | refine J.iJ hΓ ?_ | refine J.ev' hΓ ?_) | (refine J.o 1 ?_; first | refine J.ad ?_ | refine J.sb ?_) | (refine J.o 5 ?_; first | refine J.tT _ default hΓ (fun _ _ => ?_)) | (refine J.o 10 ?_; refine J.ev' hΓ ?_) | (refine J.o 11 ?_; refine J.ev' hΓ ?_)))
    | (first | refine JC.seq ?_ | refine JC.region ?_ | refine JC.ret ?_ | refine JC.skip ?_ | refine thenK.nn ?_ | refine JC.condF rfl ?_ | (refine JC.cond rfl (fun hc => ?_) (fun hc => ?_) <;> ((try simp only [decide_eq_true_eq, decide_eq_false_iff_not, beq_iff_eq, beq_eq_false_iff_ne, bne_iff_ne, bne_eq_false_iff_eq, Bool.not_eq_true', Bool.not_eq_false', Bool.not_eq_true, Bool.not_eq_false] at hc) <;> first | (first | (exact absurd rfl hc) | (exfalso; omega) | (exact absurd (hc.symm.trans (by assumption : _ = false)) (by decide)) | (exact absurd (hc.symm.trans (by assumption : _ = true)) (by decide))) | skip)) | refine drawK.nn ?_)
    | ((refine JC.drawO [(0,0),(0,1),(0,2),(0,3),(0,4),(0,5),(0,6),(0,7),(0,8),(1,9),(0,10),(0,11),(0,12),(1,13),(0,14),(2,15),(0,16),(2,17)] (by decide +kernel) (by decide +kernel) ?_))
    | fail
  all_goals first | (exfalso; omega) | skip
  rename_i h6 o6
  have hq : ((p : Int) + 1).toNat = p + 1 := by omega
  rw [hq] at o6
  have o7 : OwT encI 1 3 ao co (swp o p) h6 := o6
  repeat' first
    | (refine J.isJ ?_; first | ((refine J.fc 62 ?_; refine J.callx eReb2 rfl rfl (fun w hw => rebuilt_n sv h8 (swp o p) o.length hsl hsl (swp_ord sv.ho hp) (fun v hv => (swp_perm o hp).mem_iff.2 hv) ao co h6 o7.sl rS.tl RdH.hd hw) ?_; rintro _ _ ⟨bt, Kt, t, y, hO2, hP2, rfl, rfl, sv2⟩)) | (first | (refine J.o 0 ?_; refine J.ev' hΓ ?_) | refine J.nil ?_ | (refine J.o 4 ?_; first | refine J.lT default hΓ ?_) | (refine J.o 3 ?_; first | refine J.iJ hΓ ?_ | refine J.ev' hΓ ?_) | (refine J.o 1 ?_; first | refine J.ad ?_ | refine J.sb ?_) | (refine J.o 5 ?_; first | refine J.tT _ default hΓ (fun _ _ => ?_)) | (refine J.o 10 ?_; refine J.ev' hΓ ?_) | (refine J.o 11 ?_; refine J.ev' hΓ ?_)))
    | (first | refine JC.seq ?_ | refine JC.region ?_ | refine JC.ret ?_ | refine JC.skip ?_ | refine thenK.nn ?_ | refine JC.condF rfl ?_ | (refine JC.cond rfl (fun hc => ?_) (fun hc => ?_) <;> ((try simp only [decide_eq_true_eq, decide_eq_false_iff_not, beq_iff_eq, beq_eq_false_iff_ne, bne_iff_ne, bne_eq_false_iff_eq, Bool.not_eq_true', Bool.not_eq_false', Bool.not_eq_true, Bool.not_eq_false] at hc) <;> first | (first | (exact absurd rfl hc) | (exfalso; omega) | (exact absurd (hc.symm.trans (by assumption : _ = false)) (by decide)) | (exact absurd (hc.symm.trans (by assumption : _ = true)) (by decide))) | skip)) | refine drawK.nn ?_)
    | (fail)
    | fail
  all_goals first | (exfalso; omega) | skip
  refine ret3f rfl rfl rfl rfl rfl rfl rfl (fun w1 hw => ⟨_, _, rfl, H.drop6 hw, bt, Kt, t, y, hO2, hP2, rfl, rfl, sv2⟩)
end Go.Proofs.Ytbhgahjeocnfcaa
namespace Go.Proofs.Ytbhgahjeocnfcaa
open Go Go.Cx Go.RowKit
set_option linter.unusedVariables false
set_option linter.unusedSimpArgs false
set_option maxHeartbeats 4000000
attribute [local irreducible] J JC thenK blockK loopK drawK retK QW Qt pel List.set Calls
open Go.Maps Go.Lib
set_option maxRecDepth 8000
attribute [local irreducible] JE Br eK0 eK3 brK pc
section
variable {P : Program} {n : Nat} {w0 : World} {R : Heap} {l0 : List Oper} {K : Exit → Fr → List Heap → Prop} {f : Fr} {L : List Heap} {rest : List (Nat × Oper)} {κ : Nat}
variable {d : Nat} {ty : TypeId} {pos : String} {aft : Array Edge} {g : Option (Nat × Bool)} {t u : TypeId} {x y : Operand}
theorem J.eqT2 {Γ : List (Nat × TI)} {a b : Nat} (hΓ : Fits P Γ) (h : a = b) (k : J P n w0 R l0 K rest (upd f d (.bool true)) L) (hg : wantB n f l0 ⟨some d, .binOp .eql t x y u, ty, pos, aft, g⟩ = true := by exact rfl) (hx : Cx.ev n f x = .int .i64 (a : Int) := by exact rfl) (hy : Cx.ev n f y = .int .i64 (b : Int) := by exact rfl) (hv : pureEv Γ (Cx.ev n f) (.binOp .eql t x y u) = some (.bool ((a : Int) == (b : Int))) := by exact rfl) : J P n w0 R l0 K ((κ, ⟨some d, .binOp .eql t x y u, ty, pos, aft, g⟩) :: rest) f L := by
  subst h
  have e : ((a : Int) == (a : Int)) = true := by simp
  rw [e] at hv
  exact J.ev hΓ hg hv k
end
end Go.Proofs.Ytbhgahjeocnfcaa
namespace Go.Proofs.Ytbhgahjeocnfcaa
open Go Go.Cx Go.RowKit
set_option linter.unusedVariables false
set_option linter.unusedSimpArgs false
set_option maxHeartbeats 4000000
attribute [local irreducible] J JC thenK blockK loopK drawK retK QW Qt pel List.set Calls
open Go.Maps Go.Lib
set_option maxRecDepth 8000
attribute [local irreducible] JE Br eK0 eK3 brK pc
def litT (b : Int → Bool) (l : Int) : Bool := if l < 0 then !b (-l) else b l
def evT (b : Int → Bool) (T : List (List Int)) : Bool := T.all fun c => c.any (litT b)
def okTh (N : Nat) (T : List (List Int)) : Prop := N ≤ 128 ∧ T.length ≤ 4096 ∧ ∀ c ∈ T, c.length ≤ 128 ∧ ∀ x ∈ c, x ≠ 0 ∧ -(N : Int) ≤ x ∧ x ≤ N
theorem okTh_iff {N : Nat} {T : List (List Int)} : thE (N : Int) T = 0 ↔ okTh N T := by
  rw [thE_ok]
  unfold okTh
  constructor
  · rintro ⟨h1, h2, h3⟩; exact ⟨by omega, h2, h3⟩
  · rintro ⟨h1, h2, h3⟩; exact ⟨⟨by omega, by omega⟩, h2, h3⟩
end Go.Proofs.Ytbhgahjeocnfcaa
namespace Go.Proofs.Ytbhgahjeocnfcaa
open Go Go.Cx Go.RowKit
set_option linter.unusedVariables false
set_option linter.unusedSimpArgs false
set_option maxHeartbeats 4000000
attribute [local irreducible] J JC thenK blockK loopK drawK retK QW Qt pel List.set Calls
open Go.Maps Go.Lib
set_option maxRecDepth 8000
attribute [local irreducible] JE Br eK0 eK3 brK pc
theorem ePairs : Entr Try.prog 49 := Entr.of Try.func49 rfl rfl
def pairP (k : Nat) : Nat → List (List Int)
  | 0 => []
  | i + 1 => pairP k i ++ [[-((i : Int) + 1), -((i : Int) + 1) - k]]
def ThV (N : Nat) (T : List (List Int)) (v : Value) (h : Heap) : Prop := ∃ a c vs, v = .agg ⟨[.int .i64 (N : Int), .slice a vs.length c]⟩ ∧ vs.map (·.l) = T ∧ LLR a vs h
def cellT (b k : Nat) (a : Option Addr) (n c : Nat) : Heap := [(b, .cells ⟨[.int .i64 ((2 * k : Nat) : Int), .slice a n c]⟩ 24 (0, 0))]
theorem pairs_any (k : Nat) (hk : k ≤ 100) (w : World) : Calls Try.prog 49 #[.int .i64 (k : Int)] w (Gives (ThV (2 * k) (pairP k k)) w) := by
  refine calls_of_JC (R := []) Try.func49 Try.ntmps49 rfl rfl (Holds.nil _) ?_
  refine JC.seq ?_
  refine JC.region ?_
  refine J.isJ ?_
  refine J.o 7 ?_
  refine J.al hΓ (fun b2 => ?_)
  repeat' first
    | (refine J.isJ ?_; first | (first | (refine J.o 1 ?_; refine J.gmul (a := 2) (b := k) ?_ (hw := wI64 (by omega))) | (refine J.o 7 ?_; refine J.al hΓ (fun b3 => ?_))) | (first | (refine J.o 0 ?_; refine J.ev' hΓ ?_) | refine J.nil ?_ | (refine J.o 4 ?_; first | refine J.lR hΓ ?_) | (refine J.o 3 ?_; first | refine J.ev' hΓ ?_) | (refine J.o 1 ?_; first | refine J.ad ?_ | refine J.sb ?_ | refine J.ng ?_) | (refine J.o 5 ?_; first | refine J.t0 hΓ ?_ | refine J.t2 hΓ ?_) | (refine J.o 7 ?_; refine J.al hΓ (fun _ => ?_)) | (refine J.o 8 ?_; refine J.bd hΓ ?_) | (refine J.o 9 ?_; refine J.bl hΓ (fun _ => ?_)) | (refine J.o 10 ?_; refine J.ev' hΓ ?_) | (refine J.o 11 ?_; refine J.ev' hΓ ?_)))
    | (first | refine JC.seq ?_ | refine JC.region ?_ | refine JC.block ?_ | refine JC.ret ?_ | refine JC.exit ?_ | refine JC.skip ?_ | refine thenK.nn ?_ | refine thenK.x ?_ | refine blockK.nn ?_ | refine blockK.hit rfl ?_ | (refine JC.cond rfl (fun hc => ?_) (fun hc => ?_) <;> ((try simp only [decide_eq_true_eq, decide_eq_false_iff_not, beq_iff_eq, beq_eq_false_iff_ne, bne_iff_ne, bne_eq_false_iff_eq, Bool.not_eq_true', Bool.not_eq_false', Bool.not_eq_true, Bool.not_eq_false] at hc) <;> first | (first | (exact absurd rfl hc) | (exfalso; omega) | (exact absurd (hc.symm.trans (by assumption : _ = false)) (by decide)) | (exact absurd (hc.symm.trans (by assumption : _ = true)) (by decide))) | skip)) | refine loopK.x ?_)
    | (fail)
    | fail
  all_goals first | (exfalso; omega) | skip
  refine JC.nilF (JC.nilF (JC.perm (bring_perm 2 _) ?_))
  refine JC.loopG (fun i => i == 4 || Nat.ble 8 i) (fun m g L => ∃ (i : Nat) (vs : List HV) (aO : Option Addr) (cO : Nat) (hO hI : Heap), g 4 = .int .i64 ((i + 1 : Nat) : Int) ∧ i + m = k ∧ vs.length = i ∧ vs.map (·.l) = pairP k i ∧ OwT encHV 1 28 aO cO vs hO ∧ (∀ v ∈ vs, SlT encI 1 v.a v.l hI) ∧ L = [cellT b3 k aO vs.length cO, hO, hI, [(b2, .cells ⟨[.int .i64 0, .slice none 0 0]⟩ 24 (0, 0))]]) k ⟨0, [], none, 0, [], [], rfl, by omega, rfl, rfl, OwT.nil (fun _ => rfl), fun v hv => (by cases hv), rfl⟩ ?_
  rintro m g L ⟨i, vs, aO, cO, hO, hI, e4, him, hvl, hvs, oO, sI, rfl⟩
  refine JC.pin 4 e4 ?_
  unfold cellT
  rcases Nat.lt_or_ge i k with hik | hik
  ·
    repeat' first
      | (refine J.isJ ?_; first | (first | (refine J.o 4 ?_; refine J.lR hΓ ?_ (hr := Rd.hd)) | (refine J.o 9 ?_; first | refine J.bl (e := 3) hΓ (fun bl => ?_) | refine J.bl (e := 28) hΓ (fun bm => ?_)) | (refine J.o 9 ?_; first | (first | (refine J.ap1 (enc := encHV) [(⟨some ⟨bl, 0, none⟩, 2, [-((i : Int) + 1), -((i : Int) + 1) - k]⟩ : HV)] hΓ (fun a2 c2 h2 o2 => ?_)) | (refine J.perm (br1.cons _) ?_; refine J.ap1 (enc := encHV) [(⟨some ⟨bl, 0, none⟩, 2, [-((i : Int) + 1), -((i : Int) + 1) - k]⟩ : HV)] hΓ (fun a2 c2 h2 o2 => ?_)) | (refine J.perm (br2.cons _) ?_; refine J.ap1 (enc := encHV) [(⟨some ⟨bl, 0, none⟩, 2, [-((i : Int) + 1), -((i : Int) + 1) - k]⟩ : HV)] hΓ (fun a2 c2 h2 o2 => ?_)) | (refine J.perm (br3.cons _) ?_; refine J.ap1 (enc := encHV) [(⟨some ⟨bl, 0, none⟩, 2, [-((i : Int) + 1), -((i : Int) + 1) - k]⟩ : HV)] hΓ (fun a2 c2 h2 o2 => ?_)) | (refine J.perm (br4.cons _) ?_; refine J.ap1 (enc := encHV) [(⟨some ⟨bl, 0, none⟩, 2, [-((i : Int) + 1), -((i : Int) + 1) - k]⟩ : HV)] hΓ (fun a2 c2 h2 o2 => ?_)) | (refine J.perm (br5.cons _) ?_; refine J.ap1 (enc := encHV) [(⟨some ⟨bl, 0, none⟩, 2, [-((i : Int) + 1), -((i : Int) + 1) - k]⟩ : HV)] hΓ (fun a2 c2 h2 o2 => ?_))) | (refine J.perm br1 ?_; first | (refine J.ap1 (enc := encHV) [(⟨some ⟨bl, 0, none⟩, 2, [-((i : Int) + 1), -((i : Int) + 1) - k]⟩ : HV)] hΓ (fun a2 c2 h2 o2 => ?_)) | (refine J.perm (br1.cons _) ?_; refine J.ap1 (enc := encHV) [(⟨some ⟨bl, 0, none⟩, 2, [-((i : Int) + 1), -((i : Int) + 1) - k]⟩ : HV)] hΓ (fun a2 c2 h2 o2 => ?_)) | (refine J.perm (br2.cons _) ?_; refine J.ap1 (enc := encHV) [(⟨some ⟨bl, 0, none⟩, 2, [-((i : Int) + 1), -((i : Int) + 1) - k]⟩ : HV)] hΓ (fun a2 c2 h2 o2 => ?_)) | (refine J.perm (br3.cons _) ?_; refine J.ap1 (enc := encHV) [(⟨some ⟨bl, 0, none⟩, 2, [-((i : Int) + 1), -((i : Int) + 1) - k]⟩ : HV)] hΓ (fun a2 c2 h2 o2 => ?_)) | (refine J.perm (br4.cons _) ?_; refine J.ap1 (enc := encHV) [(⟨some ⟨bl, 0, none⟩, 2, [-((i : Int) + 1), -((i : Int) + 1) - k]⟩ : HV)] hΓ (fun a2 c2 h2 o2 => ?_)) | (refine J.perm (br5.cons _) ?_; refine J.ap1 (enc := encHV) [(⟨some ⟨bl, 0, none⟩, 2, [-((i : Int) + 1), -((i : Int) + 1) - k]⟩ : HV)] hΓ (fun a2 c2 h2 o2 => ?_))) | (refine J.perm br2 ?_; first | (refine J.ap1 (enc := encHV) [(⟨some ⟨bl, 0, none⟩, 2, [-((i : Int) + 1), -((i : Int) + 1) - k]⟩ : HV)] hΓ (fun a2 c2 h2 o2 => ?_)) | (refine J.perm (br1.cons _) ?_; refine J.ap1 (enc := encHV) [(⟨some ⟨bl, 0, none⟩, 2, [-((i : Int) + 1), -((i : Int) + 1) - k]⟩ : HV)] hΓ (fun a2 c2 h2 o2 => ?_)) | (refine J.perm (br2.cons _) ?_; refine J.ap1 (enc := encHV) [(⟨some ⟨bl, 0, none⟩, 2, [-((i : Int) + 1), -((i : Int) + 1) - k]⟩ : HV)] hΓ (fun a2 c2 h2 o2 => ?_)) | (refine J.perm (br3.cons _) ?_; refine J.ap1 (enc := encHV) [(⟨some ⟨bl, 0, none⟩, 2, [-((i : Int) + 1), -((i : Int) + 1) - k]⟩ : HV)] hΓ (fun a2 c2 h2 o2 => ?_)) | (refine J.perm (br4.cons _) ?_; refine J.ap1 (enc := encHV) [(⟨some ⟨bl, 0, none⟩, 2, [-((i : Int) + 1), -((i : Int) + 1) - k]⟩ : HV)] hΓ (fun a2 c2 h2 o2 => ?_)) | (refine J.perm (br5.cons _) ?_; refine J.ap1 (enc := encHV) [(⟨some ⟨bl, 0, none⟩, 2, [-((i : Int) + 1), -((i : Int) + 1) - k]⟩ : HV)] hΓ (fun a2 c2 h2 o2 => ?_))))) | (first | (refine J.o 0 ?_; refine J.ev' hΓ ?_) | refine J.nil ?_ | (refine J.o 4 ?_; first | refine J.lR hΓ ?_) | (refine J.o 3 ?_; first | refine J.ev' hΓ ?_) | (refine J.o 1 ?_; first | refine J.ad ?_ | refine J.sb ?_ | refine J.ng ?_) | (refine J.o 5 ?_; first | refine J.t0 hΓ ?_ | refine J.t2 hΓ ?_) | (refine J.o 7 ?_; refine J.al hΓ (fun _ => ?_)) | (refine J.o 8 ?_; refine J.bd hΓ ?_) | (refine J.o 9 ?_; refine J.bl hΓ (fun _ => ?_)) | (refine J.o 10 ?_; refine J.ev' hΓ ?_) | (refine J.o 11 ?_; refine J.ev' hΓ ?_)))
      | (first | refine JC.seq ?_ | refine JC.region ?_ | refine JC.block ?_ | refine JC.ret ?_ | refine JC.exit ?_ | refine JC.skip ?_ | refine thenK.nn ?_ | refine thenK.x ?_ | refine blockK.nn ?_ | refine blockK.hit rfl ?_ | (refine JC.cond rfl (fun hc => ?_) (fun hc => ?_) <;> ((try simp only [decide_eq_true_eq, decide_eq_false_iff_not, beq_iff_eq, beq_eq_false_iff_ne, bne_iff_ne, bne_eq_false_iff_eq, Bool.not_eq_true', Bool.not_eq_false', Bool.not_eq_true, Bool.not_eq_false] at hc) <;> first | (first | (exact absurd rfl hc) | (exfalso; omega) | (exact absurd (hc.symm.trans (by assumption : _ = false)) (by decide)) | (exact absurd (hc.symm.trans (by assumption : _ = true)) (by decide))) | skip)) | refine loopK.x ?_)
      | (fail)
      | fail
    all_goals first | (exfalso; omega) | skip
    have hsl : SlT encI 1 (some ⟨bl, 0, none⟩) [-((i : Int) + 1), -((i : Int) + 1) - k] [(bl, .cells ⟨[.int .i64 (-((i + 1 : Nat) : Int)), .int .i64 (-((i + 1 : Nat) : Int) - k)]⟩ 3 (0, 0))] := slArg bl [-((i : Int) + 1), -((i : Int) + 1) - k] 3
    refine loopK.nn (m - 1) (by omega) (by repeat (first | refine Ag.upd rfl ?_ | exact Ag.hv)) ⟨_, ⟨i + 1, vs ++ [⟨some ⟨bl, 0, none⟩, 2, [-((i : Int) + 1), -((i : Int) + 1) - k]⟩], a2, c2, h2, [(bl, .cells ⟨[.int .i64 (-((i + 1 : Nat) : Int)), .int .i64 (-((i + 1 : Nat) : Int) - k)]⟩ 3 (0, 0))] ++ hI, ?_, by omega, by rw [List.length_append, hvl]; rfl, by rw [List.map_append, hvs]; rfl, o2, fun v hv => ?_, rfl⟩, fun w hw => by
      have hw2 := (H.sel (l := [_, _, _, _, _]) (M := []) hw [1, 3, 2, 0, 4]).mg1
      exact H.sel (l := [_, _, _, _]) (M := []) hw2 [1, 2, 0, 3]⟩
    · show Value.int .i64 _ = _; congr 1
    · rcases List.mem_append.1 hv with g | g
      · exact (sI v g).sub fun x hx => List.mem_append_right _ hx
      · rw [List.mem_singleton.1 g]
        exact hsl.sub fun x hx => List.mem_append_left _ hx
  ·
    obtain rfl : i = k := by omega
    repeat' first
      | (refine J.isJ ?_; first | (first | (refine J.o 4 ?_; refine J.lR hΓ ?_ (hr := Rd.hd)) | (refine J.o 5 ?_; first | (refine J.perm br3 ?_; refine J.t0 hΓ ?_) | (refine J.perm br4 ?_; refine J.t0 hΓ ?_) | (refine J.perm br5 ?_; refine J.t0 hΓ ?_) | (refine J.perm br6 ?_; refine J.t0 hΓ ?_) | (refine J.perm br7 ?_; refine J.t0 hΓ ?_))) | (first | (refine J.o 0 ?_; refine J.ev' hΓ ?_) | refine J.nil ?_ | (refine J.o 4 ?_; first | refine J.lR hΓ ?_) | (refine J.o 3 ?_; first | refine J.ev' hΓ ?_) | (refine J.o 1 ?_; first | refine J.ad ?_ | refine J.sb ?_ | refine J.ng ?_) | (refine J.o 5 ?_; first | refine J.t0 hΓ ?_ | refine J.t2 hΓ ?_) | (refine J.o 7 ?_; refine J.al hΓ (fun _ => ?_)) | (refine J.o 8 ?_; refine J.bd hΓ ?_) | (refine J.o 9 ?_; refine J.bl hΓ (fun _ => ?_)) | (refine J.o 10 ?_; refine J.ev' hΓ ?_) | (refine J.o 11 ?_; refine J.ev' hΓ ?_)))
      | (first | refine JC.seq ?_ | refine JC.region ?_ | refine JC.block ?_ | refine JC.ret ?_ | refine JC.exit ?_ | refine JC.skip ?_ | refine thenK.nn ?_ | refine thenK.x ?_ | refine blockK.nn ?_ | refine blockK.hit rfl ?_ | (refine JC.cond rfl (fun hc => ?_) (fun hc => ?_) <;> ((try simp only [decide_eq_true_eq, decide_eq_false_iff_not, beq_iff_eq, beq_eq_false_iff_ne, bne_iff_ne, bne_eq_false_iff_eq, Bool.not_eq_true', Bool.not_eq_false', Bool.not_eq_true, Bool.not_eq_false] at hc) <;> first | (first | (exact absurd rfl hc) | (exfalso; omega) | (exact absurd (hc.symm.trans (by assumption : _ = false)) (by decide)) | (exact absurd (hc.symm.trans (by assumption : _ = true)) (by decide))) | skip)) | refine loopK.x ?_)
      | (fail)
      | fail
    all_goals first | (exfalso; omega) | skip
    refine retC hΓ rfl rfl rfl Rd.hd rfl (fun w1 hw => ?_)
    have hw2 := (H.sel (l := [_, _, _, _]) (M := []) hw [2, 3]).mg1
    exact Gives.of hw2 ⟨aO, cO, vs, rfl, hvs, oO.sl.sub fun x hx => List.mem_append_left _ hx, fun v hv => (sI v hv).sub fun x hx => List.mem_append_right _ hx⟩
def thF (T : List (List Int)) : VF := fun β => evT β T
theorem thA_ev {l : List Int} {N : Nat} {T : List (List Int)} (hok : okTh N T) (hm : ∀ v : Int, 1 ≤ v → v ≤ N → v ∈ l) (β : Int → Bool) : thA l T (asgV l β) = evT β T := by
  have hlit : ∀ c ∈ T, ∀ x ∈ c, litA l x (asgV l β) = litT β x := fun c hc x hx => by
    have h := (hok.2.2 c hc).2 x hx
    have hN := hok.1
    have hv := varI_ok hN h
    obtain ⟨k, hk⟩ : ∃ k, rk l (varI x) 0 = some k := by
      cases g : rk l (varI x) 0 with
      | some k => exact ⟨k, rfl⟩
      | none => exact absurd (hm _ hv.1 hv.2) (rk_none.1 g)
    have hg := (rk_some hk).2.2
    rw [Nat.sub_zero] at hg
    unfold litT
    by_cases hn : x < 0
    · have hx2 : varI x = -x := by unfold varI; rw [if_neg (by omega), if_pos (by omega)]
      rw [litA_neg hn hk, if_pos hn]
      unfold asgV
      rw [hg, hx2]
    · have hx2 : varI x = x := by unfold varI; rw [if_pos (by omega)]
      rw [litA_pos hn hk, if_neg hn]
      unfold asgV
      rw [hg, hx2]
  unfold thA evT clA
  rw [Bool.eq_iff_iff, List.all_eq_true, List.all_eq_true]
  refine forall_congr' fun c => forall_congr' fun hc => ?_
  rw [List.any_eq_true, List.any_eq_true]
  refine exists_congr fun x => ?_
  constructor
  · rintro ⟨h1, h2⟩; exact ⟨h1, by rw [← hlit c hc x h1]; exact h2⟩
  · rintro ⟨h1, h2⟩; exact ⟨h1, by rw [hlit c hc x h1]; exact h2⟩
theorem of_ints {l : List Int} {N : Nat} (hN : N ≤ 128) (hp : l.Perm (ints N)) : ofS l = allS N := by
  refine set_ext (okS_of l (0, 0) okS_zero) (okS_all N) fun u h1 h2 => ?_
  rw [Bool.eq_iff_iff, has_all N u hN]
  unfold ofS
  rw [ofS_has l (0, 0) u, has_zero, hp.mem_iff, ints_mem]
  constructor
  · rintro (h | h)
    · cases h
    · exact h.1
  · intro h; exact .inr ⟨h, h1, h2⟩
theorem costT_le : ∀ (T : List (List Int)) (m : Nat), (∀ c ∈ T, c.length ≤ m) → costT T ≤ T.length * (m * 20 + 255)
  | [], m, _ => by rw [costT]; omega
  | c :: T, m, h => by
    have h1 := costT_le T m fun x hx => h x (List.mem_cons_of_mem _ hx)
    have h2 := Nat.mul_le_mul_right 20 (h c List.mem_cons_self)
    rw [costT, List.length_cons, Nat.succ_mul]
    omega
theorem compile_V (N : Nat) (h8 : N ≤ 8) (l : List Int) (hp : l.Perm (ints N)) (a : Option Addr) (c : Nat) (h : Heap) (hs : SlT encI 1 a l h) (aT : Option Addr) (cap : Nat) (vs : List HV) (hT : Heap) (ll : LLR aT vs hT) (T : List (List Int)) (hvs : vs.map (·.l) = T) (hok : okTh N T) (hcost : 2 + costT T ≤ 1048576) {w0 w : World} {R : Heap} {L : List Heap} (hr : RdH R L h) (rT : RdH R L hT) (hw : H w0 R L w) :
    Calls Try.prog 16 #[.agg ⟨[.int .i64 (N : Int), .slice aT vs.length cap]⟩, .slice a l.length c] w fun e w' => ∃ v L', e = .returned v ∧ H w0 R L' w' ∧ RebQ (thF T) l L v L' := by
  subst hvs
  have hlen : l.length = N := by rw [hp.length_eq, ints_len]
  refine (compile_any N l a c h hs aT cap vs hT ll (okTh_iff.2 hok) hlen (of_ints (by omega) hp) h8 hcost hr rT hw).mono ?_
  rintro e w' ⟨v, L', h1, h2, b, K, s, y, hO, hP, h3, h4, so, po, hy, hf, _⟩
  subst hlen
  exact ⟨v, L', h1, h2, b, K, s, y, hO, hP, h3, h4, so, po, hy, fun β => by
    rw [hf]
    exact thA_ev hok (fun v h1 h2 => hp.mem_iff.2 ((ints_mem _ _).2 ⟨h1, h2⟩)) β⟩
def szF (l : List Int) (F : VF) : Nat := sizeT l.length (tabF l.length (gF l F))
theorem Stv.size {F : VF} {l : List Int} {K : KS} {s : SS} {y : Nat} {hO hP : Heap} (sv : Stv F l K s y hO hP) {m : List Int} (b : Bel s.ns y m) : m.length = szF l F :=
  b.size sv.so.wf sv.sy.1 (sv.sy.fn sv.ho.2 sv.so.wf)
theorem eWorks31 : Entr Try.prog 14 := Entr.of Try.func14 rfl rfl
theorem works31_any (w : World) : Calls Try.prog 14 #[] w fun e w' => e = .returned (.bool true) ∧ Below w.heap.size w w' := by
  have ok2 : okTh 4 (pairP 2 2) := okTh_iff.1 (by decide +kernel)
  have hz1 : szF (ints 4) (thF (pairP 2 2)) = 6 := by decide +kernel
  have hz2 : szF (swp (ints 4) 1) (thF (pairP 2 2)) = 4 := by decide +kernel
  have hl4 : (ints 4).length = 4 := ints_len 4
  have hco : 2 + costT (pairP 2 2) ≤ 1048576 := by decide +kernel
  have hsd : decide (swp (ints 4) 1 = [1, 3, 2, 4]) = true := by decide +kernel
  refine calls_of_JC (R := []) Try.func14 Try.ntmps14 rfl rfl (Holds.nil _) ?_
  repeat' first
    | (refine J.isJ ?_; first | (first | (refine J.fc 49 ?_; refine J.call1 ePairs rfl rfl (fun w hw => pairs_any 2 (by omega) w) ?_; rintro _ hT ⟨aT, cT, vs, rfl, hvs, ll⟩) | (refine J.fc 50 ?_; refine J.call1 eUpTo rfl rfl (fun w hw => upTo_any 4 (by omega) w) ?_; rintro _ hU ⟨aU, cU, rfl, oU⟩) | (refine J.fc 16 ?_; refine J.callx eCom rfl rfl (fun w hw => compile_V 4 (by omega) (ints 4) (List.Perm.refl _) aU cU hU oU.sl aT cT vs hT ll (pairP 2 2) hvs ok2 hco RdH.hd RdH.hd.tl hw) ?_; rintro _ _ ⟨b1, K1, s1, y1, hO1, hP1, rfl, rfl, sv1⟩) | (refine J.fc 17 ?_; refine J.callx eSwap rfl rfl (fun w hw => Swap_any sv1 (by omega) 1 (by omega) (stR_hd _) hw) ?_; rintro _ _ ⟨b2, K2, s2, y2, hO2, hP2, rfl, rfl, sv2⟩) | (refine J.fc 20 ?_; first | (refine J.callx eSize rfl rfl (fun w hw => Size_any sv1.so b1 y1 sv1.sy.1 (stR_b (stR_tl (stR_hd _) K2 b2 s2 hO2 hP2)) (stR_N (stR_tl (stR_hd _) K2 b2 s2 hO2 hP2)) hw) ?_; rintro _ _ ⟨l1, rfl, rfl, bel1⟩; have hs1 := (sv1.size bel1).trans hz1) | (refine J.callx eSize rfl rfl (fun w hw => Size_any sv2.so b2 y2 sv2.sy.1 (stR_b (stR_hd _)) (stR_N (stR_hd _)) hw) ?_; rintro _ _ ⟨l2, rfl, rfl, bel2⟩; have hs2 := (sv2.size bel2).trans hz2)) | (refine J.o 11 ?_; first | refine J.eqT2 hΓ hs1 ?_ | refine J.eqT2 hΓ hs2 ?_) | (refine J.fc 19 ?_; refine J.call1 eOrder rfl rfl (fun w hw => Order_any sv2.so sv2.po b2 w (stR_of2 (stR_hd _) hw)) ?_; rintro _ ho ⟨ao, co, rfl, oo⟩) | (refine J.o 9 ?_; refine J.bl (e := 3) hΓ (fun bl => ?_)) | (refine J.fc 18 ?_; refine J.call0 eSame3 rfl rfl (fun w hw => same3_any (swp (ints 4) 1) [1, 3, 2, 4] ao (some ⟨bl, 0, none⟩) co 4 (ho ++ [(bl, .cells ⟨[.int .i64 1, .int .i64 3, .int .i64 2, .int .i64 4]⟩ 3 (0, 0))]) (oo.sl.sub fun x hx => List.mem_append_left _ hx) ((slArg bl [1, 3, 2, 4] 3).sub fun x hx => List.mem_append_right _ hx) (by rw [swp_len]; omega) (by decide) w ((hw.rdH RdH.hd.tl).append (hw.rdH RdH.hd))) ?_; rw [hsd])) | (first | (refine J.o 0 ?_; refine J.ev' hΓ ?_) | refine J.nil ?_ | (refine J.o 3 ?_; first | refine J.ev' hΓ ?_) | (refine J.o 9 ?_; refine J.bl hΓ (fun _ => ?_)) | (refine J.o 10 ?_; refine J.ev' hΓ ?_) | (refine J.o 11 ?_; refine J.ev' hΓ ?_)))
    | (first | refine JC.seq ?_ | refine JC.region ?_ | refine JC.ret ?_ | refine JC.skip ?_ | refine thenK.nn ?_ | refine JC.condF rfl ?_)
    | fail
  all_goals first | (exfalso; omega) | skip
  all_goals (refine ret1f rfl rfl rfl (fun w1 hw => ⟨rfl, hw.below⟩))
end Go.Proofs.Ytbhgahjeocnfcaa
namespace Go.Proofs.Ytbhgahjeocnfcaa
open Go Go.Cx Go.RowKit
set_option linter.unusedVariables false
set_option linter.unusedSimpArgs false
set_option maxHeartbeats 4000000
attribute [local irreducible] J JC thenK blockK loopK drawK retK QW Qt pel List.set Calls
open Go.Maps Go.Lib
set_option maxRecDepth 8000
attribute [local irreducible] JE Br eK0 eK3 brK pc
theorem smallP_ok {n : Nat} (h : n ≤ 128) {N : Int} {T : List (List Int)} (s : smallP (n : Int) N T) : ∃ k : Nat, N = (k : Int) ∧ k ≤ n ∧ okTh k T ∧ 2 + costT T ≤ 1048576 := by
  obtain ⟨h1, h2, h3, h4, h5⟩ := s
  obtain ⟨k, rfl⟩ : ∃ k : Nat, N = (k : Int) := ⟨N.toNat, by omega⟩
  have hc := costT_le T 10 h4
  have hm : T.length * (10 * 20 + 255) ≤ 30 * 455 := Nat.mul_le_mul_right 455 h3
  exact ⟨k, rfl, by omega, okTh_iff.1 h5, by omega⟩
end Go.Proofs.Ytbhgahjeocnfcaa
namespace Go.Proofs.Ytbhgahjeocnfcaa
open Go Go.Cx Go.RowKit
set_option linter.unusedVariables false
set_option linter.unusedSimpArgs false
set_option maxHeartbeats 4000000
attribute [local irreducible] J JC thenK blockK loopK drawK retK QW Qt pel List.set Calls
open Go.Maps Go.Lib
set_option maxRecDepth 8000
attribute [local irreducible] JE Br eK0 eK3 brK pc
theorem mget_cons {κ β : Type} [DecidableEq κ] (p : κ × β) (m : List (κ × β)) (v : κ) : mget (p :: m) v = if p.1 = v then some p.2 else mget m v := by
  unfold mget
  rw [List.find?_cons]
  by_cases h : p.1 = v
  · rw [if_pos h]; simp [h]
  · rw [if_neg h]; simp [h]
theorem mget_app1 {κ β : Type} [DecidableEq κ] (x : κ) (y : β) (v : κ) : ∀ m : List (κ × β), mget (m ++ [(x, y)]) v = match mget m v with | some z => some z | none => if x = v then some y else none
  | [] => by rw [List.nil_append, mget_cons]; rfl
  | p :: m => by
    rw [List.cons_append, mget_cons, mget_cons, mget_app1 x y v m]
    by_cases h : p.1 = v
    · rw [if_pos h, if_pos h]
    · rw [if_neg h, if_neg h]
theorem mget_nil2 {κ β : Type} [DecidableEq κ] {v : κ} : ∀ {m : List (κ × β)}, v ∉ m.map (·.1) → mget m v = none
  | [], _ => rfl
  | p :: m, h => by
    rw [List.map_cons, List.mem_cons, not_or] at h
    rw [mget_cons, if_neg (fun e => h.1 e.symm), mget_nil2 h.2]
theorem mget_mput {κ β : Type} [DecidableEq κ] (m : List (κ × β)) (x : κ) (y : β) (v : κ) : mget (mput m x y) v = if v = x then some y else mget m v := by
  unfold mput
  split
  · rename_i hc
    have hx : x ∈ m.map (·.1) := by simpa using hc
    clear hc
    induction m with
    | nil => cases hx
    | cons p m ih =>
      rw [List.map_cons, mget_cons, mget_cons]
      by_cases hp : p.1 = x
      · rw [if_pos hp]
        by_cases hv : v = x
        · rw [if_pos hv, if_pos hv.symm]
        · rw [if_neg (fun e => hv e.symm), if_neg hv, if_neg (fun e => hv (by rw [← e, hp]))]
          by_cases hm : x ∈ m.map (·.1)
          · rw [ih hm, if_neg hv]
          · have : ∀ l : List (κ × β), x ∉ l.map (·.1) → (l.map fun p => if p.1 = x then (x, y) else p) = l := by
              intro l
              induction l with
              | nil => intro _; rfl
              | cons q l ih2 =>
                intro h
                rw [List.map_cons, List.mem_cons, not_or] at h
                rw [List.map_cons, if_neg (fun e => h.1 e.symm), ih2 h.2]
            rw [this m hm]
      · rw [if_neg hp]
        have hm : x ∈ m.map (·.1) := by
          rw [List.map_cons, List.mem_cons] at hx
          rcases hx with h | h
          · exact absurd h.symm hp
          · exact h
        rw [ih hm]
        by_cases hv : v = x
        · rw [if_pos hv, if_neg (fun e => hp (by rw [e, hv])), if_pos hv]
        · rw [if_neg hv, if_neg hv]
  · rename_i hc
    have hx : x ∉ m.map (·.1) := by simpa using hc
    rw [mget_app1]
    by_cases hv : v = x
    · rw [if_pos hv, hv, mget_nil2 hx, if_pos rfl]
    · rw [if_neg hv]
      cases mget m v with
      | some z => rfl
      | none => rw [if_neg (fun e => hv e.symm)]
def seenS (S : List Nat) : List (Int × Bool) := S.map fun b : Nat => ((b : Int), true)
theorem seenS_get (b : Nat) : ∀ S : List Nat, mget (seenS S) (b : Int) = if b ∈ S then some true else none
  | [] => rfl
  | x :: S => by
    unfold seenS
    rw [List.map_cons, mget_cons]
    have ih := seenS_get b S
    unfold seenS at ih
    rw [ih]
    by_cases h : x = b
    · rw [if_pos (by rw [h]), if_pos (by rw [h]; exact List.mem_cons_self)]
    · rw [if_neg (fun e => h (by omega))]
      by_cases h2 : b ∈ S
      · rw [if_pos h2, if_pos (List.mem_cons_of_mem _ h2)]
      · rw [if_neg h2, if_neg (fun g => (List.mem_cons.1 g).elim (fun e => h e.symm) h2)]
theorem seenS_put {S : List Nat} {b : Nat} (h : b ∉ S) : mput (seenS S) (b : Int) true = seenS (S ++ [b]) := by
  rw [mput_new true (mget_out (by rw [seenS_get, if_neg h]))]
  unfold seenS
  rw [List.map_append]; rfl
def cntV (ns : List N3) (o : List Int) (S : List Nat) (v : Int) : Nat := (S.filter fun j => decide (o.getD (nd ns j).p default = v)).length
structure TInv (ns : List N3) (o : List Int) (r : Nat) (Q S : List Nat) (k : Nat) (mm : List (Int × Nat)) : Prop where
  nodup : S.Nodup
  sub : ∀ x ∈ S, 2 ≤ x ∧ Rch ns r x
  rq : ∀ x ∈ Q, Rch ns r x
  root : r ∈ Q
  done : ∀ j, j < k → Q.getD j 0 < 2 ∨ Q.getD j 0 ∈ S
  cl : ∀ x ∈ S, (nd ns x).l ∈ Q ∧ (nd ns x).h ∈ Q
  len : Q.length = 1 + 2 * S.length
  cnt : ∀ v, (mget mm v).getD 0 = cntV ns o S v
  le : k ≤ Q.length
theorem TInv.start (ns : List N3) (o : List Int) (r : Nat) : TInv ns o r [r] [] 0 [] :=
  ⟨List.nodup_nil, fun x hx => (by cases hx), fun x hx => by rw [List.mem_singleton.1 hx]; exact .refl, List.mem_singleton_self _, fun j hj => absurd hj (Nat.not_lt_zero _), fun x hx => (by cases hx), rfl, fun v => rfl, Nat.zero_le _⟩
theorem TInv.skip {ns : List N3} {o : List Int} {r : Nat} {Q S : List Nat} {k : Nat} {mm : List (Int × Nat)} (t : TInv ns o r Q S k mm) (hk : k < Q.length) (h : Q.getD k 0 < 2 ∨ Q.getD k 0 ∈ S) : TInv ns o r Q S (k + 1) mm :=
  ⟨t.nodup, t.sub, t.rq, t.root, fun j hj => by
    rcases Nat.lt_or_ge j k with g | g
    · exact t.done j g
    · obtain rfl : j = k := by omega
      exact h, t.cl, t.len, t.cnt, hk⟩
theorem TInv.next {ns : List N3} {o : List Int} {r : Nat} {Q S : List Nat} {k : Nat} {mm : List (Int × Nat)} (t : TInv ns o r Q S k mm) (hk : k < Q.length) (h2 : 2 ≤ Q.getD k 0) (hS : Q.getD k 0 ∉ S) (c : Nat) (hc : (mget mm (o.getD (nd ns (Q.getD k 0)).p default)).getD 0 = c) : TInv ns o r (Q ++ [(nd ns (Q.getD k 0)).l, (nd ns (Q.getD k 0)).h]) (S ++ [Q.getD k 0]) (k + 1) (mput mm (o.getD (nd ns (Q.getD k 0)).p default) (c + 1)) := by
  have hm := mem_g0 Q hk
  have hr := t.rq _ hm
  refine ⟨?_, fun x hx => ?_, fun x hx => ?_, List.mem_append_left _ t.root, fun j hj => ?_, fun x hx => ?_, ?_, fun v => ?_, ?_⟩
  · rw [List.nodup_append]
    exact ⟨t.nodup, List.nodup_cons.2 ⟨List.not_mem_nil, List.nodup_nil⟩, fun a ha b hb e => by rw [List.mem_singleton.1 hb] at e; exact hS (e ▸ ha)⟩
  · rcases List.mem_append.1 hx with g | g
    · exact t.sub x g
    · rw [List.mem_singleton.1 g]; exact ⟨h2, hr⟩
  · rcases List.mem_append.1 hx with g | g
    · exact t.rq x g
    · rcases List.mem_cons.1 g with rfl | g
      · exact hr.low h2
      · rw [List.mem_singleton.1 g]; exact hr.high h2
  · rcases Nat.lt_or_ge j k with g | g
    · rw [getD_app (by omega)]
      exact (t.done j g).imp id (fun g => List.mem_append_left _ g)
    · obtain rfl : j = k := by omega
      rw [getD_app hk]
      exact .inr (List.mem_append_right _ (List.mem_singleton_self _))
  · rcases List.mem_append.1 hx with g | g
    · obtain ⟨g1, g2⟩ := t.cl x g
      exact ⟨List.mem_append_left _ g1, List.mem_append_left _ g2⟩
    · rw [List.mem_singleton.1 g]
      exact ⟨List.mem_append_right _ List.mem_cons_self, List.mem_append_right _ (List.mem_cons_of_mem _ List.mem_cons_self)⟩
  · rw [List.length_append, List.length_append, t.len]
    simp only [List.length_cons, List.length_nil]
    omega
  · rw [mget_mput]
    unfold cntV
    rw [List.filter_append, List.length_append]
    have h := t.cnt v
    unfold cntV at h
    rw [List.filter_cons, List.filter_nil]
    by_cases hv : v = o.getD (nd ns (Q.getD k 0)).p default
    · rw [if_pos hv, if_pos (decide_eq_true hv.symm), ← h, hv, hc]; rfl
    · rw [if_neg hv, if_neg (fun g => hv (of_decide_eq_true g).symm), h]; rfl
  · rw [List.length_append]; simp only [List.length_cons, List.length_nil]; omega
theorem TInv.all {ns : List N3} {o : List Int} {r : Nat} {Q S : List Nat} {k : Nat} {mm : List (Int × Nat)} (t : TInv ns o r Q S k mm) (hk : Q.length ≤ k) (x : Nat) : x ∈ S ↔ 2 ≤ x ∧ Rch ns r x := by
  constructor
  · exact t.sub x
  · rintro ⟨h2, hr⟩
    have hQ : ∀ y ∈ Q, y < 2 ∨ y ∈ S := fun y hy => by
      obtain ⟨j, hj, rfl⟩ := List.mem_iff_getElem.1 hy
      have := t.done j (by omega)
      rw [List.getD_eq_getElem?_getD, List.getElem?_eq_getElem hj] at this
      exact this
    have key : x ∈ Q := by
      clear h2
      induction hr with
      | refl => exact t.root
      | low _ g2 ih => exact (t.cl _ ((hQ _ ih).resolve_left (by omega))).1
      | high _ g2 ih => exact (t.cl _ ((hQ _ ih).resolve_left (by omega))).2
    exact (hQ x key).resolve_left (by omega)
theorem eTops : Entr Try.prog 21 := Entr.of Try.func21 rfl rfl
def TopsV (ns : List N3) (o : List Int) (r : Nat) (v : Value) (h : Heap) : Prop := ∃ bm mm S, v = .map (some bm) ∧ MapT Try.prog 3 ekI evI mm bm h ∧ S.Nodup ∧ (∀ x, x ∈ S ↔ 2 ≤ x ∧ Rch ns r x) ∧ ∀ v, (mget mm v).getD 0 = cntV ns o S v
set_option maxHeartbeats 16000000 in
theorem tops_any {n : Nat} {K : KS} {s : SS} (so : SOk n K s) {o : List Int} {hO hP : Heap} (po : POk K o hO hP) (h8 : n ≤ 8) (b r : Nat) (hr : r < s.ns.length) (w : World) (hw1 : Holds (stR K b s hO) w) :
    Calls Try.prog 21 #[.pointer (some ⟨b, 0, none⟩), .int .i64 (r : Int)] w (Gives (TopsV s.ns o r) w) := by
  have h2n := pow8 h8
  have q0 : ∀ L, RdH (stR K b s hO) L (stR K b s hO) := fun L => RdH.old fun _ hh => hh
  have hno := so.no
  have hpl := po.len
  refine calls_of_JC (R := (stR K b s hO)) Try.func21 Try.ntmps21 rfl rfl (hw1) ?_
  repeat' first
    | (refine J.isJ ?_; first | (first | (refine J.o 9 ?_; first | refine J.mkm (t := 40) (fun bm => ?_) | refine J.mkm (t := 114) (fun bs => ?_) | refine J.bl (e := 3) hΓ (fun bq => ?_))) | (first | (refine J.o 0 ?_; refine J.ev' hΓ ?_) | refine J.nil ?_ | refine J.kd ?_ | (refine J.o 4 ?_; first | refine J.lT default hΓ ?_) | (refine J.o 3 ?_; first | refine J.iJ hΓ ?_ | refine J.ev' hΓ ?_) | (refine J.o 1 ?_; first | refine J.ad ?_) | (refine J.o 9 ?_; refine J.bl hΓ (fun _ => ?_)) | (refine J.o 10 ?_; refine J.ev' hΓ ?_) | (refine J.o 11 ?_; refine J.ev' hΓ ?_)) | ((fail_if_success refine J.wt ?_); refine J.gc rfl rfl (fun hc => ?_) (fun hc => ?_) <;> ((try simp only [decide_eq_true_eq, decide_eq_false_iff_not, beq_iff_eq, beq_eq_false_iff_ne, bne_iff_ne, bne_eq_false_iff_eq, Bool.not_eq_true', Bool.not_eq_false', Bool.not_eq_true, Bool.not_eq_false] at hc) <;> first | (first | (exact absurd rfl hc) | (exfalso; omega) | (exact absurd (hc.symm.trans (by assumption : _ = false)) (by decide)) | (exact absurd (hc.symm.trans (by assumption : _ = true)) (by decide))) | skip)))
    | (first | refine JC.seq ?_ | refine JC.region ?_ | refine JC.block ?_ | refine JC.ret ?_ | refine JC.exit ?_ | refine JC.skip ?_ | refine thenK.nn ?_ | refine thenK.x ?_ | refine blockK.nn ?_ | refine blockK.hit rfl ?_ | refine JC.condT rfl ?_ | refine JC.condF rfl ?_ | refine loopK.x ?_)
    | (fail)
    | fail
  all_goals first | (exfalso; omega) | skip
  have oQ0 : OwT encI 1 3 (some ⟨bq, 0, none⟩) 1 (natI [r]) [(bq, .cells ⟨[.int .i64 (r : Int)]⟩ 3 (0, 0))] := ⟨fun _ => rfl, .inr ⟨bq, _, rfl, rfl, rfl, Nat.le_refl _, rfl⟩⟩
  refine JC.loopG (fun i => (Nat.ble 7 i && Nat.ble i 12) || Nat.ble 17 i) (fun m g L' => ∃ k Q S mm aQ cQ hQ hS hM, g 8 = .int .i64 ((k : Nat) : Int) ∧ g 7 = .slice aQ (natI Q).length cQ ∧ k + m = 600 ∧ TInv s.ns o r Q S k mm ∧ OwT encI 1 3 aQ cQ (natI Q) hQ ∧ MapT Try.prog 3 ekI evBo (seenS S) bs hS ∧ MapT Try.prog 3 ekI evI mm bm hM ∧ L' = [hQ, hS, hM]) 600 ⟨0, [r], [], [], _, _, _, _, _, rfl, rfl, by omega, TInv.start _ _ _, oQ0, MapT.nil _, MapT.nil _, rfl⟩ ?_
  rintro m g L' ⟨k, Q, S, mm, aQ, cQ, hQ, hS, hM, e8, e7, hkm, t, oQ, ms, mt, rfl⟩
  refine JC.pin 8 e8 (JC.pin 7 e7 ?_)
  have hSl := rch_len so.wf hr t.nodup (fun x hx => (t.sub x hx).2)
  have hQl := t.len
  have hkQ := t.le
  have hnl := natI_len Q
  have hk1 : decide ((k : Int) < 131072) = true := decide_eq_true (by omega)
  rcases Nat.lt_or_ge k Q.length with hk | hk
  ·
    have hx := (t.rq _ (mem_g0 Q hk)).lt so.wf hr
    have hg := natI_get Q hk
    have hkey := keyI ((Q.getD k 0 : Nat) : Int) (by have := so.sm; omega)
    rcases Nat.lt_or_ge (Q.getD k 0) 2 with h2 | h2
    ·
      have cP := fun w hw => Parts_const so b _ h2 hO w hw
      repeat' first
        | (refine J.isJ ?_; first | (first | (refine J.o 0 ?_; refine J.ev' hΓ ?_; rw [hk1]) | (refine J.o 3 ?_; refine J.iJ hΓ ?_ (hs := oQ.sl)) | (refine J.o 4 ?_; refine J.lT default hΓ ?_ (hs := oQ.sl) (hr := RdH.hd); rw [hg]) | (refine J.fc 66 ?_; refine J.call0 eParts rfl rfl (fun w hw => cP w (hw.rdH (q0 _))) ?_)) | (first | (refine J.o 0 ?_; refine J.ev' hΓ ?_) | refine J.nil ?_ | refine J.kd ?_ | (refine J.o 4 ?_; first | refine J.lT default hΓ ?_) | (refine J.o 3 ?_; first | refine J.iJ hΓ ?_ | refine J.ev' hΓ ?_) | (refine J.o 1 ?_; first | refine J.ad ?_) | (refine J.o 9 ?_; refine J.bl hΓ (fun _ => ?_)) | (refine J.o 10 ?_; refine J.ev' hΓ ?_) | (refine J.o 11 ?_; refine J.ev' hΓ ?_)) | ((fail_if_success refine J.wt ?_); refine J.gc rfl rfl (fun hc => ?_) (fun hc => ?_) <;> ((try simp only [decide_eq_true_eq, decide_eq_false_iff_not, beq_iff_eq, beq_eq_false_iff_ne, bne_iff_ne, bne_eq_false_iff_eq, Bool.not_eq_true', Bool.not_eq_false', Bool.not_eq_true, Bool.not_eq_false] at hc) <;> first | (first | (exact absurd rfl hc) | (exfalso; omega) | (exact absurd (hc.symm.trans (by assumption : _ = false)) (by decide)) | (exact absurd (hc.symm.trans (by assumption : _ = true)) (by decide))) | skip)))
        | (first | refine JC.seq ?_ | refine JC.region ?_ | refine JC.block ?_ | refine JC.ret ?_ | refine JC.exit ?_ | refine JC.skip ?_ | refine thenK.nn ?_ | refine thenK.x ?_ | refine blockK.nn ?_ | refine blockK.hit rfl ?_ | refine JC.condT rfl ?_ | refine JC.condF rfl ?_ | refine loopK.x ?_)
        | (fail)
        | fail
      all_goals first | (exfalso; omega) | skip
      refine loopK.nn (m - 1) (by omega) (by repeat (first | refine Ag.upd rfl ?_ | exact Ag.hv)) ⟨_, ⟨k + 1, Q, S, mm, aQ, cQ, hQ, hS, hM, ?_, rfl, by omega, t.skip hk (.inl h2), oQ, ms, mt, rfl⟩, fun w hw => hw⟩
      show Value.int .i64 _ = _; congr 1
    ·
      have cP := fun w hw => Parts_node so po b _ h2 hx w hw
      have hsg := seenS_get (Q.getD k 0) S
      by_cases hin : Q.getD k 0 ∈ S
      ·
        rw [if_pos hin] at hsg
        repeat' first
          | (refine J.isJ ?_; first | (first | (refine J.o 0 ?_; refine J.ev' hΓ ?_; rw [hk1]) | (refine J.o 3 ?_; refine J.iJ hΓ ?_ (hs := oQ.sl)) | (refine J.o 4 ?_; refine J.lT default hΓ ?_ (hs := oQ.sl) (hr := RdH.hd); rw [hg]) | (refine J.fc 66 ?_; refine J.call0 eParts rfl rfl (fun w hw => cP w (hw.rdH (q0 _))) ?_) | (refine J.o 9 ?_; refine J.lk (a := ((Q.getD k 0 : Nat) : Int)) keyedI ekI_inj ms (RdH.hd.tl) hkey hΓ ?_; rw [hsg])) | (first | (refine J.o 0 ?_; refine J.ev' hΓ ?_) | refine J.nil ?_ | refine J.kd ?_ | (refine J.o 4 ?_; first | refine J.lT default hΓ ?_) | (refine J.o 3 ?_; first | refine J.iJ hΓ ?_ | refine J.ev' hΓ ?_) | (refine J.o 1 ?_; first | refine J.ad ?_) | (refine J.o 9 ?_; refine J.bl hΓ (fun _ => ?_)) | (refine J.o 10 ?_; refine J.ev' hΓ ?_) | (refine J.o 11 ?_; refine J.ev' hΓ ?_)) | ((fail_if_success refine J.wt ?_); refine J.gc rfl rfl (fun hc => ?_) (fun hc => ?_) <;> ((try simp only [decide_eq_true_eq, decide_eq_false_iff_not, beq_iff_eq, beq_eq_false_iff_ne, bne_iff_ne, bne_eq_false_iff_eq, Bool.not_eq_true', Bool.not_eq_false', Bool.not_eq_true, Bool.not_eq_false] at hc) <;> first | (first | (exact absurd rfl hc) | (exfalso; omega) | (exact absurd (hc.symm.trans (by assumption : _ = false)) (by decide)) | (exact absurd (hc.symm.trans (by assumption : _ = true)) (by decide))) | skip)))
          | (first | refine JC.seq ?_ | refine JC.region ?_ | refine JC.block ?_ | refine JC.ret ?_ | refine JC.exit ?_ | refine JC.skip ?_ | refine thenK.nn ?_ | refine thenK.x ?_ | refine blockK.nn ?_ | refine blockK.hit rfl ?_ | refine JC.condT rfl ?_ | refine JC.condF rfl ?_ | refine loopK.x ?_)
          | (fail)
          | fail
        all_goals first | (exfalso; omega) | skip
        refine loopK.nn (m - 1) (by omega) (by repeat (first | refine Ag.upd rfl ?_ | exact Ag.hv)) ⟨_, ⟨k + 1, Q, S, mm, aQ, cQ, hQ, hS, hM, ?_, rfl, by omega, t.skip hk (.inr hin), oQ, ms, mt, rfl⟩, fun w hw => hw⟩
        show Value.int .i64 _ = _; congr 1
      ·
        rw [if_neg hin] at hsg
        have hpn := so.wf.pl _ h2 hx
        have hvo : o.getD (nd s.ns (Q.getD k 0)).p default ∈ o := mem_g o _ (by omega)
        have hvr := po.ok.1 _ hvo
        obtain ⟨v, hv⟩ : ∃ v, v = o.getD (nd s.ns (Q.getD k 0)).p default := ⟨_, rfl⟩
        rw [← hv] at hvr cP
        have hkv := keyI v (by omega)
        obtain ⟨c, hc⟩ : ∃ c, (mget mm v).getD 0 = c := ⟨_, rfl⟩
        have hnx := t.next hk h2 hin c (by rw [← hv]; exact hc)
        rw [← hv] at hnx
        have hc2 : c ≤ S.length := by rw [← hc, t.cnt v]; exact List.length_filter_le _ _
        have hQQ : natI Q ++ [(((nd s.ns (Q.getD k 0)).l : Nat) : Int), (((nd s.ns (Q.getD k 0)).h : Nat) : Int)] = natI (Q ++ [(nd s.ns (Q.getD k 0)).l, (nd s.ns (Q.getD k 0)).h]) := by unfold natI; rw [List.map_append]; rfl
        cases hgv : mget mm v with
        | none =>
          obtain rfl : 0 = c := by rw [hgv] at hc; exact hc
          repeat' first
            | (refine J.isJ ?_; first | (first | (refine J.o 0 ?_; refine J.ev' hΓ ?_; rw [hk1]) | (refine J.o 3 ?_; refine J.iJ hΓ ?_ (hs := oQ.sl)) | (refine J.o 4 ?_; first | (refine J.lT default hΓ ?_ (hs := oQ.sl) (hr := RdH.hd); rw [hg]) | (refine J.lT default hΓ ?_ (hs := oQ.sl) (hr := RdH.hd.tl); rw [hg])) | (refine J.fc 66 ?_; refine J.call0 eParts rfl rfl (fun w hw => cP w (hw.rdH (q0 _))) ?_) | (refine J.o 9 ?_; first | (refine J.lk (a := ((Q.getD k 0 : Nat) : Int)) keyedI ekI_inj ms (RdH.hd.tl) hkey hΓ ?_; rw [hsg]) | (refine J.perm (bring_perm 1 _) ?_; refine J.mup (a := ((Q.getD k 0 : Nat) : Int)) (ev := evBo) true keyedI ekI_inj ms hkey hΓ (fun h4 ms4 => ?_)) | (refine J.lk (a := v) keyedI ekI_inj mt (RdH.hd.tl.tl) hkv hΓ ?_; rw [hgv]) | (refine J.perm (bring_perm 2 _) ?_; refine J.mup (a := v) (ev := evI) (0 + 1) keyedI ekI_inj mt hkv hΓ (fun h5 mt5 => ?_))) | (refine J.o 1 ?_; refine J.gadd (a := 0) (b := 1) ?_ (hw := wI64 (by omega))) | (refine J.o 9 ?_; first | (first | (refine J.ap1 (enc := encI) [(((nd s.ns (Q.getD k 0)).l : Nat) : Int), (((nd s.ns (Q.getD k 0)).h : Nat) : Int)] hΓ (fun a6 c6 h6 o6 => ?_)) | (refine J.perm (br1.cons _) ?_; refine J.ap1 (enc := encI) [(((nd s.ns (Q.getD k 0)).l : Nat) : Int), (((nd s.ns (Q.getD k 0)).h : Nat) : Int)] hΓ (fun a6 c6 h6 o6 => ?_)) | (refine J.perm (br2.cons _) ?_; refine J.ap1 (enc := encI) [(((nd s.ns (Q.getD k 0)).l : Nat) : Int), (((nd s.ns (Q.getD k 0)).h : Nat) : Int)] hΓ (fun a6 c6 h6 o6 => ?_)) | (refine J.perm (br3.cons _) ?_; refine J.ap1 (enc := encI) [(((nd s.ns (Q.getD k 0)).l : Nat) : Int), (((nd s.ns (Q.getD k 0)).h : Nat) : Int)] hΓ (fun a6 c6 h6 o6 => ?_)) | (refine J.perm (br4.cons _) ?_; refine J.ap1 (enc := encI) [(((nd s.ns (Q.getD k 0)).l : Nat) : Int), (((nd s.ns (Q.getD k 0)).h : Nat) : Int)] hΓ (fun a6 c6 h6 o6 => ?_)) | (refine J.perm (br5.cons _) ?_; refine J.ap1 (enc := encI) [(((nd s.ns (Q.getD k 0)).l : Nat) : Int), (((nd s.ns (Q.getD k 0)).h : Nat) : Int)] hΓ (fun a6 c6 h6 o6 => ?_))) | (refine J.perm br1 ?_; first | (refine J.ap1 (enc := encI) [(((nd s.ns (Q.getD k 0)).l : Nat) : Int), (((nd s.ns (Q.getD k 0)).h : Nat) : Int)] hΓ (fun a6 c6 h6 o6 => ?_)) | (refine J.perm (br1.cons _) ?_; refine J.ap1 (enc := encI) [(((nd s.ns (Q.getD k 0)).l : Nat) : Int), (((nd s.ns (Q.getD k 0)).h : Nat) : Int)] hΓ (fun a6 c6 h6 o6 => ?_)) | (refine J.perm (br2.cons _) ?_; refine J.ap1 (enc := encI) [(((nd s.ns (Q.getD k 0)).l : Nat) : Int), (((nd s.ns (Q.getD k 0)).h : Nat) : Int)] hΓ (fun a6 c6 h6 o6 => ?_)) | (refine J.perm (br3.cons _) ?_; refine J.ap1 (enc := encI) [(((nd s.ns (Q.getD k 0)).l : Nat) : Int), (((nd s.ns (Q.getD k 0)).h : Nat) : Int)] hΓ (fun a6 c6 h6 o6 => ?_)) | (refine J.perm (br4.cons _) ?_; refine J.ap1 (enc := encI) [(((nd s.ns (Q.getD k 0)).l : Nat) : Int), (((nd s.ns (Q.getD k 0)).h : Nat) : Int)] hΓ (fun a6 c6 h6 o6 => ?_)) | (refine J.perm (br5.cons _) ?_; refine J.ap1 (enc := encI) [(((nd s.ns (Q.getD k 0)).l : Nat) : Int), (((nd s.ns (Q.getD k 0)).h : Nat) : Int)] hΓ (fun a6 c6 h6 o6 => ?_))) | (refine J.perm br2 ?_; first | (refine J.ap1 (enc := encI) [(((nd s.ns (Q.getD k 0)).l : Nat) : Int), (((nd s.ns (Q.getD k 0)).h : Nat) : Int)] hΓ (fun a6 c6 h6 o6 => ?_)) | (refine J.perm (br1.cons _) ?_; refine J.ap1 (enc := encI) [(((nd s.ns (Q.getD k 0)).l : Nat) : Int), (((nd s.ns (Q.getD k 0)).h : Nat) : Int)] hΓ (fun a6 c6 h6 o6 => ?_)) | (refine J.perm (br2.cons _) ?_; refine J.ap1 (enc := encI) [(((nd s.ns (Q.getD k 0)).l : Nat) : Int), (((nd s.ns (Q.getD k 0)).h : Nat) : Int)] hΓ (fun a6 c6 h6 o6 => ?_)) | (refine J.perm (br3.cons _) ?_; refine J.ap1 (enc := encI) [(((nd s.ns (Q.getD k 0)).l : Nat) : Int), (((nd s.ns (Q.getD k 0)).h : Nat) : Int)] hΓ (fun a6 c6 h6 o6 => ?_)) | (refine J.perm (br4.cons _) ?_; refine J.ap1 (enc := encI) [(((nd s.ns (Q.getD k 0)).l : Nat) : Int), (((nd s.ns (Q.getD k 0)).h : Nat) : Int)] hΓ (fun a6 c6 h6 o6 => ?_)) | (refine J.perm (br5.cons _) ?_; refine J.ap1 (enc := encI) [(((nd s.ns (Q.getD k 0)).l : Nat) : Int), (((nd s.ns (Q.getD k 0)).h : Nat) : Int)] hΓ (fun a6 c6 h6 o6 => ?_))))) | (first | (refine J.o 0 ?_; refine J.ev' hΓ ?_) | refine J.nil ?_ | refine J.kd ?_ | (refine J.o 4 ?_; first | refine J.lT default hΓ ?_) | (refine J.o 3 ?_; first | refine J.iJ hΓ ?_ | refine J.ev' hΓ ?_) | (refine J.o 1 ?_; first | refine J.ad ?_) | (refine J.o 9 ?_; refine J.bl hΓ (fun _ => ?_)) | (refine J.o 10 ?_; refine J.ev' hΓ ?_) | (refine J.o 11 ?_; refine J.ev' hΓ ?_)) | ((fail_if_success refine J.wt ?_); refine J.gc rfl rfl (fun hc => ?_) (fun hc => ?_) <;> ((try simp only [decide_eq_true_eq, decide_eq_false_iff_not, beq_iff_eq, beq_eq_false_iff_ne, bne_iff_ne, bne_eq_false_iff_eq, Bool.not_eq_true', Bool.not_eq_false', Bool.not_eq_true, Bool.not_eq_false] at hc) <;> first | (first | (exact absurd rfl hc) | (exfalso; omega) | (exact absurd (hc.symm.trans (by assumption : _ = false)) (by decide)) | (exact absurd (hc.symm.trans (by assumption : _ = true)) (by decide))) | skip)))
            | (first | refine JC.seq ?_ | refine JC.region ?_ | refine JC.block ?_ | refine JC.ret ?_ | refine JC.exit ?_ | refine JC.skip ?_ | refine thenK.nn ?_ | refine thenK.x ?_ | refine blockK.nn ?_ | refine blockK.hit rfl ?_ | refine JC.condT rfl ?_ | refine JC.condF rfl ?_ | refine loopK.x ?_)
            | (fail)
            | fail
          all_goals first | (exfalso; omega) | skip
          rw [hQQ] at o6
          rw [seenS_put hin] at ms4
          refine loopK.nn (m - 1) (by omega) (by repeat (first | refine Ag.upd rfl ?_ | exact Ag.hv)) ⟨_, ⟨k + 1, _, _, mput mm v (0 + 1), a6, c6, h6, h4, h5, ?_, ?_, by omega, hnx, o6, ms4, mt5, rfl⟩, fun w hw => H.sel (l := [_, _, _]) (M := []) hw [0, 2, 1]⟩
          · show Value.int .i64 _ = _; congr 1
          · show Value.slice _ _ _ = _; rw [hQQ]
        | some c0 =>
          obtain rfl : c0 = c := by rw [hgv] at hc; exact hc
          repeat' first
            | (refine J.isJ ?_; first | (first | (refine J.o 0 ?_; refine J.ev' hΓ ?_; rw [hk1]) | (refine J.o 3 ?_; refine J.iJ hΓ ?_ (hs := oQ.sl)) | (refine J.o 4 ?_; first | (refine J.lT default hΓ ?_ (hs := oQ.sl) (hr := RdH.hd); rw [hg]) | (refine J.lT default hΓ ?_ (hs := oQ.sl) (hr := RdH.hd.tl); rw [hg])) | (refine J.fc 66 ?_; refine J.call0 eParts rfl rfl (fun w hw => cP w (hw.rdH (q0 _))) ?_) | (refine J.o 9 ?_; first | (refine J.lk (a := ((Q.getD k 0 : Nat) : Int)) keyedI ekI_inj ms (RdH.hd.tl) hkey hΓ ?_; rw [hsg]) | (refine J.perm (bring_perm 1 _) ?_; refine J.mup (a := ((Q.getD k 0 : Nat) : Int)) (ev := evBo) true keyedI ekI_inj ms hkey hΓ (fun h4 ms4 => ?_)) | (refine J.lk (a := v) keyedI ekI_inj mt (RdH.hd.tl.tl) hkv hΓ ?_; rw [hgv]) | (refine J.perm (bring_perm 2 _) ?_; refine J.mup (a := v) (ev := evI) (c0 + 1) keyedI ekI_inj mt hkv hΓ (fun h5 mt5 => ?_))) | (refine J.o 1 ?_; refine J.gadd (a := c0) (b := 1) ?_ (hw := wI64 (by omega))) | (refine J.o 9 ?_; first | (first | (refine J.ap1 (enc := encI) [(((nd s.ns (Q.getD k 0)).l : Nat) : Int), (((nd s.ns (Q.getD k 0)).h : Nat) : Int)] hΓ (fun a6 c6 h6 o6 => ?_)) | (refine J.perm (br1.cons _) ?_; refine J.ap1 (enc := encI) [(((nd s.ns (Q.getD k 0)).l : Nat) : Int), (((nd s.ns (Q.getD k 0)).h : Nat) : Int)] hΓ (fun a6 c6 h6 o6 => ?_)) | (refine J.perm (br2.cons _) ?_; refine J.ap1 (enc := encI) [(((nd s.ns (Q.getD k 0)).l : Nat) : Int), (((nd s.ns (Q.getD k 0)).h : Nat) : Int)] hΓ (fun a6 c6 h6 o6 => ?_)) | (refine J.perm (br3.cons _) ?_; refine J.ap1 (enc := encI) [(((nd s.ns (Q.getD k 0)).l : Nat) : Int), (((nd s.ns (Q.getD k 0)).h : Nat) : Int)] hΓ (fun a6 c6 h6 o6 => ?_)) | (refine J.perm (br4.cons _) ?_; refine J.ap1 (enc := encI) [(((nd s.ns (Q.getD k 0)).l : Nat) : Int), (((nd s.ns (Q.getD k 0)).h : Nat) : Int)] hΓ (fun a6 c6 h6 o6 => ?_)) | (refine J.perm (br5.cons _) ?_; refine J.ap1 (enc := encI) [(((nd s.ns (Q.getD k 0)).l : Nat) : Int), (((nd s.ns (Q.getD k 0)).h : Nat) : Int)] hΓ (fun a6 c6 h6 o6 => ?_))) | (refine J.perm br1 ?_; first | (refine J.ap1 (enc := encI) [(((nd s.ns (Q.getD k 0)).l : Nat) : Int), (((nd s.ns (Q.getD k 0)).h : Nat) : Int)] hΓ (fun a6 c6 h6 o6 => ?_)) | (refine J.perm (br1.cons _) ?_; refine J.ap1 (enc := encI) [(((nd s.ns (Q.getD k 0)).l : Nat) : Int), (((nd s.ns (Q.getD k 0)).h : Nat) : Int)] hΓ (fun a6 c6 h6 o6 => ?_)) | (refine J.perm (br2.cons _) ?_; refine J.ap1 (enc := encI) [(((nd s.ns (Q.getD k 0)).l : Nat) : Int), (((nd s.ns (Q.getD k 0)).h : Nat) : Int)] hΓ (fun a6 c6 h6 o6 => ?_)) | (refine J.perm (br3.cons _) ?_; refine J.ap1 (enc := encI) [(((nd s.ns (Q.getD k 0)).l : Nat) : Int), (((nd s.ns (Q.getD k 0)).h : Nat) : Int)] hΓ (fun a6 c6 h6 o6 => ?_)) | (refine J.perm (br4.cons _) ?_; refine J.ap1 (enc := encI) [(((nd s.ns (Q.getD k 0)).l : Nat) : Int), (((nd s.ns (Q.getD k 0)).h : Nat) : Int)] hΓ (fun a6 c6 h6 o6 => ?_)) | (refine J.perm (br5.cons _) ?_; refine J.ap1 (enc := encI) [(((nd s.ns (Q.getD k 0)).l : Nat) : Int), (((nd s.ns (Q.getD k 0)).h : Nat) : Int)] hΓ (fun a6 c6 h6 o6 => ?_))) | (refine J.perm br2 ?_; first | (refine J.ap1 (enc := encI) [(((nd s.ns (Q.getD k 0)).l : Nat) : Int), (((nd s.ns (Q.getD k 0)).h : Nat) : Int)] hΓ (fun a6 c6 h6 o6 => ?_)) | (refine J.perm (br1.cons _) ?_; refine J.ap1 (enc := encI) [(((nd s.ns (Q.getD k 0)).l : Nat) : Int), (((nd s.ns (Q.getD k 0)).h : Nat) : Int)] hΓ (fun a6 c6 h6 o6 => ?_)) | (refine J.perm (br2.cons _) ?_; refine J.ap1 (enc := encI) [(((nd s.ns (Q.getD k 0)).l : Nat) : Int), (((nd s.ns (Q.getD k 0)).h : Nat) : Int)] hΓ (fun a6 c6 h6 o6 => ?_)) | (refine J.perm (br3.cons _) ?_; refine J.ap1 (enc := encI) [(((nd s.ns (Q.getD k 0)).l : Nat) : Int), (((nd s.ns (Q.getD k 0)).h : Nat) : Int)] hΓ (fun a6 c6 h6 o6 => ?_)) | (refine J.perm (br4.cons _) ?_; refine J.ap1 (enc := encI) [(((nd s.ns (Q.getD k 0)).l : Nat) : Int), (((nd s.ns (Q.getD k 0)).h : Nat) : Int)] hΓ (fun a6 c6 h6 o6 => ?_)) | (refine J.perm (br5.cons _) ?_; refine J.ap1 (enc := encI) [(((nd s.ns (Q.getD k 0)).l : Nat) : Int), (((nd s.ns (Q.getD k 0)).h : Nat) : Int)] hΓ (fun a6 c6 h6 o6 => ?_))))) | (first | (refine J.o 0 ?_; refine J.ev' hΓ ?_) | refine J.nil ?_ | refine J.kd ?_ | (refine J.o 4 ?_; first | refine J.lT default hΓ ?_) | (refine J.o 3 ?_; first | refine J.iJ hΓ ?_ | refine J.ev' hΓ ?_) | (refine J.o 1 ?_; first | refine J.ad ?_) | (refine J.o 9 ?_; refine J.bl hΓ (fun _ => ?_)) | (refine J.o 10 ?_; refine J.ev' hΓ ?_) | (refine J.o 11 ?_; refine J.ev' hΓ ?_)) | ((fail_if_success refine J.wt ?_); refine J.gc rfl rfl (fun hc => ?_) (fun hc => ?_) <;> ((try simp only [decide_eq_true_eq, decide_eq_false_iff_not, beq_iff_eq, beq_eq_false_iff_ne, bne_iff_ne, bne_eq_false_iff_eq, Bool.not_eq_true', Bool.not_eq_false', Bool.not_eq_true, Bool.not_eq_false] at hc) <;> first | (first | (exact absurd rfl hc) | (exfalso; omega) | (exact absurd (hc.symm.trans (by assumption : _ = false)) (by decide)) | (exact absurd (hc.symm.trans (by assumption : _ = true)) (by decide))) | skip)))
            | (first | refine JC.seq ?_ | refine JC.region ?_ | refine JC.block ?_ | refine JC.ret ?_ | refine JC.exit ?_ | refine JC.skip ?_ | refine thenK.nn ?_ | refine thenK.x ?_ | refine blockK.nn ?_ | refine blockK.hit rfl ?_ | refine JC.condT rfl ?_ | refine JC.condF rfl ?_ | refine loopK.x ?_)
            | (fail)
            | fail
          all_goals first | (exfalso; omega) | skip
          rw [hQQ] at o6
          rw [seenS_put hin] at ms4
          refine loopK.nn (m - 1) (by omega) (by repeat (first | refine Ag.upd rfl ?_ | exact Ag.hv)) ⟨_, ⟨k + 1, _, _, mput mm v (c0 + 1), a6, c6, h6, h4, h5, ?_, ?_, by omega, hnx, o6, ms4, mt5, rfl⟩, fun w hw => H.sel (l := [_, _, _]) (M := []) hw [0, 2, 1]⟩
          · show Value.int .i64 _ = _; congr 1
          · show Value.slice _ _ _ = _; rw [hQQ]
  ·
    repeat' first
      | (refine J.isJ ?_; first | (fail) | (first | (refine J.o 0 ?_; refine J.ev' hΓ ?_) | refine J.nil ?_ | refine J.kd ?_ | (refine J.o 4 ?_; first | refine J.lT default hΓ ?_) | (refine J.o 3 ?_; first | refine J.iJ hΓ ?_ | refine J.ev' hΓ ?_) | (refine J.o 1 ?_; first | refine J.ad ?_) | (refine J.o 9 ?_; refine J.bl hΓ (fun _ => ?_)) | (refine J.o 10 ?_; refine J.ev' hΓ ?_) | (refine J.o 11 ?_; refine J.ev' hΓ ?_)) | ((fail_if_success refine J.wt ?_); refine J.gc rfl rfl (fun hc => ?_) (fun hc => ?_) <;> ((try simp only [decide_eq_true_eq, decide_eq_false_iff_not, beq_iff_eq, beq_eq_false_iff_ne, bne_iff_ne, bne_eq_false_iff_eq, Bool.not_eq_true', Bool.not_eq_false', Bool.not_eq_true, Bool.not_eq_false] at hc) <;> first | (first | (exact absurd rfl hc) | (exfalso; omega) | (exact absurd (hc.symm.trans (by assumption : _ = false)) (by decide)) | (exact absurd (hc.symm.trans (by assumption : _ = true)) (by decide))) | skip)))
      | (first | refine JC.seq ?_ | refine JC.region ?_ | refine JC.block ?_ | refine JC.ret ?_ | refine JC.exit ?_ | refine JC.skip ?_ | refine thenK.nn ?_ | refine thenK.x ?_ | refine blockK.nn ?_ | refine blockK.hit rfl ?_ | refine JC.condT rfl ?_ | refine JC.condF rfl ?_ | refine loopK.x ?_)
      | (fail)
      | fail
    all_goals first | (exfalso; omega) | skip
    exact ret1f rfl rfl rfl (fun w1 hw => Gives.of (H.sel (l := [_, _, _]) (M := []) hw [2]) ⟨bm, mm, S, rfl, mt, t.nodup, t.all hk, t.cnt⟩)
end Go.Proofs.Ytbhgahjeocnfcaa
namespace Go.Proofs.Ytbhgahjeocnfcaa
open Go Go.Cx Go.RowKit
set_option linter.unusedVariables false
set_option linter.unusedSimpArgs false
set_option maxHeartbeats 4000000
attribute [local irreducible] J JC thenK blockK loopK drawK retK QW Qt pel List.set Calls
open Go.Maps Go.Lib
set_option maxRecDepth 8000
attribute [local irreducible] JE Br eK0 eK3 brK pc
theorem swp_take (o : List Int) {p i : Nat} (hp : p + 1 < o.length) (hi : i ≤ p) : (swp o p).take i = o.take i := by
  refine List.ext_getElem (by rw [List.length_take, List.length_take, swp_len]) fun j h1 h2 => ?_
  rw [List.length_take] at h2
  rw [List.getElem_take, List.getElem_take]
  have hg : ∀ (l : List Int) (h : j < l.length), l[j] = l.getD j default := fun l h => by rw [List.getD_eq_getElem?_getD, List.getElem?_eq_getElem h]; rfl
  rw [hg _ (by rw [swp_len]; omega), hg _ (by omega), swp_get o hp, if_neg (by omega), if_neg (by omega)]
end Go.Proofs.Ytbhgahjeocnfcaa
namespace Go.Proofs.Ytbhgahjeocnfcaa
open Go Go.Cx Go.RowKit
set_option linter.unusedVariables false
set_option linter.unusedSimpArgs false
set_option maxHeartbeats 4000000
attribute [local irreducible] J JC thenK blockK loopK drawK retK QW Qt pel List.set Calls
open Go.Maps Go.Lib
set_option maxRecDepth 8000
attribute [local irreducible] JE Br eK0 eK3 brK pc
section
variable {P : Program} {n : Nat} {w0 : World} {R : Heap} {K0 : Exit → Fr → List Heap → Prop} {f : Fr} {L : List Heap} {l0 : List Oper} {rest : List (Nat × Oper)} {q : Nat}
variable {Γ : List (Nat × TI)} {d : Nat} {ty : TypeId} {pos : String} {aft : Array Edge} {g : Option (Nat × Bool)}
variable {κ : Type} [DecidableEq κ] {kt e : TypeId} {ek : κ → Value}
theorem J.lkN {t : TypeId} {m x : Operand} {mm : List (κ × Nat)} {b : Nat} {h : Heap} {a : κ} {s1 s2 b1 b2 : Nat} {z1 : Option Value} {de : TypeDesc} (c : Nat) (K : Keyed P kt) (inj : ∀ x y, ek x = ek y → x = y) (mt : MapT P kt ek evI mm b h) (hr : RdH R L h) (hkey : ∃ l, keyOf P kt (ek a) = some l) (hΓ : Fits P Γ) (hget : (mget mm a).getD 0 = c)
    (k : J P n w0 R l0 K0 rest (upd f d (.int .i64 (c : Int))) L)
    (hg : wantB n f l0 ⟨some d, .lookup t m x false, ty, pos, aft, g⟩ = true := by exact rfl) (hm : Cx.ev n f m = .map (some b) := by exact rfl) (hx : Cx.ev n f x = ek a := by exact rfl) (ht : Go.Cx.look Γ t = some ⟨.map kt e, s1, z1, b1⟩ := by exact rfl) (he : Go.Cx.look Γ e = some ⟨de, s2, some (.int .i64 0), b2⟩ := by exact rfl) :
    J P n w0 R l0 K0 ((q + 1, ⟨some d, .lookup t m x false, ty, pos, aft, g⟩) :: rest) f L := by
  refine J.lk K inj mt hr hkey hΓ ?_ hg hm hx ht he
  subst hget
  cases hmm : mget mm a with
  | some y => rw [hmm] at k; exact k
  | none => rw [hmm] at k; exact k
end
theorem take_swp {o : List Int} {p k : Nat} (hp : p + 1 < k) (hk : k ≤ o.length) : (swp o p).take k = swp (o.take k) p := by
  refine List.ext_getElem (by rw [List.length_take, swp_len, swp_len, List.length_take]) fun j h1 h2 => ?_
  rw [swp_len, List.length_take] at h2
  have hg : ∀ (l : List Int) (h : j < l.length), l[j] = l.getD j default := fun l h => by rw [List.getD_eq_getElem?_getD, List.getElem?_eq_getElem h]; rfl
  have ht : ∀ i, i < k → (o.take k).getD i default = o.getD i default := fun i hi => by
    rw [List.getD_eq_getElem?_getD, List.getD_eq_getElem?_getD, List.getElem?_take_of_lt hi]
  rw [List.getElem_take, hg _ (by rw [swp_len]; omega), hg _ (by rw [swp_len, List.length_take]; omega), swp_get o (by omega), swp_get _ (by rw [List.length_take]; omega), ht _ hp, ht _ (by omega), ht _ (by omega)]
theorem swp_mem {o : List Int} {p k : Nat} (hp : p + 1 < o.length) (hk : k ≤ o.length) (h : k ≤ p ∨ p + 1 < k) (u : Int) : u ∈ o.take k ↔ u ∈ (swp o p).take k := by
  rcases h with h | h
  · rw [swp_take o hp h]
  · rw [take_swp h hk]
    exact (swp_perm (o.take k) (by rw [List.length_take]; omega)).mem_iff.symm
theorem tops_mem {F : VF} {l : List Int} {K : KS} {s : SS} {r : Nat} {hO hP : Heap} (sv : Stv F l K s r hO hP) {S : List Nat} (hS : ∀ x, x ∈ S ↔ 2 ≤ x ∧ Rch s.ns r x) {k : Nat} (hk : k < l.length) {v : Int} (hv : l.getD k default = v) (j : Nat) : j ∈ S.filter (fun j => decide (l.getD (nd s.ns j).p default = v)) ↔ Rch s.ns r j ∧ (nd s.ns j).p = k := by
  rw [List.mem_filter, hS, decide_eq_true_iff]
  constructor
  · rintro ⟨⟨h2, hr⟩, e⟩
    have hp := sv.so.wf.pl j h2 (hr.lt sv.so.wf sv.sy.1)
    exact ⟨hr, getD_inj sv.ho.2 hp hk (by rw [e, hv])⟩
  · rintro ⟨hr, e⟩
    exact ⟨⟨sv.so.wf.nonconst (by rw [e]; exact hk), hr⟩, by rw [e, hv]⟩
theorem tops_eq {F : VF} {l : List Int} {p : Nat} (hp : p + 1 < l.length) {K1 K2 : KS} {s1 s2 : SS} {r1 r2 : Nat} {hO1 hP1 hO2 hP2 : Heap} (sv1 : Stv F l K1 s1 r1 hO1 hP1) (sv2 : Stv F (swp l p) K2 s2 r2 hO2 hP2) {S1 S2 : List Nat} (n1 : S1.Nodup) (n2 : S2.Nodup) (h1 : ∀ x, x ∈ S1 ↔ 2 ≤ x ∧ Rch s1.ns r1 x) (h2 : ∀ x, x ∈ S2 ↔ 2 ≤ x ∧ Rch s2.ns r2 x) {v : Int} (hm : v ∈ l) (hne1 : v ≠ l.getD p default) (hne2 : v ≠ l.getD (p + 1) default) : cntV s1.ns l S1 v = cntV s2.ns (swp l p) S2 v := by
  obtain ⟨k, hk, hv⟩ := mem_at hm
  have hkp : k ≠ p := fun e => hne1 (by rw [← hv, e])
  have hkq : k ≠ p + 1 := fun e => hne2 (by rw [← hv, e])
  have hv2 : (swp l p).getD k default = v := by rw [swp_get l hp, if_neg hkp, if_neg hkq, hv]
  have hk2 : k < (swp l p).length := by rw [swp_len]; exact hk
  unfold cntV
  exact level_eq sv1.ho sv2.ho sv1.so.wf sv2.so.wf sv1.sy sv2.sy hk hk2 (by rw [hv, hv2]) (swp_mem hp (Nat.le_of_lt hk) (by omega)) (n1.sublist List.filter_sublist) (n2.sublist List.filter_sublist) (tops_mem sv1 h1 hk hv) (tops_mem sv2 h2 hk2 hv2)
set_option maxHeartbeats 16000000 in
theorem others_any (N : Int) (aT : Option Addr) (cap : Nat) (vs : List HV) (hT : Heap) (ll : LLR aT vs hT) (ks : List Nat) (ak : Option Addr) (ck : Nat) (hk : Heap) (hs : SlT encK 1 ak ks hk) (hkl : ks.length ≤ 9223372036854775807) (hkb : ∀ k ∈ ks, k < 256) (p : Nat) (hpb : p < 256) (w : World) (hw1 : Holds (hT ++ hk) w) :
    Calls Try.prog 4 #[.agg ⟨[.int .i64 N, .slice aT vs.length cap]⟩, .slice ak ks.length ck, .int .u8 (p : Int)] w fun e w' => e = .returned (.bool true) ∧ Below w.heap.size w w' := by
  have qT : ∀ L, RdH (hT ++ hk) L hT := fun L => RdH.old fun _ hh => List.mem_append_left _ hh
  have qK : ∀ L, RdH (hT ++ hk) L hk := fun L => RdH.old fun _ hh => List.mem_append_right _ hh
  have cS := fun w hw => small_any 8 (by omega) N aT cap vs hT ll w hw
  by_cases hsm : smallP 8 N (vs.map (·.l))
  case neg =>
    rw [decide_eq_false hsm] at cS
    refine calls_of_JC (R := (hT ++ hk)) Try.func4 Try.ntmps4 rfl rfl (hw1) ?_
    repeat' first
      | (refine J.isJ ?_; first | (first | (refine J.o 6 ?_; refine J.bx (fun b3 => ?_)) | (refine J.o 4 ?_; refine J.lR hΓ ?_ (hr := Rd.hd)) | (refine J.fc 13 ?_; refine J.call0 eSmall rfl rfl (fun w hw => cS w (hw.rdH (qT _))) ?_) | (refine J.fc 14 ?_; refine J.call0 eWorks31 rfl rfl (fun w hw => works31_any w) ?_)) | (first | (refine J.o 0 ?_; refine J.ev' hΓ ?_) | refine J.nil ?_ | refine J.kd ?_ | (refine J.o 4 ?_; first | refine J.lT default hΓ ?_ | refine J.lR hΓ ?_) | (refine J.o 3 ?_; first | refine J.iJ hΓ ?_ | refine J.ev' hΓ ?_) | (refine J.o 1 ?_; first | refine J.ad ?_) | (refine J.o 6 ?_; refine J.bx (fun _ => ?_)) | (refine J.o 10 ?_; refine J.ev' hΓ ?_) | (refine J.o 11 ?_; refine J.ev' hΓ ?_)))
      | (first | refine JC.seq ?_ | refine JC.region ?_ | refine JC.block ?_ | refine JC.ret ?_ | refine JC.exit ?_ | refine JC.skip ?_ | refine thenK.nn ?_ | refine thenK.r ?_ | refine thenK.x ?_ | refine blockK.nn ?_ | refine blockK.hit rfl ?_ | refine JC.condT rfl ?_ | refine JC.condF rfl ?_ | (refine JC.cond rfl (fun hc => ?_) (fun hc => ?_) <;> ((try simp only [decide_eq_true_eq, decide_eq_false_iff_not, beq_iff_eq, beq_eq_false_iff_ne, bne_iff_ne, bne_eq_false_iff_eq, Bool.not_eq_true', Bool.not_eq_false', Bool.not_eq_true, Bool.not_eq_false] at hc) <;> first | (first | (exact absurd rfl hc) | (exfalso; omega) | (exact absurd (hc.symm.trans (by assumption : _ = false)) (by decide)) | (exact absurd (hc.symm.trans (by assumption : _ = true)) (by decide))) | skip)) | refine loopK.x ?_)
      | (fail)
      | fail
    all_goals first | (exfalso; omega) | skip
    all_goals (refine ret1f rfl rfl rfl (fun w1 hw => ⟨rfl, hw.below⟩))
  rw [decide_eq_true hsm] at cS
  obtain ⟨n, rfl, hn8, hok, hco⟩ := smallP_ok (n := 8) (by omega) hsm
  rcases Nat.lt_or_ge n 2 with h2 | h2
  ·
    refine calls_of_JC (R := (hT ++ hk)) Try.func4 Try.ntmps4 rfl rfl (hw1) ?_
    repeat' first
      | (refine J.isJ ?_; first | (first | (refine J.o 6 ?_; refine J.bx (fun b3 => ?_)) | (refine J.o 4 ?_; refine J.lR hΓ ?_ (hr := Rd.hd)) | (refine J.fc 13 ?_; refine J.call0 eSmall rfl rfl (fun w hw => cS w (hw.rdH (qT _))) ?_) | (refine J.fc 14 ?_; refine J.call0 eWorks31 rfl rfl (fun w hw => works31_any w) ?_)) | (first | (refine J.o 0 ?_; refine J.ev' hΓ ?_) | refine J.nil ?_ | refine J.kd ?_ | (refine J.o 4 ?_; first | refine J.lT default hΓ ?_ | refine J.lR hΓ ?_) | (refine J.o 3 ?_; first | refine J.iJ hΓ ?_ | refine J.ev' hΓ ?_) | (refine J.o 1 ?_; first | refine J.ad ?_) | (refine J.o 6 ?_; refine J.bx (fun _ => ?_)) | (refine J.o 10 ?_; refine J.ev' hΓ ?_) | (refine J.o 11 ?_; refine J.ev' hΓ ?_)))
      | (first | refine JC.seq ?_ | refine JC.region ?_ | refine JC.block ?_ | refine JC.ret ?_ | refine JC.exit ?_ | refine JC.skip ?_ | refine thenK.nn ?_ | refine thenK.r ?_ | refine thenK.x ?_ | refine blockK.nn ?_ | refine blockK.hit rfl ?_ | refine JC.condT rfl ?_ | refine JC.condF rfl ?_ | (refine JC.cond rfl (fun hc => ?_) (fun hc => ?_) <;> ((try simp only [decide_eq_true_eq, decide_eq_false_iff_not, beq_iff_eq, beq_eq_false_iff_ne, bne_iff_ne, bne_eq_false_iff_eq, Bool.not_eq_true', Bool.not_eq_false', Bool.not_eq_true, Bool.not_eq_false] at hc) <;> first | (first | (exact absurd rfl hc) | (exfalso; omega) | (exact absurd (hc.symm.trans (by assumption : _ = false)) (by decide)) | (exact absurd (hc.symm.trans (by assumption : _ = true)) (by decide))) | skip)) | refine loopK.x ?_)
      | (fail)
      | fail
    all_goals first | (exfalso; omega) | skip
    all_goals (refine ret1f rfl rfl rfl (fun w1 hw => ⟨rfl, hw.below⟩))
  obtain ⟨q, hq⟩ : ∃ q, q = p % (n - 1) := ⟨_, rfl⟩
  have hqn : q < n - 1 := by rw [hq]; exact Nat.mod_lt _ (by omega)
  have hqv : Value.int .i64 ((p % (n - 1) : Nat) : Int) = .int .i64 (q : Int) := by rw [hq]
  refine calls_of_JC (R := (hT ++ hk)) Try.func4 Try.ntmps4 rfl rfl (hw1) ?_
  refine JC.seq ?_
  refine JC.region ?_
  refine J.isJ ?_
  refine J.o 6 ?_
  refine J.bx (fun b3 => ?_)
  repeat' first
    | (refine J.isJ ?_; first | (first | (refine J.o 4 ?_; first | refine J.lR hΓ ?_ (hr := Rd.hd) | refine J.lR hΓ ?_ (hr := Rd.hd.tl) | refine J.lR hΓ ?_ (hr := Rd.app _ Rd.hd.tl.tl.tl)) | (refine J.fc 13 ?_; refine J.call0 eSmall rfl rfl (fun w hw => cS w (hw.rdH (qT _))) ?_) | (refine J.fc 15 ?_; refine J.call1 eOrder31 rfl rfl (fun w hw => order31_any n (by omega) ks ak ck hk hs hkl hkb w (hw.rdH (qK _))) ?_; rintro _ hO ⟨aO, l, cO, rfl, hp, oO⟩; have hll : l.length = n := (by rw [hp.length_eq, ints_len])) | (refine J.fc 16 ?_; refine J.callx eCom rfl rfl (fun w hw => compile_V n hn8 l hp aO cO hO oO.sl aT cap vs hT ll _ rfl hok hco RdH.hd (qT _) hw) ?_; rintro _ _ ⟨b1, K1, s1, y1, hO1, hP1, rfl, rfl, sv1⟩) | (refine J.o 2 ?_; refine J.gcv hΓ ?_ (hk := wI64 (by omega))) | (refine J.o 1 ?_; first | refine J.gsub (a := n) (b := 1) ?_ | (refine J.grem (a := p) (b := n - 1) ?_; rw [hqv])) | (refine J.fc 17 ?_; refine J.callx eSwap rfl rfl (fun w hw => Swap_any sv1 (by omega) q (by omega) (stR_hd _) hw) ?_; rintro _ _ ⟨b2, K2, s2, y2, hO2, hP2, rfl, rfl, sv2⟩) | (refine J.fc 21 ?_; first | (refine J.call1 eTops rfl rfl (fun w hw => tops_any sv1.so sv1.po (by omega) b1 y1 sv1.sy.1 w (stR_of2 (stR_tl (stR_hd _) K2 b2 s2 hO2 hP2) hw)) ?_; rintro _ hM1 ⟨bm1, mm1, S1, rfl, mt1, nS1, mS1, cn1⟩) | (refine J.call1 eTops rfl rfl (fun w hw => tops_any sv2.so sv2.po (by rw [swp_len]; omega) b2 y2 sv2.sy.1 w (stR_of2 (stR_hd _).tl hw)) ?_; rintro _ hM2 ⟨bm2, mm2, S2, rfl, mt2, nS2, mS2, cn2⟩))) | (first | (refine J.o 0 ?_; refine J.ev' hΓ ?_) | refine J.nil ?_ | refine J.kd ?_ | (refine J.o 4 ?_; first | refine J.lT default hΓ ?_ | refine J.lR hΓ ?_) | (refine J.o 3 ?_; first | refine J.iJ hΓ ?_ | refine J.ev' hΓ ?_) | (refine J.o 1 ?_; first | refine J.ad ?_) | (refine J.o 6 ?_; refine J.bx (fun _ => ?_)) | (refine J.o 10 ?_; refine J.ev' hΓ ?_) | (refine J.o 11 ?_; refine J.ev' hΓ ?_)))
    | (first | refine JC.seq ?_ | refine JC.region ?_ | refine JC.block ?_ | refine JC.ret ?_ | refine JC.exit ?_ | refine JC.skip ?_ | refine thenK.nn ?_ | refine thenK.r ?_ | refine thenK.x ?_ | refine blockK.nn ?_ | refine blockK.hit rfl ?_ | refine JC.condT rfl ?_ | refine JC.condF rfl ?_ | (refine JC.cond rfl (fun hc => ?_) (fun hc => ?_) <;> ((try simp only [decide_eq_true_eq, decide_eq_false_iff_not, beq_iff_eq, beq_eq_false_iff_ne, bne_iff_ne, bne_eq_false_iff_eq, Bool.not_eq_true', Bool.not_eq_false', Bool.not_eq_true, Bool.not_eq_false] at hc) <;> first | (first | (exact absurd rfl hc) | (exfalso; omega) | (exact absurd (hc.symm.trans (by assumption : _ = false)) (by decide)) | (exact absurd (hc.symm.trans (by assumption : _ = true)) (by decide))) | skip)) | refine loopK.x ?_)
    | (fail)
    | fail
  all_goals first | (exfalso; omega) | skip
  have hte := fun {v : Int} (hm : v ∈ l) (h1 : v ≠ l.getD q default) (h2 : v ≠ l.getD (q + 1) default) => tops_eq (by omega) sv1 sv2 nS1 nS2 mS1 mS2 hm h1 h2
  obtain ⟨M, hM⟩ : ∃ M : List Heap, M = hM2 :: hM1 :: (sF K2 b2 s2 ++ (hO2 :: hP2 :: (sF K1 b1 s1 ++ (hO1 :: hP1 :: hO :: [(b3, .cells ⟨[.int .i64 (n : Int), .slice aT vs.length cap]⟩ 24 (0, 0))] :: [])))) := ⟨_, rfl⟩
  have rM2 : RdH (hT ++ hk) M hM2 := by rw [hM]; exact RdH.hd
  have rM1 : RdH (hT ++ hk) M hM1 := by rw [hM]; exact RdH.hd.tl
  have rO : RdH (hT ++ hk) M hO := by rw [hM]; exact (stR_tl (stR_tl RdH.hd K1 b1 s1 hO1 hP1) K2 b2 s2 hO2 hP2).tl.tl
  have rB : Rd (hT ++ hk) M b3 (.cells ⟨[.int .i64 (n : Int), .slice aT vs.length cap]⟩ 24 (0, 0)) := by rw [hM]; exact (Rd.app _ (Rd.app _ Rd.hd.tl.tl.tl).tl.tl).tl.tl
  refine JC.weak (L' := M) (fun w hw => by rw [hM]; exact hw) ?_
  clear hM
  refine JC.loop (fun i => i == 16 || (Nat.ble 61 i && Nat.ble i 90)) (fun m g L' => ∃ k : Nat, g 16 = .int .i64 ((k + 1 : Nat) : Int) ∧ k + m = n ∧ L' = M) n ⟨0, rfl, by omega, rfl⟩ ?_
  rintro m g L' ⟨k, e16, hkm, rfl⟩
  refine JC.pin 16 e16 ?_
  rcases Nat.lt_or_ge k n with hkn | hkn
  case inr =>
    repeat' first
      | (refine J.isJ ?_; first | (first | (refine J.o 4 ?_; refine J.lR hΓ ?_ (hr := rB)) | (refine J.fc 14 ?_; refine J.call0 eWorks31 rfl rfl (fun w hw => works31_any w) ?_)) | (first | (refine J.o 0 ?_; refine J.ev' hΓ ?_) | refine J.nil ?_ | refine J.kd ?_ | (refine J.o 4 ?_; first | refine J.lT default hΓ ?_ | refine J.lR hΓ ?_) | (refine J.o 3 ?_; first | refine J.iJ hΓ ?_ | refine J.ev' hΓ ?_) | (refine J.o 1 ?_; first | refine J.ad ?_) | (refine J.o 6 ?_; refine J.bx (fun _ => ?_)) | (refine J.o 10 ?_; refine J.ev' hΓ ?_) | (refine J.o 11 ?_; refine J.ev' hΓ ?_)))
      | (first | refine JC.seq ?_ | refine JC.region ?_ | refine JC.block ?_ | refine JC.ret ?_ | refine JC.exit ?_ | refine JC.skip ?_ | refine thenK.nn ?_ | refine thenK.r ?_ | refine thenK.x ?_ | refine blockK.nn ?_ | refine blockK.hit rfl ?_ | refine JC.condT rfl ?_ | refine JC.condF rfl ?_ | (refine JC.cond rfl (fun hc => ?_) (fun hc => ?_) <;> ((try simp only [decide_eq_true_eq, decide_eq_false_iff_not, beq_iff_eq, beq_eq_false_iff_ne, bne_iff_ne, bne_eq_false_iff_eq, Bool.not_eq_true', Bool.not_eq_false', Bool.not_eq_true, Bool.not_eq_false] at hc) <;> first | (first | (exact absurd rfl hc) | (exfalso; omega) | (exact absurd (hc.symm.trans (by assumption : _ = false)) (by decide)) | (exact absurd (hc.symm.trans (by assumption : _ = true)) (by decide))) | skip)) | refine loopK.x ?_)
      | (fail)
      | fail
    all_goals first | (exfalso; omega) | skip
    all_goals (refine ret1f rfl rfl rfl (fun w1 hw => ⟨rfl, hw.below⟩))
  have hkey := keyI ((k + 1 : Nat) : Int) (by omega)
  have hml : ((k + 1 : Nat) : Int) ∈ l := hp.mem_iff.2 ((ints_mem _ _).2 ⟨by omega, by omega⟩)
  have hsn : ∀ x : Int, (((k + 1 : Nat) : Int) != x) = decide (((k + 1 : Nat) : Int) ≠ x) := fun x => by
    rw [Bool.eq_iff_iff, decide_eq_true_iff]; simp
  have hend : Value.int .i64 (((k + 1 : Nat) : Int) + 1) = .int .i64 ((k + 1 + 1 : Nat) : Int) := by congr 1
  by_cases h1 : ((k + 1 : Nat) : Int) = l.getD q default
  ·
    have hd : (((k + 1 : Nat) : Int) != l.getD q default) = false := by rw [h1]; simp
    repeat' first
      | (refine J.isJ ?_; first | (first | (refine J.o 4 ?_; first | refine J.lR hΓ ?_ (hr := rB) | refine J.lT default hΓ ?_ (hs := oO.sl) (hr := rO)) | (refine J.o 3 ?_; refine J.iJ hΓ ?_ (hs := oO.sl)) | (refine J.o 11 ?_; refine J.ev' hΓ ?_; rw [hd])) | (first | (refine J.o 0 ?_; refine J.ev' hΓ ?_) | refine J.nil ?_ | refine J.kd ?_ | (refine J.o 4 ?_; first | refine J.lT default hΓ ?_ | refine J.lR hΓ ?_) | (refine J.o 3 ?_; first | refine J.iJ hΓ ?_ | refine J.ev' hΓ ?_) | (refine J.o 1 ?_; first | refine J.ad ?_) | (refine J.o 6 ?_; refine J.bx (fun _ => ?_)) | (refine J.o 10 ?_; refine J.ev' hΓ ?_) | (refine J.o 11 ?_; refine J.ev' hΓ ?_)))
      | (first | refine JC.seq ?_ | refine JC.region ?_ | refine JC.block ?_ | refine JC.ret ?_ | refine JC.exit ?_ | refine JC.skip ?_ | refine thenK.nn ?_ | refine thenK.r ?_ | refine thenK.x ?_ | refine blockK.nn ?_ | refine blockK.hit rfl ?_ | refine JC.condT rfl ?_ | refine JC.condF rfl ?_ | (refine JC.cond rfl (fun hc => ?_) (fun hc => ?_) <;> ((try simp only [decide_eq_true_eq, decide_eq_false_iff_not, beq_iff_eq, beq_eq_false_iff_ne, bne_iff_ne, bne_eq_false_iff_eq, Bool.not_eq_true', Bool.not_eq_false', Bool.not_eq_true, Bool.not_eq_false] at hc) <;> first | (first | (exact absurd rfl hc) | (exfalso; omega) | (exact absurd (hc.symm.trans (by assumption : _ = false)) (by decide)) | (exact absurd (hc.symm.trans (by assumption : _ = true)) (by decide))) | skip)) | refine loopK.x ?_)
      | (fail)
      | fail
    all_goals first | (exfalso; omega) | skip
    refine loopK.nn (m - 1) (by omega) (by repeat (first | refine Ag.upd rfl ?_ | exact Ag.hv)) ⟨k + 1, hend, by omega, rfl⟩
  ·
    have hd : (((k + 1 : Nat) : Int) != l.getD q default) = true := by rw [hsn]; exact decide_eq_true h1
    have hqq : ((q : Int) + 1).toNat = q + 1 := by omega
    by_cases h3 : ((k + 1 : Nat) : Int) = l.getD (q + 1) default
    ·
      have hd2 : (((k + 1 : Nat) : Int) != l.getD (q + 1) default) = false := by rw [h3]; simp
      repeat' first
        | (refine J.isJ ?_; first | (first | (refine J.o 4 ?_; first | refine J.lR hΓ ?_ (hr := rB) | (refine J.lT default hΓ ?_ (hs := oO.sl) (hr := rO); first | rw [hqq] | skip)) | (refine J.o 3 ?_; refine J.iJ hΓ ?_ (hs := oO.sl)) | (refine J.o 11 ?_; refine J.ev' hΓ ?_; first | rw [hd] | rw [hd2])) | (first | (refine J.o 0 ?_; refine J.ev' hΓ ?_) | refine J.nil ?_ | refine J.kd ?_ | (refine J.o 4 ?_; first | refine J.lT default hΓ ?_ | refine J.lR hΓ ?_) | (refine J.o 3 ?_; first | refine J.iJ hΓ ?_ | refine J.ev' hΓ ?_) | (refine J.o 1 ?_; first | refine J.ad ?_) | (refine J.o 6 ?_; refine J.bx (fun _ => ?_)) | (refine J.o 10 ?_; refine J.ev' hΓ ?_) | (refine J.o 11 ?_; refine J.ev' hΓ ?_)))
        | (first | refine JC.seq ?_ | refine JC.region ?_ | refine JC.block ?_ | refine JC.ret ?_ | refine JC.exit ?_ | refine JC.skip ?_ | refine thenK.nn ?_ | refine thenK.r ?_ | refine thenK.x ?_ | refine blockK.nn ?_ | refine blockK.hit rfl ?_ | refine JC.condT rfl ?_ | refine JC.condF rfl ?_ | (refine JC.cond rfl (fun hc => ?_) (fun hc => ?_) <;> ((try simp only [decide_eq_true_eq, decide_eq_false_iff_not, beq_iff_eq, beq_eq_false_iff_ne, bne_iff_ne, bne_eq_false_iff_eq, Bool.not_eq_true', Bool.not_eq_false', Bool.not_eq_true, Bool.not_eq_false] at hc) <;> first | (first | (exact absurd rfl hc) | (exfalso; omega) | (exact absurd (hc.symm.trans (by assumption : _ = false)) (by decide)) | (exact absurd (hc.symm.trans (by assumption : _ = true)) (by decide))) | skip)) | refine loopK.x ?_)
        | (fail)
        | fail
      all_goals first | (exfalso; omega) | skip
      refine loopK.nn (m - 1) (by omega) (by repeat (first | refine Ag.upd rfl ?_ | exact Ag.hv)) ⟨k + 1, hend, by omega, rfl⟩
    ·
      have hd2 : (((k + 1 : Nat) : Int) != l.getD (q + 1) default) = true := by rw [hsn]; exact decide_eq_true h3
      have hce := hte hml h1 h3
      repeat' first
        | (refine J.isJ ?_; first | (first | (refine J.o 4 ?_; first | refine J.lR hΓ ?_ (hr := rB) | (refine J.lT default hΓ ?_ (hs := oO.sl) (hr := rO); first | rw [hqq] | skip)) | (refine J.o 3 ?_; refine J.iJ hΓ ?_ (hs := oO.sl)) | (refine J.o 11 ?_; first | refine J.neF hΓ hce ?_ | (refine J.ev' hΓ ?_; first | rw [hd] | rw [hd2])) | (refine J.o 9 ?_; first | refine J.lkN (a := ((k + 1 : Nat) : Int)) _ keyedI ekI_inj mt1 rM1 hkey hΓ (cn1 _) ?_ | refine J.lkN (a := ((k + 1 : Nat) : Int)) _ keyedI ekI_inj mt2 rM2 hkey hΓ (cn2 _) ?_)) | (first | (refine J.o 0 ?_; refine J.ev' hΓ ?_) | refine J.nil ?_ | refine J.kd ?_ | (refine J.o 4 ?_; first | refine J.lT default hΓ ?_ | refine J.lR hΓ ?_) | (refine J.o 3 ?_; first | refine J.iJ hΓ ?_ | refine J.ev' hΓ ?_) | (refine J.o 1 ?_; first | refine J.ad ?_) | (refine J.o 6 ?_; refine J.bx (fun _ => ?_)) | (refine J.o 10 ?_; refine J.ev' hΓ ?_) | (refine J.o 11 ?_; refine J.ev' hΓ ?_)))
        | (first | refine JC.seq ?_ | refine JC.region ?_ | refine JC.block ?_ | refine JC.ret ?_ | refine JC.exit ?_ | refine JC.skip ?_ | refine thenK.nn ?_ | refine thenK.r ?_ | refine thenK.x ?_ | refine blockK.nn ?_ | refine blockK.hit rfl ?_ | refine JC.condT rfl ?_ | refine JC.condF rfl ?_ | (refine JC.cond rfl (fun hc => ?_) (fun hc => ?_) <;> ((try simp only [decide_eq_true_eq, decide_eq_false_iff_not, beq_iff_eq, beq_eq_false_iff_ne, bne_iff_ne, bne_eq_false_iff_eq, Bool.not_eq_true', Bool.not_eq_false', Bool.not_eq_true, Bool.not_eq_false] at hc) <;> first | (first | (exact absurd rfl hc) | (exfalso; omega) | (exact absurd (hc.symm.trans (by assumption : _ = false)) (by decide)) | (exact absurd (hc.symm.trans (by assumption : _ = true)) (by decide))) | skip)) | refine loopK.x ?_)
        | (fail)
        | fail
      all_goals first | (exfalso; omega) | skip
      refine loopK.nn (m - 1) (by omega) (by repeat (first | refine Ag.upd rfl ?_ | exact Ag.hv)) ⟨k + 1, hend, by omega, rfl⟩
end Go.Proofs.Ytbhgahjeocnfcaa
namespace Go.Proofs.Ytbhgahjeocnfcaa
open Go Go.Cx Go.RowKit
set_option linter.unusedVariables false
set_option linter.unusedSimpArgs false
set_option maxHeartbeats 4000000
attribute [local irreducible] J JC thenK blockK loopK drawK retK QW Qt pel List.set Calls
open Go.ChangeShapes Go.WideShapes
set_option maxRecDepth 100000 in
theorem siftOthers_lifted (os : Os) (started : os.Started) (T : Type) (enc : TypeId × Value → T) :
    ReturnsInHanded {} Try.checked os 4 .any (Rows.siftOthersSpec.pre6 enc Try.prog Try.f4 [] false)
      (Rows.siftOthersSpec.post enc Try.prog Try.f4 false true false false) := by
  refine returnsInHanded_of_change_sized (C := Try.checked) own started (by kernel_rfl) Try.func4
    (ChangeSpec.witness6 (enc := enc) (C := Try.checked) false ⟨#[], #[.agg #[.int .i64 0, .slice none 0 0], .slice none 0 0, .int .u8 0], []⟩ 8 (by kernel_rfl) (by kernel_rfl) (by kernel_rfl) (by kernel_rfl)) ?_
  intro W base args ds gs before hval0 hW _ hwt _
  have hval : ∀ (j : Nat) t v, Try.f4.params[j]? = some t → args[j]? = some v → Value.okWide Try.prog W .any base t v := hval0
  have hW' := hW
  obtain ⟨p, q, hA0, hV, rfl, hfz, hnd⟩ := hW
  have hA : DataW.TrodAll enc Try.prog W 0 (fun _ => true) true Try.f4.params.toList args.toList ds p := hA0
  rw [Try.params4] at hA hval
  obtain ⟨v0, vs0, d0, ds0, p0, q0, hargs, rfl, rfl, h0, r0⟩ := trodAll_cons hA
  obtain ⟨v1, vs1, d1, ds1, p1, q1, rfl, rfl, rfl, h1, r1⟩ := trodAll_cons r0
  obtain ⟨v2, vs2, d2, ds2, p2, q2, rfl, rfl, rfl, h2, r2⟩ := trodAll_cons r1
  obtain ⟨rfl, rfl, rfl⟩ := trodAll_nil r2
  obtain rfl : args = #[v0, v1, v2] := by cases args; simp_all
  obtain ⟨a0, rfl, g0⟩ := arg_agg (let ⟨cs, h, _⟩ := okWide_struct Try.underlying24 (hval 0 _ v0 rfl rfl); ⟨cs, h⟩) (reads_th W) h0
  obtain ⟨a1, rfl, g1⟩ := arg_slice Try.underlying25 (reads_u8s W) (hval 1 _ v1 rfl rfl) h1
  obtain ⟨a2, rfl, rfl, rfl, g2⟩ := open_int Try.underlying5 (hval 2 _ v2 rfl rfl) h2
  obtain ⟨k2, rfl, hk2⟩ := u8_wf g2
  refine (others_any a0.n a0.a a0.c a0.vs (heapOf W) g0.l a1.ts a1.a a1.cap (heapOf W) g1.sl (by have := g1.cap; unfold maxLen at this; omega) g1.all k2 hk2 W ((heapOf_holds W).append (heapOf_holds W))).mono fun e W' ⟨he, bel⟩ => ?_
  refine law_post laidOut Try.underlying4 rfl (by kernel_rfl) rfl ?_ hW' he bel
  intro ds hds
  match ds, hds with
  | [_, _, _], _ => rfl
theorem siftOthers_holds : Rows.SiftOthersSaid :=
  OpenClaim.holds_of_wide 4 Try.f4 rfl rfl rfl rfl rfl rfl rfl ⟨rfl, rfl, rfl, rfl, rfl⟩ rfl rfl rfl rfl rfl (by kernel_rfl) Try.func4 (by kernel_rfl)
    (of_decide_eq_true (by kernel_rfl)) (by unfold Func.isWrapper; first | (rw [if_pos (by decide +kernel)]; kernel_rfl) | (rw [if_neg (by decide +kernel)]; exact ⟨rfl, rfl⟩))
    (fun os started T enc _ => siftOthers_lifted os started T enc)
#print axioms siftOthers_holds
end Go.Proofs.Ytbhgahjeocnfcaa
