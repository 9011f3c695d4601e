/- ObddRuns: operations lead to the nodes that the document says, with their parts, sizes and counts: the law returns true. -/
import Derived.Test.YthnhijdfcmcnhaaGreatRuD
namespace Go.Proofs.YthnhijdfcmcnhaaGreat
open Go Go.Cx Go.RowKit
set_option linter.unusedVariables false
set_option linter.unusedSimpArgs false
set_option maxHeartbeats 4000000
attribute [local irreducible] J JC thenK blockK loopK drawK retK QW Qt pel List.set Calls
open Go.Maps Go.Lib
set_option maxRecDepth 8000
attribute [local irreducible] JE Br eK0 eK3 brK pc
theorem rdApp {R : Heap} {L : List Heap} {h : Heap} (M : List Heap) (r : RdH R L h) : RdH R (M ++ L) h := fun x hx => Rd.app M (r x hx)
theorem kEx6_any {n : Nat} {K : KS} {s : SS} {ks : List (Nat × BF)} (k : Kn n K s ks) (h6 : n ≤ 6) {order : List Int} {hO hP : Heap} (po : POk K order hO hP) {a : Nat} {g : BF} (ha : (a, g) ∈ ks) (v : Int) (hv : -9223372036854775808 ≤ v ∧ v ≤ 9223372036854775807) (q : Nat) (hq : rk order v 0 = some q) (hfull : s.ns.length + 2048 ≤ 1048576) {w0 w : World} {R : Heap} {L : List Heap} {b0 : Nat} (hw : H w0 R (sF K b0 s ++ (hO :: hP :: L)) w) :
    Calls Tryz.prog 26 #[.pointer (some ⟨b0, 0, none⟩), .int .i64 (a : Int), .int .i64 v] w fun e w' => ∃ v L', e = .returned v ∧ H w0 R L' w' ∧ ∃ s' y, v = .tuple #[.int .i64 ((y : Nat) : Int), .int .i64 0] ∧ L' = sF K b0 s' ++ (hO :: hP :: L) ∧ Kn n K s' ((y, exF q g) :: ks) ∧ s'.ns.length ≤ s.ns.length + 2048 := by
  have ka := k.at_ a g ha
  have hqn : q < n := by
    obtain ⟨_, h2, _⟩ := rk_some hq
    have := po.len; have := k.so.no; omega
  have hq5 : 2 ^ q ≤ 2 ^ 5 := Nat.pow_le_pow_right (by omega) (by omega)
  have h2n : 2 ^ n ≤ 2 ^ 6 := Nat.pow_le_pow_right (by omega) (by omega)
  have hm : 2 ^ q * 2 ^ n ≤ 32 * 64 := Nat.mul_le_mul hq5 h2n
  refine (Exists_any k.so po a ka.1 v hv q hq (by omega) hw).mono ?_
  rintro e w' ⟨v, L', h1, h2, s1, y1, h3, h4, r⟩
  have := r.1.le
  exact ⟨v, L', h1, h2, s1, y1, h3, h4, k.put r (fun α => exF_congr ka.2 α), by omega⟩
theorem RunS.next {n : Nat} {K : KS} {s s1 : SS} {A : List Nat} {vs : List TV} {aA aF aA' aF' : Option Addr} {cA cF cA' cF' : Nat} {hA hF hI hA' hF' hx : Heap} {y : Nat} {v : TV} {g : BF} (st : RunS n K s A vs aA aF cA cF hA hF hI) (k : Kn n K s1 ((y, g) :: zipK2 A vs)) (e : ∀ α, g α = v.g α) (o1 : OwT encI 1 3 aA' cA' (natI A ++ [(y : Int)]) hA') (o2 : OwT (encTV n) 1 41 aF' cF' (vs ++ [v]) hF') (ox : SlT encBo 1 v.a (tabF n v.g) hx) (hc : 2 ^ n ≤ v.c) : RunS n K s1 (A ++ [y]) (vs ++ [v]) aA' aF' cA' cF' hA' hF' (hx ++ hI) := by
  have hg : g = v.g := funext e
  subst hg
  refine ⟨by simp [st.len], by simp; have := st.two; omega, ?_, ?_, o2, fun u hu => ?_, fun u hu => (List.mem_append.1 hu).elim (st.c u) fun g => by rw [List.mem_singleton.1 g]; exact hc⟩
  · rw [zipK2_app st.len]
    exact k.perm fun x hx => (List.mem_append.1 hx).elim (fun g => List.mem_cons_of_mem _ g) (fun g => by rw [List.mem_singleton.1 g]; exact List.mem_cons_self)
  · have : natI (A ++ [y]) = natI A ++ [(y : Int)] := by unfold natI; rw [List.map_append]; rfl
    rw [this]; exact o1
  · rcases List.mem_append.1 hu with g | g
    · exact (st.i u g).sub fun x hx => List.mem_append_right _ hx
    · rw [List.mem_singleton.1 g]; exact ox.sub fun x hx => List.mem_append_left _ hx
theorem eDo : Entr Tryz.prog 7 := Entr.of Tryz.func7 rfl rfl
def opV (κ : Nat) (x y z : Int) : Value := .agg ⟨[.int .u8 (κ : Int), .int .i64 x, .int .i64 y, .int .i64 z]⟩
def runV (b0 : Nat) (aA : Option Addr) (nA cA : Nat) (aF : Option Addr) (nF cF : Nat) (bad : Bool) : Value := .agg ⟨[.pointer (some ⟨b0, 0, none⟩), .slice aA nA cA, .slice aF nF cF, .bool bad]⟩
set_option maxHeartbeats 32000000 in
theorem do_any {n : Nat} {K : KS} {s : SS} {A : List Nat} {vs : List TV} {aA aF : Option Addr} {cA cF : Nat} {hA hF hI : Heap} (st : RunS n K s A vs aA aF cA cF hA hF hI) (h6 : n ≤ 6) (hn0 : 0 < n) {order : List Int} {hO hP : Heap} (po : POk K order hO hP) (hlen : A.length ≤ 40) (hfull : s.ns.length + 2100 ≤ 1048576) (a : Option Addr) (c : Nat) (h : Heap) (hs : SlT encI 1 a order h) (κ : Nat) (hκb : κ < 256) (x y z : Int) (hxr : -9223372036854775808 ≤ x ∧ x ≤ 9223372036854775807) {w0 w : World} {R : Heap} {L : List Heap} {b0 : Nat} (hr : ∀ M, RdH R M h) (hw : H w0 R (sF K b0 s ++ (hO :: hP :: hA :: hF :: hI :: L)) w) :
    Calls Tryz.prog 7 #[runV b0 aA (natI A).length cA aF vs.length cF false, .slice a order.length c, opV κ x y z] w fun e w' => ∃ v L', e = .returned v ∧ H w0 R L' w' ∧ ∃ s' A' vs' aA' aF' cA' cF' hA' hF' hI', v = runV b0 aA' (natI A').length cA' aF' vs'.length cF' false ∧ L' = sF K b0 s' ++ (hO :: hP :: hA' :: hF' :: hI' :: L) ∧ RunS n K s' A' vs' aA' aF' cA' cF' hA' hF' hI' ∧ A'.length ≤ A.length + 1 ∧ s'.ns.length ≤ s.ns.length + 2100 := by
  have so := st.kn.so
  have hno := so.no
  have hpl := po.len
  have hon : order.length = n := by omega
  subst hon
  have h8 : order.length ≤ 8 := by omega
  have hnl := natI_len A
  have hvl := st.len
  have tw := st.two
  have hx2 := (modN_lt x (show 0 < (natI A).length by omega)).1
  have hy2 := (modN_lt y (show 0 < (natI A).length by omega)).1
  have hz2 := (modN_lt z (show 0 < (natI A).length by omega)).1
  have hx1 : modN x (natI A).length < A.length := by omega
  have hy1 : modN y (natI A).length < A.length := by omega
  have hz1 : modN z (natI A).length < A.length := by omega
  have hgx := mem_g vs (modN x (natI A).length) (by omega)
  have hgy := mem_g vs (modN y (natI A).length) (by omega)
  have hgz := mem_g vs (modN z (natI A).length) (by omega)
  have hmx := (modN_lt x hn0).1
  have hmy := (modN_lt y hn0).1
  have hrx := rk_at po.ok.2 (k := modN x order.length) hmx
  have hry := rk_at po.ok.2 (k := modN y order.length) hmy
  have hvx : -9223372036854775808 ≤ order.getD (modN x order.length) default ∧ order.getD (modN x order.length) default ≤ 9223372036854775807 := by have := po.ok.1 _ (mem_g order _ hmx); omega
  have hvy : -9223372036854775808 ≤ order.getD (modN y order.length) default ∧ order.getD (modN y order.length) default ≤ 9223372036854775807 := by have := po.ok.1 _ (mem_g order _ hmy); omega

  by_cases h0 : κ % 8 = 0 ∧ rk order x 0 = none
  ·
    obtain ⟨hκ, hkx⟩ := h0
    have two := so.wf.two
    refine calls_in Tryz.func7 Tryz.ntmps7 rfl rfl (hw) ?_
    refine JC.seq ?_
    refine JC.region ?_
    refine J.isJ ?_
    refine J.o 6 ?_
    refine J.bx (fun b3 => ?_)
    refine J.isJ ?_
    refine J.o 6 ?_
    refine J.bx (fun b5 => ?_)
    refine J.isJ ?_
    refine J.o 7 ?_
    refine J.al hΓ (fun b6 => ?_)
    refine J.nil ?_
    refine thenK.nn ?_
    refine JC.perm (brC K b0 s _ _ _ hO hP _) ?_
    repeat' first
      | (refine J.isJ ?_; first | (first | (refine J.fc 14 ?_; refine J.call0 eVarS rfl rfl (fun w hw => Var_out (by omega) po x hxr hkx b0 w (stP_of hw)) ?_) | (refine J.fc 15 ?_; refine J.call0 eVar30 rfl rfl (fun w hw => varN_any order order.length rfl a c h hs (by omega) x hkx w (hw.rdH (hr _))) ?_) | (refine J.o 1 ?_; refine J.grem (b := 8) ?_; rw [hκ]) | (refine J.o 4 ?_; first | refine J.lR hΓ ?_ (hr := Rd.app _ Rd.hd.tl.tl) | refine J.lR hΓ ?_ (hr := Rd.app _ Rd.hd.tl.tl.tl) | refine J.lR hΓ ?_ (hr := Rd.app _ Rd.hd.tl.tl.tl.tl) | refine J.lR hΓ ?_ (hr := (Rd.app _ Rd.hd.tl.tl).tl) | refine J.lR hΓ ?_ (hr := (Rd.app _ Rd.hd.tl.tl.tl).tl) | refine J.lR hΓ ?_ (hr := (Rd.app _ Rd.hd.tl.tl.tl.tl).tl) | (refine J.lT default hΓ ?_ (hs := st.oA.sl) (hr := rdApp _ RdH.hd.tl.tl.tl.tl.tl); first | rw [natI_get A hx1] | rw [natI_get A hy1] | rw [natI_get A hz1]) | refine J.lT default hΓ ?_ (hs := st.oF.sl) (hr := rdApp _ RdH.hd.tl.tl.tl.tl.tl.tl) | refine J.lT default hΓ ?_ (hs := hs) (hr := hr _)) | (refine J.o 3 ?_; first | refine J.iJ hΓ ?_ (hs := st.oA.sl) | refine J.iJ hΓ ?_ (hs := st.oF.sl) | refine J.iJ hΓ ?_ (hs := hs)) | (refine J.fc 13 ?_; first | refine J.call0 eMod rfl rfl (fun w hw => mod_any x (natI A).length (by omega) (by omega) w) ?_ | refine J.call0 eMod rfl rfl (fun w hw => mod_any y (natI A).length (by omega) (by omega) w) ?_ | refine J.call0 eMod rfl rfl (fun w hw => mod_any z (natI A).length (by omega) (by omega) w) ?_ | refine J.call0 eMod rfl rfl (fun w hw => mod_any y order.length (by omega) (by omega) w) ?_ | refine J.call0 eMod rfl rfl (fun w hw => mod_any x order.length (by omega) (by omega) w) ?_)) | (first | (refine J.o 0 ?_; refine J.ev' hΓ ?_) | refine J.nil ?_ | (refine J.o 4 ?_; first | refine J.lT default hΓ ?_ | refine J.lR hΓ ?_) | (refine J.o 3 ?_; first | refine J.iJ hΓ ?_ | refine J.ev' hΓ ?_) | (refine J.o 5 ?_; first | refine J.t0 hΓ ?_ | refine J.t1 hΓ ?_) | (refine J.o 6 ?_; refine J.bx (fun _ => ?_)) | (refine J.o 7 ?_; refine J.al hΓ (fun _ => ?_)) | (refine J.o 9 ?_; refine J.bl hΓ (fun _ => ?_)) | (refine J.o 10 ?_; refine J.ev' hΓ ?_) | (refine J.o 11 ?_; refine J.ev' hΓ ?_)))
      | (first | refine JC.seq ?_ | refine JC.region ?_ | refine JC.block ?_ | refine JC.ret ?_ | refine JC.skip ?_ | refine thenK.nn ?_ | refine thenK.r ?_ | refine blockK.nn ?_ | refine JC.condT rfl ?_ | refine JC.condF rfl ?_ | refine drawK.nn ?_)
      | ((first | (refine JC.drawO [(0,0),(1,1),(0,2),(1,3),(0,4),(0,5),(1,6),(2,7),(0,8),(0,9),(0,10),(0,11),(0,12)] (by decide +kernel) (by decide +kernel) ?_) | (refine JC.drawO [(0,0),(1,1),(0,2),(1,3),(0,4),(0,5),(1,6),(0,7),(1,8),(0,9),(0,10),(1,11),(2,12),(0,13),(0,14),(0,15),(0,16),(0,17)] (by decide +kernel) (by decide +kernel) ?_) | (refine JC.drawO [(0,0),(1,1),(0,2),(0,3),(1,4),(0,5),(1,6),(0,7),(0,8),(1,9),(2,10),(0,11)] (by decide +kernel) (by decide +kernel) ?_) | (refine JC.drawO [(0,0),(1,1),(0,2),(1,3),(0,4),(0,5),(1,6),(0,7),(1,8),(0,9),(0,10),(1,11),(0,12),(1,13),(0,14),(0,15),(1,16),(2,17),(0,18),(0,19),(0,20),(0,21),(0,22)] (by decide +kernel) (by decide +kernel) ?_) | (refine JC.drawO [(0,0),(1,1),(0,2),(0,3),(1,4),(0,5),(1,6),(0,7),(0,8),(1,9),(0,10),(1,11),(0,12),(0,13),(1,14),(2,15),(0,16)] (by decide +kernel) (by decide +kernel) ?_) | (refine JC.drawO [(0,0),(1,1),(0,2),(1,3),(0,4),(0,5),(1,6),(0,7),(0,8),(0,9),(1,10),(2,11),(0,12),(0,13),(0,14),(0,15),(0,16)] (by decide +kernel) (by decide +kernel) ?_) | (refine JC.drawW [] [] (by decide +kernel) (by decide +kernel) ?_)))
      | fail
    all_goals first | (exfalso; omega) | skip
    unfold sF
    simp only [List.cons_append, List.nil_append]
    repeat' first
      | (refine J.isJ ?_; first | ((refine J.o 5 ?_; first | (refine J.perm (bring_perm 8 _) ?_; refine J.t0 hΓ ?_) | (refine J.perm (bring_perm 7 _) ?_; refine J.t0 hΓ ?_))) | (first | (refine J.o 0 ?_; refine J.ev' hΓ ?_) | refine J.nil ?_ | (refine J.o 4 ?_; first | refine J.lT default hΓ ?_ | refine J.lR hΓ ?_) | (refine J.o 3 ?_; first | refine J.iJ hΓ ?_ | refine J.ev' hΓ ?_) | (refine J.o 5 ?_; first | refine J.t0 hΓ ?_ | refine J.t1 hΓ ?_) | (refine J.o 6 ?_; refine J.bx (fun _ => ?_)) | (refine J.o 7 ?_; refine J.al hΓ (fun _ => ?_)) | (refine J.o 9 ?_; refine J.bl hΓ (fun _ => ?_)) | (refine J.o 10 ?_; refine J.ev' hΓ ?_) | (refine J.o 11 ?_; refine J.ev' hΓ ?_)))
      | (first | refine JC.seq ?_ | refine JC.region ?_ | refine JC.block ?_ | refine JC.ret ?_ | refine JC.skip ?_ | refine thenK.nn ?_ | refine thenK.r ?_ | refine blockK.nn ?_ | refine JC.condT rfl ?_ | refine JC.condF rfl ?_ | refine drawK.nn ?_)
      | (fail)
      | fail
    refine retC hΓ rfl rfl rfl Rd.hd rfl (fun w1 hw => ?_)
    have hw3 := H.sel (l := [_, _, _, _, _, _, _, _, _, _, _, _]) (M := L) hw [2, 3, 4, 5, 6, 7, 9, 10, 11]
    exact ⟨_, _, rfl, hw3, s, A, vs, aA, aF, cA, cF, hA, hF, hI, rfl, rfl, st, by omega, by omega⟩
  have hcase : (κ % 8 = 0 ∧ ∃ kx, rk order x 0 = some kx) ∨ (κ % 8 = 1 ∨ κ % 8 = 2 ∨ κ % 8 = 3 ∨ κ % 8 = 4) ∨ (κ % 8 = 5 ∨ κ % 8 = 6 ∨ κ % 8 = 7) := by
    cases hk : rk order x 0 with
    | none => have : κ % 8 ≠ 0 := fun e => h0 ⟨e, hk⟩
              omega
    | some kx => rcases (show κ % 8 = 0 ∨ κ % 8 ≠ 0 by omega) with g | g
                 · exact .inl ⟨g, kx, rfl⟩
                 · omega
  rcases hcase with ⟨hκ, kx, hkx⟩ | (hκ | hκ | hκ | hκ) | (hκ | hκ | hκ)

  ·
    refine calls_in Tryz.func7 Tryz.ntmps7 rfl rfl (hw) ?_
    refine JC.seq ?_
    refine JC.region ?_
    refine J.isJ ?_
    refine J.o 6 ?_
    refine J.bx (fun b3 => ?_)
    refine J.isJ ?_
    refine J.o 6 ?_
    refine J.bx (fun b5 => ?_)
    refine J.isJ ?_
    refine J.o 7 ?_
    refine J.al hΓ (fun b6 => ?_)
    refine J.nil ?_
    refine thenK.nn ?_
    refine JC.perm (brC K b0 s _ _ _ hO hP _) ?_
    repeat' first
      | (refine J.isJ ?_; first | (first | (refine J.o 1 ?_; refine J.grem (b := 8) ?_; rw [hκ]) | (refine J.o 4 ?_; first | refine J.lR hΓ ?_ (hr := Rd.app _ Rd.hd.tl.tl) | refine J.lR hΓ ?_ (hr := Rd.app _ Rd.hd.tl.tl.tl) | refine J.lR hΓ ?_ (hr := Rd.app _ Rd.hd.tl.tl.tl.tl) | refine J.lR hΓ ?_ (hr := (Rd.app _ Rd.hd.tl.tl).tl) | refine J.lR hΓ ?_ (hr := (Rd.app _ Rd.hd.tl.tl.tl).tl) | refine J.lR hΓ ?_ (hr := (Rd.app _ Rd.hd.tl.tl.tl.tl).tl) | (refine J.lT default hΓ ?_ (hs := st.oA.sl) (hr := rdApp _ RdH.hd.tl.tl.tl.tl.tl); first | rw [natI_get A hx1] | rw [natI_get A hy1] | rw [natI_get A hz1]) | refine J.lT default hΓ ?_ (hs := st.oF.sl) (hr := rdApp _ RdH.hd.tl.tl.tl.tl.tl.tl) | refine J.lT default hΓ ?_ (hs := hs) (hr := hr _)) | (refine J.o 3 ?_; first | refine J.iJ hΓ ?_ (hs := st.oA.sl) | refine J.iJ hΓ ?_ (hs := st.oF.sl) | refine J.iJ hΓ ?_ (hs := hs)) | (refine J.fc 13 ?_; first | refine J.call0 eMod rfl rfl (fun w hw => mod_any x (natI A).length (by omega) (by omega) w) ?_ | refine J.call0 eMod rfl rfl (fun w hw => mod_any y (natI A).length (by omega) (by omega) w) ?_ | refine J.call0 eMod rfl rfl (fun w hw => mod_any z (natI A).length (by omega) (by omega) w) ?_ | refine J.call0 eMod rfl rfl (fun w hw => mod_any y order.length (by omega) (by omega) w) ?_ | refine J.call0 eMod rfl rfl (fun w hw => mod_any x order.length (by omega) (by omega) w) ?_) | (refine J.fc 16 ?_; refine J.callx eNot rfl rfl (fun w hw => kNot_any st.kn h8 (zipK2_mem st.len hx1) (by omega) hw) ?_; rintro _ _ ⟨s1, y1, rfl, rfl, k1, hle⟩) | (refine J.fc 18 ?_; refine J.callx eAnd rfl rfl (fun w hw => kAnd_any st.kn h8 (zipK2_mem st.len hx1) (zipK2_mem st.len hy1) (by omega) hw) ?_; rintro _ _ ⟨s1, y1, rfl, rfl, k1, hle⟩) | (refine J.fc 20 ?_; refine J.callx eOr rfl rfl (fun w hw => kOr_any st.kn h8 (zipK2_mem st.len hx1) (zipK2_mem st.len hy1) (by omega) hw) ?_; rintro _ _ ⟨s1, y1, rfl, rfl, k1, hle⟩) | (refine J.fc 22 ?_; refine J.callx eXor rfl rfl (fun w hw => kXor_any st.kn h8 (zipK2_mem st.len hx1) (zipK2_mem st.len hy1) (by omega) hw) ?_; rintro _ _ ⟨s1, y1, rfl, rfl, k1, hle⟩) | (refine J.fc 24 ?_; refine J.callx eIf rfl rfl (fun w hw => kIf_any st.kn h8 (zipK2_mem st.len hx1) (zipK2_mem st.len hy1) (zipK2_mem st.len hz1) (by omega) hw) ?_; rintro _ _ ⟨s1, y1, rfl, rfl, k1, hle⟩) | (refine J.fc 26 ?_; refine J.callx eExists rfl rfl (fun w hw => kEx6_any st.kn h6 po (zipK2_mem st.len hx1) _ hvy _ hry (by omega) hw) ?_; rintro _ _ ⟨s1, y1, rfl, rfl, k1, hle⟩) | (refine J.fc 14 ?_; first | (refine J.callx eVarS rfl rfl (fun w hw => Var_any so po x hxr kx hkx (by omega) hw) ?_; rintro _ _ ⟨s1, y1, rfl, rfl, r⟩; have hle := r.1.le; have k1 := st.kn.put r (fun α => rfl)) | (refine J.callx eVarS rfl rfl (fun w hw => Var_any so po _ hvx _ hrx (by omega) hw) ?_; rintro _ _ ⟨s1, y1, rfl, rfl, r⟩; have hle := r.1.le; have k1 := st.kn.put r (fun α => rfl))) | (refine J.fc 17 ?_; refine J.call1 eNot30 rfl rfl (fun w hw => notT_any order.length h8 (vs.getD (modN x (natI A).length) default).g _ _ hI (st.i _ hgx) w (hw.rdH (rdApp _ RdH.hd.tl.tl.tl.tl.tl.tl.tl))) ?_; rintro _ hx ⟨ax, cx, rfl, ox⟩) | (refine J.fc 19 ?_; refine J.call1 eAnd30 rfl rfl (fun w hw => andT_any order.length h8 (vs.getD (modN x (natI A).length) default).g (vs.getD (modN y (natI A).length) default).g _ _ _ _ hI hI (st.i _ hgx) (st.i _ hgy) w ((hw.rdH (rdApp _ RdH.hd.tl.tl.tl.tl.tl.tl.tl)).append (hw.rdH (rdApp _ RdH.hd.tl.tl.tl.tl.tl.tl.tl)))) ?_; rintro _ hx ⟨ax, cx, rfl, ox⟩) | (refine J.fc 21 ?_; refine J.call1 eOr30 rfl rfl (fun w hw => orT_any order.length h8 (vs.getD (modN x (natI A).length) default).g (vs.getD (modN y (natI A).length) default).g _ _ _ _ hI hI (st.i _ hgx) (st.i _ hgy) w ((hw.rdH (rdApp _ RdH.hd.tl.tl.tl.tl.tl.tl.tl)).append (hw.rdH (rdApp _ RdH.hd.tl.tl.tl.tl.tl.tl.tl)))) ?_; rintro _ hx ⟨ax, cx, rfl, ox⟩) | (refine J.fc 23 ?_; refine J.call1 eXor30 rfl rfl (fun w hw => xorT_any order.length h8 (vs.getD (modN x (natI A).length) default).g (vs.getD (modN y (natI A).length) default).g _ _ _ _ hI hI (st.i _ hgx) (st.i _ hgy) w ((hw.rdH (rdApp _ RdH.hd.tl.tl.tl.tl.tl.tl.tl)).append (hw.rdH (rdApp _ RdH.hd.tl.tl.tl.tl.tl.tl.tl)))) ?_; rintro _ hx ⟨ax, cx, rfl, ox⟩) | (refine J.fc 25 ?_; refine J.call1 eIf30 rfl rfl (fun w hw => ifT_any order.length h8 (vs.getD (modN x (natI A).length) default).g (vs.getD (modN y (natI A).length) default).g (vs.getD (modN z (natI A).length) default).g _ _ _ _ _ _ hI hI hI (st.i _ hgx) (st.i _ hgy) (st.i _ hgz) w ((hw.rdH (rdApp _ RdH.hd.tl.tl.tl.tl.tl.tl.tl)).append ((hw.rdH (rdApp _ RdH.hd.tl.tl.tl.tl.tl.tl.tl)).append (hw.rdH (rdApp _ RdH.hd.tl.tl.tl.tl.tl.tl.tl))))) ?_; rintro _ hx ⟨ax, cx, rfl, ox⟩) | (refine J.fc 27 ?_; refine J.call1 eExists30 rfl rfl (fun w hw => exT_any order.length h8 a c _ hmy (vs.getD (modN x (natI A).length) default).g _ _ hI (st.i _ hgx) w (hw.rdH (rdApp _ RdH.hd.tl.tl.tl.tl.tl.tl.tl))) ?_; rintro _ hx ⟨ax, cx, rfl, ox⟩) | (refine J.fc 15 ?_; first | (refine J.call1 eVar30 rfl rfl (fun w hw => varT_any order.length h8 order rfl a c h hs x kx hkx w (hw.rdH (hr _))) ?_; rintro _ hx ⟨_, rfl, ax, cx, rfl, ox⟩) | (refine J.call1 eVar30 rfl rfl (fun w hw => varT_any order.length h8 order rfl a c h hs _ _ hrx w (hw.rdH (hr _))) ?_; rintro _ hx ⟨_, rfl, ax, cx, rfl, ox⟩))) | (first | (refine J.o 0 ?_; refine J.ev' hΓ ?_) | refine J.nil ?_ | (refine J.o 4 ?_; first | refine J.lT default hΓ ?_ | refine J.lR hΓ ?_) | (refine J.o 3 ?_; first | refine J.iJ hΓ ?_ | refine J.ev' hΓ ?_) | (refine J.o 5 ?_; first | refine J.t0 hΓ ?_ | refine J.t1 hΓ ?_) | (refine J.o 6 ?_; refine J.bx (fun _ => ?_)) | (refine J.o 7 ?_; refine J.al hΓ (fun _ => ?_)) | (refine J.o 9 ?_; refine J.bl hΓ (fun _ => ?_)) | (refine J.o 10 ?_; refine J.ev' hΓ ?_) | (refine J.o 11 ?_; refine J.ev' hΓ ?_)))
      | (first | refine JC.seq ?_ | refine JC.region ?_ | refine JC.block ?_ | refine JC.ret ?_ | refine JC.skip ?_ | refine thenK.nn ?_ | refine thenK.r ?_ | refine blockK.nn ?_ | refine JC.condT rfl ?_ | refine JC.condF rfl ?_ | refine drawK.nn ?_)
      | ((first | (refine JC.drawO [(0,0),(1,1),(0,2),(1,3),(0,4),(0,5),(1,6),(2,7),(0,8),(0,9),(0,10),(0,11),(0,12)] (by decide +kernel) (by decide +kernel) ?_) | (refine JC.drawO [(0,0),(1,1),(0,2),(1,3),(0,4),(0,5),(1,6),(0,7),(1,8),(0,9),(0,10),(1,11),(2,12),(0,13),(0,14),(0,15),(0,16),(0,17)] (by decide +kernel) (by decide +kernel) ?_) | (refine JC.drawO [(0,0),(1,1),(0,2),(0,3),(1,4),(0,5),(1,6),(0,7),(0,8),(1,9),(2,10),(0,11)] (by decide +kernel) (by decide +kernel) ?_) | (refine JC.drawO [(0,0),(1,1),(0,2),(1,3),(0,4),(0,5),(1,6),(0,7),(1,8),(0,9),(0,10),(1,11),(0,12),(1,13),(0,14),(0,15),(1,16),(2,17),(0,18),(0,19),(0,20),(0,21),(0,22)] (by decide +kernel) (by decide +kernel) ?_) | (refine JC.drawO [(0,0),(1,1),(0,2),(0,3),(1,4),(0,5),(1,6),(0,7),(0,8),(1,9),(0,10),(1,11),(0,12),(0,13),(1,14),(2,15),(0,16)] (by decide +kernel) (by decide +kernel) ?_) | (refine JC.drawO [(0,0),(1,1),(0,2),(1,3),(0,4),(0,5),(1,6),(0,7),(0,8),(0,9),(1,10),(2,11),(0,12),(0,13),(0,14),(0,15),(0,16)] (by decide +kernel) (by decide +kernel) ?_) | (refine JC.drawW [] [] (by decide +kernel) (by decide +kernel) ?_)))
      | fail
    all_goals first | (exfalso; omega) | skip

    obtain ⟨G, kG, oG, cG⟩ : ∃ G : BF, Kn order.length K s1 ((y1, G) :: zipK2 A vs) ∧ SlT encBo 1 ax (tabF order.length G) hx ∧ 2 ^ order.length ≤ cx := ⟨_, k1, ox.sl, tabF_len order.length _ ▸ own_le ox⟩
    unfold sF
    simp only [List.cons_append, List.nil_append]
    refine J.isJ ?_
    refine J.o 9 ?_
    refine J.perm (bring_perm 11 _) ?_
    refine J.perm br1 ?_
    refine J.ap1 (enc := encI) [(y1 : Int)] hΓ (fun a2 c2 h2 o2 => ?_) (ho := st.oA)
    repeat' first
      | (refine J.isJ ?_; first | ((refine J.o 5 ?_; refine J.perm (bring_perm 10 _) ?_; refine J.t0 hΓ ?_)) | (first | (refine J.o 0 ?_; refine J.ev' hΓ ?_) | refine J.nil ?_ | (refine J.o 4 ?_; first | refine J.lT default hΓ ?_ | refine J.lR hΓ ?_) | (refine J.o 3 ?_; first | refine J.iJ hΓ ?_ | refine J.ev' hΓ ?_) | (refine J.o 5 ?_; first | refine J.t0 hΓ ?_ | refine J.t1 hΓ ?_) | (refine J.o 6 ?_; refine J.bx (fun _ => ?_)) | (refine J.o 7 ?_; refine J.al hΓ (fun _ => ?_)) | (refine J.o 9 ?_; refine J.bl hΓ (fun _ => ?_)) | (refine J.o 10 ?_; refine J.ev' hΓ ?_) | (refine J.o 11 ?_; refine J.ev' hΓ ?_)))
      | (first | refine JC.seq ?_ | refine JC.region ?_ | refine JC.block ?_ | refine JC.ret ?_ | refine JC.skip ?_ | refine thenK.nn ?_ | refine thenK.r ?_ | refine blockK.nn ?_ | refine JC.condT rfl ?_ | refine JC.condF rfl ?_ | refine drawK.nn ?_)
      | (fail)
      | fail
    refine J.isJ ?_
    refine J.o 9 ?_
    refine J.perm (bring_perm 12 _) ?_
    refine J.perm br1 ?_
    refine J.ap1 (enc := encTV order.length) [(⟨ax, cx, G⟩ : TV)] hΓ (fun a3 c3 h3 o3 => ?_) (ho := st.oF)
    repeat' first
      | (refine J.isJ ?_; first | ((refine J.o 5 ?_; first | refine J.t1 hΓ ?_ | (refine J.perm (bring_perm 10 _) ?_; refine J.t0 hΓ ?_))) | (first | (refine J.o 0 ?_; refine J.ev' hΓ ?_) | refine J.nil ?_ | (refine J.o 4 ?_; first | refine J.lT default hΓ ?_ | refine J.lR hΓ ?_) | (refine J.o 3 ?_; first | refine J.iJ hΓ ?_ | refine J.ev' hΓ ?_) | (refine J.o 5 ?_; first | refine J.t0 hΓ ?_ | refine J.t1 hΓ ?_) | (refine J.o 6 ?_; refine J.bx (fun _ => ?_)) | (refine J.o 7 ?_; refine J.al hΓ (fun _ => ?_)) | (refine J.o 9 ?_; refine J.bl hΓ (fun _ => ?_)) | (refine J.o 10 ?_; refine J.ev' hΓ ?_) | (refine J.o 11 ?_; refine J.ev' hΓ ?_)))
      | (first | refine JC.seq ?_ | refine JC.region ?_ | refine JC.block ?_ | refine JC.ret ?_ | refine JC.skip ?_ | refine thenK.nn ?_ | refine thenK.r ?_ | refine blockK.nn ?_ | refine JC.condT rfl ?_ | refine JC.condF rfl ?_ | refine drawK.nn ?_)
      | (fail)
      | fail
    refine retC hΓ rfl rfl rfl Rd.hd rfl (fun w1 hw => ?_)
    have hw2 := (H.sel (l := [_, _, _, _, _, _, _, _, _, _, _, _, _]) (M := L) hw [4, 12, 5, 6, 7, 8, 9, 10, 3, 1]).mg1
    have hw3 := H.sel (l := [_, _, _, _, _, _, _, _, _]) (M := L) hw2 [1, 2, 3, 4, 5, 6, 7, 8, 0]
    have e : natI (A ++ [y1]) = natI A ++ [(y1 : Int)] := by unfold natI; rw [List.map_append]; rfl
    exact ⟨_, _, rfl, hw3, s1, A ++ [y1], vs ++ [⟨ax, cx, G⟩], a2, a3, c2, c3, h2, h3, hx ++ hI, by rw [e]; rfl, rfl, st.next kG (fun α => rfl) o2 o3 oG cG, by simp, by omega⟩

  ·
    refine calls_in Tryz.func7 Tryz.ntmps7 rfl rfl (hw) ?_
    refine JC.seq ?_
    refine JC.region ?_
    refine J.isJ ?_
    refine J.o 6 ?_
    refine J.bx (fun b3 => ?_)
    refine J.isJ ?_
    refine J.o 6 ?_
    refine J.bx (fun b5 => ?_)
    refine J.isJ ?_
    refine J.o 7 ?_
    refine J.al hΓ (fun b6 => ?_)
    refine J.nil ?_
    refine thenK.nn ?_
    refine JC.perm (brC K b0 s _ _ _ hO hP _) ?_
    repeat' first
      | (refine J.isJ ?_; first | (first | (refine J.o 1 ?_; refine J.grem (b := 8) ?_; rw [hκ]) | (refine J.o 4 ?_; first | refine J.lR hΓ ?_ (hr := Rd.app _ Rd.hd.tl.tl) | refine J.lR hΓ ?_ (hr := Rd.app _ Rd.hd.tl.tl.tl) | refine J.lR hΓ ?_ (hr := Rd.app _ Rd.hd.tl.tl.tl.tl) | refine J.lR hΓ ?_ (hr := (Rd.app _ Rd.hd.tl.tl).tl) | refine J.lR hΓ ?_ (hr := (Rd.app _ Rd.hd.tl.tl.tl).tl) | refine J.lR hΓ ?_ (hr := (Rd.app _ Rd.hd.tl.tl.tl.tl).tl) | (refine J.lT default hΓ ?_ (hs := st.oA.sl) (hr := rdApp _ RdH.hd.tl.tl.tl.tl.tl); first | rw [natI_get A hx1] | rw [natI_get A hy1] | rw [natI_get A hz1]) | refine J.lT default hΓ ?_ (hs := st.oF.sl) (hr := rdApp _ RdH.hd.tl.tl.tl.tl.tl.tl) | refine J.lT default hΓ ?_ (hs := hs) (hr := hr _)) | (refine J.o 3 ?_; first | refine J.iJ hΓ ?_ (hs := st.oA.sl) | refine J.iJ hΓ ?_ (hs := st.oF.sl) | refine J.iJ hΓ ?_ (hs := hs)) | (refine J.fc 13 ?_; first | refine J.call0 eMod rfl rfl (fun w hw => mod_any x (natI A).length (by omega) (by omega) w) ?_ | refine J.call0 eMod rfl rfl (fun w hw => mod_any y (natI A).length (by omega) (by omega) w) ?_ | refine J.call0 eMod rfl rfl (fun w hw => mod_any z (natI A).length (by omega) (by omega) w) ?_ | refine J.call0 eMod rfl rfl (fun w hw => mod_any y order.length (by omega) (by omega) w) ?_ | refine J.call0 eMod rfl rfl (fun w hw => mod_any x order.length (by omega) (by omega) w) ?_) | (refine J.fc 16 ?_; refine J.callx eNot rfl rfl (fun w hw => kNot_any st.kn h8 (zipK2_mem st.len hx1) (by omega) hw) ?_; rintro _ _ ⟨s1, y1, rfl, rfl, k1, hle⟩) | (refine J.fc 18 ?_; refine J.callx eAnd rfl rfl (fun w hw => kAnd_any st.kn h8 (zipK2_mem st.len hx1) (zipK2_mem st.len hy1) (by omega) hw) ?_; rintro _ _ ⟨s1, y1, rfl, rfl, k1, hle⟩) | (refine J.fc 20 ?_; refine J.callx eOr rfl rfl (fun w hw => kOr_any st.kn h8 (zipK2_mem st.len hx1) (zipK2_mem st.len hy1) (by omega) hw) ?_; rintro _ _ ⟨s1, y1, rfl, rfl, k1, hle⟩) | (refine J.fc 22 ?_; refine J.callx eXor rfl rfl (fun w hw => kXor_any st.kn h8 (zipK2_mem st.len hx1) (zipK2_mem st.len hy1) (by omega) hw) ?_; rintro _ _ ⟨s1, y1, rfl, rfl, k1, hle⟩) | (refine J.fc 24 ?_; refine J.callx eIf rfl rfl (fun w hw => kIf_any st.kn h8 (zipK2_mem st.len hx1) (zipK2_mem st.len hy1) (zipK2_mem st.len hz1) (by omega) hw) ?_; rintro _ _ ⟨s1, y1, rfl, rfl, k1, hle⟩) | (refine J.fc 26 ?_; refine J.callx eExists rfl rfl (fun w hw => kEx6_any st.kn h6 po (zipK2_mem st.len hx1) _ hvy _ hry (by omega) hw) ?_; rintro _ _ ⟨s1, y1, rfl, rfl, k1, hle⟩) | (refine J.fc 14 ?_; first | (refine J.callx eVarS rfl rfl (fun w hw => Var_any so po x hxr kx hkx (by omega) hw) ?_; rintro _ _ ⟨s1, y1, rfl, rfl, r⟩; have hle := r.1.le; have k1 := st.kn.put r (fun α => rfl)) | (refine J.callx eVarS rfl rfl (fun w hw => Var_any so po _ hvx _ hrx (by omega) hw) ?_; rintro _ _ ⟨s1, y1, rfl, rfl, r⟩; have hle := r.1.le; have k1 := st.kn.put r (fun α => rfl))) | (refine J.fc 17 ?_; refine J.call1 eNot30 rfl rfl (fun w hw => notT_any order.length h8 (vs.getD (modN x (natI A).length) default).g _ _ hI (st.i _ hgx) w (hw.rdH (rdApp _ RdH.hd.tl.tl.tl.tl.tl.tl.tl))) ?_; rintro _ hx ⟨ax, cx, rfl, ox⟩) | (refine J.fc 19 ?_; refine J.call1 eAnd30 rfl rfl (fun w hw => andT_any order.length h8 (vs.getD (modN x (natI A).length) default).g (vs.getD (modN y (natI A).length) default).g _ _ _ _ hI hI (st.i _ hgx) (st.i _ hgy) w ((hw.rdH (rdApp _ RdH.hd.tl.tl.tl.tl.tl.tl.tl)).append (hw.rdH (rdApp _ RdH.hd.tl.tl.tl.tl.tl.tl.tl)))) ?_; rintro _ hx ⟨ax, cx, rfl, ox⟩) | (refine J.fc 21 ?_; refine J.call1 eOr30 rfl rfl (fun w hw => orT_any order.length h8 (vs.getD (modN x (natI A).length) default).g (vs.getD (modN y (natI A).length) default).g _ _ _ _ hI hI (st.i _ hgx) (st.i _ hgy) w ((hw.rdH (rdApp _ RdH.hd.tl.tl.tl.tl.tl.tl.tl)).append (hw.rdH (rdApp _ RdH.hd.tl.tl.tl.tl.tl.tl.tl)))) ?_; rintro _ hx ⟨ax, cx, rfl, ox⟩) | (refine J.fc 23 ?_; refine J.call1 eXor30 rfl rfl (fun w hw => xorT_any order.length h8 (vs.getD (modN x (natI A).length) default).g (vs.getD (modN y (natI A).length) default).g _ _ _ _ hI hI (st.i _ hgx) (st.i _ hgy) w ((hw.rdH (rdApp _ RdH.hd.tl.tl.tl.tl.tl.tl.tl)).append (hw.rdH (rdApp _ RdH.hd.tl.tl.tl.tl.tl.tl.tl)))) ?_; rintro _ hx ⟨ax, cx, rfl, ox⟩) | (refine J.fc 25 ?_; refine J.call1 eIf30 rfl rfl (fun w hw => ifT_any order.length h8 (vs.getD (modN x (natI A).length) default).g (vs.getD (modN y (natI A).length) default).g (vs.getD (modN z (natI A).length) default).g _ _ _ _ _ _ hI hI hI (st.i _ hgx) (st.i _ hgy) (st.i _ hgz) w ((hw.rdH (rdApp _ RdH.hd.tl.tl.tl.tl.tl.tl.tl)).append ((hw.rdH (rdApp _ RdH.hd.tl.tl.tl.tl.tl.tl.tl)).append (hw.rdH (rdApp _ RdH.hd.tl.tl.tl.tl.tl.tl.tl))))) ?_; rintro _ hx ⟨ax, cx, rfl, ox⟩) | (refine J.fc 27 ?_; refine J.call1 eExists30 rfl rfl (fun w hw => exT_any order.length h8 a c _ hmy (vs.getD (modN x (natI A).length) default).g _ _ hI (st.i _ hgx) w (hw.rdH (rdApp _ RdH.hd.tl.tl.tl.tl.tl.tl.tl))) ?_; rintro _ hx ⟨ax, cx, rfl, ox⟩) | (refine J.fc 15 ?_; first | (refine J.call1 eVar30 rfl rfl (fun w hw => varT_any order.length h8 order rfl a c h hs x kx hkx w (hw.rdH (hr _))) ?_; rintro _ hx ⟨_, rfl, ax, cx, rfl, ox⟩) | (refine J.call1 eVar30 rfl rfl (fun w hw => varT_any order.length h8 order rfl a c h hs _ _ hrx w (hw.rdH (hr _))) ?_; rintro _ hx ⟨_, rfl, ax, cx, rfl, ox⟩))) | (first | (refine J.o 0 ?_; refine J.ev' hΓ ?_) | refine J.nil ?_ | (refine J.o 4 ?_; first | refine J.lT default hΓ ?_ | refine J.lR hΓ ?_) | (refine J.o 3 ?_; first | refine J.iJ hΓ ?_ | refine J.ev' hΓ ?_) | (refine J.o 5 ?_; first | refine J.t0 hΓ ?_ | refine J.t1 hΓ ?_) | (refine J.o 6 ?_; refine J.bx (fun _ => ?_)) | (refine J.o 7 ?_; refine J.al hΓ (fun _ => ?_)) | (refine J.o 9 ?_; refine J.bl hΓ (fun _ => ?_)) | (refine J.o 10 ?_; refine J.ev' hΓ ?_) | (refine J.o 11 ?_; refine J.ev' hΓ ?_)))
      | (first | refine JC.seq ?_ | refine JC.region ?_ | refine JC.block ?_ | refine JC.ret ?_ | refine JC.skip ?_ | refine thenK.nn ?_ | refine thenK.r ?_ | refine blockK.nn ?_ | refine JC.condT rfl ?_ | refine JC.condF rfl ?_ | refine drawK.nn ?_)
      | ((first | (refine JC.drawO [(0,0),(1,1),(0,2),(1,3),(0,4),(0,5),(1,6),(2,7),(0,8),(0,9),(0,10),(0,11),(0,12)] (by decide +kernel) (by decide +kernel) ?_) | (refine JC.drawO [(0,0),(1,1),(0,2),(1,3),(0,4),(0,5),(1,6),(0,7),(1,8),(0,9),(0,10),(1,11),(2,12),(0,13),(0,14),(0,15),(0,16),(0,17)] (by decide +kernel) (by decide +kernel) ?_) | (refine JC.drawO [(0,0),(1,1),(0,2),(0,3),(1,4),(0,5),(1,6),(0,7),(0,8),(1,9),(2,10),(0,11)] (by decide +kernel) (by decide +kernel) ?_) | (refine JC.drawO [(0,0),(1,1),(0,2),(1,3),(0,4),(0,5),(1,6),(0,7),(1,8),(0,9),(0,10),(1,11),(0,12),(1,13),(0,14),(0,15),(1,16),(2,17),(0,18),(0,19),(0,20),(0,21),(0,22)] (by decide +kernel) (by decide +kernel) ?_) | (refine JC.drawO [(0,0),(1,1),(0,2),(0,3),(1,4),(0,5),(1,6),(0,7),(0,8),(1,9),(0,10),(1,11),(0,12),(0,13),(1,14),(2,15),(0,16)] (by decide +kernel) (by decide +kernel) ?_) | (refine JC.drawO [(0,0),(1,1),(0,2),(1,3),(0,4),(0,5),(1,6),(0,7),(0,8),(0,9),(1,10),(2,11),(0,12),(0,13),(0,14),(0,15),(0,16)] (by decide +kernel) (by decide +kernel) ?_) | (refine JC.drawW [] [] (by decide +kernel) (by decide +kernel) ?_)))
      | fail
    all_goals first | (exfalso; omega) | skip

    obtain ⟨G, kG, oG, cG⟩ : ∃ G : BF, Kn order.length K s1 ((y1, G) :: zipK2 A vs) ∧ SlT encBo 1 ax (tabF order.length G) hx ∧ 2 ^ order.length ≤ cx := ⟨_, k1, ox.sl, tabF_len order.length _ ▸ own_le ox⟩
    unfold sF
    simp only [List.cons_append, List.nil_append]
    refine J.isJ ?_
    refine J.o 9 ?_
    refine J.perm (bring_perm 11 _) ?_
    refine J.perm br1 ?_
    refine J.ap1 (enc := encI) [(y1 : Int)] hΓ (fun a2 c2 h2 o2 => ?_) (ho := st.oA)
    repeat' first
      | (refine J.isJ ?_; first | ((refine J.o 5 ?_; refine J.perm (bring_perm 10 _) ?_; refine J.t0 hΓ ?_)) | (first | (refine J.o 0 ?_; refine J.ev' hΓ ?_) | refine J.nil ?_ | (refine J.o 4 ?_; first | refine J.lT default hΓ ?_ | refine J.lR hΓ ?_) | (refine J.o 3 ?_; first | refine J.iJ hΓ ?_ | refine J.ev' hΓ ?_) | (refine J.o 5 ?_; first | refine J.t0 hΓ ?_ | refine J.t1 hΓ ?_) | (refine J.o 6 ?_; refine J.bx (fun _ => ?_)) | (refine J.o 7 ?_; refine J.al hΓ (fun _ => ?_)) | (refine J.o 9 ?_; refine J.bl hΓ (fun _ => ?_)) | (refine J.o 10 ?_; refine J.ev' hΓ ?_) | (refine J.o 11 ?_; refine J.ev' hΓ ?_)))
      | (first | refine JC.seq ?_ | refine JC.region ?_ | refine JC.block ?_ | refine JC.ret ?_ | refine JC.skip ?_ | refine thenK.nn ?_ | refine thenK.r ?_ | refine blockK.nn ?_ | refine JC.condT rfl ?_ | refine JC.condF rfl ?_ | refine drawK.nn ?_)
      | (fail)
      | fail
    refine J.isJ ?_
    refine J.o 9 ?_
    refine J.perm (bring_perm 12 _) ?_
    refine J.perm br1 ?_
    refine J.ap1 (enc := encTV order.length) [(⟨ax, cx, G⟩ : TV)] hΓ (fun a3 c3 h3 o3 => ?_) (ho := st.oF)
    repeat' first
      | (refine J.isJ ?_; first | ((refine J.o 5 ?_; first | refine J.t1 hΓ ?_ | (refine J.perm (bring_perm 10 _) ?_; refine J.t0 hΓ ?_))) | (first | (refine J.o 0 ?_; refine J.ev' hΓ ?_) | refine J.nil ?_ | (refine J.o 4 ?_; first | refine J.lT default hΓ ?_ | refine J.lR hΓ ?_) | (refine J.o 3 ?_; first | refine J.iJ hΓ ?_ | refine J.ev' hΓ ?_) | (refine J.o 5 ?_; first | refine J.t0 hΓ ?_ | refine J.t1 hΓ ?_) | (refine J.o 6 ?_; refine J.bx (fun _ => ?_)) | (refine J.o 7 ?_; refine J.al hΓ (fun _ => ?_)) | (refine J.o 9 ?_; refine J.bl hΓ (fun _ => ?_)) | (refine J.o 10 ?_; refine J.ev' hΓ ?_) | (refine J.o 11 ?_; refine J.ev' hΓ ?_)))
      | (first | refine JC.seq ?_ | refine JC.region ?_ | refine JC.block ?_ | refine JC.ret ?_ | refine JC.skip ?_ | refine thenK.nn ?_ | refine thenK.r ?_ | refine blockK.nn ?_ | refine JC.condT rfl ?_ | refine JC.condF rfl ?_ | refine drawK.nn ?_)
      | (fail)
      | fail
    refine retC hΓ rfl rfl rfl Rd.hd rfl (fun w1 hw => ?_)
    have hw2 := (H.sel (l := [_, _, _, _, _, _, _, _, _, _, _, _, _]) (M := L) hw [4, 12, 5, 6, 7, 8, 9, 10, 3, 1]).mg1
    have hw3 := H.sel (l := [_, _, _, _, _, _, _, _, _]) (M := L) hw2 [1, 2, 3, 4, 5, 6, 7, 8, 0]
    have e : natI (A ++ [y1]) = natI A ++ [(y1 : Int)] := by unfold natI; rw [List.map_append]; rfl
    exact ⟨_, _, rfl, hw3, s1, A ++ [y1], vs ++ [⟨ax, cx, G⟩], a2, a3, c2, c3, h2, h3, hx ++ hI, by rw [e]; rfl, rfl, st.next kG (fun α => rfl) o2 o3 oG cG, by simp, by omega⟩

  ·
    refine calls_in Tryz.func7 Tryz.ntmps7 rfl rfl (hw) ?_
    refine JC.seq ?_
    refine JC.region ?_
    refine J.isJ ?_
    refine J.o 6 ?_
    refine J.bx (fun b3 => ?_)
    refine J.isJ ?_
    refine J.o 6 ?_
    refine J.bx (fun b5 => ?_)
    refine J.isJ ?_
    refine J.o 7 ?_
    refine J.al hΓ (fun b6 => ?_)
    refine J.nil ?_
    refine thenK.nn ?_
    refine JC.perm (brC K b0 s _ _ _ hO hP _) ?_
    repeat' first
      | (refine J.isJ ?_; first | (first | (refine J.o 1 ?_; refine J.grem (b := 8) ?_; rw [hκ]) | (refine J.o 4 ?_; first | refine J.lR hΓ ?_ (hr := Rd.app _ Rd.hd.tl.tl) | refine J.lR hΓ ?_ (hr := Rd.app _ Rd.hd.tl.tl.tl) | refine J.lR hΓ ?_ (hr := Rd.app _ Rd.hd.tl.tl.tl.tl) | refine J.lR hΓ ?_ (hr := (Rd.app _ Rd.hd.tl.tl).tl) | refine J.lR hΓ ?_ (hr := (Rd.app _ Rd.hd.tl.tl.tl).tl) | refine J.lR hΓ ?_ (hr := (Rd.app _ Rd.hd.tl.tl.tl.tl).tl) | (refine J.lT default hΓ ?_ (hs := st.oA.sl) (hr := rdApp _ RdH.hd.tl.tl.tl.tl.tl); first | rw [natI_get A hx1] | rw [natI_get A hy1] | rw [natI_get A hz1]) | refine J.lT default hΓ ?_ (hs := st.oF.sl) (hr := rdApp _ RdH.hd.tl.tl.tl.tl.tl.tl) | refine J.lT default hΓ ?_ (hs := hs) (hr := hr _)) | (refine J.o 3 ?_; first | refine J.iJ hΓ ?_ (hs := st.oA.sl) | refine J.iJ hΓ ?_ (hs := st.oF.sl) | refine J.iJ hΓ ?_ (hs := hs)) | (refine J.fc 13 ?_; first | refine J.call0 eMod rfl rfl (fun w hw => mod_any x (natI A).length (by omega) (by omega) w) ?_ | refine J.call0 eMod rfl rfl (fun w hw => mod_any y (natI A).length (by omega) (by omega) w) ?_ | refine J.call0 eMod rfl rfl (fun w hw => mod_any z (natI A).length (by omega) (by omega) w) ?_ | refine J.call0 eMod rfl rfl (fun w hw => mod_any y order.length (by omega) (by omega) w) ?_ | refine J.call0 eMod rfl rfl (fun w hw => mod_any x order.length (by omega) (by omega) w) ?_) | (refine J.fc 16 ?_; refine J.callx eNot rfl rfl (fun w hw => kNot_any st.kn h8 (zipK2_mem st.len hx1) (by omega) hw) ?_; rintro _ _ ⟨s1, y1, rfl, rfl, k1, hle⟩) | (refine J.fc 18 ?_; refine J.callx eAnd rfl rfl (fun w hw => kAnd_any st.kn h8 (zipK2_mem st.len hx1) (zipK2_mem st.len hy1) (by omega) hw) ?_; rintro _ _ ⟨s1, y1, rfl, rfl, k1, hle⟩) | (refine J.fc 20 ?_; refine J.callx eOr rfl rfl (fun w hw => kOr_any st.kn h8 (zipK2_mem st.len hx1) (zipK2_mem st.len hy1) (by omega) hw) ?_; rintro _ _ ⟨s1, y1, rfl, rfl, k1, hle⟩) | (refine J.fc 22 ?_; refine J.callx eXor rfl rfl (fun w hw => kXor_any st.kn h8 (zipK2_mem st.len hx1) (zipK2_mem st.len hy1) (by omega) hw) ?_; rintro _ _ ⟨s1, y1, rfl, rfl, k1, hle⟩) | (refine J.fc 24 ?_; refine J.callx eIf rfl rfl (fun w hw => kIf_any st.kn h8 (zipK2_mem st.len hx1) (zipK2_mem st.len hy1) (zipK2_mem st.len hz1) (by omega) hw) ?_; rintro _ _ ⟨s1, y1, rfl, rfl, k1, hle⟩) | (refine J.fc 26 ?_; refine J.callx eExists rfl rfl (fun w hw => kEx6_any st.kn h6 po (zipK2_mem st.len hx1) _ hvy _ hry (by omega) hw) ?_; rintro _ _ ⟨s1, y1, rfl, rfl, k1, hle⟩) | (refine J.fc 14 ?_; first | (refine J.callx eVarS rfl rfl (fun w hw => Var_any so po x hxr kx hkx (by omega) hw) ?_; rintro _ _ ⟨s1, y1, rfl, rfl, r⟩; have hle := r.1.le; have k1 := st.kn.put r (fun α => rfl)) | (refine J.callx eVarS rfl rfl (fun w hw => Var_any so po _ hvx _ hrx (by omega) hw) ?_; rintro _ _ ⟨s1, y1, rfl, rfl, r⟩; have hle := r.1.le; have k1 := st.kn.put r (fun α => rfl))) | (refine J.fc 17 ?_; refine J.call1 eNot30 rfl rfl (fun w hw => notT_any order.length h8 (vs.getD (modN x (natI A).length) default).g _ _ hI (st.i _ hgx) w (hw.rdH (rdApp _ RdH.hd.tl.tl.tl.tl.tl.tl.tl))) ?_; rintro _ hx ⟨ax, cx, rfl, ox⟩) | (refine J.fc 19 ?_; refine J.call1 eAnd30 rfl rfl (fun w hw => andT_any order.length h8 (vs.getD (modN x (natI A).length) default).g (vs.getD (modN y (natI A).length) default).g _ _ _ _ hI hI (st.i _ hgx) (st.i _ hgy) w ((hw.rdH (rdApp _ RdH.hd.tl.tl.tl.tl.tl.tl.tl)).append (hw.rdH (rdApp _ RdH.hd.tl.tl.tl.tl.tl.tl.tl)))) ?_; rintro _ hx ⟨ax, cx, rfl, ox⟩) | (refine J.fc 21 ?_; refine J.call1 eOr30 rfl rfl (fun w hw => orT_any order.length h8 (vs.getD (modN x (natI A).length) default).g (vs.getD (modN y (natI A).length) default).g _ _ _ _ hI hI (st.i _ hgx) (st.i _ hgy) w ((hw.rdH (rdApp _ RdH.hd.tl.tl.tl.tl.tl.tl.tl)).append (hw.rdH (rdApp _ RdH.hd.tl.tl.tl.tl.tl.tl.tl)))) ?_; rintro _ hx ⟨ax, cx, rfl, ox⟩) | (refine J.fc 23 ?_; refine J.call1 eXor30 rfl rfl (fun w hw => xorT_any order.length h8 (vs.getD (modN x (natI A).length) default).g (vs.getD (modN y (natI A).length) default).g _ _ _ _ hI hI (st.i _ hgx) (st.i _ hgy) w ((hw.rdH (rdApp _ RdH.hd.tl.tl.tl.tl.tl.tl.tl)).append (hw.rdH (rdApp _ RdH.hd.tl.tl.tl.tl.tl.tl.tl)))) ?_; rintro _ hx ⟨ax, cx, rfl, ox⟩) | (refine J.fc 25 ?_; refine J.call1 eIf30 rfl rfl (fun w hw => ifT_any order.length h8 (vs.getD (modN x (natI A).length) default).g (vs.getD (modN y (natI A).length) default).g (vs.getD (modN z (natI A).length) default).g _ _ _ _ _ _ hI hI hI (st.i _ hgx) (st.i _ hgy) (st.i _ hgz) w ((hw.rdH (rdApp _ RdH.hd.tl.tl.tl.tl.tl.tl.tl)).append ((hw.rdH (rdApp _ RdH.hd.tl.tl.tl.tl.tl.tl.tl)).append (hw.rdH (rdApp _ RdH.hd.tl.tl.tl.tl.tl.tl.tl))))) ?_; rintro _ hx ⟨ax, cx, rfl, ox⟩) | (refine J.fc 27 ?_; refine J.call1 eExists30 rfl rfl (fun w hw => exT_any order.length h8 a c _ hmy (vs.getD (modN x (natI A).length) default).g _ _ hI (st.i _ hgx) w (hw.rdH (rdApp _ RdH.hd.tl.tl.tl.tl.tl.tl.tl))) ?_; rintro _ hx ⟨ax, cx, rfl, ox⟩) | (refine J.fc 15 ?_; first | (refine J.call1 eVar30 rfl rfl (fun w hw => varT_any order.length h8 order rfl a c h hs x kx hkx w (hw.rdH (hr _))) ?_; rintro _ hx ⟨_, rfl, ax, cx, rfl, ox⟩) | (refine J.call1 eVar30 rfl rfl (fun w hw => varT_any order.length h8 order rfl a c h hs _ _ hrx w (hw.rdH (hr _))) ?_; rintro _ hx ⟨_, rfl, ax, cx, rfl, ox⟩))) | (first | (refine J.o 0 ?_; refine J.ev' hΓ ?_) | refine J.nil ?_ | (refine J.o 4 ?_; first | refine J.lT default hΓ ?_ | refine J.lR hΓ ?_) | (refine J.o 3 ?_; first | refine J.iJ hΓ ?_ | refine J.ev' hΓ ?_) | (refine J.o 5 ?_; first | refine J.t0 hΓ ?_ | refine J.t1 hΓ ?_) | (refine J.o 6 ?_; refine J.bx (fun _ => ?_)) | (refine J.o 7 ?_; refine J.al hΓ (fun _ => ?_)) | (refine J.o 9 ?_; refine J.bl hΓ (fun _ => ?_)) | (refine J.o 10 ?_; refine J.ev' hΓ ?_) | (refine J.o 11 ?_; refine J.ev' hΓ ?_)))
      | (first | refine JC.seq ?_ | refine JC.region ?_ | refine JC.block ?_ | refine JC.ret ?_ | refine JC.skip ?_ | refine thenK.nn ?_ | refine thenK.r ?_ | refine blockK.nn ?_ | refine JC.condT rfl ?_ | refine JC.condF rfl ?_ | refine drawK.nn ?_)
      | ((first | (refine JC.drawO [(0,0),(1,1),(0,2),(1,3),(0,4),(0,5),(1,6),(2,7),(0,8),(0,9),(0,10),(0,11),(0,12)] (by decide +kernel) (by decide +kernel) ?_) | (refine JC.drawO [(0,0),(1,1),(0,2),(1,3),(0,4),(0,5),(1,6),(0,7),(1,8),(0,9),(0,10),(1,11),(2,12),(0,13),(0,14),(0,15),(0,16),(0,17)] (by decide +kernel) (by decide +kernel) ?_) | (refine JC.drawO [(0,0),(1,1),(0,2),(0,3),(1,4),(0,5),(1,6),(0,7),(0,8),(1,9),(2,10),(0,11)] (by decide +kernel) (by decide +kernel) ?_) | (refine JC.drawO [(0,0),(1,1),(0,2),(1,3),(0,4),(0,5),(1,6),(0,7),(1,8),(0,9),(0,10),(1,11),(0,12),(1,13),(0,14),(0,15),(1,16),(2,17),(0,18),(0,19),(0,20),(0,21),(0,22)] (by decide +kernel) (by decide +kernel) ?_) | (refine JC.drawO [(0,0),(1,1),(0,2),(0,3),(1,4),(0,5),(1,6),(0,7),(0,8),(1,9),(0,10),(1,11),(0,12),(0,13),(1,14),(2,15),(0,16)] (by decide +kernel) (by decide +kernel) ?_) | (refine JC.drawO [(0,0),(1,1),(0,2),(1,3),(0,4),(0,5),(1,6),(0,7),(0,8),(0,9),(1,10),(2,11),(0,12),(0,13),(0,14),(0,15),(0,16)] (by decide +kernel) (by decide +kernel) ?_) | (refine JC.drawW [] [] (by decide +kernel) (by decide +kernel) ?_)))
      | fail
    all_goals first | (exfalso; omega) | skip

    obtain ⟨G, kG, oG, cG⟩ : ∃ G : BF, Kn order.length K s1 ((y1, G) :: zipK2 A vs) ∧ SlT encBo 1 ax (tabF order.length G) hx ∧ 2 ^ order.length ≤ cx := ⟨_, k1, ox.sl, tabF_len order.length _ ▸ own_le ox⟩
    unfold sF
    simp only [List.cons_append, List.nil_append]
    refine J.isJ ?_
    refine J.o 9 ?_
    refine J.perm (bring_perm 11 _) ?_
    refine J.perm br1 ?_
    refine J.ap1 (enc := encI) [(y1 : Int)] hΓ (fun a2 c2 h2 o2 => ?_) (ho := st.oA)
    repeat' first
      | (refine J.isJ ?_; first | ((refine J.o 5 ?_; refine J.perm (bring_perm 10 _) ?_; refine J.t0 hΓ ?_)) | (first | (refine J.o 0 ?_; refine J.ev' hΓ ?_) | refine J.nil ?_ | (refine J.o 4 ?_; first | refine J.lT default hΓ ?_ | refine J.lR hΓ ?_) | (refine J.o 3 ?_; first | refine J.iJ hΓ ?_ | refine J.ev' hΓ ?_) | (refine J.o 5 ?_; first | refine J.t0 hΓ ?_ | refine J.t1 hΓ ?_) | (refine J.o 6 ?_; refine J.bx (fun _ => ?_)) | (refine J.o 7 ?_; refine J.al hΓ (fun _ => ?_)) | (refine J.o 9 ?_; refine J.bl hΓ (fun _ => ?_)) | (refine J.o 10 ?_; refine J.ev' hΓ ?_) | (refine J.o 11 ?_; refine J.ev' hΓ ?_)))
      | (first | refine JC.seq ?_ | refine JC.region ?_ | refine JC.block ?_ | refine JC.ret ?_ | refine JC.skip ?_ | refine thenK.nn ?_ | refine thenK.r ?_ | refine blockK.nn ?_ | refine JC.condT rfl ?_ | refine JC.condF rfl ?_ | refine drawK.nn ?_)
      | (fail)
      | fail
    refine J.isJ ?_
    refine J.o 9 ?_
    refine J.perm (bring_perm 12 _) ?_
    refine J.perm br1 ?_
    refine J.ap1 (enc := encTV order.length) [(⟨ax, cx, G⟩ : TV)] hΓ (fun a3 c3 h3 o3 => ?_) (ho := st.oF)
    repeat' first
      | (refine J.isJ ?_; first | ((refine J.o 5 ?_; first | refine J.t1 hΓ ?_ | (refine J.perm (bring_perm 10 _) ?_; refine J.t0 hΓ ?_))) | (first | (refine J.o 0 ?_; refine J.ev' hΓ ?_) | refine J.nil ?_ | (refine J.o 4 ?_; first | refine J.lT default hΓ ?_ | refine J.lR hΓ ?_) | (refine J.o 3 ?_; first | refine J.iJ hΓ ?_ | refine J.ev' hΓ ?_) | (refine J.o 5 ?_; first | refine J.t0 hΓ ?_ | refine J.t1 hΓ ?_) | (refine J.o 6 ?_; refine J.bx (fun _ => ?_)) | (refine J.o 7 ?_; refine J.al hΓ (fun _ => ?_)) | (refine J.o 9 ?_; refine J.bl hΓ (fun _ => ?_)) | (refine J.o 10 ?_; refine J.ev' hΓ ?_) | (refine J.o 11 ?_; refine J.ev' hΓ ?_)))
      | (first | refine JC.seq ?_ | refine JC.region ?_ | refine JC.block ?_ | refine JC.ret ?_ | refine JC.skip ?_ | refine thenK.nn ?_ | refine thenK.r ?_ | refine blockK.nn ?_ | refine JC.condT rfl ?_ | refine JC.condF rfl ?_ | refine drawK.nn ?_)
      | (fail)
      | fail
    refine retC hΓ rfl rfl rfl Rd.hd rfl (fun w1 hw => ?_)
    have hw2 := (H.sel (l := [_, _, _, _, _, _, _, _, _, _, _, _, _]) (M := L) hw [4, 12, 5, 6, 7, 8, 9, 10, 3, 1]).mg1
    have hw3 := H.sel (l := [_, _, _, _, _, _, _, _, _]) (M := L) hw2 [1, 2, 3, 4, 5, 6, 7, 8, 0]
    have e : natI (A ++ [y1]) = natI A ++ [(y1 : Int)] := by unfold natI; rw [List.map_append]; rfl
    exact ⟨_, _, rfl, hw3, s1, A ++ [y1], vs ++ [⟨ax, cx, G⟩], a2, a3, c2, c3, h2, h3, hx ++ hI, by rw [e]; rfl, rfl, st.next kG (fun α => rfl) o2 o3 oG cG, by simp, by omega⟩

  ·
    refine calls_in Tryz.func7 Tryz.ntmps7 rfl rfl (hw) ?_
    refine JC.seq ?_
    refine JC.region ?_
    refine J.isJ ?_
    refine J.o 6 ?_
    refine J.bx (fun b3 => ?_)
    refine J.isJ ?_
    refine J.o 6 ?_
    refine J.bx (fun b5 => ?_)
    refine J.isJ ?_
    refine J.o 7 ?_
    refine J.al hΓ (fun b6 => ?_)
    refine J.nil ?_
    refine thenK.nn ?_
    refine JC.perm (brC K b0 s _ _ _ hO hP _) ?_
    repeat' first
      | (refine J.isJ ?_; first | (first | (refine J.o 1 ?_; refine J.grem (b := 8) ?_; rw [hκ]) | (refine J.o 4 ?_; first | refine J.lR hΓ ?_ (hr := Rd.app _ Rd.hd.tl.tl) | refine J.lR hΓ ?_ (hr := Rd.app _ Rd.hd.tl.tl.tl) | refine J.lR hΓ ?_ (hr := Rd.app _ Rd.hd.tl.tl.tl.tl) | refine J.lR hΓ ?_ (hr := (Rd.app _ Rd.hd.tl.tl).tl) | refine J.lR hΓ ?_ (hr := (Rd.app _ Rd.hd.tl.tl.tl).tl) | refine J.lR hΓ ?_ (hr := (Rd.app _ Rd.hd.tl.tl.tl.tl).tl) | (refine J.lT default hΓ ?_ (hs := st.oA.sl) (hr := rdApp _ RdH.hd.tl.tl.tl.tl.tl); first | rw [natI_get A hx1] | rw [natI_get A hy1] | rw [natI_get A hz1]) | refine J.lT default hΓ ?_ (hs := st.oF.sl) (hr := rdApp _ RdH.hd.tl.tl.tl.tl.tl.tl) | refine J.lT default hΓ ?_ (hs := hs) (hr := hr _)) | (refine J.o 3 ?_; first | refine J.iJ hΓ ?_ (hs := st.oA.sl) | refine J.iJ hΓ ?_ (hs := st.oF.sl) | refine J.iJ hΓ ?_ (hs := hs)) | (refine J.fc 13 ?_; first | refine J.call0 eMod rfl rfl (fun w hw => mod_any x (natI A).length (by omega) (by omega) w) ?_ | refine J.call0 eMod rfl rfl (fun w hw => mod_any y (natI A).length (by omega) (by omega) w) ?_ | refine J.call0 eMod rfl rfl (fun w hw => mod_any z (natI A).length (by omega) (by omega) w) ?_ | refine J.call0 eMod rfl rfl (fun w hw => mod_any y order.length (by omega) (by omega) w) ?_ | refine J.call0 eMod rfl rfl (fun w hw => mod_any x order.length (by omega) (by omega) w) ?_) | (refine J.fc 16 ?_; refine J.callx eNot rfl rfl (fun w hw => kNot_any st.kn h8 (zipK2_mem st.len hx1) (by omega) hw) ?_; rintro _ _ ⟨s1, y1, rfl, rfl, k1, hle⟩) | (refine J.fc 18 ?_; refine J.callx eAnd rfl rfl (fun w hw => kAnd_any st.kn h8 (zipK2_mem st.len hx1) (zipK2_mem st.len hy1) (by omega) hw) ?_; rintro _ _ ⟨s1, y1, rfl, rfl, k1, hle⟩) | (refine J.fc 20 ?_; refine J.callx eOr rfl rfl (fun w hw => kOr_any st.kn h8 (zipK2_mem st.len hx1) (zipK2_mem st.len hy1) (by omega) hw) ?_; rintro _ _ ⟨s1, y1, rfl, rfl, k1, hle⟩) | (refine J.fc 22 ?_; refine J.callx eXor rfl rfl (fun w hw => kXor_any st.kn h8 (zipK2_mem st.len hx1) (zipK2_mem st.len hy1) (by omega) hw) ?_; rintro _ _ ⟨s1, y1, rfl, rfl, k1, hle⟩) | (refine J.fc 24 ?_; refine J.callx eIf rfl rfl (fun w hw => kIf_any st.kn h8 (zipK2_mem st.len hx1) (zipK2_mem st.len hy1) (zipK2_mem st.len hz1) (by omega) hw) ?_; rintro _ _ ⟨s1, y1, rfl, rfl, k1, hle⟩) | (refine J.fc 26 ?_; refine J.callx eExists rfl rfl (fun w hw => kEx6_any st.kn h6 po (zipK2_mem st.len hx1) _ hvy _ hry (by omega) hw) ?_; rintro _ _ ⟨s1, y1, rfl, rfl, k1, hle⟩) | (refine J.fc 14 ?_; first | (refine J.callx eVarS rfl rfl (fun w hw => Var_any so po x hxr kx hkx (by omega) hw) ?_; rintro _ _ ⟨s1, y1, rfl, rfl, r⟩; have hle := r.1.le; have k1 := st.kn.put r (fun α => rfl)) | (refine J.callx eVarS rfl rfl (fun w hw => Var_any so po _ hvx _ hrx (by omega) hw) ?_; rintro _ _ ⟨s1, y1, rfl, rfl, r⟩; have hle := r.1.le; have k1 := st.kn.put r (fun α => rfl))) | (refine J.fc 17 ?_; refine J.call1 eNot30 rfl rfl (fun w hw => notT_any order.length h8 (vs.getD (modN x (natI A).length) default).g _ _ hI (st.i _ hgx) w (hw.rdH (rdApp _ RdH.hd.tl.tl.tl.tl.tl.tl.tl))) ?_; rintro _ hx ⟨ax, cx, rfl, ox⟩) | (refine J.fc 19 ?_; refine J.call1 eAnd30 rfl rfl (fun w hw => andT_any order.length h8 (vs.getD (modN x (natI A).length) default).g (vs.getD (modN y (natI A).length) default).g _ _ _ _ hI hI (st.i _ hgx) (st.i _ hgy) w ((hw.rdH (rdApp _ RdH.hd.tl.tl.tl.tl.tl.tl.tl)).append (hw.rdH (rdApp _ RdH.hd.tl.tl.tl.tl.tl.tl.tl)))) ?_; rintro _ hx ⟨ax, cx, rfl, ox⟩) | (refine J.fc 21 ?_; refine J.call1 eOr30 rfl rfl (fun w hw => orT_any order.length h8 (vs.getD (modN x (natI A).length) default).g (vs.getD (modN y (natI A).length) default).g _ _ _ _ hI hI (st.i _ hgx) (st.i _ hgy) w ((hw.rdH (rdApp _ RdH.hd.tl.tl.tl.tl.tl.tl.tl)).append (hw.rdH (rdApp _ RdH.hd.tl.tl.tl.tl.tl.tl.tl)))) ?_; rintro _ hx ⟨ax, cx, rfl, ox⟩) | (refine J.fc 23 ?_; refine J.call1 eXor30 rfl rfl (fun w hw => xorT_any order.length h8 (vs.getD (modN x (natI A).length) default).g (vs.getD (modN y (natI A).length) default).g _ _ _ _ hI hI (st.i _ hgx) (st.i _ hgy) w ((hw.rdH (rdApp _ RdH.hd.tl.tl.tl.tl.tl.tl.tl)).append (hw.rdH (rdApp _ RdH.hd.tl.tl.tl.tl.tl.tl.tl)))) ?_; rintro _ hx ⟨ax, cx, rfl, ox⟩) | (refine J.fc 25 ?_; refine J.call1 eIf30 rfl rfl (fun w hw => ifT_any order.length h8 (vs.getD (modN x (natI A).length) default).g (vs.getD (modN y (natI A).length) default).g (vs.getD (modN z (natI A).length) default).g _ _ _ _ _ _ hI hI hI (st.i _ hgx) (st.i _ hgy) (st.i _ hgz) w ((hw.rdH (rdApp _ RdH.hd.tl.tl.tl.tl.tl.tl.tl)).append ((hw.rdH (rdApp _ RdH.hd.tl.tl.tl.tl.tl.tl.tl)).append (hw.rdH (rdApp _ RdH.hd.tl.tl.tl.tl.tl.tl.tl))))) ?_; rintro _ hx ⟨ax, cx, rfl, ox⟩) | (refine J.fc 27 ?_; refine J.call1 eExists30 rfl rfl (fun w hw => exT_any order.length h8 a c _ hmy (vs.getD (modN x (natI A).length) default).g _ _ hI (st.i _ hgx) w (hw.rdH (rdApp _ RdH.hd.tl.tl.tl.tl.tl.tl.tl))) ?_; rintro _ hx ⟨ax, cx, rfl, ox⟩) | (refine J.fc 15 ?_; first | (refine J.call1 eVar30 rfl rfl (fun w hw => varT_any order.length h8 order rfl a c h hs x kx hkx w (hw.rdH (hr _))) ?_; rintro _ hx ⟨_, rfl, ax, cx, rfl, ox⟩) | (refine J.call1 eVar30 rfl rfl (fun w hw => varT_any order.length h8 order rfl a c h hs _ _ hrx w (hw.rdH (hr _))) ?_; rintro _ hx ⟨_, rfl, ax, cx, rfl, ox⟩))) | (first | (refine J.o 0 ?_; refine J.ev' hΓ ?_) | refine J.nil ?_ | (refine J.o 4 ?_; first | refine J.lT default hΓ ?_ | refine J.lR hΓ ?_) | (refine J.o 3 ?_; first | refine J.iJ hΓ ?_ | refine J.ev' hΓ ?_) | (refine J.o 5 ?_; first | refine J.t0 hΓ ?_ | refine J.t1 hΓ ?_) | (refine J.o 6 ?_; refine J.bx (fun _ => ?_)) | (refine J.o 7 ?_; refine J.al hΓ (fun _ => ?_)) | (refine J.o 9 ?_; refine J.bl hΓ (fun _ => ?_)) | (refine J.o 10 ?_; refine J.ev' hΓ ?_) | (refine J.o 11 ?_; refine J.ev' hΓ ?_)))
      | (first | refine JC.seq ?_ | refine JC.region ?_ | refine JC.block ?_ | refine JC.ret ?_ | refine JC.skip ?_ | refine thenK.nn ?_ | refine thenK.r ?_ | refine blockK.nn ?_ | refine JC.condT rfl ?_ | refine JC.condF rfl ?_ | refine drawK.nn ?_)
      | ((first | (refine JC.drawO [(0,0),(1,1),(0,2),(1,3),(0,4),(0,5),(1,6),(2,7),(0,8),(0,9),(0,10),(0,11),(0,12)] (by decide +kernel) (by decide +kernel) ?_) | (refine JC.drawO [(0,0),(1,1),(0,2),(1,3),(0,4),(0,5),(1,6),(0,7),(1,8),(0,9),(0,10),(1,11),(2,12),(0,13),(0,14),(0,15),(0,16),(0,17)] (by decide +kernel) (by decide +kernel) ?_) | (refine JC.drawO [(0,0),(1,1),(0,2),(0,3),(1,4),(0,5),(1,6),(0,7),(0,8),(1,9),(2,10),(0,11)] (by decide +kernel) (by decide +kernel) ?_) | (refine JC.drawO [(0,0),(1,1),(0,2),(1,3),(0,4),(0,5),(1,6),(0,7),(1,8),(0,9),(0,10),(1,11),(0,12),(1,13),(0,14),(0,15),(1,16),(2,17),(0,18),(0,19),(0,20),(0,21),(0,22)] (by decide +kernel) (by decide +kernel) ?_) | (refine JC.drawO [(0,0),(1,1),(0,2),(0,3),(1,4),(0,5),(1,6),(0,7),(0,8),(1,9),(0,10),(1,11),(0,12),(0,13),(1,14),(2,15),(0,16)] (by decide +kernel) (by decide +kernel) ?_) | (refine JC.drawO [(0,0),(1,1),(0,2),(1,3),(0,4),(0,5),(1,6),(0,7),(0,8),(0,9),(1,10),(2,11),(0,12),(0,13),(0,14),(0,15),(0,16)] (by decide +kernel) (by decide +kernel) ?_) | (refine JC.drawW [] [] (by decide +kernel) (by decide +kernel) ?_)))
      | fail
    all_goals first | (exfalso; omega) | skip

    obtain ⟨G, kG, oG, cG⟩ : ∃ G : BF, Kn order.length K s1 ((y1, G) :: zipK2 A vs) ∧ SlT encBo 1 ax (tabF order.length G) hx ∧ 2 ^ order.length ≤ cx := ⟨_, k1, ox.sl, tabF_len order.length _ ▸ own_le ox⟩
    unfold sF
    simp only [List.cons_append, List.nil_append]
    refine J.isJ ?_
    refine J.o 9 ?_
    refine J.perm (bring_perm 11 _) ?_
    refine J.perm br1 ?_
    refine J.ap1 (enc := encI) [(y1 : Int)] hΓ (fun a2 c2 h2 o2 => ?_) (ho := st.oA)
    repeat' first
      | (refine J.isJ ?_; first | ((refine J.o 5 ?_; refine J.perm (bring_perm 10 _) ?_; refine J.t0 hΓ ?_)) | (first | (refine J.o 0 ?_; refine J.ev' hΓ ?_) | refine J.nil ?_ | (refine J.o 4 ?_; first | refine J.lT default hΓ ?_ | refine J.lR hΓ ?_) | (refine J.o 3 ?_; first | refine J.iJ hΓ ?_ | refine J.ev' hΓ ?_) | (refine J.o 5 ?_; first | refine J.t0 hΓ ?_ | refine J.t1 hΓ ?_) | (refine J.o 6 ?_; refine J.bx (fun _ => ?_)) | (refine J.o 7 ?_; refine J.al hΓ (fun _ => ?_)) | (refine J.o 9 ?_; refine J.bl hΓ (fun _ => ?_)) | (refine J.o 10 ?_; refine J.ev' hΓ ?_) | (refine J.o 11 ?_; refine J.ev' hΓ ?_)))
      | (first | refine JC.seq ?_ | refine JC.region ?_ | refine JC.block ?_ | refine JC.ret ?_ | refine JC.skip ?_ | refine thenK.nn ?_ | refine thenK.r ?_ | refine blockK.nn ?_ | refine JC.condT rfl ?_ | refine JC.condF rfl ?_ | refine drawK.nn ?_)
      | (fail)
      | fail
    refine J.isJ ?_
    refine J.o 9 ?_
    refine J.perm (bring_perm 12 _) ?_
    refine J.perm br1 ?_
    refine J.ap1 (enc := encTV order.length) [(⟨ax, cx, G⟩ : TV)] hΓ (fun a3 c3 h3 o3 => ?_) (ho := st.oF)
    repeat' first
      | (refine J.isJ ?_; first | ((refine J.o 5 ?_; first | refine J.t1 hΓ ?_ | (refine J.perm (bring_perm 10 _) ?_; refine J.t0 hΓ ?_))) | (first | (refine J.o 0 ?_; refine J.ev' hΓ ?_) | refine J.nil ?_ | (refine J.o 4 ?_; first | refine J.lT default hΓ ?_ | refine J.lR hΓ ?_) | (refine J.o 3 ?_; first | refine J.iJ hΓ ?_ | refine J.ev' hΓ ?_) | (refine J.o 5 ?_; first | refine J.t0 hΓ ?_ | refine J.t1 hΓ ?_) | (refine J.o 6 ?_; refine J.bx (fun _ => ?_)) | (refine J.o 7 ?_; refine J.al hΓ (fun _ => ?_)) | (refine J.o 9 ?_; refine J.bl hΓ (fun _ => ?_)) | (refine J.o 10 ?_; refine J.ev' hΓ ?_) | (refine J.o 11 ?_; refine J.ev' hΓ ?_)))
      | (first | refine JC.seq ?_ | refine JC.region ?_ | refine JC.block ?_ | refine JC.ret ?_ | refine JC.skip ?_ | refine thenK.nn ?_ | refine thenK.r ?_ | refine blockK.nn ?_ | refine JC.condT rfl ?_ | refine JC.condF rfl ?_ | refine drawK.nn ?_)
      | (fail)
      | fail
    refine retC hΓ rfl rfl rfl Rd.hd rfl (fun w1 hw => ?_)
    have hw2 := (H.sel (l := [_, _, _, _, _, _, _, _, _, _, _, _, _]) (M := L) hw [4, 12, 5, 6, 7, 8, 9, 10, 3, 1]).mg1
    have hw3 := H.sel (l := [_, _, _, _, _, _, _, _, _]) (M := L) hw2 [1, 2, 3, 4, 5, 6, 7, 8, 0]
    have e : natI (A ++ [y1]) = natI A ++ [(y1 : Int)] := by unfold natI; rw [List.map_append]; rfl
    exact ⟨_, _, rfl, hw3, s1, A ++ [y1], vs ++ [⟨ax, cx, G⟩], a2, a3, c2, c3, h2, h3, hx ++ hI, by rw [e]; rfl, rfl, st.next kG (fun α => rfl) o2 o3 oG cG, by simp, by omega⟩

  ·
    refine calls_in Tryz.func7 Tryz.ntmps7 rfl rfl (hw) ?_
    refine JC.seq ?_
    refine JC.region ?_
    refine J.isJ ?_
    refine J.o 6 ?_
    refine J.bx (fun b3 => ?_)
    refine J.isJ ?_
    refine J.o 6 ?_
    refine J.bx (fun b5 => ?_)
    refine J.isJ ?_
    refine J.o 7 ?_
    refine J.al hΓ (fun b6 => ?_)
    refine J.nil ?_
    refine thenK.nn ?_
    refine JC.perm (brC K b0 s _ _ _ hO hP _) ?_
    repeat' first
      | (refine J.isJ ?_; first | (first | (refine J.o 1 ?_; refine J.grem (b := 8) ?_; rw [hκ]) | (refine J.o 4 ?_; first | refine J.lR hΓ ?_ (hr := Rd.app _ Rd.hd.tl.tl) | refine J.lR hΓ ?_ (hr := Rd.app _ Rd.hd.tl.tl.tl) | refine J.lR hΓ ?_ (hr := Rd.app _ Rd.hd.tl.tl.tl.tl) | refine J.lR hΓ ?_ (hr := (Rd.app _ Rd.hd.tl.tl).tl) | refine J.lR hΓ ?_ (hr := (Rd.app _ Rd.hd.tl.tl.tl).tl) | refine J.lR hΓ ?_ (hr := (Rd.app _ Rd.hd.tl.tl.tl.tl).tl) | (refine J.lT default hΓ ?_ (hs := st.oA.sl) (hr := rdApp _ RdH.hd.tl.tl.tl.tl.tl); first | rw [natI_get A hx1] | rw [natI_get A hy1] | rw [natI_get A hz1]) | refine J.lT default hΓ ?_ (hs := st.oF.sl) (hr := rdApp _ RdH.hd.tl.tl.tl.tl.tl.tl) | refine J.lT default hΓ ?_ (hs := hs) (hr := hr _)) | (refine J.o 3 ?_; first | refine J.iJ hΓ ?_ (hs := st.oA.sl) | refine J.iJ hΓ ?_ (hs := st.oF.sl) | refine J.iJ hΓ ?_ (hs := hs)) | (refine J.fc 13 ?_; first | refine J.call0 eMod rfl rfl (fun w hw => mod_any x (natI A).length (by omega) (by omega) w) ?_ | refine J.call0 eMod rfl rfl (fun w hw => mod_any y (natI A).length (by omega) (by omega) w) ?_ | refine J.call0 eMod rfl rfl (fun w hw => mod_any z (natI A).length (by omega) (by omega) w) ?_ | refine J.call0 eMod rfl rfl (fun w hw => mod_any y order.length (by omega) (by omega) w) ?_ | refine J.call0 eMod rfl rfl (fun w hw => mod_any x order.length (by omega) (by omega) w) ?_) | (refine J.fc 16 ?_; refine J.callx eNot rfl rfl (fun w hw => kNot_any st.kn h8 (zipK2_mem st.len hx1) (by omega) hw) ?_; rintro _ _ ⟨s1, y1, rfl, rfl, k1, hle⟩) | (refine J.fc 18 ?_; refine J.callx eAnd rfl rfl (fun w hw => kAnd_any st.kn h8 (zipK2_mem st.len hx1) (zipK2_mem st.len hy1) (by omega) hw) ?_; rintro _ _ ⟨s1, y1, rfl, rfl, k1, hle⟩) | (refine J.fc 20 ?_; refine J.callx eOr rfl rfl (fun w hw => kOr_any st.kn h8 (zipK2_mem st.len hx1) (zipK2_mem st.len hy1) (by omega) hw) ?_; rintro _ _ ⟨s1, y1, rfl, rfl, k1, hle⟩) | (refine J.fc 22 ?_; refine J.callx eXor rfl rfl (fun w hw => kXor_any st.kn h8 (zipK2_mem st.len hx1) (zipK2_mem st.len hy1) (by omega) hw) ?_; rintro _ _ ⟨s1, y1, rfl, rfl, k1, hle⟩) | (refine J.fc 24 ?_; refine J.callx eIf rfl rfl (fun w hw => kIf_any st.kn h8 (zipK2_mem st.len hx1) (zipK2_mem st.len hy1) (zipK2_mem st.len hz1) (by omega) hw) ?_; rintro _ _ ⟨s1, y1, rfl, rfl, k1, hle⟩) | (refine J.fc 26 ?_; refine J.callx eExists rfl rfl (fun w hw => kEx6_any st.kn h6 po (zipK2_mem st.len hx1) _ hvy _ hry (by omega) hw) ?_; rintro _ _ ⟨s1, y1, rfl, rfl, k1, hle⟩) | (refine J.fc 14 ?_; first | (refine J.callx eVarS rfl rfl (fun w hw => Var_any so po x hxr kx hkx (by omega) hw) ?_; rintro _ _ ⟨s1, y1, rfl, rfl, r⟩; have hle := r.1.le; have k1 := st.kn.put r (fun α => rfl)) | (refine J.callx eVarS rfl rfl (fun w hw => Var_any so po _ hvx _ hrx (by omega) hw) ?_; rintro _ _ ⟨s1, y1, rfl, rfl, r⟩; have hle := r.1.le; have k1 := st.kn.put r (fun α => rfl))) | (refine J.fc 17 ?_; refine J.call1 eNot30 rfl rfl (fun w hw => notT_any order.length h8 (vs.getD (modN x (natI A).length) default).g _ _ hI (st.i _ hgx) w (hw.rdH (rdApp _ RdH.hd.tl.tl.tl.tl.tl.tl.tl))) ?_; rintro _ hx ⟨ax, cx, rfl, ox⟩) | (refine J.fc 19 ?_; refine J.call1 eAnd30 rfl rfl (fun w hw => andT_any order.length h8 (vs.getD (modN x (natI A).length) default).g (vs.getD (modN y (natI A).length) default).g _ _ _ _ hI hI (st.i _ hgx) (st.i _ hgy) w ((hw.rdH (rdApp _ RdH.hd.tl.tl.tl.tl.tl.tl.tl)).append (hw.rdH (rdApp _ RdH.hd.tl.tl.tl.tl.tl.tl.tl)))) ?_; rintro _ hx ⟨ax, cx, rfl, ox⟩) | (refine J.fc 21 ?_; refine J.call1 eOr30 rfl rfl (fun w hw => orT_any order.length h8 (vs.getD (modN x (natI A).length) default).g (vs.getD (modN y (natI A).length) default).g _ _ _ _ hI hI (st.i _ hgx) (st.i _ hgy) w ((hw.rdH (rdApp _ RdH.hd.tl.tl.tl.tl.tl.tl.tl)).append (hw.rdH (rdApp _ RdH.hd.tl.tl.tl.tl.tl.tl.tl)))) ?_; rintro _ hx ⟨ax, cx, rfl, ox⟩) | (refine J.fc 23 ?_; refine J.call1 eXor30 rfl rfl (fun w hw => xorT_any order.length h8 (vs.getD (modN x (natI A).length) default).g (vs.getD (modN y (natI A).length) default).g _ _ _ _ hI hI (st.i _ hgx) (st.i _ hgy) w ((hw.rdH (rdApp _ RdH.hd.tl.tl.tl.tl.tl.tl.tl)).append (hw.rdH (rdApp _ RdH.hd.tl.tl.tl.tl.tl.tl.tl)))) ?_; rintro _ hx ⟨ax, cx, rfl, ox⟩) | (refine J.fc 25 ?_; refine J.call1 eIf30 rfl rfl (fun w hw => ifT_any order.length h8 (vs.getD (modN x (natI A).length) default).g (vs.getD (modN y (natI A).length) default).g (vs.getD (modN z (natI A).length) default).g _ _ _ _ _ _ hI hI hI (st.i _ hgx) (st.i _ hgy) (st.i _ hgz) w ((hw.rdH (rdApp _ RdH.hd.tl.tl.tl.tl.tl.tl.tl)).append ((hw.rdH (rdApp _ RdH.hd.tl.tl.tl.tl.tl.tl.tl)).append (hw.rdH (rdApp _ RdH.hd.tl.tl.tl.tl.tl.tl.tl))))) ?_; rintro _ hx ⟨ax, cx, rfl, ox⟩) | (refine J.fc 27 ?_; refine J.call1 eExists30 rfl rfl (fun w hw => exT_any order.length h8 a c _ hmy (vs.getD (modN x (natI A).length) default).g _ _ hI (st.i _ hgx) w (hw.rdH (rdApp _ RdH.hd.tl.tl.tl.tl.tl.tl.tl))) ?_; rintro _ hx ⟨ax, cx, rfl, ox⟩) | (refine J.fc 15 ?_; first | (refine J.call1 eVar30 rfl rfl (fun w hw => varT_any order.length h8 order rfl a c h hs x kx hkx w (hw.rdH (hr _))) ?_; rintro _ hx ⟨_, rfl, ax, cx, rfl, ox⟩) | (refine J.call1 eVar30 rfl rfl (fun w hw => varT_any order.length h8 order rfl a c h hs _ _ hrx w (hw.rdH (hr _))) ?_; rintro _ hx ⟨_, rfl, ax, cx, rfl, ox⟩))) | (first | (refine J.o 0 ?_; refine J.ev' hΓ ?_) | refine J.nil ?_ | (refine J.o 4 ?_; first | refine J.lT default hΓ ?_ | refine J.lR hΓ ?_) | (refine J.o 3 ?_; first | refine J.iJ hΓ ?_ | refine J.ev' hΓ ?_) | (refine J.o 5 ?_; first | refine J.t0 hΓ ?_ | refine J.t1 hΓ ?_) | (refine J.o 6 ?_; refine J.bx (fun _ => ?_)) | (refine J.o 7 ?_; refine J.al hΓ (fun _ => ?_)) | (refine J.o 9 ?_; refine J.bl hΓ (fun _ => ?_)) | (refine J.o 10 ?_; refine J.ev' hΓ ?_) | (refine J.o 11 ?_; refine J.ev' hΓ ?_)))
      | (first | refine JC.seq ?_ | refine JC.region ?_ | refine JC.block ?_ | refine JC.ret ?_ | refine JC.skip ?_ | refine thenK.nn ?_ | refine thenK.r ?_ | refine blockK.nn ?_ | refine JC.condT rfl ?_ | refine JC.condF rfl ?_ | refine drawK.nn ?_)
      | ((first | (refine JC.drawO [(0,0),(1,1),(0,2),(1,3),(0,4),(0,5),(1,6),(2,7),(0,8),(0,9),(0,10),(0,11),(0,12)] (by decide +kernel) (by decide +kernel) ?_) | (refine JC.drawO [(0,0),(1,1),(0,2),(1,3),(0,4),(0,5),(1,6),(0,7),(1,8),(0,9),(0,10),(1,11),(2,12),(0,13),(0,14),(0,15),(0,16),(0,17)] (by decide +kernel) (by decide +kernel) ?_) | (refine JC.drawO [(0,0),(1,1),(0,2),(0,3),(1,4),(0,5),(1,6),(0,7),(0,8),(1,9),(2,10),(0,11)] (by decide +kernel) (by decide +kernel) ?_) | (refine JC.drawO [(0,0),(1,1),(0,2),(1,3),(0,4),(0,5),(1,6),(0,7),(1,8),(0,9),(0,10),(1,11),(0,12),(1,13),(0,14),(0,15),(1,16),(2,17),(0,18),(0,19),(0,20),(0,21),(0,22)] (by decide +kernel) (by decide +kernel) ?_) | (refine JC.drawO [(0,0),(1,1),(0,2),(0,3),(1,4),(0,5),(1,6),(0,7),(0,8),(1,9),(0,10),(1,11),(0,12),(0,13),(1,14),(2,15),(0,16)] (by decide +kernel) (by decide +kernel) ?_) | (refine JC.drawO [(0,0),(1,1),(0,2),(1,3),(0,4),(0,5),(1,6),(0,7),(0,8),(0,9),(1,10),(2,11),(0,12),(0,13),(0,14),(0,15),(0,16)] (by decide +kernel) (by decide +kernel) ?_) | (refine JC.drawW [] [] (by decide +kernel) (by decide +kernel) ?_)))
      | fail
    all_goals first | (exfalso; omega) | skip

    obtain ⟨G, kG, oG, cG⟩ : ∃ G : BF, Kn order.length K s1 ((y1, G) :: zipK2 A vs) ∧ SlT encBo 1 ax (tabF order.length G) hx ∧ 2 ^ order.length ≤ cx := ⟨_, k1, ox.sl, tabF_len order.length _ ▸ own_le ox⟩
    unfold sF
    simp only [List.cons_append, List.nil_append]
    refine J.isJ ?_
    refine J.o 9 ?_
    refine J.perm (bring_perm 11 _) ?_
    refine J.perm br1 ?_
    refine J.ap1 (enc := encI) [(y1 : Int)] hΓ (fun a2 c2 h2 o2 => ?_) (ho := st.oA)
    repeat' first
      | (refine J.isJ ?_; first | ((refine J.o 5 ?_; refine J.perm (bring_perm 10 _) ?_; refine J.t0 hΓ ?_)) | (first | (refine J.o 0 ?_; refine J.ev' hΓ ?_) | refine J.nil ?_ | (refine J.o 4 ?_; first | refine J.lT default hΓ ?_ | refine J.lR hΓ ?_) | (refine J.o 3 ?_; first | refine J.iJ hΓ ?_ | refine J.ev' hΓ ?_) | (refine J.o 5 ?_; first | refine J.t0 hΓ ?_ | refine J.t1 hΓ ?_) | (refine J.o 6 ?_; refine J.bx (fun _ => ?_)) | (refine J.o 7 ?_; refine J.al hΓ (fun _ => ?_)) | (refine J.o 9 ?_; refine J.bl hΓ (fun _ => ?_)) | (refine J.o 10 ?_; refine J.ev' hΓ ?_) | (refine J.o 11 ?_; refine J.ev' hΓ ?_)))
      | (first | refine JC.seq ?_ | refine JC.region ?_ | refine JC.block ?_ | refine JC.ret ?_ | refine JC.skip ?_ | refine thenK.nn ?_ | refine thenK.r ?_ | refine blockK.nn ?_ | refine JC.condT rfl ?_ | refine JC.condF rfl ?_ | refine drawK.nn ?_)
      | (fail)
      | fail
    refine J.isJ ?_
    refine J.o 9 ?_
    refine J.perm (bring_perm 12 _) ?_
    refine J.perm br1 ?_
    refine J.ap1 (enc := encTV order.length) [(⟨ax, cx, G⟩ : TV)] hΓ (fun a3 c3 h3 o3 => ?_) (ho := st.oF)
    repeat' first
      | (refine J.isJ ?_; first | ((refine J.o 5 ?_; first | refine J.t1 hΓ ?_ | (refine J.perm (bring_perm 10 _) ?_; refine J.t0 hΓ ?_))) | (first | (refine J.o 0 ?_; refine J.ev' hΓ ?_) | refine J.nil ?_ | (refine J.o 4 ?_; first | refine J.lT default hΓ ?_ | refine J.lR hΓ ?_) | (refine J.o 3 ?_; first | refine J.iJ hΓ ?_ | refine J.ev' hΓ ?_) | (refine J.o 5 ?_; first | refine J.t0 hΓ ?_ | refine J.t1 hΓ ?_) | (refine J.o 6 ?_; refine J.bx (fun _ => ?_)) | (refine J.o 7 ?_; refine J.al hΓ (fun _ => ?_)) | (refine J.o 9 ?_; refine J.bl hΓ (fun _ => ?_)) | (refine J.o 10 ?_; refine J.ev' hΓ ?_) | (refine J.o 11 ?_; refine J.ev' hΓ ?_)))
      | (first | refine JC.seq ?_ | refine JC.region ?_ | refine JC.block ?_ | refine JC.ret ?_ | refine JC.skip ?_ | refine thenK.nn ?_ | refine thenK.r ?_ | refine blockK.nn ?_ | refine JC.condT rfl ?_ | refine JC.condF rfl ?_ | refine drawK.nn ?_)
      | (fail)
      | fail
    refine retC hΓ rfl rfl rfl Rd.hd rfl (fun w1 hw => ?_)
    have hw2 := (H.sel (l := [_, _, _, _, _, _, _, _, _, _, _, _, _]) (M := L) hw [4, 12, 5, 6, 7, 8, 9, 10, 3, 1]).mg1
    have hw3 := H.sel (l := [_, _, _, _, _, _, _, _, _]) (M := L) hw2 [1, 2, 3, 4, 5, 6, 7, 8, 0]
    have e : natI (A ++ [y1]) = natI A ++ [(y1 : Int)] := by unfold natI; rw [List.map_append]; rfl
    exact ⟨_, _, rfl, hw3, s1, A ++ [y1], vs ++ [⟨ax, cx, G⟩], a2, a3, c2, c3, h2, h3, hx ++ hI, by rw [e]; rfl, rfl, st.next kG (fun α => rfl) o2 o3 oG cG, by simp, by omega⟩

  ·
    refine calls_in Tryz.func7 Tryz.ntmps7 rfl rfl (hw) ?_
    refine JC.seq ?_
    refine JC.region ?_
    refine J.isJ ?_
    refine J.o 6 ?_
    refine J.bx (fun b3 => ?_)
    refine J.isJ ?_
    refine J.o 6 ?_
    refine J.bx (fun b5 => ?_)
    refine J.isJ ?_
    refine J.o 7 ?_
    refine J.al hΓ (fun b6 => ?_)
    refine J.nil ?_
    refine thenK.nn ?_
    refine JC.perm (brC K b0 s _ _ _ hO hP _) ?_
    repeat' first
      | (refine J.isJ ?_; first | (first | (refine J.o 1 ?_; refine J.grem (b := 8) ?_; rw [hκ]) | (refine J.o 4 ?_; first | refine J.lR hΓ ?_ (hr := Rd.app _ Rd.hd.tl.tl) | refine J.lR hΓ ?_ (hr := Rd.app _ Rd.hd.tl.tl.tl) | refine J.lR hΓ ?_ (hr := Rd.app _ Rd.hd.tl.tl.tl.tl) | refine J.lR hΓ ?_ (hr := (Rd.app _ Rd.hd.tl.tl).tl) | refine J.lR hΓ ?_ (hr := (Rd.app _ Rd.hd.tl.tl.tl).tl) | refine J.lR hΓ ?_ (hr := (Rd.app _ Rd.hd.tl.tl.tl.tl).tl) | (refine J.lT default hΓ ?_ (hs := st.oA.sl) (hr := rdApp _ RdH.hd.tl.tl.tl.tl.tl); first | rw [natI_get A hx1] | rw [natI_get A hy1] | rw [natI_get A hz1]) | refine J.lT default hΓ ?_ (hs := st.oF.sl) (hr := rdApp _ RdH.hd.tl.tl.tl.tl.tl.tl) | refine J.lT default hΓ ?_ (hs := hs) (hr := hr _)) | (refine J.o 3 ?_; first | refine J.iJ hΓ ?_ (hs := st.oA.sl) | refine J.iJ hΓ ?_ (hs := st.oF.sl) | refine J.iJ hΓ ?_ (hs := hs)) | (refine J.fc 13 ?_; first | refine J.call0 eMod rfl rfl (fun w hw => mod_any x (natI A).length (by omega) (by omega) w) ?_ | refine J.call0 eMod rfl rfl (fun w hw => mod_any y (natI A).length (by omega) (by omega) w) ?_ | refine J.call0 eMod rfl rfl (fun w hw => mod_any z (natI A).length (by omega) (by omega) w) ?_ | refine J.call0 eMod rfl rfl (fun w hw => mod_any y order.length (by omega) (by omega) w) ?_ | refine J.call0 eMod rfl rfl (fun w hw => mod_any x order.length (by omega) (by omega) w) ?_) | (refine J.fc 16 ?_; refine J.callx eNot rfl rfl (fun w hw => kNot_any st.kn h8 (zipK2_mem st.len hx1) (by omega) hw) ?_; rintro _ _ ⟨s1, y1, rfl, rfl, k1, hle⟩) | (refine J.fc 18 ?_; refine J.callx eAnd rfl rfl (fun w hw => kAnd_any st.kn h8 (zipK2_mem st.len hx1) (zipK2_mem st.len hy1) (by omega) hw) ?_; rintro _ _ ⟨s1, y1, rfl, rfl, k1, hle⟩) | (refine J.fc 20 ?_; refine J.callx eOr rfl rfl (fun w hw => kOr_any st.kn h8 (zipK2_mem st.len hx1) (zipK2_mem st.len hy1) (by omega) hw) ?_; rintro _ _ ⟨s1, y1, rfl, rfl, k1, hle⟩) | (refine J.fc 22 ?_; refine J.callx eXor rfl rfl (fun w hw => kXor_any st.kn h8 (zipK2_mem st.len hx1) (zipK2_mem st.len hy1) (by omega) hw) ?_; rintro _ _ ⟨s1, y1, rfl, rfl, k1, hle⟩) | (refine J.fc 24 ?_; refine J.callx eIf rfl rfl (fun w hw => kIf_any st.kn h8 (zipK2_mem st.len hx1) (zipK2_mem st.len hy1) (zipK2_mem st.len hz1) (by omega) hw) ?_; rintro _ _ ⟨s1, y1, rfl, rfl, k1, hle⟩) | (refine J.fc 26 ?_; refine J.callx eExists rfl rfl (fun w hw => kEx6_any st.kn h6 po (zipK2_mem st.len hx1) _ hvy _ hry (by omega) hw) ?_; rintro _ _ ⟨s1, y1, rfl, rfl, k1, hle⟩) | (refine J.fc 14 ?_; first | (refine J.callx eVarS rfl rfl (fun w hw => Var_any so po x hxr kx hkx (by omega) hw) ?_; rintro _ _ ⟨s1, y1, rfl, rfl, r⟩; have hle := r.1.le; have k1 := st.kn.put r (fun α => rfl)) | (refine J.callx eVarS rfl rfl (fun w hw => Var_any so po _ hvx _ hrx (by omega) hw) ?_; rintro _ _ ⟨s1, y1, rfl, rfl, r⟩; have hle := r.1.le; have k1 := st.kn.put r (fun α => rfl))) | (refine J.fc 17 ?_; refine J.call1 eNot30 rfl rfl (fun w hw => notT_any order.length h8 (vs.getD (modN x (natI A).length) default).g _ _ hI (st.i _ hgx) w (hw.rdH (rdApp _ RdH.hd.tl.tl.tl.tl.tl.tl.tl))) ?_; rintro _ hx ⟨ax, cx, rfl, ox⟩) | (refine J.fc 19 ?_; refine J.call1 eAnd30 rfl rfl (fun w hw => andT_any order.length h8 (vs.getD (modN x (natI A).length) default).g (vs.getD (modN y (natI A).length) default).g _ _ _ _ hI hI (st.i _ hgx) (st.i _ hgy) w ((hw.rdH (rdApp _ RdH.hd.tl.tl.tl.tl.tl.tl.tl)).append (hw.rdH (rdApp _ RdH.hd.tl.tl.tl.tl.tl.tl.tl)))) ?_; rintro _ hx ⟨ax, cx, rfl, ox⟩) | (refine J.fc 21 ?_; refine J.call1 eOr30 rfl rfl (fun w hw => orT_any order.length h8 (vs.getD (modN x (natI A).length) default).g (vs.getD (modN y (natI A).length) default).g _ _ _ _ hI hI (st.i _ hgx) (st.i _ hgy) w ((hw.rdH (rdApp _ RdH.hd.tl.tl.tl.tl.tl.tl.tl)).append (hw.rdH (rdApp _ RdH.hd.tl.tl.tl.tl.tl.tl.tl)))) ?_; rintro _ hx ⟨ax, cx, rfl, ox⟩) | (refine J.fc 23 ?_; refine J.call1 eXor30 rfl rfl (fun w hw => xorT_any order.length h8 (vs.getD (modN x (natI A).length) default).g (vs.getD (modN y (natI A).length) default).g _ _ _ _ hI hI (st.i _ hgx) (st.i _ hgy) w ((hw.rdH (rdApp _ RdH.hd.tl.tl.tl.tl.tl.tl.tl)).append (hw.rdH (rdApp _ RdH.hd.tl.tl.tl.tl.tl.tl.tl)))) ?_; rintro _ hx ⟨ax, cx, rfl, ox⟩) | (refine J.fc 25 ?_; refine J.call1 eIf30 rfl rfl (fun w hw => ifT_any order.length h8 (vs.getD (modN x (natI A).length) default).g (vs.getD (modN y (natI A).length) default).g (vs.getD (modN z (natI A).length) default).g _ _ _ _ _ _ hI hI hI (st.i _ hgx) (st.i _ hgy) (st.i _ hgz) w ((hw.rdH (rdApp _ RdH.hd.tl.tl.tl.tl.tl.tl.tl)).append ((hw.rdH (rdApp _ RdH.hd.tl.tl.tl.tl.tl.tl.tl)).append (hw.rdH (rdApp _ RdH.hd.tl.tl.tl.tl.tl.tl.tl))))) ?_; rintro _ hx ⟨ax, cx, rfl, ox⟩) | (refine J.fc 27 ?_; refine J.call1 eExists30 rfl rfl (fun w hw => exT_any order.length h8 a c _ hmy (vs.getD (modN x (natI A).length) default).g _ _ hI (st.i _ hgx) w (hw.rdH (rdApp _ RdH.hd.tl.tl.tl.tl.tl.tl.tl))) ?_; rintro _ hx ⟨ax, cx, rfl, ox⟩) | (refine J.fc 15 ?_; first | (refine J.call1 eVar30 rfl rfl (fun w hw => varT_any order.length h8 order rfl a c h hs x kx hkx w (hw.rdH (hr _))) ?_; rintro _ hx ⟨_, rfl, ax, cx, rfl, ox⟩) | (refine J.call1 eVar30 rfl rfl (fun w hw => varT_any order.length h8 order rfl a c h hs _ _ hrx w (hw.rdH (hr _))) ?_; rintro _ hx ⟨_, rfl, ax, cx, rfl, ox⟩))) | (first | (refine J.o 0 ?_; refine J.ev' hΓ ?_) | refine J.nil ?_ | (refine J.o 4 ?_; first | refine J.lT default hΓ ?_ | refine J.lR hΓ ?_) | (refine J.o 3 ?_; first | refine J.iJ hΓ ?_ | refine J.ev' hΓ ?_) | (refine J.o 5 ?_; first | refine J.t0 hΓ ?_ | refine J.t1 hΓ ?_) | (refine J.o 6 ?_; refine J.bx (fun _ => ?_)) | (refine J.o 7 ?_; refine J.al hΓ (fun _ => ?_)) | (refine J.o 9 ?_; refine J.bl hΓ (fun _ => ?_)) | (refine J.o 10 ?_; refine J.ev' hΓ ?_) | (refine J.o 11 ?_; refine J.ev' hΓ ?_)))
      | (first | refine JC.seq ?_ | refine JC.region ?_ | refine JC.block ?_ | refine JC.ret ?_ | refine JC.skip ?_ | refine thenK.nn ?_ | refine thenK.r ?_ | refine blockK.nn ?_ | refine JC.condT rfl ?_ | refine JC.condF rfl ?_ | refine drawK.nn ?_)
      | ((first | (refine JC.drawO [(0,0),(1,1),(0,2),(1,3),(0,4),(0,5),(1,6),(2,7),(0,8),(0,9),(0,10),(0,11),(0,12)] (by decide +kernel) (by decide +kernel) ?_) | (refine JC.drawO [(0,0),(1,1),(0,2),(1,3),(0,4),(0,5),(1,6),(0,7),(1,8),(0,9),(0,10),(1,11),(2,12),(0,13),(0,14),(0,15),(0,16),(0,17)] (by decide +kernel) (by decide +kernel) ?_) | (refine JC.drawO [(0,0),(1,1),(0,2),(0,3),(1,4),(0,5),(1,6),(0,7),(0,8),(1,9),(2,10),(0,11)] (by decide +kernel) (by decide +kernel) ?_) | (refine JC.drawO [(0,0),(1,1),(0,2),(1,3),(0,4),(0,5),(1,6),(0,7),(1,8),(0,9),(0,10),(1,11),(0,12),(1,13),(0,14),(0,15),(1,16),(2,17),(0,18),(0,19),(0,20),(0,21),(0,22)] (by decide +kernel) (by decide +kernel) ?_) | (refine JC.drawO [(0,0),(1,1),(0,2),(0,3),(1,4),(0,5),(1,6),(0,7),(0,8),(1,9),(0,10),(1,11),(0,12),(0,13),(1,14),(2,15),(0,16)] (by decide +kernel) (by decide +kernel) ?_) | (refine JC.drawO [(0,0),(1,1),(0,2),(1,3),(0,4),(0,5),(1,6),(0,7),(0,8),(0,9),(1,10),(2,11),(0,12),(0,13),(0,14),(0,15),(0,16)] (by decide +kernel) (by decide +kernel) ?_) | (refine JC.drawW [] [] (by decide +kernel) (by decide +kernel) ?_)))
      | fail
    all_goals first | (exfalso; omega) | skip

    obtain ⟨G, kG, oG, cG⟩ : ∃ G : BF, Kn order.length K s1 ((y1, G) :: zipK2 A vs) ∧ SlT encBo 1 ax (tabF order.length G) hx ∧ 2 ^ order.length ≤ cx := ⟨_, k1, ox.sl, tabF_len order.length _ ▸ own_le ox⟩
    unfold sF
    simp only [List.cons_append, List.nil_append]
    refine J.isJ ?_
    refine J.o 9 ?_
    refine J.perm (bring_perm 11 _) ?_
    refine J.perm br1 ?_
    refine J.ap1 (enc := encI) [(y1 : Int)] hΓ (fun a2 c2 h2 o2 => ?_) (ho := st.oA)
    repeat' first
      | (refine J.isJ ?_; first | ((refine J.o 5 ?_; refine J.perm (bring_perm 10 _) ?_; refine J.t0 hΓ ?_)) | (first | (refine J.o 0 ?_; refine J.ev' hΓ ?_) | refine J.nil ?_ | (refine J.o 4 ?_; first | refine J.lT default hΓ ?_ | refine J.lR hΓ ?_) | (refine J.o 3 ?_; first | refine J.iJ hΓ ?_ | refine J.ev' hΓ ?_) | (refine J.o 5 ?_; first | refine J.t0 hΓ ?_ | refine J.t1 hΓ ?_) | (refine J.o 6 ?_; refine J.bx (fun _ => ?_)) | (refine J.o 7 ?_; refine J.al hΓ (fun _ => ?_)) | (refine J.o 9 ?_; refine J.bl hΓ (fun _ => ?_)) | (refine J.o 10 ?_; refine J.ev' hΓ ?_) | (refine J.o 11 ?_; refine J.ev' hΓ ?_)))
      | (first | refine JC.seq ?_ | refine JC.region ?_ | refine JC.block ?_ | refine JC.ret ?_ | refine JC.skip ?_ | refine thenK.nn ?_ | refine thenK.r ?_ | refine blockK.nn ?_ | refine JC.condT rfl ?_ | refine JC.condF rfl ?_ | refine drawK.nn ?_)
      | (fail)
      | fail
    refine J.isJ ?_
    refine J.o 9 ?_
    refine J.perm (bring_perm 12 _) ?_
    refine J.perm br1 ?_
    refine J.ap1 (enc := encTV order.length) [(⟨ax, cx, G⟩ : TV)] hΓ (fun a3 c3 h3 o3 => ?_) (ho := st.oF)
    repeat' first
      | (refine J.isJ ?_; first | ((refine J.o 5 ?_; first | refine J.t1 hΓ ?_ | (refine J.perm (bring_perm 10 _) ?_; refine J.t0 hΓ ?_))) | (first | (refine J.o 0 ?_; refine J.ev' hΓ ?_) | refine J.nil ?_ | (refine J.o 4 ?_; first | refine J.lT default hΓ ?_ | refine J.lR hΓ ?_) | (refine J.o 3 ?_; first | refine J.iJ hΓ ?_ | refine J.ev' hΓ ?_) | (refine J.o 5 ?_; first | refine J.t0 hΓ ?_ | refine J.t1 hΓ ?_) | (refine J.o 6 ?_; refine J.bx (fun _ => ?_)) | (refine J.o 7 ?_; refine J.al hΓ (fun _ => ?_)) | (refine J.o 9 ?_; refine J.bl hΓ (fun _ => ?_)) | (refine J.o 10 ?_; refine J.ev' hΓ ?_) | (refine J.o 11 ?_; refine J.ev' hΓ ?_)))
      | (first | refine JC.seq ?_ | refine JC.region ?_ | refine JC.block ?_ | refine JC.ret ?_ | refine JC.skip ?_ | refine thenK.nn ?_ | refine thenK.r ?_ | refine blockK.nn ?_ | refine JC.condT rfl ?_ | refine JC.condF rfl ?_ | refine drawK.nn ?_)
      | (fail)
      | fail
    refine retC hΓ rfl rfl rfl Rd.hd rfl (fun w1 hw => ?_)
    have hw2 := (H.sel (l := [_, _, _, _, _, _, _, _, _, _, _, _, _]) (M := L) hw [4, 12, 5, 6, 7, 8, 9, 10, 3, 1]).mg1
    have hw3 := H.sel (l := [_, _, _, _, _, _, _, _, _]) (M := L) hw2 [1, 2, 3, 4, 5, 6, 7, 8, 0]
    have e : natI (A ++ [y1]) = natI A ++ [(y1 : Int)] := by unfold natI; rw [List.map_append]; rfl
    exact ⟨_, _, rfl, hw3, s1, A ++ [y1], vs ++ [⟨ax, cx, G⟩], a2, a3, c2, c3, h2, h3, hx ++ hI, by rw [e]; rfl, rfl, st.next kG (fun α => rfl) o2 o3 oG cG, by simp, by omega⟩

  ·
    refine calls_in Tryz.func7 Tryz.ntmps7 rfl rfl (hw) ?_
    refine JC.seq ?_
    refine JC.region ?_
    refine J.isJ ?_
    refine J.o 6 ?_
    refine J.bx (fun b3 => ?_)
    refine J.isJ ?_
    refine J.o 6 ?_
    refine J.bx (fun b5 => ?_)
    refine J.isJ ?_
    refine J.o 7 ?_
    refine J.al hΓ (fun b6 => ?_)
    refine J.nil ?_
    refine thenK.nn ?_
    refine JC.perm (brC K b0 s _ _ _ hO hP _) ?_
    repeat' first
      | (refine J.isJ ?_; first | (first | (refine J.o 1 ?_; refine J.grem (b := 8) ?_; rw [hκ]) | (refine J.o 4 ?_; first | refine J.lR hΓ ?_ (hr := Rd.app _ Rd.hd.tl.tl) | refine J.lR hΓ ?_ (hr := Rd.app _ Rd.hd.tl.tl.tl) | refine J.lR hΓ ?_ (hr := Rd.app _ Rd.hd.tl.tl.tl.tl) | refine J.lR hΓ ?_ (hr := (Rd.app _ Rd.hd.tl.tl).tl) | refine J.lR hΓ ?_ (hr := (Rd.app _ Rd.hd.tl.tl.tl).tl) | refine J.lR hΓ ?_ (hr := (Rd.app _ Rd.hd.tl.tl.tl.tl).tl) | (refine J.lT default hΓ ?_ (hs := st.oA.sl) (hr := rdApp _ RdH.hd.tl.tl.tl.tl.tl); first | rw [natI_get A hx1] | rw [natI_get A hy1] | rw [natI_get A hz1]) | refine J.lT default hΓ ?_ (hs := st.oF.sl) (hr := rdApp _ RdH.hd.tl.tl.tl.tl.tl.tl) | refine J.lT default hΓ ?_ (hs := hs) (hr := hr _)) | (refine J.o 3 ?_; first | refine J.iJ hΓ ?_ (hs := st.oA.sl) | refine J.iJ hΓ ?_ (hs := st.oF.sl) | refine J.iJ hΓ ?_ (hs := hs)) | (refine J.fc 13 ?_; first | refine J.call0 eMod rfl rfl (fun w hw => mod_any x (natI A).length (by omega) (by omega) w) ?_ | refine J.call0 eMod rfl rfl (fun w hw => mod_any y (natI A).length (by omega) (by omega) w) ?_ | refine J.call0 eMod rfl rfl (fun w hw => mod_any z (natI A).length (by omega) (by omega) w) ?_ | refine J.call0 eMod rfl rfl (fun w hw => mod_any y order.length (by omega) (by omega) w) ?_ | refine J.call0 eMod rfl rfl (fun w hw => mod_any x order.length (by omega) (by omega) w) ?_) | (refine J.fc 16 ?_; refine J.callx eNot rfl rfl (fun w hw => kNot_any st.kn h8 (zipK2_mem st.len hx1) (by omega) hw) ?_; rintro _ _ ⟨s1, y1, rfl, rfl, k1, hle⟩) | (refine J.fc 18 ?_; refine J.callx eAnd rfl rfl (fun w hw => kAnd_any st.kn h8 (zipK2_mem st.len hx1) (zipK2_mem st.len hy1) (by omega) hw) ?_; rintro _ _ ⟨s1, y1, rfl, rfl, k1, hle⟩) | (refine J.fc 20 ?_; refine J.callx eOr rfl rfl (fun w hw => kOr_any st.kn h8 (zipK2_mem st.len hx1) (zipK2_mem st.len hy1) (by omega) hw) ?_; rintro _ _ ⟨s1, y1, rfl, rfl, k1, hle⟩) | (refine J.fc 22 ?_; refine J.callx eXor rfl rfl (fun w hw => kXor_any st.kn h8 (zipK2_mem st.len hx1) (zipK2_mem st.len hy1) (by omega) hw) ?_; rintro _ _ ⟨s1, y1, rfl, rfl, k1, hle⟩) | (refine J.fc 24 ?_; refine J.callx eIf rfl rfl (fun w hw => kIf_any st.kn h8 (zipK2_mem st.len hx1) (zipK2_mem st.len hy1) (zipK2_mem st.len hz1) (by omega) hw) ?_; rintro _ _ ⟨s1, y1, rfl, rfl, k1, hle⟩) | (refine J.fc 26 ?_; refine J.callx eExists rfl rfl (fun w hw => kEx6_any st.kn h6 po (zipK2_mem st.len hx1) _ hvy _ hry (by omega) hw) ?_; rintro _ _ ⟨s1, y1, rfl, rfl, k1, hle⟩) | (refine J.fc 14 ?_; first | (refine J.callx eVarS rfl rfl (fun w hw => Var_any so po x hxr kx hkx (by omega) hw) ?_; rintro _ _ ⟨s1, y1, rfl, rfl, r⟩; have hle := r.1.le; have k1 := st.kn.put r (fun α => rfl)) | (refine J.callx eVarS rfl rfl (fun w hw => Var_any so po _ hvx _ hrx (by omega) hw) ?_; rintro _ _ ⟨s1, y1, rfl, rfl, r⟩; have hle := r.1.le; have k1 := st.kn.put r (fun α => rfl))) | (refine J.fc 17 ?_; refine J.call1 eNot30 rfl rfl (fun w hw => notT_any order.length h8 (vs.getD (modN x (natI A).length) default).g _ _ hI (st.i _ hgx) w (hw.rdH (rdApp _ RdH.hd.tl.tl.tl.tl.tl.tl.tl))) ?_; rintro _ hx ⟨ax, cx, rfl, ox⟩) | (refine J.fc 19 ?_; refine J.call1 eAnd30 rfl rfl (fun w hw => andT_any order.length h8 (vs.getD (modN x (natI A).length) default).g (vs.getD (modN y (natI A).length) default).g _ _ _ _ hI hI (st.i _ hgx) (st.i _ hgy) w ((hw.rdH (rdApp _ RdH.hd.tl.tl.tl.tl.tl.tl.tl)).append (hw.rdH (rdApp _ RdH.hd.tl.tl.tl.tl.tl.tl.tl)))) ?_; rintro _ hx ⟨ax, cx, rfl, ox⟩) | (refine J.fc 21 ?_; refine J.call1 eOr30 rfl rfl (fun w hw => orT_any order.length h8 (vs.getD (modN x (natI A).length) default).g (vs.getD (modN y (natI A).length) default).g _ _ _ _ hI hI (st.i _ hgx) (st.i _ hgy) w ((hw.rdH (rdApp _ RdH.hd.tl.tl.tl.tl.tl.tl.tl)).append (hw.rdH (rdApp _ RdH.hd.tl.tl.tl.tl.tl.tl.tl)))) ?_; rintro _ hx ⟨ax, cx, rfl, ox⟩) | (refine J.fc 23 ?_; refine J.call1 eXor30 rfl rfl (fun w hw => xorT_any order.length h8 (vs.getD (modN x (natI A).length) default).g (vs.getD (modN y (natI A).length) default).g _ _ _ _ hI hI (st.i _ hgx) (st.i _ hgy) w ((hw.rdH (rdApp _ RdH.hd.tl.tl.tl.tl.tl.tl.tl)).append (hw.rdH (rdApp _ RdH.hd.tl.tl.tl.tl.tl.tl.tl)))) ?_; rintro _ hx ⟨ax, cx, rfl, ox⟩) | (refine J.fc 25 ?_; refine J.call1 eIf30 rfl rfl (fun w hw => ifT_any order.length h8 (vs.getD (modN x (natI A).length) default).g (vs.getD (modN y (natI A).length) default).g (vs.getD (modN z (natI A).length) default).g _ _ _ _ _ _ hI hI hI (st.i _ hgx) (st.i _ hgy) (st.i _ hgz) w ((hw.rdH (rdApp _ RdH.hd.tl.tl.tl.tl.tl.tl.tl)).append ((hw.rdH (rdApp _ RdH.hd.tl.tl.tl.tl.tl.tl.tl)).append (hw.rdH (rdApp _ RdH.hd.tl.tl.tl.tl.tl.tl.tl))))) ?_; rintro _ hx ⟨ax, cx, rfl, ox⟩) | (refine J.fc 27 ?_; refine J.call1 eExists30 rfl rfl (fun w hw => exT_any order.length h8 a c _ hmy (vs.getD (modN x (natI A).length) default).g _ _ hI (st.i _ hgx) w (hw.rdH (rdApp _ RdH.hd.tl.tl.tl.tl.tl.tl.tl))) ?_; rintro _ hx ⟨ax, cx, rfl, ox⟩) | (refine J.fc 15 ?_; first | (refine J.call1 eVar30 rfl rfl (fun w hw => varT_any order.length h8 order rfl a c h hs x kx hkx w (hw.rdH (hr _))) ?_; rintro _ hx ⟨_, rfl, ax, cx, rfl, ox⟩) | (refine J.call1 eVar30 rfl rfl (fun w hw => varT_any order.length h8 order rfl a c h hs _ _ hrx w (hw.rdH (hr _))) ?_; rintro _ hx ⟨_, rfl, ax, cx, rfl, ox⟩))) | (first | (refine J.o 0 ?_; refine J.ev' hΓ ?_) | refine J.nil ?_ | (refine J.o 4 ?_; first | refine J.lT default hΓ ?_ | refine J.lR hΓ ?_) | (refine J.o 3 ?_; first | refine J.iJ hΓ ?_ | refine J.ev' hΓ ?_) | (refine J.o 5 ?_; first | refine J.t0 hΓ ?_ | refine J.t1 hΓ ?_) | (refine J.o 6 ?_; refine J.bx (fun _ => ?_)) | (refine J.o 7 ?_; refine J.al hΓ (fun _ => ?_)) | (refine J.o 9 ?_; refine J.bl hΓ (fun _ => ?_)) | (refine J.o 10 ?_; refine J.ev' hΓ ?_) | (refine J.o 11 ?_; refine J.ev' hΓ ?_)))
      | (first | refine JC.seq ?_ | refine JC.region ?_ | refine JC.block ?_ | refine JC.ret ?_ | refine JC.skip ?_ | refine thenK.nn ?_ | refine thenK.r ?_ | refine blockK.nn ?_ | refine JC.condT rfl ?_ | refine JC.condF rfl ?_ | refine drawK.nn ?_)
      | ((first | (refine JC.drawO [(0,0),(1,1),(0,2),(1,3),(0,4),(0,5),(1,6),(2,7),(0,8),(0,9),(0,10),(0,11),(0,12)] (by decide +kernel) (by decide +kernel) ?_) | (refine JC.drawO [(0,0),(1,1),(0,2),(1,3),(0,4),(0,5),(1,6),(0,7),(1,8),(0,9),(0,10),(1,11),(2,12),(0,13),(0,14),(0,15),(0,16),(0,17)] (by decide +kernel) (by decide +kernel) ?_) | (refine JC.drawO [(0,0),(1,1),(0,2),(0,3),(1,4),(0,5),(1,6),(0,7),(0,8),(1,9),(2,10),(0,11)] (by decide +kernel) (by decide +kernel) ?_) | (refine JC.drawO [(0,0),(1,1),(0,2),(1,3),(0,4),(0,5),(1,6),(0,7),(1,8),(0,9),(0,10),(1,11),(0,12),(1,13),(0,14),(0,15),(1,16),(2,17),(0,18),(0,19),(0,20),(0,21),(0,22)] (by decide +kernel) (by decide +kernel) ?_) | (refine JC.drawO [(0,0),(1,1),(0,2),(0,3),(1,4),(0,5),(1,6),(0,7),(0,8),(1,9),(0,10),(1,11),(0,12),(0,13),(1,14),(2,15),(0,16)] (by decide +kernel) (by decide +kernel) ?_) | (refine JC.drawO [(0,0),(1,1),(0,2),(1,3),(0,4),(0,5),(1,6),(0,7),(0,8),(0,9),(1,10),(2,11),(0,12),(0,13),(0,14),(0,15),(0,16)] (by decide +kernel) (by decide +kernel) ?_) | (refine JC.drawW [] [] (by decide +kernel) (by decide +kernel) ?_)))
      | fail
    all_goals first | (exfalso; omega) | skip

    obtain ⟨G, kG, oG, cG⟩ : ∃ G : BF, Kn order.length K s1 ((y1, G) :: zipK2 A vs) ∧ SlT encBo 1 ax (tabF order.length G) hx ∧ 2 ^ order.length ≤ cx := ⟨_, k1, ox.sl, tabF_len order.length _ ▸ own_le ox⟩
    unfold sF
    simp only [List.cons_append, List.nil_append]
    refine J.isJ ?_
    refine J.o 9 ?_
    refine J.perm (bring_perm 11 _) ?_
    refine J.perm br1 ?_
    refine J.ap1 (enc := encI) [(y1 : Int)] hΓ (fun a2 c2 h2 o2 => ?_) (ho := st.oA)
    repeat' first
      | (refine J.isJ ?_; first | ((refine J.o 5 ?_; refine J.perm (bring_perm 10 _) ?_; refine J.t0 hΓ ?_)) | (first | (refine J.o 0 ?_; refine J.ev' hΓ ?_) | refine J.nil ?_ | (refine J.o 4 ?_; first | refine J.lT default hΓ ?_ | refine J.lR hΓ ?_) | (refine J.o 3 ?_; first | refine J.iJ hΓ ?_ | refine J.ev' hΓ ?_) | (refine J.o 5 ?_; first | refine J.t0 hΓ ?_ | refine J.t1 hΓ ?_) | (refine J.o 6 ?_; refine J.bx (fun _ => ?_)) | (refine J.o 7 ?_; refine J.al hΓ (fun _ => ?_)) | (refine J.o 9 ?_; refine J.bl hΓ (fun _ => ?_)) | (refine J.o 10 ?_; refine J.ev' hΓ ?_) | (refine J.o 11 ?_; refine J.ev' hΓ ?_)))
      | (first | refine JC.seq ?_ | refine JC.region ?_ | refine JC.block ?_ | refine JC.ret ?_ | refine JC.skip ?_ | refine thenK.nn ?_ | refine thenK.r ?_ | refine blockK.nn ?_ | refine JC.condT rfl ?_ | refine JC.condF rfl ?_ | refine drawK.nn ?_)
      | (fail)
      | fail
    refine J.isJ ?_
    refine J.o 9 ?_
    refine J.perm (bring_perm 12 _) ?_
    refine J.perm br1 ?_
    refine J.ap1 (enc := encTV order.length) [(⟨ax, cx, G⟩ : TV)] hΓ (fun a3 c3 h3 o3 => ?_) (ho := st.oF)
    repeat' first
      | (refine J.isJ ?_; first | ((refine J.o 5 ?_; first | refine J.t1 hΓ ?_ | (refine J.perm (bring_perm 10 _) ?_; refine J.t0 hΓ ?_))) | (first | (refine J.o 0 ?_; refine J.ev' hΓ ?_) | refine J.nil ?_ | (refine J.o 4 ?_; first | refine J.lT default hΓ ?_ | refine J.lR hΓ ?_) | (refine J.o 3 ?_; first | refine J.iJ hΓ ?_ | refine J.ev' hΓ ?_) | (refine J.o 5 ?_; first | refine J.t0 hΓ ?_ | refine J.t1 hΓ ?_) | (refine J.o 6 ?_; refine J.bx (fun _ => ?_)) | (refine J.o 7 ?_; refine J.al hΓ (fun _ => ?_)) | (refine J.o 9 ?_; refine J.bl hΓ (fun _ => ?_)) | (refine J.o 10 ?_; refine J.ev' hΓ ?_) | (refine J.o 11 ?_; refine J.ev' hΓ ?_)))
      | (first | refine JC.seq ?_ | refine JC.region ?_ | refine JC.block ?_ | refine JC.ret ?_ | refine JC.skip ?_ | refine thenK.nn ?_ | refine thenK.r ?_ | refine blockK.nn ?_ | refine JC.condT rfl ?_ | refine JC.condF rfl ?_ | refine drawK.nn ?_)
      | (fail)
      | fail
    refine retC hΓ rfl rfl rfl Rd.hd rfl (fun w1 hw => ?_)
    have hw2 := (H.sel (l := [_, _, _, _, _, _, _, _, _, _, _, _, _]) (M := L) hw [4, 12, 5, 6, 7, 8, 9, 10, 3, 1]).mg1
    have hw3 := H.sel (l := [_, _, _, _, _, _, _, _, _]) (M := L) hw2 [1, 2, 3, 4, 5, 6, 7, 8, 0]
    have e : natI (A ++ [y1]) = natI A ++ [(y1 : Int)] := by unfold natI; rw [List.map_append]; rfl
    exact ⟨_, _, rfl, hw3, s1, A ++ [y1], vs ++ [⟨ax, cx, G⟩], a2, a3, c2, c3, h2, h3, hx ++ hI, by rw [e]; rfl, rfl, st.next kG (fun α => rfl) o2 o3 oG cG, by simp, by omega⟩

  ·
    refine calls_in Tryz.func7 Tryz.ntmps7 rfl rfl (hw) ?_
    refine JC.seq ?_
    refine JC.region ?_
    refine J.isJ ?_
    refine J.o 6 ?_
    refine J.bx (fun b3 => ?_)
    refine J.isJ ?_
    refine J.o 6 ?_
    refine J.bx (fun b5 => ?_)
    refine J.isJ ?_
    refine J.o 7 ?_
    refine J.al hΓ (fun b6 => ?_)
    refine J.nil ?_
    refine thenK.nn ?_
    refine JC.perm (brC K b0 s _ _ _ hO hP _) ?_
    repeat' first
      | (refine J.isJ ?_; first | (first | (refine J.o 1 ?_; refine J.grem (b := 8) ?_; rw [hκ]) | (refine J.o 4 ?_; first | refine J.lR hΓ ?_ (hr := Rd.app _ Rd.hd.tl.tl) | refine J.lR hΓ ?_ (hr := Rd.app _ Rd.hd.tl.tl.tl) | refine J.lR hΓ ?_ (hr := Rd.app _ Rd.hd.tl.tl.tl.tl) | refine J.lR hΓ ?_ (hr := (Rd.app _ Rd.hd.tl.tl).tl) | refine J.lR hΓ ?_ (hr := (Rd.app _ Rd.hd.tl.tl.tl).tl) | refine J.lR hΓ ?_ (hr := (Rd.app _ Rd.hd.tl.tl.tl.tl).tl) | (refine J.lT default hΓ ?_ (hs := st.oA.sl) (hr := rdApp _ RdH.hd.tl.tl.tl.tl.tl); first | rw [natI_get A hx1] | rw [natI_get A hy1] | rw [natI_get A hz1]) | refine J.lT default hΓ ?_ (hs := st.oF.sl) (hr := rdApp _ RdH.hd.tl.tl.tl.tl.tl.tl) | refine J.lT default hΓ ?_ (hs := hs) (hr := hr _)) | (refine J.o 3 ?_; first | refine J.iJ hΓ ?_ (hs := st.oA.sl) | refine J.iJ hΓ ?_ (hs := st.oF.sl) | refine J.iJ hΓ ?_ (hs := hs)) | (refine J.fc 13 ?_; first | refine J.call0 eMod rfl rfl (fun w hw => mod_any x (natI A).length (by omega) (by omega) w) ?_ | refine J.call0 eMod rfl rfl (fun w hw => mod_any y (natI A).length (by omega) (by omega) w) ?_ | refine J.call0 eMod rfl rfl (fun w hw => mod_any z (natI A).length (by omega) (by omega) w) ?_ | refine J.call0 eMod rfl rfl (fun w hw => mod_any y order.length (by omega) (by omega) w) ?_ | refine J.call0 eMod rfl rfl (fun w hw => mod_any x order.length (by omega) (by omega) w) ?_) | (refine J.fc 16 ?_; refine J.callx eNot rfl rfl (fun w hw => kNot_any st.kn h8 (zipK2_mem st.len hx1) (by omega) hw) ?_; rintro _ _ ⟨s1, y1, rfl, rfl, k1, hle⟩) | (refine J.fc 18 ?_; refine J.callx eAnd rfl rfl (fun w hw => kAnd_any st.kn h8 (zipK2_mem st.len hx1) (zipK2_mem st.len hy1) (by omega) hw) ?_; rintro _ _ ⟨s1, y1, rfl, rfl, k1, hle⟩) | (refine J.fc 20 ?_; refine J.callx eOr rfl rfl (fun w hw => kOr_any st.kn h8 (zipK2_mem st.len hx1) (zipK2_mem st.len hy1) (by omega) hw) ?_; rintro _ _ ⟨s1, y1, rfl, rfl, k1, hle⟩) | (refine J.fc 22 ?_; refine J.callx eXor rfl rfl (fun w hw => kXor_any st.kn h8 (zipK2_mem st.len hx1) (zipK2_mem st.len hy1) (by omega) hw) ?_; rintro _ _ ⟨s1, y1, rfl, rfl, k1, hle⟩) | (refine J.fc 24 ?_; refine J.callx eIf rfl rfl (fun w hw => kIf_any st.kn h8 (zipK2_mem st.len hx1) (zipK2_mem st.len hy1) (zipK2_mem st.len hz1) (by omega) hw) ?_; rintro _ _ ⟨s1, y1, rfl, rfl, k1, hle⟩) | (refine J.fc 26 ?_; refine J.callx eExists rfl rfl (fun w hw => kEx6_any st.kn h6 po (zipK2_mem st.len hx1) _ hvy _ hry (by omega) hw) ?_; rintro _ _ ⟨s1, y1, rfl, rfl, k1, hle⟩) | (refine J.fc 14 ?_; first | (refine J.callx eVarS rfl rfl (fun w hw => Var_any so po x hxr kx hkx (by omega) hw) ?_; rintro _ _ ⟨s1, y1, rfl, rfl, r⟩; have hle := r.1.le; have k1 := st.kn.put r (fun α => rfl)) | (refine J.callx eVarS rfl rfl (fun w hw => Var_any so po _ hvx _ hrx (by omega) hw) ?_; rintro _ _ ⟨s1, y1, rfl, rfl, r⟩; have hle := r.1.le; have k1 := st.kn.put r (fun α => rfl))) | (refine J.fc 17 ?_; refine J.call1 eNot30 rfl rfl (fun w hw => notT_any order.length h8 (vs.getD (modN x (natI A).length) default).g _ _ hI (st.i _ hgx) w (hw.rdH (rdApp _ RdH.hd.tl.tl.tl.tl.tl.tl.tl))) ?_; rintro _ hx ⟨ax, cx, rfl, ox⟩) | (refine J.fc 19 ?_; refine J.call1 eAnd30 rfl rfl (fun w hw => andT_any order.length h8 (vs.getD (modN x (natI A).length) default).g (vs.getD (modN y (natI A).length) default).g _ _ _ _ hI hI (st.i _ hgx) (st.i _ hgy) w ((hw.rdH (rdApp _ RdH.hd.tl.tl.tl.tl.tl.tl.tl)).append (hw.rdH (rdApp _ RdH.hd.tl.tl.tl.tl.tl.tl.tl)))) ?_; rintro _ hx ⟨ax, cx, rfl, ox⟩) | (refine J.fc 21 ?_; refine J.call1 eOr30 rfl rfl (fun w hw => orT_any order.length h8 (vs.getD (modN x (natI A).length) default).g (vs.getD (modN y (natI A).length) default).g _ _ _ _ hI hI (st.i _ hgx) (st.i _ hgy) w ((hw.rdH (rdApp _ RdH.hd.tl.tl.tl.tl.tl.tl.tl)).append (hw.rdH (rdApp _ RdH.hd.tl.tl.tl.tl.tl.tl.tl)))) ?_; rintro _ hx ⟨ax, cx, rfl, ox⟩) | (refine J.fc 23 ?_; refine J.call1 eXor30 rfl rfl (fun w hw => xorT_any order.length h8 (vs.getD (modN x (natI A).length) default).g (vs.getD (modN y (natI A).length) default).g _ _ _ _ hI hI (st.i _ hgx) (st.i _ hgy) w ((hw.rdH (rdApp _ RdH.hd.tl.tl.tl.tl.tl.tl.tl)).append (hw.rdH (rdApp _ RdH.hd.tl.tl.tl.tl.tl.tl.tl)))) ?_; rintro _ hx ⟨ax, cx, rfl, ox⟩) | (refine J.fc 25 ?_; refine J.call1 eIf30 rfl rfl (fun w hw => ifT_any order.length h8 (vs.getD (modN x (natI A).length) default).g (vs.getD (modN y (natI A).length) default).g (vs.getD (modN z (natI A).length) default).g _ _ _ _ _ _ hI hI hI (st.i _ hgx) (st.i _ hgy) (st.i _ hgz) w ((hw.rdH (rdApp _ RdH.hd.tl.tl.tl.tl.tl.tl.tl)).append ((hw.rdH (rdApp _ RdH.hd.tl.tl.tl.tl.tl.tl.tl)).append (hw.rdH (rdApp _ RdH.hd.tl.tl.tl.tl.tl.tl.tl))))) ?_; rintro _ hx ⟨ax, cx, rfl, ox⟩) | (refine J.fc 27 ?_; refine J.call1 eExists30 rfl rfl (fun w hw => exT_any order.length h8 a c _ hmy (vs.getD (modN x (natI A).length) default).g _ _ hI (st.i _ hgx) w (hw.rdH (rdApp _ RdH.hd.tl.tl.tl.tl.tl.tl.tl))) ?_; rintro _ hx ⟨ax, cx, rfl, ox⟩) | (refine J.fc 15 ?_; first | (refine J.call1 eVar30 rfl rfl (fun w hw => varT_any order.length h8 order rfl a c h hs x kx hkx w (hw.rdH (hr _))) ?_; rintro _ hx ⟨_, rfl, ax, cx, rfl, ox⟩) | (refine J.call1 eVar30 rfl rfl (fun w hw => varT_any order.length h8 order rfl a c h hs _ _ hrx w (hw.rdH (hr _))) ?_; rintro _ hx ⟨_, rfl, ax, cx, rfl, ox⟩))) | (first | (refine J.o 0 ?_; refine J.ev' hΓ ?_) | refine J.nil ?_ | (refine J.o 4 ?_; first | refine J.lT default hΓ ?_ | refine J.lR hΓ ?_) | (refine J.o 3 ?_; first | refine J.iJ hΓ ?_ | refine J.ev' hΓ ?_) | (refine J.o 5 ?_; first | refine J.t0 hΓ ?_ | refine J.t1 hΓ ?_) | (refine J.o 6 ?_; refine J.bx (fun _ => ?_)) | (refine J.o 7 ?_; refine J.al hΓ (fun _ => ?_)) | (refine J.o 9 ?_; refine J.bl hΓ (fun _ => ?_)) | (refine J.o 10 ?_; refine J.ev' hΓ ?_) | (refine J.o 11 ?_; refine J.ev' hΓ ?_)))
      | (first | refine JC.seq ?_ | refine JC.region ?_ | refine JC.block ?_ | refine JC.ret ?_ | refine JC.skip ?_ | refine thenK.nn ?_ | refine thenK.r ?_ | refine blockK.nn ?_ | refine JC.condT rfl ?_ | refine JC.condF rfl ?_ | refine drawK.nn ?_)
      | ((first | (refine JC.drawO [(0,0),(1,1),(0,2),(1,3),(0,4),(0,5),(1,6),(2,7),(0,8),(0,9),(0,10),(0,11),(0,12)] (by decide +kernel) (by decide +kernel) ?_) | (refine JC.drawO [(0,0),(1,1),(0,2),(1,3),(0,4),(0,5),(1,6),(0,7),(1,8),(0,9),(0,10),(1,11),(2,12),(0,13),(0,14),(0,15),(0,16),(0,17)] (by decide +kernel) (by decide +kernel) ?_) | (refine JC.drawO [(0,0),(1,1),(0,2),(0,3),(1,4),(0,5),(1,6),(0,7),(0,8),(1,9),(2,10),(0,11)] (by decide +kernel) (by decide +kernel) ?_) | (refine JC.drawO [(0,0),(1,1),(0,2),(1,3),(0,4),(0,5),(1,6),(0,7),(1,8),(0,9),(0,10),(1,11),(0,12),(1,13),(0,14),(0,15),(1,16),(2,17),(0,18),(0,19),(0,20),(0,21),(0,22)] (by decide +kernel) (by decide +kernel) ?_) | (refine JC.drawO [(0,0),(1,1),(0,2),(0,3),(1,4),(0,5),(1,6),(0,7),(0,8),(1,9),(0,10),(1,11),(0,12),(0,13),(1,14),(2,15),(0,16)] (by decide +kernel) (by decide +kernel) ?_) | (refine JC.drawO [(0,0),(1,1),(0,2),(1,3),(0,4),(0,5),(1,6),(0,7),(0,8),(0,9),(1,10),(2,11),(0,12),(0,13),(0,14),(0,15),(0,16)] (by decide +kernel) (by decide +kernel) ?_) | (refine JC.drawW [] [] (by decide +kernel) (by decide +kernel) ?_)))
      | fail
    all_goals first | (exfalso; omega) | skip

    obtain ⟨G, kG, oG, cG⟩ : ∃ G : BF, Kn order.length K s1 ((y1, G) :: zipK2 A vs) ∧ SlT encBo 1 ax (tabF order.length G) hx ∧ 2 ^ order.length ≤ cx := ⟨_, k1, ox.sl, tabF_len order.length _ ▸ own_le ox⟩
    unfold sF
    simp only [List.cons_append, List.nil_append]
    refine J.isJ ?_
    refine J.o 9 ?_
    refine J.perm (bring_perm 11 _) ?_
    refine J.perm br1 ?_
    refine J.ap1 (enc := encI) [(y1 : Int)] hΓ (fun a2 c2 h2 o2 => ?_) (ho := st.oA)
    repeat' first
      | (refine J.isJ ?_; first | ((refine J.o 5 ?_; refine J.perm (bring_perm 10 _) ?_; refine J.t0 hΓ ?_)) | (first | (refine J.o 0 ?_; refine J.ev' hΓ ?_) | refine J.nil ?_ | (refine J.o 4 ?_; first | refine J.lT default hΓ ?_ | refine J.lR hΓ ?_) | (refine J.o 3 ?_; first | refine J.iJ hΓ ?_ | refine J.ev' hΓ ?_) | (refine J.o 5 ?_; first | refine J.t0 hΓ ?_ | refine J.t1 hΓ ?_) | (refine J.o 6 ?_; refine J.bx (fun _ => ?_)) | (refine J.o 7 ?_; refine J.al hΓ (fun _ => ?_)) | (refine J.o 9 ?_; refine J.bl hΓ (fun _ => ?_)) | (refine J.o 10 ?_; refine J.ev' hΓ ?_) | (refine J.o 11 ?_; refine J.ev' hΓ ?_)))
      | (first | refine JC.seq ?_ | refine JC.region ?_ | refine JC.block ?_ | refine JC.ret ?_ | refine JC.skip ?_ | refine thenK.nn ?_ | refine thenK.r ?_ | refine blockK.nn ?_ | refine JC.condT rfl ?_ | refine JC.condF rfl ?_ | refine drawK.nn ?_)
      | (fail)
      | fail
    refine J.isJ ?_
    refine J.o 9 ?_
    refine J.perm (bring_perm 12 _) ?_
    refine J.perm br1 ?_
    refine J.ap1 (enc := encTV order.length) [(⟨ax, cx, G⟩ : TV)] hΓ (fun a3 c3 h3 o3 => ?_) (ho := st.oF)
    repeat' first
      | (refine J.isJ ?_; first | ((refine J.o 5 ?_; first | refine J.t1 hΓ ?_ | (refine J.perm (bring_perm 10 _) ?_; refine J.t0 hΓ ?_))) | (first | (refine J.o 0 ?_; refine J.ev' hΓ ?_) | refine J.nil ?_ | (refine J.o 4 ?_; first | refine J.lT default hΓ ?_ | refine J.lR hΓ ?_) | (refine J.o 3 ?_; first | refine J.iJ hΓ ?_ | refine J.ev' hΓ ?_) | (refine J.o 5 ?_; first | refine J.t0 hΓ ?_ | refine J.t1 hΓ ?_) | (refine J.o 6 ?_; refine J.bx (fun _ => ?_)) | (refine J.o 7 ?_; refine J.al hΓ (fun _ => ?_)) | (refine J.o 9 ?_; refine J.bl hΓ (fun _ => ?_)) | (refine J.o 10 ?_; refine J.ev' hΓ ?_) | (refine J.o 11 ?_; refine J.ev' hΓ ?_)))
      | (first | refine JC.seq ?_ | refine JC.region ?_ | refine JC.block ?_ | refine JC.ret ?_ | refine JC.skip ?_ | refine thenK.nn ?_ | refine thenK.r ?_ | refine blockK.nn ?_ | refine JC.condT rfl ?_ | refine JC.condF rfl ?_ | refine drawK.nn ?_)
      | (fail)
      | fail
    refine retC hΓ rfl rfl rfl Rd.hd rfl (fun w1 hw => ?_)
    have hw2 := (H.sel (l := [_, _, _, _, _, _, _, _, _, _, _, _, _]) (M := L) hw [4, 12, 5, 6, 7, 8, 9, 10, 3, 1]).mg1
    have hw3 := H.sel (l := [_, _, _, _, _, _, _, _, _]) (M := L) hw2 [1, 2, 3, 4, 5, 6, 7, 8, 0]
    have e : natI (A ++ [y1]) = natI A ++ [(y1 : Int)] := by unfold natI; rw [List.map_append]; rfl
    exact ⟨_, _, rfl, hw3, s1, A ++ [y1], vs ++ [⟨ax, cx, G⟩], a2, a3, c2, c3, h2, h3, hx ++ hI, by rw [e]; rfl, rfl, st.next kG (fun α => rfl) o2 o3 oG cG, by simp, by omega⟩
end Go.Proofs.YthnhijdfcmcnhaaGreat
namespace Go.Proofs.YthnhijdfcmcnhaaGreat
open Go Go.Cx Go.RowKit
set_option linter.unusedVariables false
set_option linter.unusedSimpArgs false
set_option maxHeartbeats 4000000
attribute [local irreducible] J JC thenK blockK loopK drawK retK QW Qt pel List.set Calls
open Go.Maps Go.Lib
set_option maxRecDepth 8000
attribute [local irreducible] JE Br eK0 eK3 brK pc
theorem eBegin : Entr Tryz.prog 6 := Entr.of Tryz.func6 rfl rfl
theorem begin_any (l : List Int) (a : Option Addr) (c : Nat) (h : Heap) (hs : SlT encI 1 a l h) (ho : okOrd l) (h8 : l.length ≤ 8) {w0 w : World} {R : Heap} {L : List Heap} (hr : ∀ M, RdH R M h) (hw : H w0 R L w) :
    Calls Tryz.prog 6 #[.slice a l.length c] w fun e w' => ∃ v L', e = .returned v ∧ H w0 R L' w' ∧ ∃ b0 K s A vs aA aF cA cF hO hP hA hF hI, v = runV b0 aA (natI A).length cA aF vs.length cF false ∧ L' = sF K b0 s ++ (hO :: hP :: hA :: hF :: hI :: L) ∧ POk K l hO hP ∧ RunS l.length K s A vs aA aF cA cF hA hF hI ∧ A.length = 2 ∧ s.ns.length = 2 := by
  refine calls_in Tryz.func6 Tryz.ntmps6 rfl rfl (hw) ?_
  repeat' first
    | (refine J.isJ ?_; first | (first | (refine J.o 7 ?_; refine J.al hΓ (fun b2 => ?_)) | (refine J.fc 11 ?_; refine J.callx eNew rfl rfl (fun w hw => new_any l a c h hs ho (hr _) hw) ?_; rintro _ _ ⟨b0, K, s, hO, hP, rfl, rfl, so, hns, po⟩; have hlen : s.ns.length = 2 := (by rw [hns]; rfl)) | (refine J.o 11 ?_; refine J.pN hΓ ?_) | (refine J.fc 12 ?_; first | (refine J.call1 eConst rfl rfl (fun w hw => constT_any l.length h8 false w) ?_; rintro _ h1 ⟨a1, c1, rfl, o1⟩) | (refine J.call1 eConst rfl rfl (fun w hw => constT_any l.length h8 true w) ?_; rintro _ h2 ⟨a2, c2, rfl, o2⟩)) | (refine J.o 9 ?_; first | refine J.bl (e := 3) hΓ (fun bA => ?_) | refine J.bl (e := 41) hΓ (fun bF => ?_)) | (refine J.o 5 ?_; unfold sF; simp only [List.cons_append, List.nil_append]; refine J.perm (bring_perm 10 _) ?_; refine J.t0 hΓ ?_)) | (first | (refine J.o 0 ?_; refine J.ev' hΓ ?_) | refine J.nil ?_ | (refine J.o 3 ?_; first | refine J.ev' hΓ ?_) | (refine J.o 5 ?_; first | refine J.t0 hΓ ?_) | (refine J.o 7 ?_; refine J.al hΓ (fun _ => ?_)) | (refine J.o 8 ?_; refine J.bd hΓ ?_) | (refine J.o 9 ?_; refine J.bl hΓ (fun _ => ?_)) | (refine J.o 10 ?_; refine J.ev' hΓ ?_) | (refine J.o 11 ?_; refine J.ev' hΓ ?_)))
    | (first | refine JC.seq ?_ | refine JC.region ?_ | refine JC.ret ?_ | refine thenK.nn ?_)
    | (fail)
    | fail
  all_goals first | (exfalso; omega) | skip
  have oA : OwT encI 1 3 (some ⟨bA, 0, none⟩) 2 (natI [0, 1]) [(bA, .cells ⟨[.int .i64 0, .int .i64 1]⟩ 3 (0, 0))] := ⟨fun _ => rfl, .inr ⟨bA, _, rfl, rfl, rfl, Nat.le_refl _, rfl⟩⟩
  have oF : OwT (encTV l.length) 1 41 (some ⟨bF, 0, none⟩) 2 [⟨a1, c1, fun _ => false⟩, ⟨a2, c2, fun _ => true⟩] [(bF, .cells ⟨[.slice a1 (2 ^ l.length) c1, .slice a2 (2 ^ l.length) c2]⟩ 41 (0, 0))] := ⟨fun _ => rfl, .inr ⟨bF, _, rfl, rfl, rfl, Nat.le_refl _, rfl⟩⟩
  have st : RunS l.length K s [0, 1] [⟨a1, c1, fun _ => false⟩, ⟨a2, c2, fun _ => true⟩] (some ⟨bA, 0, none⟩) (some ⟨bF, 0, none⟩) 2 2 _ _ (h2 ++ h1) := ⟨rfl, Nat.le_refl _, Kn.start so, oA, oF, fun v hv => by
    rcases List.mem_cons.1 hv with rfl | hv
    · exact o1.sl.sub fun x hx => List.mem_append_right _ hx
    · rw [List.mem_singleton.1 hv]; exact o2.sl.sub fun x hx => List.mem_append_left _ hx, fun v hv => by
    rcases List.mem_cons.1 hv with rfl | hv
    · have := own_le o1; rwa [tabF_len] at this
    · rw [List.mem_singleton.1 hv]; have := own_le o2; rwa [tabF_len] at this⟩
  refine retC hΓ rfl rfl rfl Rd.hd rfl (fun w1 hw => ?_)
  have hw2 := (H.sel (l := [_, _, _, _, _, _, _, _, _, _, _]) (M := L) hw [2, 3, 5, 6, 7, 8, 9, 10, 4, 1]).mg1
  have hw3 := H.sel (l := [_, _, _, _, _, _, _, _, _]) (M := L) hw2 [1, 2, 3, 4, 5, 6, 7, 8, 0]
  exact ⟨_, _, rfl, hw3, b0, K, s, [0, 1], _, _, _, _, _, hO, hP, _, _, _, rfl, rfl, po, st, rfl, hlen⟩
theorem eLight : Entr Tryz.prog 4 := Entr.of Tryz.func4 rfl rfl
theorem light_any (l : List Int) (a aL : Option Addr) (c m cL : Nat) (h : Heap) (hs : SlT encI 1 a l h) (w : World) (hw1 : Holds h w) :
    Calls Tryz.prog 4 #[.agg ⟨[.slice a l.length c, .slice aL m cL]⟩] w fun e w' => e = .returned (.bool (decide (0 < l.length ∧ l.length ≤ 6 ∧ m ≤ 30 ∧ okOrd l))) ∧ Below w.heap.size w w' := by
  have q0 : ∀ L, RdH h L h := fun L => RdH.old fun _ hh => hh
  by_cases h6 : l.length ≤ 6
  ·
    have cO := fun w hw => ord30_any a c l h hs (by omega) w hw
    refine calls_of_JC (R := h) Tryz.func4 Tryz.ntmps4 rfl rfl (hw1) ?_
    repeat' first
      | (refine J.isJ ?_; first | ((refine J.fc 9 ?_; refine J.call0 eOrd30 rfl rfl (fun w hw => cO w (hw.rdH (q0 _))) ?_)) | (first | (refine J.o 0 ?_; refine J.ev' hΓ ?_) | refine J.nil ?_ | refine J.kd ?_ | (refine J.o 4 ?_; first | refine J.lR hΓ ?_) | (refine J.o 3 ?_; first | refine J.ev' hΓ ?_) | (refine J.o 6 ?_; refine J.bx (fun _ => ?_)) | (refine J.o 10 ?_; refine J.ev' hΓ ?_) | (refine J.o 11 ?_; refine J.ev' hΓ ?_)) | ((fail_if_success refine J.wt ?_); refine J.gc rfl rfl (fun hc => ?_) (fun hc => ?_) <;> ((try simp only [decide_eq_true_eq, decide_eq_false_iff_not, beq_iff_eq, beq_eq_false_iff_ne, bne_iff_ne, bne_eq_false_iff_eq, Bool.not_eq_true', Bool.not_eq_false', Bool.not_eq_true, Bool.not_eq_false] at hc) <;> first | (first | (exact absurd rfl hc) | (exfalso; omega) | (exact absurd (hc.symm.trans (by assumption : _ = false)) (by decide)) | (exact absurd (hc.symm.trans (by assumption : _ = true)) (by decide))) | skip)))
      | (first | refine JC.seq ?_ | refine JC.region ?_ | refine JC.ret ?_ | refine thenK.nn ?_)
      | (fail)
      | fail
    all_goals first | (exfalso; omega) | skip
    all_goals (refine ret1f rfl rfl rfl (fun w1 hw => ⟨?_, hw.below⟩))
    all_goals first | (rw [decide_eq_false (show ¬ (0 < l.length ∧ l.length ≤ 6 ∧ m ≤ 30 ∧ okOrd l) from fun g => by omega)]; done) | (rw [decide_eq_decide.2 (show okOrd l ↔ (0 < l.length ∧ l.length ≤ 6 ∧ m ≤ 30 ∧ okOrd l) from ⟨fun g => ⟨by omega, by omega, by omega, g⟩, fun g => g.2.2.2⟩)])
  ·
    rw [decide_eq_false (fun g => h6 g.2.1)]
    refine calls_of_JC (R := h) Tryz.func4 Tryz.ntmps4 rfl rfl (hw1) ?_
    repeat' first
      | (refine J.isJ ?_; first | (fail) | (first | (refine J.o 0 ?_; refine J.ev' hΓ ?_) | refine J.nil ?_ | refine J.kd ?_ | (refine J.o 4 ?_; first | refine J.lR hΓ ?_) | (refine J.o 3 ?_; first | refine J.ev' hΓ ?_) | (refine J.o 6 ?_; refine J.bx (fun _ => ?_)) | (refine J.o 10 ?_; refine J.ev' hΓ ?_) | (refine J.o 11 ?_; refine J.ev' hΓ ?_)) | ((fail_if_success refine J.wt ?_); refine J.gc rfl rfl (fun hc => ?_) (fun hc => ?_) <;> ((try simp only [decide_eq_true_eq, decide_eq_false_iff_not, beq_iff_eq, beq_eq_false_iff_ne, bne_iff_ne, bne_eq_false_iff_eq, Bool.not_eq_true', Bool.not_eq_false', Bool.not_eq_true, Bool.not_eq_false] at hc) <;> first | (first | (exact absurd rfl hc) | (exfalso; omega) | (exact absurd (hc.symm.trans (by assumption : _ = false)) (by decide)) | (exact absurd (hc.symm.trans (by assumption : _ = true)) (by decide))) | skip)))
      | (first | refine JC.seq ?_ | refine JC.region ?_ | refine JC.ret ?_ | refine thenK.nn ?_)
      | (fail)
      | fail
    all_goals first | (exfalso; omega) | skip
    all_goals (refine ret1f rfl rfl rfl (fun w1 hw => ⟨rfl, hw.below⟩))
def idxQ (b : Nat → Bool) (n : Nat) : Nat → Nat
  | 0 => 0
  | k + 1 => idxQ b n k + (if b k then 2 ^ (n - 1 - k) else 0)
theorem idxQ_ok (b : Nat → Bool) (n : Nat) : ∀ k, k ≤ n → idxQ b n k < 2 ^ n ∧ ∀ j, j < n → (idxQ b n k).testBit (n - 1 - j) = (decide (j < k) && b j)
  | 0, _ => ⟨Nat.two_pow_pos n, fun j hj => by simp [idxQ]⟩
  | k + 1, hk => by
    obtain ⟨h1, h2⟩ := idxQ_ok b n k (by omega)
    have hz : idxQ b n k &&& 2 ^ (n - 1 - k) = 0 := by
      have := and_bit (idxQ b n k) (n - 1 - k)
      rw [h2 k (by omega)] at this
      simpa using this
    have e : idxQ b n (k + 1) = gi (n - 1 - k) (b k) (idxQ b n k) := by unfold gi; rw [hz]; rfl
    rw [e]
    refine ⟨gi_lt (by omega) _ h1, fun j hj => ?_⟩
    rw [gi_bit]
    by_cases hjk : j = k
    · subst hjk; rw [if_pos rfl]; simp
    · rw [if_neg (by omega), h2 j hj]
      have : decide (j < k) = decide (j < k + 1) := decide_eq_decide.2 (by omega)
      rw [this]
end Go.Proofs.YthnhijdfcmcnhaaGreat
namespace Go.Proofs.YthnhijdfcmcnhaaGreat
open Go Go.Cx Go.RowKit
set_option linter.unusedVariables false
set_option linter.unusedSimpArgs false
set_option maxHeartbeats 4000000
attribute [local irreducible] J JC thenK blockK loopK drawK retK QW Qt pel List.set Calls
open Go.Maps Go.Lib
set_option maxRecDepth 8000
attribute [local irreducible] JE Br eK0 eK3 brK pc
theorem eSame : Entr Tryz.prog 63 := Entr.of Tryz.func63 rfl rfl
theorem list_eq {f g : List Bool} (hl : f.length = g.length) (h : ∀ j, j < f.length → f.getD j default = g.getD j default) : f = g := by
  refine List.ext_getElem hl fun i h1 h2 => ?_
  have := h i h1
  rw [List.getD_eq_getElem?_getD, List.getD_eq_getElem?_getD, List.getElem?_eq_getElem h1, List.getElem?_eq_getElem h2] at this
  exact this
theorem same_any (f g : List Bool) (af ag : Option Addr) (cf cg : Nat) (h : Heap) (sf : SlT encBo 1 af f h) (sg : SlT encBo 1 ag g h) (hl : f.length ≤ 100000) (hl2 : g.length ≤ 100000) (w : World) (hw1 : Holds h w) :
    Calls Tryz.prog 63 #[.slice af f.length cf, .slice ag g.length cg] w fun e w' => e = .returned (.bool (decide (f = g))) ∧ Below w.heap.size w w' := by
  have q0 : ∀ L, RdH h L h := fun L => RdH.old fun _ hh => hh
  refine calls_of_JC (R := h) Tryz.func63 Tryz.ntmps63 rfl rfl (hw1) ?_
  repeat' first
    | (refine J.isJ ?_; first | (fail) | (first | (refine J.o 0 ?_; refine J.ev' hΓ ?_) | refine J.nil ?_ | refine J.kd ?_ | (refine J.o 4 ?_; first | refine J.lT default hΓ ?_) | (refine J.o 3 ?_; first | refine J.iJ hΓ ?_ | refine J.ev' hΓ ?_) | (refine J.o 1 ?_; first | refine J.ad ?_) | (refine J.o 10 ?_; refine J.ev' hΓ ?_) | (refine J.o 11 ?_; refine J.ev' hΓ ?_)) | ((fail_if_success refine J.wt ?_); refine J.gc rfl rfl (fun hc => ?_) (fun hc => ?_) <;> ((try simp only [decide_eq_true_eq, decide_eq_false_iff_not, beq_iff_eq, beq_eq_false_iff_ne, bne_iff_ne, bne_eq_false_iff_eq, Bool.not_eq_true', Bool.not_eq_false', Bool.not_eq_true, Bool.not_eq_false] at hc) <;> first | (first | (exact absurd rfl hc) | (exfalso; omega) | (exact absurd (hc.symm.trans (by assumption : _ = false)) (by decide)) | (exact absurd (hc.symm.trans (by assumption : _ = true)) (by decide))) | skip)))
    | (first | refine JC.seq ?_ | refine JC.region ?_ | refine JC.block ?_ | refine JC.ret ?_ | refine JC.exit ?_ | refine JC.skip ?_ | refine thenK.nn ?_ | refine thenK.r ?_ | refine thenK.x ?_ | refine blockK.nn ?_ | refine blockK.r ?_ | refine blockK.hit rfl ?_ | refine JC.condT rfl ?_ | refine JC.condF rfl ?_ | (refine JC.cond rfl (fun hc => ?_) (fun hc => ?_) <;> ((try simp only [decide_eq_true_eq, decide_eq_false_iff_not, beq_iff_eq, beq_eq_false_iff_ne, bne_iff_ne, bne_eq_false_iff_eq, Bool.not_eq_true', Bool.not_eq_false', Bool.not_eq_true, Bool.not_eq_false] at hc) <;> first | (first | (exact absurd rfl hc) | (exfalso; omega) | (exact absurd (hc.symm.trans (by assumption : _ = false)) (by decide)) | (exact absurd (hc.symm.trans (by assumption : _ = true)) (by decide))) | skip)) | refine drawK.nn ?_ | refine loopK.r ?_ | refine loopK.x ?_)
    | (fail)
    | fail
  all_goals first | (exfalso; omega) | skip
  refine JC.loop (fun i => i == 5 || Nat.ble 6 i) (fun m gg L => ∃ q : Nat, gg 5 = .int .i64 (q : Int) ∧ q + m = min f.length g.length ∧ (∀ j, j < q → f.getD j default = g.getD j default) ∧ L = []) (min f.length g.length) ⟨0, rfl, by omega, fun j hj => absurd hj (Nat.not_lt_zero _), rfl⟩ ?_
  rintro m gg L ⟨q, e5, hqm, heq, rfl⟩
  refine JC.pin 5 e5 ?_
  rcases Nat.lt_or_ge q (min f.length g.length) with hlt | hge
  ·
    by_cases hq : f.getD q default = g.getD q default
    ·
      obtain ⟨bv, hbv⟩ : ∃ bv, f.getD q default = bv := ⟨_, rfl⟩
      have hbv2 := hbv
      rw [hq] at hbv2
      cases bv
      all_goals
        repeat' first
          | (refine J.isJ ?_; first | (first | (refine J.o 3 ?_; first | refine J.iJ hΓ ?_ (hs := sf) | refine J.iJ hΓ ?_ (hs := sg)) | (refine J.o 4 ?_; first | (refine J.lT default hΓ ?_ (hs := sf) (hr := q0 _); rw [hbv]) | (refine J.lT default hΓ ?_ (hs := sg) (hr := q0 _); rw [hbv2]))) | (first | (refine J.o 0 ?_; refine J.ev' hΓ ?_) | refine J.nil ?_ | refine J.kd ?_ | (refine J.o 4 ?_; first | refine J.lT default hΓ ?_) | (refine J.o 3 ?_; first | refine J.iJ hΓ ?_ | refine J.ev' hΓ ?_) | (refine J.o 1 ?_; first | refine J.ad ?_) | (refine J.o 10 ?_; refine J.ev' hΓ ?_) | (refine J.o 11 ?_; refine J.ev' hΓ ?_)) | ((fail_if_success refine J.wt ?_); refine J.gc rfl rfl (fun hc => ?_) (fun hc => ?_) <;> ((try simp only [decide_eq_true_eq, decide_eq_false_iff_not, beq_iff_eq, beq_eq_false_iff_ne, bne_iff_ne, bne_eq_false_iff_eq, Bool.not_eq_true', Bool.not_eq_false', Bool.not_eq_true, Bool.not_eq_false] at hc) <;> first | (first | (exact absurd rfl hc) | (exfalso; omega) | (exact absurd (hc.symm.trans (by assumption : _ = false)) (by decide)) | (exact absurd (hc.symm.trans (by assumption : _ = true)) (by decide))) | skip)))
          | (first | refine JC.seq ?_ | refine JC.region ?_ | refine JC.block ?_ | refine JC.ret ?_ | refine JC.exit ?_ | refine JC.skip ?_ | refine thenK.nn ?_ | refine thenK.r ?_ | refine thenK.x ?_ | refine blockK.nn ?_ | refine blockK.r ?_ | refine blockK.hit rfl ?_ | refine JC.condT rfl ?_ | refine JC.condF rfl ?_ | (refine JC.cond rfl (fun hc => ?_) (fun hc => ?_) <;> ((try simp only [decide_eq_true_eq, decide_eq_false_iff_not, beq_iff_eq, beq_eq_false_iff_ne, bne_iff_ne, bne_eq_false_iff_eq, Bool.not_eq_true', Bool.not_eq_false', Bool.not_eq_true, Bool.not_eq_false] at hc) <;> first | (first | (exact absurd rfl hc) | (exfalso; omega) | (exact absurd (hc.symm.trans (by assumption : _ = false)) (by decide)) | (exact absurd (hc.symm.trans (by assumption : _ = true)) (by decide))) | skip)) | refine drawK.nn ?_ | refine loopK.r ?_ | refine loopK.x ?_)
          | ((refine JC.drawW [] [] (by kernel_rfl) (by kernel_rfl) ?_))
          | fail
        all_goals first | (exfalso; omega) | skip
        refine loopK.nn (m - 1) (by omega) (by repeat (first | refine Ag.upd rfl ?_ | exact Ag.hv)) ⟨q + 1, ?_, by omega, fun j hj => ?_, rfl⟩
        · show Value.int .i64 _ = _; congr 1
        · rcases Nat.lt_or_ge j q with g1 | g1
          · exact heq j g1
          · obtain rfl : j = q := by omega
            exact hq
    ·
      have hne : f ≠ g := fun e => hq (by rw [e])
      rw [decide_eq_false hne]
      obtain ⟨bv, hbv⟩ : ∃ bv, f.getD q default = bv := ⟨_, rfl⟩
      have hbv2 : g.getD q default = !bv := by rw [hbv] at hq; cases bv <;> cases hg : g.getD q default <;> simp_all
      cases bv
      all_goals
        repeat' first
          | (refine J.isJ ?_; first | (first | (refine J.o 3 ?_; first | refine J.iJ hΓ ?_ (hs := sf) | refine J.iJ hΓ ?_ (hs := sg)) | (refine J.o 4 ?_; first | (refine J.lT default hΓ ?_ (hs := sf) (hr := q0 _); rw [hbv]) | (refine J.lT default hΓ ?_ (hs := sg) (hr := q0 _); rw [hbv2]))) | (first | (refine J.o 0 ?_; refine J.ev' hΓ ?_) | refine J.nil ?_ | refine J.kd ?_ | (refine J.o 4 ?_; first | refine J.lT default hΓ ?_) | (refine J.o 3 ?_; first | refine J.iJ hΓ ?_ | refine J.ev' hΓ ?_) | (refine J.o 1 ?_; first | refine J.ad ?_) | (refine J.o 10 ?_; refine J.ev' hΓ ?_) | (refine J.o 11 ?_; refine J.ev' hΓ ?_)) | ((fail_if_success refine J.wt ?_); refine J.gc rfl rfl (fun hc => ?_) (fun hc => ?_) <;> ((try simp only [decide_eq_true_eq, decide_eq_false_iff_not, beq_iff_eq, beq_eq_false_iff_ne, bne_iff_ne, bne_eq_false_iff_eq, Bool.not_eq_true', Bool.not_eq_false', Bool.not_eq_true, Bool.not_eq_false] at hc) <;> first | (first | (exact absurd rfl hc) | (exfalso; omega) | (exact absurd (hc.symm.trans (by assumption : _ = false)) (by decide)) | (exact absurd (hc.symm.trans (by assumption : _ = true)) (by decide))) | skip)))
          | (first | refine JC.seq ?_ | refine JC.region ?_ | refine JC.block ?_ | refine JC.ret ?_ | refine JC.exit ?_ | refine JC.skip ?_ | refine thenK.nn ?_ | refine thenK.r ?_ | refine thenK.x ?_ | refine blockK.nn ?_ | refine blockK.r ?_ | refine blockK.hit rfl ?_ | refine JC.condT rfl ?_ | refine JC.condF rfl ?_ | (refine JC.cond rfl (fun hc => ?_) (fun hc => ?_) <;> ((try simp only [decide_eq_true_eq, decide_eq_false_iff_not, beq_iff_eq, beq_eq_false_iff_ne, bne_iff_ne, bne_eq_false_iff_eq, Bool.not_eq_true', Bool.not_eq_false', Bool.not_eq_true, Bool.not_eq_false] at hc) <;> first | (first | (exact absurd rfl hc) | (exfalso; omega) | (exact absurd (hc.symm.trans (by assumption : _ = false)) (by decide)) | (exact absurd (hc.symm.trans (by assumption : _ = true)) (by decide))) | skip)) | refine drawK.nn ?_ | refine loopK.r ?_ | refine loopK.x ?_)
          | ((refine JC.drawW [] [] (by kernel_rfl) (by kernel_rfl) ?_))
          | fail
        all_goals first | (exfalso; omega) | skip
        all_goals (refine ret1f rfl rfl rfl (fun w1 hw => ⟨rfl, hw.below⟩))
  ·
    repeat' first
      | (refine J.isJ ?_; first | (fail) | (first | (refine J.o 0 ?_; refine J.ev' hΓ ?_) | refine J.nil ?_ | refine J.kd ?_ | (refine J.o 4 ?_; first | refine J.lT default hΓ ?_) | (refine J.o 3 ?_; first | refine J.iJ hΓ ?_ | refine J.ev' hΓ ?_) | (refine J.o 1 ?_; first | refine J.ad ?_) | (refine J.o 10 ?_; refine J.ev' hΓ ?_) | (refine J.o 11 ?_; refine J.ev' hΓ ?_)) | ((fail_if_success refine J.wt ?_); refine J.gc rfl rfl (fun hc => ?_) (fun hc => ?_) <;> ((try simp only [decide_eq_true_eq, decide_eq_false_iff_not, beq_iff_eq, beq_eq_false_iff_ne, bne_iff_ne, bne_eq_false_iff_eq, Bool.not_eq_true', Bool.not_eq_false', Bool.not_eq_true, Bool.not_eq_false] at hc) <;> first | (first | (exact absurd rfl hc) | (exfalso; omega) | (exact absurd (hc.symm.trans (by assumption : _ = false)) (by decide)) | (exact absurd (hc.symm.trans (by assumption : _ = true)) (by decide))) | skip)))
      | (first | refine JC.seq ?_ | refine JC.region ?_ | refine JC.block ?_ | refine JC.ret ?_ | refine JC.exit ?_ | refine JC.skip ?_ | refine thenK.nn ?_ | refine thenK.r ?_ | refine thenK.x ?_ | refine blockK.nn ?_ | refine blockK.r ?_ | refine blockK.hit rfl ?_ | refine JC.condT rfl ?_ | refine JC.condF rfl ?_ | (refine JC.cond rfl (fun hc => ?_) (fun hc => ?_) <;> ((try simp only [decide_eq_true_eq, decide_eq_false_iff_not, beq_iff_eq, beq_eq_false_iff_ne, bne_iff_ne, bne_eq_false_iff_eq, Bool.not_eq_true', Bool.not_eq_false', Bool.not_eq_true, Bool.not_eq_false] at hc) <;> first | (first | (exact absurd rfl hc) | (exfalso; omega) | (exact absurd (hc.symm.trans (by assumption : _ = false)) (by decide)) | (exact absurd (hc.symm.trans (by assumption : _ = true)) (by decide))) | skip)) | refine drawK.nn ?_ | refine loopK.r ?_ | refine loopK.x ?_)
      | (fail)
      | fail
    all_goals first | (exfalso; omega) | skip
    all_goals (refine ret1f rfl rfl rfl (fun w1 hw => ⟨?_, hw.below⟩))
    all_goals (refine congrArg (fun b => Ending.returned (.bool b)) ?_)
    all_goals first | (rw [Bool.eq_iff_iff, decide_eq_true_iff]; simp only [beq_iff_eq]; exact ⟨fun e => list_eq (by omega) fun j hj => heq j (by omega), fun e => by rw [e]⟩) | trace_state
end Go.Proofs.YthnhijdfcmcnhaaGreat
namespace Go.Proofs.YthnhijdfcmcnhaaGreat
open Go Go.Cx Go.RowKit
set_option linter.unusedVariables false
set_option linter.unusedSimpArgs false
set_option maxHeartbeats 4000000
attribute [local irreducible] J JC thenK blockK loopK drawK retK QW Qt pel List.set Calls
open Go.Maps Go.Lib
set_option maxRecDepth 8000
attribute [local irreducible] JE Br eK0 eK3 brK pc
section
variable {P : Program} {n : Nat} {w0 : World} {R : Heap} {l0 : List Oper} {K : Exit → Fr → List Heap → Prop} {f : Fr} {L : List Heap} {rest : List (Nat × Oper)} {κ : Nat}
variable {Γ : List (Nat × TI)} {d : Nat} {ty : TypeId} {pos : String} {aft : Array Edge} {g : Option (Nat × Bool)} {t e : TypeId} {x y : Operand} {a : Option Addr} {len cap : Nat}
theorem J.slG {ki : IntKind} {i : Int} (m sz : Nat) {s1 b1 : Nat} {z1 : Option Value} {te : TI} (hΓ : Fits P Γ)
    (kk : J P n w0 R l0 K rest (upd f d (.slice (if cap = m then a else a.map (·.add (m * sz))) (len - m) (cap - m))) L)
    (hg : wantB n f l0 ⟨some d, .slice t x (some y) none none, ty, pos, aft, g⟩ = true := by exact rfl) (hx : Cx.ev n f x = .slice a len cap := by exact rfl) (hy : Cx.ev n f y = .int ki i := by exact rfl) (ht : Go.Cx.look Γ t = some ⟨.slice e, s1, z1, b1⟩ := by exact rfl) (hte : Go.Cx.look Γ e = some te := by exact rfl) (hsz : te.size = sz := by exact rfl) (hm : i = (m : Int) := by omega) (h1 : m ≤ len := by omega) (h2 : len ≤ cap := by omega) :
    J P n w0 R l0 K ((κ, ⟨some d, .slice t x (some y) none none, ty, pos, aft, g⟩) :: rest) f L :=
  J.p hg (fun w => by
    subst hm
    subst hsz
    have hu : P.underlying t = some (.slice e) := (hΓ t _ ht).1
    have he : P.elem t = e := by unfold Program.elem; rw [hu]
    have hu' : P.underlying t = some (.slice (P.elem t)) := by rw [he]; exact hu
    have : (Instr.sliceAt t (.slice a len cap) (some (.int ki (m : Int))) none none).run P w = .ok (.slice (if cap = m then a else a.map (·.add (m * te.size))) (len - m) (cap - m)) w := by
      rw [run_sliceAt_slice w t _ _ _ _ hu', run_slice_l w t a len cap hu' ki (m : Int) (by omega) (by omega), he, sizeOf_run hΓ hte w]
      simp [sliced, Result.andThen]
    simp only [execOp, hx, hy, Sem.run_bind, Option.map_some, Option.map_none]
    rw [this]
    rfl) kk
end
structure BW where
  a : Option Addr
  c : Nat
  l : List Bool
instance : Inhabited BW := ⟨⟨none, 0, []⟩⟩
def encBW (v : BW) : List Value := [.slice v.a v.l.length v.c]
theorem slB_take {a : Option Addr} {ts : List Bool} {h : Heap} (hs : SlT encBo 1 a ts h) (k : Nat) : SlT encBo 1 a (ts.take k) h := slT_take hs k
theorem slB_drop {a : Option Addr} {ts : List Bool} {h : Heap} (hs : SlT encBo 1 a ts h) (k cap : Nat) (hc : ts.length ≤ cap) : SlT encBo 1 (if cap = k then a else a.map (·.add (k * 1))) (ts.drop k) h := slT_drop hs k cap hc
theorem eLevels : Entr Tryz.prog 64 := Entr.of Tryz.func64 rfl rfl
def lvQ (size : Nat) (t : List Bool) (q : Nat) : List (List Bool) := (chunks size q t).foldl (stepB (size / 2)) []
theorem chunks_s (m c : Nat) (t : List Bool) : chunks m (c + 1) t = chunks m c t ++ [(t.drop (c * m)).take m] := by unfold chunks; rw [List.range_succ, List.map_append]; rfl
theorem lvQ_s (size : Nat) (t : List Bool) (q : Nat) : lvQ size t (q + 1) = stepB (size / 2) (lvQ size t q) ((t.drop (q * size)).take size) := by unfold lvQ; rw [chunks_s, List.foldl_append]; rfl
theorem lvQ_n {n k : Nat} (hk : k < n) (t : List Bool) : (lvQ (2 ^ (n - k)) t (2 ^ k)).length = lvC n k t := by
  unfold lvQ lvC
  have : 2 ^ (n - k) / 2 = 2 ^ (n - k - 1) := by
    obtain ⟨m, hm⟩ : ∃ m, n - k = m + 1 := ⟨n - k - 1, by omega⟩
    rw [hm, Nat.pow_succ, Nat.mul_div_cancel _ (by decide)]; rfl
  rw [this]
theorem sameL_any (f g : List Bool) (nf ng : Nat) (hnf : f.length = nf) (hng : g.length = ng) (af ag : Option Addr) (cf cg : Nat) (h : Heap) (sf : SlT encBo 1 af f h) (sg : SlT encBo 1 ag g h) (hl : f.length ≤ 100000) (hl2 : g.length ≤ 100000) (w : World) (hw1 : Holds h w) :
    Calls Tryz.prog 63 #[.slice af nf cf, .slice ag ng cg] w fun e w' => e = .returned (.bool (decide (f = g))) ∧ Below w.heap.size w w' := by
  subst hnf; subst hng
  exact same_any f g af ag cf cg h sf sg hl hl2 w hw1
def outL (n : Nat) (t : List Bool) (k : Nat) : List Int := (List.range k).map fun k => (lvC n k t : Int)
theorem outL_s (n : Nat) (t : List Bool) (k : Nat) : outL n t (k + 1) = outL n t k ++ [(lvC n k t : Int)] := by unfold outL; rw [List.range_succ, List.map_append]; rfl
theorem outL_len (n : Nat) (t : List Bool) (k : Nat) : (outL n t k).length = k := by simp [outL]
set_option maxHeartbeats 16000000 in
theorem levels_any (n : Nat) (h8 : n ≤ 8) (ao : Option Addr) (co : Nat) (t : List Bool) (ht : t.length = 2 ^ n) (af : Option Addr) (cf : Nat) (hcf : 2 ^ n ≤ cf) (h : Heap) (sf : SlT encBo 1 af t h) (w : World) (hw1 : Holds h w) :
    Calls Tryz.prog 64 #[.slice ao n co, .slice af (2 ^ n) cf] w (Gives (Sls encI 1 3 (outL n t n)) w) := by
  have h2n := pow8 h8
  have q0 : ∀ L, RdH h L h := fun L => RdH.old fun _ hh => hh
  refine calls_of_JC (R := h) Tryz.func64 Tryz.ntmps64 rfl rfl (hw1) ?_
  repeat' first
    | (refine J.isJ ?_; first | (fail) | (first | (refine J.o 0 ?_; refine J.ev' hΓ ?_) | refine J.nil ?_ | refine J.kd ?_ | (refine J.o 4 ?_; first | refine J.lT default hΓ ?_) | (refine J.o 3 ?_; first | refine J.iJ hΓ ?_ | refine J.ev' hΓ ?_) | (refine J.o 1 ?_; first | refine J.ad ?_) | (refine J.o 9 ?_; refine J.bl hΓ (fun _ => ?_)) | (refine J.o 10 ?_; refine J.ev' hΓ ?_) | (refine J.o 11 ?_; refine J.ev' hΓ ?_)))
    | (first | refine JC.seq ?_ | refine JC.region ?_ | refine JC.block ?_ | refine JC.ret ?_ | refine JC.exit ?_ | refine JC.skip ?_ | refine thenK.nn ?_ | refine thenK.x ?_ | refine blockK.nn ?_ | refine blockK.hit rfl ?_ | refine JC.condT rfl ?_ | refine JC.condF rfl ?_ | (refine JC.cond rfl (fun hc => ?_) (fun hc => ?_) <;> ((try simp only [decide_eq_true_eq, decide_eq_false_iff_not, beq_iff_eq, beq_eq_false_iff_ne, bne_iff_ne, bne_eq_false_iff_eq, Bool.not_eq_true', Bool.not_eq_false', Bool.not_eq_true, Bool.not_eq_false] at hc) <;> first | (first | (exact absurd rfl hc) | (exfalso; omega) | (exact absurd (hc.symm.trans (by assumption : _ = false)) (by decide)) | (exact absurd (hc.symm.trans (by assumption : _ = true)) (by decide))) | skip)) | refine drawK.nn ?_ | refine loopK.x ?_)
    | (fail)
    | fail
  all_goals first | (exfalso; omega) | skip
  refine JC.nilF ?_
  refine JC.loop (fun i => Nat.ble 5 i) (fun m g L' => ∃ k aO cO hO, g 6 = .int .i64 ((k : Nat) : Int) ∧ g 5 = .slice aO (outL n t k).length cO ∧ k + m = n ∧ OwT encI 1 3 aO cO (outL n t k) hO ∧ L' = [hO]) n ⟨0, none, 0, [], rfl, rfl, by omega, OwT.nil (fun _ => rfl), rfl⟩ ?_
  rintro m g L' ⟨k, aO, cO, hO, e6, e5, hkm, oO, rfl⟩
  refine JC.pin 6 e6 ?_
  refine JC.pin 5 e5 ?_
  have hol := outL_len n t k
  rcases Nat.lt_or_ge k n with hk | hk
  ·
    obtain ⟨S, hS⟩ : ∃ S, S = 2 ^ (n - k) := ⟨_, rfl⟩
    have hsz : 2 * 2 ^ (n - 1 - k) = S := by rw [hS, show n - k = (n - 1 - k) + 1 by omega, Nat.pow_succ, Nat.mul_comm]
    have hkS : 2 ^ k * S = 2 ^ n := by rw [hS, ← Nat.pow_add]; congr 1 <;> omega
    have hS0 : 0 < S := by rw [hS]; exact Nat.two_pow_pos _
    have hSn : S ≤ 2 ^ n := by rw [hS]; exact Nat.pow_le_pow_right (by decide) (by omega)
    have hk2 : 2 ^ k ≤ 2 ^ 8 := Nat.pow_le_pow_right (by decide) (by omega)
    repeat' first
      | (refine J.isJ ?_; first | (first | (refine J.fc 49 ?_; refine J.call0 eBit rfl rfl (fun w hw => bit_any ao co n k hk h8 w) ?_) | (refine J.o 1 ?_; refine J.gmul (a := 2) ?_ (hw := wI64 (by omega)); rw [hsz])) | (first | (refine J.o 0 ?_; refine J.ev' hΓ ?_) | refine J.nil ?_ | refine J.kd ?_ | (refine J.o 4 ?_; first | refine J.lT default hΓ ?_) | (refine J.o 3 ?_; first | refine J.iJ hΓ ?_ | refine J.ev' hΓ ?_) | (refine J.o 1 ?_; first | refine J.ad ?_) | (refine J.o 9 ?_; refine J.bl hΓ (fun _ => ?_)) | (refine J.o 10 ?_; refine J.ev' hΓ ?_) | (refine J.o 11 ?_; refine J.ev' hΓ ?_)))
      | (first | refine JC.seq ?_ | refine JC.region ?_ | refine JC.block ?_ | refine JC.ret ?_ | refine JC.exit ?_ | refine JC.skip ?_ | refine thenK.nn ?_ | refine thenK.x ?_ | refine blockK.nn ?_ | refine blockK.hit rfl ?_ | refine JC.condT rfl ?_ | refine JC.condF rfl ?_ | (refine JC.cond rfl (fun hc => ?_) (fun hc => ?_) <;> ((try simp only [decide_eq_true_eq, decide_eq_false_iff_not, beq_iff_eq, beq_eq_false_iff_ne, bne_iff_ne, bne_eq_false_iff_eq, Bool.not_eq_true', Bool.not_eq_false', Bool.not_eq_true, Bool.not_eq_false] at hc) <;> first | (first | (exact absurd rfl hc) | (exfalso; omega) | (exact absurd (hc.symm.trans (by assumption : _ = false)) (by decide)) | (exact absurd (hc.symm.trans (by assumption : _ = true)) (by decide))) | skip)) | refine drawK.nn ?_ | refine loopK.x ?_)
      | (fail)
      | fail
    all_goals first | (exfalso; omega) | skip
    refine JC.nilF ?_
    refine JC.loop (fun i => i == 8 || i == 9 || i == 10 || i == 11 || i == 12 || Nat.ble 23 i) (fun m g L' => ∃ q aB cB vs hB, g 9 = .int .i64 ((q * S : Nat) : Int) ∧ g 8 = .slice aB vs.length cB ∧ q + m = 2 ^ k ∧ OwT encBW 1 41 aB cB vs hB ∧ vs.map (·.l) = lvQ S t q ∧ (∀ v ∈ vs, SlT encBo 1 v.a v.l h ∧ v.l.length = S) ∧ vs.length ≤ q ∧ L' = [hB, hO]) (2 ^ k) ⟨0, none, 0, [], [], by show Value.int .i64 0 = _; rw [Nat.zero_mul]; rfl, rfl, by omega, OwT.nil (fun _ => rfl), rfl, fun v hv => (by cases hv), Nat.le_refl _, rfl⟩ ?_
    rintro m2 g2 L' ⟨q, aB, cB, vs, hB, e9, e8, hqm, oB, hvs, hvi, hvq, rfl⟩
    refine JC.pin 9 e9 ?_
    refine JC.pin 8 e8 ?_
    rcases Nat.lt_or_ge q (2 ^ k) with hq | hq
    ·
      have hqS : q * S + S ≤ 2 ^ n := by rw [← hkS, ← Nat.succ_mul]; exact Nat.mul_le_mul_right _ hq
      obtain ⟨qS, hqs⟩ : ∃ qS, qS = q * S := ⟨_, rfl⟩
      rw [← hqs] at hqS ⊢
      obtain ⟨ck, hck⟩ : ∃ ck, ck = (t.drop qS).take S := ⟨_, rfl⟩
      have hcl : ck.length = S := by rw [hck, List.length_take, List.length_drop]; omega
      have hl1 : qS + S - qS = ck.length := by omega
      have sb : SlT encBo 1 (if cf = qS then af else af.map (·.add (qS * 1))) ck h := hck ▸ slB_take (slB_drop sf qS cf (by omega)) S
      obtain ⟨ab, hab⟩ : ∃ ab, ab = (if cf = qS then af else af.map (·.add (qS * 1))) := ⟨_, rfl⟩
      rw [← hab] at sb
      have cS1 := fun w hw => sameL_any (ck.take (S / 2)) (ck.drop (S / 2)) (S / 2) (ck.length - S / 2) (by rw [List.length_take]; omega) (by rw [List.length_drop]) ab _ (cf - qS) (cf - qS - S / 2) h (slB_take sb _) (slB_drop sb (S / 2) (cf - qS) (by omega)) (by rw [List.length_take]; omega) (by rw [List.length_drop]; omega) w hw
      repeat' first
        | (refine J.isJ ?_; first | (first | (refine J.o 13 ?_; first | (refine J.slR qS (qS + S) 1 hΓ ?_; rw [hl1, ← hab]) | refine J.slF (m := S / 2) hΓ ?_ | refine J.slG (S / 2) 1 hΓ ?_) | (refine J.o 1 ?_; refine J.gquo (b := 2) ?_ (hw := wI64 (by omega))) | (refine J.fc 63 ?_; refine J.call0 eSame rfl rfl (fun w hw => cS1 w (hw.rdH (q0 _))) ?_)) | (first | (refine J.o 0 ?_; refine J.ev' hΓ ?_) | refine J.nil ?_ | refine J.kd ?_ | (refine J.o 4 ?_; first | refine J.lT default hΓ ?_) | (refine J.o 3 ?_; first | refine J.iJ hΓ ?_ | refine J.ev' hΓ ?_) | (refine J.o 1 ?_; first | refine J.ad ?_) | (refine J.o 9 ?_; refine J.bl hΓ (fun _ => ?_)) | (refine J.o 10 ?_; refine J.ev' hΓ ?_) | (refine J.o 11 ?_; refine J.ev' hΓ ?_)))
        | (first | refine JC.seq ?_ | refine JC.region ?_ | refine JC.block ?_ | refine JC.ret ?_ | refine JC.exit ?_ | refine JC.skip ?_ | refine thenK.nn ?_ | refine thenK.x ?_ | refine blockK.nn ?_ | refine blockK.hit rfl ?_ | refine JC.condT rfl ?_ | refine JC.condF rfl ?_ | (refine JC.cond rfl (fun hc => ?_) (fun hc => ?_) <;> ((try simp only [decide_eq_true_eq, decide_eq_false_iff_not, beq_iff_eq, beq_eq_false_iff_ne, bne_iff_ne, bne_eq_false_iff_eq, Bool.not_eq_true', Bool.not_eq_false', Bool.not_eq_true, Bool.not_eq_false] at hc) <;> first | (first | (exact absurd rfl hc) | (exfalso; omega) | (exact absurd (hc.symm.trans (by assumption : _ = false)) (by decide)) | (exact absurd (hc.symm.trans (by assumption : _ = true)) (by decide))) | skip)) | refine drawK.nn ?_ | refine loopK.x ?_)
        | ((refine JC.drawO [(0,0),(0,1),(0,2),(0,3),(0,4),(0,5),(0,6),(0,7),(1,8),(0,9)] (by decide +kernel) (by decide +kernel) ?_))
        | fail
      all_goals first | (exfalso; omega) | skip
      refine JC.loop (fun i => i == 11 || i == 12 || (Nat.ble 45 i && Nat.ble i 59)) (fun m g L' => ∃ (j : Nat) (isv : Bool), g 12 = .int .i64 (j : Int) ∧ g 11 = .bool isv ∧ j + m = vs.length ∧ (isv = true ↔ (ck.take (S / 2) = ck.drop (S / 2) ∨ ∃ j', j' < j ∧ (vs.getD j' default).l = ck)) ∧ L' = [hB, hO]) vs.length ⟨0, _, rfl, rfl, by omega, by rw [decide_eq_true_iff]; exact ⟨.inl, fun g => g.elim id fun ⟨j, h1, _⟩ => absurd h1 (Nat.not_lt_zero j)⟩, rfl⟩ ?_
      rintro m3 g3 L' ⟨j, isv, e12, e11, hjm, his, rfl⟩
      refine JC.pin 12 e12 ?_
      refine JC.pin 11 e11 ?_
      rcases Nat.lt_or_ge j vs.length with hj | hj
      ·
        have hvj := hvi _ (mem_g vs j hj)
        have cS2 := fun w hw => sameL_any (vs.getD j default).l ck (vs.getD j default).l.length ck.length rfl rfl (vs.getD j default).a ab (vs.getD j default).c (cf - qS) h hvj.1 sb (by omega) (by omega) w hw
        cases isv with
        | true =>
          repeat' first
            | (refine J.isJ ?_; first | (fail) | (first | (refine J.o 0 ?_; refine J.ev' hΓ ?_) | refine J.nil ?_ | refine J.kd ?_ | (refine J.o 4 ?_; first | refine J.lT default hΓ ?_) | (refine J.o 3 ?_; first | refine J.iJ hΓ ?_ | refine J.ev' hΓ ?_) | (refine J.o 1 ?_; first | refine J.ad ?_) | (refine J.o 9 ?_; refine J.bl hΓ (fun _ => ?_)) | (refine J.o 10 ?_; refine J.ev' hΓ ?_) | (refine J.o 11 ?_; refine J.ev' hΓ ?_)))
            | (first | refine JC.seq ?_ | refine JC.region ?_ | refine JC.block ?_ | refine JC.ret ?_ | refine JC.exit ?_ | refine JC.skip ?_ | refine thenK.nn ?_ | refine thenK.x ?_ | refine blockK.nn ?_ | refine blockK.hit rfl ?_ | refine JC.condT rfl ?_ | refine JC.condF rfl ?_ | (refine JC.cond rfl (fun hc => ?_) (fun hc => ?_) <;> ((try simp only [decide_eq_true_eq, decide_eq_false_iff_not, beq_iff_eq, beq_eq_false_iff_ne, bne_iff_ne, bne_eq_false_iff_eq, Bool.not_eq_true', Bool.not_eq_false', Bool.not_eq_true, Bool.not_eq_false] at hc) <;> first | (first | (exact absurd rfl hc) | (exfalso; omega) | (exact absurd (hc.symm.trans (by assumption : _ = false)) (by decide)) | (exact absurd (hc.symm.trans (by assumption : _ = true)) (by decide))) | skip)) | refine drawK.nn ?_ | refine loopK.x ?_)
            | (fail)
            | fail
          all_goals first | (exfalso; omega) | skip
          refine loopK.nn (m3 - 1) (by omega) (by repeat (first | refine Ag.upd rfl ?_ | exact Ag.hv | refine Ag.hv2 (fun i hi => by simp at hi ⊢; omega) ?_)) ⟨j + 1, true, ?_, rfl, by omega, ?_, rfl⟩
          · show Value.int .i64 _ = _; congr 1
          · exact ⟨fun _ => (his.1 rfl).imp id fun ⟨j', h1, h2⟩ => ⟨j', by omega, h2⟩, fun _ => rfl⟩
        | false =>
          repeat' first
            | (refine J.isJ ?_; first | (first | (refine J.o 3 ?_; refine J.iJ hΓ ?_ (hs := oB.sl)) | (refine J.o 4 ?_; refine J.lT default hΓ ?_ (hs := oB.sl) (hr := RdH.hd)) | (refine J.fc 63 ?_; refine J.call0 eSame rfl rfl (fun w hw => cS2 w (hw.rdH (q0 _))) ?_)) | (first | (refine J.o 0 ?_; refine J.ev' hΓ ?_) | refine J.nil ?_ | refine J.kd ?_ | (refine J.o 4 ?_; first | refine J.lT default hΓ ?_) | (refine J.o 3 ?_; first | refine J.iJ hΓ ?_ | refine J.ev' hΓ ?_) | (refine J.o 1 ?_; first | refine J.ad ?_) | (refine J.o 9 ?_; refine J.bl hΓ (fun _ => ?_)) | (refine J.o 10 ?_; refine J.ev' hΓ ?_) | (refine J.o 11 ?_; refine J.ev' hΓ ?_)))
            | (first | refine JC.seq ?_ | refine JC.region ?_ | refine JC.block ?_ | refine JC.ret ?_ | refine JC.exit ?_ | refine JC.skip ?_ | refine thenK.nn ?_ | refine thenK.x ?_ | refine blockK.nn ?_ | refine blockK.hit rfl ?_ | refine JC.condT rfl ?_ | refine JC.condF rfl ?_ | (refine JC.cond rfl (fun hc => ?_) (fun hc => ?_) <;> ((try simp only [decide_eq_true_eq, decide_eq_false_iff_not, beq_iff_eq, beq_eq_false_iff_ne, bne_iff_ne, bne_eq_false_iff_eq, Bool.not_eq_true', Bool.not_eq_false', Bool.not_eq_true, Bool.not_eq_false] at hc) <;> first | (first | (exact absurd rfl hc) | (exfalso; omega) | (exact absurd (hc.symm.trans (by assumption : _ = false)) (by decide)) | (exact absurd (hc.symm.trans (by assumption : _ = true)) (by decide))) | skip)) | refine drawK.nn ?_ | refine loopK.x ?_)
            | (fail)
            | fail
          all_goals first | (exfalso; omega) | skip
          refine loopK.nn (m3 - 1) (by omega) (by repeat (first | refine Ag.upd rfl ?_ | exact Ag.hv | refine Ag.hv2 (fun i hi => by simp at hi ⊢; omega) ?_)) ⟨j + 1, decide ((vs.getD j default).l = ck), ?_, rfl, by omega, ?_, rfl⟩
          · show Value.int .i64 _ = _; congr 1
          · rw [decide_eq_true_iff]
            refine ⟨fun g => .inr ⟨j, by omega, g⟩, fun g => ?_⟩
            rcases g with g | ⟨j', h1, h2⟩
            · exact absurd (his.2 (.inl g)) (by decide)
            · rcases Nat.lt_or_ge j' j with h3 | h3
              · exact absurd (his.2 (.inr ⟨j', h3, h2⟩)) (by decide)
              · obtain rfl : j' = j := by omega
                exact h2
      ·
        have hmem : (∃ j', j' < j ∧ (vs.getD j' default).l = ck) ↔ ck ∈ lvQ S t q := by
          rw [← hvs, List.mem_map]
          constructor
          · rintro ⟨j', h1, h2⟩; exact ⟨_, mem_g vs j' (by omega), h2⟩
          · rintro ⟨v, h1, h2⟩
            obtain ⟨j', h3, rfl⟩ := List.mem_iff_getElem.1 h1
            refine ⟨j', by omega, ?_⟩
            rw [List.getD_eq_getElem?_getD, List.getElem?_eq_getElem h3]; exact h2
        rw [hmem] at his
        have hqn : (q + 1) * S = qS + S := by rw [Nat.succ_mul, hqs]
        have hstep := lvQ_s S t q
        rw [← hqs, ← hck] at hstep
        cases isv with
        | true =>
          have hst : lvQ S t (q + 1) = lvQ S t q := by rw [hstep]; unfold stepB; rw [if_pos (his.1 rfl)]
          repeat' first
            | (refine J.isJ ?_; first | (fail) | (first | (refine J.o 0 ?_; refine J.ev' hΓ ?_) | refine J.nil ?_ | refine J.kd ?_ | (refine J.o 4 ?_; first | refine J.lT default hΓ ?_) | (refine J.o 3 ?_; first | refine J.iJ hΓ ?_ | refine J.ev' hΓ ?_) | (refine J.o 1 ?_; first | refine J.ad ?_) | (refine J.o 9 ?_; refine J.bl hΓ (fun _ => ?_)) | (refine J.o 10 ?_; refine J.ev' hΓ ?_) | (refine J.o 11 ?_; refine J.ev' hΓ ?_)))
            | (first | refine JC.seq ?_ | refine JC.region ?_ | refine JC.block ?_ | refine JC.ret ?_ | refine JC.exit ?_ | refine JC.skip ?_ | refine thenK.nn ?_ | refine thenK.x ?_ | refine blockK.nn ?_ | refine blockK.hit rfl ?_ | refine JC.condT rfl ?_ | refine JC.condF rfl ?_ | (refine JC.cond rfl (fun hc => ?_) (fun hc => ?_) <;> ((try simp only [decide_eq_true_eq, decide_eq_false_iff_not, beq_iff_eq, beq_eq_false_iff_ne, bne_iff_ne, bne_eq_false_iff_eq, Bool.not_eq_true', Bool.not_eq_false', Bool.not_eq_true, Bool.not_eq_false] at hc) <;> first | (first | (exact absurd rfl hc) | (exfalso; omega) | (exact absurd (hc.symm.trans (by assumption : _ = false)) (by decide)) | (exact absurd (hc.symm.trans (by assumption : _ = true)) (by decide))) | skip)) | refine drawK.nn ?_ | refine loopK.x ?_)
            | (fail)
            | fail
          all_goals first | (exfalso; omega) | skip
          refine loopK.nn (m2 - 1) (by omega) (by repeat (first | refine Ag.upd rfl ?_ | exact Ag.hv | refine Ag.hv2 (fun i hi => by simp at hi ⊢; omega) ?_)) ⟨q + 1, aB, cB, vs, hB, ?_, rfl, by omega, oB, by rw [hst, hvs], hvi, by omega, rfl⟩
          show Value.int .i64 _ = _; congr 1 <;> omega
        | false =>
          have hst : lvQ S t (q + 1) = lvQ S t q ++ [ck] := by rw [hstep]; unfold stepB; rw [if_neg (fun g => absurd (his.2 g) (by decide))]
          repeat' first
            | (refine J.isJ ?_; first | ((refine J.o 9 ?_; first | (first | (refine J.ap1 (enc := encBW) [(⟨ab, cf - qS, ck⟩ : BW)] hΓ (fun a2 c2 h2 o2 => ?_)) | (refine J.perm (br1.cons _) ?_; refine J.ap1 (enc := encBW) [(⟨ab, cf - qS, ck⟩ : BW)] hΓ (fun a2 c2 h2 o2 => ?_)) | (refine J.perm (br2.cons _) ?_; refine J.ap1 (enc := encBW) [(⟨ab, cf - qS, ck⟩ : BW)] hΓ (fun a2 c2 h2 o2 => ?_)) | (refine J.perm (br3.cons _) ?_; refine J.ap1 (enc := encBW) [(⟨ab, cf - qS, ck⟩ : BW)] hΓ (fun a2 c2 h2 o2 => ?_)) | (refine J.perm (br4.cons _) ?_; refine J.ap1 (enc := encBW) [(⟨ab, cf - qS, ck⟩ : BW)] hΓ (fun a2 c2 h2 o2 => ?_)) | (refine J.perm (br5.cons _) ?_; refine J.ap1 (enc := encBW) [(⟨ab, cf - qS, ck⟩ : BW)] hΓ (fun a2 c2 h2 o2 => ?_))) | (refine J.perm br1 ?_; first | (refine J.ap1 (enc := encBW) [(⟨ab, cf - qS, ck⟩ : BW)] hΓ (fun a2 c2 h2 o2 => ?_)) | (refine J.perm (br1.cons _) ?_; refine J.ap1 (enc := encBW) [(⟨ab, cf - qS, ck⟩ : BW)] hΓ (fun a2 c2 h2 o2 => ?_)) | (refine J.perm (br2.cons _) ?_; refine J.ap1 (enc := encBW) [(⟨ab, cf - qS, ck⟩ : BW)] hΓ (fun a2 c2 h2 o2 => ?_)) | (refine J.perm (br3.cons _) ?_; refine J.ap1 (enc := encBW) [(⟨ab, cf - qS, ck⟩ : BW)] hΓ (fun a2 c2 h2 o2 => ?_)) | (refine J.perm (br4.cons _) ?_; refine J.ap1 (enc := encBW) [(⟨ab, cf - qS, ck⟩ : BW)] hΓ (fun a2 c2 h2 o2 => ?_)) | (refine J.perm (br5.cons _) ?_; refine J.ap1 (enc := encBW) [(⟨ab, cf - qS, ck⟩ : BW)] hΓ (fun a2 c2 h2 o2 => ?_))) | (refine J.perm br2 ?_; first | (refine J.ap1 (enc := encBW) [(⟨ab, cf - qS, ck⟩ : BW)] hΓ (fun a2 c2 h2 o2 => ?_)) | (refine J.perm (br1.cons _) ?_; refine J.ap1 (enc := encBW) [(⟨ab, cf - qS, ck⟩ : BW)] hΓ (fun a2 c2 h2 o2 => ?_)) | (refine J.perm (br2.cons _) ?_; refine J.ap1 (enc := encBW) [(⟨ab, cf - qS, ck⟩ : BW)] hΓ (fun a2 c2 h2 o2 => ?_)) | (refine J.perm (br3.cons _) ?_; refine J.ap1 (enc := encBW) [(⟨ab, cf - qS, ck⟩ : BW)] hΓ (fun a2 c2 h2 o2 => ?_)) | (refine J.perm (br4.cons _) ?_; refine J.ap1 (enc := encBW) [(⟨ab, cf - qS, ck⟩ : BW)] hΓ (fun a2 c2 h2 o2 => ?_)) | (refine J.perm (br5.cons _) ?_; refine J.ap1 (enc := encBW) [(⟨ab, cf - qS, ck⟩ : BW)] hΓ (fun a2 c2 h2 o2 => ?_))))) | (first | (refine J.o 0 ?_; refine J.ev' hΓ ?_) | refine J.nil ?_ | refine J.kd ?_ | (refine J.o 4 ?_; first | refine J.lT default hΓ ?_) | (refine J.o 3 ?_; first | refine J.iJ hΓ ?_ | refine J.ev' hΓ ?_) | (refine J.o 1 ?_; first | refine J.ad ?_) | (refine J.o 9 ?_; refine J.bl hΓ (fun _ => ?_)) | (refine J.o 10 ?_; refine J.ev' hΓ ?_) | (refine J.o 11 ?_; refine J.ev' hΓ ?_)))
            | (first | refine JC.seq ?_ | refine JC.region ?_ | refine JC.block ?_ | refine JC.ret ?_ | refine JC.exit ?_ | refine JC.skip ?_ | refine thenK.nn ?_ | refine thenK.x ?_ | refine blockK.nn ?_ | refine blockK.hit rfl ?_ | refine JC.condT rfl ?_ | refine JC.condF rfl ?_ | (refine JC.cond rfl (fun hc => ?_) (fun hc => ?_) <;> ((try simp only [decide_eq_true_eq, decide_eq_false_iff_not, beq_iff_eq, beq_eq_false_iff_ne, bne_iff_ne, bne_eq_false_iff_eq, Bool.not_eq_true', Bool.not_eq_false', Bool.not_eq_true, Bool.not_eq_false] at hc) <;> first | (first | (exact absurd rfl hc) | (exfalso; omega) | (exact absurd (hc.symm.trans (by assumption : _ = false)) (by decide)) | (exact absurd (hc.symm.trans (by assumption : _ = true)) (by decide))) | skip)) | refine drawK.nn ?_ | refine loopK.x ?_)
            | (fail)
            | fail
          all_goals first | (exfalso; omega) | skip
          refine loopK.nn (m2 - 1) (by omega) (by repeat (first | refine Ag.upd rfl ?_ | exact Ag.hv | refine Ag.hv2 (fun i hi => by simp at hi ⊢; omega) ?_)) ⟨q + 1, a2, c2, vs ++ [⟨ab, cf - qS, ck⟩], h2, ?_, rfl, by omega, o2, by rw [hst, List.map_append, hvs]; rfl, fun v hv => ?_, by rw [List.length_append, List.length_singleton]; omega, rfl⟩
          · show Value.int .i64 _ = _; congr 1 <;> omega
          · rcases List.mem_append.1 hv with g | g
            · exact hvi v g
            · rw [List.mem_singleton.1 g]; exact ⟨sb, hcl⟩
    ·
      have hqe : q * S = 2 ^ n := by rw [show q = 2 ^ k by omega]; exact hkS
      have hvl : vs.length = lvC n k t := by
        have : (vs.map (·.l)).length = vs.length := List.length_map _
        rw [← this, hvs, show q = 2 ^ k by omega, hS]; exact lvQ_n hk t
      repeat' first
        | (refine J.isJ ?_; first | ((refine J.o 9 ?_; first | (first | (refine J.ap1 (enc := encI) [(vs.length : Int)] hΓ (fun a2 c2 h2 o2 => ?_)) | (refine J.perm (br1.cons _) ?_; refine J.ap1 (enc := encI) [(vs.length : Int)] hΓ (fun a2 c2 h2 o2 => ?_)) | (refine J.perm (br2.cons _) ?_; refine J.ap1 (enc := encI) [(vs.length : Int)] hΓ (fun a2 c2 h2 o2 => ?_)) | (refine J.perm (br3.cons _) ?_; refine J.ap1 (enc := encI) [(vs.length : Int)] hΓ (fun a2 c2 h2 o2 => ?_)) | (refine J.perm (br4.cons _) ?_; refine J.ap1 (enc := encI) [(vs.length : Int)] hΓ (fun a2 c2 h2 o2 => ?_)) | (refine J.perm (br5.cons _) ?_; refine J.ap1 (enc := encI) [(vs.length : Int)] hΓ (fun a2 c2 h2 o2 => ?_))) | (refine J.perm br1 ?_; first | (refine J.ap1 (enc := encI) [(vs.length : Int)] hΓ (fun a2 c2 h2 o2 => ?_)) | (refine J.perm (br1.cons _) ?_; refine J.ap1 (enc := encI) [(vs.length : Int)] hΓ (fun a2 c2 h2 o2 => ?_)) | (refine J.perm (br2.cons _) ?_; refine J.ap1 (enc := encI) [(vs.length : Int)] hΓ (fun a2 c2 h2 o2 => ?_)) | (refine J.perm (br3.cons _) ?_; refine J.ap1 (enc := encI) [(vs.length : Int)] hΓ (fun a2 c2 h2 o2 => ?_)) | (refine J.perm (br4.cons _) ?_; refine J.ap1 (enc := encI) [(vs.length : Int)] hΓ (fun a2 c2 h2 o2 => ?_)) | (refine J.perm (br5.cons _) ?_; refine J.ap1 (enc := encI) [(vs.length : Int)] hΓ (fun a2 c2 h2 o2 => ?_))) | (refine J.perm br2 ?_; first | (refine J.ap1 (enc := encI) [(vs.length : Int)] hΓ (fun a2 c2 h2 o2 => ?_)) | (refine J.perm (br1.cons _) ?_; refine J.ap1 (enc := encI) [(vs.length : Int)] hΓ (fun a2 c2 h2 o2 => ?_)) | (refine J.perm (br2.cons _) ?_; refine J.ap1 (enc := encI) [(vs.length : Int)] hΓ (fun a2 c2 h2 o2 => ?_)) | (refine J.perm (br3.cons _) ?_; refine J.ap1 (enc := encI) [(vs.length : Int)] hΓ (fun a2 c2 h2 o2 => ?_)) | (refine J.perm (br4.cons _) ?_; refine J.ap1 (enc := encI) [(vs.length : Int)] hΓ (fun a2 c2 h2 o2 => ?_)) | (refine J.perm (br5.cons _) ?_; refine J.ap1 (enc := encI) [(vs.length : Int)] hΓ (fun a2 c2 h2 o2 => ?_))))) | (first | (refine J.o 0 ?_; refine J.ev' hΓ ?_) | refine J.nil ?_ | refine J.kd ?_ | (refine J.o 4 ?_; first | refine J.lT default hΓ ?_) | (refine J.o 3 ?_; first | refine J.iJ hΓ ?_ | refine J.ev' hΓ ?_) | (refine J.o 1 ?_; first | refine J.ad ?_) | (refine J.o 9 ?_; refine J.bl hΓ (fun _ => ?_)) | (refine J.o 10 ?_; refine J.ev' hΓ ?_) | (refine J.o 11 ?_; refine J.ev' hΓ ?_)))
        | (first | refine JC.seq ?_ | refine JC.region ?_ | refine JC.block ?_ | refine JC.ret ?_ | refine JC.exit ?_ | refine JC.skip ?_ | refine thenK.nn ?_ | refine thenK.x ?_ | refine blockK.nn ?_ | refine blockK.hit rfl ?_ | refine JC.condT rfl ?_ | refine JC.condF rfl ?_ | (refine JC.cond rfl (fun hc => ?_) (fun hc => ?_) <;> ((try simp only [decide_eq_true_eq, decide_eq_false_iff_not, beq_iff_eq, beq_eq_false_iff_ne, bne_iff_ne, bne_eq_false_iff_eq, Bool.not_eq_true', Bool.not_eq_false', Bool.not_eq_true, Bool.not_eq_false] at hc) <;> first | (first | (exact absurd rfl hc) | (exfalso; omega) | (exact absurd (hc.symm.trans (by assumption : _ = false)) (by decide)) | (exact absurd (hc.symm.trans (by assumption : _ = true)) (by decide))) | skip)) | refine drawK.nn ?_ | refine loopK.x ?_)
        | (fail)
        | fail
      all_goals first | (exfalso; omega) | skip
      have hos := outL_s n t k
      rw [hvl] at o2
      rw [← hos] at o2
      refine loopK.np (m - 1) [hB] _ (by omega) (by repeat (first | refine Ag.upd rfl ?_ | exact Ag.hv | refine Ag.hv2 (fun i hi => by simp at hi ⊢; omega) ?_)) br1 ⟨k + 1, a2, c2, h2, ?_, ?_, by omega, o2, rfl⟩
      · show Value.int .i64 _ = _; congr 1
      · show Value.slice _ _ _ = _; rw [hos, hvl]
  ·
    repeat' first
      | (refine J.isJ ?_; first | (fail) | (first | (refine J.o 0 ?_; refine J.ev' hΓ ?_) | refine J.nil ?_ | refine J.kd ?_ | (refine J.o 4 ?_; first | refine J.lT default hΓ ?_) | (refine J.o 3 ?_; first | refine J.iJ hΓ ?_ | refine J.ev' hΓ ?_) | (refine J.o 1 ?_; first | refine J.ad ?_) | (refine J.o 9 ?_; refine J.bl hΓ (fun _ => ?_)) | (refine J.o 10 ?_; refine J.ev' hΓ ?_) | (refine J.o 11 ?_; refine J.ev' hΓ ?_)))
      | (first | refine JC.seq ?_ | refine JC.region ?_ | refine JC.block ?_ | refine JC.ret ?_ | refine JC.exit ?_ | refine JC.skip ?_ | refine thenK.nn ?_ | refine thenK.x ?_ | refine blockK.nn ?_ | refine blockK.hit rfl ?_ | refine JC.condT rfl ?_ | refine JC.condF rfl ?_ | (refine JC.cond rfl (fun hc => ?_) (fun hc => ?_) <;> ((try simp only [decide_eq_true_eq, decide_eq_false_iff_not, beq_iff_eq, beq_eq_false_iff_ne, bne_iff_ne, bne_eq_false_iff_eq, Bool.not_eq_true', Bool.not_eq_false', Bool.not_eq_true, Bool.not_eq_false] at hc) <;> first | (first | (exact absurd rfl hc) | (exfalso; omega) | (exact absurd (hc.symm.trans (by assumption : _ = false)) (by decide)) | (exact absurd (hc.symm.trans (by assumption : _ = true)) (by decide))) | skip)) | refine drawK.nn ?_ | refine loopK.x ?_)
      | (fail)
      | fail
    all_goals first | (exfalso; omega) | skip
    obtain rfl : k = n := by omega
    exact ret1f rfl rfl rfl (fun w1 hw => Gives.of hw ⟨_, _, rfl, oO⟩)
end Go.Proofs.YthnhijdfcmcnhaaGreat
namespace Go.Proofs.YthnhijdfcmcnhaaGreat
open Go Go.Cx Go.RowKit
set_option linter.unusedVariables false
set_option linter.unusedSimpArgs false
set_option maxHeartbeats 4000000
attribute [local irreducible] J JC thenK blockK loopK drawK retK QW Qt pel List.set Calls
open Go.Maps Go.Lib
set_option maxRecDepth 8000
attribute [local irreducible] JE Br eK0 eK3 brK pc
theorem eSizeOf : Entr Tryz.prog 32 := Entr.of Tryz.func32 rfl rfl
def sumL (n : Nat) (t : List Bool) (k : Nat) : Nat := ((List.range k).map fun k => lvC n k t).sum
theorem sumL_s (n : Nat) (t : List Bool) (k : Nat) : sumL n t (k + 1) = sumL n t k + lvC n k t := by unfold sumL; rw [List.range_succ, List.map_append, List.sum_append]; simp
theorem lvC_le (n k : Nat) (t : List Bool) : lvC n k t ≤ 2 ^ k := by
  have hf : ∀ (l : List (List Bool)) (acc : List (List Bool)) (h : Nat), (l.foldl (stepB h) acc).length ≤ acc.length + l.length := by
    intro l
    induction l with
    | nil => intro acc h; simp
    | cons b l ih =>
      intro acc h
      have := ih (stepB h acc b) h
      have h2 : (stepB h acc b).length ≤ acc.length + 1 := by unfold stepB; split <;> simp
      rw [List.foldl_cons, List.length_cons]; omega
  have := hf (chunks (2 ^ (n - k)) (2 ^ k) t) [] (2 ^ (n - k - 1))
  unfold lvC
  simp only [List.length_nil, Nat.zero_add] at this
  have hc : (chunks (2 ^ (n - k)) (2 ^ k) t).length = 2 ^ k := by simp [chunks]
  omega
theorem sumL_le (n : Nat) (t : List Bool) : ∀ k, sumL n t k ≤ 2 ^ k
  | 0 => by simp [sumL]
  | k + 1 => by have := sumL_le n t k; have := lvC_le n k t; rw [sumL_s, Nat.pow_succ]; omega
theorem outL_get (n : Nat) (t : List Bool) {m k : Nat} (h : k < m) : (outL n t m).getD k default = (lvC n k t : Int) := by
  unfold outL
  rw [List.getD_eq_getElem?_getD, List.getElem?_map, List.getElem?_range h]; rfl
theorem sizeOf_any (n : Nat) (h8 : n ≤ 8) (ao : Option Addr) (co : Nat) (t : List Bool) (ht : t.length = 2 ^ n) (af : Option Addr) (cf : Nat) (hcf : 2 ^ n ≤ cf) (h : Heap) (sf : SlT encBo 1 af t h) (w : World) (hw1 : Holds h w) :
    Calls Tryz.prog 32 #[.slice ao n co, .slice af (2 ^ n) cf] w fun e w' => e = .returned (.int .i64 (sizeT n t : Int)) ∧ Below w.heap.size w w' := by
  have q0 : ∀ L, RdH h L h := fun L => RdH.old fun _ hh => hh
  have h2n := pow8 h8
  have hol := outL_len n t n
  refine calls_of_JC (R := h) Tryz.func32 Tryz.ntmps32 rfl rfl (hw1) ?_
  repeat' first
    | (refine J.isJ ?_; first | ((refine J.fc 64 ?_; refine J.call1 eLevels rfl rfl (fun w hw => levels_any n h8 ao co t ht af cf hcf h sf w (hw.rdH (q0 _))) ?_; rintro _ hl ⟨al, cl, rfl, ol⟩)) | (first | (refine J.o 0 ?_; refine J.ev' hΓ ?_) | refine J.nil ?_ | (refine J.o 4 ?_; first | refine J.lT default hΓ ?_) | (refine J.o 3 ?_; first | refine J.iJ hΓ ?_ | refine J.ev' hΓ ?_) | (refine J.o 1 ?_; first | refine J.ad ?_) | (refine J.o 10 ?_; refine J.ev' hΓ ?_) | (refine J.o 11 ?_; refine J.ev' hΓ ?_)))
    | (first | refine JC.seq ?_ | refine JC.region ?_ | refine JC.block ?_ | refine JC.ret ?_ | refine JC.exit ?_ | refine JC.skip ?_ | refine thenK.nn ?_ | refine thenK.x ?_ | refine blockK.nn ?_ | refine blockK.hit rfl ?_ | (refine JC.cond rfl (fun hc => ?_) (fun hc => ?_) <;> ((try simp only [decide_eq_true_eq, decide_eq_false_iff_not, beq_iff_eq, beq_eq_false_iff_ne, bne_iff_ne, bne_eq_false_iff_eq, Bool.not_eq_true', Bool.not_eq_false', Bool.not_eq_true, Bool.not_eq_false] at hc) <;> first | (first | (exact absurd rfl hc) | (exfalso; omega) | (exact absurd (hc.symm.trans (by assumption : _ = false)) (by decide)) | (exact absurd (hc.symm.trans (by assumption : _ = true)) (by decide))) | skip)) | refine loopK.x ?_)
    | (fail)
    | fail
  all_goals first | (exfalso; omega) | skip
  refine JC.loop (fun i => i == 6 || i == 7 || Nat.ble 11 i) (fun m g L => ∃ k : Nat, g 7 = .int .i64 (k : Int) ∧ g 6 = .int .i64 ((sumL n t k : Nat) : Int) ∧ k + m = n ∧ L = _) n ⟨0, rfl, rfl, by omega, rfl⟩ ?_
  rintro m g L ⟨k, e7, e6, hkm, rfl⟩
  refine JC.pin 7 e7 ?_
  refine JC.pin 6 e6 ?_
  rcases Nat.lt_or_ge k n with hk | hk
  ·
    have hs := sumL_s n t k
    have hb := sumL_le n t (k + 1)
    have hp : 2 ^ (k + 1) ≤ 2 ^ 8 := Nat.pow_le_pow_right (by decide) (by omega)
    have hg := outL_get n t hk
    repeat' first
      | (refine J.isJ ?_; first | (first | (refine J.o 4 ?_; refine J.lT default hΓ ?_ (hs := ol.sl) (hr := RdH.hd); rw [hg])) | (first | (refine J.o 0 ?_; refine J.ev' hΓ ?_) | refine J.nil ?_ | (refine J.o 4 ?_; first | refine J.lT default hΓ ?_) | (refine J.o 3 ?_; first | refine J.iJ hΓ ?_ | refine J.ev' hΓ ?_) | (refine J.o 1 ?_; first | refine J.ad ?_) | (refine J.o 10 ?_; refine J.ev' hΓ ?_) | (refine J.o 11 ?_; refine J.ev' hΓ ?_)))
      | (first | refine JC.seq ?_ | refine JC.region ?_ | refine JC.block ?_ | refine JC.ret ?_ | refine JC.exit ?_ | refine JC.skip ?_ | refine thenK.nn ?_ | refine thenK.x ?_ | refine blockK.nn ?_ | refine blockK.hit rfl ?_ | (refine JC.cond rfl (fun hc => ?_) (fun hc => ?_) <;> ((try simp only [decide_eq_true_eq, decide_eq_false_iff_not, beq_iff_eq, beq_eq_false_iff_ne, bne_iff_ne, bne_eq_false_iff_eq, Bool.not_eq_true', Bool.not_eq_false', Bool.not_eq_true, Bool.not_eq_false] at hc) <;> first | (first | (exact absurd rfl hc) | (exfalso; omega) | (exact absurd (hc.symm.trans (by assumption : _ = false)) (by decide)) | (exact absurd (hc.symm.trans (by assumption : _ = true)) (by decide))) | skip)) | refine loopK.x ?_)
      | (fail)
      | fail
    all_goals first | (exfalso; omega) | skip
    refine loopK.nn (m - 1) (by omega) (by repeat (first | refine Ag.upd rfl ?_ | exact Ag.hv)) ⟨k + 1, ?_, ?_, by omega, rfl⟩
    · show Value.int .i64 _ = _; congr 1
    · show Value.int .i64 _ = _; congr 1; omega
  ·
    repeat' first
      | (refine J.isJ ?_; first | (fail) | (first | (refine J.o 0 ?_; refine J.ev' hΓ ?_) | refine J.nil ?_ | (refine J.o 4 ?_; first | refine J.lT default hΓ ?_) | (refine J.o 3 ?_; first | refine J.iJ hΓ ?_ | refine J.ev' hΓ ?_) | (refine J.o 1 ?_; first | refine J.ad ?_) | (refine J.o 10 ?_; refine J.ev' hΓ ?_) | (refine J.o 11 ?_; refine J.ev' hΓ ?_)))
      | (first | refine JC.seq ?_ | refine JC.region ?_ | refine JC.block ?_ | refine JC.ret ?_ | refine JC.exit ?_ | refine JC.skip ?_ | refine thenK.nn ?_ | refine thenK.x ?_ | refine blockK.nn ?_ | refine blockK.hit rfl ?_ | (refine JC.cond rfl (fun hc => ?_) (fun hc => ?_) <;> ((try simp only [decide_eq_true_eq, decide_eq_false_iff_not, beq_iff_eq, beq_eq_false_iff_ne, bne_iff_ne, bne_eq_false_iff_eq, Bool.not_eq_true', Bool.not_eq_false', Bool.not_eq_true, Bool.not_eq_false] at hc) <;> first | (first | (exact absurd rfl hc) | (exfalso; omega) | (exact absurd (hc.symm.trans (by assumption : _ = false)) (by decide)) | (exact absurd (hc.symm.trans (by assumption : _ = true)) (by decide))) | skip)) | refine loopK.x ?_)
      | (fail)
      | fail
    all_goals first | (exfalso; omega) | skip
    obtain rfl : k = n := by omega
    all_goals (refine ret1f rfl rfl rfl (fun w1 hw => ⟨rfl, hw.below⟩))
end Go.Proofs.YthnhijdfcmcnhaaGreat
namespace Go.Proofs.YthnhijdfcmcnhaaGreat
open Go Go.Cx Go.RowKit
set_option linter.unusedVariables false
set_option linter.unusedSimpArgs false
set_option maxHeartbeats 4000000
attribute [local irreducible] J JC thenK blockK loopK drawK retK QW Qt pel List.set Calls
open Go.Maps Go.Lib
set_option maxRecDepth 8000
attribute [local irreducible] JE Br eK0 eK3 brK pc
section
variable {P : Program} {n : Nat} {w0 : World} {R : Heap} {l0 : List Oper} {K : Exit → Fr → List Heap → Prop} {f : Fr} {L : List Heap} {rest : List (Nat × Oper)} {κ : Nat}
variable {Γ : List (Nat × TI)} {d : Nat} {ty : TypeId} {pos : String} {aft : Array Edge} {g : Option (Nat × Bool)}
theorem J.makeC {α : Type} {enc : α → List Value} (z0 : α) {t e : TypeId} {x y : Operand} {m : Nat} {kl kc : IntKind} {s1 s2 b1 b2 : Nat} {z1 : Option Value} {z : Value} {de : TypeDesc} (hΓ : Fits P Γ) (hg : wantB n f l0 ⟨some d, .makeSlice t x y, ty, pos, aft, g⟩ = true)
    (hx : Cx.ev n f x = .int kl 0) (hy : Cx.ev n f y = .int kc (m : Int)) (ht : Go.Cx.look Γ t = some ⟨.slice e, s1, z1, b1⟩) (he : Go.Cx.look Γ e = some ⟨de, s2, some z, b2⟩) (hz : vcells z = some (enc z0)) (hE : ∀ t, (enc t).length = s2) (hb : b2 * m ≤ 281474976710656) (h63 : m ≤ 9223372036854775807)
    (k : ∀ b h, OwT enc s2 e (some ⟨b, 0, none⟩) m ([] : List α) h → J P n w0 R l0 K rest (upd f d (.slice (some ⟨b, 0, none⟩) 0 m)) (h :: L)) : J P n w0 R l0 K ((κ + 2, ⟨some d, .makeSlice t x y, ty, pos, aft, g⟩) :: rest) f L := by
  refine J.vg (Φ := fun v h => ∃ b, v = .slice (some ⟨b, 0, none⟩) 0 m ∧ h = [(b, .cells ⟨zrep m (enc z0)⟩ e (0, 0))]) hg
    (fun w hw => ⟨.slice (some ⟨w.heap.size, 0, none⟩) 0 m, _, w.alloc (.cells ⟨zrep m (enc z0)⟩ e (0, 0)), ?_, hw.alloc _, w.heap.size, rfl, rfl⟩)
    (fun v L' ⟨b, h1, h2⟩ => by
      subst h1; subst h2
      refine k b _ ⟨hE, .inr ⟨b, zrep m (enc z0), rfl, rfl, ?_, Nat.zero_le _, ?_⟩⟩
      · rw [zrep_len, hE]
      · simp)
  have hu := (hΓ t _ ht).1
  obtain ⟨hue, ie, hie, hse, hze, hbe⟩ := hΓ e _ he
  have hb' : (ie.bytes : Int) * (m : Int) ≤ 281474976710656 := by
    have h1 : ((b2 * m : Nat) : Int) ≤ 281474976710656 := by omega
    rw [Int.natCast_mul] at h1
    rw [hbe]
    exact h1
  have hrun := run_make (P := P) w t e ie z hu hie hze kl kc 0 m (by omega) (by omega) hb' (by omega)
  have hmade : madeCells z.cells ((m : Int).toNat * ie.size) = (zrep m (enc z0)).toArray := by
    unfold madeCells
    rw [vcells_eq hz, hse]
    have := made_eq (enc z0) m
    rw [hE] at this
    simpa [hE] using this
  rw [hmade] at hrun
  simp only [execOp, hx, hy, Sem.run_bind]
  rw [hrun]
  rfl
end
def dgF : Nat → Nat → List Nat
  | 0, _ => []
  | f + 1, v => if v = 0 then [] else v % 10 :: dgF f (v / 10)
theorem dec_dg : ∀ f v, decF f v = (dgF f v).map fun d => UInt8.ofNat (48 + d)
  | 0, _ => rfl
  | f + 1, v => by
    rw [decF, dgF]
    split
    · rfl
    · rw [List.map_cons, dec_dg f]
theorem dg_lt : ∀ f v, ∀ d ∈ dgF f v, d < 10
  | 0, _, d, h => by cases h
  | f + 1, v, d, h => by
    rw [dgF] at h
    split at h
    · cases h
    · rcases List.mem_cons.1 h with rfl | h
      · exact Nat.mod_lt _ (by decide)
      · exact dg_lt f _ d h
theorem dg_last : ∀ f v, v ≤ f → ∀ h : dgF f v ≠ [], (dgF f v).getLast h ≠ 0
  | 0, _, _, h => absurd rfl h
  | f + 1, v, hv, h => by
    have h0 : v ≠ 0 := fun e => h (by rw [dgF, if_pos e])
    have e : dgF (f + 1) v = v % 10 :: dgF f (v / 10) := by rw [dgF, if_neg h0]
    by_cases h1 : dgF f (v / 10) = []
    · have h2 : v / 10 = 0 := by
        cases f with
        | zero => omega
        | succ f => rw [dgF] at h1; split at h1; · assumption
                    · cases h1
      have : (dgF (f + 1) v).getLast h = v % 10 := by simp [e, h1]
      rw [this]; omega
    · have : (dgF (f + 1) v).getLast h = (dgF f (v / 10)).getLast h1 := by simp [e, List.getLast_cons h1]
      rw [this]
      exact dg_last f (v / 10) (by omega) h1
theorem eCount30 : Entr Tryz.prog 34 := Entr.of Tryz.func34 rfl rfl
theorem eOf01 : Entr Tryz.prog 69 := Entr.of Tryz.func69 rfl rfl
theorem eForm01 : Entr Tryz.prog 85 := Entr.of Tryz.func85 rfl rfl
def outB (D : List Nat) (q : Nat) : List UInt8 := (D.reverse.take q).map fun d => UInt8.ofNat (48 + d)
theorem outB_s (D : List Nat) {q : Nat} (h : q < D.length) : outB D (q + 1) = outB D q ++ [UInt8.ofNat (48 + D.getD (D.length - 1 - q) 0)] := by
  unfold outB
  rw [List.take_add_one, List.map_append, List.getElem?_reverse h, List.getElem?_eq_getElem (by omega), List.getD_eq_getElem?_getD, List.getElem?_eq_getElem (by omega)]
  rfl
theorem outB_len (D : List Nat) {q : Nat} (h : q ≤ D.length) : (outB D q).length = q := by simp [outB]; omega
theorem outB_n (D : List Nat) : outB D D.length = (D.map fun d => UInt8.ofNat (48 + d)).reverse := by
  unfold outB
  rw [List.take_of_length_le (by simp), List.map_reverse]
theorem form_any (D : List Nat) (hD : ∀ d ∈ D, d < 10) (hlast : ∀ h : D ≠ [], D.getLast h ≠ 0) (hl : D.length ≤ 1000) (a : Option Addr) (c : Nat) (h : Heap) (hs : SlT encI 1 a (natI D) h) (w : World) (hw1 : Holds h w) :
    Calls Tryz.prog 85 #[.slice a D.length c] w fun e w' => e = .returned (.string (S (if D = [] then [48] else (D.map fun d => UInt8.ofNat (48 + d)).reverse))) ∧ Below w.heap.size w w' := by
  have q0 : ∀ L, RdH h L h := fun L => RdH.old fun _ hh => hh
  have hnl := natI_len D
  have hz : 1 < D.length → (((D.getD (D.length - 1) 0 : Nat) : Int) == 0) = false := fun h1 => by
    have hne : D ≠ [] := fun e => by rw [e] at h1; simp at h1
    have := hlast hne
    rw [List.getLast_eq_getElem] at this
    rw [List.getD_eq_getElem?_getD, List.getElem?_eq_getElem (by omega)]
    simpa using this
  refine calls_of_JC (R := h) Tryz.func85 Tryz.ntmps85 rfl rfl (hw1) ?_
  repeat' first
    | (refine J.isJ ?_; first | (fail) | (first | (refine J.o 0 ?_; refine J.ev' hΓ ?_) | refine J.nil ?_ | refine J.kd ?_ | (refine J.o 4 ?_; first | refine J.lT default hΓ ?_) | (refine J.o 3 ?_; first | refine J.iJ hΓ ?_ | refine J.ev' hΓ ?_) | (refine J.o 1 ?_; first | refine J.sb ?_) | (refine J.o 9 ?_; refine J.bl hΓ (fun _ => ?_)) | (refine J.o 10 ?_; refine J.ev' hΓ ?_) | (refine J.o 11 ?_; refine J.ev' hΓ ?_)) | ((fail_if_success refine J.wt ?_); refine J.gc rfl rfl (fun hc => ?_) (fun hc => ?_) <;> ((try simp only [decide_eq_true_eq, decide_eq_false_iff_not, beq_iff_eq, beq_eq_false_iff_ne, bne_iff_ne, bne_eq_false_iff_eq, Bool.not_eq_true', Bool.not_eq_false', Bool.not_eq_true, Bool.not_eq_false] at hc) <;> first | (first | (exact absurd rfl hc) | (exfalso; omega) | (exact absurd (hc.symm.trans (by assumption : _ = false)) (by decide)) | (exact absurd (hc.symm.trans (by assumption : _ = true)) (by decide))) | skip)))
    | (first | refine JC.seq ?_ | refine JC.region ?_ | refine JC.block ?_ | refine JC.ret ?_ | refine JC.exit ?_ | refine JC.skip ?_ | refine thenK.nn ?_ | refine thenK.r ?_ | refine thenK.x ?_ | refine blockK.nn ?_ | refine blockK.hit rfl ?_ | refine JC.condT rfl ?_ | refine JC.condF rfl ?_ | (refine JC.cond rfl (fun hc => ?_) (fun hc => ?_) <;> ((try simp only [decide_eq_true_eq, decide_eq_false_iff_not, beq_iff_eq, beq_eq_false_iff_ne, bne_iff_ne, bne_eq_false_iff_eq, Bool.not_eq_true', Bool.not_eq_false', Bool.not_eq_true, Bool.not_eq_false] at hc) <;> first | (first | (exact absurd rfl hc) | (exfalso; omega) | (exact absurd (hc.symm.trans (by assumption : _ = false)) (by decide)) | (exact absurd (hc.symm.trans (by assumption : _ = true)) (by decide))) | skip)) | refine loopK.x ?_)
    | (fail)
    | fail
  all_goals first | (exfalso; omega) | skip
  refine JC.loop (fun i => i == 3 || Nat.ble 8 i) (fun m g L => g 3 = .int .i64 (D.length : Int) ∧ L = []) 0 ⟨rfl, rfl⟩ ?_
  rintro m g L ⟨e3, rfl⟩
  refine JC.pin 3 e3 ?_
  have hgt : 1 < D.length → (natI D).getD (D.length - 1) default = ((D.getD (D.length - 1) 0 : Nat) : Int) := fun h1 => natI_get D (by omega)
  repeat' first
    | (refine J.isJ ?_; first | (first | (refine J.o 1 ?_; refine J.gsub (b := 1) ?_) | (refine J.o 3 ?_; refine J.iJ hΓ ?_ (hs := hs)) | (refine J.o 4 ?_; refine J.lT default hΓ ?_ (hs := hs) (hr := q0 _); rw [hgt (by omega)]) | (refine J.o 11 ?_; refine J.ev' hΓ ?_; rw [hz (by omega)]) | (refine J.o 9 ?_; refine J.makeC (enc := encB) (m := D.length) (0 : UInt8) hΓ rfl rfl rfl rfl rfl rfl (fun _ => rfl) (by omega) (by omega) (fun bp hp0 op0 => ?_))) | (first | (refine J.o 0 ?_; refine J.ev' hΓ ?_) | refine J.nil ?_ | refine J.kd ?_ | (refine J.o 4 ?_; first | refine J.lT default hΓ ?_) | (refine J.o 3 ?_; first | refine J.iJ hΓ ?_ | refine J.ev' hΓ ?_) | (refine J.o 1 ?_; first | refine J.sb ?_) | (refine J.o 9 ?_; refine J.bl hΓ (fun _ => ?_)) | (refine J.o 10 ?_; refine J.ev' hΓ ?_) | (refine J.o 11 ?_; refine J.ev' hΓ ?_)) | ((fail_if_success refine J.wt ?_); refine J.gc rfl rfl (fun hc => ?_) (fun hc => ?_) <;> ((try simp only [decide_eq_true_eq, decide_eq_false_iff_not, beq_iff_eq, beq_eq_false_iff_ne, bne_iff_ne, bne_eq_false_iff_eq, Bool.not_eq_true', Bool.not_eq_false', Bool.not_eq_true, Bool.not_eq_false] at hc) <;> first | (first | (exact absurd rfl hc) | (exfalso; omega) | (exact absurd (hc.symm.trans (by assumption : _ = false)) (by decide)) | (exact absurd (hc.symm.trans (by assumption : _ = true)) (by decide))) | skip)))
    | (first | refine JC.seq ?_ | refine JC.region ?_ | refine JC.block ?_ | refine JC.ret ?_ | refine JC.exit ?_ | refine JC.skip ?_ | refine thenK.nn ?_ | refine thenK.r ?_ | refine thenK.x ?_ | refine blockK.nn ?_ | refine blockK.hit rfl ?_ | refine JC.condT rfl ?_ | refine JC.condF rfl ?_ | (refine JC.cond rfl (fun hc => ?_) (fun hc => ?_) <;> ((try simp only [decide_eq_true_eq, decide_eq_false_iff_not, beq_iff_eq, beq_eq_false_iff_ne, bne_iff_ne, bne_eq_false_iff_eq, Bool.not_eq_true', Bool.not_eq_false', Bool.not_eq_true, Bool.not_eq_false] at hc) <;> first | (first | (exact absurd rfl hc) | (exfalso; omega) | (exact absurd (hc.symm.trans (by assumption : _ = false)) (by decide)) | (exact absurd (hc.symm.trans (by assumption : _ = true)) (by decide))) | skip)) | refine loopK.x ?_)
    | (fail)
    | fail
  all_goals first | (exfalso; omega) | skip
  all_goals
    refine JC.loop (fun i => i == 4 || i == 5 || Nat.ble 24 i) (fun m g L => ∃ (q : Nat) (aO : Option Addr) (cO : Nat) (hO : Heap), g 5 = .int .i64 ((D.length : Int) - 1 - (q : Int)) ∧ g 4 = .slice aO (outB D q).length cO ∧ q + m = D.length ∧ OwT encB 1 5 aO cO (outB D q) hO ∧ L = [hO]) D.length ⟨0, _, _, _, by show Value.int .i64 _ = _; congr 1; omega, rfl, by omega, op0, rfl⟩ ?_
    rintro m g L ⟨q, aO, cO, hO, e5, e4, hqm, oO, rfl⟩
    refine JC.pin 4 e4 ?_
    have hol := outB_len D (q := q) (by omega)
    rcases Nat.lt_or_ge q D.length with hq | hq
    ·
      have e5' : g 5 = .int .i64 ((D.length - 1 - q : Nat) : Int) := by rw [e5]; congr 1; omega
      refine JC.pin 5 e5' ?_
      have hgq : (natI D).getD (D.length - 1 - q) default = ((D.getD (D.length - 1 - q) 0 : Nat) : Int) := natI_get D (by omega)
      have hd10 := hD _ (mem_g0 D (k := D.length - 1 - q) (by omega))
      have hos := outB_s D hq
      repeat' first
        | (refine J.isJ ?_; first | (first | (refine J.o 3 ?_; refine J.iJ hΓ ?_ (hs := hs)) | (refine J.o 4 ?_; refine J.lT default hΓ ?_ (hs := hs) (hr := q0 _); rw [hgq]) | (refine J.o 1 ?_; first | refine J.gadd (a := 48) ?_ (hw := wI64 (by omega))) | (refine J.o 2 ?_; refine J.gcv hΓ ?_ (hk := wT8 _)) | (refine J.o 9 ?_; first | (first | (refine J.ap1 (enc := encB) [UInt8.ofNat (48 + D.getD (D.length - 1 - q) 0)] hΓ (fun a2 c2 h2 o2 => ?_))))) | (first | (refine J.o 0 ?_; refine J.ev' hΓ ?_) | refine J.nil ?_ | refine J.kd ?_ | (refine J.o 4 ?_; first | refine J.lT default hΓ ?_) | (refine J.o 3 ?_; first | refine J.iJ hΓ ?_ | refine J.ev' hΓ ?_) | (refine J.o 1 ?_; first | refine J.sb ?_) | (refine J.o 9 ?_; refine J.bl hΓ (fun _ => ?_)) | (refine J.o 10 ?_; refine J.ev' hΓ ?_) | (refine J.o 11 ?_; refine J.ev' hΓ ?_)) | ((fail_if_success refine J.wt ?_); refine J.gc rfl rfl (fun hc => ?_) (fun hc => ?_) <;> ((try simp only [decide_eq_true_eq, decide_eq_false_iff_not, beq_iff_eq, beq_eq_false_iff_ne, bne_iff_ne, bne_eq_false_iff_eq, Bool.not_eq_true', Bool.not_eq_false', Bool.not_eq_true, Bool.not_eq_false] at hc) <;> first | (first | (exact absurd rfl hc) | (exfalso; omega) | (exact absurd (hc.symm.trans (by assumption : _ = false)) (by decide)) | (exact absurd (hc.symm.trans (by assumption : _ = true)) (by decide))) | skip)))
        | (first | refine JC.seq ?_ | refine JC.region ?_ | refine JC.block ?_ | refine JC.ret ?_ | refine JC.exit ?_ | refine JC.skip ?_ | refine thenK.nn ?_ | refine thenK.r ?_ | refine thenK.x ?_ | refine blockK.nn ?_ | refine blockK.hit rfl ?_ | refine JC.condT rfl ?_ | refine JC.condF rfl ?_ | (refine JC.cond rfl (fun hc => ?_) (fun hc => ?_) <;> ((try simp only [decide_eq_true_eq, decide_eq_false_iff_not, beq_iff_eq, beq_eq_false_iff_ne, bne_iff_ne, bne_eq_false_iff_eq, Bool.not_eq_true', Bool.not_eq_false', Bool.not_eq_true, Bool.not_eq_false] at hc) <;> first | (first | (exact absurd rfl hc) | (exfalso; omega) | (exact absurd (hc.symm.trans (by assumption : _ = false)) (by decide)) | (exact absurd (hc.symm.trans (by assumption : _ = true)) (by decide))) | skip)) | refine loopK.x ?_)
        | (fail)
        | fail
      all_goals first | (exfalso; omega) | skip
      rw [← hos] at o2
      refine loopK.nn (m - 1) (by omega) (by repeat (first | refine Ag.upd rfl ?_ | exact Ag.hv | refine Ag.hv2 (fun i hi => by simp at hi ⊢; omega) ?_)) ⟨q + 1, a2, c2, h2, ?_, ?_, by omega, o2, rfl⟩
      · show Value.int .i64 _ = _; congr 1; omega
      · show Value.slice _ _ _ = _; rw [hos]
    ·
      obtain rfl : q = D.length := by omega
      refine JC.pin 5 e5 ?_
      have hon := outB_n D
      by_cases h0 : D = []
      ·
        have hl0 : D.length = 0 := by rw [h0]; rfl
        rw [if_pos h0]
        repeat' first
          | (refine J.isJ ?_; first | (fail) | (first | (refine J.o 0 ?_; refine J.ev' hΓ ?_) | refine J.nil ?_ | refine J.kd ?_ | (refine J.o 4 ?_; first | refine J.lT default hΓ ?_) | (refine J.o 3 ?_; first | refine J.iJ hΓ ?_ | refine J.ev' hΓ ?_) | (refine J.o 1 ?_; first | refine J.sb ?_) | (refine J.o 9 ?_; refine J.bl hΓ (fun _ => ?_)) | (refine J.o 10 ?_; refine J.ev' hΓ ?_) | (refine J.o 11 ?_; refine J.ev' hΓ ?_)) | ((fail_if_success refine J.wt ?_); refine J.gc rfl rfl (fun hc => ?_) (fun hc => ?_) <;> ((try simp only [decide_eq_true_eq, decide_eq_false_iff_not, beq_iff_eq, beq_eq_false_iff_ne, bne_iff_ne, bne_eq_false_iff_eq, Bool.not_eq_true', Bool.not_eq_false', Bool.not_eq_true, Bool.not_eq_false] at hc) <;> first | (first | (exact absurd rfl hc) | (exfalso; omega) | (exact absurd (hc.symm.trans (by assumption : _ = false)) (by decide)) | (exact absurd (hc.symm.trans (by assumption : _ = true)) (by decide))) | skip)))
          | (first | refine JC.seq ?_ | refine JC.region ?_ | refine JC.block ?_ | refine JC.ret ?_ | refine JC.exit ?_ | refine JC.skip ?_ | refine thenK.nn ?_ | refine thenK.r ?_ | refine thenK.x ?_ | refine blockK.nn ?_ | refine blockK.hit rfl ?_ | refine JC.condT rfl ?_ | refine JC.condF rfl ?_ | (refine JC.cond rfl (fun hc => ?_) (fun hc => ?_) <;> ((try simp only [decide_eq_true_eq, decide_eq_false_iff_not, beq_iff_eq, beq_eq_false_iff_ne, bne_iff_ne, bne_eq_false_iff_eq, Bool.not_eq_true', Bool.not_eq_false', Bool.not_eq_true, Bool.not_eq_false] at hc) <;> first | (first | (exact absurd rfl hc) | (exfalso; omega) | (exact absurd (hc.symm.trans (by assumption : _ = false)) (by decide)) | (exact absurd (hc.symm.trans (by assumption : _ = true)) (by decide))) | skip)) | refine loopK.x ?_)
          | (fail)
          | fail
        all_goals first | (exfalso; omega) | skip
        all_goals (refine ret1f rfl rfl rfl (fun w1 hw => ⟨rfl, hw.below⟩))
      ·
        have hl0 : D.length ≠ 0 := fun e => h0 (List.eq_nil_of_length_eq_zero e)
        rw [if_neg h0, ← hon]
        repeat' first
          | (refine J.isJ ?_; first | ((refine J.o 2 ?_; refine J.cvS (bs := outB D D.length) hΓ ?_ (hs := oO.sl))) | (first | (refine J.o 0 ?_; refine J.ev' hΓ ?_) | refine J.nil ?_ | refine J.kd ?_ | (refine J.o 4 ?_; first | refine J.lT default hΓ ?_) | (refine J.o 3 ?_; first | refine J.iJ hΓ ?_ | refine J.ev' hΓ ?_) | (refine J.o 1 ?_; first | refine J.sb ?_) | (refine J.o 9 ?_; refine J.bl hΓ (fun _ => ?_)) | (refine J.o 10 ?_; refine J.ev' hΓ ?_) | (refine J.o 11 ?_; refine J.ev' hΓ ?_)) | ((fail_if_success refine J.wt ?_); refine J.gc rfl rfl (fun hc => ?_) (fun hc => ?_) <;> ((try simp only [decide_eq_true_eq, decide_eq_false_iff_not, beq_iff_eq, beq_eq_false_iff_ne, bne_iff_ne, bne_eq_false_iff_eq, Bool.not_eq_true', Bool.not_eq_false', Bool.not_eq_true, Bool.not_eq_false] at hc) <;> first | (first | (exact absurd rfl hc) | (exfalso; omega) | (exact absurd (hc.symm.trans (by assumption : _ = false)) (by decide)) | (exact absurd (hc.symm.trans (by assumption : _ = true)) (by decide))) | skip)))
          | (first | refine JC.seq ?_ | refine JC.region ?_ | refine JC.block ?_ | refine JC.ret ?_ | refine JC.exit ?_ | refine JC.skip ?_ | refine thenK.nn ?_ | refine thenK.r ?_ | refine thenK.x ?_ | refine blockK.nn ?_ | refine blockK.hit rfl ?_ | refine JC.condT rfl ?_ | refine JC.condF rfl ?_ | (refine JC.cond rfl (fun hc => ?_) (fun hc => ?_) <;> ((try simp only [decide_eq_true_eq, decide_eq_false_iff_not, beq_iff_eq, beq_eq_false_iff_ne, bne_iff_ne, bne_eq_false_iff_eq, Bool.not_eq_true', Bool.not_eq_false', Bool.not_eq_true, Bool.not_eq_false] at hc) <;> first | (first | (exact absurd rfl hc) | (exfalso; omega) | (exact absurd (hc.symm.trans (by assumption : _ = false)) (by decide)) | (exact absurd (hc.symm.trans (by assumption : _ = true)) (by decide))) | skip)) | refine loopK.x ?_)
          | (fail)
          | fail
        all_goals first | (exfalso; omega) | skip
        all_goals (refine ret1f rfl rfl rfl (fun w1 hw => ⟨rfl, hw.below⟩))
def m10 (v : Nat) : Nat := v % 10
theorem form_any2 (D : List Nat) (nl : Nat) (hnl : D.length = nl) (hD : ∀ d ∈ D, d < 10) (hlast : ∀ h : D ≠ [], D.getLast h ≠ 0) (hl : D.length ≤ 1000) (a : Option Addr) (c : Nat) (h : Heap) (hs : SlT encI 1 a (natI D) h) (w : World) (hw1 : Holds h w) :
    Calls Tryz.prog 85 #[.slice a nl c] w fun e w' => e = .returned (.string (S (if D = [] then [48] else (D.map fun d => UInt8.ofNat (48 + d)).reverse))) ∧ Below w.heap.size w w' := by
  subst hnl
  exact form_any D hD hlast hl a c h hs w hw1
theorem dg_len : ∀ f v, (dgF f v).length ≤ v
  | 0, _ => Nat.zero_le _
  | f + 1, v => by
    rw [dgF]
    split
    · exact Nat.zero_le _
    · have := dg_len f (v / 10); rw [List.length_cons]; omega
def txt (v : Nat) : List UInt8 := if dgF v v = [] then [48] else ((dgF v v).map fun d => UInt8.ofNat (48 + d)).reverse
theorem of01_any (V : Nat) (hV : V ≤ 1000) (w : World) : Calls Tryz.prog 69 #[.int .u64 (V : Int)] w fun e w' => e = .returned (.string (S (txt V))) ∧ Below w.heap.size w w' := by
  have hdl := dg_len V V
  refine calls_of_JC (R := []) Tryz.func69 Tryz.ntmps69 rfl rfl (Holds.nil _) ?_
  repeat' first
    | (refine J.isJ ?_; first | (fail) | (first | (refine J.o 0 ?_; refine J.ev' hΓ ?_) | refine J.nil ?_ | (refine J.o 3 ?_; first | refine J.ev' hΓ ?_) | (refine J.o 9 ?_; refine J.bl hΓ (fun _ => ?_)) | (refine J.o 10 ?_; refine J.ev' hΓ ?_) | (refine J.o 11 ?_; refine J.ev' hΓ ?_)))
    | (first | refine JC.seq ?_ | refine JC.region ?_ | refine JC.block ?_ | refine JC.ret ?_ | refine JC.exit ?_ | refine JC.skip ?_ | refine thenK.nn ?_ | refine thenK.x ?_ | refine blockK.nn ?_ | refine blockK.hit rfl ?_ | refine JC.condF rfl ?_ | (refine JC.cond rfl (fun hc => ?_) (fun hc => ?_) <;> ((try simp only [decide_eq_true_eq, decide_eq_false_iff_not, beq_iff_eq, beq_eq_false_iff_ne, bne_iff_ne, bne_eq_false_iff_eq, Bool.not_eq_true', Bool.not_eq_false', Bool.not_eq_true, Bool.not_eq_false] at hc) <;> first | (first | (exact absurd rfl hc) | (exfalso; omega) | (exact absurd (hc.symm.trans (by assumption : _ = false)) (by decide)) | (exact absurd (hc.symm.trans (by assumption : _ = true)) (by decide))) | skip)) | refine loopK.x ?_)
    | (fail)
    | fail
  all_goals first | (exfalso; omega) | skip
  refine JC.nilF ?_
  refine JC.loop (fun i => i == 0 || i == 3 || Nat.ble 4 i) (fun m g L => ∃ (v : Nat) (ds : List Nat) (aO : Option Addr) (cO : Nat) (hO : Heap), g 0 = .int .u64 (v : Int) ∧ g 3 = .slice aO (natI ds).length cO ∧ v ≤ m ∧ m ≤ 1000 ∧ ds ++ dgF m v = dgF V V ∧ OwT encI 1 3 aO cO (natI ds) hO ∧ L = [hO]) V ⟨V, [], none, 0, [], rfl, rfl, Nat.le_refl _, hV, rfl, OwT.nil (fun _ => rfl), rfl⟩ ?_
  rintro m g L ⟨v, ds, aO, cO, hO, e0, e3, hvm, hm, hds, oO, rfl⟩
  refine JC.pin 0 e0 ?_
  refine JC.pin 3 e3 ?_
  have hnl := natI_len ds
  have hdsl : ds.length ≤ (dgF V V).length := by rw [← hds, List.length_append]; omega
  rcases Nat.eq_zero_or_pos v with h0 | h0
  ·
    subst h0
    have hz : dgF m 0 = [] := by cases m <;> simp [dgF]
    rw [hz, List.append_nil] at hds
    subst hds
    have cF := fun w hw => form_any2 (dgF V V) (natI (dgF V V)).length (natI_len _).symm (dg_lt V V) (dg_last V V (Nat.le_refl _)) (by omega) aO cO hO oO.sl w hw
    repeat' first
      | (refine J.isJ ?_; first | ((refine J.fc 85 ?_; refine J.call0 eForm01 rfl rfl (fun w hw => cF w (hw.rdH RdH.hd)) ?_)) | (first | (refine J.o 0 ?_; refine J.ev' hΓ ?_) | refine J.nil ?_ | (refine J.o 3 ?_; first | refine J.ev' hΓ ?_) | (refine J.o 9 ?_; refine J.bl hΓ (fun _ => ?_)) | (refine J.o 10 ?_; refine J.ev' hΓ ?_) | (refine J.o 11 ?_; refine J.ev' hΓ ?_)))
      | (first | refine JC.seq ?_ | refine JC.region ?_ | refine JC.block ?_ | refine JC.ret ?_ | refine JC.exit ?_ | refine JC.skip ?_ | refine thenK.nn ?_ | refine thenK.x ?_ | refine blockK.nn ?_ | refine blockK.hit rfl ?_ | refine JC.condF rfl ?_ | (refine JC.cond rfl (fun hc => ?_) (fun hc => ?_) <;> ((try simp only [decide_eq_true_eq, decide_eq_false_iff_not, beq_iff_eq, beq_eq_false_iff_ne, bne_iff_ne, bne_eq_false_iff_eq, Bool.not_eq_true', Bool.not_eq_false', Bool.not_eq_true, Bool.not_eq_false] at hc) <;> first | (first | (exact absurd rfl hc) | (exfalso; omega) | (exact absurd (hc.symm.trans (by assumption : _ = false)) (by decide)) | (exact absurd (hc.symm.trans (by assumption : _ = true)) (by decide))) | skip)) | refine loopK.x ?_)
      | (fail)
      | fail
    all_goals first | (exfalso; omega) | skip
    all_goals (refine ret1f rfl rfl rfl (fun w1 hw => ⟨rfl, hw.below⟩))
  ·
    obtain ⟨m', rfl⟩ : ∃ m', m = m' + 1 := ⟨m - 1, by omega⟩
    have hd : dgF (m' + 1) v = v % 10 :: dgF m' (v / 10) := by rw [dgF, if_neg (by omega)]
    repeat' first
      | (refine J.isJ ?_; first | (first | (refine J.o 1 ?_; first | refine J.grem (b := 10) ?_ | refine J.gquo (b := 10) ?_ (hw := wU64 (by omega))) | (refine J.o 2 ?_; refine J.gcv hΓ ?_ (hk := wI64 (by omega))) | (refine J.o 9 ?_; first | (first | (refine J.ap1 (enc := encI) [((m10 v : Nat) : Int)] hΓ (fun a2 c2 h2 o2 => ?_))))) | (first | (refine J.o 0 ?_; refine J.ev' hΓ ?_) | refine J.nil ?_ | (refine J.o 3 ?_; first | refine J.ev' hΓ ?_) | (refine J.o 9 ?_; refine J.bl hΓ (fun _ => ?_)) | (refine J.o 10 ?_; refine J.ev' hΓ ?_) | (refine J.o 11 ?_; refine J.ev' hΓ ?_)))
      | (first | refine JC.seq ?_ | refine JC.region ?_ | refine JC.block ?_ | refine JC.ret ?_ | refine JC.exit ?_ | refine JC.skip ?_ | refine thenK.nn ?_ | refine thenK.x ?_ | refine blockK.nn ?_ | refine blockK.hit rfl ?_ | refine JC.condF rfl ?_ | (refine JC.cond rfl (fun hc => ?_) (fun hc => ?_) <;> ((try simp only [decide_eq_true_eq, decide_eq_false_iff_not, beq_iff_eq, beq_eq_false_iff_ne, bne_iff_ne, bne_eq_false_iff_eq, Bool.not_eq_true', Bool.not_eq_false', Bool.not_eq_true, Bool.not_eq_false] at hc) <;> first | (first | (exact absurd rfl hc) | (exfalso; omega) | (exact absurd (hc.symm.trans (by assumption : _ = false)) (by decide)) | (exact absurd (hc.symm.trans (by assumption : _ = true)) (by decide))) | skip)) | refine loopK.x ?_)
      | (fail)
      | fail
    all_goals first | (exfalso; omega) | skip
    have hn2 : natI (ds ++ [m10 v]) = natI ds ++ [((m10 v : Nat) : Int)] := by unfold natI; rw [List.map_append]; rfl
    rw [← hn2] at o2
    refine loopK.nn m' (by omega) (by repeat (first | refine Ag.upd rfl ?_ | exact Ag.hv)) ⟨v / 10, ds ++ [m10 v], a2, c2, h2, rfl, ?_, by omega, by omega, by rw [← hds, hd, List.append_assoc]; rfl, o2, rfl⟩
    show Value.slice _ _ _ = _; rw [hn2]
theorem cnt_s (t : List Bool) {q : Nat} (h : q < t.length) : (t.take (q + 1)).count true = (t.take q).count true + (if t.getD q default then 1 else 0) := by
  rw [List.take_add_one, List.getElem?_eq_getElem h, List.getD_eq_getElem?_getD, List.getElem?_eq_getElem h, List.count_append]
  cases t[q] <;> rfl
theorem count30_any (t : List Bool) (hl : t.length ≤ 256) (a : Option Addr) (c : Nat) (h : Heap) (hs : SlT encBo 1 a t h) (w : World) (hw1 : Holds h w) :
    Calls Tryz.prog 34 #[.slice a t.length c] w fun e w' => e = .returned (.string (S (txt (t.count true)))) ∧ Below w.heap.size w w' := by
  have q0 : ∀ L, RdH h L h := fun L => RdH.old fun _ hh => hh
  refine calls_of_JC (R := h) Tryz.func34 Tryz.ntmps34 rfl rfl (hw1) ?_
  repeat' first
    | (refine J.isJ ?_; first | (fail) | (first | (refine J.o 0 ?_; refine J.ev' hΓ ?_) | refine J.nil ?_ | (refine J.o 4 ?_; first | refine J.lT default hΓ ?_) | (refine J.o 3 ?_; first | refine J.iJ hΓ ?_ | refine J.ev' hΓ ?_) | (refine J.o 1 ?_; first | refine J.ad ?_) | (refine J.o 10 ?_; refine J.ev' hΓ ?_) | (refine J.o 11 ?_; refine J.ev' hΓ ?_)))
    | (first | refine JC.seq ?_ | refine JC.region ?_ | refine JC.block ?_ | refine JC.ret ?_ | refine JC.exit ?_ | refine JC.skip ?_ | refine thenK.nn ?_ | refine thenK.x ?_ | refine blockK.nn ?_ | refine blockK.hit rfl ?_ | refine JC.condT rfl ?_ | refine JC.condF rfl ?_ | (refine JC.cond rfl (fun hc => ?_) (fun hc => ?_) <;> ((try simp only [decide_eq_true_eq, decide_eq_false_iff_not, beq_iff_eq, beq_eq_false_iff_ne, bne_iff_ne, bne_eq_false_iff_eq, Bool.not_eq_true', Bool.not_eq_false', Bool.not_eq_true, Bool.not_eq_false] at hc) <;> first | (first | (exact absurd rfl hc) | (exfalso; omega) | (exact absurd (hc.symm.trans (by assumption : _ = false)) (by decide)) | (exact absurd (hc.symm.trans (by assumption : _ = true)) (by decide))) | skip)) | refine loopK.x ?_)
    | (fail)
    | fail
  all_goals first | (exfalso; omega) | skip
  refine JC.loop (fun i => i == 3 || i == 4 || Nat.ble 5 i) (fun m g L => ∃ q : Nat, g 4 = .int .i64 (q : Int) ∧ g 3 = .int .u64 (((t.take q).count true : Nat) : Int) ∧ q + m = t.length ∧ L = []) t.length ⟨0, rfl, rfl, by omega, rfl⟩ ?_
  rintro m g L ⟨q, e4, e3, hqm, rfl⟩
  refine JC.pin 4 e4 ?_
  refine JC.pin 3 e3 ?_
  rcases Nat.lt_or_ge q t.length with hq | hq
  ·
    have hcs := cnt_s t hq
    have hle : (t.take q).count true ≤ 256 := by have := List.count_le_length (a := true) (l := t.take q); rw [List.length_take] at this; omega
    cases hb : t.getD q default with
    | true =>
      rw [hb, if_pos rfl] at hcs
      repeat' first
        | (refine J.isJ ?_; first | (first | (refine J.o 1 ?_; refine J.gadd (b := 1) ?_ (hw := wU64 (by omega))) | (refine J.o 3 ?_; refine J.iJ hΓ ?_ (hs := hs)) | (refine J.o 4 ?_; refine J.lT default hΓ ?_ (hs := hs) (hr := q0 _); rw [hb])) | (first | (refine J.o 0 ?_; refine J.ev' hΓ ?_) | refine J.nil ?_ | (refine J.o 4 ?_; first | refine J.lT default hΓ ?_) | (refine J.o 3 ?_; first | refine J.iJ hΓ ?_ | refine J.ev' hΓ ?_) | (refine J.o 1 ?_; first | refine J.ad ?_) | (refine J.o 10 ?_; refine J.ev' hΓ ?_) | (refine J.o 11 ?_; refine J.ev' hΓ ?_)))
        | (first | refine JC.seq ?_ | refine JC.region ?_ | refine JC.block ?_ | refine JC.ret ?_ | refine JC.exit ?_ | refine JC.skip ?_ | refine thenK.nn ?_ | refine thenK.x ?_ | refine blockK.nn ?_ | refine blockK.hit rfl ?_ | refine JC.condT rfl ?_ | refine JC.condF rfl ?_ | (refine JC.cond rfl (fun hc => ?_) (fun hc => ?_) <;> ((try simp only [decide_eq_true_eq, decide_eq_false_iff_not, beq_iff_eq, beq_eq_false_iff_ne, bne_iff_ne, bne_eq_false_iff_eq, Bool.not_eq_true', Bool.not_eq_false', Bool.not_eq_true, Bool.not_eq_false] at hc) <;> first | (first | (exact absurd rfl hc) | (exfalso; omega) | (exact absurd (hc.symm.trans (by assumption : _ = false)) (by decide)) | (exact absurd (hc.symm.trans (by assumption : _ = true)) (by decide))) | skip)) | refine loopK.x ?_)
        | (fail)
        | fail
      all_goals first | (exfalso; omega) | skip
      refine loopK.nn (m - 1) (by omega) (by repeat (first | refine Ag.upd rfl ?_ | exact Ag.hv)) ⟨q + 1, ?_, ?_, by omega, rfl⟩
      · show Value.int .i64 _ = _; congr 1
      · show Value.int .u64 _ = _; rw [hcs]
    | false =>
      rw [hb, if_neg (by decide), Nat.add_zero] at hcs
      repeat' first
        | (refine J.isJ ?_; first | (first | (refine J.o 3 ?_; refine J.iJ hΓ ?_ (hs := hs)) | (refine J.o 4 ?_; refine J.lT default hΓ ?_ (hs := hs) (hr := q0 _); rw [hb])) | (first | (refine J.o 0 ?_; refine J.ev' hΓ ?_) | refine J.nil ?_ | (refine J.o 4 ?_; first | refine J.lT default hΓ ?_) | (refine J.o 3 ?_; first | refine J.iJ hΓ ?_ | refine J.ev' hΓ ?_) | (refine J.o 1 ?_; first | refine J.ad ?_) | (refine J.o 10 ?_; refine J.ev' hΓ ?_) | (refine J.o 11 ?_; refine J.ev' hΓ ?_)))
        | (first | refine JC.seq ?_ | refine JC.region ?_ | refine JC.block ?_ | refine JC.ret ?_ | refine JC.exit ?_ | refine JC.skip ?_ | refine thenK.nn ?_ | refine thenK.x ?_ | refine blockK.nn ?_ | refine blockK.hit rfl ?_ | refine JC.condT rfl ?_ | refine JC.condF rfl ?_ | (refine JC.cond rfl (fun hc => ?_) (fun hc => ?_) <;> ((try simp only [decide_eq_true_eq, decide_eq_false_iff_not, beq_iff_eq, beq_eq_false_iff_ne, bne_iff_ne, bne_eq_false_iff_eq, Bool.not_eq_true', Bool.not_eq_false', Bool.not_eq_true, Bool.not_eq_false] at hc) <;> first | (first | (exact absurd rfl hc) | (exfalso; omega) | (exact absurd (hc.symm.trans (by assumption : _ = false)) (by decide)) | (exact absurd (hc.symm.trans (by assumption : _ = true)) (by decide))) | skip)) | refine loopK.x ?_)
        | (fail)
        | fail
      all_goals first | (exfalso; omega) | skip
      refine loopK.nn (m - 1) (by omega) (by repeat (first | refine Ag.upd rfl ?_ | exact Ag.hv)) ⟨q + 1, ?_, ?_, by omega, rfl⟩
      · show Value.int .i64 _ = _; congr 1
      · show Value.int .u64 _ = _; rw [hcs]; rfl
  ·
    have hqe : q = t.length := by omega
    have hct : t.take q = t := List.take_of_length_le (by omega)
    rw [hct]
    have hcl := List.count_le_length (a := true) (l := t)
    repeat' first
      | (refine J.isJ ?_; first | ((refine J.fc 69 ?_; refine J.call0 eOf01 rfl rfl (fun w hw => of01_any (t.count true) (by omega) w) ?_)) | (first | (refine J.o 0 ?_; refine J.ev' hΓ ?_) | refine J.nil ?_ | (refine J.o 4 ?_; first | refine J.lT default hΓ ?_) | (refine J.o 3 ?_; first | refine J.iJ hΓ ?_ | refine J.ev' hΓ ?_) | (refine J.o 1 ?_; first | refine J.ad ?_) | (refine J.o 10 ?_; refine J.ev' hΓ ?_) | (refine J.o 11 ?_; refine J.ev' hΓ ?_)))
      | (first | refine JC.seq ?_ | refine JC.region ?_ | refine JC.block ?_ | refine JC.ret ?_ | refine JC.exit ?_ | refine JC.skip ?_ | refine thenK.nn ?_ | refine thenK.x ?_ | refine blockK.nn ?_ | refine blockK.hit rfl ?_ | refine JC.condT rfl ?_ | refine JC.condF rfl ?_ | (refine JC.cond rfl (fun hc => ?_) (fun hc => ?_) <;> ((try simp only [decide_eq_true_eq, decide_eq_false_iff_not, beq_iff_eq, beq_eq_false_iff_ne, bne_iff_ne, bne_eq_false_iff_eq, Bool.not_eq_true', Bool.not_eq_false', Bool.not_eq_true, Bool.not_eq_false] at hc) <;> first | (first | (exact absurd rfl hc) | (exfalso; omega) | (exact absurd (hc.symm.trans (by assumption : _ = false)) (by decide)) | (exact absurd (hc.symm.trans (by assumption : _ = true)) (by decide))) | skip)) | refine loopK.x ?_)
      | (fail)
      | fail
    all_goals first | (exfalso; omega) | skip
    all_goals (refine ret1f rfl rfl rfl (fun w1 hw => ⟨rfl, hw.below⟩))
end Go.Proofs.YthnhijdfcmcnhaaGreat
namespace Go.Proofs.YthnhijdfcmcnhaaGreat
open Go Go.Cx Go.RowKit
set_option linter.unusedVariables false
set_option linter.unusedSimpArgs false
set_option maxHeartbeats 4000000
attribute [local irreducible] J JC thenK blockK loopK drawK retK QW Qt pel List.set Calls
open Go.Maps Go.Lib
set_option maxRecDepth 8000
attribute [local irreducible] JE Br eK0 eK3 brK pc
theorem fn_lt {n : Nat} {ns : List N3} (w : WF n ns) {a b : Nat → Bool} : ∀ (m i : Nat), n - (nd ns i).p ≤ m → i < ns.length → (∀ k, k < n → a k = b k) → fn n ns i a = fn n ns i b
  | m, i, hm, hi, hab => by
    rcases Nat.lt_or_ge i 2 with h2 | h2
    · unfold fn; rw [ev_const _ _ _ h2, ev_const _ _ _ h2]
    · have hp := w.pl i h2 hi
      have hl := w.lp i h2 hi
      have hh := w.hp i h2 hi
      obtain ⟨m', rfl⟩ : ∃ m', m = m' + 1 := ⟨m - 1, by omega⟩
      rw [fn_node w a h2 hi, fn_node w b h2 hi, hab _ hp, fn_lt w m' _ (by omega) (w.ll i h2 hi) hab, fn_lt w m' _ (by omega) (w.hl i h2 hi) hab]
theorem asg_of (n : Nat) (α : Nat → Bool) {k : Nat} (hk : k < n) : asg n (idxQ α n n) k = α k := by
  unfold asg
  rw [(idxQ_ok _ _ _ (Nat.le_refl _)).2 k hk, decide_eq_true hk]; rfl
theorem fn_asg {n : Nat} {ns : List N3} (w : WF n ns) {i : Nat} (hi : i < ns.length) (α : Nat → Bool) : fn n ns i α = fn n ns i (asg n (idxQ α n n)) :=
  fn_lt w _ i (Nat.le_refl _) hi fun k hk => (asg_of n α hk).symm
theorem tab_fn_eq {n : Nat} {ns : List N3} (w : WF n ns) {i j : Nat} (hi : i < ns.length) (hj : j < ns.length) {g h : BF} (hg : ∀ α, fn n ns i α = g α) (hh : ∀ α, fn n ns j α = h α) (e : tabF n g = tabF n h) : i = j := by
  refine w.eq hi hj fun α => ?_
  have hlt := (idxQ_ok α n n (Nat.le_refl _)).1
  rw [fn_asg w hi, fn_asg w hj, hg, hh, ← tabF_get n g hlt, ← tabF_get n h hlt, e]
theorem Kn.tab_iff {n : Nat} {K : KS} {s : SS} {ks : List (Nat × BF)} (k : Kn n K s ks) {a b : Nat} {g h : BF} (ha : a < s.ns.length) (hga : ∀ α, fn n s.ns a α = g α) (hb : b < s.ns.length) (hgb : ∀ α, fn n s.ns b α = h α) : tabF n g = tabF n h ↔ a = b := by
  constructor
  · exact tab_fn_eq k.so.wf ha hb hga hgb
  · rintro rfl
    have : g = h := funext fun α => by rw [← hga, ← hgb]
    rw [this]
theorem fn_low {n : Nat} {ns : List N3} (w : WF n ns) {i : Nat} (h2 : 2 ≤ i) (hi : i < ns.length) {g : BF} (hg : ∀ α, fn n ns i α = g α) (α : Nat → Bool) : fn n ns (nd ns i).l α = g (up α (nd ns i).p false) := by
  rw [← hg, fn_node w _ h2 hi, up_eq]
  exact (fn_up w α false (w.ll i h2 hi) (w.lp i h2 hi)).symm
theorem fn_high {n : Nat} {ns : List N3} (w : WF n ns) {i : Nat} (h2 : 2 ≤ i) (hi : i < ns.length) {g : BF} (hg : ∀ α, fn n ns i α = g α) (α : Nat → Bool) : fn n ns (nd ns i).h α = g (up α (nd ns i).p true) := by
  rw [← hg, fn_node w _ h2 hi, up_eq]
  exact (fn_up w α true (w.hl i h2 hi) (w.hp i h2 hi)).symm
def gv (g : BF) (k : Nat) (b : Bool) : BF := fun α => g (up α k b)
theorem top_lt {n : Nat} {ns : List N3} (w : WF n ns) {i : Nat} (hi : i < ns.length) {g : BF} (hg : ∀ α, fn n ns i α = g α) {k : Nat} (hk : k < (nd ns i).p) : tabF n (gv g k false) = tabF n (gv g k true) := by
  have : gv g k false = gv g k true := funext fun α => by
    unfold gv
    rw [← hg, ← hg, fn_up w α false hi hk, fn_up w α true hi hk]
  rw [this]
theorem top_at {n : Nat} {ns : List N3} (w : WF n ns) {i : Nat} (h2 : 2 ≤ i) (hi : i < ns.length) {g : BF} (hg : ∀ α, fn n ns i α = g α) : tabF n (gv g (nd ns i).p false) ≠ tabF n (gv g (nd ns i).p true) := fun e =>
  w.ne i h2 hi (tab_fn_eq w (w.ll i h2 hi) (w.hl i h2 hi) (fn_low w h2 hi hg) (fn_high w h2 hi hg) e)
theorem decN_dg (v : Nat) : decN v = (dgF v v).map fun d => UInt8.ofNat (48 + d) := dec_dg v v
theorem txt_pos {v : Nat} (h : 0 < v) : txt v = (decN v).reverse := by
  unfold txt
  have h0 : dgF v v ≠ [] := by
    obtain ⟨f, rfl⟩ : ∃ f, v = f + 1 := ⟨v - 1, by omega⟩
    rw [dgF, if_neg (by omega)]; exact List.cons_ne_nil _ _
  rw [if_neg h0, decN_dg]
theorem txt_zero : txt 0 = [48] := rfl
theorem textV_any (v : Nat) (hv : v < 1000000000) (w : World) : Calls Tryz.prog 33 #[natV v] w fun e w' => e = .returned (.string (S (txt v))) ∧ Below w.heap.size w w' := by
  rcases Nat.eq_zero_or_pos v with rfl | h0
  · rw [txt_zero]; exact text_zero w
  · rw [txt_pos h0]; exact text_any v h0 hv w
theorem cntF_tab (n : Nat) (g : BF) : cntF n g = (tabF n g).count true := rfl
theorem Bel.size {n : Nat} {ns : List N3} (w : WF n ns) {a : Nat} (ha : a < ns.length) {l : List Int} (b : Bel ns a l) {g : BF} (hg : ∀ α, fn n ns a α = g α) : l.length = sizeT n (tabF n g) := by
  have : tab n ns a = tabF n g := by
    unfold tab blk tabF
    exact List.map_congr_left fun r _ => hg _
  rw [← this]
  exact size_eq w ha b.nodup b.mem
end Go.Proofs.YthnhijdfcmcnhaaGreat
namespace Go.Proofs.YthnhijdfcmcnhaaGreat
open Go Go.Cx Go.RowKit
set_option linter.unusedVariables false
set_option linter.unusedSimpArgs false
set_option maxHeartbeats 4000000
attribute [local irreducible] J JC thenK blockK loopK drawK retK QW Qt pel List.set Calls
open Go.Maps Go.Lib
set_option maxRecDepth 8000
attribute [local irreducible] JE Br eK0 eK3 brK pc
section
variable {P : Program} {n : Nat} {w0 : World} {R : Heap} {l0 : List Oper} {K : Exit → Fr → List Heap → Prop} {f : Fr} {L : List Heap} {rest : List (Nat × Oper)} {κ : Nat}
variable {d : Nat} {ty : TypeId} {pos : String} {aft : Array Edge} {g : Option (Nat × Bool)} {t u : TypeId} {x y : Operand}
theorem J.neSF {a b : List UInt8} (h : a = b) (k : J P n w0 R l0 K rest (upd f d (.bool false)) L) (hg : wantB n f l0 ⟨some d, .binOp .neq t x y u, ty, pos, aft, g⟩ = true := by exact rfl) (hx : Cx.ev n f x = .string (S a) := by exact rfl) (hy : Cx.ev n f y = .string (S b) := by exact rfl) :
    J P n w0 R l0 K ((κ, ⟨some d, .binOp .neq t x y u, ty, pos, aft, g⟩) :: rest) f L := by
  subst h
  have e : (!(a == a)) = false := by simp
  rw [← e] at k
  exact J.neS hg hx hy k
theorem J.eqT2 {Γ : List (Nat × TI)} {a b : Nat} (hΓ : Fits P Γ) (h : a = b) (k : J P n w0 R l0 K rest (upd f d (.bool true)) L) (hg : wantB n f l0 ⟨some d, .binOp .eql t x y u, ty, pos, aft, g⟩ = true := by exact rfl) (hx : Cx.ev n f x = .int .i64 (a : Int) := by exact rfl) (hy : Cx.ev n f y = .int .i64 (b : Int) := by exact rfl) (hv : pureEv Γ (Cx.ev n f) (.binOp .eql t x y u) = some (.bool ((a : Int) == (b : Int))) := by exact rfl) : J P n w0 R l0 K ((κ, ⟨some d, .binOp .eql t x y u, ty, pos, aft, g⟩) :: rest) f L := by
  subst h
  have e : ((a : Int) == (a : Int)) = true := by simp
  rw [e] at hv
  exact J.ev hΓ hg hv k
theorem J.eqF2 {Γ : List (Nat × TI)} {a b : Nat} (hΓ : Fits P Γ) (h : a ≠ b) (k : J P n w0 R l0 K rest (upd f d (.bool false)) L) (hg : wantB n f l0 ⟨some d, .binOp .eql t x y u, ty, pos, aft, g⟩ = true := by exact rfl) (hx : Cx.ev n f x = .int .i64 (a : Int) := by exact rfl) (hy : Cx.ev n f y = .int .i64 (b : Int) := by exact rfl) (hv : pureEv Γ (Cx.ev n f) (.binOp .eql t x y u) = some (.bool ((a : Int) == (b : Int))) := by exact rfl) : J P n w0 R l0 K ((κ, ⟨some d, .binOp .eql t x y u, ty, pos, aft, g⟩) :: rest) f L := by
  have e : ((a : Int) == (b : Int)) = false := by simp; omega
  rw [e] at hv
  exact J.ev hΓ hg hv k
theorem J.eqIT {Γ : List (Nat × TI)} {a b : Int} (hΓ : Fits P Γ) (h : a = b) (k : J P n w0 R l0 K rest (upd f d (.bool true)) L) (hg : wantB n f l0 ⟨some d, .binOp .eql t x y u, ty, pos, aft, g⟩ = true := by exact rfl) (hx : Cx.ev n f x = .int .i64 a := by exact rfl) (hy : Cx.ev n f y = .int .i64 b := by exact rfl) (hv : pureEv Γ (Cx.ev n f) (.binOp .eql t x y u) = some (.bool (a == b)) := by exact rfl) : J P n w0 R l0 K ((κ, ⟨some d, .binOp .eql t x y u, ty, pos, aft, g⟩) :: rest) f L := by
  subst h
  have e : (a == a) = true := by simp
  rw [e] at hv
  exact J.ev hΓ hg hv k
end
theorem eTop : Entr Tryz.prog 31 := Entr.of Tryz.func31 rfl rfl
theorem eEqual : Entr Tryz.prog 35 := Entr.of Tryz.func35 rfl rfl
theorem eShows : Entr Tryz.prog 8 := Entr.of Tryz.func8 rfl rfl
theorem top_any (n : Nat) (h8 : n ≤ 8) (ao : Option Addr) (co : Nat) (g : BF) (q : Nat) (hqn : q ≤ n) (hlt : ∀ k, k < q → tabF n (gv g k false) = tabF n (gv g k true)) (hne : q < n → tabF n (gv g q false) ≠ tabF n (gv g q true)) (af : Option Addr) (cf : Nat) (h : Heap) (sf : SlT encBo 1 af (tabF n g) h) (w : World) (hw1 : Holds h w) :
    Calls Tryz.prog 31 #[.slice ao n co, .slice af (2 ^ n) cf] w fun e w' => e = .returned (.int .i64 (if q < n then (q : Int) else -1)) ∧ Below w.heap.size w w' := by
  have h2n := pow8 h8
  have q0 : ∀ L, RdH h L h := fun L => RdH.old fun _ hh => hh
  refine calls_of_JC (R := h) Tryz.func31 Tryz.ntmps31 rfl rfl (hw1) ?_
  repeat' first
    | (refine J.isJ ?_; first | (fail) | (first | (refine J.o 0 ?_; refine J.ev' hΓ ?_) | refine J.nil ?_ | (refine J.o 3 ?_; first | refine J.ev' hΓ ?_) | (refine J.o 1 ?_; first | refine J.ad ?_) | (refine J.o 10 ?_; refine J.ev' hΓ ?_) | (refine J.o 11 ?_; refine J.ev' hΓ ?_)))
    | (first | refine JC.seq ?_ | refine JC.region ?_ | refine JC.block ?_ | refine JC.ret ?_ | refine JC.exit ?_ | refine JC.skip ?_ | refine thenK.nn ?_ | refine thenK.r ?_ | refine thenK.x ?_ | refine blockK.nn ?_ | refine blockK.r ?_ | refine blockK.hit rfl ?_ | refine JC.condT rfl ?_ | refine JC.condF rfl ?_ | (refine JC.cond rfl (fun hc => ?_) (fun hc => ?_) <;> ((try simp only [decide_eq_true_eq, decide_eq_false_iff_not, beq_iff_eq, beq_eq_false_iff_ne, bne_iff_ne, bne_eq_false_iff_eq, Bool.not_eq_true', Bool.not_eq_false', Bool.not_eq_true, Bool.not_eq_false] at hc) <;> first | (first | (exact absurd rfl hc) | (exfalso; omega) | (exact absurd (hc.symm.trans (by assumption : _ = false)) (by decide)) | (exact absurd (hc.symm.trans (by assumption : _ = true)) (by decide))) | skip)) | refine loopK.r ?_ | refine loopK.x ?_)
    | (fail)
    | fail
  all_goals first | (exfalso; omega) | skip
  refine JC.loop (fun i => i == 5 || Nat.ble 6 i) (fun m gg L => ∃ k : Nat, gg 5 = .int .i64 (k : Int) ∧ k + m = q ∧ L = []) q ⟨0, rfl, by omega, rfl⟩ ?_
  rintro m gg L ⟨k, e5, hkm, rfl⟩
  refine JC.pin 5 e5 ?_
  rcases Nat.lt_or_ge k n with hkn | hkn
  ·
    have cF := fun w hw => givF_any n h8 ao co k hkn g af cf h sf w hw
    have cT := fun w hw => givT_any n h8 ao co k hkn g af cf h sf w hw
    rcases Nat.lt_or_ge k q with hkq | hkq
    ·
      have hd : decide (tabF n (gv g k false) = tabF n (gv g k true)) = true := decide_eq_true (hlt k hkq)
      repeat' first
        | (refine J.isJ ?_; first | (first | (refine J.fc 36 ?_; first | (refine J.call1 eGiven rfl rfl (fun w hw => cF w (hw.rdH (q0 _))) ?_; rintro _ h1 ⟨a1, c1, rfl, o1⟩) | (refine J.call1 eGiven rfl rfl (fun w hw => cT w (hw.rdH (q0 _))) ?_; rintro _ h2 ⟨a2, c2, rfl, o2⟩)) | (refine J.fc 63 ?_; refine J.call0 eSame rfl rfl (fun w hw => sameL_any (tabF n (gv g k false)) (tabF n (gv g k true)) (2 ^ n) (2 ^ n) (tabF_len _ _) (tabF_len _ _) a1 a2 c1 c2 (h2 ++ h1) (o1.sl.sub fun x hx => List.mem_append_right _ hx) (o2.sl.sub fun x hx => List.mem_append_left _ hx) (by rw [tabF_len]; omega) (by rw [tabF_len]; omega) w ((hw.rdH RdH.hd).append (hw.rdH RdH.hd.tl))) ?_; rw [hd])) | (first | (refine J.o 0 ?_; refine J.ev' hΓ ?_) | refine J.nil ?_ | (refine J.o 3 ?_; first | refine J.ev' hΓ ?_) | (refine J.o 1 ?_; first | refine J.ad ?_) | (refine J.o 10 ?_; refine J.ev' hΓ ?_) | (refine J.o 11 ?_; refine J.ev' hΓ ?_)))
        | (first | refine JC.seq ?_ | refine JC.region ?_ | refine JC.block ?_ | refine JC.ret ?_ | refine JC.exit ?_ | refine JC.skip ?_ | refine thenK.nn ?_ | refine thenK.r ?_ | refine thenK.x ?_ | refine blockK.nn ?_ | refine blockK.r ?_ | refine blockK.hit rfl ?_ | refine JC.condT rfl ?_ | refine JC.condF rfl ?_ | (refine JC.cond rfl (fun hc => ?_) (fun hc => ?_) <;> ((try simp only [decide_eq_true_eq, decide_eq_false_iff_not, beq_iff_eq, beq_eq_false_iff_ne, bne_iff_ne, bne_eq_false_iff_eq, Bool.not_eq_true', Bool.not_eq_false', Bool.not_eq_true, Bool.not_eq_false] at hc) <;> first | (first | (exact absurd rfl hc) | (exfalso; omega) | (exact absurd (hc.symm.trans (by assumption : _ = false)) (by decide)) | (exact absurd (hc.symm.trans (by assumption : _ = true)) (by decide))) | skip)) | refine loopK.r ?_ | refine loopK.x ?_)
        | (fail)
        | fail
      all_goals first | (exfalso; omega) | skip
      refine loopK.np (m - 1) [h2, h1] _ (by omega) (by repeat (first | refine Ag.upd rfl ?_ | exact Ag.hv)) (List.Perm.refl _) ⟨k + 1, ?_, by omega, rfl⟩
      show Value.int .i64 _ = _; congr 1
    ·
      obtain rfl : k = q := by omega
      have hd : decide (tabF n (gv g k false) = tabF n (gv g k true)) = false := decide_eq_false (hne hkn)
      rw [if_pos hkn]
      repeat' first
        | (refine J.isJ ?_; first | (first | (refine J.fc 36 ?_; first | (refine J.call1 eGiven rfl rfl (fun w hw => cF w (hw.rdH (q0 _))) ?_; rintro _ h1 ⟨a1, c1, rfl, o1⟩) | (refine J.call1 eGiven rfl rfl (fun w hw => cT w (hw.rdH (q0 _))) ?_; rintro _ h2 ⟨a2, c2, rfl, o2⟩)) | (refine J.fc 63 ?_; refine J.call0 eSame rfl rfl (fun w hw => sameL_any (tabF n (gv g k false)) (tabF n (gv g k true)) (2 ^ n) (2 ^ n) (tabF_len _ _) (tabF_len _ _) a1 a2 c1 c2 (h2 ++ h1) (o1.sl.sub fun x hx => List.mem_append_right _ hx) (o2.sl.sub fun x hx => List.mem_append_left _ hx) (by rw [tabF_len]; omega) (by rw [tabF_len]; omega) w ((hw.rdH RdH.hd).append (hw.rdH RdH.hd.tl))) ?_; rw [hd])) | (first | (refine J.o 0 ?_; refine J.ev' hΓ ?_) | refine J.nil ?_ | (refine J.o 3 ?_; first | refine J.ev' hΓ ?_) | (refine J.o 1 ?_; first | refine J.ad ?_) | (refine J.o 10 ?_; refine J.ev' hΓ ?_) | (refine J.o 11 ?_; refine J.ev' hΓ ?_)))
        | (first | refine JC.seq ?_ | refine JC.region ?_ | refine JC.block ?_ | refine JC.ret ?_ | refine JC.exit ?_ | refine JC.skip ?_ | refine thenK.nn ?_ | refine thenK.r ?_ | refine thenK.x ?_ | refine blockK.nn ?_ | refine blockK.r ?_ | refine blockK.hit rfl ?_ | refine JC.condT rfl ?_ | refine JC.condF rfl ?_ | (refine JC.cond rfl (fun hc => ?_) (fun hc => ?_) <;> ((try simp only [decide_eq_true_eq, decide_eq_false_iff_not, beq_iff_eq, beq_eq_false_iff_ne, bne_iff_ne, bne_eq_false_iff_eq, Bool.not_eq_true', Bool.not_eq_false', Bool.not_eq_true, Bool.not_eq_false] at hc) <;> first | (first | (exact absurd rfl hc) | (exfalso; omega) | (exact absurd (hc.symm.trans (by assumption : _ = false)) (by decide)) | (exact absurd (hc.symm.trans (by assumption : _ = true)) (by decide))) | skip)) | refine loopK.r ?_ | refine loopK.x ?_)
        | (fail)
        | fail
      all_goals first | (exfalso; omega) | skip
      all_goals (refine ret1f rfl rfl rfl (fun w1 hw => ⟨rfl, hw.below⟩))
  ·
    rw [if_neg (by omega)]
    repeat' first
      | (refine J.isJ ?_; first | (fail) | (first | (refine J.o 0 ?_; refine J.ev' hΓ ?_) | refine J.nil ?_ | (refine J.o 3 ?_; first | refine J.ev' hΓ ?_) | (refine J.o 1 ?_; first | refine J.ad ?_) | (refine J.o 10 ?_; refine J.ev' hΓ ?_) | (refine J.o 11 ?_; refine J.ev' hΓ ?_)))
      | (first | refine JC.seq ?_ | refine JC.region ?_ | refine JC.block ?_ | refine JC.ret ?_ | refine JC.exit ?_ | refine JC.skip ?_ | refine thenK.nn ?_ | refine thenK.r ?_ | refine thenK.x ?_ | refine blockK.nn ?_ | refine blockK.r ?_ | refine blockK.hit rfl ?_ | refine JC.condT rfl ?_ | refine JC.condF rfl ?_ | (refine JC.cond rfl (fun hc => ?_) (fun hc => ?_) <;> ((try simp only [decide_eq_true_eq, decide_eq_false_iff_not, beq_iff_eq, beq_eq_false_iff_ne, bne_iff_ne, bne_eq_false_iff_eq, Bool.not_eq_true', Bool.not_eq_false', Bool.not_eq_true, Bool.not_eq_false] at hc) <;> first | (first | (exact absurd rfl hc) | (exfalso; omega) | (exact absurd (hc.symm.trans (by assumption : _ = false)) (by decide)) | (exact absurd (hc.symm.trans (by assumption : _ = true)) (by decide))) | skip)) | refine loopK.r ?_ | refine loopK.x ?_)
      | (fail)
      | fail
    all_goals first | (exfalso; omega) | skip
    all_goals (refine ret1f rfl rfl rfl (fun w1 hw => ⟨rfl, hw.below⟩))
theorem equal_any {n : Nat} {K : KS} {s : SS} {A : List Nat} {vs : List TV} {aA aF : Option Addr} {cA cF : Nat} {hA hF hI : Heap} (st : RunS n K s A vs aA aF cA cF hA hF hI) (h6 : n ≤ 6) (hlen : A.length ≤ 40) (b0 y : Nat) (hy : y < s.ns.length) (g : BF) (hg : ∀ α, fn n s.ns y α = g α) (ag : Option Addr) (cg : Nat) (hh : Heap) (sg : SlT encBo 1 ag (tabF n g) hh) (w : World) (hw1 : Holds (hA ++ (hF ++ (hI ++ hh))) w) :
    Calls Tryz.prog 35 #[runV b0 aA (natI A).length cA aF vs.length cF false, .int .i64 (y : Int), .slice ag (2 ^ n) cg] w fun e w' => e = .returned (.bool true) ∧ Below w.heap.size w w' := by
  have h2n : 2 ^ n ≤ 2 ^ 6 := Nat.pow_le_pow_right (by omega) h6
  have qA : ∀ L, RdH (hA ++ (hF ++ (hI ++ hh))) L hA := fun L => RdH.old fun _ hx => List.mem_append_left _ hx
  have qF : ∀ L, RdH (hA ++ (hF ++ (hI ++ hh))) L hF := fun L => RdH.old fun _ hx => List.mem_append_right _ (List.mem_append_left _ hx)
  have qI : ∀ L, RdH (hA ++ (hF ++ (hI ++ hh))) L (hI ++ hh) := fun L => RdH.old fun _ hx => List.mem_append_right _ (List.mem_append_right _ hx)
  have hnl := natI_len A
  have hvl := st.len
  have hsm := st.kn.so.sm
  refine calls_of_JC (R := (hA ++ (hF ++ (hI ++ hh)))) Tryz.func35 Tryz.ntmps35 rfl rfl (hw1) ?_
  refine JC.seq ?_
  refine JC.region ?_
  refine J.isJ ?_
  refine J.o 6 ?_
  refine J.bx (fun b3 => ?_)
  repeat' first
    | (refine J.isJ ?_; first | (fail) | (first | (refine J.o 0 ?_; refine J.ev' hΓ ?_) | refine J.nil ?_ | (refine J.o 4 ?_; first | refine J.lT default hΓ ?_ | refine J.lR hΓ ?_) | (refine J.o 3 ?_; first | refine J.iJ hΓ ?_ | refine J.ev' hΓ ?_) | (refine J.o 1 ?_; first | refine J.ad ?_) | (refine J.o 6 ?_; refine J.bx (fun _ => ?_)) | (refine J.o 10 ?_; refine J.ev' hΓ ?_) | (refine J.o 11 ?_; refine J.ev' hΓ ?_)))
    | (first | refine JC.seq ?_ | refine JC.region ?_ | refine JC.block ?_ | refine JC.ret ?_ | refine JC.exit ?_ | refine JC.skip ?_ | refine thenK.nn ?_ | refine thenK.x ?_ | refine blockK.nn ?_ | refine blockK.hit rfl ?_ | refine JC.condF rfl ?_ | (refine JC.cond rfl (fun hc => ?_) (fun hc => ?_) <;> ((try simp only [decide_eq_true_eq, decide_eq_false_iff_not, beq_iff_eq, beq_eq_false_iff_ne, bne_iff_ne, bne_eq_false_iff_eq, Bool.not_eq_true', Bool.not_eq_false', Bool.not_eq_true, Bool.not_eq_false] at hc) <;> first | (first | (exact absurd rfl hc) | (exfalso; omega) | (exact absurd (hc.symm.trans (by assumption : _ = false)) (by decide)) | (exact absurd (hc.symm.trans (by assumption : _ = true)) (by decide))) | skip)) | refine drawK.nn ?_ | refine loopK.x ?_)
    | (fail)
    | fail
  all_goals first | (exfalso; omega) | skip
  refine JC.loop (fun i => i == 7 || Nat.ble 8 i) (fun m gg L => ∃ q : Nat, gg 7 = .int .i64 (q : Int) ∧ q + m = A.length ∧ L = _) A.length ⟨0, rfl, by omega, rfl⟩ ?_
  rintro m gg L ⟨q, e7, hqm, rfl⟩
  refine JC.pin 7 e7 ?_
  rcases Nat.lt_or_ge q A.length with hq | hq
  ·
    have kn := st.kn.at_ _ _ (zipK2_mem st.len hq)
    have hvm := mem_g vs q (by omega)
    have hiff := st.kn.tab_iff kn.1 kn.2 hy hg
    have cS := fun w hw => sameL_any (tabF n (vs.getD q default).g) (tabF n g) (2 ^ n) (2 ^ n) (tabF_len _ _) (tabF_len _ _) (vs.getD q default).a ag (vs.getD q default).c cg (hI ++ hh) ((st.i _ hvm).sub fun x hx => List.mem_append_left _ hx) (sg.sub fun x hx => List.mem_append_right _ hx) (by rw [tabF_len]; omega) (by rw [tabF_len]; omega) w hw
    by_cases hay : A.getD q 0 = y
    ·
      rw [decide_eq_true (hiff.2 hay)] at cS
      repeat' first
        | (refine J.isJ ?_; first | (first | (refine J.o 11 ?_; refine J.eqT2 hΓ hay ?_) | (refine J.o 3 ?_; first | refine J.iJ hΓ ?_ (hs := st.oA.sl) | refine J.iJ hΓ ?_ (hs := st.oF.sl)) | (refine J.o 4 ?_; first | refine J.lR hΓ ?_ (hr := Rd.hd) | (refine J.lT default hΓ ?_ (hs := st.oA.sl) (hr := qA _); rw [natI_get A hq]) | refine J.lT default hΓ ?_ (hs := st.oF.sl) (hr := qF _)) | (refine J.fc 63 ?_; refine J.call0 eSame rfl rfl (fun w hw => cS w (hw.rdH (qI _))) ?_)) | (first | (refine J.o 0 ?_; refine J.ev' hΓ ?_) | refine J.nil ?_ | (refine J.o 4 ?_; first | refine J.lT default hΓ ?_ | refine J.lR hΓ ?_) | (refine J.o 3 ?_; first | refine J.iJ hΓ ?_ | refine J.ev' hΓ ?_) | (refine J.o 1 ?_; first | refine J.ad ?_) | (refine J.o 6 ?_; refine J.bx (fun _ => ?_)) | (refine J.o 10 ?_; refine J.ev' hΓ ?_) | (refine J.o 11 ?_; refine J.ev' hΓ ?_)))
        | (first | refine JC.seq ?_ | refine JC.region ?_ | refine JC.block ?_ | refine JC.ret ?_ | refine JC.exit ?_ | refine JC.skip ?_ | refine thenK.nn ?_ | refine thenK.x ?_ | refine blockK.nn ?_ | refine blockK.hit rfl ?_ | refine JC.condF rfl ?_ | (refine JC.cond rfl (fun hc => ?_) (fun hc => ?_) <;> ((try simp only [decide_eq_true_eq, decide_eq_false_iff_not, beq_iff_eq, beq_eq_false_iff_ne, bne_iff_ne, bne_eq_false_iff_eq, Bool.not_eq_true', Bool.not_eq_false', Bool.not_eq_true, Bool.not_eq_false] at hc) <;> first | (first | (exact absurd rfl hc) | (exfalso; omega) | (exact absurd (hc.symm.trans (by assumption : _ = false)) (by decide)) | (exact absurd (hc.symm.trans (by assumption : _ = true)) (by decide))) | skip)) | refine drawK.nn ?_ | refine loopK.x ?_)
        | ((refine JC.drawW [] [] (by kernel_rfl) (by kernel_rfl) ?_))
        | fail
      all_goals first | (exfalso; omega) | skip
      refine loopK.nn (m - 1) (by omega) (by repeat (first | refine Ag.upd rfl ?_ | exact Ag.hv)) ⟨q + 1, ?_, by omega, rfl⟩
      show Value.int .i64 _ = _; congr 1
    ·
      rw [decide_eq_false (fun e => hay (hiff.1 e))] at cS
      repeat' first
        | (refine J.isJ ?_; first | (first | (refine J.o 11 ?_; refine J.eqF2 hΓ hay ?_) | (refine J.o 3 ?_; first | refine J.iJ hΓ ?_ (hs := st.oA.sl) | refine J.iJ hΓ ?_ (hs := st.oF.sl)) | (refine J.o 4 ?_; first | refine J.lR hΓ ?_ (hr := Rd.hd) | (refine J.lT default hΓ ?_ (hs := st.oA.sl) (hr := qA _); rw [natI_get A hq]) | refine J.lT default hΓ ?_ (hs := st.oF.sl) (hr := qF _)) | (refine J.fc 63 ?_; refine J.call0 eSame rfl rfl (fun w hw => cS w (hw.rdH (qI _))) ?_)) | (first | (refine J.o 0 ?_; refine J.ev' hΓ ?_) | refine J.nil ?_ | (refine J.o 4 ?_; first | refine J.lT default hΓ ?_ | refine J.lR hΓ ?_) | (refine J.o 3 ?_; first | refine J.iJ hΓ ?_ | refine J.ev' hΓ ?_) | (refine J.o 1 ?_; first | refine J.ad ?_) | (refine J.o 6 ?_; refine J.bx (fun _ => ?_)) | (refine J.o 10 ?_; refine J.ev' hΓ ?_) | (refine J.o 11 ?_; refine J.ev' hΓ ?_)))
        | (first | refine JC.seq ?_ | refine JC.region ?_ | refine JC.block ?_ | refine JC.ret ?_ | refine JC.exit ?_ | refine JC.skip ?_ | refine thenK.nn ?_ | refine thenK.x ?_ | refine blockK.nn ?_ | refine blockK.hit rfl ?_ | refine JC.condF rfl ?_ | (refine JC.cond rfl (fun hc => ?_) (fun hc => ?_) <;> ((try simp only [decide_eq_true_eq, decide_eq_false_iff_not, beq_iff_eq, beq_eq_false_iff_ne, bne_iff_ne, bne_eq_false_iff_eq, Bool.not_eq_true', Bool.not_eq_false', Bool.not_eq_true, Bool.not_eq_false] at hc) <;> first | (first | (exact absurd rfl hc) | (exfalso; omega) | (exact absurd (hc.symm.trans (by assumption : _ = false)) (by decide)) | (exact absurd (hc.symm.trans (by assumption : _ = true)) (by decide))) | skip)) | refine drawK.nn ?_ | refine loopK.x ?_)
        | ((refine JC.drawW [] [] (by kernel_rfl) (by kernel_rfl) ?_))
        | fail
      all_goals first | (exfalso; omega) | skip
      refine loopK.nn (m - 1) (by omega) (by repeat (first | refine Ag.upd rfl ?_ | exact Ag.hv)) ⟨q + 1, ?_, by omega, rfl⟩
      show Value.int .i64 _ = _; congr 1
  ·
    repeat' first
      | (refine J.isJ ?_; first | ((refine J.o 4 ?_; refine J.lR hΓ ?_ (hr := Rd.hd))) | (first | (refine J.o 0 ?_; refine J.ev' hΓ ?_) | refine J.nil ?_ | (refine J.o 4 ?_; first | refine J.lT default hΓ ?_ | refine J.lR hΓ ?_) | (refine J.o 3 ?_; first | refine J.iJ hΓ ?_ | refine J.ev' hΓ ?_) | (refine J.o 1 ?_; first | refine J.ad ?_) | (refine J.o 6 ?_; refine J.bx (fun _ => ?_)) | (refine J.o 10 ?_; refine J.ev' hΓ ?_) | (refine J.o 11 ?_; refine J.ev' hΓ ?_)))
      | (first | refine JC.seq ?_ | refine JC.region ?_ | refine JC.block ?_ | refine JC.ret ?_ | refine JC.exit ?_ | refine JC.skip ?_ | refine thenK.nn ?_ | refine thenK.x ?_ | refine blockK.nn ?_ | refine blockK.hit rfl ?_ | refine JC.condF rfl ?_ | (refine JC.cond rfl (fun hc => ?_) (fun hc => ?_) <;> ((try simp only [decide_eq_true_eq, decide_eq_false_iff_not, beq_iff_eq, beq_eq_false_iff_ne, bne_iff_ne, bne_eq_false_iff_eq, Bool.not_eq_true', Bool.not_eq_false', Bool.not_eq_true, Bool.not_eq_false] at hc) <;> first | (first | (exact absurd rfl hc) | (exfalso; omega) | (exact absurd (hc.symm.trans (by assumption : _ = false)) (by decide)) | (exact absurd (hc.symm.trans (by assumption : _ = true)) (by decide))) | skip)) | refine drawK.nn ?_ | refine loopK.x ?_)
      | (fail)
      | fail
    all_goals first | (exfalso; omega) | skip
    all_goals (refine ret1f rfl rfl rfl (fun w1 hw => ⟨rfl, hw.below⟩))
end Go.Proofs.YthnhijdfcmcnhaaGreat
namespace Go.Proofs.YthnhijdfcmcnhaaGreat
open Go Go.Cx Go.RowKit
set_option linter.unusedVariables false
set_option linter.unusedSimpArgs false
set_option maxHeartbeats 4000000
attribute [local irreducible] J JC thenK blockK loopK drawK retK QW Qt pel List.set Calls
open Go.Maps Go.Lib
set_option maxRecDepth 8000
attribute [local irreducible] JE Br eK0 eK3 brK pc
theorem kCountR {n : Nat} {K : KS} {s : SS} {ks : List (Nat × BF)} (k : Kn n K s ks) {a : Nat} {g : BF} (ha : (a, g) ∈ ks) {w0 w : World} {R : Heap} {L : List Heap} {b0 : Nat} (rb : Rd R L b0 (stO K s.an s.ns.length s.cn)) (rn : RdH R L s.hN) (hw : H w0 R L w) :
    Calls Tryz.prog 30 #[.pointer (some ⟨b0, 0, none⟩), .int .i64 (a : Int)] w fun e w' => ∃ v L', e = .returned v ∧ H w0 R L' w' ∧ v = .tuple #[natV (cntF n g), .int .i64 0] ∧ L' = L := by
  have := Count_any k.so b0 a (k.at_ a g ha).1 rb rn hw
  rwa [tab_cnt k ha] at this
theorem count30L_any (t : List Bool) (nl : Nat) (hnl : t.length = nl) (hl : t.length ≤ 256) (a : Option Addr) (c : Nat) (h : Heap) (hs : SlT encBo 1 a t h) (w : World) (hw1 : Holds h w) :
    Calls Tryz.prog 34 #[.slice a nl c] w fun e w' => e = .returned (.string (S (txt (t.count true)))) ∧ Below w.heap.size w w' := by
  subst hnl
  exact count30_any t hl a c h hs w hw1
set_option maxHeartbeats 16000000 in
theorem shows_any {n : Nat} {K : KS} {s : SS} {A : List Nat} {vs : List TV} {aA aF : Option Addr} {cA cF : Nat} {hA hF hI : Heap} (st : RunS n K s A vs aA aF cA cF hA hF hI) (h6 : n ≤ 6) {order : List Int} {hO hP : Heap} (po : POk K order hO hP) (hlen : A.length ≤ 40) (a : Option Addr) (c : Nat) (h : Heap) (hs : SlT encI 1 a order h) (b0 : Nat) (w : World) (hw1 : Holds (stR K b0 s hO ++ (h ++ (hA ++ (hF ++ hI)))) w) :
    Calls Tryz.prog 8 #[runV b0 aA (natI A).length cA aF vs.length cF false, .slice a order.length c] w fun e w' => e = .returned (.bool true) ∧ Below w.heap.size w w' := by
  have so := st.kn.so
  have hno := so.no
  have hpl := po.len
  have hon : order.length = n := by omega
  subst hon
  have h2n : 2 ^ order.length ≤ 2 ^ 6 := Nat.pow_le_pow_right (by omega) h6
  have h8 : order.length ≤ 8 := by omega
  obtain ⟨R, hR⟩ : ∃ R, R = stR K b0 s hO ++ (h ++ (hA ++ (hF ++ hI))) := ⟨_, rfl⟩
  rw [← hR] at hw1
  have qS : ∀ L, RdH R L (stR K b0 s hO) := fun L => RdH.old fun _ hx => by rw [hR]; exact List.mem_append_left _ hx
  have qO : ∀ L, RdH R L h := fun L => RdH.old fun _ hx => by rw [hR]; exact List.mem_append_right _ (List.mem_append_left _ hx)
  have qA : ∀ L, RdH R L hA := fun L => RdH.old fun _ hx => by rw [hR]; exact List.mem_append_right _ (List.mem_append_right _ (List.mem_append_left _ hx))
  have qF : ∀ L, RdH R L hF := fun L => RdH.old fun _ hx => by rw [hR]; exact List.mem_append_right _ (List.mem_append_right _ (List.mem_append_right _ (List.mem_append_left _ hx)))
  have qI : ∀ L, RdH R L hI := fun L => RdH.old fun _ hx => by rw [hR]; exact List.mem_append_right _ (List.mem_append_right _ (List.mem_append_right _ (List.mem_append_right _ hx)))
  have rb : ∀ L, Rd R L b0 (stO K s.an s.ns.length s.cn) := fun L => qS L _ List.mem_cons_self
  have rn : ∀ L, RdH R L s.hN := fun L x hx => qS L x (List.mem_cons_of_mem _ (List.mem_append_left _ hx))
  have hnl := natI_len A
  have hvl := st.len
  have tw := st.two
  have hsm := so.sm
  have hq : A.length - 1 < A.length := by omega
  have hml := zipK2_mem st.len hq
  have kn := st.kn.at_ _ _ hml
  have hvm := mem_g vs (A.length - 1) (by omega)
  have hgA := natI_get A hq
  obtain ⟨y, hy⟩ : ∃ y, y = A.getD (A.length - 1) 0 := ⟨_, rfl⟩
  obtain ⟨v, hv⟩ : ∃ v, v = vs.getD (A.length - 1) default := ⟨_, rfl⟩
  have hgF : vs.getD (vs.length - 1) default = v := by rw [hv, hvl]
  have hgA2 : (natI A).getD ((natI A).length - 1) default = (y : Int) := by rw [hnl, hgA, hy]
  rw [← hy, ← hv] at kn hml
  rw [← hv] at hvm
  have sI := st.i _ hvm
  have hcap := st.c _ hvm
  have htl := tabF_len order.length v.g
  have cSz := fun w hw => sizeOf_any order.length h8 a c (tabF order.length v.g) htl v.a v.c hcap hI sI w hw
  have cTx := fun w => textV_any (cntF order.length v.g) (by have := cntF_le order.length v.g; omega) w
  have cCo := fun w hw => count30L_any (tabF order.length v.g) (2 ^ order.length) htl (by omega) v.a v.c hI sI w hw
  rw [← cntF_tab] at cCo
  have cEq := fun w hw => equal_any st h6 hlen b0 y kn.1 v.g kn.2 v.a v.c hI sI w hw
  have hHe : ∀ {w0 L w}, H w0 R L w → Holds (hA ++ (hF ++ (hI ++ hI))) w := fun hw => (hw.rdH (qA _)).append ((hw.rdH (qF _)).append ((hw.rdH (qI _)).append (hw.rdH (qI _))))
  rcases Nat.lt_or_ge y 2 with h2 | h2
  ·
    have hp := so.wf.pconst h2
    have cP := fun w hw => Parts_const so b0 y h2 hO w hw
    have cT := fun w hw => top_any order.length h8 a c v.g order.length (Nat.le_refl _) (fun k hk => top_lt so.wf kn.1 kn.2 (by rw [hp]; exact hk)) (fun g => absurd g (Nat.lt_irrefl _)) v.a v.c hI sI w hw
    rw [if_neg (Nat.lt_irrefl _)] at cT
    refine calls_of_JC (R := R) Tryz.func8 Tryz.ntmps8 rfl rfl (hw1) ?_
    refine JC.seq ?_
    refine JC.region ?_
    refine J.isJ ?_
    refine J.o 6 ?_
    refine J.bx (fun b3 => ?_)
    repeat' first
      | (refine J.isJ ?_; first | (first | (refine J.o 1 ?_; refine J.gsub (b := 1) ?_) | (refine J.o 3 ?_; first | refine J.iJ hΓ ?_ (hs := st.oA.sl) | refine J.iJ hΓ ?_ (hs := st.oF.sl)) | (refine J.o 4 ?_; first | refine J.lR hΓ ?_ (hr := Rd.hd) | refine J.lR hΓ ?_ (hr := Rd.hd.tl) | (refine J.lT default hΓ ?_ (hs := st.oA.sl) (hr := qA _); rw [hgA2]) | (refine J.lT default hΓ ?_ (hs := st.oF.sl) (hr := qF _); rw [hgF])) | (refine J.fc 28 ?_; refine J.call0 eParts rfl rfl (fun w hw => cP w (hw.rdH (qS _))) ?_) | (refine J.fc 29 ?_; refine J.callx eSize rfl rfl (fun w hw => Size_any so b0 y kn.1 (rb _) (rn _) hw) ?_; rintro _ _ ⟨l, rfl, rfl, bel⟩; have hsz := bel.size so.wf kn.1 kn.2) | (refine J.fc 30 ?_; refine J.callx eCountS rfl rfl (fun w hw => kCountR st.kn hml (rb _) (rn _) hw) ?_; rintro _ _ ⟨rfl, rfl⟩) | (refine J.fc 31 ?_; refine J.call0 eTop rfl rfl (fun w hw => cT w (hw.rdH (qI _))) ?_) | (refine J.fc 32 ?_; refine J.call0 eSizeOf rfl rfl (fun w hw => cSz w (hw.rdH (qI _))) ?_) | (refine J.fc 33 ?_; refine J.call0 eText rfl rfl (fun w hw => cTx w) ?_) | (refine J.fc 34 ?_; refine J.call0 eCount30 rfl rfl (fun w hw => cCo w (hw.rdH (qI _))) ?_) | (refine J.fc 35 ?_; refine J.call0 eEqual rfl rfl (fun w hw => cEq w (hHe hw)) ?_) | (refine J.o 11 ?_; first | refine J.neF hΓ hsz ?_ | refine J.neSF rfl ?_)) | (first | (refine J.o 0 ?_; refine J.ev' hΓ ?_) | refine J.nil ?_ | (refine J.o 4 ?_; first | refine J.lT default hΓ ?_ | refine J.lR hΓ ?_) | (refine J.o 3 ?_; first | refine J.iJ hΓ ?_ | refine J.ev' hΓ ?_) | (refine J.o 5 ?_; first | refine J.t0 hΓ ?_) | (refine J.o 6 ?_; refine J.bx (fun _ => ?_)) | (refine J.o 7 ?_; refine J.al hΓ (fun _ => ?_)) | (refine J.o 10 ?_; refine J.ev' hΓ ?_) | (refine J.o 11 ?_; refine J.ev' hΓ ?_)))
      | (first | refine JC.seq ?_ | refine JC.region ?_ | refine JC.ret ?_ | refine JC.skip ?_ | refine thenK.nn ?_ | refine thenK.r ?_ | refine JC.condT rfl ?_ | refine JC.condF rfl ?_ | refine drawK.nn ?_)
      | ((refine JC.drawW [] [] (by kernel_rfl) (by kernel_rfl) ?_))
      | fail
    all_goals first | (exfalso; omega) | skip
    all_goals (refine ret1f rfl rfl rfl (fun w1 hw => ⟨rfl, hw.below⟩))
  ·
    have hp := so.wf.pl y h2 kn.1
    have hpi : ((nd s.ns y).p : Int) < order.length := by omega
    have hgo : order.getD (nd s.ns y).p default = order.getD (nd s.ns y).p default := rfl
    have cP := fun w hw => Parts_node so po b0 y h2 kn.1 w hw
    have cT := fun w hw => top_any order.length h8 a c v.g (nd s.ns y).p (Nat.le_of_lt hp) (fun k hk => top_lt so.wf kn.1 kn.2 hk) (fun _ => top_at so.wf h2 kn.1 kn.2) v.a v.c hI sI w hw
    rw [if_pos hp] at cT
    have cGF := fun w hw => givF_any order.length h8 a c (nd s.ns y).p hp v.g v.a v.c hI sI w hw
    have cGT := fun w hw => givT_any order.length h8 a c (nd s.ns y).p hp v.g v.a v.c hI sI w hw
    have cEL := fun (h1 : Heap) a1 c1 (s1 : SlT encBo 1 a1 (tabF order.length (fun α => v.g (up α (nd s.ns y).p false))) h1) w hw => equal_any st h6 hlen b0 (nd s.ns y).l (so.wf.ll y h2 kn.1) _ (fn_low so.wf h2 kn.1 kn.2) a1 c1 h1 s1 w hw
    have cEH := fun (h1 : Heap) a1 c1 (s1 : SlT encBo 1 a1 (tabF order.length (fun α => v.g (up α (nd s.ns y).p true))) h1) w hw => equal_any st h6 hlen b0 (nd s.ns y).h (so.wf.hl y h2 kn.1) _ (fn_high so.wf h2 kn.1 kn.2) a1 c1 h1 s1 w hw
    have hHe2 : ∀ {w0 L w h1}, H w0 R (h1 :: L) w → Holds (hA ++ (hF ++ (hI ++ h1))) w := fun hw => (hw.rdH (qA _)).append ((hw.rdH (qF _)).append ((hw.rdH (qI _)).append (hw.rdH RdH.hd)))
    refine calls_of_JC (R := R) Tryz.func8 Tryz.ntmps8 rfl rfl (hw1) ?_
    refine JC.seq ?_
    refine JC.region ?_
    refine J.isJ ?_
    refine J.o 6 ?_
    refine J.bx (fun b3 => ?_)
    repeat' first
      | (refine J.isJ ?_; first | (first | (refine J.o 1 ?_; refine J.gsub (b := 1) ?_) | (refine J.o 3 ?_; first | refine J.iJ hΓ ?_ (hs := st.oA.sl) | refine J.iJ hΓ ?_ (hs := st.oF.sl) | refine J.iJ hΓ ?_ (hs := hs)) | (refine J.o 4 ?_; first | refine J.lR hΓ ?_ (hr := Rd.hd) | refine J.lR hΓ ?_ (hr := Rd.hd.tl) | refine J.lR hΓ ?_ (hr := Rd.hd.tl.tl) | (refine J.lT default hΓ ?_ (hs := st.oA.sl) (hr := qA _); rw [hgA2]) | (refine J.lT default hΓ ?_ (hs := st.oF.sl) (hr := qF _); rw [hgF]) | refine J.lT default hΓ ?_ (hs := hs) (hr := qO _)) | (refine J.fc 28 ?_; refine J.call0 eParts rfl rfl (fun w hw => cP w (hw.rdH (qS _))) ?_) | (refine J.fc 29 ?_; refine J.callx eSize rfl rfl (fun w hw => Size_any so b0 y kn.1 (rb _) (rn _) hw) ?_; rintro _ _ ⟨l, rfl, rfl, bel⟩; have hsz := bel.size so.wf kn.1 kn.2) | (refine J.fc 30 ?_; refine J.callx eCountS rfl rfl (fun w hw => kCountR st.kn hml (rb _) (rn _) hw) ?_; rintro _ _ ⟨rfl, rfl⟩) | (refine J.fc 31 ?_; refine J.call0 eTop rfl rfl (fun w hw => cT w (hw.rdH (qI _))) ?_) | (refine J.fc 32 ?_; refine J.call0 eSizeOf rfl rfl (fun w hw => cSz w (hw.rdH (qI _))) ?_) | (refine J.fc 33 ?_; refine J.call0 eText rfl rfl (fun w hw => cTx w) ?_) | (refine J.fc 34 ?_; refine J.call0 eCount30 rfl rfl (fun w hw => cCo w (hw.rdH (qI _))) ?_) | (refine J.fc 36 ?_; first | (refine J.call1 eGiven rfl rfl (fun w hw => cGF w (hw.rdH (qI _))) ?_; rintro _ h1 ⟨a1, c1, rfl, o1⟩) | (refine J.call1 eGiven rfl rfl (fun w hw => cGT w (hw.rdH (qI _))) ?_; rintro _ h1 ⟨a1, c1, rfl, o1⟩)) | (refine J.fc 35 ?_; first | refine J.call0 eEqual rfl rfl (fun w hw => cEq w (hHe hw)) ?_ | refine J.call0 eEqual rfl rfl (fun w hw => cEL _ _ _ o1.sl w (hHe2 hw)) ?_ | refine J.call0 eEqual rfl rfl (fun w hw => cEH _ _ _ o1.sl w (hHe2 hw)) ?_) | (refine J.o 11 ?_; first | refine J.neF hΓ hsz ?_ | refine J.neSF rfl ?_ | (refine J.eqIT (a := order.getD (nd s.ns y).p default) (b := order.getD (nd s.ns y).p default) hΓ rfl ?_))) | (first | (refine J.o 0 ?_; refine J.ev' hΓ ?_) | refine J.nil ?_ | (refine J.o 4 ?_; first | refine J.lT default hΓ ?_ | refine J.lR hΓ ?_) | (refine J.o 3 ?_; first | refine J.iJ hΓ ?_ | refine J.ev' hΓ ?_) | (refine J.o 5 ?_; first | refine J.t0 hΓ ?_) | (refine J.o 6 ?_; refine J.bx (fun _ => ?_)) | (refine J.o 7 ?_; refine J.al hΓ (fun _ => ?_)) | (refine J.o 10 ?_; refine J.ev' hΓ ?_) | (refine J.o 11 ?_; refine J.ev' hΓ ?_)))
      | (first | refine JC.seq ?_ | refine JC.region ?_ | refine JC.ret ?_ | refine JC.skip ?_ | refine thenK.nn ?_ | refine thenK.r ?_ | refine JC.condT rfl ?_ | refine JC.condF rfl ?_ | refine drawK.nn ?_)
      | ((first | refine JC.drawO [(0,0),(0,1),(0,2),(0,3),(0,4),(0,5),(0,6),(1,7),(0,8),(0,9),(0,10),(1,11),(0,12),(0,13),(0,14),(0,15),(3,16),(1,17),(0,18),(0,19),(1,20),(0,21),(0,22),(0,23),(0,24),(3,25),(1,26),(0,27),(0,28)] (by decide +kernel) (by decide +kernel) ?_ | refine JC.drawW [] [] (by kernel_rfl) (by kernel_rfl) ?_))
      | fail
    all_goals first | (exfalso; omega) | skip
    all_goals (refine ret1f rfl rfl rfl (fun w1 hw => ⟨rfl, hw.below⟩))
theorem showsH {K : KS} {b : Nat} {s : SS} {hO hP hA hF hI x h : Heap} {M : List Heap} {w0 w : World} {R : Heap} (hw : H w0 R (x :: (sF K b s ++ (hO :: hP :: hA :: hF :: hI :: M))) w) (hh : Holds h w) : Holds (stR K b s hO ++ (h ++ (hA ++ (hF ++ hI)))) w :=
  (stR_of hw.drop).append (hh.append ((hw.rdH (rdApp _ RdH.hd.tl.tl).tl).append ((hw.rdH (rdApp _ RdH.hd.tl.tl.tl).tl).append (hw.rdH (rdApp _ RdH.hd.tl.tl.tl.tl).tl))))
end Go.Proofs.YthnhijdfcmcnhaaGreat
namespace Go.Proofs.YthnhijdfcmcnhaaGreat
open Go Go.Cx Go.RowKit
set_option linter.unusedVariables false
set_option linter.unusedSimpArgs false
set_option maxHeartbeats 4000000
attribute [local irreducible] J JC thenK blockK loopK drawK retK QW Qt pel List.set Calls
open Go.Maps Go.Lib
set_option maxRecDepth 8000
attribute [local irreducible] JE Br eK0 eK3 brK pc
structure OpT where
  k : Nat
  x : Int
  y : Int
  z : Int
instance : Inhabited OpT := ⟨⟨0, 0, 0, 0⟩⟩
def encOp (o : OpT) : List Value := [.int .u8 (o.k : Int), .int .i64 o.x, .int .i64 o.y, .int .i64 o.z]
def okOp (o : OpT) : Prop := o.k < 256 ∧ (-9223372036854775808 ≤ o.x ∧ o.x ≤ 9223372036854775807)
theorem brE (K : KS) (b : Nat) (s : SS) (x hO hP hA hF hI : Heap) (M : List Heap) : (x :: (sF K b s ++ (hO :: hP :: hA :: hF :: hI :: M))).Perm (sF K b s ++ (hO :: hP :: hA :: hF :: hI :: x :: M)) := by
  have e1 : sF K b s ++ (hO :: hP :: hA :: hF :: hI :: x :: M) = (sF K b s ++ [hO, hP, hA, hF, hI]) ++ x :: M := by simp
  have e2 : sF K b s ++ (hO :: hP :: hA :: hF :: hI :: M) = (sF K b s ++ [hO, hP, hA, hF, hI]) ++ M := by simp
  rw [e1, e2]
  exact List.perm_middle.symm
def runO (b5 b0 : Nat) (aA : Option Addr) (nA cA : Nat) (aF : Option Addr) (nF cF : Nat) : Heap := [(b5, .cells ⟨[.pointer (some ⟨b0, 0, none⟩), .slice aA nA cA, .slice aF nF cF, .bool false]⟩ 30 (0, 0))]
def scrO (b2 : Nat) (a aL : Option Addr) (n c m cL : Nat) : Heap := [(b2, .cells ⟨[.slice a n c, .slice aL m cL]⟩ 25 (0, 0))]
set_option maxHeartbeats 16000000 in
theorem runs_any (l : List Int) (a : Option Addr) (c : Nat) (h : Heap) (hs : SlT encI 1 a l h) (ops : List OpT) (aL : Option Addr) (cL : Nat) (hL : Heap) (hsL : SlT encOp 4 aL ops hL) (hop : ∀ o ∈ ops, okOp o) (w : World) (hw1 : Holds (h ++ hL) w) :
    Calls Tryz.prog 3 #[.agg ⟨[.slice a l.length c, .slice aL ops.length cL]⟩] w fun e w' => e = .returned (.bool true) ∧ Below w.heap.size w w' := by
  have q0 : ∀ L, RdH (h ++ hL) L h := fun L => RdH.old fun _ hh => List.mem_append_left _ hh
  have q1 : ∀ L, RdH (h ++ hL) L hL := fun L => RdH.old fun _ hh => List.mem_append_right _ hh
  have cL2 := fun w hw => light_any l a aL c ops.length cL h hs w hw
  by_cases hli : 0 < l.length ∧ l.length ≤ 6 ∧ ops.length ≤ 30 ∧ okOrd l
  · rw [decide_eq_true hli] at cL2
    obtain ⟨hn0, h6, h30, ho⟩ := hli
    have h8 : l.length ≤ 8 := by omega
    have h2n : 2 ^ l.length ≤ 2 ^ 6 := Nat.pow_le_pow_right (by omega) (by omega)
    refine calls_of_JC (R := (h ++ hL)) Tryz.func3 Tryz.ntmps3 rfl rfl (hw1) ?_
    refine JC.seq ?_
    refine JC.region ?_
    refine J.isJ ?_
    refine J.o 6 ?_
    refine J.bx (fun b2 => ?_)
    repeat' first
      | (refine J.isJ ?_; first | (first | (refine J.fc 4 ?_; refine J.call0 eLight rfl rfl (fun w hw => cL2 w (hw.rdH (q0 _))) ?_) | (refine J.fc 6 ?_; refine J.callx eBegin rfl rfl (fun w hw => begin_any l a c h hs ho h8 q0 hw) ?_; rintro _ _ ⟨b0, K, s, A, vs, aA, aF, cA, cF, hO, hP, hA, hF, hI, rfl, rfl, po, st, hAl, hsl⟩) | (refine J.o 7 ?_; refine J.al hΓ (fun b5 => ?_))) | (first | (refine J.o 0 ?_; refine J.ev' hΓ ?_) | refine J.nil ?_ | refine J.kd ?_ | (refine J.o 4 ?_; first | refine J.lT default hΓ ?_ | refine J.lR hΓ ?_) | (refine J.o 3 ?_; first | refine J.iJ hΓ ?_ | refine J.ev' hΓ ?_) | (refine J.o 1 ?_; first | refine J.ad ?_) | (refine J.o 5 ?_; first | refine J.t0 hΓ ?_) | (refine J.o 6 ?_; refine J.bx (fun _ => ?_)) | (refine J.o 7 ?_; refine J.al hΓ (fun _ => ?_)) | (refine J.o 10 ?_; refine J.ev' hΓ ?_) | (refine J.o 11 ?_; refine J.ev' hΓ ?_)) | ((fail_if_success refine J.wt ?_); refine J.gc rfl rfl (fun hc => ?_) (fun hc => ?_) <;> ((try simp only [decide_eq_true_eq, decide_eq_false_iff_not, beq_iff_eq, beq_eq_false_iff_ne, bne_iff_ne, bne_eq_false_iff_eq, Bool.not_eq_true', Bool.not_eq_false', Bool.not_eq_true, Bool.not_eq_false] at hc) <;> first | (first | (exact absurd rfl hc) | (exfalso; omega) | (exact absurd (hc.symm.trans (by assumption : _ = false)) (by decide)) | (exact absurd (hc.symm.trans (by assumption : _ = true)) (by decide))) | skip)))
      | (first | refine JC.seq ?_ | refine JC.region ?_ | refine JC.block ?_ | refine JC.ret ?_ | refine JC.exit ?_ | refine JC.skip ?_ | refine thenK.nn ?_ | refine thenK.r ?_ | refine thenK.x ?_ | refine blockK.nn ?_ | refine blockK.hit rfl ?_ | refine JC.condT rfl ?_ | refine JC.condF rfl ?_ | refine drawK.nn ?_ | refine loopK.x ?_)
      | (fail)
      | fail
    all_goals first | (exfalso; omega) | skip
    refine JC.perm (brE K b0 s _ hO hP hA hF hI _) ?_
    refine JC.loop (fun i => i == 4 || Nat.ble 12 i) (fun m g L' => ∃ i s A vs aA aF cA cF hA hF hI, g 4 = .int .i64 ((i : Nat) : Int) ∧ i + m = ops.length ∧ RunS l.length K s A vs aA aF cA cF hA hF hI ∧ A.length ≤ 2 + i ∧ s.ns.length ≤ 2 + i * 2100 ∧ L' = sF K b0 s ++ (hO :: hP :: hA :: hF :: hI :: runO b5 b0 aA (natI A).length cA aF vs.length cF :: scrO b2 a aL l.length c ops.length cL :: [])) ops.length ⟨0, s, A, vs, aA, aF, cA, cF, hA, hF, hI, rfl, by omega, st, by omega, by omega, rfl⟩ ?_
    clear st hAl hsl
    rintro m g L' ⟨i, s, A, vs, aA, aF, cA, cF, hA, hF, hI, e4, him, st, hAl, hsl, rfl⟩
    refine JC.pin 4 e4 ?_
    unfold runO scrO
    rcases Nat.lt_or_ge i ops.length with hlt | hge
    ·
      have hoi := hop _ (mem_g ops i hlt)
      repeat' first
        | (refine J.isJ ?_; first | (first | (refine J.o 3 ?_; refine J.iJ hΓ ?_ (hs := hsL)) | (refine J.o 4 ?_; first | refine J.lR hΓ ?_ (hr := Rd.app _ Rd.hd.tl.tl.tl.tl.tl) | refine J.lR hΓ ?_ (hr := Rd.app _ Rd.hd.tl.tl.tl.tl.tl.tl) | refine J.lR hΓ ?_ (hr := Rd.hd) | refine J.lR hΓ ?_ (hr := (Rd.app _ Rd.hd.tl.tl.tl.tl.tl).tl) | refine J.lT default hΓ ?_ (hs := hsL) (hr := q1 _)) | (refine J.fc 7 ?_; refine J.callx eDo rfl rfl (fun w hw => do_any st h6 hn0 po (by omega) (by omega) a c h hs (ops.getD i default).k hoi.1 (ops.getD i default).x (ops.getD i default).y (ops.getD i default).z hoi.2 q0 hw) ?_; rintro _ _ ⟨s1, A1, vs1, aA1, aF1, cA1, cF1, hA1, hF1, hI1, rfl, rfl, st1, hAl1, hsl1⟩) | (refine J.o 5 ?_; refine J.perm (brE _ _ _ _ _ _ _ _ _ _).symm ?_; refine J.t0 hΓ ?_) | (refine J.fc 8 ?_; refine J.call0 eShows rfl rfl (fun w hw => shows_any st1 h6 po (by omega) a c h hs b0 w (showsH hw (hw.rdH (q0 _)))) ?_)) | (first | (refine J.o 0 ?_; refine J.ev' hΓ ?_) | refine J.nil ?_ | refine J.kd ?_ | (refine J.o 4 ?_; first | refine J.lT default hΓ ?_ | refine J.lR hΓ ?_) | (refine J.o 3 ?_; first | refine J.iJ hΓ ?_ | refine J.ev' hΓ ?_) | (refine J.o 1 ?_; first | refine J.ad ?_) | (refine J.o 5 ?_; first | refine J.t0 hΓ ?_) | (refine J.o 6 ?_; refine J.bx (fun _ => ?_)) | (refine J.o 7 ?_; refine J.al hΓ (fun _ => ?_)) | (refine J.o 10 ?_; refine J.ev' hΓ ?_) | (refine J.o 11 ?_; refine J.ev' hΓ ?_)) | ((fail_if_success refine J.wt ?_); refine J.gc rfl rfl (fun hc => ?_) (fun hc => ?_) <;> ((try simp only [decide_eq_true_eq, decide_eq_false_iff_not, beq_iff_eq, beq_eq_false_iff_ne, bne_iff_ne, bne_eq_false_iff_eq, Bool.not_eq_true', Bool.not_eq_false', Bool.not_eq_true, Bool.not_eq_false] at hc) <;> first | (first | (exact absurd rfl hc) | (exfalso; omega) | (exact absurd (hc.symm.trans (by assumption : _ = false)) (by decide)) | (exact absurd (hc.symm.trans (by assumption : _ = true)) (by decide))) | skip)))
        | (first | refine JC.seq ?_ | refine JC.region ?_ | refine JC.block ?_ | refine JC.ret ?_ | refine JC.exit ?_ | refine JC.skip ?_ | refine thenK.nn ?_ | refine thenK.r ?_ | refine thenK.x ?_ | refine blockK.nn ?_ | refine blockK.hit rfl ?_ | refine JC.condT rfl ?_ | refine JC.condF rfl ?_ | refine drawK.nn ?_ | refine loopK.x ?_)
        | ((refine JC.drawO [(1,0),(0,1),(1,2),(0,3),(1,4),(0,5),(0,6),(1,7),(2,8),(2,9)] (by decide +kernel) (by decide +kernel) ?_))
        | fail
      all_goals first | (exfalso; omega) | skip
      refine loopK.np (m - 1) [] _ (by omega) (by repeat (first | refine Ag.upd rfl ?_ | exact Ag.hv)) (brE K b0 s1 _ hO hP hA1 hF1 hI1 _) ⟨i + 1, s1, A1, vs1, aA1, aF1, cA1, cF1, hA1, hF1, hI1, ?_, by omega, st1, by omega, by omega, rfl⟩
      show Value.int .i64 _ = _; congr 1
    ·
      repeat' first
        | (refine J.isJ ?_; first | (first | (refine J.o 4 ?_; first | refine J.lR hΓ ?_ (hr := Rd.app _ Rd.hd.tl.tl.tl.tl.tl) | refine J.lR hΓ ?_ (hr := Rd.app _ Rd.hd.tl.tl.tl.tl.tl.tl)) | (refine J.fc 5 ?_; refine J.call0 eWorks30 rfl rfl (fun w hw => works_any w) ?_)) | (first | (refine J.o 0 ?_; refine J.ev' hΓ ?_) | refine J.nil ?_ | refine J.kd ?_ | (refine J.o 4 ?_; first | refine J.lT default hΓ ?_ | refine J.lR hΓ ?_) | (refine J.o 3 ?_; first | refine J.iJ hΓ ?_ | refine J.ev' hΓ ?_) | (refine J.o 1 ?_; first | refine J.ad ?_) | (refine J.o 5 ?_; first | refine J.t0 hΓ ?_) | (refine J.o 6 ?_; refine J.bx (fun _ => ?_)) | (refine J.o 7 ?_; refine J.al hΓ (fun _ => ?_)) | (refine J.o 10 ?_; refine J.ev' hΓ ?_) | (refine J.o 11 ?_; refine J.ev' hΓ ?_)) | ((fail_if_success refine J.wt ?_); refine J.gc rfl rfl (fun hc => ?_) (fun hc => ?_) <;> ((try simp only [decide_eq_true_eq, decide_eq_false_iff_not, beq_iff_eq, beq_eq_false_iff_ne, bne_iff_ne, bne_eq_false_iff_eq, Bool.not_eq_true', Bool.not_eq_false', Bool.not_eq_true, Bool.not_eq_false] at hc) <;> first | (first | (exact absurd rfl hc) | (exfalso; omega) | (exact absurd (hc.symm.trans (by assumption : _ = false)) (by decide)) | (exact absurd (hc.symm.trans (by assumption : _ = true)) (by decide))) | skip)))
        | (first | refine JC.seq ?_ | refine JC.region ?_ | refine JC.block ?_ | refine JC.ret ?_ | refine JC.exit ?_ | refine JC.skip ?_ | refine thenK.nn ?_ | refine thenK.r ?_ | refine thenK.x ?_ | refine blockK.nn ?_ | refine blockK.hit rfl ?_ | refine JC.condT rfl ?_ | refine JC.condF rfl ?_ | refine drawK.nn ?_ | refine loopK.x ?_)
        | (fail)
        | fail
      all_goals first | (exfalso; omega) | skip
      all_goals (refine ret1f rfl rfl rfl (fun w1 hw => ⟨rfl, hw.below⟩))
  · rw [decide_eq_false hli] at cL2
    refine calls_of_JC (R := (h ++ hL)) Tryz.func3 Tryz.ntmps3 rfl rfl (hw1) ?_
    repeat' first
      | (refine J.isJ ?_; first | (first | (refine J.fc 4 ?_; refine J.call0 eLight rfl rfl (fun w hw => cL2 w (hw.rdH (q0 _))) ?_) | (refine J.fc 5 ?_; refine J.call0 eWorks30 rfl rfl (fun w hw => works_any w) ?_)) | (first | (refine J.o 0 ?_; refine J.ev' hΓ ?_) | refine J.nil ?_ | refine J.kd ?_ | (refine J.o 4 ?_; first | refine J.lT default hΓ ?_ | refine J.lR hΓ ?_) | (refine J.o 3 ?_; first | refine J.iJ hΓ ?_ | refine J.ev' hΓ ?_) | (refine J.o 1 ?_; first | refine J.ad ?_) | (refine J.o 5 ?_; first | refine J.t0 hΓ ?_) | (refine J.o 6 ?_; refine J.bx (fun _ => ?_)) | (refine J.o 7 ?_; refine J.al hΓ (fun _ => ?_)) | (refine J.o 10 ?_; refine J.ev' hΓ ?_) | (refine J.o 11 ?_; refine J.ev' hΓ ?_)) | ((fail_if_success refine J.wt ?_); refine J.gc rfl rfl (fun hc => ?_) (fun hc => ?_) <;> ((try simp only [decide_eq_true_eq, decide_eq_false_iff_not, beq_iff_eq, beq_eq_false_iff_ne, bne_iff_ne, bne_eq_false_iff_eq, Bool.not_eq_true', Bool.not_eq_false', Bool.not_eq_true, Bool.not_eq_false] at hc) <;> first | (first | (exact absurd rfl hc) | (exfalso; omega) | (exact absurd (hc.symm.trans (by assumption : _ = false)) (by decide)) | (exact absurd (hc.symm.trans (by assumption : _ = true)) (by decide))) | skip)))
      | (first | refine JC.seq ?_ | refine JC.region ?_ | refine JC.block ?_ | refine JC.ret ?_ | refine JC.exit ?_ | refine JC.skip ?_ | refine thenK.nn ?_ | refine thenK.r ?_ | refine thenK.x ?_ | refine blockK.nn ?_ | refine blockK.hit rfl ?_ | refine JC.condT rfl ?_ | refine JC.condF rfl ?_ | refine drawK.nn ?_ | refine loopK.x ?_)
      | (fail)
      | fail
    all_goals first | (exfalso; omega) | skip
    all_goals (refine ret1f rfl rfl rfl (fun w1 hw => ⟨rfl, hw.below⟩))
end Go.Proofs.YthnhijdfcmcnhaaGreat
namespace Go.Proofs.YthnhijdfcmcnhaaGreat
open Go Go.Cx Go.RowKit
set_option linter.unusedVariables false
set_option linter.unusedSimpArgs false
set_option maxHeartbeats 4000000
attribute [local irreducible] J JC thenK blockK loopK drawK retK QW Qt pel List.set Calls
theorem c_u8 : Tryz.prog.cellsOf 5 = 1 := by kernel_rfl
theorem c_ints : Tryz.prog.cellsOf 22 = 1 := by kernel_rfl
theorem c_op : Tryz.prog.cellsOf 34 = 4 := by kernel_rfl
theorem c_ops : Tryz.prog.cellsOf 23 = 1 := by kernel_rfl
theorem c_script : Tryz.prog.cellsOf 25 = 2 := by kernel_rfl
theorem reads_op (W : World) : Reads Tryz.prog W 34 encOp okOp := by
  intro A ec base spare held fuel cs x h
  obtain ⟨hl, hp⟩ := reads_parts Tryz.underlying34 h
  rw [c_op] at hl
  obtain ⟨k, e0, g0⟩ := hp 0 0 rfl c_u8 (reads_int Tryz.underlying5)
  obtain ⟨x1, e1, g1⟩ := hp 1 1 rfl c_int (reads_int Tryz.underlying3)
  obtain ⟨x2, e2, g2⟩ := hp 2 2 rfl c_int (reads_int Tryz.underlying3)
  obtain ⟨x3, e3, g3⟩ := hp 3 3 rfl c_int (reads_int Tryz.underlying3)
  obtain ⟨k', rfl, hk⟩ := u8_wf g0
  clear h hp
  match cs, hl with
  | [c0, c1, c2, c3], _ =>
    simp at e0 e1 e2 e3
    subst e0; subst e1; subst e2; subst e3
    exact ⟨⟨k', x1, x2, x3⟩, rfl, hk, i64_wf g1⟩
structure ScV where
  a : Option Addr
  c : Nat
  l : List Int
  aL : Option Addr
  cL : Nat
  ops : List OpT
def encSc (v : ScV) : List Value := [.slice v.a v.l.length v.c, .slice v.aL v.ops.length v.cL]
structure ScIn (W : World) (v : ScV) : Prop where
  s : SlT encI 1 v.a v.l (heapOf W)
  o : SlT encOp 4 v.aL v.ops (heapOf W)
  k : ∀ o ∈ v.ops, okOp o
theorem reads_script (W : World) : Reads Tryz.prog W 25 encSc (ScIn W) := by
  intro A ec base spare held fuel cs x h
  obtain ⟨hl, hp⟩ := reads_parts Tryz.underlying25 h
  rw [c_script] at hl
  obtain ⟨l, e0, g0⟩ := hp 0 0 rfl c_ints (reads_ints W)
  obtain ⟨o, e1, g1⟩ := hp 1 1 rfl c_ops (reads_slice Tryz.underlying23 c_op (by decide) (fun _ => rfl) (reads_op W))
  clear h hp
  match cs, hl with
  | [c0, c1], _ =>
    simp [encSl] at e0 e1
    subst e0; subst e1
    exact ⟨⟨l.a, l.cap, l.ts, o.a, o.cap, o.ts⟩, rfl, g0.sl, g1.sl, g1.all⟩
end Go.Proofs.YthnhijdfcmcnhaaGreat
namespace Go.Proofs.YthnhijdfcmcnhaaGreat
open Go Go.Cx Go.RowKit
set_option linter.unusedVariables false
set_option linter.unusedSimpArgs false
set_option maxHeartbeats 4000000
attribute [local irreducible] J JC thenK blockK loopK drawK retK QW Qt pel List.set Calls
open Go.ChangeShapes Go.WideShapes
set_option maxRecDepth 100000 in
theorem obddRuns_lifted (os : Os) (started : os.Started) (T : Type) (enc : TypeId × Value → T) :
    ReturnsInHanded {} Tryz.checked os 3 .any (Rows.obddRunsSpec.pre6 enc Tryz.prog Tryz.f3 [] false)
      (Rows.obddRunsSpec.post enc Tryz.prog Tryz.f3 false true false false) := by
  refine returnsInHanded_of_change_sized (C := Tryz.checked) own started (by kernel_rfl) Tryz.func3
    (ChangeSpec.witness6 (enc := enc) (C := Tryz.checked) false ⟨#[], #[.agg #[.slice none 0 0, .slice none 0 0]], []⟩ 8 (by kernel_rfl) (by kernel_rfl) (by kernel_rfl) (by kernel_rfl)) ?_
  intro W base args ds gs before hval0 hW _ hwt _
  have hval : ∀ (j : Nat) t v, Tryz.f3.params[j]? = some t → args[j]? = some v → Value.okWide Tryz.prog W .any base t v := hval0
  have hW' := hW
  obtain ⟨p, q, hA0, hV, rfl, hfz, hnd⟩ := hW
  have hA : DataW.TrodAll enc Tryz.prog W 0 (fun _ => true) true Tryz.f3.params.toList args.toList ds p := hA0
  rw [Tryz.params3] at hA hval
  obtain ⟨v0, vs0, d0, ds0, p0, q0, hargs, rfl, rfl, h0, r0⟩ := trodAll_cons hA
  obtain ⟨rfl, rfl, rfl⟩ := trodAll_nil r0
  obtain rfl : args = #[v0] := by cases args; simp_all
  obtain ⟨a0, rfl, g0⟩ := arg_agg (let ⟨cs, h, _⟩ := okWide_struct Tryz.underlying25 (hval 0 _ v0 rfl rfl); ⟨cs, h⟩) (reads_script W) h0
  refine (runs_any a0.l a0.a a0.c (heapOf W) g0.s a0.ops a0.aL a0.cL (heapOf W) g0.o g0.k W ((heapOf_holds W).append (heapOf_holds W))).mono fun e W' ⟨he, bel⟩ => ?_
  refine law_post laidOut Tryz.underlying4 rfl (by kernel_rfl) rfl ?_ hW' he bel
  intro ds hds
  match ds, hds with
  | [_], _ => rfl
theorem obddRuns_holds : Rows.ObddRunsSaid :=
  OpenClaim.holds_of_wide 3 Tryz.f3 rfl rfl rfl rfl rfl rfl rfl ⟨rfl, rfl, rfl, rfl, rfl⟩ rfl rfl rfl rfl rfl (by kernel_rfl) Tryz.func3 (by kernel_rfl)
    (of_decide_eq_true (by kernel_rfl)) (by unfold Func.isWrapper; first | (rw [if_pos (by decide +kernel)]; kernel_rfl) | (rw [if_neg (by decide +kernel)]; exact ⟨rfl, rfl⟩))
    (fun os started T enc _ => obddRuns_lifted os started T enc)
#print axioms obddRuns_holds
end Go.Proofs.YthnhijdfcmcnhaaGreat
