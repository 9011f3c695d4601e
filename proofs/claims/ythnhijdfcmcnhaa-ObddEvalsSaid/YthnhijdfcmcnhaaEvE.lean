/- ObddEvals: nodes are true where the document says: the law returns true. -/
import Derived.Test.YthnhijdfcmcnhaaEvD
namespace Go.Proofs.Ythnhijdfcmcnhaa
open Go Go.Cx Go.RowKit
set_option linter.unusedVariables false
set_option linter.unusedSimpArgs false
set_option maxHeartbeats 4000000
attribute [local irreducible] J JC thenK blockK loopK drawK retK QW Qt pel List.set Calls
open Go.Maps Go.Lib
set_option maxRecDepth 8000
attribute [local irreducible] JE Br eK0 eK3 brK pc
theorem rdApp {R : Heap} {L : List Heap} {h : Heap} (M : List Heap) (r : RdH R L h) : RdH R (M ++ L) h := fun x hx => Rd.app M (r x hx)
theorem kEx6_any {n : Nat} {K : KS} {s : SS} {ks : List (Nat × BF)} (k : Kn n K s ks) (h6 : n ≤ 6) {order : List Int} {hO hP : Heap} (po : POk K order hO hP) {a : Nat} {g : BF} (ha : (a, g) ∈ ks) (v : Int) (hv : -9223372036854775808 ≤ v ∧ v ≤ 9223372036854775807) (q : Nat) (hq : rk order v 0 = some q) (hfull : s.ns.length + 2048 ≤ 1048576) {w0 w : World} {R : Heap} {L : List Heap} {b0 : Nat} (hw : H w0 R (sF K b0 s ++ (hO :: hP :: L)) w) :
    Calls Try.prog 42 #[.pointer (some ⟨b0, 0, none⟩), .int .i64 (a : Int), .int .i64 v] w fun e w' => ∃ v L', e = .returned v ∧ H w0 R L' w' ∧ ∃ s' y, v = .tuple #[.int .i64 ((y : Nat) : Int), .int .i64 0] ∧ L' = sF K b0 s' ++ (hO :: hP :: L) ∧ Kn n K s' ((y, exF q g) :: ks) ∧ s'.ns.length ≤ s.ns.length + 2048 := by
  have ka := k.at_ a g ha
  have hqn : q < n := by
    obtain ⟨_, h2, _⟩ := rk_some hq
    have := po.len; have := k.so.no; omega
  have hq5 : 2 ^ q ≤ 2 ^ 5 := Nat.pow_le_pow_right (by omega) (by omega)
  have h2n : 2 ^ n ≤ 2 ^ 6 := Nat.pow_le_pow_right (by omega) (by omega)
  have hm : 2 ^ q * 2 ^ n ≤ 32 * 64 := Nat.mul_le_mul hq5 h2n
  refine (Exists_any k.so po a ka.1 v hv q hq (by omega) hw).mono ?_
  rintro e w' ⟨v, L', h1, h2, s1, y1, h3, h4, r⟩
  have := r.1.le
  exact ⟨v, L', h1, h2, s1, y1, h3, h4, k.put r (fun α => exF_congr ka.2 α), by omega⟩
theorem RunS.next {n : Nat} {K : KS} {s s1 : SS} {A : List Nat} {vs : List TV} {aA aF aA' aF' : Option Addr} {cA cF cA' cF' : Nat} {hA hF hI hA' hF' hx : Heap} {y : Nat} {v : TV} {g : BF} (st : RunS n K s A vs aA aF cA cF hA hF hI) (k : Kn n K s1 ((y, g) :: zipK2 A vs)) (e : ∀ α, g α = v.g α) (o1 : OwT encI 1 3 aA' cA' (natI A ++ [(y : Int)]) hA') (o2 : OwT (encTV n) 1 65 aF' cF' (vs ++ [v]) hF') (ox : SlT encBo 1 v.a (tabF n v.g) hx) : RunS n K s1 (A ++ [y]) (vs ++ [v]) aA' aF' cA' cF' hA' hF' (hx ++ hI) := by
  have hg : g = v.g := funext e
  subst hg
  refine ⟨by simp [st.len], by simp; have := st.two; omega, ?_, ?_, o2, fun u hu => ?_⟩
  · rw [zipK2_app st.len]
    exact k.perm fun x hx => (List.mem_append.1 hx).elim (fun g => List.mem_cons_of_mem _ g) (fun g => by rw [List.mem_singleton.1 g]; exact List.mem_cons_self)
  · have : natI (A ++ [y]) = natI A ++ [(y : Int)] := by unfold natI; rw [List.map_append]; rfl
    rw [this]; exact o1
  · rcases List.mem_append.1 hu with g | g
    · exact (st.i u g).sub fun x hx => List.mem_append_right _ hx
    · rw [List.mem_singleton.1 g]; exact ox.sub fun x hx => List.mem_append_left _ hx
theorem eDo : Entr Try.prog 35 := Entr.of Try.func35 rfl rfl
def opV (κ : Nat) (x y z : Int) : Value := .agg ⟨[.int .u8 (κ : Int), .int .i64 x, .int .i64 y, .int .i64 z]⟩
def runV (b0 : Nat) (aA : Option Addr) (nA cA : Nat) (aF : Option Addr) (nF cF : Nat) (bad : Bool) : Value := .agg ⟨[.pointer (some ⟨b0, 0, none⟩), .slice aA nA cA, .slice aF nF cF, .bool bad]⟩
set_option maxHeartbeats 32000000 in
theorem do_any {n : Nat} {K : KS} {s : SS} {A : List Nat} {vs : List TV} {aA aF : Option Addr} {cA cF : Nat} {hA hF hI : Heap} (st : RunS n K s A vs aA aF cA cF hA hF hI) (h6 : n ≤ 6) (hn0 : 0 < n) {order : List Int} {hO hP : Heap} (po : POk K order hO hP) (hlen : A.length ≤ 40) (hfull : s.ns.length + 2100 ≤ 1048576) (a : Option Addr) (c : Nat) (h : Heap) (hs : SlT encI 1 a order h) (κ : Nat) (hκb : κ < 256) (x y z : Int) (hxr : -9223372036854775808 ≤ x ∧ x ≤ 9223372036854775807) {w0 w : World} {R : Heap} {L : List Heap} {b0 : Nat} (hr : ∀ M, RdH R M h) (hw : H w0 R (sF K b0 s ++ (hO :: hP :: hA :: hF :: hI :: L)) w) :
    Calls Try.prog 35 #[runV b0 aA (natI A).length cA aF vs.length cF false, .slice a order.length c, opV κ x y z] w fun e w' => ∃ v L', e = .returned v ∧ H w0 R L' w' ∧ ∃ s' A' vs' aA' aF' cA' cF' hA' hF' hI', v = runV b0 aA' (natI A').length cA' aF' vs'.length cF' false ∧ L' = sF K b0 s' ++ (hO :: hP :: hA' :: hF' :: hI' :: L) ∧ RunS n K s' A' vs' aA' aF' cA' cF' hA' hF' hI' ∧ A'.length ≤ A.length + 1 ∧ s'.ns.length ≤ s.ns.length + 2100 := by
  have so := st.kn.so
  have hno := so.no
  have hpl := po.len
  have hon : order.length = n := by omega
  subst hon
  have h8 : order.length ≤ 8 := by omega
  have hnl := natI_len A
  have hvl := st.len
  have tw := st.two
  have hx2 := (modN_lt x (show 0 < (natI A).length by omega)).1
  have hy2 := (modN_lt y (show 0 < (natI A).length by omega)).1
  have hz2 := (modN_lt z (show 0 < (natI A).length by omega)).1
  have hx1 : modN x (natI A).length < A.length := by omega
  have hy1 : modN y (natI A).length < A.length := by omega
  have hz1 : modN z (natI A).length < A.length := by omega
  have hgx := mem_g vs (modN x (natI A).length) (by omega)
  have hgy := mem_g vs (modN y (natI A).length) (by omega)
  have hgz := mem_g vs (modN z (natI A).length) (by omega)
  have hmx := (modN_lt x hn0).1
  have hmy := (modN_lt y hn0).1
  have hrx := rk_at po.ok.2 (k := modN x order.length) hmx
  have hry := rk_at po.ok.2 (k := modN y order.length) hmy
  have hvx : -9223372036854775808 ≤ order.getD (modN x order.length) default ∧ order.getD (modN x order.length) default ≤ 9223372036854775807 := by have := po.ok.1 _ (mem_g order _ hmx); omega
  have hvy : -9223372036854775808 ≤ order.getD (modN y order.length) default ∧ order.getD (modN y order.length) default ≤ 9223372036854775807 := by have := po.ok.1 _ (mem_g order _ hmy); omega

  by_cases h0 : κ % 8 = 0 ∧ rk order x 0 = none
  ·
    obtain ⟨hκ, hkx⟩ := h0
    have two := so.wf.two
    refine calls_in Try.func35 Try.ntmps35 rfl rfl (hw) ?_
    refine JC.seq ?_
    refine JC.region ?_
    refine J.isJ ?_
    refine J.o 6 ?_
    refine J.bx (fun b3 => ?_)
    refine J.isJ ?_
    refine J.o 6 ?_
    refine J.bx (fun b5 => ?_)
    refine J.isJ ?_
    refine J.o 7 ?_
    refine J.al hΓ (fun b6 => ?_)
    refine J.nil ?_
    refine thenK.nn ?_
    refine JC.perm (brC K b0 s _ _ _ hO hP _) ?_
    repeat' first
      | (refine J.isJ ?_; first | (first | (refine J.fc 25 ?_; refine J.call0 eVarS rfl rfl (fun w hw => Var_out (by omega) po x hxr hkx b0 w (stP_of hw)) ?_) | (refine J.fc 87 ?_; refine J.call0 eVar30 rfl rfl (fun w hw => varN_any order order.length rfl a c h hs (by omega) x hkx w (hw.rdH (hr _))) ?_) | (refine J.o 1 ?_; refine J.grem (b := 8) ?_; rw [hκ]) | (refine J.o 4 ?_; first | refine J.lR hΓ ?_ (hr := Rd.app _ Rd.hd.tl.tl) | refine J.lR hΓ ?_ (hr := Rd.app _ Rd.hd.tl.tl.tl) | refine J.lR hΓ ?_ (hr := Rd.app _ Rd.hd.tl.tl.tl.tl) | refine J.lR hΓ ?_ (hr := (Rd.app _ Rd.hd.tl.tl).tl) | refine J.lR hΓ ?_ (hr := (Rd.app _ Rd.hd.tl.tl.tl).tl) | refine J.lR hΓ ?_ (hr := (Rd.app _ Rd.hd.tl.tl.tl.tl).tl) | (refine J.lT default hΓ ?_ (hs := st.oA.sl) (hr := rdApp _ RdH.hd.tl.tl.tl.tl.tl); first | rw [natI_get A hx1] | rw [natI_get A hy1] | rw [natI_get A hz1]) | refine J.lT default hΓ ?_ (hs := st.oF.sl) (hr := rdApp _ RdH.hd.tl.tl.tl.tl.tl.tl) | refine J.lT default hΓ ?_ (hs := hs) (hr := hr _)) | (refine J.o 3 ?_; first | refine J.iJ hΓ ?_ (hs := st.oA.sl) | refine J.iJ hΓ ?_ (hs := st.oF.sl) | refine J.iJ hΓ ?_ (hs := hs)) | (refine J.fc 86 ?_; first | refine J.call0 eMod rfl rfl (fun w hw => mod_any x (natI A).length (by omega) (by omega) w) ?_ | refine J.call0 eMod rfl rfl (fun w hw => mod_any y (natI A).length (by omega) (by omega) w) ?_ | refine J.call0 eMod rfl rfl (fun w hw => mod_any z (natI A).length (by omega) (by omega) w) ?_ | refine J.call0 eMod rfl rfl (fun w hw => mod_any y order.length (by omega) (by omega) w) ?_ | refine J.call0 eMod rfl rfl (fun w hw => mod_any x order.length (by omega) (by omega) w) ?_)) | (first | (refine J.o 0 ?_; refine J.ev' hΓ ?_) | refine J.nil ?_ | (refine J.o 4 ?_; first | refine J.lT default hΓ ?_ | refine J.lR hΓ ?_) | (refine J.o 3 ?_; first | refine J.iJ hΓ ?_ | refine J.ev' hΓ ?_) | (refine J.o 5 ?_; first | refine J.t0 hΓ ?_ | refine J.t1 hΓ ?_) | (refine J.o 6 ?_; refine J.bx (fun _ => ?_)) | (refine J.o 7 ?_; refine J.al hΓ (fun _ => ?_)) | (refine J.o 9 ?_; refine J.bl hΓ (fun _ => ?_)) | (refine J.o 10 ?_; refine J.ev' hΓ ?_) | (refine J.o 11 ?_; refine J.ev' hΓ ?_)))
      | (first | refine JC.seq ?_ | refine JC.region ?_ | refine JC.block ?_ | refine JC.ret ?_ | refine JC.skip ?_ | refine thenK.nn ?_ | refine thenK.r ?_ | refine blockK.nn ?_ | refine JC.condT rfl ?_ | refine JC.condF rfl ?_ | refine drawK.nn ?_)
      | ((first | (refine JC.drawO [(0,0),(1,1),(0,2),(1,3),(0,4),(0,5),(1,6),(2,7),(0,8),(0,9),(0,10),(0,11),(0,12)] (by decide +kernel) (by decide +kernel) ?_) | (refine JC.drawO [(0,0),(1,1),(0,2),(1,3),(0,4),(0,5),(1,6),(0,7),(1,8),(0,9),(0,10),(1,11),(2,12),(0,13),(0,14),(0,15),(0,16),(0,17)] (by decide +kernel) (by decide +kernel) ?_) | (refine JC.drawO [(0,0),(1,1),(0,2),(0,3),(1,4),(0,5),(1,6),(0,7),(0,8),(1,9),(2,10),(0,11)] (by decide +kernel) (by decide +kernel) ?_) | (refine JC.drawO [(0,0),(1,1),(0,2),(1,3),(0,4),(0,5),(1,6),(0,7),(1,8),(0,9),(0,10),(1,11),(0,12),(1,13),(0,14),(0,15),(1,16),(2,17),(0,18),(0,19),(0,20),(0,21),(0,22)] (by decide +kernel) (by decide +kernel) ?_) | (refine JC.drawO [(0,0),(1,1),(0,2),(0,3),(1,4),(0,5),(1,6),(0,7),(0,8),(1,9),(0,10),(1,11),(0,12),(0,13),(1,14),(2,15),(0,16)] (by decide +kernel) (by decide +kernel) ?_) | (refine JC.drawO [(0,0),(1,1),(0,2),(1,3),(0,4),(0,5),(1,6),(0,7),(0,8),(0,9),(1,10),(2,11),(0,12),(0,13),(0,14),(0,15),(0,16)] (by decide +kernel) (by decide +kernel) ?_) | (refine JC.drawW [] [] (by decide +kernel) (by decide +kernel) ?_)))
      | fail
    all_goals first | (exfalso; omega) | skip
    unfold sF
    simp only [List.cons_append, List.nil_append]
    repeat' first
      | (refine J.isJ ?_; first | ((refine J.o 5 ?_; first | (refine J.perm (bring_perm 8 _) ?_; refine J.t0 hΓ ?_) | (refine J.perm (bring_perm 7 _) ?_; refine J.t0 hΓ ?_))) | (first | (refine J.o 0 ?_; refine J.ev' hΓ ?_) | refine J.nil ?_ | (refine J.o 4 ?_; first | refine J.lT default hΓ ?_ | refine J.lR hΓ ?_) | (refine J.o 3 ?_; first | refine J.iJ hΓ ?_ | refine J.ev' hΓ ?_) | (refine J.o 5 ?_; first | refine J.t0 hΓ ?_ | refine J.t1 hΓ ?_) | (refine J.o 6 ?_; refine J.bx (fun _ => ?_)) | (refine J.o 7 ?_; refine J.al hΓ (fun _ => ?_)) | (refine J.o 9 ?_; refine J.bl hΓ (fun _ => ?_)) | (refine J.o 10 ?_; refine J.ev' hΓ ?_) | (refine J.o 11 ?_; refine J.ev' hΓ ?_)))
      | (first | refine JC.seq ?_ | refine JC.region ?_ | refine JC.block ?_ | refine JC.ret ?_ | refine JC.skip ?_ | refine thenK.nn ?_ | refine thenK.r ?_ | refine blockK.nn ?_ | refine JC.condT rfl ?_ | refine JC.condF rfl ?_ | refine drawK.nn ?_)
      | (fail)
      | fail
    refine retC hΓ rfl rfl rfl Rd.hd rfl (fun w1 hw => ?_)
    have hw3 := H.sel (l := [_, _, _, _, _, _, _, _, _, _, _, _]) (M := L) hw [2, 3, 4, 5, 6, 7, 9, 10, 11]
    exact ⟨_, _, rfl, hw3, s, A, vs, aA, aF, cA, cF, hA, hF, hI, rfl, rfl, st, by omega, by omega⟩
  have hcase : (κ % 8 = 0 ∧ ∃ kx, rk order x 0 = some kx) ∨ (κ % 8 = 1 ∨ κ % 8 = 2 ∨ κ % 8 = 3 ∨ κ % 8 = 4) ∨ (κ % 8 = 5 ∨ κ % 8 = 6 ∨ κ % 8 = 7) := by
    cases hk : rk order x 0 with
    | none => have : κ % 8 ≠ 0 := fun e => h0 ⟨e, hk⟩
              omega
    | some kx => rcases (show κ % 8 = 0 ∨ κ % 8 ≠ 0 by omega) with g | g
                 · exact .inl ⟨g, kx, rfl⟩
                 · omega
  rcases hcase with ⟨hκ, kx, hkx⟩ | (hκ | hκ | hκ | hκ) | (hκ | hκ | hκ)

  ·
    refine calls_in Try.func35 Try.ntmps35 rfl rfl (hw) ?_
    refine JC.seq ?_
    refine JC.region ?_
    refine J.isJ ?_
    refine J.o 6 ?_
    refine J.bx (fun b3 => ?_)
    refine J.isJ ?_
    refine J.o 6 ?_
    refine J.bx (fun b5 => ?_)
    refine J.isJ ?_
    refine J.o 7 ?_
    refine J.al hΓ (fun b6 => ?_)
    refine J.nil ?_
    refine thenK.nn ?_
    refine JC.perm (brC K b0 s _ _ _ hO hP _) ?_
    repeat' first
      | (refine J.isJ ?_; first | (first | (refine J.o 1 ?_; refine J.grem (b := 8) ?_; rw [hκ]) | (refine J.o 4 ?_; first | refine J.lR hΓ ?_ (hr := Rd.app _ Rd.hd.tl.tl) | refine J.lR hΓ ?_ (hr := Rd.app _ Rd.hd.tl.tl.tl) | refine J.lR hΓ ?_ (hr := Rd.app _ Rd.hd.tl.tl.tl.tl) | refine J.lR hΓ ?_ (hr := (Rd.app _ Rd.hd.tl.tl).tl) | refine J.lR hΓ ?_ (hr := (Rd.app _ Rd.hd.tl.tl.tl).tl) | refine J.lR hΓ ?_ (hr := (Rd.app _ Rd.hd.tl.tl.tl.tl).tl) | (refine J.lT default hΓ ?_ (hs := st.oA.sl) (hr := rdApp _ RdH.hd.tl.tl.tl.tl.tl); first | rw [natI_get A hx1] | rw [natI_get A hy1] | rw [natI_get A hz1]) | refine J.lT default hΓ ?_ (hs := st.oF.sl) (hr := rdApp _ RdH.hd.tl.tl.tl.tl.tl.tl) | refine J.lT default hΓ ?_ (hs := hs) (hr := hr _)) | (refine J.o 3 ?_; first | refine J.iJ hΓ ?_ (hs := st.oA.sl) | refine J.iJ hΓ ?_ (hs := st.oF.sl) | refine J.iJ hΓ ?_ (hs := hs)) | (refine J.fc 86 ?_; first | refine J.call0 eMod rfl rfl (fun w hw => mod_any x (natI A).length (by omega) (by omega) w) ?_ | refine J.call0 eMod rfl rfl (fun w hw => mod_any y (natI A).length (by omega) (by omega) w) ?_ | refine J.call0 eMod rfl rfl (fun w hw => mod_any z (natI A).length (by omega) (by omega) w) ?_ | refine J.call0 eMod rfl rfl (fun w hw => mod_any y order.length (by omega) (by omega) w) ?_ | refine J.call0 eMod rfl rfl (fun w hw => mod_any x order.length (by omega) (by omega) w) ?_) | (refine J.fc 17 ?_; refine J.callx eNot rfl rfl (fun w hw => kNot_any st.kn h8 (zipK2_mem st.len hx1) (by omega) hw) ?_; rintro _ _ ⟨s1, y1, rfl, rfl, k1, hle⟩) | (refine J.fc 21 ?_; refine J.callx eAnd rfl rfl (fun w hw => kAnd_any st.kn h8 (zipK2_mem st.len hx1) (zipK2_mem st.len hy1) (by omega) hw) ?_; rintro _ _ ⟨s1, y1, rfl, rfl, k1, hle⟩) | (refine J.fc 39 ?_; refine J.callx eOr rfl rfl (fun w hw => kOr_any st.kn h8 (zipK2_mem st.len hx1) (zipK2_mem st.len hy1) (by omega) hw) ?_; rintro _ _ ⟨s1, y1, rfl, rfl, k1, hle⟩) | (refine J.fc 22 ?_; refine J.callx eXor rfl rfl (fun w hw => kXor_any st.kn h8 (zipK2_mem st.len hx1) (zipK2_mem st.len hy1) (by omega) hw) ?_; rintro _ _ ⟨s1, y1, rfl, rfl, k1, hle⟩) | (refine J.fc 20 ?_; refine J.callx eIf rfl rfl (fun w hw => kIf_any st.kn h8 (zipK2_mem st.len hx1) (zipK2_mem st.len hy1) (zipK2_mem st.len hz1) (by omega) hw) ?_; rintro _ _ ⟨s1, y1, rfl, rfl, k1, hle⟩) | (refine J.fc 42 ?_; refine J.callx eExists rfl rfl (fun w hw => kEx6_any st.kn h6 po (zipK2_mem st.len hx1) _ hvy _ hry (by omega) hw) ?_; rintro _ _ ⟨s1, y1, rfl, rfl, k1, hle⟩) | (refine J.fc 25 ?_; first | (refine J.callx eVarS rfl rfl (fun w hw => Var_any so po x hxr kx hkx (by omega) hw) ?_; rintro _ _ ⟨s1, y1, rfl, rfl, r⟩; have hle := r.1.le; have k1 := st.kn.put r (fun α => rfl)) | (refine J.callx eVarS rfl rfl (fun w hw => Var_any so po _ hvx _ hrx (by omega) hw) ?_; rintro _ _ ⟨s1, y1, rfl, rfl, r⟩; have hle := r.1.le; have k1 := st.kn.put r (fun α => rfl))) | (refine J.fc 88 ?_; refine J.call1 eNot30 rfl rfl (fun w hw => notT_any order.length h8 (vs.getD (modN x (natI A).length) default).g _ _ hI (st.i _ hgx) w (hw.rdH (rdApp _ RdH.hd.tl.tl.tl.tl.tl.tl.tl))) ?_; rintro _ hx ⟨ax, cx, rfl, ox⟩) | (refine J.fc 89 ?_; refine J.call1 eAnd30 rfl rfl (fun w hw => andT_any order.length h8 (vs.getD (modN x (natI A).length) default).g (vs.getD (modN y (natI A).length) default).g _ _ _ _ hI hI (st.i _ hgx) (st.i _ hgy) w ((hw.rdH (rdApp _ RdH.hd.tl.tl.tl.tl.tl.tl.tl)).append (hw.rdH (rdApp _ RdH.hd.tl.tl.tl.tl.tl.tl.tl)))) ?_; rintro _ hx ⟨ax, cx, rfl, ox⟩) | (refine J.fc 90 ?_; refine J.call1 eOr30 rfl rfl (fun w hw => orT_any order.length h8 (vs.getD (modN x (natI A).length) default).g (vs.getD (modN y (natI A).length) default).g _ _ _ _ hI hI (st.i _ hgx) (st.i _ hgy) w ((hw.rdH (rdApp _ RdH.hd.tl.tl.tl.tl.tl.tl.tl)).append (hw.rdH (rdApp _ RdH.hd.tl.tl.tl.tl.tl.tl.tl)))) ?_; rintro _ hx ⟨ax, cx, rfl, ox⟩) | (refine J.fc 91 ?_; refine J.call1 eXor30 rfl rfl (fun w hw => xorT_any order.length h8 (vs.getD (modN x (natI A).length) default).g (vs.getD (modN y (natI A).length) default).g _ _ _ _ hI hI (st.i _ hgx) (st.i _ hgy) w ((hw.rdH (rdApp _ RdH.hd.tl.tl.tl.tl.tl.tl.tl)).append (hw.rdH (rdApp _ RdH.hd.tl.tl.tl.tl.tl.tl.tl)))) ?_; rintro _ hx ⟨ax, cx, rfl, ox⟩) | (refine J.fc 92 ?_; refine J.call1 eIf30 rfl rfl (fun w hw => ifT_any order.length h8 (vs.getD (modN x (natI A).length) default).g (vs.getD (modN y (natI A).length) default).g (vs.getD (modN z (natI A).length) default).g _ _ _ _ _ _ hI hI hI (st.i _ hgx) (st.i _ hgy) (st.i _ hgz) w ((hw.rdH (rdApp _ RdH.hd.tl.tl.tl.tl.tl.tl.tl)).append ((hw.rdH (rdApp _ RdH.hd.tl.tl.tl.tl.tl.tl.tl)).append (hw.rdH (rdApp _ RdH.hd.tl.tl.tl.tl.tl.tl.tl))))) ?_; rintro _ hx ⟨ax, cx, rfl, ox⟩) | (refine J.fc 93 ?_; refine J.call1 eExists30 rfl rfl (fun w hw => exT_any order.length h8 a c _ hmy (vs.getD (modN x (natI A).length) default).g _ _ hI (st.i _ hgx) w (hw.rdH (rdApp _ RdH.hd.tl.tl.tl.tl.tl.tl.tl))) ?_; rintro _ hx ⟨ax, cx, rfl, ox⟩) | (refine J.fc 87 ?_; first | (refine J.call1 eVar30 rfl rfl (fun w hw => varT_any order.length h8 order rfl a c h hs x kx hkx w (hw.rdH (hr _))) ?_; rintro _ hx ⟨_, rfl, ax, cx, rfl, ox⟩) | (refine J.call1 eVar30 rfl rfl (fun w hw => varT_any order.length h8 order rfl a c h hs _ _ hrx w (hw.rdH (hr _))) ?_; rintro _ hx ⟨_, rfl, ax, cx, rfl, ox⟩))) | (first | (refine J.o 0 ?_; refine J.ev' hΓ ?_) | refine J.nil ?_ | (refine J.o 4 ?_; first | refine J.lT default hΓ ?_ | refine J.lR hΓ ?_) | (refine J.o 3 ?_; first | refine J.iJ hΓ ?_ | refine J.ev' hΓ ?_) | (refine J.o 5 ?_; first | refine J.t0 hΓ ?_ | refine J.t1 hΓ ?_) | (refine J.o 6 ?_; refine J.bx (fun _ => ?_)) | (refine J.o 7 ?_; refine J.al hΓ (fun _ => ?_)) | (refine J.o 9 ?_; refine J.bl hΓ (fun _ => ?_)) | (refine J.o 10 ?_; refine J.ev' hΓ ?_) | (refine J.o 11 ?_; refine J.ev' hΓ ?_)))
      | (first | refine JC.seq ?_ | refine JC.region ?_ | refine JC.block ?_ | refine JC.ret ?_ | refine JC.skip ?_ | refine thenK.nn ?_ | refine thenK.r ?_ | refine blockK.nn ?_ | refine JC.condT rfl ?_ | refine JC.condF rfl ?_ | refine drawK.nn ?_)
      | ((first | (refine JC.drawO [(0,0),(1,1),(0,2),(1,3),(0,4),(0,5),(1,6),(2,7),(0,8),(0,9),(0,10),(0,11),(0,12)] (by decide +kernel) (by decide +kernel) ?_) | (refine JC.drawO [(0,0),(1,1),(0,2),(1,3),(0,4),(0,5),(1,6),(0,7),(1,8),(0,9),(0,10),(1,11),(2,12),(0,13),(0,14),(0,15),(0,16),(0,17)] (by decide +kernel) (by decide +kernel) ?_) | (refine JC.drawO [(0,0),(1,1),(0,2),(0,3),(1,4),(0,5),(1,6),(0,7),(0,8),(1,9),(2,10),(0,11)] (by decide +kernel) (by decide +kernel) ?_) | (refine JC.drawO [(0,0),(1,1),(0,2),(1,3),(0,4),(0,5),(1,6),(0,7),(1,8),(0,9),(0,10),(1,11),(0,12),(1,13),(0,14),(0,15),(1,16),(2,17),(0,18),(0,19),(0,20),(0,21),(0,22)] (by decide +kernel) (by decide +kernel) ?_) | (refine JC.drawO [(0,0),(1,1),(0,2),(0,3),(1,4),(0,5),(1,6),(0,7),(0,8),(1,9),(0,10),(1,11),(0,12),(0,13),(1,14),(2,15),(0,16)] (by decide +kernel) (by decide +kernel) ?_) | (refine JC.drawO [(0,0),(1,1),(0,2),(1,3),(0,4),(0,5),(1,6),(0,7),(0,8),(0,9),(1,10),(2,11),(0,12),(0,13),(0,14),(0,15),(0,16)] (by decide +kernel) (by decide +kernel) ?_) | (refine JC.drawW [] [] (by decide +kernel) (by decide +kernel) ?_)))
      | fail
    all_goals first | (exfalso; omega) | skip

    obtain ⟨G, kG, oG⟩ : ∃ G : BF, Kn order.length K s1 ((y1, G) :: zipK2 A vs) ∧ SlT encBo 1 ax (tabF order.length G) hx := ⟨_, k1, ox.sl⟩
    unfold sF
    simp only [List.cons_append, List.nil_append]
    refine J.isJ ?_
    refine J.o 9 ?_
    refine J.perm (bring_perm 11 _) ?_
    refine J.perm br1 ?_
    refine J.ap1 (enc := encI) [(y1 : Int)] hΓ (fun a2 c2 h2 o2 => ?_) (ho := st.oA)
    repeat' first
      | (refine J.isJ ?_; first | ((refine J.o 5 ?_; refine J.perm (bring_perm 10 _) ?_; refine J.t0 hΓ ?_)) | (first | (refine J.o 0 ?_; refine J.ev' hΓ ?_) | refine J.nil ?_ | (refine J.o 4 ?_; first | refine J.lT default hΓ ?_ | refine J.lR hΓ ?_) | (refine J.o 3 ?_; first | refine J.iJ hΓ ?_ | refine J.ev' hΓ ?_) | (refine J.o 5 ?_; first | refine J.t0 hΓ ?_ | refine J.t1 hΓ ?_) | (refine J.o 6 ?_; refine J.bx (fun _ => ?_)) | (refine J.o 7 ?_; refine J.al hΓ (fun _ => ?_)) | (refine J.o 9 ?_; refine J.bl hΓ (fun _ => ?_)) | (refine J.o 10 ?_; refine J.ev' hΓ ?_) | (refine J.o 11 ?_; refine J.ev' hΓ ?_)))
      | (first | refine JC.seq ?_ | refine JC.region ?_ | refine JC.block ?_ | refine JC.ret ?_ | refine JC.skip ?_ | refine thenK.nn ?_ | refine thenK.r ?_ | refine blockK.nn ?_ | refine JC.condT rfl ?_ | refine JC.condF rfl ?_ | refine drawK.nn ?_)
      | (fail)
      | fail
    refine J.isJ ?_
    refine J.o 9 ?_
    refine J.perm (bring_perm 12 _) ?_
    refine J.perm br1 ?_
    refine J.ap1 (enc := encTV order.length) [(⟨ax, cx, G⟩ : TV)] hΓ (fun a3 c3 h3 o3 => ?_) (ho := st.oF)
    repeat' first
      | (refine J.isJ ?_; first | ((refine J.o 5 ?_; first | refine J.t1 hΓ ?_ | (refine J.perm (bring_perm 10 _) ?_; refine J.t0 hΓ ?_))) | (first | (refine J.o 0 ?_; refine J.ev' hΓ ?_) | refine J.nil ?_ | (refine J.o 4 ?_; first | refine J.lT default hΓ ?_ | refine J.lR hΓ ?_) | (refine J.o 3 ?_; first | refine J.iJ hΓ ?_ | refine J.ev' hΓ ?_) | (refine J.o 5 ?_; first | refine J.t0 hΓ ?_ | refine J.t1 hΓ ?_) | (refine J.o 6 ?_; refine J.bx (fun _ => ?_)) | (refine J.o 7 ?_; refine J.al hΓ (fun _ => ?_)) | (refine J.o 9 ?_; refine J.bl hΓ (fun _ => ?_)) | (refine J.o 10 ?_; refine J.ev' hΓ ?_) | (refine J.o 11 ?_; refine J.ev' hΓ ?_)))
      | (first | refine JC.seq ?_ | refine JC.region ?_ | refine JC.block ?_ | refine JC.ret ?_ | refine JC.skip ?_ | refine thenK.nn ?_ | refine thenK.r ?_ | refine blockK.nn ?_ | refine JC.condT rfl ?_ | refine JC.condF rfl ?_ | refine drawK.nn ?_)
      | (fail)
      | fail
    refine retC hΓ rfl rfl rfl Rd.hd rfl (fun w1 hw => ?_)
    have hw2 := (H.sel (l := [_, _, _, _, _, _, _, _, _, _, _, _, _]) (M := L) hw [4, 12, 5, 6, 7, 8, 9, 10, 3, 1]).mg1
    have hw3 := H.sel (l := [_, _, _, _, _, _, _, _, _]) (M := L) hw2 [1, 2, 3, 4, 5, 6, 7, 8, 0]
    have e : natI (A ++ [y1]) = natI A ++ [(y1 : Int)] := by unfold natI; rw [List.map_append]; rfl
    exact ⟨_, _, rfl, hw3, s1, A ++ [y1], vs ++ [⟨ax, cx, G⟩], a2, a3, c2, c3, h2, h3, hx ++ hI, by rw [e]; rfl, rfl, st.next kG (fun α => rfl) o2 o3 oG, by simp, by omega⟩

  ·
    refine calls_in Try.func35 Try.ntmps35 rfl rfl (hw) ?_
    refine JC.seq ?_
    refine JC.region ?_
    refine J.isJ ?_
    refine J.o 6 ?_
    refine J.bx (fun b3 => ?_)
    refine J.isJ ?_
    refine J.o 6 ?_
    refine J.bx (fun b5 => ?_)
    refine J.isJ ?_
    refine J.o 7 ?_
    refine J.al hΓ (fun b6 => ?_)
    refine J.nil ?_
    refine thenK.nn ?_
    refine JC.perm (brC K b0 s _ _ _ hO hP _) ?_
    repeat' first
      | (refine J.isJ ?_; first | (first | (refine J.o 1 ?_; refine J.grem (b := 8) ?_; rw [hκ]) | (refine J.o 4 ?_; first | refine J.lR hΓ ?_ (hr := Rd.app _ Rd.hd.tl.tl) | refine J.lR hΓ ?_ (hr := Rd.app _ Rd.hd.tl.tl.tl) | refine J.lR hΓ ?_ (hr := Rd.app _ Rd.hd.tl.tl.tl.tl) | refine J.lR hΓ ?_ (hr := (Rd.app _ Rd.hd.tl.tl).tl) | refine J.lR hΓ ?_ (hr := (Rd.app _ Rd.hd.tl.tl.tl).tl) | refine J.lR hΓ ?_ (hr := (Rd.app _ Rd.hd.tl.tl.tl.tl).tl) | (refine J.lT default hΓ ?_ (hs := st.oA.sl) (hr := rdApp _ RdH.hd.tl.tl.tl.tl.tl); first | rw [natI_get A hx1] | rw [natI_get A hy1] | rw [natI_get A hz1]) | refine J.lT default hΓ ?_ (hs := st.oF.sl) (hr := rdApp _ RdH.hd.tl.tl.tl.tl.tl.tl) | refine J.lT default hΓ ?_ (hs := hs) (hr := hr _)) | (refine J.o 3 ?_; first | refine J.iJ hΓ ?_ (hs := st.oA.sl) | refine J.iJ hΓ ?_ (hs := st.oF.sl) | refine J.iJ hΓ ?_ (hs := hs)) | (refine J.fc 86 ?_; first | refine J.call0 eMod rfl rfl (fun w hw => mod_any x (natI A).length (by omega) (by omega) w) ?_ | refine J.call0 eMod rfl rfl (fun w hw => mod_any y (natI A).length (by omega) (by omega) w) ?_ | refine J.call0 eMod rfl rfl (fun w hw => mod_any z (natI A).length (by omega) (by omega) w) ?_ | refine J.call0 eMod rfl rfl (fun w hw => mod_any y order.length (by omega) (by omega) w) ?_ | refine J.call0 eMod rfl rfl (fun w hw => mod_any x order.length (by omega) (by omega) w) ?_) | (refine J.fc 17 ?_; refine J.callx eNot rfl rfl (fun w hw => kNot_any st.kn h8 (zipK2_mem st.len hx1) (by omega) hw) ?_; rintro _ _ ⟨s1, y1, rfl, rfl, k1, hle⟩) | (refine J.fc 21 ?_; refine J.callx eAnd rfl rfl (fun w hw => kAnd_any st.kn h8 (zipK2_mem st.len hx1) (zipK2_mem st.len hy1) (by omega) hw) ?_; rintro _ _ ⟨s1, y1, rfl, rfl, k1, hle⟩) | (refine J.fc 39 ?_; refine J.callx eOr rfl rfl (fun w hw => kOr_any st.kn h8 (zipK2_mem st.len hx1) (zipK2_mem st.len hy1) (by omega) hw) ?_; rintro _ _ ⟨s1, y1, rfl, rfl, k1, hle⟩) | (refine J.fc 22 ?_; refine J.callx eXor rfl rfl (fun w hw => kXor_any st.kn h8 (zipK2_mem st.len hx1) (zipK2_mem st.len hy1) (by omega) hw) ?_; rintro _ _ ⟨s1, y1, rfl, rfl, k1, hle⟩) | (refine J.fc 20 ?_; refine J.callx eIf rfl rfl (fun w hw => kIf_any st.kn h8 (zipK2_mem st.len hx1) (zipK2_mem st.len hy1) (zipK2_mem st.len hz1) (by omega) hw) ?_; rintro _ _ ⟨s1, y1, rfl, rfl, k1, hle⟩) | (refine J.fc 42 ?_; refine J.callx eExists rfl rfl (fun w hw => kEx6_any st.kn h6 po (zipK2_mem st.len hx1) _ hvy _ hry (by omega) hw) ?_; rintro _ _ ⟨s1, y1, rfl, rfl, k1, hle⟩) | (refine J.fc 25 ?_; first | (refine J.callx eVarS rfl rfl (fun w hw => Var_any so po x hxr kx hkx (by omega) hw) ?_; rintro _ _ ⟨s1, y1, rfl, rfl, r⟩; have hle := r.1.le; have k1 := st.kn.put r (fun α => rfl)) | (refine J.callx eVarS rfl rfl (fun w hw => Var_any so po _ hvx _ hrx (by omega) hw) ?_; rintro _ _ ⟨s1, y1, rfl, rfl, r⟩; have hle := r.1.le; have k1 := st.kn.put r (fun α => rfl))) | (refine J.fc 88 ?_; refine J.call1 eNot30 rfl rfl (fun w hw => notT_any order.length h8 (vs.getD (modN x (natI A).length) default).g _ _ hI (st.i _ hgx) w (hw.rdH (rdApp _ RdH.hd.tl.tl.tl.tl.tl.tl.tl))) ?_; rintro _ hx ⟨ax, cx, rfl, ox⟩) | (refine J.fc 89 ?_; refine J.call1 eAnd30 rfl rfl (fun w hw => andT_any order.length h8 (vs.getD (modN x (natI A).length) default).g (vs.getD (modN y (natI A).length) default).g _ _ _ _ hI hI (st.i _ hgx) (st.i _ hgy) w ((hw.rdH (rdApp _ RdH.hd.tl.tl.tl.tl.tl.tl.tl)).append (hw.rdH (rdApp _ RdH.hd.tl.tl.tl.tl.tl.tl.tl)))) ?_; rintro _ hx ⟨ax, cx, rfl, ox⟩) | (refine J.fc 90 ?_; refine J.call1 eOr30 rfl rfl (fun w hw => orT_any order.length h8 (vs.getD (modN x (natI A).length) default).g (vs.getD (modN y (natI A).length) default).g _ _ _ _ hI hI (st.i _ hgx) (st.i _ hgy) w ((hw.rdH (rdApp _ RdH.hd.tl.tl.tl.tl.tl.tl.tl)).append (hw.rdH (rdApp _ RdH.hd.tl.tl.tl.tl.tl.tl.tl)))) ?_; rintro _ hx ⟨ax, cx, rfl, ox⟩) | (refine J.fc 91 ?_; refine J.call1 eXor30 rfl rfl (fun w hw => xorT_any order.length h8 (vs.getD (modN x (natI A).length) default).g (vs.getD (modN y (natI A).length) default).g _ _ _ _ hI hI (st.i _ hgx) (st.i _ hgy) w ((hw.rdH (rdApp _ RdH.hd.tl.tl.tl.tl.tl.tl.tl)).append (hw.rdH (rdApp _ RdH.hd.tl.tl.tl.tl.tl.tl.tl)))) ?_; rintro _ hx ⟨ax, cx, rfl, ox⟩) | (refine J.fc 92 ?_; refine J.call1 eIf30 rfl rfl (fun w hw => ifT_any order.length h8 (vs.getD (modN x (natI A).length) default).g (vs.getD (modN y (natI A).length) default).g (vs.getD (modN z (natI A).length) default).g _ _ _ _ _ _ hI hI hI (st.i _ hgx) (st.i _ hgy) (st.i _ hgz) w ((hw.rdH (rdApp _ RdH.hd.tl.tl.tl.tl.tl.tl.tl)).append ((hw.rdH (rdApp _ RdH.hd.tl.tl.tl.tl.tl.tl.tl)).append (hw.rdH (rdApp _ RdH.hd.tl.tl.tl.tl.tl.tl.tl))))) ?_; rintro _ hx ⟨ax, cx, rfl, ox⟩) | (refine J.fc 93 ?_; refine J.call1 eExists30 rfl rfl (fun w hw => exT_any order.length h8 a c _ hmy (vs.getD (modN x (natI A).length) default).g _ _ hI (st.i _ hgx) w (hw.rdH (rdApp _ RdH.hd.tl.tl.tl.tl.tl.tl.tl))) ?_; rintro _ hx ⟨ax, cx, rfl, ox⟩) | (refine J.fc 87 ?_; first | (refine J.call1 eVar30 rfl rfl (fun w hw => varT_any order.length h8 order rfl a c h hs x kx hkx w (hw.rdH (hr _))) ?_; rintro _ hx ⟨_, rfl, ax, cx, rfl, ox⟩) | (refine J.call1 eVar30 rfl rfl (fun w hw => varT_any order.length h8 order rfl a c h hs _ _ hrx w (hw.rdH (hr _))) ?_; rintro _ hx ⟨_, rfl, ax, cx, rfl, ox⟩))) | (first | (refine J.o 0 ?_; refine J.ev' hΓ ?_) | refine J.nil ?_ | (refine J.o 4 ?_; first | refine J.lT default hΓ ?_ | refine J.lR hΓ ?_) | (refine J.o 3 ?_; first | refine J.iJ hΓ ?_ | refine J.ev' hΓ ?_) | (refine J.o 5 ?_; first | refine J.t0 hΓ ?_ | refine J.t1 hΓ ?_) | (refine J.o 6 ?_; refine J.bx (fun _ => ?_)) | (refine J.o 7 ?_; refine J.al hΓ (fun _ => ?_)) | (refine J.o 9 ?_; refine J.bl hΓ (fun _ => ?_)) | (refine J.o 10 ?_; refine J.ev' hΓ ?_) | (refine J.o 11 ?_; refine J.ev' hΓ ?_)))
      | (first | refine JC.seq ?_ | refine JC.region ?_ | refine JC.block ?_ | refine JC.ret ?_ | refine JC.skip ?_ | refine thenK.nn ?_ | refine thenK.r ?_ | refine blockK.nn ?_ | refine JC.condT rfl ?_ | refine JC.condF rfl ?_ | refine drawK.nn ?_)
      | ((first | (refine JC.drawO [(0,0),(1,1),(0,2),(1,3),(0,4),(0,5),(1,6),(2,7),(0,8),(0,9),(0,10),(0,11),(0,12)] (by decide +kernel) (by decide +kernel) ?_) | (refine JC.drawO [(0,0),(1,1),(0,2),(1,3),(0,4),(0,5),(1,6),(0,7),(1,8),(0,9),(0,10),(1,11),(2,12),(0,13),(0,14),(0,15),(0,16),(0,17)] (by decide +kernel) (by decide +kernel) ?_) | (refine JC.drawO [(0,0),(1,1),(0,2),(0,3),(1,4),(0,5),(1,6),(0,7),(0,8),(1,9),(2,10),(0,11)] (by decide +kernel) (by decide +kernel) ?_) | (refine JC.drawO [(0,0),(1,1),(0,2),(1,3),(0,4),(0,5),(1,6),(0,7),(1,8),(0,9),(0,10),(1,11),(0,12),(1,13),(0,14),(0,15),(1,16),(2,17),(0,18),(0,19),(0,20),(0,21),(0,22)] (by decide +kernel) (by decide +kernel) ?_) | (refine JC.drawO [(0,0),(1,1),(0,2),(0,3),(1,4),(0,5),(1,6),(0,7),(0,8),(1,9),(0,10),(1,11),(0,12),(0,13),(1,14),(2,15),(0,16)] (by decide +kernel) (by decide +kernel) ?_) | (refine JC.drawO [(0,0),(1,1),(0,2),(1,3),(0,4),(0,5),(1,6),(0,7),(0,8),(0,9),(1,10),(2,11),(0,12),(0,13),(0,14),(0,15),(0,16)] (by decide +kernel) (by decide +kernel) ?_) | (refine JC.drawW [] [] (by decide +kernel) (by decide +kernel) ?_)))
      | fail
    all_goals first | (exfalso; omega) | skip

    obtain ⟨G, kG, oG⟩ : ∃ G : BF, Kn order.length K s1 ((y1, G) :: zipK2 A vs) ∧ SlT encBo 1 ax (tabF order.length G) hx := ⟨_, k1, ox.sl⟩
    unfold sF
    simp only [List.cons_append, List.nil_append]
    refine J.isJ ?_
    refine J.o 9 ?_
    refine J.perm (bring_perm 11 _) ?_
    refine J.perm br1 ?_
    refine J.ap1 (enc := encI) [(y1 : Int)] hΓ (fun a2 c2 h2 o2 => ?_) (ho := st.oA)
    repeat' first
      | (refine J.isJ ?_; first | ((refine J.o 5 ?_; refine J.perm (bring_perm 10 _) ?_; refine J.t0 hΓ ?_)) | (first | (refine J.o 0 ?_; refine J.ev' hΓ ?_) | refine J.nil ?_ | (refine J.o 4 ?_; first | refine J.lT default hΓ ?_ | refine J.lR hΓ ?_) | (refine J.o 3 ?_; first | refine J.iJ hΓ ?_ | refine J.ev' hΓ ?_) | (refine J.o 5 ?_; first | refine J.t0 hΓ ?_ | refine J.t1 hΓ ?_) | (refine J.o 6 ?_; refine J.bx (fun _ => ?_)) | (refine J.o 7 ?_; refine J.al hΓ (fun _ => ?_)) | (refine J.o 9 ?_; refine J.bl hΓ (fun _ => ?_)) | (refine J.o 10 ?_; refine J.ev' hΓ ?_) | (refine J.o 11 ?_; refine J.ev' hΓ ?_)))
      | (first | refine JC.seq ?_ | refine JC.region ?_ | refine JC.block ?_ | refine JC.ret ?_ | refine JC.skip ?_ | refine thenK.nn ?_ | refine thenK.r ?_ | refine blockK.nn ?_ | refine JC.condT rfl ?_ | refine JC.condF rfl ?_ | refine drawK.nn ?_)
      | (fail)
      | fail
    refine J.isJ ?_
    refine J.o 9 ?_
    refine J.perm (bring_perm 12 _) ?_
    refine J.perm br1 ?_
    refine J.ap1 (enc := encTV order.length) [(⟨ax, cx, G⟩ : TV)] hΓ (fun a3 c3 h3 o3 => ?_) (ho := st.oF)
    repeat' first
      | (refine J.isJ ?_; first | ((refine J.o 5 ?_; first | refine J.t1 hΓ ?_ | (refine J.perm (bring_perm 10 _) ?_; refine J.t0 hΓ ?_))) | (first | (refine J.o 0 ?_; refine J.ev' hΓ ?_) | refine J.nil ?_ | (refine J.o 4 ?_; first | refine J.lT default hΓ ?_ | refine J.lR hΓ ?_) | (refine J.o 3 ?_; first | refine J.iJ hΓ ?_ | refine J.ev' hΓ ?_) | (refine J.o 5 ?_; first | refine J.t0 hΓ ?_ | refine J.t1 hΓ ?_) | (refine J.o 6 ?_; refine J.bx (fun _ => ?_)) | (refine J.o 7 ?_; refine J.al hΓ (fun _ => ?_)) | (refine J.o 9 ?_; refine J.bl hΓ (fun _ => ?_)) | (refine J.o 10 ?_; refine J.ev' hΓ ?_) | (refine J.o 11 ?_; refine J.ev' hΓ ?_)))
      | (first | refine JC.seq ?_ | refine JC.region ?_ | refine JC.block ?_ | refine JC.ret ?_ | refine JC.skip ?_ | refine thenK.nn ?_ | refine thenK.r ?_ | refine blockK.nn ?_ | refine JC.condT rfl ?_ | refine JC.condF rfl ?_ | refine drawK.nn ?_)
      | (fail)
      | fail
    refine retC hΓ rfl rfl rfl Rd.hd rfl (fun w1 hw => ?_)
    have hw2 := (H.sel (l := [_, _, _, _, _, _, _, _, _, _, _, _, _]) (M := L) hw [4, 12, 5, 6, 7, 8, 9, 10, 3, 1]).mg1
    have hw3 := H.sel (l := [_, _, _, _, _, _, _, _, _]) (M := L) hw2 [1, 2, 3, 4, 5, 6, 7, 8, 0]
    have e : natI (A ++ [y1]) = natI A ++ [(y1 : Int)] := by unfold natI; rw [List.map_append]; rfl
    exact ⟨_, _, rfl, hw3, s1, A ++ [y1], vs ++ [⟨ax, cx, G⟩], a2, a3, c2, c3, h2, h3, hx ++ hI, by rw [e]; rfl, rfl, st.next kG (fun α => rfl) o2 o3 oG, by simp, by omega⟩

  ·
    refine calls_in Try.func35 Try.ntmps35 rfl rfl (hw) ?_
    refine JC.seq ?_
    refine JC.region ?_
    refine J.isJ ?_
    refine J.o 6 ?_
    refine J.bx (fun b3 => ?_)
    refine J.isJ ?_
    refine J.o 6 ?_
    refine J.bx (fun b5 => ?_)
    refine J.isJ ?_
    refine J.o 7 ?_
    refine J.al hΓ (fun b6 => ?_)
    refine J.nil ?_
    refine thenK.nn ?_
    refine JC.perm (brC K b0 s _ _ _ hO hP _) ?_
    repeat' first
      | (refine J.isJ ?_; first | (first | (refine J.o 1 ?_; refine J.grem (b := 8) ?_; rw [hκ]) | (refine J.o 4 ?_; first | refine J.lR hΓ ?_ (hr := Rd.app _ Rd.hd.tl.tl) | refine J.lR hΓ ?_ (hr := Rd.app _ Rd.hd.tl.tl.tl) | refine J.lR hΓ ?_ (hr := Rd.app _ Rd.hd.tl.tl.tl.tl) | refine J.lR hΓ ?_ (hr := (Rd.app _ Rd.hd.tl.tl).tl) | refine J.lR hΓ ?_ (hr := (Rd.app _ Rd.hd.tl.tl.tl).tl) | refine J.lR hΓ ?_ (hr := (Rd.app _ Rd.hd.tl.tl.tl.tl).tl) | (refine J.lT default hΓ ?_ (hs := st.oA.sl) (hr := rdApp _ RdH.hd.tl.tl.tl.tl.tl); first | rw [natI_get A hx1] | rw [natI_get A hy1] | rw [natI_get A hz1]) | refine J.lT default hΓ ?_ (hs := st.oF.sl) (hr := rdApp _ RdH.hd.tl.tl.tl.tl.tl.tl) | refine J.lT default hΓ ?_ (hs := hs) (hr := hr _)) | (refine J.o 3 ?_; first | refine J.iJ hΓ ?_ (hs := st.oA.sl) | refine J.iJ hΓ ?_ (hs := st.oF.sl) | refine J.iJ hΓ ?_ (hs := hs)) | (refine J.fc 86 ?_; first | refine J.call0 eMod rfl rfl (fun w hw => mod_any x (natI A).length (by omega) (by omega) w) ?_ | refine J.call0 eMod rfl rfl (fun w hw => mod_any y (natI A).length (by omega) (by omega) w) ?_ | refine J.call0 eMod rfl rfl (fun w hw => mod_any z (natI A).length (by omega) (by omega) w) ?_ | refine J.call0 eMod rfl rfl (fun w hw => mod_any y order.length (by omega) (by omega) w) ?_ | refine J.call0 eMod rfl rfl (fun w hw => mod_any x order.length (by omega) (by omega) w) ?_) | (refine J.fc 17 ?_; refine J.callx eNot rfl rfl (fun w hw => kNot_any st.kn h8 (zipK2_mem st.len hx1) (by omega) hw) ?_; rintro _ _ ⟨s1, y1, rfl, rfl, k1, hle⟩) | (refine J.fc 21 ?_; refine J.callx eAnd rfl rfl (fun w hw => kAnd_any st.kn h8 (zipK2_mem st.len hx1) (zipK2_mem st.len hy1) (by omega) hw) ?_; rintro _ _ ⟨s1, y1, rfl, rfl, k1, hle⟩) | (refine J.fc 39 ?_; refine J.callx eOr rfl rfl (fun w hw => kOr_any st.kn h8 (zipK2_mem st.len hx1) (zipK2_mem st.len hy1) (by omega) hw) ?_; rintro _ _ ⟨s1, y1, rfl, rfl, k1, hle⟩) | (refine J.fc 22 ?_; refine J.callx eXor rfl rfl (fun w hw => kXor_any st.kn h8 (zipK2_mem st.len hx1) (zipK2_mem st.len hy1) (by omega) hw) ?_; rintro _ _ ⟨s1, y1, rfl, rfl, k1, hle⟩) | (refine J.fc 20 ?_; refine J.callx eIf rfl rfl (fun w hw => kIf_any st.kn h8 (zipK2_mem st.len hx1) (zipK2_mem st.len hy1) (zipK2_mem st.len hz1) (by omega) hw) ?_; rintro _ _ ⟨s1, y1, rfl, rfl, k1, hle⟩) | (refine J.fc 42 ?_; refine J.callx eExists rfl rfl (fun w hw => kEx6_any st.kn h6 po (zipK2_mem st.len hx1) _ hvy _ hry (by omega) hw) ?_; rintro _ _ ⟨s1, y1, rfl, rfl, k1, hle⟩) | (refine J.fc 25 ?_; first | (refine J.callx eVarS rfl rfl (fun w hw => Var_any so po x hxr kx hkx (by omega) hw) ?_; rintro _ _ ⟨s1, y1, rfl, rfl, r⟩; have hle := r.1.le; have k1 := st.kn.put r (fun α => rfl)) | (refine J.callx eVarS rfl rfl (fun w hw => Var_any so po _ hvx _ hrx (by omega) hw) ?_; rintro _ _ ⟨s1, y1, rfl, rfl, r⟩; have hle := r.1.le; have k1 := st.kn.put r (fun α => rfl))) | (refine J.fc 88 ?_; refine J.call1 eNot30 rfl rfl (fun w hw => notT_any order.length h8 (vs.getD (modN x (natI A).length) default).g _ _ hI (st.i _ hgx) w (hw.rdH (rdApp _ RdH.hd.tl.tl.tl.tl.tl.tl.tl))) ?_; rintro _ hx ⟨ax, cx, rfl, ox⟩) | (refine J.fc 89 ?_; refine J.call1 eAnd30 rfl rfl (fun w hw => andT_any order.length h8 (vs.getD (modN x (natI A).length) default).g (vs.getD (modN y (natI A).length) default).g _ _ _ _ hI hI (st.i _ hgx) (st.i _ hgy) w ((hw.rdH (rdApp _ RdH.hd.tl.tl.tl.tl.tl.tl.tl)).append (hw.rdH (rdApp _ RdH.hd.tl.tl.tl.tl.tl.tl.tl)))) ?_; rintro _ hx ⟨ax, cx, rfl, ox⟩) | (refine J.fc 90 ?_; refine J.call1 eOr30 rfl rfl (fun w hw => orT_any order.length h8 (vs.getD (modN x (natI A).length) default).g (vs.getD (modN y (natI A).length) default).g _ _ _ _ hI hI (st.i _ hgx) (st.i _ hgy) w ((hw.rdH (rdApp _ RdH.hd.tl.tl.tl.tl.tl.tl.tl)).append (hw.rdH (rdApp _ RdH.hd.tl.tl.tl.tl.tl.tl.tl)))) ?_; rintro _ hx ⟨ax, cx, rfl, ox⟩) | (refine J.fc 91 ?_; refine J.call1 eXor30 rfl rfl (fun w hw => xorT_any order.length h8 (vs.getD (modN x (natI A).length) default).g (vs.getD (modN y (natI A).length) default).g _ _ _ _ hI hI (st.i _ hgx) (st.i _ hgy) w ((hw.rdH (rdApp _ RdH.hd.tl.tl.tl.tl.tl.tl.tl)).append (hw.rdH (rdApp _ RdH.hd.tl.tl.tl.tl.tl.tl.tl)))) ?_; rintro _ hx ⟨ax, cx, rfl, ox⟩) | (refine J.fc 92 ?_; refine J.call1 eIf30 rfl rfl (fun w hw => ifT_any order.length h8 (vs.getD (modN x (natI A).length) default).g (vs.getD (modN y (natI A).length) default).g (vs.getD (modN z (natI A).length) default).g _ _ _ _ _ _ hI hI hI (st.i _ hgx) (st.i _ hgy) (st.i _ hgz) w ((hw.rdH (rdApp _ RdH.hd.tl.tl.tl.tl.tl.tl.tl)).append ((hw.rdH (rdApp _ RdH.hd.tl.tl.tl.tl.tl.tl.tl)).append (hw.rdH (rdApp _ RdH.hd.tl.tl.tl.tl.tl.tl.tl))))) ?_; rintro _ hx ⟨ax, cx, rfl, ox⟩) | (refine J.fc 93 ?_; refine J.call1 eExists30 rfl rfl (fun w hw => exT_any order.length h8 a c _ hmy (vs.getD (modN x (natI A).length) default).g _ _ hI (st.i _ hgx) w (hw.rdH (rdApp _ RdH.hd.tl.tl.tl.tl.tl.tl.tl))) ?_; rintro _ hx ⟨ax, cx, rfl, ox⟩) | (refine J.fc 87 ?_; first | (refine J.call1 eVar30 rfl rfl (fun w hw => varT_any order.length h8 order rfl a c h hs x kx hkx w (hw.rdH (hr _))) ?_; rintro _ hx ⟨_, rfl, ax, cx, rfl, ox⟩) | (refine J.call1 eVar30 rfl rfl (fun w hw => varT_any order.length h8 order rfl a c h hs _ _ hrx w (hw.rdH (hr _))) ?_; rintro _ hx ⟨_, rfl, ax, cx, rfl, ox⟩))) | (first | (refine J.o 0 ?_; refine J.ev' hΓ ?_) | refine J.nil ?_ | (refine J.o 4 ?_; first | refine J.lT default hΓ ?_ | refine J.lR hΓ ?_) | (refine J.o 3 ?_; first | refine J.iJ hΓ ?_ | refine J.ev' hΓ ?_) | (refine J.o 5 ?_; first | refine J.t0 hΓ ?_ | refine J.t1 hΓ ?_) | (refine J.o 6 ?_; refine J.bx (fun _ => ?_)) | (refine J.o 7 ?_; refine J.al hΓ (fun _ => ?_)) | (refine J.o 9 ?_; refine J.bl hΓ (fun _ => ?_)) | (refine J.o 10 ?_; refine J.ev' hΓ ?_) | (refine J.o 11 ?_; refine J.ev' hΓ ?_)))
      | (first | refine JC.seq ?_ | refine JC.region ?_ | refine JC.block ?_ | refine JC.ret ?_ | refine JC.skip ?_ | refine thenK.nn ?_ | refine thenK.r ?_ | refine blockK.nn ?_ | refine JC.condT rfl ?_ | refine JC.condF rfl ?_ | refine drawK.nn ?_)
      | ((first | (refine JC.drawO [(0,0),(1,1),(0,2),(1,3),(0,4),(0,5),(1,6),(2,7),(0,8),(0,9),(0,10),(0,11),(0,12)] (by decide +kernel) (by decide +kernel) ?_) | (refine JC.drawO [(0,0),(1,1),(0,2),(1,3),(0,4),(0,5),(1,6),(0,7),(1,8),(0,9),(0,10),(1,11),(2,12),(0,13),(0,14),(0,15),(0,16),(0,17)] (by decide +kernel) (by decide +kernel) ?_) | (refine JC.drawO [(0,0),(1,1),(0,2),(0,3),(1,4),(0,5),(1,6),(0,7),(0,8),(1,9),(2,10),(0,11)] (by decide +kernel) (by decide +kernel) ?_) | (refine JC.drawO [(0,0),(1,1),(0,2),(1,3),(0,4),(0,5),(1,6),(0,7),(1,8),(0,9),(0,10),(1,11),(0,12),(1,13),(0,14),(0,15),(1,16),(2,17),(0,18),(0,19),(0,20),(0,21),(0,22)] (by decide +kernel) (by decide +kernel) ?_) | (refine JC.drawO [(0,0),(1,1),(0,2),(0,3),(1,4),(0,5),(1,6),(0,7),(0,8),(1,9),(0,10),(1,11),(0,12),(0,13),(1,14),(2,15),(0,16)] (by decide +kernel) (by decide +kernel) ?_) | (refine JC.drawO [(0,0),(1,1),(0,2),(1,3),(0,4),(0,5),(1,6),(0,7),(0,8),(0,9),(1,10),(2,11),(0,12),(0,13),(0,14),(0,15),(0,16)] (by decide +kernel) (by decide +kernel) ?_) | (refine JC.drawW [] [] (by decide +kernel) (by decide +kernel) ?_)))
      | fail
    all_goals first | (exfalso; omega) | skip

    obtain ⟨G, kG, oG⟩ : ∃ G : BF, Kn order.length K s1 ((y1, G) :: zipK2 A vs) ∧ SlT encBo 1 ax (tabF order.length G) hx := ⟨_, k1, ox.sl⟩
    unfold sF
    simp only [List.cons_append, List.nil_append]
    refine J.isJ ?_
    refine J.o 9 ?_
    refine J.perm (bring_perm 11 _) ?_
    refine J.perm br1 ?_
    refine J.ap1 (enc := encI) [(y1 : Int)] hΓ (fun a2 c2 h2 o2 => ?_) (ho := st.oA)
    repeat' first
      | (refine J.isJ ?_; first | ((refine J.o 5 ?_; refine J.perm (bring_perm 10 _) ?_; refine J.t0 hΓ ?_)) | (first | (refine J.o 0 ?_; refine J.ev' hΓ ?_) | refine J.nil ?_ | (refine J.o 4 ?_; first | refine J.lT default hΓ ?_ | refine J.lR hΓ ?_) | (refine J.o 3 ?_; first | refine J.iJ hΓ ?_ | refine J.ev' hΓ ?_) | (refine J.o 5 ?_; first | refine J.t0 hΓ ?_ | refine J.t1 hΓ ?_) | (refine J.o 6 ?_; refine J.bx (fun _ => ?_)) | (refine J.o 7 ?_; refine J.al hΓ (fun _ => ?_)) | (refine J.o 9 ?_; refine J.bl hΓ (fun _ => ?_)) | (refine J.o 10 ?_; refine J.ev' hΓ ?_) | (refine J.o 11 ?_; refine J.ev' hΓ ?_)))
      | (first | refine JC.seq ?_ | refine JC.region ?_ | refine JC.block ?_ | refine JC.ret ?_ | refine JC.skip ?_ | refine thenK.nn ?_ | refine thenK.r ?_ | refine blockK.nn ?_ | refine JC.condT rfl ?_ | refine JC.condF rfl ?_ | refine drawK.nn ?_)
      | (fail)
      | fail
    refine J.isJ ?_
    refine J.o 9 ?_
    refine J.perm (bring_perm 12 _) ?_
    refine J.perm br1 ?_
    refine J.ap1 (enc := encTV order.length) [(⟨ax, cx, G⟩ : TV)] hΓ (fun a3 c3 h3 o3 => ?_) (ho := st.oF)
    repeat' first
      | (refine J.isJ ?_; first | ((refine J.o 5 ?_; first | refine J.t1 hΓ ?_ | (refine J.perm (bring_perm 10 _) ?_; refine J.t0 hΓ ?_))) | (first | (refine J.o 0 ?_; refine J.ev' hΓ ?_) | refine J.nil ?_ | (refine J.o 4 ?_; first | refine J.lT default hΓ ?_ | refine J.lR hΓ ?_) | (refine J.o 3 ?_; first | refine J.iJ hΓ ?_ | refine J.ev' hΓ ?_) | (refine J.o 5 ?_; first | refine J.t0 hΓ ?_ | refine J.t1 hΓ ?_) | (refine J.o 6 ?_; refine J.bx (fun _ => ?_)) | (refine J.o 7 ?_; refine J.al hΓ (fun _ => ?_)) | (refine J.o 9 ?_; refine J.bl hΓ (fun _ => ?_)) | (refine J.o 10 ?_; refine J.ev' hΓ ?_) | (refine J.o 11 ?_; refine J.ev' hΓ ?_)))
      | (first | refine JC.seq ?_ | refine JC.region ?_ | refine JC.block ?_ | refine JC.ret ?_ | refine JC.skip ?_ | refine thenK.nn ?_ | refine thenK.r ?_ | refine blockK.nn ?_ | refine JC.condT rfl ?_ | refine JC.condF rfl ?_ | refine drawK.nn ?_)
      | (fail)
      | fail
    refine retC hΓ rfl rfl rfl Rd.hd rfl (fun w1 hw => ?_)
    have hw2 := (H.sel (l := [_, _, _, _, _, _, _, _, _, _, _, _, _]) (M := L) hw [4, 12, 5, 6, 7, 8, 9, 10, 3, 1]).mg1
    have hw3 := H.sel (l := [_, _, _, _, _, _, _, _, _]) (M := L) hw2 [1, 2, 3, 4, 5, 6, 7, 8, 0]
    have e : natI (A ++ [y1]) = natI A ++ [(y1 : Int)] := by unfold natI; rw [List.map_append]; rfl
    exact ⟨_, _, rfl, hw3, s1, A ++ [y1], vs ++ [⟨ax, cx, G⟩], a2, a3, c2, c3, h2, h3, hx ++ hI, by rw [e]; rfl, rfl, st.next kG (fun α => rfl) o2 o3 oG, by simp, by omega⟩

  ·
    refine calls_in Try.func35 Try.ntmps35 rfl rfl (hw) ?_
    refine JC.seq ?_
    refine JC.region ?_
    refine J.isJ ?_
    refine J.o 6 ?_
    refine J.bx (fun b3 => ?_)
    refine J.isJ ?_
    refine J.o 6 ?_
    refine J.bx (fun b5 => ?_)
    refine J.isJ ?_
    refine J.o 7 ?_
    refine J.al hΓ (fun b6 => ?_)
    refine J.nil ?_
    refine thenK.nn ?_
    refine JC.perm (brC K b0 s _ _ _ hO hP _) ?_
    repeat' first
      | (refine J.isJ ?_; first | (first | (refine J.o 1 ?_; refine J.grem (b := 8) ?_; rw [hκ]) | (refine J.o 4 ?_; first | refine J.lR hΓ ?_ (hr := Rd.app _ Rd.hd.tl.tl) | refine J.lR hΓ ?_ (hr := Rd.app _ Rd.hd.tl.tl.tl) | refine J.lR hΓ ?_ (hr := Rd.app _ Rd.hd.tl.tl.tl.tl) | refine J.lR hΓ ?_ (hr := (Rd.app _ Rd.hd.tl.tl).tl) | refine J.lR hΓ ?_ (hr := (Rd.app _ Rd.hd.tl.tl.tl).tl) | refine J.lR hΓ ?_ (hr := (Rd.app _ Rd.hd.tl.tl.tl.tl).tl) | (refine J.lT default hΓ ?_ (hs := st.oA.sl) (hr := rdApp _ RdH.hd.tl.tl.tl.tl.tl); first | rw [natI_get A hx1] | rw [natI_get A hy1] | rw [natI_get A hz1]) | refine J.lT default hΓ ?_ (hs := st.oF.sl) (hr := rdApp _ RdH.hd.tl.tl.tl.tl.tl.tl) | refine J.lT default hΓ ?_ (hs := hs) (hr := hr _)) | (refine J.o 3 ?_; first | refine J.iJ hΓ ?_ (hs := st.oA.sl) | refine J.iJ hΓ ?_ (hs := st.oF.sl) | refine J.iJ hΓ ?_ (hs := hs)) | (refine J.fc 86 ?_; first | refine J.call0 eMod rfl rfl (fun w hw => mod_any x (natI A).length (by omega) (by omega) w) ?_ | refine J.call0 eMod rfl rfl (fun w hw => mod_any y (natI A).length (by omega) (by omega) w) ?_ | refine J.call0 eMod rfl rfl (fun w hw => mod_any z (natI A).length (by omega) (by omega) w) ?_ | refine J.call0 eMod rfl rfl (fun w hw => mod_any y order.length (by omega) (by omega) w) ?_ | refine J.call0 eMod rfl rfl (fun w hw => mod_any x order.length (by omega) (by omega) w) ?_) | (refine J.fc 17 ?_; refine J.callx eNot rfl rfl (fun w hw => kNot_any st.kn h8 (zipK2_mem st.len hx1) (by omega) hw) ?_; rintro _ _ ⟨s1, y1, rfl, rfl, k1, hle⟩) | (refine J.fc 21 ?_; refine J.callx eAnd rfl rfl (fun w hw => kAnd_any st.kn h8 (zipK2_mem st.len hx1) (zipK2_mem st.len hy1) (by omega) hw) ?_; rintro _ _ ⟨s1, y1, rfl, rfl, k1, hle⟩) | (refine J.fc 39 ?_; refine J.callx eOr rfl rfl (fun w hw => kOr_any st.kn h8 (zipK2_mem st.len hx1) (zipK2_mem st.len hy1) (by omega) hw) ?_; rintro _ _ ⟨s1, y1, rfl, rfl, k1, hle⟩) | (refine J.fc 22 ?_; refine J.callx eXor rfl rfl (fun w hw => kXor_any st.kn h8 (zipK2_mem st.len hx1) (zipK2_mem st.len hy1) (by omega) hw) ?_; rintro _ _ ⟨s1, y1, rfl, rfl, k1, hle⟩) | (refine J.fc 20 ?_; refine J.callx eIf rfl rfl (fun w hw => kIf_any st.kn h8 (zipK2_mem st.len hx1) (zipK2_mem st.len hy1) (zipK2_mem st.len hz1) (by omega) hw) ?_; rintro _ _ ⟨s1, y1, rfl, rfl, k1, hle⟩) | (refine J.fc 42 ?_; refine J.callx eExists rfl rfl (fun w hw => kEx6_any st.kn h6 po (zipK2_mem st.len hx1) _ hvy _ hry (by omega) hw) ?_; rintro _ _ ⟨s1, y1, rfl, rfl, k1, hle⟩) | (refine J.fc 25 ?_; first | (refine J.callx eVarS rfl rfl (fun w hw => Var_any so po x hxr kx hkx (by omega) hw) ?_; rintro _ _ ⟨s1, y1, rfl, rfl, r⟩; have hle := r.1.le; have k1 := st.kn.put r (fun α => rfl)) | (refine J.callx eVarS rfl rfl (fun w hw => Var_any so po _ hvx _ hrx (by omega) hw) ?_; rintro _ _ ⟨s1, y1, rfl, rfl, r⟩; have hle := r.1.le; have k1 := st.kn.put r (fun α => rfl))) | (refine J.fc 88 ?_; refine J.call1 eNot30 rfl rfl (fun w hw => notT_any order.length h8 (vs.getD (modN x (natI A).length) default).g _ _ hI (st.i _ hgx) w (hw.rdH (rdApp _ RdH.hd.tl.tl.tl.tl.tl.tl.tl))) ?_; rintro _ hx ⟨ax, cx, rfl, ox⟩) | (refine J.fc 89 ?_; refine J.call1 eAnd30 rfl rfl (fun w hw => andT_any order.length h8 (vs.getD (modN x (natI A).length) default).g (vs.getD (modN y (natI A).length) default).g _ _ _ _ hI hI (st.i _ hgx) (st.i _ hgy) w ((hw.rdH (rdApp _ RdH.hd.tl.tl.tl.tl.tl.tl.tl)).append (hw.rdH (rdApp _ RdH.hd.tl.tl.tl.tl.tl.tl.tl)))) ?_; rintro _ hx ⟨ax, cx, rfl, ox⟩) | (refine J.fc 90 ?_; refine J.call1 eOr30 rfl rfl (fun w hw => orT_any order.length h8 (vs.getD (modN x (natI A).length) default).g (vs.getD (modN y (natI A).length) default).g _ _ _ _ hI hI (st.i _ hgx) (st.i _ hgy) w ((hw.rdH (rdApp _ RdH.hd.tl.tl.tl.tl.tl.tl.tl)).append (hw.rdH (rdApp _ RdH.hd.tl.tl.tl.tl.tl.tl.tl)))) ?_; rintro _ hx ⟨ax, cx, rfl, ox⟩) | (refine J.fc 91 ?_; refine J.call1 eXor30 rfl rfl (fun w hw => xorT_any order.length h8 (vs.getD (modN x (natI A).length) default).g (vs.getD (modN y (natI A).length) default).g _ _ _ _ hI hI (st.i _ hgx) (st.i _ hgy) w ((hw.rdH (rdApp _ RdH.hd.tl.tl.tl.tl.tl.tl.tl)).append (hw.rdH (rdApp _ RdH.hd.tl.tl.tl.tl.tl.tl.tl)))) ?_; rintro _ hx ⟨ax, cx, rfl, ox⟩) | (refine J.fc 92 ?_; refine J.call1 eIf30 rfl rfl (fun w hw => ifT_any order.length h8 (vs.getD (modN x (natI A).length) default).g (vs.getD (modN y (natI A).length) default).g (vs.getD (modN z (natI A).length) default).g _ _ _ _ _ _ hI hI hI (st.i _ hgx) (st.i _ hgy) (st.i _ hgz) w ((hw.rdH (rdApp _ RdH.hd.tl.tl.tl.tl.tl.tl.tl)).append ((hw.rdH (rdApp _ RdH.hd.tl.tl.tl.tl.tl.tl.tl)).append (hw.rdH (rdApp _ RdH.hd.tl.tl.tl.tl.tl.tl.tl))))) ?_; rintro _ hx ⟨ax, cx, rfl, ox⟩) | (refine J.fc 93 ?_; refine J.call1 eExists30 rfl rfl (fun w hw => exT_any order.length h8 a c _ hmy (vs.getD (modN x (natI A).length) default).g _ _ hI (st.i _ hgx) w (hw.rdH (rdApp _ RdH.hd.tl.tl.tl.tl.tl.tl.tl))) ?_; rintro _ hx ⟨ax, cx, rfl, ox⟩) | (refine J.fc 87 ?_; first | (refine J.call1 eVar30 rfl rfl (fun w hw => varT_any order.length h8 order rfl a c h hs x kx hkx w (hw.rdH (hr _))) ?_; rintro _ hx ⟨_, rfl, ax, cx, rfl, ox⟩) | (refine J.call1 eVar30 rfl rfl (fun w hw => varT_any order.length h8 order rfl a c h hs _ _ hrx w (hw.rdH (hr _))) ?_; rintro _ hx ⟨_, rfl, ax, cx, rfl, ox⟩))) | (first | (refine J.o 0 ?_; refine J.ev' hΓ ?_) | refine J.nil ?_ | (refine J.o 4 ?_; first | refine J.lT default hΓ ?_ | refine J.lR hΓ ?_) | (refine J.o 3 ?_; first | refine J.iJ hΓ ?_ | refine J.ev' hΓ ?_) | (refine J.o 5 ?_; first | refine J.t0 hΓ ?_ | refine J.t1 hΓ ?_) | (refine J.o 6 ?_; refine J.bx (fun _ => ?_)) | (refine J.o 7 ?_; refine J.al hΓ (fun _ => ?_)) | (refine J.o 9 ?_; refine J.bl hΓ (fun _ => ?_)) | (refine J.o 10 ?_; refine J.ev' hΓ ?_) | (refine J.o 11 ?_; refine J.ev' hΓ ?_)))
      | (first | refine JC.seq ?_ | refine JC.region ?_ | refine JC.block ?_ | refine JC.ret ?_ | refine JC.skip ?_ | refine thenK.nn ?_ | refine thenK.r ?_ | refine blockK.nn ?_ | refine JC.condT rfl ?_ | refine JC.condF rfl ?_ | refine drawK.nn ?_)
      | ((first | (refine JC.drawO [(0,0),(1,1),(0,2),(1,3),(0,4),(0,5),(1,6),(2,7),(0,8),(0,9),(0,10),(0,11),(0,12)] (by decide +kernel) (by decide +kernel) ?_) | (refine JC.drawO [(0,0),(1,1),(0,2),(1,3),(0,4),(0,5),(1,6),(0,7),(1,8),(0,9),(0,10),(1,11),(2,12),(0,13),(0,14),(0,15),(0,16),(0,17)] (by decide +kernel) (by decide +kernel) ?_) | (refine JC.drawO [(0,0),(1,1),(0,2),(0,3),(1,4),(0,5),(1,6),(0,7),(0,8),(1,9),(2,10),(0,11)] (by decide +kernel) (by decide +kernel) ?_) | (refine JC.drawO [(0,0),(1,1),(0,2),(1,3),(0,4),(0,5),(1,6),(0,7),(1,8),(0,9),(0,10),(1,11),(0,12),(1,13),(0,14),(0,15),(1,16),(2,17),(0,18),(0,19),(0,20),(0,21),(0,22)] (by decide +kernel) (by decide +kernel) ?_) | (refine JC.drawO [(0,0),(1,1),(0,2),(0,3),(1,4),(0,5),(1,6),(0,7),(0,8),(1,9),(0,10),(1,11),(0,12),(0,13),(1,14),(2,15),(0,16)] (by decide +kernel) (by decide +kernel) ?_) | (refine JC.drawO [(0,0),(1,1),(0,2),(1,3),(0,4),(0,5),(1,6),(0,7),(0,8),(0,9),(1,10),(2,11),(0,12),(0,13),(0,14),(0,15),(0,16)] (by decide +kernel) (by decide +kernel) ?_) | (refine JC.drawW [] [] (by decide +kernel) (by decide +kernel) ?_)))
      | fail
    all_goals first | (exfalso; omega) | skip

    obtain ⟨G, kG, oG⟩ : ∃ G : BF, Kn order.length K s1 ((y1, G) :: zipK2 A vs) ∧ SlT encBo 1 ax (tabF order.length G) hx := ⟨_, k1, ox.sl⟩
    unfold sF
    simp only [List.cons_append, List.nil_append]
    refine J.isJ ?_
    refine J.o 9 ?_
    refine J.perm (bring_perm 11 _) ?_
    refine J.perm br1 ?_
    refine J.ap1 (enc := encI) [(y1 : Int)] hΓ (fun a2 c2 h2 o2 => ?_) (ho := st.oA)
    repeat' first
      | (refine J.isJ ?_; first | ((refine J.o 5 ?_; refine J.perm (bring_perm 10 _) ?_; refine J.t0 hΓ ?_)) | (first | (refine J.o 0 ?_; refine J.ev' hΓ ?_) | refine J.nil ?_ | (refine J.o 4 ?_; first | refine J.lT default hΓ ?_ | refine J.lR hΓ ?_) | (refine J.o 3 ?_; first | refine J.iJ hΓ ?_ | refine J.ev' hΓ ?_) | (refine J.o 5 ?_; first | refine J.t0 hΓ ?_ | refine J.t1 hΓ ?_) | (refine J.o 6 ?_; refine J.bx (fun _ => ?_)) | (refine J.o 7 ?_; refine J.al hΓ (fun _ => ?_)) | (refine J.o 9 ?_; refine J.bl hΓ (fun _ => ?_)) | (refine J.o 10 ?_; refine J.ev' hΓ ?_) | (refine J.o 11 ?_; refine J.ev' hΓ ?_)))
      | (first | refine JC.seq ?_ | refine JC.region ?_ | refine JC.block ?_ | refine JC.ret ?_ | refine JC.skip ?_ | refine thenK.nn ?_ | refine thenK.r ?_ | refine blockK.nn ?_ | refine JC.condT rfl ?_ | refine JC.condF rfl ?_ | refine drawK.nn ?_)
      | (fail)
      | fail
    refine J.isJ ?_
    refine J.o 9 ?_
    refine J.perm (bring_perm 12 _) ?_
    refine J.perm br1 ?_
    refine J.ap1 (enc := encTV order.length) [(⟨ax, cx, G⟩ : TV)] hΓ (fun a3 c3 h3 o3 => ?_) (ho := st.oF)
    repeat' first
      | (refine J.isJ ?_; first | ((refine J.o 5 ?_; first | refine J.t1 hΓ ?_ | (refine J.perm (bring_perm 10 _) ?_; refine J.t0 hΓ ?_))) | (first | (refine J.o 0 ?_; refine J.ev' hΓ ?_) | refine J.nil ?_ | (refine J.o 4 ?_; first | refine J.lT default hΓ ?_ | refine J.lR hΓ ?_) | (refine J.o 3 ?_; first | refine J.iJ hΓ ?_ | refine J.ev' hΓ ?_) | (refine J.o 5 ?_; first | refine J.t0 hΓ ?_ | refine J.t1 hΓ ?_) | (refine J.o 6 ?_; refine J.bx (fun _ => ?_)) | (refine J.o 7 ?_; refine J.al hΓ (fun _ => ?_)) | (refine J.o 9 ?_; refine J.bl hΓ (fun _ => ?_)) | (refine J.o 10 ?_; refine J.ev' hΓ ?_) | (refine J.o 11 ?_; refine J.ev' hΓ ?_)))
      | (first | refine JC.seq ?_ | refine JC.region ?_ | refine JC.block ?_ | refine JC.ret ?_ | refine JC.skip ?_ | refine thenK.nn ?_ | refine thenK.r ?_ | refine blockK.nn ?_ | refine JC.condT rfl ?_ | refine JC.condF rfl ?_ | refine drawK.nn ?_)
      | (fail)
      | fail
    refine retC hΓ rfl rfl rfl Rd.hd rfl (fun w1 hw => ?_)
    have hw2 := (H.sel (l := [_, _, _, _, _, _, _, _, _, _, _, _, _]) (M := L) hw [4, 12, 5, 6, 7, 8, 9, 10, 3, 1]).mg1
    have hw3 := H.sel (l := [_, _, _, _, _, _, _, _, _]) (M := L) hw2 [1, 2, 3, 4, 5, 6, 7, 8, 0]
    have e : natI (A ++ [y1]) = natI A ++ [(y1 : Int)] := by unfold natI; rw [List.map_append]; rfl
    exact ⟨_, _, rfl, hw3, s1, A ++ [y1], vs ++ [⟨ax, cx, G⟩], a2, a3, c2, c3, h2, h3, hx ++ hI, by rw [e]; rfl, rfl, st.next kG (fun α => rfl) o2 o3 oG, by simp, by omega⟩

  ·
    refine calls_in Try.func35 Try.ntmps35 rfl rfl (hw) ?_
    refine JC.seq ?_
    refine JC.region ?_
    refine J.isJ ?_
    refine J.o 6 ?_
    refine J.bx (fun b3 => ?_)
    refine J.isJ ?_
    refine J.o 6 ?_
    refine J.bx (fun b5 => ?_)
    refine J.isJ ?_
    refine J.o 7 ?_
    refine J.al hΓ (fun b6 => ?_)
    refine J.nil ?_
    refine thenK.nn ?_
    refine JC.perm (brC K b0 s _ _ _ hO hP _) ?_
    repeat' first
      | (refine J.isJ ?_; first | (first | (refine J.o 1 ?_; refine J.grem (b := 8) ?_; rw [hκ]) | (refine J.o 4 ?_; first | refine J.lR hΓ ?_ (hr := Rd.app _ Rd.hd.tl.tl) | refine J.lR hΓ ?_ (hr := Rd.app _ Rd.hd.tl.tl.tl) | refine J.lR hΓ ?_ (hr := Rd.app _ Rd.hd.tl.tl.tl.tl) | refine J.lR hΓ ?_ (hr := (Rd.app _ Rd.hd.tl.tl).tl) | refine J.lR hΓ ?_ (hr := (Rd.app _ Rd.hd.tl.tl.tl).tl) | refine J.lR hΓ ?_ (hr := (Rd.app _ Rd.hd.tl.tl.tl.tl).tl) | (refine J.lT default hΓ ?_ (hs := st.oA.sl) (hr := rdApp _ RdH.hd.tl.tl.tl.tl.tl); first | rw [natI_get A hx1] | rw [natI_get A hy1] | rw [natI_get A hz1]) | refine J.lT default hΓ ?_ (hs := st.oF.sl) (hr := rdApp _ RdH.hd.tl.tl.tl.tl.tl.tl) | refine J.lT default hΓ ?_ (hs := hs) (hr := hr _)) | (refine J.o 3 ?_; first | refine J.iJ hΓ ?_ (hs := st.oA.sl) | refine J.iJ hΓ ?_ (hs := st.oF.sl) | refine J.iJ hΓ ?_ (hs := hs)) | (refine J.fc 86 ?_; first | refine J.call0 eMod rfl rfl (fun w hw => mod_any x (natI A).length (by omega) (by omega) w) ?_ | refine J.call0 eMod rfl rfl (fun w hw => mod_any y (natI A).length (by omega) (by omega) w) ?_ | refine J.call0 eMod rfl rfl (fun w hw => mod_any z (natI A).length (by omega) (by omega) w) ?_ | refine J.call0 eMod rfl rfl (fun w hw => mod_any y order.length (by omega) (by omega) w) ?_ | refine J.call0 eMod rfl rfl (fun w hw => mod_any x order.length (by omega) (by omega) w) ?_) | (refine J.fc 17 ?_; refine J.callx eNot rfl rfl (fun w hw => kNot_any st.kn h8 (zipK2_mem st.len hx1) (by omega) hw) ?_; rintro _ _ ⟨s1, y1, rfl, rfl, k1, hle⟩) | (refine J.fc 21 ?_; refine J.callx eAnd rfl rfl (fun w hw => kAnd_any st.kn h8 (zipK2_mem st.len hx1) (zipK2_mem st.len hy1) (by omega) hw) ?_; rintro _ _ ⟨s1, y1, rfl, rfl, k1, hle⟩) | (refine J.fc 39 ?_; refine J.callx eOr rfl rfl (fun w hw => kOr_any st.kn h8 (zipK2_mem st.len hx1) (zipK2_mem st.len hy1) (by omega) hw) ?_; rintro _ _ ⟨s1, y1, rfl, rfl, k1, hle⟩) | (refine J.fc 22 ?_; refine J.callx eXor rfl rfl (fun w hw => kXor_any st.kn h8 (zipK2_mem st.len hx1) (zipK2_mem st.len hy1) (by omega) hw) ?_; rintro _ _ ⟨s1, y1, rfl, rfl, k1, hle⟩) | (refine J.fc 20 ?_; refine J.callx eIf rfl rfl (fun w hw => kIf_any st.kn h8 (zipK2_mem st.len hx1) (zipK2_mem st.len hy1) (zipK2_mem st.len hz1) (by omega) hw) ?_; rintro _ _ ⟨s1, y1, rfl, rfl, k1, hle⟩) | (refine J.fc 42 ?_; refine J.callx eExists rfl rfl (fun w hw => kEx6_any st.kn h6 po (zipK2_mem st.len hx1) _ hvy _ hry (by omega) hw) ?_; rintro _ _ ⟨s1, y1, rfl, rfl, k1, hle⟩) | (refine J.fc 25 ?_; first | (refine J.callx eVarS rfl rfl (fun w hw => Var_any so po x hxr kx hkx (by omega) hw) ?_; rintro _ _ ⟨s1, y1, rfl, rfl, r⟩; have hle := r.1.le; have k1 := st.kn.put r (fun α => rfl)) | (refine J.callx eVarS rfl rfl (fun w hw => Var_any so po _ hvx _ hrx (by omega) hw) ?_; rintro _ _ ⟨s1, y1, rfl, rfl, r⟩; have hle := r.1.le; have k1 := st.kn.put r (fun α => rfl))) | (refine J.fc 88 ?_; refine J.call1 eNot30 rfl rfl (fun w hw => notT_any order.length h8 (vs.getD (modN x (natI A).length) default).g _ _ hI (st.i _ hgx) w (hw.rdH (rdApp _ RdH.hd.tl.tl.tl.tl.tl.tl.tl))) ?_; rintro _ hx ⟨ax, cx, rfl, ox⟩) | (refine J.fc 89 ?_; refine J.call1 eAnd30 rfl rfl (fun w hw => andT_any order.length h8 (vs.getD (modN x (natI A).length) default).g (vs.getD (modN y (natI A).length) default).g _ _ _ _ hI hI (st.i _ hgx) (st.i _ hgy) w ((hw.rdH (rdApp _ RdH.hd.tl.tl.tl.tl.tl.tl.tl)).append (hw.rdH (rdApp _ RdH.hd.tl.tl.tl.tl.tl.tl.tl)))) ?_; rintro _ hx ⟨ax, cx, rfl, ox⟩) | (refine J.fc 90 ?_; refine J.call1 eOr30 rfl rfl (fun w hw => orT_any order.length h8 (vs.getD (modN x (natI A).length) default).g (vs.getD (modN y (natI A).length) default).g _ _ _ _ hI hI (st.i _ hgx) (st.i _ hgy) w ((hw.rdH (rdApp _ RdH.hd.tl.tl.tl.tl.tl.tl.tl)).append (hw.rdH (rdApp _ RdH.hd.tl.tl.tl.tl.tl.tl.tl)))) ?_; rintro _ hx ⟨ax, cx, rfl, ox⟩) | (refine J.fc 91 ?_; refine J.call1 eXor30 rfl rfl (fun w hw => xorT_any order.length h8 (vs.getD (modN x (natI A).length) default).g (vs.getD (modN y (natI A).length) default).g _ _ _ _ hI hI (st.i _ hgx) (st.i _ hgy) w ((hw.rdH (rdApp _ RdH.hd.tl.tl.tl.tl.tl.tl.tl)).append (hw.rdH (rdApp _ RdH.hd.tl.tl.tl.tl.tl.tl.tl)))) ?_; rintro _ hx ⟨ax, cx, rfl, ox⟩) | (refine J.fc 92 ?_; refine J.call1 eIf30 rfl rfl (fun w hw => ifT_any order.length h8 (vs.getD (modN x (natI A).length) default).g (vs.getD (modN y (natI A).length) default).g (vs.getD (modN z (natI A).length) default).g _ _ _ _ _ _ hI hI hI (st.i _ hgx) (st.i _ hgy) (st.i _ hgz) w ((hw.rdH (rdApp _ RdH.hd.tl.tl.tl.tl.tl.tl.tl)).append ((hw.rdH (rdApp _ RdH.hd.tl.tl.tl.tl.tl.tl.tl)).append (hw.rdH (rdApp _ RdH.hd.tl.tl.tl.tl.tl.tl.tl))))) ?_; rintro _ hx ⟨ax, cx, rfl, ox⟩) | (refine J.fc 93 ?_; refine J.call1 eExists30 rfl rfl (fun w hw => exT_any order.length h8 a c _ hmy (vs.getD (modN x (natI A).length) default).g _ _ hI (st.i _ hgx) w (hw.rdH (rdApp _ RdH.hd.tl.tl.tl.tl.tl.tl.tl))) ?_; rintro _ hx ⟨ax, cx, rfl, ox⟩) | (refine J.fc 87 ?_; first | (refine J.call1 eVar30 rfl rfl (fun w hw => varT_any order.length h8 order rfl a c h hs x kx hkx w (hw.rdH (hr _))) ?_; rintro _ hx ⟨_, rfl, ax, cx, rfl, ox⟩) | (refine J.call1 eVar30 rfl rfl (fun w hw => varT_any order.length h8 order rfl a c h hs _ _ hrx w (hw.rdH (hr _))) ?_; rintro _ hx ⟨_, rfl, ax, cx, rfl, ox⟩))) | (first | (refine J.o 0 ?_; refine J.ev' hΓ ?_) | refine J.nil ?_ | (refine J.o 4 ?_; first | refine J.lT default hΓ ?_ | refine J.lR hΓ ?_) | (refine J.o 3 ?_; first | refine J.iJ hΓ ?_ | refine J.ev' hΓ ?_) | (refine J.o 5 ?_; first | refine J.t0 hΓ ?_ | refine J.t1 hΓ ?_) | (refine J.o 6 ?_; refine J.bx (fun _ => ?_)) | (refine J.o 7 ?_; refine J.al hΓ (fun _ => ?_)) | (refine J.o 9 ?_; refine J.bl hΓ (fun _ => ?_)) | (refine J.o 10 ?_; refine J.ev' hΓ ?_) | (refine J.o 11 ?_; refine J.ev' hΓ ?_)))
      | (first | refine JC.seq ?_ | refine JC.region ?_ | refine JC.block ?_ | refine JC.ret ?_ | refine JC.skip ?_ | refine thenK.nn ?_ | refine thenK.r ?_ | refine blockK.nn ?_ | refine JC.condT rfl ?_ | refine JC.condF rfl ?_ | refine drawK.nn ?_)
      | ((first | (refine JC.drawO [(0,0),(1,1),(0,2),(1,3),(0,4),(0,5),(1,6),(2,7),(0,8),(0,9),(0,10),(0,11),(0,12)] (by decide +kernel) (by decide +kernel) ?_) | (refine JC.drawO [(0,0),(1,1),(0,2),(1,3),(0,4),(0,5),(1,6),(0,7),(1,8),(0,9),(0,10),(1,11),(2,12),(0,13),(0,14),(0,15),(0,16),(0,17)] (by decide +kernel) (by decide +kernel) ?_) | (refine JC.drawO [(0,0),(1,1),(0,2),(0,3),(1,4),(0,5),(1,6),(0,7),(0,8),(1,9),(2,10),(0,11)] (by decide +kernel) (by decide +kernel) ?_) | (refine JC.drawO [(0,0),(1,1),(0,2),(1,3),(0,4),(0,5),(1,6),(0,7),(1,8),(0,9),(0,10),(1,11),(0,12),(1,13),(0,14),(0,15),(1,16),(2,17),(0,18),(0,19),(0,20),(0,21),(0,22)] (by decide +kernel) (by decide +kernel) ?_) | (refine JC.drawO [(0,0),(1,1),(0,2),(0,3),(1,4),(0,5),(1,6),(0,7),(0,8),(1,9),(0,10),(1,11),(0,12),(0,13),(1,14),(2,15),(0,16)] (by decide +kernel) (by decide +kernel) ?_) | (refine JC.drawO [(0,0),(1,1),(0,2),(1,3),(0,4),(0,5),(1,6),(0,7),(0,8),(0,9),(1,10),(2,11),(0,12),(0,13),(0,14),(0,15),(0,16)] (by decide +kernel) (by decide +kernel) ?_) | (refine JC.drawW [] [] (by decide +kernel) (by decide +kernel) ?_)))
      | fail
    all_goals first | (exfalso; omega) | skip

    obtain ⟨G, kG, oG⟩ : ∃ G : BF, Kn order.length K s1 ((y1, G) :: zipK2 A vs) ∧ SlT encBo 1 ax (tabF order.length G) hx := ⟨_, k1, ox.sl⟩
    unfold sF
    simp only [List.cons_append, List.nil_append]
    refine J.isJ ?_
    refine J.o 9 ?_
    refine J.perm (bring_perm 11 _) ?_
    refine J.perm br1 ?_
    refine J.ap1 (enc := encI) [(y1 : Int)] hΓ (fun a2 c2 h2 o2 => ?_) (ho := st.oA)
    repeat' first
      | (refine J.isJ ?_; first | ((refine J.o 5 ?_; refine J.perm (bring_perm 10 _) ?_; refine J.t0 hΓ ?_)) | (first | (refine J.o 0 ?_; refine J.ev' hΓ ?_) | refine J.nil ?_ | (refine J.o 4 ?_; first | refine J.lT default hΓ ?_ | refine J.lR hΓ ?_) | (refine J.o 3 ?_; first | refine J.iJ hΓ ?_ | refine J.ev' hΓ ?_) | (refine J.o 5 ?_; first | refine J.t0 hΓ ?_ | refine J.t1 hΓ ?_) | (refine J.o 6 ?_; refine J.bx (fun _ => ?_)) | (refine J.o 7 ?_; refine J.al hΓ (fun _ => ?_)) | (refine J.o 9 ?_; refine J.bl hΓ (fun _ => ?_)) | (refine J.o 10 ?_; refine J.ev' hΓ ?_) | (refine J.o 11 ?_; refine J.ev' hΓ ?_)))
      | (first | refine JC.seq ?_ | refine JC.region ?_ | refine JC.block ?_ | refine JC.ret ?_ | refine JC.skip ?_ | refine thenK.nn ?_ | refine thenK.r ?_ | refine blockK.nn ?_ | refine JC.condT rfl ?_ | refine JC.condF rfl ?_ | refine drawK.nn ?_)
      | (fail)
      | fail
    refine J.isJ ?_
    refine J.o 9 ?_
    refine J.perm (bring_perm 12 _) ?_
    refine J.perm br1 ?_
    refine J.ap1 (enc := encTV order.length) [(⟨ax, cx, G⟩ : TV)] hΓ (fun a3 c3 h3 o3 => ?_) (ho := st.oF)
    repeat' first
      | (refine J.isJ ?_; first | ((refine J.o 5 ?_; first | refine J.t1 hΓ ?_ | (refine J.perm (bring_perm 10 _) ?_; refine J.t0 hΓ ?_))) | (first | (refine J.o 0 ?_; refine J.ev' hΓ ?_) | refine J.nil ?_ | (refine J.o 4 ?_; first | refine J.lT default hΓ ?_ | refine J.lR hΓ ?_) | (refine J.o 3 ?_; first | refine J.iJ hΓ ?_ | refine J.ev' hΓ ?_) | (refine J.o 5 ?_; first | refine J.t0 hΓ ?_ | refine J.t1 hΓ ?_) | (refine J.o 6 ?_; refine J.bx (fun _ => ?_)) | (refine J.o 7 ?_; refine J.al hΓ (fun _ => ?_)) | (refine J.o 9 ?_; refine J.bl hΓ (fun _ => ?_)) | (refine J.o 10 ?_; refine J.ev' hΓ ?_) | (refine J.o 11 ?_; refine J.ev' hΓ ?_)))
      | (first | refine JC.seq ?_ | refine JC.region ?_ | refine JC.block ?_ | refine JC.ret ?_ | refine JC.skip ?_ | refine thenK.nn ?_ | refine thenK.r ?_ | refine blockK.nn ?_ | refine JC.condT rfl ?_ | refine JC.condF rfl ?_ | refine drawK.nn ?_)
      | (fail)
      | fail
    refine retC hΓ rfl rfl rfl Rd.hd rfl (fun w1 hw => ?_)
    have hw2 := (H.sel (l := [_, _, _, _, _, _, _, _, _, _, _, _, _]) (M := L) hw [4, 12, 5, 6, 7, 8, 9, 10, 3, 1]).mg1
    have hw3 := H.sel (l := [_, _, _, _, _, _, _, _, _]) (M := L) hw2 [1, 2, 3, 4, 5, 6, 7, 8, 0]
    have e : natI (A ++ [y1]) = natI A ++ [(y1 : Int)] := by unfold natI; rw [List.map_append]; rfl
    exact ⟨_, _, rfl, hw3, s1, A ++ [y1], vs ++ [⟨ax, cx, G⟩], a2, a3, c2, c3, h2, h3, hx ++ hI, by rw [e]; rfl, rfl, st.next kG (fun α => rfl) o2 o3 oG, by simp, by omega⟩

  ·
    refine calls_in Try.func35 Try.ntmps35 rfl rfl (hw) ?_
    refine JC.seq ?_
    refine JC.region ?_
    refine J.isJ ?_
    refine J.o 6 ?_
    refine J.bx (fun b3 => ?_)
    refine J.isJ ?_
    refine J.o 6 ?_
    refine J.bx (fun b5 => ?_)
    refine J.isJ ?_
    refine J.o 7 ?_
    refine J.al hΓ (fun b6 => ?_)
    refine J.nil ?_
    refine thenK.nn ?_
    refine JC.perm (brC K b0 s _ _ _ hO hP _) ?_
    repeat' first
      | (refine J.isJ ?_; first | (first | (refine J.o 1 ?_; refine J.grem (b := 8) ?_; rw [hκ]) | (refine J.o 4 ?_; first | refine J.lR hΓ ?_ (hr := Rd.app _ Rd.hd.tl.tl) | refine J.lR hΓ ?_ (hr := Rd.app _ Rd.hd.tl.tl.tl) | refine J.lR hΓ ?_ (hr := Rd.app _ Rd.hd.tl.tl.tl.tl) | refine J.lR hΓ ?_ (hr := (Rd.app _ Rd.hd.tl.tl).tl) | refine J.lR hΓ ?_ (hr := (Rd.app _ Rd.hd.tl.tl.tl).tl) | refine J.lR hΓ ?_ (hr := (Rd.app _ Rd.hd.tl.tl.tl.tl).tl) | (refine J.lT default hΓ ?_ (hs := st.oA.sl) (hr := rdApp _ RdH.hd.tl.tl.tl.tl.tl); first | rw [natI_get A hx1] | rw [natI_get A hy1] | rw [natI_get A hz1]) | refine J.lT default hΓ ?_ (hs := st.oF.sl) (hr := rdApp _ RdH.hd.tl.tl.tl.tl.tl.tl) | refine J.lT default hΓ ?_ (hs := hs) (hr := hr _)) | (refine J.o 3 ?_; first | refine J.iJ hΓ ?_ (hs := st.oA.sl) | refine J.iJ hΓ ?_ (hs := st.oF.sl) | refine J.iJ hΓ ?_ (hs := hs)) | (refine J.fc 86 ?_; first | refine J.call0 eMod rfl rfl (fun w hw => mod_any x (natI A).length (by omega) (by omega) w) ?_ | refine J.call0 eMod rfl rfl (fun w hw => mod_any y (natI A).length (by omega) (by omega) w) ?_ | refine J.call0 eMod rfl rfl (fun w hw => mod_any z (natI A).length (by omega) (by omega) w) ?_ | refine J.call0 eMod rfl rfl (fun w hw => mod_any y order.length (by omega) (by omega) w) ?_ | refine J.call0 eMod rfl rfl (fun w hw => mod_any x order.length (by omega) (by omega) w) ?_) | (refine J.fc 17 ?_; refine J.callx eNot rfl rfl (fun w hw => kNot_any st.kn h8 (zipK2_mem st.len hx1) (by omega) hw) ?_; rintro _ _ ⟨s1, y1, rfl, rfl, k1, hle⟩) | (refine J.fc 21 ?_; refine J.callx eAnd rfl rfl (fun w hw => kAnd_any st.kn h8 (zipK2_mem st.len hx1) (zipK2_mem st.len hy1) (by omega) hw) ?_; rintro _ _ ⟨s1, y1, rfl, rfl, k1, hle⟩) | (refine J.fc 39 ?_; refine J.callx eOr rfl rfl (fun w hw => kOr_any st.kn h8 (zipK2_mem st.len hx1) (zipK2_mem st.len hy1) (by omega) hw) ?_; rintro _ _ ⟨s1, y1, rfl, rfl, k1, hle⟩) | (refine J.fc 22 ?_; refine J.callx eXor rfl rfl (fun w hw => kXor_any st.kn h8 (zipK2_mem st.len hx1) (zipK2_mem st.len hy1) (by omega) hw) ?_; rintro _ _ ⟨s1, y1, rfl, rfl, k1, hle⟩) | (refine J.fc 20 ?_; refine J.callx eIf rfl rfl (fun w hw => kIf_any st.kn h8 (zipK2_mem st.len hx1) (zipK2_mem st.len hy1) (zipK2_mem st.len hz1) (by omega) hw) ?_; rintro _ _ ⟨s1, y1, rfl, rfl, k1, hle⟩) | (refine J.fc 42 ?_; refine J.callx eExists rfl rfl (fun w hw => kEx6_any st.kn h6 po (zipK2_mem st.len hx1) _ hvy _ hry (by omega) hw) ?_; rintro _ _ ⟨s1, y1, rfl, rfl, k1, hle⟩) | (refine J.fc 25 ?_; first | (refine J.callx eVarS rfl rfl (fun w hw => Var_any so po x hxr kx hkx (by omega) hw) ?_; rintro _ _ ⟨s1, y1, rfl, rfl, r⟩; have hle := r.1.le; have k1 := st.kn.put r (fun α => rfl)) | (refine J.callx eVarS rfl rfl (fun w hw => Var_any so po _ hvx _ hrx (by omega) hw) ?_; rintro _ _ ⟨s1, y1, rfl, rfl, r⟩; have hle := r.1.le; have k1 := st.kn.put r (fun α => rfl))) | (refine J.fc 88 ?_; refine J.call1 eNot30 rfl rfl (fun w hw => notT_any order.length h8 (vs.getD (modN x (natI A).length) default).g _ _ hI (st.i _ hgx) w (hw.rdH (rdApp _ RdH.hd.tl.tl.tl.tl.tl.tl.tl))) ?_; rintro _ hx ⟨ax, cx, rfl, ox⟩) | (refine J.fc 89 ?_; refine J.call1 eAnd30 rfl rfl (fun w hw => andT_any order.length h8 (vs.getD (modN x (natI A).length) default).g (vs.getD (modN y (natI A).length) default).g _ _ _ _ hI hI (st.i _ hgx) (st.i _ hgy) w ((hw.rdH (rdApp _ RdH.hd.tl.tl.tl.tl.tl.tl.tl)).append (hw.rdH (rdApp _ RdH.hd.tl.tl.tl.tl.tl.tl.tl)))) ?_; rintro _ hx ⟨ax, cx, rfl, ox⟩) | (refine J.fc 90 ?_; refine J.call1 eOr30 rfl rfl (fun w hw => orT_any order.length h8 (vs.getD (modN x (natI A).length) default).g (vs.getD (modN y (natI A).length) default).g _ _ _ _ hI hI (st.i _ hgx) (st.i _ hgy) w ((hw.rdH (rdApp _ RdH.hd.tl.tl.tl.tl.tl.tl.tl)).append (hw.rdH (rdApp _ RdH.hd.tl.tl.tl.tl.tl.tl.tl)))) ?_; rintro _ hx ⟨ax, cx, rfl, ox⟩) | (refine J.fc 91 ?_; refine J.call1 eXor30 rfl rfl (fun w hw => xorT_any order.length h8 (vs.getD (modN x (natI A).length) default).g (vs.getD (modN y (natI A).length) default).g _ _ _ _ hI hI (st.i _ hgx) (st.i _ hgy) w ((hw.rdH (rdApp _ RdH.hd.tl.tl.tl.tl.tl.tl.tl)).append (hw.rdH (rdApp _ RdH.hd.tl.tl.tl.tl.tl.tl.tl)))) ?_; rintro _ hx ⟨ax, cx, rfl, ox⟩) | (refine J.fc 92 ?_; refine J.call1 eIf30 rfl rfl (fun w hw => ifT_any order.length h8 (vs.getD (modN x (natI A).length) default).g (vs.getD (modN y (natI A).length) default).g (vs.getD (modN z (natI A).length) default).g _ _ _ _ _ _ hI hI hI (st.i _ hgx) (st.i _ hgy) (st.i _ hgz) w ((hw.rdH (rdApp _ RdH.hd.tl.tl.tl.tl.tl.tl.tl)).append ((hw.rdH (rdApp _ RdH.hd.tl.tl.tl.tl.tl.tl.tl)).append (hw.rdH (rdApp _ RdH.hd.tl.tl.tl.tl.tl.tl.tl))))) ?_; rintro _ hx ⟨ax, cx, rfl, ox⟩) | (refine J.fc 93 ?_; refine J.call1 eExists30 rfl rfl (fun w hw => exT_any order.length h8 a c _ hmy (vs.getD (modN x (natI A).length) default).g _ _ hI (st.i _ hgx) w (hw.rdH (rdApp _ RdH.hd.tl.tl.tl.tl.tl.tl.tl))) ?_; rintro _ hx ⟨ax, cx, rfl, ox⟩) | (refine J.fc 87 ?_; first | (refine J.call1 eVar30 rfl rfl (fun w hw => varT_any order.length h8 order rfl a c h hs x kx hkx w (hw.rdH (hr _))) ?_; rintro _ hx ⟨_, rfl, ax, cx, rfl, ox⟩) | (refine J.call1 eVar30 rfl rfl (fun w hw => varT_any order.length h8 order rfl a c h hs _ _ hrx w (hw.rdH (hr _))) ?_; rintro _ hx ⟨_, rfl, ax, cx, rfl, ox⟩))) | (first | (refine J.o 0 ?_; refine J.ev' hΓ ?_) | refine J.nil ?_ | (refine J.o 4 ?_; first | refine J.lT default hΓ ?_ | refine J.lR hΓ ?_) | (refine J.o 3 ?_; first | refine J.iJ hΓ ?_ | refine J.ev' hΓ ?_) | (refine J.o 5 ?_; first | refine J.t0 hΓ ?_ | refine J.t1 hΓ ?_) | (refine J.o 6 ?_; refine J.bx (fun _ => ?_)) | (refine J.o 7 ?_; refine J.al hΓ (fun _ => ?_)) | (refine J.o 9 ?_; refine J.bl hΓ (fun _ => ?_)) | (refine J.o 10 ?_; refine J.ev' hΓ ?_) | (refine J.o 11 ?_; refine J.ev' hΓ ?_)))
      | (first | refine JC.seq ?_ | refine JC.region ?_ | refine JC.block ?_ | refine JC.ret ?_ | refine JC.skip ?_ | refine thenK.nn ?_ | refine thenK.r ?_ | refine blockK.nn ?_ | refine JC.condT rfl ?_ | refine JC.condF rfl ?_ | refine drawK.nn ?_)
      | ((first | (refine JC.drawO [(0,0),(1,1),(0,2),(1,3),(0,4),(0,5),(1,6),(2,7),(0,8),(0,9),(0,10),(0,11),(0,12)] (by decide +kernel) (by decide +kernel) ?_) | (refine JC.drawO [(0,0),(1,1),(0,2),(1,3),(0,4),(0,5),(1,6),(0,7),(1,8),(0,9),(0,10),(1,11),(2,12),(0,13),(0,14),(0,15),(0,16),(0,17)] (by decide +kernel) (by decide +kernel) ?_) | (refine JC.drawO [(0,0),(1,1),(0,2),(0,3),(1,4),(0,5),(1,6),(0,7),(0,8),(1,9),(2,10),(0,11)] (by decide +kernel) (by decide +kernel) ?_) | (refine JC.drawO [(0,0),(1,1),(0,2),(1,3),(0,4),(0,5),(1,6),(0,7),(1,8),(0,9),(0,10),(1,11),(0,12),(1,13),(0,14),(0,15),(1,16),(2,17),(0,18),(0,19),(0,20),(0,21),(0,22)] (by decide +kernel) (by decide +kernel) ?_) | (refine JC.drawO [(0,0),(1,1),(0,2),(0,3),(1,4),(0,5),(1,6),(0,7),(0,8),(1,9),(0,10),(1,11),(0,12),(0,13),(1,14),(2,15),(0,16)] (by decide +kernel) (by decide +kernel) ?_) | (refine JC.drawO [(0,0),(1,1),(0,2),(1,3),(0,4),(0,5),(1,6),(0,7),(0,8),(0,9),(1,10),(2,11),(0,12),(0,13),(0,14),(0,15),(0,16)] (by decide +kernel) (by decide +kernel) ?_) | (refine JC.drawW [] [] (by decide +kernel) (by decide +kernel) ?_)))
      | fail
    all_goals first | (exfalso; omega) | skip

    obtain ⟨G, kG, oG⟩ : ∃ G : BF, Kn order.length K s1 ((y1, G) :: zipK2 A vs) ∧ SlT encBo 1 ax (tabF order.length G) hx := ⟨_, k1, ox.sl⟩
    unfold sF
    simp only [List.cons_append, List.nil_append]
    refine J.isJ ?_
    refine J.o 9 ?_
    refine J.perm (bring_perm 11 _) ?_
    refine J.perm br1 ?_
    refine J.ap1 (enc := encI) [(y1 : Int)] hΓ (fun a2 c2 h2 o2 => ?_) (ho := st.oA)
    repeat' first
      | (refine J.isJ ?_; first | ((refine J.o 5 ?_; refine J.perm (bring_perm 10 _) ?_; refine J.t0 hΓ ?_)) | (first | (refine J.o 0 ?_; refine J.ev' hΓ ?_) | refine J.nil ?_ | (refine J.o 4 ?_; first | refine J.lT default hΓ ?_ | refine J.lR hΓ ?_) | (refine J.o 3 ?_; first | refine J.iJ hΓ ?_ | refine J.ev' hΓ ?_) | (refine J.o 5 ?_; first | refine J.t0 hΓ ?_ | refine J.t1 hΓ ?_) | (refine J.o 6 ?_; refine J.bx (fun _ => ?_)) | (refine J.o 7 ?_; refine J.al hΓ (fun _ => ?_)) | (refine J.o 9 ?_; refine J.bl hΓ (fun _ => ?_)) | (refine J.o 10 ?_; refine J.ev' hΓ ?_) | (refine J.o 11 ?_; refine J.ev' hΓ ?_)))
      | (first | refine JC.seq ?_ | refine JC.region ?_ | refine JC.block ?_ | refine JC.ret ?_ | refine JC.skip ?_ | refine thenK.nn ?_ | refine thenK.r ?_ | refine blockK.nn ?_ | refine JC.condT rfl ?_ | refine JC.condF rfl ?_ | refine drawK.nn ?_)
      | (fail)
      | fail
    refine J.isJ ?_
    refine J.o 9 ?_
    refine J.perm (bring_perm 12 _) ?_
    refine J.perm br1 ?_
    refine J.ap1 (enc := encTV order.length) [(⟨ax, cx, G⟩ : TV)] hΓ (fun a3 c3 h3 o3 => ?_) (ho := st.oF)
    repeat' first
      | (refine J.isJ ?_; first | ((refine J.o 5 ?_; first | refine J.t1 hΓ ?_ | (refine J.perm (bring_perm 10 _) ?_; refine J.t0 hΓ ?_))) | (first | (refine J.o 0 ?_; refine J.ev' hΓ ?_) | refine J.nil ?_ | (refine J.o 4 ?_; first | refine J.lT default hΓ ?_ | refine J.lR hΓ ?_) | (refine J.o 3 ?_; first | refine J.iJ hΓ ?_ | refine J.ev' hΓ ?_) | (refine J.o 5 ?_; first | refine J.t0 hΓ ?_ | refine J.t1 hΓ ?_) | (refine J.o 6 ?_; refine J.bx (fun _ => ?_)) | (refine J.o 7 ?_; refine J.al hΓ (fun _ => ?_)) | (refine J.o 9 ?_; refine J.bl hΓ (fun _ => ?_)) | (refine J.o 10 ?_; refine J.ev' hΓ ?_) | (refine J.o 11 ?_; refine J.ev' hΓ ?_)))
      | (first | refine JC.seq ?_ | refine JC.region ?_ | refine JC.block ?_ | refine JC.ret ?_ | refine JC.skip ?_ | refine thenK.nn ?_ | refine thenK.r ?_ | refine blockK.nn ?_ | refine JC.condT rfl ?_ | refine JC.condF rfl ?_ | refine drawK.nn ?_)
      | (fail)
      | fail
    refine retC hΓ rfl rfl rfl Rd.hd rfl (fun w1 hw => ?_)
    have hw2 := (H.sel (l := [_, _, _, _, _, _, _, _, _, _, _, _, _]) (M := L) hw [4, 12, 5, 6, 7, 8, 9, 10, 3, 1]).mg1
    have hw3 := H.sel (l := [_, _, _, _, _, _, _, _, _]) (M := L) hw2 [1, 2, 3, 4, 5, 6, 7, 8, 0]
    have e : natI (A ++ [y1]) = natI A ++ [(y1 : Int)] := by unfold natI; rw [List.map_append]; rfl
    exact ⟨_, _, rfl, hw3, s1, A ++ [y1], vs ++ [⟨ax, cx, G⟩], a2, a3, c2, c3, h2, h3, hx ++ hI, by rw [e]; rfl, rfl, st.next kG (fun α => rfl) o2 o3 oG, by simp, by omega⟩

  ·
    refine calls_in Try.func35 Try.ntmps35 rfl rfl (hw) ?_
    refine JC.seq ?_
    refine JC.region ?_
    refine J.isJ ?_
    refine J.o 6 ?_
    refine J.bx (fun b3 => ?_)
    refine J.isJ ?_
    refine J.o 6 ?_
    refine J.bx (fun b5 => ?_)
    refine J.isJ ?_
    refine J.o 7 ?_
    refine J.al hΓ (fun b6 => ?_)
    refine J.nil ?_
    refine thenK.nn ?_
    refine JC.perm (brC K b0 s _ _ _ hO hP _) ?_
    repeat' first
      | (refine J.isJ ?_; first | (first | (refine J.o 1 ?_; refine J.grem (b := 8) ?_; rw [hκ]) | (refine J.o 4 ?_; first | refine J.lR hΓ ?_ (hr := Rd.app _ Rd.hd.tl.tl) | refine J.lR hΓ ?_ (hr := Rd.app _ Rd.hd.tl.tl.tl) | refine J.lR hΓ ?_ (hr := Rd.app _ Rd.hd.tl.tl.tl.tl) | refine J.lR hΓ ?_ (hr := (Rd.app _ Rd.hd.tl.tl).tl) | refine J.lR hΓ ?_ (hr := (Rd.app _ Rd.hd.tl.tl.tl).tl) | refine J.lR hΓ ?_ (hr := (Rd.app _ Rd.hd.tl.tl.tl.tl).tl) | (refine J.lT default hΓ ?_ (hs := st.oA.sl) (hr := rdApp _ RdH.hd.tl.tl.tl.tl.tl); first | rw [natI_get A hx1] | rw [natI_get A hy1] | rw [natI_get A hz1]) | refine J.lT default hΓ ?_ (hs := st.oF.sl) (hr := rdApp _ RdH.hd.tl.tl.tl.tl.tl.tl) | refine J.lT default hΓ ?_ (hs := hs) (hr := hr _)) | (refine J.o 3 ?_; first | refine J.iJ hΓ ?_ (hs := st.oA.sl) | refine J.iJ hΓ ?_ (hs := st.oF.sl) | refine J.iJ hΓ ?_ (hs := hs)) | (refine J.fc 86 ?_; first | refine J.call0 eMod rfl rfl (fun w hw => mod_any x (natI A).length (by omega) (by omega) w) ?_ | refine J.call0 eMod rfl rfl (fun w hw => mod_any y (natI A).length (by omega) (by omega) w) ?_ | refine J.call0 eMod rfl rfl (fun w hw => mod_any z (natI A).length (by omega) (by omega) w) ?_ | refine J.call0 eMod rfl rfl (fun w hw => mod_any y order.length (by omega) (by omega) w) ?_ | refine J.call0 eMod rfl rfl (fun w hw => mod_any x order.length (by omega) (by omega) w) ?_) | (refine J.fc 17 ?_; refine J.callx eNot rfl rfl (fun w hw => kNot_any st.kn h8 (zipK2_mem st.len hx1) (by omega) hw) ?_; rintro _ _ ⟨s1, y1, rfl, rfl, k1, hle⟩) | (refine J.fc 21 ?_; refine J.callx eAnd rfl rfl (fun w hw => kAnd_any st.kn h8 (zipK2_mem st.len hx1) (zipK2_mem st.len hy1) (by omega) hw) ?_; rintro _ _ ⟨s1, y1, rfl, rfl, k1, hle⟩) | (refine J.fc 39 ?_; refine J.callx eOr rfl rfl (fun w hw => kOr_any st.kn h8 (zipK2_mem st.len hx1) (zipK2_mem st.len hy1) (by omega) hw) ?_; rintro _ _ ⟨s1, y1, rfl, rfl, k1, hle⟩) | (refine J.fc 22 ?_; refine J.callx eXor rfl rfl (fun w hw => kXor_any st.kn h8 (zipK2_mem st.len hx1) (zipK2_mem st.len hy1) (by omega) hw) ?_; rintro _ _ ⟨s1, y1, rfl, rfl, k1, hle⟩) | (refine J.fc 20 ?_; refine J.callx eIf rfl rfl (fun w hw => kIf_any st.kn h8 (zipK2_mem st.len hx1) (zipK2_mem st.len hy1) (zipK2_mem st.len hz1) (by omega) hw) ?_; rintro _ _ ⟨s1, y1, rfl, rfl, k1, hle⟩) | (refine J.fc 42 ?_; refine J.callx eExists rfl rfl (fun w hw => kEx6_any st.kn h6 po (zipK2_mem st.len hx1) _ hvy _ hry (by omega) hw) ?_; rintro _ _ ⟨s1, y1, rfl, rfl, k1, hle⟩) | (refine J.fc 25 ?_; first | (refine J.callx eVarS rfl rfl (fun w hw => Var_any so po x hxr kx hkx (by omega) hw) ?_; rintro _ _ ⟨s1, y1, rfl, rfl, r⟩; have hle := r.1.le; have k1 := st.kn.put r (fun α => rfl)) | (refine J.callx eVarS rfl rfl (fun w hw => Var_any so po _ hvx _ hrx (by omega) hw) ?_; rintro _ _ ⟨s1, y1, rfl, rfl, r⟩; have hle := r.1.le; have k1 := st.kn.put r (fun α => rfl))) | (refine J.fc 88 ?_; refine J.call1 eNot30 rfl rfl (fun w hw => notT_any order.length h8 (vs.getD (modN x (natI A).length) default).g _ _ hI (st.i _ hgx) w (hw.rdH (rdApp _ RdH.hd.tl.tl.tl.tl.tl.tl.tl))) ?_; rintro _ hx ⟨ax, cx, rfl, ox⟩) | (refine J.fc 89 ?_; refine J.call1 eAnd30 rfl rfl (fun w hw => andT_any order.length h8 (vs.getD (modN x (natI A).length) default).g (vs.getD (modN y (natI A).length) default).g _ _ _ _ hI hI (st.i _ hgx) (st.i _ hgy) w ((hw.rdH (rdApp _ RdH.hd.tl.tl.tl.tl.tl.tl.tl)).append (hw.rdH (rdApp _ RdH.hd.tl.tl.tl.tl.tl.tl.tl)))) ?_; rintro _ hx ⟨ax, cx, rfl, ox⟩) | (refine J.fc 90 ?_; refine J.call1 eOr30 rfl rfl (fun w hw => orT_any order.length h8 (vs.getD (modN x (natI A).length) default).g (vs.getD (modN y (natI A).length) default).g _ _ _ _ hI hI (st.i _ hgx) (st.i _ hgy) w ((hw.rdH (rdApp _ RdH.hd.tl.tl.tl.tl.tl.tl.tl)).append (hw.rdH (rdApp _ RdH.hd.tl.tl.tl.tl.tl.tl.tl)))) ?_; rintro _ hx ⟨ax, cx, rfl, ox⟩) | (refine J.fc 91 ?_; refine J.call1 eXor30 rfl rfl (fun w hw => xorT_any order.length h8 (vs.getD (modN x (natI A).length) default).g (vs.getD (modN y (natI A).length) default).g _ _ _ _ hI hI (st.i _ hgx) (st.i _ hgy) w ((hw.rdH (rdApp _ RdH.hd.tl.tl.tl.tl.tl.tl.tl)).append (hw.rdH (rdApp _ RdH.hd.tl.tl.tl.tl.tl.tl.tl)))) ?_; rintro _ hx ⟨ax, cx, rfl, ox⟩) | (refine J.fc 92 ?_; refine J.call1 eIf30 rfl rfl (fun w hw => ifT_any order.length h8 (vs.getD (modN x (natI A).length) default).g (vs.getD (modN y (natI A).length) default).g (vs.getD (modN z (natI A).length) default).g _ _ _ _ _ _ hI hI hI (st.i _ hgx) (st.i _ hgy) (st.i _ hgz) w ((hw.rdH (rdApp _ RdH.hd.tl.tl.tl.tl.tl.tl.tl)).append ((hw.rdH (rdApp _ RdH.hd.tl.tl.tl.tl.tl.tl.tl)).append (hw.rdH (rdApp _ RdH.hd.tl.tl.tl.tl.tl.tl.tl))))) ?_; rintro _ hx ⟨ax, cx, rfl, ox⟩) | (refine J.fc 93 ?_; refine J.call1 eExists30 rfl rfl (fun w hw => exT_any order.length h8 a c _ hmy (vs.getD (modN x (natI A).length) default).g _ _ hI (st.i _ hgx) w (hw.rdH (rdApp _ RdH.hd.tl.tl.tl.tl.tl.tl.tl))) ?_; rintro _ hx ⟨ax, cx, rfl, ox⟩) | (refine J.fc 87 ?_; first | (refine J.call1 eVar30 rfl rfl (fun w hw => varT_any order.length h8 order rfl a c h hs x kx hkx w (hw.rdH (hr _))) ?_; rintro _ hx ⟨_, rfl, ax, cx, rfl, ox⟩) | (refine J.call1 eVar30 rfl rfl (fun w hw => varT_any order.length h8 order rfl a c h hs _ _ hrx w (hw.rdH (hr _))) ?_; rintro _ hx ⟨_, rfl, ax, cx, rfl, ox⟩))) | (first | (refine J.o 0 ?_; refine J.ev' hΓ ?_) | refine J.nil ?_ | (refine J.o 4 ?_; first | refine J.lT default hΓ ?_ | refine J.lR hΓ ?_) | (refine J.o 3 ?_; first | refine J.iJ hΓ ?_ | refine J.ev' hΓ ?_) | (refine J.o 5 ?_; first | refine J.t0 hΓ ?_ | refine J.t1 hΓ ?_) | (refine J.o 6 ?_; refine J.bx (fun _ => ?_)) | (refine J.o 7 ?_; refine J.al hΓ (fun _ => ?_)) | (refine J.o 9 ?_; refine J.bl hΓ (fun _ => ?_)) | (refine J.o 10 ?_; refine J.ev' hΓ ?_) | (refine J.o 11 ?_; refine J.ev' hΓ ?_)))
      | (first | refine JC.seq ?_ | refine JC.region ?_ | refine JC.block ?_ | refine JC.ret ?_ | refine JC.skip ?_ | refine thenK.nn ?_ | refine thenK.r ?_ | refine blockK.nn ?_ | refine JC.condT rfl ?_ | refine JC.condF rfl ?_ | refine drawK.nn ?_)
      | ((first | (refine JC.drawO [(0,0),(1,1),(0,2),(1,3),(0,4),(0,5),(1,6),(2,7),(0,8),(0,9),(0,10),(0,11),(0,12)] (by decide +kernel) (by decide +kernel) ?_) | (refine JC.drawO [(0,0),(1,1),(0,2),(1,3),(0,4),(0,5),(1,6),(0,7),(1,8),(0,9),(0,10),(1,11),(2,12),(0,13),(0,14),(0,15),(0,16),(0,17)] (by decide +kernel) (by decide +kernel) ?_) | (refine JC.drawO [(0,0),(1,1),(0,2),(0,3),(1,4),(0,5),(1,6),(0,7),(0,8),(1,9),(2,10),(0,11)] (by decide +kernel) (by decide +kernel) ?_) | (refine JC.drawO [(0,0),(1,1),(0,2),(1,3),(0,4),(0,5),(1,6),(0,7),(1,8),(0,9),(0,10),(1,11),(0,12),(1,13),(0,14),(0,15),(1,16),(2,17),(0,18),(0,19),(0,20),(0,21),(0,22)] (by decide +kernel) (by decide +kernel) ?_) | (refine JC.drawO [(0,0),(1,1),(0,2),(0,3),(1,4),(0,5),(1,6),(0,7),(0,8),(1,9),(0,10),(1,11),(0,12),(0,13),(1,14),(2,15),(0,16)] (by decide +kernel) (by decide +kernel) ?_) | (refine JC.drawO [(0,0),(1,1),(0,2),(1,3),(0,4),(0,5),(1,6),(0,7),(0,8),(0,9),(1,10),(2,11),(0,12),(0,13),(0,14),(0,15),(0,16)] (by decide +kernel) (by decide +kernel) ?_) | (refine JC.drawW [] [] (by decide +kernel) (by decide +kernel) ?_)))
      | fail
    all_goals first | (exfalso; omega) | skip

    obtain ⟨G, kG, oG⟩ : ∃ G : BF, Kn order.length K s1 ((y1, G) :: zipK2 A vs) ∧ SlT encBo 1 ax (tabF order.length G) hx := ⟨_, k1, ox.sl⟩
    unfold sF
    simp only [List.cons_append, List.nil_append]
    refine J.isJ ?_
    refine J.o 9 ?_
    refine J.perm (bring_perm 11 _) ?_
    refine J.perm br1 ?_
    refine J.ap1 (enc := encI) [(y1 : Int)] hΓ (fun a2 c2 h2 o2 => ?_) (ho := st.oA)
    repeat' first
      | (refine J.isJ ?_; first | ((refine J.o 5 ?_; refine J.perm (bring_perm 10 _) ?_; refine J.t0 hΓ ?_)) | (first | (refine J.o 0 ?_; refine J.ev' hΓ ?_) | refine J.nil ?_ | (refine J.o 4 ?_; first | refine J.lT default hΓ ?_ | refine J.lR hΓ ?_) | (refine J.o 3 ?_; first | refine J.iJ hΓ ?_ | refine J.ev' hΓ ?_) | (refine J.o 5 ?_; first | refine J.t0 hΓ ?_ | refine J.t1 hΓ ?_) | (refine J.o 6 ?_; refine J.bx (fun _ => ?_)) | (refine J.o 7 ?_; refine J.al hΓ (fun _ => ?_)) | (refine J.o 9 ?_; refine J.bl hΓ (fun _ => ?_)) | (refine J.o 10 ?_; refine J.ev' hΓ ?_) | (refine J.o 11 ?_; refine J.ev' hΓ ?_)))
      | (first | refine JC.seq ?_ | refine JC.region ?_ | refine JC.block ?_ | refine JC.ret ?_ | refine JC.skip ?_ | refine thenK.nn ?_ | refine thenK.r ?_ | refine blockK.nn ?_ | refine JC.condT rfl ?_ | refine JC.condF rfl ?_ | refine drawK.nn ?_)
      | (fail)
      | fail
    refine J.isJ ?_
    refine J.o 9 ?_
    refine J.perm (bring_perm 12 _) ?_
    refine J.perm br1 ?_
    refine J.ap1 (enc := encTV order.length) [(⟨ax, cx, G⟩ : TV)] hΓ (fun a3 c3 h3 o3 => ?_) (ho := st.oF)
    repeat' first
      | (refine J.isJ ?_; first | ((refine J.o 5 ?_; first | refine J.t1 hΓ ?_ | (refine J.perm (bring_perm 10 _) ?_; refine J.t0 hΓ ?_))) | (first | (refine J.o 0 ?_; refine J.ev' hΓ ?_) | refine J.nil ?_ | (refine J.o 4 ?_; first | refine J.lT default hΓ ?_ | refine J.lR hΓ ?_) | (refine J.o 3 ?_; first | refine J.iJ hΓ ?_ | refine J.ev' hΓ ?_) | (refine J.o 5 ?_; first | refine J.t0 hΓ ?_ | refine J.t1 hΓ ?_) | (refine J.o 6 ?_; refine J.bx (fun _ => ?_)) | (refine J.o 7 ?_; refine J.al hΓ (fun _ => ?_)) | (refine J.o 9 ?_; refine J.bl hΓ (fun _ => ?_)) | (refine J.o 10 ?_; refine J.ev' hΓ ?_) | (refine J.o 11 ?_; refine J.ev' hΓ ?_)))
      | (first | refine JC.seq ?_ | refine JC.region ?_ | refine JC.block ?_ | refine JC.ret ?_ | refine JC.skip ?_ | refine thenK.nn ?_ | refine thenK.r ?_ | refine blockK.nn ?_ | refine JC.condT rfl ?_ | refine JC.condF rfl ?_ | refine drawK.nn ?_)
      | (fail)
      | fail
    refine retC hΓ rfl rfl rfl Rd.hd rfl (fun w1 hw => ?_)
    have hw2 := (H.sel (l := [_, _, _, _, _, _, _, _, _, _, _, _, _]) (M := L) hw [4, 12, 5, 6, 7, 8, 9, 10, 3, 1]).mg1
    have hw3 := H.sel (l := [_, _, _, _, _, _, _, _, _]) (M := L) hw2 [1, 2, 3, 4, 5, 6, 7, 8, 0]
    have e : natI (A ++ [y1]) = natI A ++ [(y1 : Int)] := by unfold natI; rw [List.map_append]; rfl
    exact ⟨_, _, rfl, hw3, s1, A ++ [y1], vs ++ [⟨ax, cx, G⟩], a2, a3, c2, c3, h2, h3, hx ++ hI, by rw [e]; rfl, rfl, st.next kG (fun α => rfl) o2 o3 oG, by simp, by omega⟩

  ·
    refine calls_in Try.func35 Try.ntmps35 rfl rfl (hw) ?_
    refine JC.seq ?_
    refine JC.region ?_
    refine J.isJ ?_
    refine J.o 6 ?_
    refine J.bx (fun b3 => ?_)
    refine J.isJ ?_
    refine J.o 6 ?_
    refine J.bx (fun b5 => ?_)
    refine J.isJ ?_
    refine J.o 7 ?_
    refine J.al hΓ (fun b6 => ?_)
    refine J.nil ?_
    refine thenK.nn ?_
    refine JC.perm (brC K b0 s _ _ _ hO hP _) ?_
    repeat' first
      | (refine J.isJ ?_; first | (first | (refine J.o 1 ?_; refine J.grem (b := 8) ?_; rw [hκ]) | (refine J.o 4 ?_; first | refine J.lR hΓ ?_ (hr := Rd.app _ Rd.hd.tl.tl) | refine J.lR hΓ ?_ (hr := Rd.app _ Rd.hd.tl.tl.tl) | refine J.lR hΓ ?_ (hr := Rd.app _ Rd.hd.tl.tl.tl.tl) | refine J.lR hΓ ?_ (hr := (Rd.app _ Rd.hd.tl.tl).tl) | refine J.lR hΓ ?_ (hr := (Rd.app _ Rd.hd.tl.tl.tl).tl) | refine J.lR hΓ ?_ (hr := (Rd.app _ Rd.hd.tl.tl.tl.tl).tl) | (refine J.lT default hΓ ?_ (hs := st.oA.sl) (hr := rdApp _ RdH.hd.tl.tl.tl.tl.tl); first | rw [natI_get A hx1] | rw [natI_get A hy1] | rw [natI_get A hz1]) | refine J.lT default hΓ ?_ (hs := st.oF.sl) (hr := rdApp _ RdH.hd.tl.tl.tl.tl.tl.tl) | refine J.lT default hΓ ?_ (hs := hs) (hr := hr _)) | (refine J.o 3 ?_; first | refine J.iJ hΓ ?_ (hs := st.oA.sl) | refine J.iJ hΓ ?_ (hs := st.oF.sl) | refine J.iJ hΓ ?_ (hs := hs)) | (refine J.fc 86 ?_; first | refine J.call0 eMod rfl rfl (fun w hw => mod_any x (natI A).length (by omega) (by omega) w) ?_ | refine J.call0 eMod rfl rfl (fun w hw => mod_any y (natI A).length (by omega) (by omega) w) ?_ | refine J.call0 eMod rfl rfl (fun w hw => mod_any z (natI A).length (by omega) (by omega) w) ?_ | refine J.call0 eMod rfl rfl (fun w hw => mod_any y order.length (by omega) (by omega) w) ?_ | refine J.call0 eMod rfl rfl (fun w hw => mod_any x order.length (by omega) (by omega) w) ?_) | (refine J.fc 17 ?_; refine J.callx eNot rfl rfl (fun w hw => kNot_any st.kn h8 (zipK2_mem st.len hx1) (by omega) hw) ?_; rintro _ _ ⟨s1, y1, rfl, rfl, k1, hle⟩) | (refine J.fc 21 ?_; refine J.callx eAnd rfl rfl (fun w hw => kAnd_any st.kn h8 (zipK2_mem st.len hx1) (zipK2_mem st.len hy1) (by omega) hw) ?_; rintro _ _ ⟨s1, y1, rfl, rfl, k1, hle⟩) | (refine J.fc 39 ?_; refine J.callx eOr rfl rfl (fun w hw => kOr_any st.kn h8 (zipK2_mem st.len hx1) (zipK2_mem st.len hy1) (by omega) hw) ?_; rintro _ _ ⟨s1, y1, rfl, rfl, k1, hle⟩) | (refine J.fc 22 ?_; refine J.callx eXor rfl rfl (fun w hw => kXor_any st.kn h8 (zipK2_mem st.len hx1) (zipK2_mem st.len hy1) (by omega) hw) ?_; rintro _ _ ⟨s1, y1, rfl, rfl, k1, hle⟩) | (refine J.fc 20 ?_; refine J.callx eIf rfl rfl (fun w hw => kIf_any st.kn h8 (zipK2_mem st.len hx1) (zipK2_mem st.len hy1) (zipK2_mem st.len hz1) (by omega) hw) ?_; rintro _ _ ⟨s1, y1, rfl, rfl, k1, hle⟩) | (refine J.fc 42 ?_; refine J.callx eExists rfl rfl (fun w hw => kEx6_any st.kn h6 po (zipK2_mem st.len hx1) _ hvy _ hry (by omega) hw) ?_; rintro _ _ ⟨s1, y1, rfl, rfl, k1, hle⟩) | (refine J.fc 25 ?_; first | (refine J.callx eVarS rfl rfl (fun w hw => Var_any so po x hxr kx hkx (by omega) hw) ?_; rintro _ _ ⟨s1, y1, rfl, rfl, r⟩; have hle := r.1.le; have k1 := st.kn.put r (fun α => rfl)) | (refine J.callx eVarS rfl rfl (fun w hw => Var_any so po _ hvx _ hrx (by omega) hw) ?_; rintro _ _ ⟨s1, y1, rfl, rfl, r⟩; have hle := r.1.le; have k1 := st.kn.put r (fun α => rfl))) | (refine J.fc 88 ?_; refine J.call1 eNot30 rfl rfl (fun w hw => notT_any order.length h8 (vs.getD (modN x (natI A).length) default).g _ _ hI (st.i _ hgx) w (hw.rdH (rdApp _ RdH.hd.tl.tl.tl.tl.tl.tl.tl))) ?_; rintro _ hx ⟨ax, cx, rfl, ox⟩) | (refine J.fc 89 ?_; refine J.call1 eAnd30 rfl rfl (fun w hw => andT_any order.length h8 (vs.getD (modN x (natI A).length) default).g (vs.getD (modN y (natI A).length) default).g _ _ _ _ hI hI (st.i _ hgx) (st.i _ hgy) w ((hw.rdH (rdApp _ RdH.hd.tl.tl.tl.tl.tl.tl.tl)).append (hw.rdH (rdApp _ RdH.hd.tl.tl.tl.tl.tl.tl.tl)))) ?_; rintro _ hx ⟨ax, cx, rfl, ox⟩) | (refine J.fc 90 ?_; refine J.call1 eOr30 rfl rfl (fun w hw => orT_any order.length h8 (vs.getD (modN x (natI A).length) default).g (vs.getD (modN y (natI A).length) default).g _ _ _ _ hI hI (st.i _ hgx) (st.i _ hgy) w ((hw.rdH (rdApp _ RdH.hd.tl.tl.tl.tl.tl.tl.tl)).append (hw.rdH (rdApp _ RdH.hd.tl.tl.tl.tl.tl.tl.tl)))) ?_; rintro _ hx ⟨ax, cx, rfl, ox⟩) | (refine J.fc 91 ?_; refine J.call1 eXor30 rfl rfl (fun w hw => xorT_any order.length h8 (vs.getD (modN x (natI A).length) default).g (vs.getD (modN y (natI A).length) default).g _ _ _ _ hI hI (st.i _ hgx) (st.i _ hgy) w ((hw.rdH (rdApp _ RdH.hd.tl.tl.tl.tl.tl.tl.tl)).append (hw.rdH (rdApp _ RdH.hd.tl.tl.tl.tl.tl.tl.tl)))) ?_; rintro _ hx ⟨ax, cx, rfl, ox⟩) | (refine J.fc 92 ?_; refine J.call1 eIf30 rfl rfl (fun w hw => ifT_any order.length h8 (vs.getD (modN x (natI A).length) default).g (vs.getD (modN y (natI A).length) default).g (vs.getD (modN z (natI A).length) default).g _ _ _ _ _ _ hI hI hI (st.i _ hgx) (st.i _ hgy) (st.i _ hgz) w ((hw.rdH (rdApp _ RdH.hd.tl.tl.tl.tl.tl.tl.tl)).append ((hw.rdH (rdApp _ RdH.hd.tl.tl.tl.tl.tl.tl.tl)).append (hw.rdH (rdApp _ RdH.hd.tl.tl.tl.tl.tl.tl.tl))))) ?_; rintro _ hx ⟨ax, cx, rfl, ox⟩) | (refine J.fc 93 ?_; refine J.call1 eExists30 rfl rfl (fun w hw => exT_any order.length h8 a c _ hmy (vs.getD (modN x (natI A).length) default).g _ _ hI (st.i _ hgx) w (hw.rdH (rdApp _ RdH.hd.tl.tl.tl.tl.tl.tl.tl))) ?_; rintro _ hx ⟨ax, cx, rfl, ox⟩) | (refine J.fc 87 ?_; first | (refine J.call1 eVar30 rfl rfl (fun w hw => varT_any order.length h8 order rfl a c h hs x kx hkx w (hw.rdH (hr _))) ?_; rintro _ hx ⟨_, rfl, ax, cx, rfl, ox⟩) | (refine J.call1 eVar30 rfl rfl (fun w hw => varT_any order.length h8 order rfl a c h hs _ _ hrx w (hw.rdH (hr _))) ?_; rintro _ hx ⟨_, rfl, ax, cx, rfl, ox⟩))) | (first | (refine J.o 0 ?_; refine J.ev' hΓ ?_) | refine J.nil ?_ | (refine J.o 4 ?_; first | refine J.lT default hΓ ?_ | refine J.lR hΓ ?_) | (refine J.o 3 ?_; first | refine J.iJ hΓ ?_ | refine J.ev' hΓ ?_) | (refine J.o 5 ?_; first | refine J.t0 hΓ ?_ | refine J.t1 hΓ ?_) | (refine J.o 6 ?_; refine J.bx (fun _ => ?_)) | (refine J.o 7 ?_; refine J.al hΓ (fun _ => ?_)) | (refine J.o 9 ?_; refine J.bl hΓ (fun _ => ?_)) | (refine J.o 10 ?_; refine J.ev' hΓ ?_) | (refine J.o 11 ?_; refine J.ev' hΓ ?_)))
      | (first | refine JC.seq ?_ | refine JC.region ?_ | refine JC.block ?_ | refine JC.ret ?_ | refine JC.skip ?_ | refine thenK.nn ?_ | refine thenK.r ?_ | refine blockK.nn ?_ | refine JC.condT rfl ?_ | refine JC.condF rfl ?_ | refine drawK.nn ?_)
      | ((first | (refine JC.drawO [(0,0),(1,1),(0,2),(1,3),(0,4),(0,5),(1,6),(2,7),(0,8),(0,9),(0,10),(0,11),(0,12)] (by decide +kernel) (by decide +kernel) ?_) | (refine JC.drawO [(0,0),(1,1),(0,2),(1,3),(0,4),(0,5),(1,6),(0,7),(1,8),(0,9),(0,10),(1,11),(2,12),(0,13),(0,14),(0,15),(0,16),(0,17)] (by decide +kernel) (by decide +kernel) ?_) | (refine JC.drawO [(0,0),(1,1),(0,2),(0,3),(1,4),(0,5),(1,6),(0,7),(0,8),(1,9),(2,10),(0,11)] (by decide +kernel) (by decide +kernel) ?_) | (refine JC.drawO [(0,0),(1,1),(0,2),(1,3),(0,4),(0,5),(1,6),(0,7),(1,8),(0,9),(0,10),(1,11),(0,12),(1,13),(0,14),(0,15),(1,16),(2,17),(0,18),(0,19),(0,20),(0,21),(0,22)] (by decide +kernel) (by decide +kernel) ?_) | (refine JC.drawO [(0,0),(1,1),(0,2),(0,3),(1,4),(0,5),(1,6),(0,7),(0,8),(1,9),(0,10),(1,11),(0,12),(0,13),(1,14),(2,15),(0,16)] (by decide +kernel) (by decide +kernel) ?_) | (refine JC.drawO [(0,0),(1,1),(0,2),(1,3),(0,4),(0,5),(1,6),(0,7),(0,8),(0,9),(1,10),(2,11),(0,12),(0,13),(0,14),(0,15),(0,16)] (by decide +kernel) (by decide +kernel) ?_) | (refine JC.drawW [] [] (by decide +kernel) (by decide +kernel) ?_)))
      | fail
    all_goals first | (exfalso; omega) | skip

    obtain ⟨G, kG, oG⟩ : ∃ G : BF, Kn order.length K s1 ((y1, G) :: zipK2 A vs) ∧ SlT encBo 1 ax (tabF order.length G) hx := ⟨_, k1, ox.sl⟩
    unfold sF
    simp only [List.cons_append, List.nil_append]
    refine J.isJ ?_
    refine J.o 9 ?_
    refine J.perm (bring_perm 11 _) ?_
    refine J.perm br1 ?_
    refine J.ap1 (enc := encI) [(y1 : Int)] hΓ (fun a2 c2 h2 o2 => ?_) (ho := st.oA)
    repeat' first
      | (refine J.isJ ?_; first | ((refine J.o 5 ?_; refine J.perm (bring_perm 10 _) ?_; refine J.t0 hΓ ?_)) | (first | (refine J.o 0 ?_; refine J.ev' hΓ ?_) | refine J.nil ?_ | (refine J.o 4 ?_; first | refine J.lT default hΓ ?_ | refine J.lR hΓ ?_) | (refine J.o 3 ?_; first | refine J.iJ hΓ ?_ | refine J.ev' hΓ ?_) | (refine J.o 5 ?_; first | refine J.t0 hΓ ?_ | refine J.t1 hΓ ?_) | (refine J.o 6 ?_; refine J.bx (fun _ => ?_)) | (refine J.o 7 ?_; refine J.al hΓ (fun _ => ?_)) | (refine J.o 9 ?_; refine J.bl hΓ (fun _ => ?_)) | (refine J.o 10 ?_; refine J.ev' hΓ ?_) | (refine J.o 11 ?_; refine J.ev' hΓ ?_)))
      | (first | refine JC.seq ?_ | refine JC.region ?_ | refine JC.block ?_ | refine JC.ret ?_ | refine JC.skip ?_ | refine thenK.nn ?_ | refine thenK.r ?_ | refine blockK.nn ?_ | refine JC.condT rfl ?_ | refine JC.condF rfl ?_ | refine drawK.nn ?_)
      | (fail)
      | fail
    refine J.isJ ?_
    refine J.o 9 ?_
    refine J.perm (bring_perm 12 _) ?_
    refine J.perm br1 ?_
    refine J.ap1 (enc := encTV order.length) [(⟨ax, cx, G⟩ : TV)] hΓ (fun a3 c3 h3 o3 => ?_) (ho := st.oF)
    repeat' first
      | (refine J.isJ ?_; first | ((refine J.o 5 ?_; first | refine J.t1 hΓ ?_ | (refine J.perm (bring_perm 10 _) ?_; refine J.t0 hΓ ?_))) | (first | (refine J.o 0 ?_; refine J.ev' hΓ ?_) | refine J.nil ?_ | (refine J.o 4 ?_; first | refine J.lT default hΓ ?_ | refine J.lR hΓ ?_) | (refine J.o 3 ?_; first | refine J.iJ hΓ ?_ | refine J.ev' hΓ ?_) | (refine J.o 5 ?_; first | refine J.t0 hΓ ?_ | refine J.t1 hΓ ?_) | (refine J.o 6 ?_; refine J.bx (fun _ => ?_)) | (refine J.o 7 ?_; refine J.al hΓ (fun _ => ?_)) | (refine J.o 9 ?_; refine J.bl hΓ (fun _ => ?_)) | (refine J.o 10 ?_; refine J.ev' hΓ ?_) | (refine J.o 11 ?_; refine J.ev' hΓ ?_)))
      | (first | refine JC.seq ?_ | refine JC.region ?_ | refine JC.block ?_ | refine JC.ret ?_ | refine JC.skip ?_ | refine thenK.nn ?_ | refine thenK.r ?_ | refine blockK.nn ?_ | refine JC.condT rfl ?_ | refine JC.condF rfl ?_ | refine drawK.nn ?_)
      | (fail)
      | fail
    refine retC hΓ rfl rfl rfl Rd.hd rfl (fun w1 hw => ?_)
    have hw2 := (H.sel (l := [_, _, _, _, _, _, _, _, _, _, _, _, _]) (M := L) hw [4, 12, 5, 6, 7, 8, 9, 10, 3, 1]).mg1
    have hw3 := H.sel (l := [_, _, _, _, _, _, _, _, _]) (M := L) hw2 [1, 2, 3, 4, 5, 6, 7, 8, 0]
    have e : natI (A ++ [y1]) = natI A ++ [(y1 : Int)] := by unfold natI; rw [List.map_append]; rfl
    exact ⟨_, _, rfl, hw3, s1, A ++ [y1], vs ++ [⟨ax, cx, G⟩], a2, a3, c2, c3, h2, h3, hx ++ hI, by rw [e]; rfl, rfl, st.next kG (fun α => rfl) o2 o3 oG, by simp, by omega⟩
end Go.Proofs.Ythnhijdfcmcnhaa
namespace Go.Proofs.Ythnhijdfcmcnhaa
open Go Go.Cx Go.RowKit
set_option linter.unusedVariables false
set_option linter.unusedSimpArgs false
set_option maxHeartbeats 4000000
attribute [local irreducible] J JC thenK blockK loopK drawK retK QW Qt pel List.set Calls
open Go.Maps Go.Lib
set_option maxRecDepth 8000
attribute [local irreducible] JE Br eK0 eK3 brK pc
theorem eBegin : Entr Try.prog 34 := Entr.of Try.func34 rfl rfl
theorem begin_any (l : List Int) (a : Option Addr) (c : Nat) (h : Heap) (hs : SlT encI 1 a l h) (ho : okOrd l) (h8 : l.length ≤ 8) {w0 w : World} {R : Heap} {L : List Heap} (hr : ∀ M, RdH R M h) (hw : H w0 R L w) :
    Calls Try.prog 34 #[.slice a l.length c] w fun e w' => ∃ v L', e = .returned v ∧ H w0 R L' w' ∧ ∃ b0 K s A vs aA aF cA cF hO hP hA hF hI, v = runV b0 aA (natI A).length cA aF vs.length cF false ∧ L' = sF K b0 s ++ (hO :: hP :: hA :: hF :: hI :: L) ∧ POk K l hO hP ∧ RunS l.length K s A vs aA aF cA cF hA hF hI ∧ A.length = 2 ∧ s.ns.length = 2 := by
  refine calls_in Try.func34 Try.ntmps34 rfl rfl (hw) ?_
  repeat' first
    | (refine J.isJ ?_; first | (first | (refine J.o 7 ?_; refine J.al hΓ (fun b2 => ?_)) | (refine J.fc 14 ?_; refine J.callx eNew rfl rfl (fun w hw => new_any l a c h hs ho (hr _) hw) ?_; rintro _ _ ⟨b0, K, s, hO, hP, rfl, rfl, so, hns, po⟩; have hlen : s.ns.length = 2 := (by rw [hns]; rfl)) | (refine J.o 11 ?_; refine J.pN hΓ ?_) | (refine J.fc 85 ?_; first | (refine J.call1 eConst rfl rfl (fun w hw => constT_any l.length h8 false w) ?_; rintro _ h1 ⟨a1, c1, rfl, o1⟩) | (refine J.call1 eConst rfl rfl (fun w hw => constT_any l.length h8 true w) ?_; rintro _ h2 ⟨a2, c2, rfl, o2⟩)) | (refine J.o 9 ?_; first | refine J.bl (e := 3) hΓ (fun bA => ?_) | refine J.bl (e := 65) hΓ (fun bF => ?_)) | (refine J.o 5 ?_; unfold sF; simp only [List.cons_append, List.nil_append]; refine J.perm (bring_perm 10 _) ?_; refine J.t0 hΓ ?_)) | (first | (refine J.o 0 ?_; refine J.ev' hΓ ?_) | refine J.nil ?_ | (refine J.o 3 ?_; first | refine J.ev' hΓ ?_) | (refine J.o 5 ?_; first | refine J.t0 hΓ ?_) | (refine J.o 7 ?_; refine J.al hΓ (fun _ => ?_)) | (refine J.o 8 ?_; refine J.bd hΓ ?_) | (refine J.o 9 ?_; refine J.bl hΓ (fun _ => ?_)) | (refine J.o 10 ?_; refine J.ev' hΓ ?_) | (refine J.o 11 ?_; refine J.ev' hΓ ?_)))
    | (first | refine JC.seq ?_ | refine JC.region ?_ | refine JC.ret ?_ | refine thenK.nn ?_)
    | (fail)
    | fail
  all_goals first | (exfalso; omega) | skip
  have oA : OwT encI 1 3 (some ⟨bA, 0, none⟩) 2 (natI [0, 1]) [(bA, .cells ⟨[.int .i64 0, .int .i64 1]⟩ 3 (0, 0))] := ⟨fun _ => rfl, .inr ⟨bA, _, rfl, rfl, rfl, Nat.le_refl _, rfl⟩⟩
  have oF : OwT (encTV l.length) 1 65 (some ⟨bF, 0, none⟩) 2 [⟨a1, c1, fun _ => false⟩, ⟨a2, c2, fun _ => true⟩] [(bF, .cells ⟨[.slice a1 (2 ^ l.length) c1, .slice a2 (2 ^ l.length) c2]⟩ 65 (0, 0))] := ⟨fun _ => rfl, .inr ⟨bF, _, rfl, rfl, rfl, Nat.le_refl _, rfl⟩⟩
  have st : RunS l.length K s [0, 1] [⟨a1, c1, fun _ => false⟩, ⟨a2, c2, fun _ => true⟩] (some ⟨bA, 0, none⟩) (some ⟨bF, 0, none⟩) 2 2 _ _ (h2 ++ h1) := ⟨rfl, Nat.le_refl _, Kn.start so, oA, oF, fun v hv => by
    rcases List.mem_cons.1 hv with rfl | hv
    · exact o1.sl.sub fun x hx => List.mem_append_right _ hx
    · rw [List.mem_singleton.1 hv]; exact o2.sl.sub fun x hx => List.mem_append_left _ hx⟩
  refine retC hΓ rfl rfl rfl Rd.hd rfl (fun w1 hw => ?_)
  have hw2 := (H.sel (l := [_, _, _, _, _, _, _, _, _, _, _]) (M := L) hw [2, 3, 5, 6, 7, 8, 9, 10, 4, 1]).mg1
  have hw3 := H.sel (l := [_, _, _, _, _, _, _, _, _]) (M := L) hw2 [1, 2, 3, 4, 5, 6, 7, 8, 0]
  exact ⟨_, _, rfl, hw3, b0, K, s, [0, 1], _, _, _, _, _, hO, hP, _, _, _, rfl, rfl, po, st, rfl, hlen⟩
theorem eLight : Entr Try.prog 33 := Entr.of Try.func33 rfl rfl
theorem light_any (l : List Int) (a aL : Option Addr) (c m cL : Nat) (h : Heap) (hs : SlT encI 1 a l h) (w : World) (hw1 : Holds h w) :
    Calls Try.prog 33 #[.agg ⟨[.slice a l.length c, .slice aL m cL]⟩] w fun e w' => e = .returned (.bool (decide (0 < l.length ∧ l.length ≤ 6 ∧ m ≤ 30 ∧ okOrd l))) ∧ Below w.heap.size w w' := by
  have q0 : ∀ L, RdH h L h := fun L => RdH.old fun _ hh => hh
  by_cases h6 : l.length ≤ 6
  ·
    have cO := fun w hw => ord30_any a c l h hs (by omega) w hw
    refine calls_of_JC (R := h) Try.func33 Try.ntmps33 rfl rfl (hw1) ?_
    repeat' first
      | (refine J.isJ ?_; first | ((refine J.fc 15 ?_; refine J.call0 eOrd30 rfl rfl (fun w hw => cO w (hw.rdH (q0 _))) ?_)) | (first | (refine J.o 0 ?_; refine J.ev' hΓ ?_) | refine J.nil ?_ | refine J.kd ?_ | (refine J.o 4 ?_; first | refine J.lR hΓ ?_) | (refine J.o 3 ?_; first | refine J.ev' hΓ ?_) | (refine J.o 6 ?_; refine J.bx (fun _ => ?_)) | (refine J.o 10 ?_; refine J.ev' hΓ ?_) | (refine J.o 11 ?_; refine J.ev' hΓ ?_)) | ((fail_if_success refine J.wt ?_); refine J.gc rfl rfl (fun hc => ?_) (fun hc => ?_) <;> ((try simp only [decide_eq_true_eq, decide_eq_false_iff_not, beq_iff_eq, beq_eq_false_iff_ne, bne_iff_ne, bne_eq_false_iff_eq, Bool.not_eq_true', Bool.not_eq_false', Bool.not_eq_true, Bool.not_eq_false] at hc) <;> first | (first | (exact absurd rfl hc) | (exfalso; omega) | (exact absurd (hc.symm.trans (by assumption : _ = false)) (by decide)) | (exact absurd (hc.symm.trans (by assumption : _ = true)) (by decide))) | skip)))
      | (first | refine JC.seq ?_ | refine JC.region ?_ | refine JC.ret ?_ | refine thenK.nn ?_)
      | (fail)
      | fail
    all_goals first | (exfalso; omega) | skip
    all_goals (refine ret1f rfl rfl rfl (fun w1 hw => ⟨?_, hw.below⟩))
    all_goals first | (rw [decide_eq_false (show ¬ (0 < l.length ∧ l.length ≤ 6 ∧ m ≤ 30 ∧ okOrd l) from fun g => by omega)]; done) | (rw [decide_eq_decide.2 (show okOrd l ↔ (0 < l.length ∧ l.length ≤ 6 ∧ m ≤ 30 ∧ okOrd l) from ⟨fun g => ⟨by omega, by omega, by omega, g⟩, fun g => g.2.2.2⟩)])
  ·
    rw [decide_eq_false (fun g => h6 g.2.1)]
    refine calls_of_JC (R := h) Try.func33 Try.ntmps33 rfl rfl (hw1) ?_
    repeat' first
      | (refine J.isJ ?_; first | (fail) | (first | (refine J.o 0 ?_; refine J.ev' hΓ ?_) | refine J.nil ?_ | refine J.kd ?_ | (refine J.o 4 ?_; first | refine J.lR hΓ ?_) | (refine J.o 3 ?_; first | refine J.ev' hΓ ?_) | (refine J.o 6 ?_; refine J.bx (fun _ => ?_)) | (refine J.o 10 ?_; refine J.ev' hΓ ?_) | (refine J.o 11 ?_; refine J.ev' hΓ ?_)) | ((fail_if_success refine J.wt ?_); refine J.gc rfl rfl (fun hc => ?_) (fun hc => ?_) <;> ((try simp only [decide_eq_true_eq, decide_eq_false_iff_not, beq_iff_eq, beq_eq_false_iff_ne, bne_iff_ne, bne_eq_false_iff_eq, Bool.not_eq_true', Bool.not_eq_false', Bool.not_eq_true, Bool.not_eq_false] at hc) <;> first | (first | (exact absurd rfl hc) | (exfalso; omega) | (exact absurd (hc.symm.trans (by assumption : _ = false)) (by decide)) | (exact absurd (hc.symm.trans (by assumption : _ = true)) (by decide))) | skip)))
      | (first | refine JC.seq ?_ | refine JC.region ?_ | refine JC.ret ?_ | refine thenK.nn ?_)
      | (fail)
      | fail
    all_goals first | (exfalso; omega) | skip
    all_goals (refine ret1f rfl rfl rfl (fun w1 hw => ⟨rfl, hw.below⟩))
def idxQ (b : Nat → Bool) (n : Nat) : Nat → Nat
  | 0 => 0
  | k + 1 => idxQ b n k + (if b k then 2 ^ (n - 1 - k) else 0)
theorem idxQ_ok (b : Nat → Bool) (n : Nat) : ∀ k, k ≤ n → idxQ b n k < 2 ^ n ∧ ∀ j, j < n → (idxQ b n k).testBit (n - 1 - j) = (decide (j < k) && b j)
  | 0, _ => ⟨Nat.two_pow_pos n, fun j hj => by simp [idxQ]⟩
  | k + 1, hk => by
    obtain ⟨h1, h2⟩ := idxQ_ok b n k (by omega)
    have hz : idxQ b n k &&& 2 ^ (n - 1 - k) = 0 := by
      have := and_bit (idxQ b n k) (n - 1 - k)
      rw [h2 k (by omega)] at this
      simpa using this
    have e : idxQ b n (k + 1) = gi (n - 1 - k) (b k) (idxQ b n k) := by unfold gi; rw [hz]; rfl
    rw [e]
    refine ⟨gi_lt (by omega) _ h1, fun j hj => ?_⟩
    rw [gi_bit]
    by_cases hjk : j = k
    · subst hjk; rw [if_pos rfl]; simp
    · rw [if_neg (by omega), h2 j hj]
      have : decide (j < k) = decide (j < k + 1) := decide_eq_decide.2 (by omega)
      rw [this]
theorem asg_idx (order : List Int) (x : Nat × Nat) : asg order.length (idxQ (asgS order x) order.length order.length) = asgS order x := by
  funext k
  unfold asg
  rcases Nat.lt_or_ge k order.length with h | h
  · rw [(idxQ_ok _ _ _ (Nat.le_refl _)).2 k h, decide_eq_true h]; rfl
  · rw [decide_eq_false (by omega)]
    unfold asgS
    rw [List.getD_eq_getElem?_getD, List.getElem?_eq_none h]
    rfl
theorem eIndex : Entr Try.prog 36 := Entr.of Try.func36 rfl rfl
theorem index_any (l : List Int) (a : Option Addr) (c : Nat) (h : Heap) (hs : SlT encI 1 a l h) (h8 : l.length ≤ 8) (x : Nat × Nat) (hx : okS x) (w : World) (hw : Holds h w) :
    Calls Try.prog 36 #[.slice a l.length c, sv x] w fun e w' => e = .returned (.int .i64 (idxQ (asgS l x) l.length l.length : Int)) ∧ Below w.heap.size w w' := by
  have h2n := pow8 h8
  have q0 : ∀ L, RdH h L h := fun L => RdH.old fun _ hh => hh
  refine calls_of_JC (R := h) Try.func36 Try.ntmps36 rfl rfl (hw) ?_
  repeat' first
    | (refine J.isJ ?_; first | ((refine J.o 6 ?_; refine J.bx (fun b3 => ?_))) | (first | (refine J.o 0 ?_; refine J.ev' hΓ ?_) | refine J.nil ?_ | (refine J.o 4 ?_; first | refine J.lT default hΓ ?_ | refine J.lR hΓ ?_) | (refine J.o 3 ?_; first | refine J.iJ hΓ ?_ | refine J.ev' hΓ ?_) | (refine J.o 1 ?_; first | refine J.ad ?_) | (refine J.o 6 ?_; refine J.bx (fun _ => ?_)) | (refine J.o 10 ?_; refine J.ev' hΓ ?_) | (refine J.o 11 ?_; refine J.ev' hΓ ?_)))
    | (first | refine JC.seq ?_ | refine JC.region ?_ | refine JC.block ?_ | refine JC.ret ?_ | refine JC.exit ?_ | refine JC.skip ?_ | refine thenK.nn ?_ | refine thenK.x ?_ | refine blockK.nn ?_ | refine blockK.hit rfl ?_ | refine JC.condT rfl ?_ | refine JC.condF rfl ?_ | (refine JC.cond rfl (fun hc => ?_) (fun hc => ?_) <;> ((try simp only [decide_eq_true_eq, decide_eq_false_iff_not, beq_iff_eq, beq_eq_false_iff_ne, bne_iff_ne, bne_eq_false_iff_eq, Bool.not_eq_true', Bool.not_eq_false', Bool.not_eq_true, Bool.not_eq_false] at hc) <;> first | (first | (exact absurd rfl hc) | (exfalso; omega) | (exact absurd (hc.symm.trans (by assumption : _ = false)) (by decide)) | (exact absurd (hc.symm.trans (by assumption : _ = true)) (by decide))) | skip)) | refine drawK.nn ?_ | refine loopK.x ?_)
    | (fail)
    | fail
  all_goals first | (exfalso; omega) | skip
  refine JC.loop (fun i => i == 5 || i == 6 || Nat.ble 7 i) (fun m g L => ∃ k : Nat, g 6 = .int .i64 (k : Int) ∧ g 5 = .int .i64 ((idxQ (asgS l x) l.length k : Nat) : Int) ∧ k + m = l.length ∧ L = _) l.length ⟨0, rfl, rfl, by omega, rfl⟩ ?_
  rintro m g L ⟨k, e6, e5, hkm, rfl⟩
  refine JC.pin 6 e6 ?_
  refine JC.pin 5 e5 ?_
  have hb := (idxQ_ok (asgS l x) l.length k (by omega)).1
  rcases Nat.lt_or_ge k l.length with hlt | hge
  ·
    have hb1 := (idxQ_ok (asgS l x) l.length (k + 1) (by omega)).1
    have hd : asgS l x k = hasB x (l.getD k default) := rfl
    cases hh : hasB x (l.getD k default) with
    | true =>
      have cH := fun w => refHas_any x hx (l.getD k default) w
      rw [hh] at cH
      have he : idxQ (asgS l x) l.length (k + 1) = idxQ (asgS l x) l.length k + 2 ^ (l.length - 1 - k) := by show _ + (if asgS l x k then _ else _) = _; rw [hd, hh]; rfl
      repeat' first
        | (refine J.isJ ?_; first | (first | (refine J.o 1 ?_; refine J.gadd (b := 2 ^ (l.length - 1 - k)) ?_ (hw := wI64 (by omega))) | (refine J.o 4 ?_; refine J.lT default hΓ ?_ (hs := hs) (hr := q0 _)) | (refine J.fc 94 ?_; refine J.call0 eHasR rfl rfl (fun w hw => cH w) ?_) | (refine J.fc 95 ?_; refine J.call0 eBit rfl rfl (fun w hw => bit_any a c l.length k hlt h8 w) ?_)) | (first | (refine J.o 0 ?_; refine J.ev' hΓ ?_) | refine J.nil ?_ | (refine J.o 4 ?_; first | refine J.lT default hΓ ?_ | refine J.lR hΓ ?_) | (refine J.o 3 ?_; first | refine J.iJ hΓ ?_ | refine J.ev' hΓ ?_) | (refine J.o 1 ?_; first | refine J.ad ?_) | (refine J.o 6 ?_; refine J.bx (fun _ => ?_)) | (refine J.o 10 ?_; refine J.ev' hΓ ?_) | (refine J.o 11 ?_; refine J.ev' hΓ ?_)))
        | (first | refine JC.seq ?_ | refine JC.region ?_ | refine JC.block ?_ | refine JC.ret ?_ | refine JC.exit ?_ | refine JC.skip ?_ | refine thenK.nn ?_ | refine thenK.x ?_ | refine blockK.nn ?_ | refine blockK.hit rfl ?_ | refine JC.condT rfl ?_ | refine JC.condF rfl ?_ | (refine JC.cond rfl (fun hc => ?_) (fun hc => ?_) <;> ((try simp only [decide_eq_true_eq, decide_eq_false_iff_not, beq_iff_eq, beq_eq_false_iff_ne, bne_iff_ne, bne_eq_false_iff_eq, Bool.not_eq_true', Bool.not_eq_false', Bool.not_eq_true, Bool.not_eq_false] at hc) <;> first | (first | (exact absurd rfl hc) | (exfalso; omega) | (exact absurd (hc.symm.trans (by assumption : _ = false)) (by decide)) | (exact absurd (hc.symm.trans (by assumption : _ = true)) (by decide))) | skip)) | refine drawK.nn ?_ | refine loopK.x ?_)
        | ((first | refine JC.drawO [(1,0),(0,1),(0,2),(0,3),(1,4),(1,5)] (by decide +kernel) (by decide +kernel) ?_))
        | fail
      all_goals first | (exfalso; omega) | skip
      refine loopK.nn (m - 1) (by omega) (by repeat (first | refine Ag.upd rfl ?_ | exact Ag.hv)) ⟨k + 1, ?_, ?_, by omega, rfl⟩
      · show Value.int .i64 _ = _; congr 1
      · show Value.int .i64 _ = _; rw [he]
    | false =>
      have cH := fun w => refHas_any x hx (l.getD k default) w
      rw [hh] at cH
      have he : idxQ (asgS l x) l.length (k + 1) = idxQ (asgS l x) l.length k := by show _ + (if asgS l x k then _ else _) = _; rw [hd, hh]; rfl
      repeat' first
        | (refine J.isJ ?_; first | (first | (refine J.o 4 ?_; refine J.lT default hΓ ?_ (hs := hs) (hr := q0 _)) | (refine J.fc 94 ?_; refine J.call0 eHasR rfl rfl (fun w hw => cH w) ?_)) | (first | (refine J.o 0 ?_; refine J.ev' hΓ ?_) | refine J.nil ?_ | (refine J.o 4 ?_; first | refine J.lT default hΓ ?_ | refine J.lR hΓ ?_) | (refine J.o 3 ?_; first | refine J.iJ hΓ ?_ | refine J.ev' hΓ ?_) | (refine J.o 1 ?_; first | refine J.ad ?_) | (refine J.o 6 ?_; refine J.bx (fun _ => ?_)) | (refine J.o 10 ?_; refine J.ev' hΓ ?_) | (refine J.o 11 ?_; refine J.ev' hΓ ?_)))
        | (first | refine JC.seq ?_ | refine JC.region ?_ | refine JC.block ?_ | refine JC.ret ?_ | refine JC.exit ?_ | refine JC.skip ?_ | refine thenK.nn ?_ | refine thenK.x ?_ | refine blockK.nn ?_ | refine blockK.hit rfl ?_ | refine JC.condT rfl ?_ | refine JC.condF rfl ?_ | (refine JC.cond rfl (fun hc => ?_) (fun hc => ?_) <;> ((try simp only [decide_eq_true_eq, decide_eq_false_iff_not, beq_iff_eq, beq_eq_false_iff_ne, bne_iff_ne, bne_eq_false_iff_eq, Bool.not_eq_true', Bool.not_eq_false', Bool.not_eq_true, Bool.not_eq_false] at hc) <;> first | (first | (exact absurd rfl hc) | (exfalso; omega) | (exact absurd (hc.symm.trans (by assumption : _ = false)) (by decide)) | (exact absurd (hc.symm.trans (by assumption : _ = true)) (by decide))) | skip)) | refine drawK.nn ?_ | refine loopK.x ?_)
        | ((first | refine JC.drawO [(1,0),(0,1),(0,2),(0,3),(1,4),(1,5)] (by decide +kernel) (by decide +kernel) ?_))
        | fail
      all_goals first | (exfalso; omega) | skip
      refine loopK.nn (m - 1) (by omega) (by repeat (first | refine Ag.upd rfl ?_ | exact Ag.hv)) ⟨k + 1, ?_, ?_, by omega, rfl⟩
      · show Value.int .i64 _ = _; congr 1
      · show Value.int .i64 _ = _; rw [he]
  ·
    repeat' first
      | (refine J.isJ ?_; first | (fail) | (first | (refine J.o 0 ?_; refine J.ev' hΓ ?_) | refine J.nil ?_ | (refine J.o 4 ?_; first | refine J.lT default hΓ ?_ | refine J.lR hΓ ?_) | (refine J.o 3 ?_; first | refine J.iJ hΓ ?_ | refine J.ev' hΓ ?_) | (refine J.o 1 ?_; first | refine J.ad ?_) | (refine J.o 6 ?_; refine J.bx (fun _ => ?_)) | (refine J.o 10 ?_; refine J.ev' hΓ ?_) | (refine J.o 11 ?_; refine J.ev' hΓ ?_)))
      | (first | refine JC.seq ?_ | refine JC.region ?_ | refine JC.block ?_ | refine JC.ret ?_ | refine JC.exit ?_ | refine JC.skip ?_ | refine thenK.nn ?_ | refine thenK.x ?_ | refine blockK.nn ?_ | refine blockK.hit rfl ?_ | refine JC.condT rfl ?_ | refine JC.condF rfl ?_ | (refine JC.cond rfl (fun hc => ?_) (fun hc => ?_) <;> ((try simp only [decide_eq_true_eq, decide_eq_false_iff_not, beq_iff_eq, beq_eq_false_iff_ne, bne_iff_ne, bne_eq_false_iff_eq, Bool.not_eq_true', Bool.not_eq_false', Bool.not_eq_true, Bool.not_eq_false] at hc) <;> first | (first | (exact absurd rfl hc) | (exfalso; omega) | (exact absurd (hc.symm.trans (by assumption : _ = false)) (by decide)) | (exact absurd (hc.symm.trans (by assumption : _ = true)) (by decide))) | skip)) | refine drawK.nn ?_ | refine loopK.x ?_)
      | (fail)
      | fail
    all_goals first | (exfalso; omega) | skip
    obtain rfl : k = l.length := by omega
    all_goals (refine ret1f rfl rfl rfl (fun w1 hw => ⟨rfl, hw.below⟩))
end Go.Proofs.Ythnhijdfcmcnhaa
namespace Go.Proofs.Ythnhijdfcmcnhaa
open Go Go.Cx Go.RowKit
set_option linter.unusedVariables false
set_option linter.unusedSimpArgs false
set_option maxHeartbeats 4000000
attribute [local irreducible] J JC thenK blockK loopK drawK retK QW Qt pel List.set Calls
open Go.Maps Go.Lib
set_option maxRecDepth 8000
attribute [local irreducible] JE Br eK0 eK3 brK pc
structure OpT where
  k : Nat
  x : Int
  y : Int
  z : Int
instance : Inhabited OpT := ⟨⟨0, 0, 0, 0⟩⟩
def encOp (o : OpT) : List Value := [.int .u8 (o.k : Int), .int .i64 o.x, .int .i64 o.y, .int .i64 o.z]
def okOp (o : OpT) : Prop := o.k < 256 ∧ (-9223372036854775808 ≤ o.x ∧ o.x ≤ 9223372036854775807)
theorem brE (K : KS) (b : Nat) (s : SS) (x hO hP hA hF hI : Heap) (M : List Heap) : (x :: (sF K b s ++ (hO :: hP :: hA :: hF :: hI :: M))).Perm (sF K b s ++ (hO :: hP :: hA :: hF :: hI :: x :: M)) := by
  have e1 : sF K b s ++ (hO :: hP :: hA :: hF :: hI :: x :: M) = (sF K b s ++ [hO, hP, hA, hF, hI]) ++ x :: M := by simp
  have e2 : sF K b s ++ (hO :: hP :: hA :: hF :: hI :: M) = (sF K b s ++ [hO, hP, hA, hF, hI]) ++ M := by simp
  rw [e1, e2]
  exact List.perm_middle.symm
def runO (b5 b0 : Nat) (aA : Option Addr) (nA cA : Nat) (aF : Option Addr) (nF cF : Nat) : Heap := [(b5, .cells ⟨[.pointer (some ⟨b0, 0, none⟩), .slice aA nA cA, .slice aF nF cF, .bool false]⟩ 59 (0, 0))]
def scrO (b2 : Nat) (a aL : Option Addr) (n c m cL : Nat) : Heap := [(b2, .cells ⟨[.slice a n c, .slice aL m cL]⟩ 56 (0, 0))]
def setO2 (b3 : Nat) (x : Nat × Nat) : Heap := [(b3, .cells ⟨[.int .u64 (x.1 : Int), .int .u64 (x.2 : Int)]⟩ 44 (0, 0))]
set_option maxHeartbeats 16000000 in
theorem evals_any (l : List Int) (a : Option Addr) (c : Nat) (h : Heap) (hs : SlT encI 1 a l h) (ops : List OpT) (aL : Option Addr) (cL : Nat) (hL : Heap) (hsL : SlT encOp 4 aL ops hL) (hop : ∀ o ∈ ops, okOp o) (x : Nat × Nat) (hx : okS x) (w : World) (hw1 : Holds (h ++ hL) w) :
    Calls Try.prog 7 #[.agg ⟨[.slice a l.length c, .slice aL ops.length cL]⟩, sv x] w fun e w' => e = .returned (.bool true) ∧ Below w.heap.size w w' := by
  have q0 : ∀ L, RdH (h ++ hL) L h := fun L => RdH.old fun _ hh => List.mem_append_left _ hh
  have q1 : ∀ L, RdH (h ++ hL) L hL := fun L => RdH.old fun _ hh => List.mem_append_right _ hh
  have cL2 := fun w hw => light_any l a aL c ops.length cL h hs w hw
  by_cases hli : 0 < l.length ∧ l.length ≤ 6 ∧ ops.length ≤ 30 ∧ okOrd l
  · rw [decide_eq_true hli] at cL2
    obtain ⟨hn0, h6, h30, ho⟩ := hli
    have h8 : l.length ≤ 8 := by omega
    have h2n : 2 ^ l.length ≤ 2 ^ 6 := Nat.pow_le_pow_right (by omega) (by omega)
    have hidx := (idxQ_ok (asgS l x) l.length l.length (Nat.le_refl _)).1
    refine calls_of_JC (R := (h ++ hL)) Try.func7 Try.ntmps7 rfl rfl (hw1) ?_
    refine JC.seq ?_
    refine JC.region ?_
    refine J.isJ ?_
    refine J.o 6 ?_
    refine J.bx (fun b2 => ?_)
    refine J.isJ ?_
    refine J.o 6 ?_
    refine J.bx (fun b3 => ?_)
    repeat' first
      | (refine J.isJ ?_; first | (first | (refine J.fc 33 ?_; refine J.call0 eLight rfl rfl (fun w hw => cL2 w (hw.rdH (q0 _))) ?_) | (refine J.fc 34 ?_; refine J.callx eBegin rfl rfl (fun w hw => begin_any l a c h hs ho h8 q0 hw) ?_; rintro _ _ ⟨b0, K, s, A, vs, aA, aF, cA, cF, hO, hP, hA, hF, hI, rfl, rfl, po, st, hAl, hsl⟩) | (refine J.o 7 ?_; refine J.al hΓ (fun b5 => ?_))) | (first | (refine J.o 0 ?_; refine J.ev' hΓ ?_) | refine J.nil ?_ | refine J.kd ?_ | (refine J.o 4 ?_; first | refine J.lT default hΓ ?_ | refine J.lR hΓ ?_) | (refine J.o 3 ?_; first | refine J.iJ hΓ ?_ | refine J.ev' hΓ ?_) | (refine J.o 1 ?_; first | refine J.ad ?_) | (refine J.o 5 ?_; first | refine J.t0 hΓ ?_) | (refine J.o 6 ?_; refine J.bx (fun _ => ?_)) | (refine J.o 7 ?_; refine J.al hΓ (fun _ => ?_)) | (refine J.o 10 ?_; refine J.ev' hΓ ?_) | (refine J.o 11 ?_; refine J.ev' hΓ ?_)) | ((fail_if_success refine J.wt ?_); refine J.gc rfl rfl (fun hc => ?_) (fun hc => ?_) <;> ((try simp only [decide_eq_true_eq, decide_eq_false_iff_not, beq_iff_eq, beq_eq_false_iff_ne, bne_iff_ne, bne_eq_false_iff_eq, Bool.not_eq_true', Bool.not_eq_false', Bool.not_eq_true, Bool.not_eq_false] at hc) <;> first | (first | (exact absurd rfl hc) | (exfalso; omega) | (exact absurd (hc.symm.trans (by assumption : _ = false)) (by decide)) | (exact absurd (hc.symm.trans (by assumption : _ = true)) (by decide))) | skip)))
      | (first | refine JC.seq ?_ | refine JC.region ?_ | refine JC.block ?_ | refine JC.ret ?_ | refine JC.exit ?_ | refine JC.skip ?_ | refine thenK.nn ?_ | refine thenK.r ?_ | refine thenK.x ?_ | refine blockK.nn ?_ | refine blockK.hit rfl ?_ | refine JC.condT rfl ?_ | refine JC.condF rfl ?_ | (refine JC.cond rfl (fun hc => ?_) (fun hc => ?_) <;> ((try simp only [decide_eq_true_eq, decide_eq_false_iff_not, beq_iff_eq, beq_eq_false_iff_ne, bne_iff_ne, bne_eq_false_iff_eq, Bool.not_eq_true', Bool.not_eq_false', Bool.not_eq_true, Bool.not_eq_false] at hc) <;> first | (first | (exact absurd rfl hc) | (exfalso; omega) | (exact absurd (hc.symm.trans (by assumption : _ = false)) (by decide)) | (exact absurd (hc.symm.trans (by assumption : _ = true)) (by decide))) | skip)) | refine drawK.nn ?_ | refine loopK.x ?_)
      | (fail)
      | fail
    all_goals first | (exfalso; omega) | skip
    refine JC.perm (brE K b0 s _ hO hP hA hF hI _) ?_
    refine JC.loop (fun i => i == 6 || Nat.ble 16 i) (fun m g L' => ∃ i s A vs aA aF cA cF hA hF hI, g 6 = .int .i64 ((i : Nat) : Int) ∧ i + m = ops.length ∧ RunS l.length K s A vs aA aF cA cF hA hF hI ∧ A.length ≤ 2 + i ∧ s.ns.length ≤ 2 + i * 2100 ∧ L' = sF K b0 s ++ (hO :: hP :: hA :: hF :: hI :: runO b5 b0 aA (natI A).length cA aF vs.length cF :: setO2 b3 x :: scrO b2 a aL l.length c ops.length cL :: [])) ops.length ⟨0, s, A, vs, aA, aF, cA, cF, hA, hF, hI, rfl, by omega, st, by omega, by omega, rfl⟩ ?_
    clear st hAl hsl
    rintro m g L' ⟨i, s, A, vs, aA, aF, cA, cF, hA, hF, hI, e6, him, st, hAl, hsl, rfl⟩
    refine JC.pin 6 e6 ?_
    unfold runO setO2 scrO
    rcases Nat.lt_or_ge i ops.length with hlt | hge
    ·
      have hoi := hop _ (mem_g ops i hlt)
      repeat' first
        | (refine J.isJ ?_; first | (first | (refine J.o 3 ?_; refine J.iJ hΓ ?_ (hs := hsL)) | (refine J.o 4 ?_; first | refine J.lR hΓ ?_ (hr := Rd.app _ Rd.hd.tl.tl.tl.tl.tl) | refine J.lR hΓ ?_ (hr := Rd.app _ Rd.hd.tl.tl.tl.tl.tl.tl.tl) | refine J.lT default hΓ ?_ (hs := hsL) (hr := q1 _)) | (refine J.fc 35 ?_; refine J.callx eDo rfl rfl (fun w hw => do_any st h6 hn0 po (by omega) (by omega) a c h hs (ops.getD i default).k hoi.1 (ops.getD i default).x (ops.getD i default).y (ops.getD i default).z hoi.2 q0 hw) ?_; rintro _ _ ⟨s1, A1, vs1, aA1, aF1, cA1, cF1, hA1, hF1, hI1, rfl, rfl, st1, hAl1, hsl1⟩) | (refine J.o 5 ?_; refine J.perm (brE _ _ _ _ _ _ _ _ _ _).symm ?_; refine J.t0 hΓ ?_)) | (first | (refine J.o 0 ?_; refine J.ev' hΓ ?_) | refine J.nil ?_ | refine J.kd ?_ | (refine J.o 4 ?_; first | refine J.lT default hΓ ?_ | refine J.lR hΓ ?_) | (refine J.o 3 ?_; first | refine J.iJ hΓ ?_ | refine J.ev' hΓ ?_) | (refine J.o 1 ?_; first | refine J.ad ?_) | (refine J.o 5 ?_; first | refine J.t0 hΓ ?_) | (refine J.o 6 ?_; refine J.bx (fun _ => ?_)) | (refine J.o 7 ?_; refine J.al hΓ (fun _ => ?_)) | (refine J.o 10 ?_; refine J.ev' hΓ ?_) | (refine J.o 11 ?_; refine J.ev' hΓ ?_)) | ((fail_if_success refine J.wt ?_); refine J.gc rfl rfl (fun hc => ?_) (fun hc => ?_) <;> ((try simp only [decide_eq_true_eq, decide_eq_false_iff_not, beq_iff_eq, beq_eq_false_iff_ne, bne_iff_ne, bne_eq_false_iff_eq, Bool.not_eq_true', Bool.not_eq_false', Bool.not_eq_true, Bool.not_eq_false] at hc) <;> first | (first | (exact absurd rfl hc) | (exfalso; omega) | (exact absurd (hc.symm.trans (by assumption : _ = false)) (by decide)) | (exact absurd (hc.symm.trans (by assumption : _ = true)) (by decide))) | skip)))
        | (first | refine JC.seq ?_ | refine JC.region ?_ | refine JC.block ?_ | refine JC.ret ?_ | refine JC.exit ?_ | refine JC.skip ?_ | refine thenK.nn ?_ | refine thenK.r ?_ | refine thenK.x ?_ | refine blockK.nn ?_ | refine blockK.hit rfl ?_ | refine JC.condT rfl ?_ | refine JC.condF rfl ?_ | (refine JC.cond rfl (fun hc => ?_) (fun hc => ?_) <;> ((try simp only [decide_eq_true_eq, decide_eq_false_iff_not, beq_iff_eq, beq_eq_false_iff_ne, bne_iff_ne, bne_eq_false_iff_eq, Bool.not_eq_true', Bool.not_eq_false', Bool.not_eq_true, Bool.not_eq_false] at hc) <;> first | (first | (exact absurd rfl hc) | (exfalso; omega) | (exact absurd (hc.symm.trans (by assumption : _ = false)) (by decide)) | (exact absurd (hc.symm.trans (by assumption : _ = true)) (by decide))) | skip)) | refine drawK.nn ?_ | refine loopK.x ?_)
        | ((refine JC.drawO [(1,0),(0,1),(1,2),(0,3),(1,4),(0,5),(0,6),(1,7),(2,8),(2,9)] (by decide +kernel) (by decide +kernel) ?_))
        | fail
      all_goals first | (exfalso; omega) | skip
      refine loopK.np (m - 1) [] _ (by omega) (by repeat (first | refine Ag.upd rfl ?_ | exact Ag.hv)) (brE K b0 s1 _ hO hP hA1 hF1 hI1 _) ⟨i + 1, s1, A1, vs1, aA1, aF1, cA1, cF1, hA1, hF1, hI1, ?_, by omega, st1, by omega, by omega, rfl⟩
      show Value.int .i64 _ = _; congr 1
    ·
      have hnl := natI_len A
      have tw := st.two
      repeat' first
        | (refine J.isJ ?_; first | (first | (refine J.o 4 ?_; first | refine J.lR hΓ ?_ (hr := Rd.app _ Rd.hd.tl.tl.tl.tl.tl) | refine J.lR hΓ ?_ (hr := Rd.app _ Rd.hd.tl.tl.tl.tl.tl.tl) | refine J.lR hΓ ?_ (hr := Rd.app _ Rd.hd.tl.tl.tl.tl.tl.tl.tl)) | (refine J.fc 36 ?_; refine J.call0 eIndex rfl rfl (fun w hw => index_any l a c h hs h8 x hx w (hw.rdH (q0 _))) ?_)) | (first | (refine J.o 0 ?_; refine J.ev' hΓ ?_) | refine J.nil ?_ | refine J.kd ?_ | (refine J.o 4 ?_; first | refine J.lT default hΓ ?_ | refine J.lR hΓ ?_) | (refine J.o 3 ?_; first | refine J.iJ hΓ ?_ | refine J.ev' hΓ ?_) | (refine J.o 1 ?_; first | refine J.ad ?_) | (refine J.o 5 ?_; first | refine J.t0 hΓ ?_) | (refine J.o 6 ?_; refine J.bx (fun _ => ?_)) | (refine J.o 7 ?_; refine J.al hΓ (fun _ => ?_)) | (refine J.o 10 ?_; refine J.ev' hΓ ?_) | (refine J.o 11 ?_; refine J.ev' hΓ ?_)) | ((fail_if_success refine J.wt ?_); refine J.gc rfl rfl (fun hc => ?_) (fun hc => ?_) <;> ((try simp only [decide_eq_true_eq, decide_eq_false_iff_not, beq_iff_eq, beq_eq_false_iff_ne, bne_iff_ne, bne_eq_false_iff_eq, Bool.not_eq_true', Bool.not_eq_false', Bool.not_eq_true, Bool.not_eq_false] at hc) <;> first | (first | (exact absurd rfl hc) | (exfalso; omega) | (exact absurd (hc.symm.trans (by assumption : _ = false)) (by decide)) | (exact absurd (hc.symm.trans (by assumption : _ = true)) (by decide))) | skip)))
        | (first | refine JC.seq ?_ | refine JC.region ?_ | refine JC.block ?_ | refine JC.ret ?_ | refine JC.exit ?_ | refine JC.skip ?_ | refine thenK.nn ?_ | refine thenK.r ?_ | refine thenK.x ?_ | refine blockK.nn ?_ | refine blockK.hit rfl ?_ | refine JC.condT rfl ?_ | refine JC.condF rfl ?_ | (refine JC.cond rfl (fun hc => ?_) (fun hc => ?_) <;> ((try simp only [decide_eq_true_eq, decide_eq_false_iff_not, beq_iff_eq, beq_eq_false_iff_ne, bne_iff_ne, bne_eq_false_iff_eq, Bool.not_eq_true', Bool.not_eq_false', Bool.not_eq_true, Bool.not_eq_false] at hc) <;> first | (first | (exact absurd rfl hc) | (exfalso; omega) | (exact absurd (hc.symm.trans (by assumption : _ = false)) (by decide)) | (exact absurd (hc.symm.trans (by assumption : _ = true)) (by decide))) | skip)) | refine drawK.nn ?_ | refine loopK.x ?_)
        | (fail)
        | fail
      all_goals first | (exfalso; omega) | skip
      refine JC.loop (fun i => i == 8 || Nat.ble 43 i) (fun m g L' => ∃ q, g 8 = .int .i64 ((q : Nat) : Int) ∧ q + m = A.length ∧ L' = _) A.length ⟨0, rfl, by omega, rfl⟩ ?_
      rintro m g L' ⟨q, e8, hqm, rfl⟩
      refine JC.pin 8 e8 ?_
      rcases Nat.lt_or_ge q A.length with hq | hq
      ·
        have hkn := st.kn.at_ _ _ (zipK2_mem st.len hq)
        have hvi := st.i _ (mem_g vs q (by have := st.len; omega))
        have hvl := st.len
        have htl := tabF_len l.length (vs.getD q default).g
        obtain ⟨bv, hev⟩ : ∃ bv, fn l.length s.ns (A.getD q 0) (asgS l x) = bv := ⟨_, rfl⟩
        have htv : (tabF l.length (vs.getD q default).g).getD (idxQ (asgS l x) l.length l.length) default = bv := by
          rw [tabF_get _ _ hidx, asg_idx, ← hkn.2, hev]
        have cE := fun w hw => Eval_any st.kn.so po b0 (A.getD q 0) hkn.1 x hx w hw
        rw [hev] at cE
        cases bv
        all_goals
          repeat' first
            | (refine J.isJ ?_; first | (first | (refine J.o 3 ?_; first | refine J.iJ hΓ ?_ (hs := st.oA.sl) | refine J.iJ hΓ ?_ (hs := st.oF.sl) | refine J.iJ hΓ ?_ (hs := hvi)) | (refine J.o 4 ?_; first | refine J.lR hΓ ?_ (hr := Rd.app _ Rd.hd.tl.tl.tl.tl.tl) | refine J.lR hΓ ?_ (hr := Rd.app _ Rd.hd.tl.tl.tl.tl.tl.tl) | (refine J.lT default hΓ ?_ (hs := st.oA.sl) (hr := rdApp _ RdH.hd.tl.tl); rw [natI_get A hq]) | refine J.lT default hΓ ?_ (hs := st.oF.sl) (hr := rdApp _ RdH.hd.tl.tl.tl) | (refine J.lT default hΓ ?_ (hs := hvi) (hr := rdApp _ RdH.hd.tl.tl.tl.tl); rw [htv])) | (refine J.fc 32 ?_; refine J.call0 eEvalS rfl rfl (fun w hw => cE w (stR_of hw)) ?_)) | (first | (refine J.o 0 ?_; refine J.ev' hΓ ?_) | refine J.nil ?_ | refine J.kd ?_ | (refine J.o 4 ?_; first | refine J.lT default hΓ ?_ | refine J.lR hΓ ?_) | (refine J.o 3 ?_; first | refine J.iJ hΓ ?_ | refine J.ev' hΓ ?_) | (refine J.o 1 ?_; first | refine J.ad ?_) | (refine J.o 5 ?_; first | refine J.t0 hΓ ?_) | (refine J.o 6 ?_; refine J.bx (fun _ => ?_)) | (refine J.o 7 ?_; refine J.al hΓ (fun _ => ?_)) | (refine J.o 10 ?_; refine J.ev' hΓ ?_) | (refine J.o 11 ?_; refine J.ev' hΓ ?_)) | ((fail_if_success refine J.wt ?_); refine J.gc rfl rfl (fun hc => ?_) (fun hc => ?_) <;> ((try simp only [decide_eq_true_eq, decide_eq_false_iff_not, beq_iff_eq, beq_eq_false_iff_ne, bne_iff_ne, bne_eq_false_iff_eq, Bool.not_eq_true', Bool.not_eq_false', Bool.not_eq_true, Bool.not_eq_false] at hc) <;> first | (first | (exact absurd rfl hc) | (exfalso; omega) | (exact absurd (hc.symm.trans (by assumption : _ = false)) (by decide)) | (exact absurd (hc.symm.trans (by assumption : _ = true)) (by decide))) | skip)))
            | (first | refine JC.seq ?_ | refine JC.region ?_ | refine JC.block ?_ | refine JC.ret ?_ | refine JC.exit ?_ | refine JC.skip ?_ | refine thenK.nn ?_ | refine thenK.r ?_ | refine thenK.x ?_ | refine blockK.nn ?_ | refine blockK.hit rfl ?_ | refine JC.condT rfl ?_ | refine JC.condF rfl ?_ | (refine JC.cond rfl (fun hc => ?_) (fun hc => ?_) <;> ((try simp only [decide_eq_true_eq, decide_eq_false_iff_not, beq_iff_eq, beq_eq_false_iff_ne, bne_iff_ne, bne_eq_false_iff_eq, Bool.not_eq_true', Bool.not_eq_false', Bool.not_eq_true, Bool.not_eq_false] at hc) <;> first | (first | (exact absurd rfl hc) | (exfalso; omega) | (exact absurd (hc.symm.trans (by assumption : _ = false)) (by decide)) | (exact absurd (hc.symm.trans (by assumption : _ = true)) (by decide))) | skip)) | refine drawK.nn ?_ | refine loopK.x ?_)
            | ((refine JC.drawW [] [] (by kernel_rfl) (by kernel_rfl) ?_))
            | fail
          all_goals first | (exfalso; omega) | skip
          refine loopK.nn (m - 1) (by omega) (by repeat (first | refine Ag.upd rfl ?_ | exact Ag.hv)) ⟨q + 1, ?_, by omega, rfl⟩
          show Value.int .i64 _ = _; congr 1
      ·
        repeat' first
          | (refine J.isJ ?_; first | (first | (refine J.o 4 ?_; refine J.lR hΓ ?_ (hr := Rd.app _ Rd.hd.tl.tl.tl.tl.tl)) | (refine J.fc 13 ?_; refine J.call0 eWorks30 rfl rfl (fun w hw => works_any w) ?_)) | (first | (refine J.o 0 ?_; refine J.ev' hΓ ?_) | refine J.nil ?_ | refine J.kd ?_ | (refine J.o 4 ?_; first | refine J.lT default hΓ ?_ | refine J.lR hΓ ?_) | (refine J.o 3 ?_; first | refine J.iJ hΓ ?_ | refine J.ev' hΓ ?_) | (refine J.o 1 ?_; first | refine J.ad ?_) | (refine J.o 5 ?_; first | refine J.t0 hΓ ?_) | (refine J.o 6 ?_; refine J.bx (fun _ => ?_)) | (refine J.o 7 ?_; refine J.al hΓ (fun _ => ?_)) | (refine J.o 10 ?_; refine J.ev' hΓ ?_) | (refine J.o 11 ?_; refine J.ev' hΓ ?_)) | ((fail_if_success refine J.wt ?_); refine J.gc rfl rfl (fun hc => ?_) (fun hc => ?_) <;> ((try simp only [decide_eq_true_eq, decide_eq_false_iff_not, beq_iff_eq, beq_eq_false_iff_ne, bne_iff_ne, bne_eq_false_iff_eq, Bool.not_eq_true', Bool.not_eq_false', Bool.not_eq_true, Bool.not_eq_false] at hc) <;> first | (first | (exact absurd rfl hc) | (exfalso; omega) | (exact absurd (hc.symm.trans (by assumption : _ = false)) (by decide)) | (exact absurd (hc.symm.trans (by assumption : _ = true)) (by decide))) | skip)))
          | (first | refine JC.seq ?_ | refine JC.region ?_ | refine JC.block ?_ | refine JC.ret ?_ | refine JC.exit ?_ | refine JC.skip ?_ | refine thenK.nn ?_ | refine thenK.r ?_ | refine thenK.x ?_ | refine blockK.nn ?_ | refine blockK.hit rfl ?_ | refine JC.condT rfl ?_ | refine JC.condF rfl ?_ | (refine JC.cond rfl (fun hc => ?_) (fun hc => ?_) <;> ((try simp only [decide_eq_true_eq, decide_eq_false_iff_not, beq_iff_eq, beq_eq_false_iff_ne, bne_iff_ne, bne_eq_false_iff_eq, Bool.not_eq_true', Bool.not_eq_false', Bool.not_eq_true, Bool.not_eq_false] at hc) <;> first | (first | (exact absurd rfl hc) | (exfalso; omega) | (exact absurd (hc.symm.trans (by assumption : _ = false)) (by decide)) | (exact absurd (hc.symm.trans (by assumption : _ = true)) (by decide))) | skip)) | refine drawK.nn ?_ | refine loopK.x ?_)
          | (fail)
          | fail
        all_goals first | (exfalso; omega) | skip
        all_goals (refine ret1f rfl rfl rfl (fun w1 hw => ⟨rfl, hw.below⟩))
  · rw [decide_eq_false hli] at cL2
    refine calls_of_JC (R := (h ++ hL)) Try.func7 Try.ntmps7 rfl rfl (hw1) ?_
    repeat' first
      | (refine J.isJ ?_; first | (first | (refine J.fc 33 ?_; refine J.call0 eLight rfl rfl (fun w hw => cL2 w (hw.rdH (q0 _))) ?_) | (refine J.fc 13 ?_; refine J.call0 eWorks30 rfl rfl (fun w hw => works_any w) ?_)) | (first | (refine J.o 0 ?_; refine J.ev' hΓ ?_) | refine J.nil ?_ | refine J.kd ?_ | (refine J.o 4 ?_; first | refine J.lT default hΓ ?_ | refine J.lR hΓ ?_) | (refine J.o 3 ?_; first | refine J.iJ hΓ ?_ | refine J.ev' hΓ ?_) | (refine J.o 1 ?_; first | refine J.ad ?_) | (refine J.o 5 ?_; first | refine J.t0 hΓ ?_) | (refine J.o 6 ?_; refine J.bx (fun _ => ?_)) | (refine J.o 7 ?_; refine J.al hΓ (fun _ => ?_)) | (refine J.o 10 ?_; refine J.ev' hΓ ?_) | (refine J.o 11 ?_; refine J.ev' hΓ ?_)) | ((fail_if_success refine J.wt ?_); refine J.gc rfl rfl (fun hc => ?_) (fun hc => ?_) <;> ((try simp only [decide_eq_true_eq, decide_eq_false_iff_not, beq_iff_eq, beq_eq_false_iff_ne, bne_iff_ne, bne_eq_false_iff_eq, Bool.not_eq_true', Bool.not_eq_false', Bool.not_eq_true, Bool.not_eq_false] at hc) <;> first | (first | (exact absurd rfl hc) | (exfalso; omega) | (exact absurd (hc.symm.trans (by assumption : _ = false)) (by decide)) | (exact absurd (hc.symm.trans (by assumption : _ = true)) (by decide))) | skip)))
      | (first | refine JC.seq ?_ | refine JC.region ?_ | refine JC.block ?_ | refine JC.ret ?_ | refine JC.exit ?_ | refine JC.skip ?_ | refine thenK.nn ?_ | refine thenK.r ?_ | refine thenK.x ?_ | refine blockK.nn ?_ | refine blockK.hit rfl ?_ | refine JC.condT rfl ?_ | refine JC.condF rfl ?_ | (refine JC.cond rfl (fun hc => ?_) (fun hc => ?_) <;> ((try simp only [decide_eq_true_eq, decide_eq_false_iff_not, beq_iff_eq, beq_eq_false_iff_ne, bne_iff_ne, bne_eq_false_iff_eq, Bool.not_eq_true', Bool.not_eq_false', Bool.not_eq_true, Bool.not_eq_false] at hc) <;> first | (first | (exact absurd rfl hc) | (exfalso; omega) | (exact absurd (hc.symm.trans (by assumption : _ = false)) (by decide)) | (exact absurd (hc.symm.trans (by assumption : _ = true)) (by decide))) | skip)) | refine drawK.nn ?_ | refine loopK.x ?_)
      | (fail)
      | fail
    all_goals first | (exfalso; omega) | skip
    all_goals (refine ret1f rfl rfl rfl (fun w1 hw => ⟨rfl, hw.below⟩))
end Go.Proofs.Ythnhijdfcmcnhaa
namespace Go.Proofs.Ythnhijdfcmcnhaa
open Go Go.Cx Go.RowKit
set_option linter.unusedVariables false
set_option linter.unusedSimpArgs false
set_option maxHeartbeats 4000000
attribute [local irreducible] J JC thenK blockK loopK drawK retK QW Qt pel List.set Calls
theorem c_u8 : Try.prog.cellsOf 5 = 1 := by kernel_rfl
theorem c_ints : Try.prog.cellsOf 22 = 1 := by kernel_rfl
theorem c_op : Try.prog.cellsOf 63 = 4 := by kernel_rfl
theorem c_ops : Try.prog.cellsOf 54 = 1 := by kernel_rfl
theorem c_script : Try.prog.cellsOf 56 = 2 := by kernel_rfl
theorem reads_op (W : World) : Reads Try.prog W 63 encOp okOp := by
  intro A ec base spare held fuel cs x h
  obtain ⟨hl, hp⟩ := reads_parts Try.underlying63 h
  rw [c_op] at hl
  obtain ⟨k, e0, g0⟩ := hp 0 0 rfl c_u8 (reads_int Try.underlying5)
  obtain ⟨x1, e1, g1⟩ := hp 1 1 rfl c_int (reads_int Try.underlying3)
  obtain ⟨x2, e2, g2⟩ := hp 2 2 rfl c_int (reads_int Try.underlying3)
  obtain ⟨x3, e3, g3⟩ := hp 3 3 rfl c_int (reads_int Try.underlying3)
  obtain ⟨k', rfl, hk⟩ := u8_wf g0
  clear h hp
  match cs, hl with
  | [c0, c1, c2, c3], _ =>
    simp at e0 e1 e2 e3
    subst e0; subst e1; subst e2; subst e3
    exact ⟨⟨k', x1, x2, x3⟩, rfl, hk, i64_wf g1⟩
structure ScV where
  a : Option Addr
  c : Nat
  l : List Int
  aL : Option Addr
  cL : Nat
  ops : List OpT
def encSc (v : ScV) : List Value := [.slice v.a v.l.length v.c, .slice v.aL v.ops.length v.cL]
structure ScIn (W : World) (v : ScV) : Prop where
  s : SlT encI 1 v.a v.l (heapOf W)
  o : SlT encOp 4 v.aL v.ops (heapOf W)
  k : ∀ o ∈ v.ops, okOp o
theorem reads_script (W : World) : Reads Try.prog W 56 encSc (ScIn W) := by
  intro A ec base spare held fuel cs x h
  obtain ⟨hl, hp⟩ := reads_parts Try.underlying56 h
  rw [c_script] at hl
  obtain ⟨l, e0, g0⟩ := hp 0 0 rfl c_ints (reads_ints W)
  obtain ⟨o, e1, g1⟩ := hp 1 1 rfl c_ops (reads_slice Try.underlying54 c_op (by decide) (fun _ => rfl) (reads_op W))
  clear h hp
  match cs, hl with
  | [c0, c1], _ =>
    simp [encSl] at e0 e1
    subst e0; subst e1
    exact ⟨⟨l.a, l.cap, l.ts, o.a, o.cap, o.ts⟩, rfl, g0.sl, g1.sl, g1.all⟩
end Go.Proofs.Ythnhijdfcmcnhaa
namespace Go.Proofs.Ythnhijdfcmcnhaa
open Go Go.Cx Go.RowKit
set_option linter.unusedVariables false
set_option linter.unusedSimpArgs false
set_option maxHeartbeats 4000000
attribute [local irreducible] J JC thenK blockK loopK drawK retK QW Qt pel List.set Calls
open Go.ChangeShapes Go.WideShapes
set_option maxRecDepth 100000 in
theorem obddEvals_lifted (os : Os) (started : os.Started) (T : Type) (enc : TypeId × Value → T) :
    ReturnsInHanded {} Try.checked os 7 .any (Rows.obddEvalsSpec.pre6 enc Try.prog Try.f7 [] false)
      (Rows.obddEvalsSpec.post enc Try.prog Try.f7 false true false false) := by
  refine returnsInHanded_of_change_sized (C := Try.checked) own started (by kernel_rfl) Try.func7
    (ChangeSpec.witness6 (enc := enc) (C := Try.checked) false ⟨#[], #[.agg #[.slice none 0 0, .slice none 0 0], .agg #[.int .u64 0, .int .u64 0]], []⟩ 8 (by kernel_rfl) (by kernel_rfl) (by kernel_rfl) (by kernel_rfl)) ?_
  intro W base args ds gs before hval0 hW _ hwt _
  have hval : ∀ (j : Nat) t v, Try.f7.params[j]? = some t → args[j]? = some v → Value.okWide Try.prog W .any base t v := hval0
  have hW' := hW
  obtain ⟨p, q, hA0, hV, rfl, hfz, hnd⟩ := hW
  have hA : DataW.TrodAll enc Try.prog W 0 (fun _ => true) true Try.f7.params.toList args.toList ds p := hA0
  rw [Try.params7] at hA hval
  obtain ⟨v0, vs0, d0, ds0, p0, q0, hargs, rfl, rfl, h0, r0⟩ := trodAll_cons hA
  obtain ⟨v1, vs1, d1, ds1, p1, q1, rfl, rfl, rfl, h1, r1⟩ := trodAll_cons r0
  obtain ⟨rfl, rfl, rfl⟩ := trodAll_nil r1
  obtain rfl : args = #[v0, v1] := by cases args; simp_all
  obtain ⟨a0, rfl, g0⟩ := arg_agg (let ⟨cs, h, _⟩ := okWide_struct Try.underlying56 (hval 0 _ v0 rfl rfl); ⟨cs, h⟩) (reads_script W) h0
  obtain ⟨a1, rfl, g1⟩ := arg_agg (okWide_arr Try.underlying44 (hval 1 _ v1 rfl rfl)) (reads_set W) h1
  refine (evals_any a0.l a0.a a0.c (heapOf W) g0.s a0.ops a0.aL a0.cL (heapOf W) g0.o g0.k a1 g1 W ((heapOf_holds W).append (heapOf_holds W))).mono fun e W' ⟨he, bel⟩ => ?_
  refine law_post laidOut Try.underlying4 rfl (by kernel_rfl) rfl ?_ hW' he bel
  intro ds hds
  match ds, hds with
  | [_, _], _ => rfl
theorem obddEvals_holds : Rows.ObddEvalsSaid :=
  OpenClaim.holds_of_wide 7 Try.f7 rfl rfl rfl rfl rfl rfl rfl ⟨rfl, rfl, rfl, rfl, rfl⟩ rfl rfl rfl rfl rfl (by kernel_rfl) Try.func7 (by kernel_rfl)
    (of_decide_eq_true (by kernel_rfl)) (by unfold Func.isWrapper; first | (rw [if_pos (by decide +kernel)]; kernel_rfl) | (rw [if_neg (by decide +kernel)]; exact ⟨rfl, rfl⟩))
    (fun os started T enc _ => obddEvals_lifted os started T enc)
#print axioms obddEvals_holds
end Go.Proofs.Ythnhijdfcmcnhaa
