/- inputs. -/
import Derived.Test.YtncnpmgohhgmfaaDoorNh
namespace Go.Proofs.YtncnpmgohhgmfaaDoor
open Go Go.Cx Go.RowKit
set_option linter.unusedVariables false
set_option linter.unusedSimpArgs false
set_option maxHeartbeats 4000000
attribute [local irreducible] J JC thenK blockK loopK roundK drawK retK QW Qt pel List.set Calls
attribute [local irreducible] JE Br eK0 eK2 eK3 brK
theorem eInp : Entr Tryd.prog 42 := Entr.of Tryd.func42 rfl rfl
/-- the nodes of a builder: small numbers, inputs behind themselves -/
structure OkB (vs : List NV) : Prop where
  ok : ∀ v, v ∈ vs → OkV v
  rng : ∀ v, v ∈ vs → ∀ i, i ∈ v.l → 0 ≤ i ∧ i < vs.length
theorem addS_out (B : List PN) (drop end_ : Int) (s : St) (i : Int) : (addS B drop end_ s i).out.length ≤ s.out.length + 1 := by
  show (if _ then s.out ++ [i] else s.out).length ≤ _
  split
  · rw [List.length_append]; exact Nat.le_refl _
  · omega
theorem foldS_out (B : List PN) (drop end_ : Int) : ∀ (l : List Int) (s : St), (l.foldl (addS B drop end_) s).out.length ≤ s.out.length + l.length
  | [], s => Nat.le_refl _
  | x :: l, s => by
    have h1 := foldS_out B drop end_ l (addS B drop end_ s x)
    have h2 := addS_out B drop end_ s x
    rw [List.foldl_cons, List.length_cons]
    omega
theorem inP_of (vs : List NV) (k : Nat) : inP (vs.map pnV) (k : Int) = (vs.getD k default).l := by
  unfold inP; rw [Int.toNat_natCast, getD_map]; rfl
theorem kindP_of (vs : List NV) (k : Nat) : kindP (vs.map pnV) (k : Int) = (vs.getD k default).kind := by
  unfold kindP; rw [Int.toNat_natCast, getD_map]; rfl
theorem litP_of (vs : List NV) (k : Nat) : litP (vs.map pnV) (k : Int) = (vs.getD k default).lit := by
  unfold litP; rw [Int.toNat_natCast, getD_map]; rfl
def stW (vs : List NV) (kind drop end_ : Int) (l : List Int) : St := (flatP (vs.map pnV) kind l).foldl (addS (vs.map pnV) drop end_) ⟨[], [], true⟩
theorem flat_len (vs : List NV) (kind : Int) (hv : ∀ v, v ∈ vs → v.l.length ≤ 1000000) : ∀ (l : List Int), (∀ i, i ∈ l → 0 ≤ i ∧ i < vs.length) → (flatP (vs.map pnV) kind l).length ≤ 1000000 * l.length
  | [], _ => by simp [flatP]
  | x :: l, h => by
    have ih := flat_len vs kind hv l fun i hi => h i (List.mem_cons_of_mem _ hi)
    have hx := h x List.mem_cons_self
    obtain ⟨k, rfl⟩ : ∃ k : Nat, x = (k : Int) := ⟨x.toNat, by omega⟩
    have hm := hv _ (mem_g vs k (by omega))
    unfold flatP at ih ⊢
    rw [List.flatMap_cons, List.length_append, List.length_cons]
    split
    · rw [inP_of]; omega
    · simp only [List.length_cons, List.length_nil]; omega
theorem flat_snoc (B : List PN) (kind : Int) (l : List Int) (k : Nat) (hk : k < l.length) : flatP B kind (l.take (k + 1)) = flatP B kind (l.take k) ++ (if kindP B (l.getD k default) = kind then inP B (l.getD k default) else [l.getD k default]) := by
  unfold flatP
  rw [take_g l k hk, List.flatMap_append, List.flatMap_cons, List.flatMap_nil, List.append_nil]
set_option maxHeartbeats 16000000 in
theorem inputs_any (kind drop end_ : Int) (l : List Int) (al : Option Addr) (cl : Nat) {w0 w : World} {R : Heap} {L : List Heap} {n : Int} {b cap bm : Nat} {a : Option Addr} {vs : List NV} {ho hi hm hl : Heap} (hsl : SlT encI 1 al l hl) (rl : RdH R L hl) (ow : OwT encNV 3 40 a cap vs ho) (ins : ∀ v, v ∈ vs → SlT encI 1 v.a v.l hi) (ob : OkB vs) (hvl : vs.length ≤ 65536) (hll : l.length ≤ 1000000) (hlr : ∀ i, i ∈ l → 0 ≤ i ∧ i < vs.length) (hw : H w0 R (bL n b a vs cap bm ho hi hm ++ L) w) :
    Calls Tryd.prog 42 #[.pointer (some ⟨b, 0, none⟩), .slice al l.length cl, .int .i64 kind, .int .i64 drop, .int .i64 end_] w fun e w' => ∃ v' L', e = .returned v' ∧ H w0 R L' w' ∧ ∃ ao co hO, v' = .tuple #[.slice ao (sortS (stW vs kind drop end_ l).out).length co, .bool (stW vs kind drop end_ l).open_] ∧ L' = hO :: (bL n b a vs cap bm ho hi hm ++ L) ∧ OwT encI 1 3 ao co (sortS (stW vs kind drop end_ l).out) hO := by
  obtain ⟨okv, rng⟩ := ob
  unfold bL at hw ⊢
  simp only [List.cons_append, List.nil_append] at hw ⊢
  have hvl1 : ∀ v, v ∈ vs → v.l.length ≤ 1000000 := fun v hv => (okv v hv).n
  have hlit : ∀ v, v ∈ vs → -128 ≤ v.lit ∧ v.lit ≤ 128 := fun v hv => (okv v hv).t
  refine calls_in Tryd.func42 Tryd.ntmps42 rfl rfl (hw) ?_
  unfold bO
  repeat' first
    | (refine J.isJ ?_; first | ((refine J.o 9 ?_; refine J.mkm (fun bl => ?_))) | (first | (refine J.o 0 ?_; refine J.ev' hΓ ?_) | refine J.nil ?_ | refine J.kd ?_ | (refine J.o 4 ?_; first | refine J.e0 hΓ ?_ | refine J.lT default hΓ ?_ | refine J.e1 hΓ ?_ | refine J.e2 hΓ ?_ | refine J.lR hΓ ?_) | (refine J.o 3 ?_; first | refine J.iA hΓ ?_ | refine J.iJ hΓ ?_ | refine J.fP hΓ ?_ | refine J.iC hΓ ?_ | refine J.ev' hΓ ?_) | (refine J.o 1 ?_; first | refine J.ad ?_ | refine J.ct ?_ | refine J.sb ?_ | refine J.mu ?_ | refine J.ng ?_ | refine J.qu ?_ | refine J.rm ?_ | refine J.s1 ?_ | refine J.sr ?_ | refine J.aW ?_ | refine J.oW ?_ | refine J.nW ?_) | (refine J.o 2 ?_; refine J.cv _ hΓ ?_) | (refine J.o 5 ?_; first | refine J.t0 hΓ ?_ | refine J.t1 hΓ ?_ | refine J.t2 hΓ ?_ | refine J.tT _ default hΓ (fun _ _ => ?_) | refine J.tT1 _ default hΓ (fun _ _ => ?_) | refine J.tT2 _ default hΓ (fun _ _ => ?_) | refine J.tT3 _ default hΓ (fun _ _ => ?_)) | (refine J.o 6 ?_; refine J.bx (fun _ => ?_)) | (refine J.o 7 ?_; refine J.al hΓ (fun _ => ?_)) | (refine J.o 8 ?_; refine J.bd hΓ ?_) | (refine J.o 9 ?_; refine J.bl hΓ (fun _ => ?_)) | (refine J.o 10 ?_; first | refine J.ls hΓ ?_ | refine J.ev' hΓ ?_) | (refine J.o 11 ?_; first | refine J.eS ?_ | refine J.xS ?_ | refine J.ev' hΓ ?_ | refine J.nT hΓ ?_) | (refine J.o 12 ?_; refine J.ix hΓ ?_) | (refine J.o 13 ?_; first | refine J.sL hΓ ?_ | refine J.sH hΓ ?_) | (refine J.o 14 ?_; refine J.mf hΓ ?_) | refine J.kn ?_) | ((fail_if_success refine J.wt ?_); refine J.gc rfl rfl (fun hc => ?_) (fun hc => ?_) <;> ((try simp only [decide_eq_true_eq, decide_eq_false_iff_not, beq_iff_eq, beq_eq_false_iff_ne, bne_iff_ne, bne_eq_false_iff_eq, Bool.not_eq_true', Bool.not_eq_false', Bool.not_eq_true, Bool.not_eq_false] at hc) <;> first | (first | (exact absurd rfl hc) | (exfalso; omega) | (exact absurd (hc.symm.trans (by assumption : _ = false)) (by decide)) | (exact absurd (hc.symm.trans (by assumption : _ = true)) (by decide))) | skip)))
    | (first | refine JC.seq ?_ | refine JC.region ?_ | refine JC.block ?_ | refine JC.ret ?_ | refine JC.exit ?_ | refine JC.skip ?_ | refine thenK.nn ?_ | refine thenK.r ?_ | refine thenK.x ?_ | refine blockK.nn ?_ | refine blockK.r ?_ | refine blockK.hit rfl ?_ | refine blockK.miss rfl ?_ | refine JC.condT rfl ?_ | refine JC.condF rfl ?_ | (refine JC.cond rfl (fun hc => ?_) (fun hc => ?_) <;> ((try simp only [decide_eq_true_eq, decide_eq_false_iff_not, beq_iff_eq, beq_eq_false_iff_ne, bne_iff_ne, bne_eq_false_iff_eq, Bool.not_eq_true', Bool.not_eq_false', Bool.not_eq_true, Bool.not_eq_false] at hc) <;> first | (first | (exact absurd rfl hc) | (exfalso; omega) | (exact absurd (hc.symm.trans (by assumption : _ = false)) (by decide)) | (exact absurd (hc.symm.trans (by assumption : _ = true)) (by decide))) | skip)) | (refine JC.drawA [] (by kernel_rfl) (by kernel_rfl) ?_) | refine drawK.nn ?_ | refine roundK.nn ?_ | refine roundK.r ?_ | refine roundK.x ?_ | refine loopK.r ?_ | refine loopK.x ?_)
    | (fail)
    | fail
  all_goals first | (exfalso; omega) | skip
  rename_i n5 n8 n9 n12 n13 n14
  have rdd : AddR R ([(n9, intO end_)] :: [(n8, intO drop)] :: [(n5, ptrO b)] :: [(b, bO n a vs.length cap bm)] :: ho :: hi :: hm :: L) n5 n8 n9 n b a vs cap bm ho drop end_ := ⟨Rd.hd.tl.tl, Rd.hd.tl, Rd.hd, Rd.hd.tl.tl.tl, RdH.hd.tl.tl.tl.tl⟩
  refine JC.weak (L' := addL ⟨[], [], true⟩ n12 n13 n14 none 0 [] bl [(bl, .map ⟨[]⟩ 0)] ++ ([(n9, intO end_)] :: [(n8, intO drop)] :: [(n5, ptrO b)] :: [(b, bO n a vs.length cap bm)] :: ho :: hi :: hm :: L)) (fun w hw => H.sel (l := [_, _, _, _, _]) (M := [(n9, intO end_)] :: [(n8, intO drop)] :: [(n5, ptrO b)] :: [(b, bO n a vs.length cap bm)] :: ho :: hi :: hm :: L) hw.nilF [4, 0, 2, 3, 1]) ?_
  refine JC.gen [(2, .int .i64 kind), (5, .pointer (some ⟨n5, 0, none⟩)), (12, .pointer (some ⟨n12, 0, none⟩)), (14, .pointer (some ⟨n14, 0, none⟩)), (15, .func (.func 62) ⟨[]⟩ ⟨[.pointer (some ⟨n5, 0, none⟩), .pointer (some ⟨n9, 0, none⟩), .pointer (some ⟨n13, 0, none⟩), .pointer (some ⟨n14, 0, none⟩), .pointer (some ⟨n8, 0, none⟩), .pointer (some ⟨n12, 0, none⟩)]⟩), (22, .slice al l.length cl), (23, .int .i64 l.length), (24, .int .i64 0)] ⟨rfl, rfl, rfl, rfl, rfl, rfl, rfl, rfl, trivial⟩ (fun F => ?_)
  refine JC.loop (fun i => i == 10 || i == 11 || i == 17 || i == 19 || Nat.ble 24 i) (fun m g L' => ∃ (k : Nat) (ao : Option Addr) (co : Nat) (hO : Heap) (lm : List (Int × Bool)) (hM : Heap), g 24 = .int .i64 (k : Int) ∧ k + m = l.length ∧ AddW (stW vs kind drop end_ (l.take k)) ao co hO lm bl hM ∧ L' = addL (stW vs kind drop end_ (l.take k)) n12 n13 n14 ao co hO bl hM ++ ([(n9, intO end_)] :: [(n8, intO drop)] :: [(n5, ptrO b)] :: [(b, bO n a vs.length cap bm)] :: ho :: hi :: hm :: L)) l.length ⟨0, none, 0, [], [], [(bl, .map ⟨[]⟩ 0)], rfl, by omega, ⟨OwT.nil (fun _ => rfl), MapT.nil bl, fun x => rfl⟩, rfl⟩ ?_
  rintro m g L' ⟨k, ao, co, hO, lm, hM, e24, hkm, aw, rfl⟩
  refine JC.pin 24 e24 ?_
  clear e24
  have hflk := flat_len vs kind hvl1 (l.take k) fun i hi => hlr i (List.mem_of_mem_take hi)
  rw [List.length_take] at hflk
  have hout : (stW vs kind drop end_ (l.take k)).out.length ≤ 1000000000000 := by
    have := foldS_out (vs.map pnV) drop end_ (flatP (vs.map pnV) kind (l.take k)) ⟨[], [], true⟩
    simp only [List.length_nil] at this
    unfold stW
    omega
  unfold addL intO ptrO bO
  simp only [List.cons_append, List.nil_append]
  unfold slO mapO boolO
  rcases Nat.lt_or_ge k l.length with hk | hk
  case inr =>
    rw [List.take_of_length_le hk] at aw hout ⊢
    obtain ⟨oo, mt, ml⟩ := aw
    repeat' first
      | (refine J.isJ ?_; first | (first | (refine J.o 4 ?_; first | refine J.e3 hΓ ?_ | refine J.e4 hΓ ?_) | (refine J.fc 64 ?_; refine J.perm br1 ?_; refine J.callx eSort rfl rfl (fun w hw => sort_own oo (by omega) hw) ?_; rintro _ _ ⟨hO2, rfl, rfl, oo2⟩)) | (first | (refine J.o 0 ?_; refine J.ev' hΓ ?_) | refine J.nil ?_ | refine J.kd ?_ | (refine J.o 4 ?_; first | refine J.e0 hΓ ?_ | refine J.lT default hΓ ?_ | refine J.e1 hΓ ?_ | refine J.e2 hΓ ?_ | refine J.lR hΓ ?_) | (refine J.o 3 ?_; first | refine J.iA hΓ ?_ | refine J.iJ hΓ ?_ | refine J.fP hΓ ?_ | refine J.iC hΓ ?_ | refine J.ev' hΓ ?_) | (refine J.o 1 ?_; first | refine J.ad ?_ | refine J.ct ?_ | refine J.sb ?_ | refine J.mu ?_ | refine J.ng ?_ | refine J.qu ?_ | refine J.rm ?_ | refine J.s1 ?_ | refine J.sr ?_ | refine J.aW ?_ | refine J.oW ?_ | refine J.nW ?_) | (refine J.o 2 ?_; refine J.cv _ hΓ ?_) | (refine J.o 5 ?_; first | refine J.t0 hΓ ?_ | refine J.t1 hΓ ?_ | refine J.t2 hΓ ?_ | refine J.tT _ default hΓ (fun _ _ => ?_) | refine J.tT1 _ default hΓ (fun _ _ => ?_) | refine J.tT2 _ default hΓ (fun _ _ => ?_) | refine J.tT3 _ default hΓ (fun _ _ => ?_)) | (refine J.o 6 ?_; refine J.bx (fun _ => ?_)) | (refine J.o 7 ?_; refine J.al hΓ (fun _ => ?_)) | (refine J.o 8 ?_; refine J.bd hΓ ?_) | (refine J.o 9 ?_; refine J.bl hΓ (fun _ => ?_)) | (refine J.o 10 ?_; first | refine J.ls hΓ ?_ | refine J.ev' hΓ ?_) | (refine J.o 11 ?_; first | refine J.eS ?_ | refine J.xS ?_ | refine J.ev' hΓ ?_ | refine J.nT hΓ ?_) | (refine J.o 12 ?_; refine J.ix hΓ ?_) | (refine J.o 13 ?_; first | refine J.sL hΓ ?_ | refine J.sH hΓ ?_) | (refine J.o 14 ?_; refine J.mf hΓ ?_) | refine J.kn ?_) | ((fail_if_success refine J.wt ?_); refine J.gc rfl rfl (fun hc => ?_) (fun hc => ?_) <;> ((try simp only [decide_eq_true_eq, decide_eq_false_iff_not, beq_iff_eq, beq_eq_false_iff_ne, bne_iff_ne, bne_eq_false_iff_eq, Bool.not_eq_true', Bool.not_eq_false', Bool.not_eq_true, Bool.not_eq_false] at hc) <;> first | (first | (exact absurd rfl hc) | (exfalso; omega) | (exact absurd (hc.symm.trans (by assumption : _ = false)) (by decide)) | (exact absurd (hc.symm.trans (by assumption : _ = true)) (by decide))) | skip)))
      | (first | refine JC.seq ?_ | refine JC.region ?_ | refine JC.block ?_ | refine JC.ret ?_ | refine JC.exit ?_ | refine JC.skip ?_ | refine thenK.nn ?_ | refine thenK.r ?_ | refine thenK.x ?_ | refine blockK.nn ?_ | refine blockK.r ?_ | refine blockK.hit rfl ?_ | refine blockK.miss rfl ?_ | refine JC.condT rfl ?_ | refine JC.condF rfl ?_ | (refine JC.cond rfl (fun hc => ?_) (fun hc => ?_) <;> ((try simp only [decide_eq_true_eq, decide_eq_false_iff_not, beq_iff_eq, beq_eq_false_iff_ne, bne_iff_ne, bne_eq_false_iff_eq, Bool.not_eq_true', Bool.not_eq_false', Bool.not_eq_true, Bool.not_eq_false] at hc) <;> first | (first | (exact absurd rfl hc) | (exfalso; omega) | (exact absurd (hc.symm.trans (by assumption : _ = false)) (by decide)) | (exact absurd (hc.symm.trans (by assumption : _ = true)) (by decide))) | skip)) | refine drawK.nn ?_ | refine roundK.nn ?_ | refine roundK.r ?_ | refine roundK.x ?_ | refine loopK.r ?_ | refine loopK.x ?_)
      | ((refine JC.drawN [] [] (by kernel_rfl) (by kernel_rfl) ?_))
      | fail
    refine ret2f rfl rfl rfl rfl rfl (fun w1 hw => ⟨_, _, rfl, H.sel (l := [_, _, _, _, _, _, _, _, _, _, _, _]) (M := L) hw [0, 8, 9, 10, 11], ao, co, hO2, ?_, rfl, oo2⟩)
    rw [sortS_len]
  have hx := hlr _ (mem_g l k hk)
  have hj : l.getD k default = (((l.getD k default).toNat : Nat) : Int) := by omega
  have hjl : (l.getD k default).toNat < vs.length := by omega
  have hmj := mem_g vs _ hjl
  have rdl : RdH R ([(n9, intO end_)] :: [(n8, intO drop)] :: [(n5, ptrO b)] :: [(b, bO n a vs.length cap bm)] :: ho :: hi :: hm :: L) hl := rl.tl.tl.tl.tl.tl.tl.tl
  have rdh : RdH R ([(n9, intO end_)] :: [(n8, intO drop)] :: [(n5, ptrO b)] :: [(b, bO n a vs.length cap bm)] :: ho :: hi :: hm :: L) hi := RdH.hd.tl.tl.tl.tl.tl
  have r5 := rdd.rb
  have rB := rdd.rB
  have rN := rdd.rN
  unfold ptrO intO bO at r5 rB rN rdl rdh
  have hin := ins _ hmj
  by_cases hkd : (vs.getD (l.getD k default).toNat default).kind = kind
  case neg =>
    have hst : stW vs kind drop end_ (l.take (k + 1)) = addS (vs.map pnV) drop end_ (stW vs kind drop end_ (l.take k)) (l.getD k default) := by
      have hk2 : kindP (vs.map pnV) (l.getD k default) = (vs.getD (l.getD k default).toNat default).kind := by rw [hj, kindP_of, ← hj]
      unfold stW
      rw [flat_snoc _ _ _ _ hk, List.foldl_append, hk2, if_neg hkd]; rfl
    repeat' first
      | (refine J.isJ ?_; first | (first | (refine J.o 4 ?_; first | refine J.lT default hΓ ?_ (hs := hsl) (hr := rdl.tl.tl.tl.tl.tl) | refine J.lR hΓ ?_ (hr := r5.tl.tl.tl.tl.tl) | refine J.lR hΓ ?_ (hr := rB.tl.tl.tl.tl.tl) | refine J.lT default hΓ ?_ (hs := ow.sl) (hr := rN.tl.tl.tl.tl.tl)) | (refine J.o 9 ?_; refine J.callvx eAdd1 rfl rfl rfl (fun w hw => add1_any (l.getD k default) rdd ow hx (by omega) hlit aw (by omega) hw) ?_; rintro _ _ ⟨ao2, co2, hO2, lm2, hM2, rfl, rfl, aw2⟩)) | (first | (refine J.o 0 ?_; refine J.ev' hΓ ?_) | refine J.nil ?_ | refine J.kd ?_ | (refine J.o 4 ?_; first | refine J.e0 hΓ ?_ | refine J.lT default hΓ ?_ | refine J.e1 hΓ ?_ | refine J.e2 hΓ ?_ | refine J.lR hΓ ?_) | (refine J.o 3 ?_; first | refine J.iA hΓ ?_ | refine J.iJ hΓ ?_ | refine J.fP hΓ ?_ | refine J.iC hΓ ?_ | refine J.ev' hΓ ?_) | (refine J.o 1 ?_; first | refine J.ad ?_ | refine J.ct ?_ | refine J.sb ?_ | refine J.mu ?_ | refine J.ng ?_ | refine J.qu ?_ | refine J.rm ?_ | refine J.s1 ?_ | refine J.sr ?_ | refine J.aW ?_ | refine J.oW ?_ | refine J.nW ?_) | (refine J.o 2 ?_; refine J.cv _ hΓ ?_) | (refine J.o 5 ?_; first | refine J.t0 hΓ ?_ | refine J.t1 hΓ ?_ | refine J.t2 hΓ ?_ | refine J.tT _ default hΓ (fun _ _ => ?_) | refine J.tT1 _ default hΓ (fun _ _ => ?_) | refine J.tT2 _ default hΓ (fun _ _ => ?_) | refine J.tT3 _ default hΓ (fun _ _ => ?_)) | (refine J.o 6 ?_; refine J.bx (fun _ => ?_)) | (refine J.o 7 ?_; refine J.al hΓ (fun _ => ?_)) | (refine J.o 8 ?_; refine J.bd hΓ ?_) | (refine J.o 9 ?_; refine J.bl hΓ (fun _ => ?_)) | (refine J.o 10 ?_; first | refine J.ls hΓ ?_ | refine J.ev' hΓ ?_) | (refine J.o 11 ?_; first | refine J.eS ?_ | refine J.xS ?_ | refine J.ev' hΓ ?_ | refine J.nT hΓ ?_) | (refine J.o 12 ?_; refine J.ix hΓ ?_) | (refine J.o 13 ?_; first | refine J.sL hΓ ?_ | refine J.sH hΓ ?_) | (refine J.o 14 ?_; refine J.mf hΓ ?_) | refine J.kn ?_) | ((fail_if_success refine J.wt ?_); refine J.gc rfl rfl (fun hc => ?_) (fun hc => ?_) <;> ((try simp only [decide_eq_true_eq, decide_eq_false_iff_not, beq_iff_eq, beq_eq_false_iff_ne, bne_iff_ne, bne_eq_false_iff_eq, Bool.not_eq_true', Bool.not_eq_false', Bool.not_eq_true, Bool.not_eq_false] at hc) <;> first | (first | (exact absurd rfl hc) | (exfalso; omega) | (exact absurd (hc.symm.trans (by assumption : _ = false)) (by decide)) | (exact absurd (hc.symm.trans (by assumption : _ = true)) (by decide))) | skip)))
      | (first | refine JC.seq ?_ | refine JC.region ?_ | refine JC.block ?_ | refine JC.ret ?_ | refine JC.exit ?_ | refine JC.skip ?_ | refine thenK.nn ?_ | refine thenK.r ?_ | refine thenK.x ?_ | refine blockK.nn ?_ | refine blockK.r ?_ | refine blockK.hit rfl ?_ | refine blockK.miss rfl ?_ | refine JC.condT rfl ?_ | refine JC.condF rfl ?_ | (refine JC.cond rfl (fun hc => ?_) (fun hc => ?_) <;> ((try simp only [decide_eq_true_eq, decide_eq_false_iff_not, beq_iff_eq, beq_eq_false_iff_ne, bne_iff_ne, bne_eq_false_iff_eq, Bool.not_eq_true', Bool.not_eq_false', Bool.not_eq_true, Bool.not_eq_false] at hc) <;> first | (first | (exact absurd rfl hc) | (exfalso; omega) | (exact absurd (hc.symm.trans (by assumption : _ = false)) (by decide)) | (exact absurd (hc.symm.trans (by assumption : _ = true)) (by decide))) | skip)) | refine drawK.nn ?_ | refine roundK.nn ?_ | refine roundK.r ?_ | refine roundK.x ?_ | refine loopK.r ?_ | refine loopK.x ?_)
      | ((refine JC.drawN [] [] (by kernel_rfl) (by kernel_rfl) ?_))
      | fail
    all_goals first | (exfalso; omega) | skip
    rw [← hst] at aw2 ⊢
    refine loopK.nn (m - 1) (by omega) (by repeat (first | refine Ag.upd rfl ?_ | exact Ag.hv)) ⟨k + 1, ao2, co2, hO2, lm2, hM2, ?_, by omega, aw2, rfl⟩
    show Value.int .i64 _ = _; congr 1
  have hst : stW vs kind drop end_ (l.take (k + 1)) = (vs.getD (l.getD k default).toNat default).l.foldl (addS (vs.map pnV) drop end_) (stW vs kind drop end_ (l.take k)) := by
    have hk2 : kindP (vs.map pnV) (l.getD k default) = (vs.getD (l.getD k default).toNat default).kind := by rw [hj, kindP_of, ← hj]
    have hk3 : inP (vs.map pnV) (l.getD k default) = (vs.getD (l.getD k default).toNat default).l := by rw [hj, inP_of, ← hj]
    unfold stW
    rw [flat_snoc _ _ _ _ hk, List.foldl_append, hk2, if_pos hkd, hk3]
  have hrj := rng _ hmj
  have hnj := hvl1 _ hmj
  repeat' first
    | (refine J.isJ ?_; first | (first | (refine J.o 4 ?_; first | refine J.lT default hΓ ?_ (hs := hsl) (hr := rdl.tl.tl.tl.tl.tl) | refine J.lR hΓ ?_ (hr := r5.tl.tl.tl.tl.tl) | refine J.lR hΓ ?_ (hr := rB.tl.tl.tl.tl.tl) | refine J.lT default hΓ ?_ (hs := ow.sl) (hr := rN.tl.tl.tl.tl.tl))) | (first | (refine J.o 0 ?_; refine J.ev' hΓ ?_) | refine J.nil ?_ | refine J.kd ?_ | (refine J.o 4 ?_; first | refine J.e0 hΓ ?_ | refine J.lT default hΓ ?_ | refine J.e1 hΓ ?_ | refine J.e2 hΓ ?_ | refine J.lR hΓ ?_) | (refine J.o 3 ?_; first | refine J.iA hΓ ?_ | refine J.iJ hΓ ?_ | refine J.fP hΓ ?_ | refine J.iC hΓ ?_ | refine J.ev' hΓ ?_) | (refine J.o 1 ?_; first | refine J.ad ?_ | refine J.ct ?_ | refine J.sb ?_ | refine J.mu ?_ | refine J.ng ?_ | refine J.qu ?_ | refine J.rm ?_ | refine J.s1 ?_ | refine J.sr ?_ | refine J.aW ?_ | refine J.oW ?_ | refine J.nW ?_) | (refine J.o 2 ?_; refine J.cv _ hΓ ?_) | (refine J.o 5 ?_; first | refine J.t0 hΓ ?_ | refine J.t1 hΓ ?_ | refine J.t2 hΓ ?_ | refine J.tT _ default hΓ (fun _ _ => ?_) | refine J.tT1 _ default hΓ (fun _ _ => ?_) | refine J.tT2 _ default hΓ (fun _ _ => ?_) | refine J.tT3 _ default hΓ (fun _ _ => ?_)) | (refine J.o 6 ?_; refine J.bx (fun _ => ?_)) | (refine J.o 7 ?_; refine J.al hΓ (fun _ => ?_)) | (refine J.o 8 ?_; refine J.bd hΓ ?_) | (refine J.o 9 ?_; refine J.bl hΓ (fun _ => ?_)) | (refine J.o 10 ?_; first | refine J.ls hΓ ?_ | refine J.ev' hΓ ?_) | (refine J.o 11 ?_; first | refine J.eS ?_ | refine J.xS ?_ | refine J.ev' hΓ ?_ | refine J.nT hΓ ?_) | (refine J.o 12 ?_; refine J.ix hΓ ?_) | (refine J.o 13 ?_; first | refine J.sL hΓ ?_ | refine J.sH hΓ ?_) | (refine J.o 14 ?_; refine J.mf hΓ ?_) | refine J.kn ?_) | ((fail_if_success refine J.wt ?_); refine J.gc rfl rfl (fun hc => ?_) (fun hc => ?_) <;> ((try simp only [decide_eq_true_eq, decide_eq_false_iff_not, beq_iff_eq, beq_eq_false_iff_ne, bne_iff_ne, bne_eq_false_iff_eq, Bool.not_eq_true', Bool.not_eq_false', Bool.not_eq_true, Bool.not_eq_false] at hc) <;> first | (first | (exact absurd rfl hc) | (exfalso; omega) | (exact absurd (hc.symm.trans (by assumption : _ = false)) (by decide)) | (exact absurd (hc.symm.trans (by assumption : _ = true)) (by decide))) | skip)))
    | (first | refine JC.seq ?_ | refine JC.region ?_ | refine JC.block ?_ | refine JC.ret ?_ | refine JC.exit ?_ | refine JC.skip ?_ | refine thenK.nn ?_ | refine thenK.r ?_ | refine thenK.x ?_ | refine blockK.nn ?_ | refine blockK.r ?_ | refine blockK.hit rfl ?_ | refine blockK.miss rfl ?_ | refine JC.condT rfl ?_ | refine JC.condF rfl ?_ | (refine JC.cond rfl (fun hc => ?_) (fun hc => ?_) <;> ((try simp only [decide_eq_true_eq, decide_eq_false_iff_not, beq_iff_eq, beq_eq_false_iff_ne, bne_iff_ne, bne_eq_false_iff_eq, Bool.not_eq_true', Bool.not_eq_false', Bool.not_eq_true, Bool.not_eq_false] at hc) <;> first | (first | (exact absurd rfl hc) | (exfalso; omega) | (exact absurd (hc.symm.trans (by assumption : _ = false)) (by decide)) | (exact absurd (hc.symm.trans (by assumption : _ = true)) (by decide))) | skip)) | refine drawK.nn ?_ | refine roundK.nn ?_ | refine roundK.r ?_ | refine roundK.x ?_ | refine loopK.r ?_ | refine loopK.x ?_)
    | ((refine JC.drawN [] [] (by kernel_rfl) (by kernel_rfl) ?_))
    | fail
  all_goals first | (exfalso; omega) | skip
  refine JC.loop (fun i => i == 19 || Nat.ble 50 i) (fun m g L' => ∃ (q : Nat) (ao : Option Addr) (co : Nat) (hO : Heap) (lm : List (Int × Bool)) (hM : Heap), g 50 = .int .i64 (q : Int) ∧ q + m = (vs.getD (l.getD k default).toNat default).l.length ∧ AddW (((vs.getD (l.getD k default).toNat default).l.take q).foldl (addS (vs.map pnV) drop end_) (stW vs kind drop end_ (l.take k))) ao co hO lm bl hM ∧ L' = addL (((vs.getD (l.getD k default).toNat default).l.take q).foldl (addS (vs.map pnV) drop end_) (stW vs kind drop end_ (l.take k))) n12 n13 n14 ao co hO bl hM ++ ([(n9, intO end_)] :: [(n8, intO drop)] :: [(n5, ptrO b)] :: [(b, bO n a vs.length cap bm)] :: ho :: hi :: hm :: L)) (vs.getD (l.getD k default).toNat default).l.length ⟨0, ao, co, hO, lm, hM, rfl, by omega, aw, rfl⟩ ?_
  rintro m2 g2 L' ⟨q, ao, co, hO, lm, hM, e50, hqm, aw, rfl⟩
  refine JC.pin 50 e50 ?_
  clear e50
  have hout2 := foldS_out (vs.map pnV) drop end_ ((vs.getD (l.getD k default).toNat default).l.take q) (stW vs kind drop end_ (l.take k))
  rw [List.length_take] at hout2
  rcases Nat.lt_or_ge q (vs.getD (l.getD k default).toNat default).l.length with hq | hq
  case inr =>
    rw [List.take_of_length_le hq, ← hst] at aw
    rw [List.take_of_length_le hq, ← hst]
    repeat' first
      | (refine J.isJ ?_; first | (fail) | (first | (refine J.o 0 ?_; refine J.ev' hΓ ?_) | refine J.nil ?_ | refine J.kd ?_ | (refine J.o 4 ?_; first | refine J.e0 hΓ ?_ | refine J.lT default hΓ ?_ | refine J.e1 hΓ ?_ | refine J.e2 hΓ ?_ | refine J.lR hΓ ?_) | (refine J.o 3 ?_; first | refine J.iA hΓ ?_ | refine J.iJ hΓ ?_ | refine J.fP hΓ ?_ | refine J.iC hΓ ?_ | refine J.ev' hΓ ?_) | (refine J.o 1 ?_; first | refine J.ad ?_ | refine J.ct ?_ | refine J.sb ?_ | refine J.mu ?_ | refine J.ng ?_ | refine J.qu ?_ | refine J.rm ?_ | refine J.s1 ?_ | refine J.sr ?_ | refine J.aW ?_ | refine J.oW ?_ | refine J.nW ?_) | (refine J.o 2 ?_; refine J.cv _ hΓ ?_) | (refine J.o 5 ?_; first | refine J.t0 hΓ ?_ | refine J.t1 hΓ ?_ | refine J.t2 hΓ ?_ | refine J.tT _ default hΓ (fun _ _ => ?_) | refine J.tT1 _ default hΓ (fun _ _ => ?_) | refine J.tT2 _ default hΓ (fun _ _ => ?_) | refine J.tT3 _ default hΓ (fun _ _ => ?_)) | (refine J.o 6 ?_; refine J.bx (fun _ => ?_)) | (refine J.o 7 ?_; refine J.al hΓ (fun _ => ?_)) | (refine J.o 8 ?_; refine J.bd hΓ ?_) | (refine J.o 9 ?_; refine J.bl hΓ (fun _ => ?_)) | (refine J.o 10 ?_; first | refine J.ls hΓ ?_ | refine J.ev' hΓ ?_) | (refine J.o 11 ?_; first | refine J.eS ?_ | refine J.xS ?_ | refine J.ev' hΓ ?_ | refine J.nT hΓ ?_) | (refine J.o 12 ?_; refine J.ix hΓ ?_) | (refine J.o 13 ?_; first | refine J.sL hΓ ?_ | refine J.sH hΓ ?_) | (refine J.o 14 ?_; refine J.mf hΓ ?_) | refine J.kn ?_) | ((fail_if_success refine J.wt ?_); refine J.gc rfl rfl (fun hc => ?_) (fun hc => ?_) <;> ((try simp only [decide_eq_true_eq, decide_eq_false_iff_not, beq_iff_eq, beq_eq_false_iff_ne, bne_iff_ne, bne_eq_false_iff_eq, Bool.not_eq_true', Bool.not_eq_false', Bool.not_eq_true, Bool.not_eq_false] at hc) <;> first | (first | (exact absurd rfl hc) | (exfalso; omega) | (exact absurd (hc.symm.trans (by assumption : _ = false)) (by decide)) | (exact absurd (hc.symm.trans (by assumption : _ = true)) (by decide))) | skip)))
      | (first | refine JC.seq ?_ | refine JC.region ?_ | refine JC.block ?_ | refine JC.ret ?_ | refine JC.exit ?_ | refine JC.skip ?_ | refine thenK.nn ?_ | refine thenK.r ?_ | refine thenK.x ?_ | refine blockK.nn ?_ | refine blockK.r ?_ | refine blockK.hit rfl ?_ | refine blockK.miss rfl ?_ | refine JC.condT rfl ?_ | refine JC.condF rfl ?_ | (refine JC.cond rfl (fun hc => ?_) (fun hc => ?_) <;> ((try simp only [decide_eq_true_eq, decide_eq_false_iff_not, beq_iff_eq, beq_eq_false_iff_ne, bne_iff_ne, bne_eq_false_iff_eq, Bool.not_eq_true', Bool.not_eq_false', Bool.not_eq_true, Bool.not_eq_false] at hc) <;> first | (first | (exact absurd rfl hc) | (exfalso; omega) | (exact absurd (hc.symm.trans (by assumption : _ = false)) (by decide)) | (exact absurd (hc.symm.trans (by assumption : _ = true)) (by decide))) | skip)) | refine drawK.nn ?_ | refine roundK.nn ?_ | refine roundK.r ?_ | refine roundK.x ?_ | refine loopK.r ?_ | refine loopK.x ?_)
      | (fail)
      | fail
    all_goals first | (exfalso; omega) | skip
    refine loopK.nn (m - 1) (by omega) (by repeat (first | refine Ag.upd rfl ?_ | exact Ag.hv | refine Ag.hv2 (fun i hi => by simp at hi ⊢; omega) ?_)) ⟨k + 1, ao, co, hO, lm, hM, ?_, by omega, aw, rfl⟩
    show Value.int .i64 _ = _; congr 1
  have hxq := hrj _ (mem_g (vs.getD (l.getD k default).toNat default).l q hq)
  have hst3 : ((vs.getD (l.getD k default).toNat default).l.take (q + 1)).foldl (addS (vs.map pnV) drop end_) (stW vs kind drop end_ (l.take k)) = addS (vs.map pnV) drop end_ (((vs.getD (l.getD k default).toNat default).l.take q).foldl (addS (vs.map pnV) drop end_) (stW vs kind drop end_ (l.take k))) ((vs.getD (l.getD k default).toNat default).l.getD q default) := by
    rw [take_g _ _ hq, List.foldl_append]; rfl
  unfold addL intO ptrO bO
  simp only [List.cons_append, List.nil_append]
  unfold slO mapO boolO
  repeat' first
    | (refine J.isJ ?_; first | (first | (refine J.o 4 ?_; refine J.lT default hΓ ?_ (hs := hin) (hr := rdh.tl.tl.tl.tl.tl)) | (refine J.o 9 ?_; refine J.callvx eAdd1 rfl rfl rfl (fun w hw => add1_any ((vs.getD (l.getD k default).toNat default).l.getD q default) rdd ow hxq (by omega) hlit aw (by omega) hw) ?_; rintro _ _ ⟨ao2, co2, hO2, lm2, hM2, rfl, rfl, aw2⟩)) | (first | (refine J.o 0 ?_; refine J.ev' hΓ ?_) | refine J.nil ?_ | refine J.kd ?_ | (refine J.o 4 ?_; first | refine J.e0 hΓ ?_ | refine J.lT default hΓ ?_ | refine J.e1 hΓ ?_ | refine J.e2 hΓ ?_ | refine J.lR hΓ ?_) | (refine J.o 3 ?_; first | refine J.iA hΓ ?_ | refine J.iJ hΓ ?_ | refine J.fP hΓ ?_ | refine J.iC hΓ ?_ | refine J.ev' hΓ ?_) | (refine J.o 1 ?_; first | refine J.ad ?_ | refine J.ct ?_ | refine J.sb ?_ | refine J.mu ?_ | refine J.ng ?_ | refine J.qu ?_ | refine J.rm ?_ | refine J.s1 ?_ | refine J.sr ?_ | refine J.aW ?_ | refine J.oW ?_ | refine J.nW ?_) | (refine J.o 2 ?_; refine J.cv _ hΓ ?_) | (refine J.o 5 ?_; first | refine J.t0 hΓ ?_ | refine J.t1 hΓ ?_ | refine J.t2 hΓ ?_ | refine J.tT _ default hΓ (fun _ _ => ?_) | refine J.tT1 _ default hΓ (fun _ _ => ?_) | refine J.tT2 _ default hΓ (fun _ _ => ?_) | refine J.tT3 _ default hΓ (fun _ _ => ?_)) | (refine J.o 6 ?_; refine J.bx (fun _ => ?_)) | (refine J.o 7 ?_; refine J.al hΓ (fun _ => ?_)) | (refine J.o 8 ?_; refine J.bd hΓ ?_) | (refine J.o 9 ?_; refine J.bl hΓ (fun _ => ?_)) | (refine J.o 10 ?_; first | refine J.ls hΓ ?_ | refine J.ev' hΓ ?_) | (refine J.o 11 ?_; first | refine J.eS ?_ | refine J.xS ?_ | refine J.ev' hΓ ?_ | refine J.nT hΓ ?_) | (refine J.o 12 ?_; refine J.ix hΓ ?_) | (refine J.o 13 ?_; first | refine J.sL hΓ ?_ | refine J.sH hΓ ?_) | (refine J.o 14 ?_; refine J.mf hΓ ?_) | refine J.kn ?_) | ((fail_if_success refine J.wt ?_); refine J.gc rfl rfl (fun hc => ?_) (fun hc => ?_) <;> ((try simp only [decide_eq_true_eq, decide_eq_false_iff_not, beq_iff_eq, beq_eq_false_iff_ne, bne_iff_ne, bne_eq_false_iff_eq, Bool.not_eq_true', Bool.not_eq_false', Bool.not_eq_true, Bool.not_eq_false] at hc) <;> first | (first | (exact absurd rfl hc) | (exfalso; omega) | (exact absurd (hc.symm.trans (by assumption : _ = false)) (by decide)) | (exact absurd (hc.symm.trans (by assumption : _ = true)) (by decide))) | skip)))
    | (first | refine JC.seq ?_ | refine JC.region ?_ | refine JC.block ?_ | refine JC.ret ?_ | refine JC.exit ?_ | refine JC.skip ?_ | refine thenK.nn ?_ | refine thenK.r ?_ | refine thenK.x ?_ | refine blockK.nn ?_ | refine blockK.r ?_ | refine blockK.hit rfl ?_ | refine blockK.miss rfl ?_ | refine JC.condT rfl ?_ | refine JC.condF rfl ?_ | (refine JC.cond rfl (fun hc => ?_) (fun hc => ?_) <;> ((try simp only [decide_eq_true_eq, decide_eq_false_iff_not, beq_iff_eq, beq_eq_false_iff_ne, bne_iff_ne, bne_eq_false_iff_eq, Bool.not_eq_true', Bool.not_eq_false', Bool.not_eq_true, Bool.not_eq_false] at hc) <;> first | (first | (exact absurd rfl hc) | (exfalso; omega) | (exact absurd (hc.symm.trans (by assumption : _ = false)) (by decide)) | (exact absurd (hc.symm.trans (by assumption : _ = true)) (by decide))) | skip)) | refine drawK.nn ?_ | refine roundK.nn ?_ | refine roundK.r ?_ | refine roundK.x ?_ | refine loopK.r ?_ | refine loopK.x ?_)
    | (fail)
    | fail
  all_goals first | (exfalso; omega) | skip
  rw [← hst3] at aw2 ⊢
  refine loopK.nn (m2 - 1) (by omega) (by repeat (first | refine Ag.upd rfl ?_ | exact Ag.hv)) ⟨q + 1, ao2, co2, hO2, lm2, hM2, ?_, by omega, aw2, rfl⟩
  show Value.int .i64 _ = _; congr 1
end Go.Proofs.YtncnpmgohhgmfaaDoor
