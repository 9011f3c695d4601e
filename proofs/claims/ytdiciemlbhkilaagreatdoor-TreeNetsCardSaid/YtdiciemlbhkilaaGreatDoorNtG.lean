/- TreeNets: part 7. -/
import Derived.Test.YtdiciemlbhkilaaGreatDoorNtF
namespace Go.Proofs.YtdiciemlbhkilaaGreatDoor
open Go Go.Cx Go.RowKit
set_option linter.unusedVariables false
set_option linter.unusedSimpArgs false
set_option maxHeartbeats 4000000
attribute [local irreducible] J JC thenK blockK loopK roundK drawK retK QW Qt pel List.set Calls
attribute [local irreducible] JE Br eK0 eK3 brK
theorem eInp : Entr Tryz.prog 83 := Entr.of Tryz.func83 rfl rfl
structure OkB (vs : List NV) : Prop where
  ok : ∀ v, v ∈ vs → OkV v
  rng : ∀ v, v ∈ vs → ∀ i, i ∈ v.l → 0 ≤ i ∧ i < vs.length
theorem addS_out (B : List PN) (drop end_ : Int) (s : StN) (i : Int) : (addS B drop end_ s i).out.length ≤ s.out.length + 1 := by
  show (if _ then s.out ++ [i] else s.out).length ≤ _
  split
  · rw [List.length_append]; exact Nat.le_refl _
  · omega
theorem foldS_out (B : List PN) (drop end_ : Int) : ∀ (l : List Int) (s : StN), (l.foldl (addS B drop end_) s).out.length ≤ s.out.length + l.length
  | [], s => Nat.le_refl _
  | x :: l, s => by
    have h1 := foldS_out B drop end_ l (addS B drop end_ s x)
    have h2 := addS_out B drop end_ s x
    rw [List.foldl_cons, List.length_cons]
    omega
theorem inP_of (vs : List NV) (k : Nat) : inP (vs.map pnV) (k : Int) = (vs.getD k default).l := by
  unfold inP; rw [Int.toNat_natCast, getD_map]; rfl
theorem kindP_of (vs : List NV) (k : Nat) : kindP (vs.map pnV) (k : Int) = (vs.getD k default).kind := by
  unfold kindP; rw [Int.toNat_natCast, getD_map]; rfl
theorem litP_of (vs : List NV) (k : Nat) : litP (vs.map pnV) (k : Int) = (vs.getD k default).lit := by
  unfold litP; rw [Int.toNat_natCast, getD_map]; rfl
def stW (vs : List NV) (kind drop end_ : Int) (l : List Int) : StN := (flatP (vs.map pnV) kind l).foldl (addS (vs.map pnV) drop end_) ⟨[], [], true⟩
theorem flat_len (vs : List NV) (kind : Int) (hv : ∀ v, v ∈ vs → v.l.length ≤ 1000000) : ∀ (l : List Int), (∀ i, i ∈ l → 0 ≤ i ∧ i < vs.length) → (flatP (vs.map pnV) kind l).length ≤ 1000000 * l.length
  | [], _ => by simp [flatP]
  | x :: l, h => by
    have ih := flat_len vs kind hv l fun i hi => h i (List.mem_cons_of_mem _ hi)
    have hx := h x List.mem_cons_self
    obtain ⟨k, rfl⟩ : ∃ k : Nat, x = (k : Int) := ⟨x.toNat, by omega⟩
    have hm := hv _ (mem_g vs k (by omega))
    unfold flatP at ih ⊢
    rw [List.flatMap_cons, List.length_append, List.length_cons]
    split
    · rw [inP_of]; omega
    · simp only [List.length_cons, List.length_nil]; omega
theorem flat_snoc (B : List PN) (kind : Int) (l : List Int) (k : Nat) (hk : k < l.length) : flatP B kind (l.take (k + 1)) = flatP B kind (l.take k) ++ (if kindP B (l.getD k default) = kind then inP B (l.getD k default) else [l.getD k default]) := by
  unfold flatP
  rw [take_g l k hk, List.flatMap_append, List.flatMap_cons, List.flatMap_nil, List.append_nil]
set_option maxHeartbeats 16000000 in
theorem inputs_any (kind drop end_ : Int) (l : List Int) (al : Option Addr) (cl : Nat) {w0 w : World} {R : Heap} {L : List Heap} {n : Int} {b cap bm : Nat} {a : Option Addr} {vs : List NV} {ho hi hm hl : Heap} (hsl : SlT encI 1 al l hl) (rl : RdH R L hl) (ow : OwT encNV 3 82 a cap vs ho) (ins : ∀ v, v ∈ vs → SlT encI 1 v.a v.l hi) (ob : OkB vs) (hvl : vs.length ≤ 65536) (hll : l.length ≤ 1000000) (hlr : ∀ i, i ∈ l → 0 ≤ i ∧ i < vs.length) (hw : H w0 R (bL n b a vs cap bm ho hi hm ++ L) w) :
    Calls Tryz.prog 83 #[.pointer (some ⟨b, 0, none⟩), .slice al l.length cl, .int .i64 kind, .int .i64 drop, .int .i64 end_] w fun e w' => ∃ v' L', e = .returned v' ∧ H w0 R L' w' ∧ ∃ ao co hO, v' = .tuple #[.slice ao (sortS (stW vs kind drop end_ l).out).length co, .bool (stW vs kind drop end_ l).open_] ∧ L' = hO :: (bL n b a vs cap bm ho hi hm ++ L) ∧ OwT encI 1 3 ao co (sortS (stW vs kind drop end_ l).out) hO := by
  obtain ⟨okv, rng⟩ := ob
  unfold bL at hw ⊢
  simp only [List.cons_append, List.nil_append] at hw ⊢
  have hvl1 : ∀ v, v ∈ vs → v.l.length ≤ 1000000 := fun v hv => (okv v hv).n
  have hlit : ∀ v, v ∈ vs → -128 ≤ v.lit ∧ v.lit ≤ 128 := fun v hv => (okv v hv).t
  refine calls_in Tryz.func83 Tryz.ntmps83 rfl rfl (hw) ?_
  unfold bO
  repeat' first
    | (refine J.isJ ?_; first | ((refine J.o 9 ?_; refine J.mkm (fun bl => ?_))) | (first | (refine J.o 0 ?_; refine J.ev' hΓ ?_) | refine J.nil ?_ | (refine J.o 4 ?_; first | refine J.e0 hΓ ?_ | refine J.lT default hΓ ?_ | refine J.e1 hΓ ?_ | refine J.lR hΓ ?_) | (refine J.o 3 ?_; first | refine J.iJ hΓ ?_ | refine J.fP hΓ ?_ | refine J.ev' hΓ ?_) | (refine J.o 1 ?_; first | refine J.ad ?_) | (refine J.o 5 ?_; first | refine J.t0 hΓ ?_) | (refine J.o 6 ?_; refine J.bx (fun _ => ?_)) | (refine J.o 7 ?_; refine J.al hΓ (fun _ => ?_)) | (refine J.o 10 ?_; first | refine J.ev' hΓ ?_) | (refine J.o 11 ?_; first | refine J.ev' hΓ ?_) | (refine J.o 14 ?_; refine J.mf hΓ ?_)))
    | (first | refine JC.seq ?_ | refine JC.region ?_ | refine JC.block ?_ | refine JC.ret ?_ | refine JC.exit ?_ | refine JC.skip ?_ | refine thenK.nn ?_ | refine thenK.x ?_ | refine blockK.nn ?_ | refine blockK.hit rfl ?_ | (refine JC.cond rfl (fun hc => ?_) (fun hc => ?_) <;> ((try simp only [decide_eq_true_eq, decide_eq_false_iff_not, beq_iff_eq, beq_eq_false_iff_ne, bne_iff_ne, bne_eq_false_iff_eq, Bool.not_eq_true', Bool.not_eq_false', Bool.not_eq_true, Bool.not_eq_false] at hc) <;> first | (first | (exact absurd rfl hc) | (exfalso; omega) | (exact absurd (hc.symm.trans (by assumption : _ = false)) (by decide)) | (exact absurd (hc.symm.trans (by assumption : _ = true)) (by decide))) | skip)) | refine drawK.nn ?_ | refine loopK.x ?_)
    | (fail)
    | fail
  all_goals first | (exfalso; omega) | skip
  rename_i n5 n8 n9 n12 n13 n14
  have rdd : AddR R ([(n9, intO end_)] :: [(n8, intO drop)] :: [(n5, ptrO b)] :: [(b, bO n a vs.length cap bm)] :: ho :: hi :: hm :: L) n5 n8 n9 n b a vs cap bm ho drop end_ := ⟨Rd.hd.tl.tl, Rd.hd.tl, Rd.hd, Rd.hd.tl.tl.tl, RdH.hd.tl.tl.tl.tl⟩
  refine JC.weak (L' := addL ⟨[], [], true⟩ n12 n13 n14 none 0 [] bl [(bl, .map ⟨[]⟩ 0)] ++ ([(n9, intO end_)] :: [(n8, intO drop)] :: [(n5, ptrO b)] :: [(b, bO n a vs.length cap bm)] :: ho :: hi :: hm :: L)) (fun w hw => H.sel (l := [_, _, _, _, _]) (M := [(n9, intO end_)] :: [(n8, intO drop)] :: [(n5, ptrO b)] :: [(b, bO n a vs.length cap bm)] :: ho :: hi :: hm :: L) hw.nilF [4, 0, 2, 3, 1]) ?_
  refine JC.gen [(2, .int .i64 kind), (5, .pointer (some ⟨n5, 0, none⟩)), (12, .pointer (some ⟨n12, 0, none⟩)), (14, .pointer (some ⟨n14, 0, none⟩)), (15, .func (.func 120) ⟨[]⟩ ⟨[.pointer (some ⟨n5, 0, none⟩), .pointer (some ⟨n9, 0, none⟩), .pointer (some ⟨n13, 0, none⟩), .pointer (some ⟨n14, 0, none⟩), .pointer (some ⟨n8, 0, none⟩), .pointer (some ⟨n12, 0, none⟩)]⟩), (22, .slice al l.length cl), (23, .int .i64 l.length), (24, .int .i64 0)] ⟨rfl, rfl, rfl, rfl, rfl, rfl, rfl, rfl, trivial⟩ (fun F => ?_)
  refine JC.loop (fun i => i == 10 || i == 11 || i == 17 || i == 19 || Nat.ble 24 i) (fun m g L' => ∃ (k : Nat) (ao : Option Addr) (co : Nat) (hO : Heap) (lm : List (Int × Bool)) (hM : Heap), g 24 = .int .i64 (k : Int) ∧ k + m = l.length ∧ AddW (stW vs kind drop end_ (l.take k)) ao co hO lm bl hM ∧ L' = addL (stW vs kind drop end_ (l.take k)) n12 n13 n14 ao co hO bl hM ++ ([(n9, intO end_)] :: [(n8, intO drop)] :: [(n5, ptrO b)] :: [(b, bO n a vs.length cap bm)] :: ho :: hi :: hm :: L)) l.length ⟨0, none, 0, [], [], [(bl, .map ⟨[]⟩ 0)], rfl, by omega, ⟨OwT.nil (fun _ => rfl), MapT.nil bl, fun x => rfl⟩, rfl⟩ ?_
  rintro m g L' ⟨k, ao, co, hO, lm, hM, e24, hkm, aw, rfl⟩
  refine JC.pin 24 e24 ?_
  clear e24
  have hflk := flat_len vs kind hvl1 (l.take k) fun i hi => hlr i (List.mem_of_mem_take hi)
  rw [List.length_take] at hflk
  have hout : (stW vs kind drop end_ (l.take k)).out.length ≤ 1000000000000 := by
    have := foldS_out (vs.map pnV) drop end_ (flatP (vs.map pnV) kind (l.take k)) ⟨[], [], true⟩
    simp only [List.length_nil] at this
    unfold stW
    omega
  unfold addL intO ptrO bO
  simp only [List.cons_append, List.nil_append]
  unfold slO mapO boolO
  rcases Nat.lt_or_ge k l.length with hk | hk
  case inr =>
    rw [List.take_of_length_le hk] at aw hout ⊢
    obtain ⟨oo, mt, ml⟩ := aw
    repeat' first
      | (refine J.isJ ?_; first | (first | (refine J.o 4 ?_; first | refine J.e4 hΓ ?_) | (refine J.fc 122 ?_; refine J.perm br1 ?_; refine J.callx eSort rfl rfl (fun w hw => sort_own oo (by omega) hw) ?_; rintro _ _ ⟨hO2, rfl, rfl, oo2⟩)) | (first | (refine J.o 0 ?_; refine J.ev' hΓ ?_) | refine J.nil ?_ | (refine J.o 4 ?_; first | refine J.e0 hΓ ?_ | refine J.lT default hΓ ?_ | refine J.e1 hΓ ?_ | refine J.lR hΓ ?_) | (refine J.o 3 ?_; first | refine J.iJ hΓ ?_ | refine J.fP hΓ ?_ | refine J.ev' hΓ ?_) | (refine J.o 1 ?_; first | refine J.ad ?_) | (refine J.o 5 ?_; first | refine J.t0 hΓ ?_) | (refine J.o 6 ?_; refine J.bx (fun _ => ?_)) | (refine J.o 7 ?_; refine J.al hΓ (fun _ => ?_)) | (refine J.o 10 ?_; first | refine J.ev' hΓ ?_) | (refine J.o 11 ?_; first | refine J.ev' hΓ ?_) | (refine J.o 14 ?_; refine J.mf hΓ ?_)))
      | (first | refine JC.seq ?_ | refine JC.region ?_ | refine JC.block ?_ | refine JC.ret ?_ | refine JC.exit ?_ | refine JC.skip ?_ | refine thenK.nn ?_ | refine thenK.x ?_ | refine blockK.nn ?_ | refine blockK.hit rfl ?_ | (refine JC.cond rfl (fun hc => ?_) (fun hc => ?_) <;> ((try simp only [decide_eq_true_eq, decide_eq_false_iff_not, beq_iff_eq, beq_eq_false_iff_ne, bne_iff_ne, bne_eq_false_iff_eq, Bool.not_eq_true', Bool.not_eq_false', Bool.not_eq_true, Bool.not_eq_false] at hc) <;> first | (first | (exact absurd rfl hc) | (exfalso; omega) | (exact absurd (hc.symm.trans (by assumption : _ = false)) (by decide)) | (exact absurd (hc.symm.trans (by assumption : _ = true)) (by decide))) | skip)) | refine drawK.nn ?_ | refine loopK.x ?_)
      | ((refine JC.drawN [] [] (by kernel_rfl) (by kernel_rfl) ?_))
      | fail
    refine ret2f rfl rfl rfl rfl rfl (fun w1 hw => ⟨_, _, rfl, H.sel (l := [_, _, _, _, _, _, _, _, _, _, _, _]) (M := L) hw [0, 8, 9, 10, 11], ao, co, hO2, ?_, rfl, oo2⟩)
    rw [sortS_len]
  have hx := hlr _ (mem_g l k hk)
  have hj : l.getD k default = (((l.getD k default).toNat : Nat) : Int) := by omega
  have hjl : (l.getD k default).toNat < vs.length := by omega
  have hmj := mem_g vs _ hjl
  have rdl : RdH R ([(n9, intO end_)] :: [(n8, intO drop)] :: [(n5, ptrO b)] :: [(b, bO n a vs.length cap bm)] :: ho :: hi :: hm :: L) hl := rl.tl.tl.tl.tl.tl.tl.tl
  have rdh : RdH R ([(n9, intO end_)] :: [(n8, intO drop)] :: [(n5, ptrO b)] :: [(b, bO n a vs.length cap bm)] :: ho :: hi :: hm :: L) hi := RdH.hd.tl.tl.tl.tl.tl
  have r5 := rdd.rb
  have rB := rdd.rB
  have rN := rdd.rN
  unfold ptrO intO bO at r5 rB rN rdl rdh
  have hin := ins _ hmj
  by_cases hkd : (vs.getD (l.getD k default).toNat default).kind = kind
  case neg =>
    have hst : stW vs kind drop end_ (l.take (k + 1)) = addS (vs.map pnV) drop end_ (stW vs kind drop end_ (l.take k)) (l.getD k default) := by
      have hk2 : kindP (vs.map pnV) (l.getD k default) = (vs.getD (l.getD k default).toNat default).kind := by rw [hj, kindP_of, ← hj]
      unfold stW
      rw [flat_snoc _ _ _ _ hk, List.foldl_append, hk2, if_neg hkd]; rfl
    repeat' first
      | (refine J.isJ ?_; first | (first | (refine J.o 4 ?_; first | refine J.lT default hΓ ?_ (hs := hsl) (hr := rdl.tl.tl.tl.tl.tl) | refine J.lR hΓ ?_ (hr := r5.tl.tl.tl.tl.tl) | refine J.lR hΓ ?_ (hr := rB.tl.tl.tl.tl.tl) | refine J.lT default hΓ ?_ (hs := ow.sl) (hr := rN.tl.tl.tl.tl.tl)) | (refine J.o 9 ?_; refine J.callvx eAdd1 rfl rfl rfl (fun w hw => add1_any (l.getD k default) rdd ow hx (by omega) hlit aw (by omega) hw) ?_; rintro _ _ ⟨ao2, co2, hO2, lm2, hM2, rfl, rfl, aw2⟩)) | (first | (refine J.o 0 ?_; refine J.ev' hΓ ?_) | refine J.nil ?_ | (refine J.o 4 ?_; first | refine J.e0 hΓ ?_ | refine J.lT default hΓ ?_ | refine J.e1 hΓ ?_ | refine J.lR hΓ ?_) | (refine J.o 3 ?_; first | refine J.iJ hΓ ?_ | refine J.fP hΓ ?_ | refine J.ev' hΓ ?_) | (refine J.o 1 ?_; first | refine J.ad ?_) | (refine J.o 5 ?_; first | refine J.t0 hΓ ?_) | (refine J.o 6 ?_; refine J.bx (fun _ => ?_)) | (refine J.o 7 ?_; refine J.al hΓ (fun _ => ?_)) | (refine J.o 10 ?_; first | refine J.ev' hΓ ?_) | (refine J.o 11 ?_; first | refine J.ev' hΓ ?_) | (refine J.o 14 ?_; refine J.mf hΓ ?_)))
      | (first | refine JC.seq ?_ | refine JC.region ?_ | refine JC.block ?_ | refine JC.ret ?_ | refine JC.exit ?_ | refine JC.skip ?_ | refine thenK.nn ?_ | refine thenK.x ?_ | refine blockK.nn ?_ | refine blockK.hit rfl ?_ | (refine JC.cond rfl (fun hc => ?_) (fun hc => ?_) <;> ((try simp only [decide_eq_true_eq, decide_eq_false_iff_not, beq_iff_eq, beq_eq_false_iff_ne, bne_iff_ne, bne_eq_false_iff_eq, Bool.not_eq_true', Bool.not_eq_false', Bool.not_eq_true, Bool.not_eq_false] at hc) <;> first | (first | (exact absurd rfl hc) | (exfalso; omega) | (exact absurd (hc.symm.trans (by assumption : _ = false)) (by decide)) | (exact absurd (hc.symm.trans (by assumption : _ = true)) (by decide))) | skip)) | refine drawK.nn ?_ | refine loopK.x ?_)
      | ((refine JC.drawN [] [] (by kernel_rfl) (by kernel_rfl) ?_))
      | fail
    all_goals first | (exfalso; omega) | skip
    rw [← hst] at aw2 ⊢
    refine loopK.nn (m - 1) (by omega) (by repeat (first | refine Ag.upd rfl ?_ | exact Ag.hv)) ⟨k + 1, ao2, co2, hO2, lm2, hM2, ?_, by omega, aw2, rfl⟩
    show Value.int .i64 _ = _; congr 1
  have hst : stW vs kind drop end_ (l.take (k + 1)) = (vs.getD (l.getD k default).toNat default).l.foldl (addS (vs.map pnV) drop end_) (stW vs kind drop end_ (l.take k)) := by
    have hk2 : kindP (vs.map pnV) (l.getD k default) = (vs.getD (l.getD k default).toNat default).kind := by rw [hj, kindP_of, ← hj]
    have hk3 : inP (vs.map pnV) (l.getD k default) = (vs.getD (l.getD k default).toNat default).l := by rw [hj, inP_of, ← hj]
    unfold stW
    rw [flat_snoc _ _ _ _ hk, List.foldl_append, hk2, if_pos hkd, hk3]
  have hrj := rng _ hmj
  have hnj := hvl1 _ hmj
  repeat' first
    | (refine J.isJ ?_; first | (first | (refine J.o 4 ?_; first | refine J.lT default hΓ ?_ (hs := hsl) (hr := rdl.tl.tl.tl.tl.tl) | refine J.lR hΓ ?_ (hr := r5.tl.tl.tl.tl.tl) | refine J.lR hΓ ?_ (hr := rB.tl.tl.tl.tl.tl) | refine J.lT default hΓ ?_ (hs := ow.sl) (hr := rN.tl.tl.tl.tl.tl))) | (first | (refine J.o 0 ?_; refine J.ev' hΓ ?_) | refine J.nil ?_ | (refine J.o 4 ?_; first | refine J.e0 hΓ ?_ | refine J.lT default hΓ ?_ | refine J.e1 hΓ ?_ | refine J.lR hΓ ?_) | (refine J.o 3 ?_; first | refine J.iJ hΓ ?_ | refine J.fP hΓ ?_ | refine J.ev' hΓ ?_) | (refine J.o 1 ?_; first | refine J.ad ?_) | (refine J.o 5 ?_; first | refine J.t0 hΓ ?_) | (refine J.o 6 ?_; refine J.bx (fun _ => ?_)) | (refine J.o 7 ?_; refine J.al hΓ (fun _ => ?_)) | (refine J.o 10 ?_; first | refine J.ev' hΓ ?_) | (refine J.o 11 ?_; first | refine J.ev' hΓ ?_) | (refine J.o 14 ?_; refine J.mf hΓ ?_)))
    | (first | refine JC.seq ?_ | refine JC.region ?_ | refine JC.block ?_ | refine JC.ret ?_ | refine JC.exit ?_ | refine JC.skip ?_ | refine thenK.nn ?_ | refine thenK.x ?_ | refine blockK.nn ?_ | refine blockK.hit rfl ?_ | (refine JC.cond rfl (fun hc => ?_) (fun hc => ?_) <;> ((try simp only [decide_eq_true_eq, decide_eq_false_iff_not, beq_iff_eq, beq_eq_false_iff_ne, bne_iff_ne, bne_eq_false_iff_eq, Bool.not_eq_true', Bool.not_eq_false', Bool.not_eq_true, Bool.not_eq_false] at hc) <;> first | (first | (exact absurd rfl hc) | (exfalso; omega) | (exact absurd (hc.symm.trans (by assumption : _ = false)) (by decide)) | (exact absurd (hc.symm.trans (by assumption : _ = true)) (by decide))) | skip)) | refine drawK.nn ?_ | refine loopK.x ?_)
    | ((refine JC.drawN [] [] (by kernel_rfl) (by kernel_rfl) ?_))
    | fail
  all_goals first | (exfalso; omega) | skip
  refine JC.loop (fun i => i == 19 || Nat.ble 50 i) (fun m g L' => ∃ (q : Nat) (ao : Option Addr) (co : Nat) (hO : Heap) (lm : List (Int × Bool)) (hM : Heap), g 50 = .int .i64 (q : Int) ∧ q + m = (vs.getD (l.getD k default).toNat default).l.length ∧ AddW (((vs.getD (l.getD k default).toNat default).l.take q).foldl (addS (vs.map pnV) drop end_) (stW vs kind drop end_ (l.take k))) ao co hO lm bl hM ∧ L' = addL (((vs.getD (l.getD k default).toNat default).l.take q).foldl (addS (vs.map pnV) drop end_) (stW vs kind drop end_ (l.take k))) n12 n13 n14 ao co hO bl hM ++ ([(n9, intO end_)] :: [(n8, intO drop)] :: [(n5, ptrO b)] :: [(b, bO n a vs.length cap bm)] :: ho :: hi :: hm :: L)) (vs.getD (l.getD k default).toNat default).l.length ⟨0, ao, co, hO, lm, hM, rfl, by omega, aw, rfl⟩ ?_
  rintro m2 g2 L' ⟨q, ao, co, hO, lm, hM, e50, hqm, aw, rfl⟩
  refine JC.pin 50 e50 ?_
  clear e50
  have hout2 := foldS_out (vs.map pnV) drop end_ ((vs.getD (l.getD k default).toNat default).l.take q) (stW vs kind drop end_ (l.take k))
  rw [List.length_take] at hout2
  rcases Nat.lt_or_ge q (vs.getD (l.getD k default).toNat default).l.length with hq | hq
  case inr =>
    rw [List.take_of_length_le hq, ← hst] at aw
    rw [List.take_of_length_le hq, ← hst]
    repeat' first
      | (refine J.isJ ?_; first | (fail) | (first | (refine J.o 0 ?_; refine J.ev' hΓ ?_) | refine J.nil ?_ | (refine J.o 4 ?_; first | refine J.e0 hΓ ?_ | refine J.lT default hΓ ?_ | refine J.e1 hΓ ?_ | refine J.lR hΓ ?_) | (refine J.o 3 ?_; first | refine J.iJ hΓ ?_ | refine J.fP hΓ ?_ | refine J.ev' hΓ ?_) | (refine J.o 1 ?_; first | refine J.ad ?_) | (refine J.o 5 ?_; first | refine J.t0 hΓ ?_) | (refine J.o 6 ?_; refine J.bx (fun _ => ?_)) | (refine J.o 7 ?_; refine J.al hΓ (fun _ => ?_)) | (refine J.o 10 ?_; first | refine J.ev' hΓ ?_) | (refine J.o 11 ?_; first | refine J.ev' hΓ ?_) | (refine J.o 14 ?_; refine J.mf hΓ ?_)))
      | (first | refine JC.seq ?_ | refine JC.region ?_ | refine JC.block ?_ | refine JC.ret ?_ | refine JC.exit ?_ | refine JC.skip ?_ | refine thenK.nn ?_ | refine thenK.x ?_ | refine blockK.nn ?_ | refine blockK.hit rfl ?_ | (refine JC.cond rfl (fun hc => ?_) (fun hc => ?_) <;> ((try simp only [decide_eq_true_eq, decide_eq_false_iff_not, beq_iff_eq, beq_eq_false_iff_ne, bne_iff_ne, bne_eq_false_iff_eq, Bool.not_eq_true', Bool.not_eq_false', Bool.not_eq_true, Bool.not_eq_false] at hc) <;> first | (first | (exact absurd rfl hc) | (exfalso; omega) | (exact absurd (hc.symm.trans (by assumption : _ = false)) (by decide)) | (exact absurd (hc.symm.trans (by assumption : _ = true)) (by decide))) | skip)) | refine drawK.nn ?_ | refine loopK.x ?_)
      | (fail)
      | fail
    all_goals first | (exfalso; omega) | skip
    refine loopK.nn (m - 1) (by omega) (by repeat (first | refine Ag.upd rfl ?_ | exact Ag.hv | refine Ag.hv2 (fun i hi => by simp at hi ⊢; omega) ?_)) ⟨k + 1, ao, co, hO, lm, hM, ?_, by omega, aw, rfl⟩
    show Value.int .i64 _ = _; congr 1
  have hxq := hrj _ (mem_g (vs.getD (l.getD k default).toNat default).l q hq)
  have hst3 : ((vs.getD (l.getD k default).toNat default).l.take (q + 1)).foldl (addS (vs.map pnV) drop end_) (stW vs kind drop end_ (l.take k)) = addS (vs.map pnV) drop end_ (((vs.getD (l.getD k default).toNat default).l.take q).foldl (addS (vs.map pnV) drop end_) (stW vs kind drop end_ (l.take k))) ((vs.getD (l.getD k default).toNat default).l.getD q default) := by
    rw [take_g _ _ hq, List.foldl_append]; rfl
  unfold addL intO ptrO bO
  simp only [List.cons_append, List.nil_append]
  unfold slO mapO boolO
  repeat' first
    | (refine J.isJ ?_; first | (first | (refine J.o 4 ?_; refine J.lT default hΓ ?_ (hs := hin) (hr := rdh.tl.tl.tl.tl.tl)) | (refine J.o 9 ?_; refine J.callvx eAdd1 rfl rfl rfl (fun w hw => add1_any ((vs.getD (l.getD k default).toNat default).l.getD q default) rdd ow hxq (by omega) hlit aw (by omega) hw) ?_; rintro _ _ ⟨ao2, co2, hO2, lm2, hM2, rfl, rfl, aw2⟩)) | (first | (refine J.o 0 ?_; refine J.ev' hΓ ?_) | refine J.nil ?_ | (refine J.o 4 ?_; first | refine J.e0 hΓ ?_ | refine J.lT default hΓ ?_ | refine J.e1 hΓ ?_ | refine J.lR hΓ ?_) | (refine J.o 3 ?_; first | refine J.iJ hΓ ?_ | refine J.fP hΓ ?_ | refine J.ev' hΓ ?_) | (refine J.o 1 ?_; first | refine J.ad ?_) | (refine J.o 5 ?_; first | refine J.t0 hΓ ?_) | (refine J.o 6 ?_; refine J.bx (fun _ => ?_)) | (refine J.o 7 ?_; refine J.al hΓ (fun _ => ?_)) | (refine J.o 10 ?_; first | refine J.ev' hΓ ?_) | (refine J.o 11 ?_; first | refine J.ev' hΓ ?_) | (refine J.o 14 ?_; refine J.mf hΓ ?_)))
    | (first | refine JC.seq ?_ | refine JC.region ?_ | refine JC.block ?_ | refine JC.ret ?_ | refine JC.exit ?_ | refine JC.skip ?_ | refine thenK.nn ?_ | refine thenK.x ?_ | refine blockK.nn ?_ | refine blockK.hit rfl ?_ | (refine JC.cond rfl (fun hc => ?_) (fun hc => ?_) <;> ((try simp only [decide_eq_true_eq, decide_eq_false_iff_not, beq_iff_eq, beq_eq_false_iff_ne, bne_iff_ne, bne_eq_false_iff_eq, Bool.not_eq_true', Bool.not_eq_false', Bool.not_eq_true, Bool.not_eq_false] at hc) <;> first | (first | (exact absurd rfl hc) | (exfalso; omega) | (exact absurd (hc.symm.trans (by assumption : _ = false)) (by decide)) | (exact absurd (hc.symm.trans (by assumption : _ = true)) (by decide))) | skip)) | refine drawK.nn ?_ | refine loopK.x ?_)
    | (fail)
    | fail
  all_goals first | (exfalso; omega) | skip
  rw [← hst3] at aw2 ⊢
  refine loopK.nn (m2 - 1) (by omega) (by repeat (first | refine Ag.upd rfl ?_ | exact Ag.hv)) ⟨q + 1, ao2, co2, hO2, lm2, hM2, ?_, by omega, aw2, rfl⟩
  show Value.int .i64 _ = _; congr 1
end Go.Proofs.YtdiciemlbhkilaaGreatDoor
namespace Go.Proofs.YtdiciemlbhkilaaGreatDoor
open Go Go.Cx Go.RowKit
set_option linter.unusedVariables false
set_option linter.unusedSimpArgs false
set_option maxHeartbeats 4000000
attribute [local irreducible] J JC thenK blockK loopK roundK drawK retK QW Qt pel List.set Calls
attribute [local irreducible] JE Br eK0 eK3 brK
structure OkX (m : Nat) (x : PN) : Prop where
  k : 0 ≤ x.1 ∧ x.1 ≤ 4
  t : -128 ≤ x.2.1 ∧ x.2.1 ≤ 128
  z : x.1 = 2 → x.2.1 ≠ 0
  s : x.2.2.Pairwise (· < ·)
  r : ∀ i, i ∈ x.2.2 → 0 ≤ i ∧ i < m
def OkP (B : List PN) : Prop := ∀ x, x ∈ B → OkX B.length x
theorem OkX.mono {m m' : Nat} {x : PN} (h : OkX m x) (hm : m ≤ m') : OkX m' x := ⟨h.k, h.t, h.z, h.s, fun i hi => by have := h.r i hi; omega⟩
theorem asc_len : ∀ (l : List Int) (lo hi : Int), lo ≤ hi → l.Pairwise (· < ·) → (∀ i, i ∈ l → lo ≤ i ∧ i < hi) → (l.length : Int) ≤ hi - lo
  | [], lo, hi, h, _, _ => by simp only [List.length_nil]; omega
  | x :: l, lo, hi, h, hp, hr => by
    rw [List.pairwise_cons] at hp
    have hx := hr x List.mem_cons_self
    have := asc_len l (x + 1) hi (by omega) hp.2 fun i hi2 => ⟨by have := hp.1 i hi2; omega, (hr i (List.mem_cons_of_mem _ hi2)).2⟩
    rw [List.length_cons]
    omega
theorem OkX.len {m : Nat} {x : PN} (h : OkX m x) : x.2.2.length ≤ m := by
  have := asc_len x.2.2 0 m (by omega) h.s h.r
  omega
theorem OkP.okB {vs : List NV} (h : OkP (vs.map pnV)) (hl : vs.length ≤ 65536) : OkB vs := by
  constructor
  · intro v hv
    have hx := h (pnV v) (List.mem_map_of_mem hv)
    rw [List.length_map] at hx
    have hln := hx.len
    exact ⟨hx.k, hx.t, (by have : v.l.length ≤ vs.length := hln; omega), fun k hk => by have := hx.r k hk; omega⟩
  · intro v hv
    have hx := h (pnV v) (List.mem_map_of_mem hv)
    rw [List.length_map] at hx
    exact hx.r
theorem OkP.put {B : List PN} (h : OkP B) {x : PN} (hx : OkX B.length x) : OkP (putP B x).2 ∧ B.length ≤ (putP B x).2.length ∧ (putP B x).2.length ≤ B.length + 1 ∧ 0 ≤ (putP B x).1 ∧ (putP B x).1 < (putP B x).2.length := by
  unfold putP
  by_cases hm : x ∈ B
  · rw [if_pos hm]
    have := idx_nat B x hm
    exact ⟨h, Nat.le_refl _, Nat.le_succ _, this.1, this.2⟩
  · rw [if_neg hm]
    refine ⟨fun y hy => ?_, ?_, ?_, ?_, ?_⟩
    · rw [List.length_append]
      rcases List.mem_append.1 hy with hy | hy
      · exact (h y hy).mono (Nat.le_add_right _ _)
      · rw [List.mem_singleton.1 hy]; exact hx.mono (Nat.le_add_right _ _)
    all_goals (simp only [List.length_append, List.length_cons, List.length_nil]; omega)
theorem okX_const {m : Nat} {k : Int} (hk : 0 ≤ k ∧ k ≤ 4) (h2 : k ≠ 2) : OkX m (k, 0, []) := ⟨hk, ⟨(by decide : (-128 : Int) ≤ 0), (by decide : (0 : Int) ≤ 128)⟩, fun h => absurd h h2, List.Pairwise.nil, fun i hi => absurd hi List.not_mem_nil⟩
theorem sorted_lt {l : List Int} (h : l.Pairwise (· ≤ ·)) (hn : l.Nodup) : l.Pairwise (· < ·) := by
  induction l with
  | nil => exact List.Pairwise.nil
  | cons x l ih =>
    rw [List.pairwise_cons] at h
    rw [List.nodup_cons] at hn
    refine List.pairwise_cons.2 ⟨fun y hy => ?_, ih h.2 hn.2⟩
    have := h.1 y hy
    have : x ≠ y := fun e => hn.1 (e ▸ hy)
    omega
theorem flat_rng {B : List PN} (h : OkP B) (kind : Int) {l : List Int} (hl : ∀ i, i ∈ l → 0 ≤ i ∧ i < B.length) : ∀ i, i ∈ flatP B kind l → 0 ≤ i ∧ i < B.length := fun i hi => by
  unfold flatP at hi
  obtain ⟨j, hj, hi⟩ := List.mem_flatMap.1 hi
  have hjr := hl j hj
  split at hi
  · have hm := mem_g B j.toNat (by omega)
    exact (h _ hm).r i hi
  · rw [List.mem_singleton.1 hi]; exact hjr
theorem lit_ne {B : List PN} (h : OkP B) : ∀ i, kindP B i = 2 → litP B i ≠ 0 := fun i hk => by
  unfold kindP at hk
  unfold litP
  by_cases hi : i.toNat < B.length
  · exact (h _ (mem_g B _ hi)).z hk
  · rw [List.getD_eq_getElem?_getD, List.getElem?_eq_none (by omega)] at hk
    exact absurd hk (by decide)
def dropK (kind : Int) : Int := if kind = 4 then 0 else 1
def endK (kind : Int) : Int := if kind = 4 then 1 else 0
theorem add_const {B : List PN} {x : PN} (hx : x.1 ≠ 3 ∧ x.1 ≠ 4) : addP B x = putP B (x.1, x.2.1, []) := by
  unfold addP; rw [if_pos hx]
theorem add_gate {B : List PN} (h : OkP B) {kind lt : Int} {l : List Int} (hk : kind = 3 ∨ kind = 4) (s : StN) (hs : s = (flatP B kind l).foldl (addS B (dropK kind) (endK kind)) ⟨[], [], true⟩) :
    addP B (kind, lt, l) = (if s.open_ = true then (if s.out.length = 0 then putP B (dropK kind, 0, []) else if s.out.length = 1 then ((sortS s.out).getD 0 default, B) else putP B (kind, 0, sortS s.out)) else putP B (endK kind, 0, [])) := by
  have ag := agree_all (B := B) (drop := dropK kind) (end_ := endK kind) (by unfold dropK endK; split <;> decide) (by unfold dropK; split <;> decide) (lit_ne h) (flatP B kind l)
  rw [← hs] at ag
  have hn : ¬ (kind ≠ 3 ∧ kind ≠ 4) := by omega
  have hA : addP B (kind, lt, l) = (if decR B (inputsR B kind (dropK kind) l) (endK kind) = true then putP B (endK kind, 0, []) else match inputsR B kind (dropK kind) l with
      | [] => putP B (dropK kind, 0, [])
      | [y] => (y, B)
      | _ => putP B (kind, 0, sortS (inputsR B kind (dropK kind) l))) := by
    unfold addP
    rw [if_neg hn]
    rfl
  rw [hA]
  have e1 : inputsR B kind (dropK kind) l = (flatP B kind l).foldl (dedS B (dropK kind)) [] := rfl
  rw [e1]
  generalize (flatP B kind l).foldl (dedS B (dropK kind)) [] = D at *
  cases hd : decR B D (endK kind) with
  | true =>
    have : s.open_ = false := by rw [ag.op, hd]; rfl
    rw [this, if_pos rfl, if_neg (by decide)]
  | false =>
    have ho : s.open_ = true := by rw [ag.op, hd]; rfl
    rw [ho, if_neg (by decide), if_pos rfl, ← ag.eq ho]
    rcases hl : s.out with _ | ⟨y, _ | ⟨z, t⟩⟩
    · rfl
    · rfl
    · rfl
theorem out_facts {B : List PN} (h : OkP B) {kind : Int} {l : List Int} (hl : ∀ i, i ∈ l → 0 ≤ i ∧ i < B.length) (s : StN) (hs : s = (flatP B kind l).foldl (addS B (dropK kind) (endK kind)) ⟨[], [], true⟩) (ho : s.open_ = true) :
    (sortS s.out).Pairwise (· < ·) ∧ (∀ i, i ∈ sortS s.out ↔ i ∈ flatP B kind l ∧ kindP B i ≠ dropK kind) ∧ ∀ i, i ∈ sortS s.out → 0 ≤ i ∧ i < B.length := by
  have ag := agree_all (B := B) (drop := dropK kind) (end_ := endK kind) (by unfold dropK endK; split <;> decide) (by unfold dropK; split <;> decide) (lit_ne h) (flatP B kind l)
  rw [← hs] at ag
  have e := ag.eq ho
  have hm : ∀ i, i ∈ sortS s.out ↔ i ∈ flatP B kind l ∧ kindP B i ≠ dropK kind := fun i => by
    rw [(sortS_perm s.out).mem_iff, e]; exact ag.mem i
  refine ⟨sorted_lt (sortS_sorted _) ((sortS_perm s.out).nodup_iff.2 (e ▸ ag.nd)), hm, fun i hi => flat_rng h kind hl i ((hm i).1 hi).1⟩
theorem formed_rng {x : PN} {N m : Int} (hf : formedP x N m = true) : ∀ i, i ∈ x.2.2 → 0 ≤ i ∧ i < m := fun i hi => by
  unfold formedP at hf
  simp only [Bool.and_eq_true, Bool.not_eq_true'] at hf
  have := List.any_eq_false.1 hf.1 i hi
  unfold badI at this
  simp only [Bool.or_eq_true, decide_eq_true_eq] at this
  omega
theorem formed_const {x : PN} {N : Int} {bf : Int} {m : Nat} (hN : 0 ≤ N ∧ N ≤ 128) (hf : formedP x N bf = true) (hk : ¬ (x.1 = 3 ∨ x.1 = 4)) : OkX m (x.1, x.2.1, []) := by
  obtain ⟨kind, lt, l⟩ := x
  unfold formedP at hf
  simp only [Bool.and_eq_true, Bool.not_eq_true'] at hf
  obtain ⟨hf1, hf2⟩ := hf
  simp only at hk hf2 ⊢
  rw [if_neg hk] at hf2
  split at hf2
  · simp only [Bool.and_eq_true, decide_eq_true_eq] at hf2
    rw [hf2.1]
    exact okX_const (by omega) (by omega)
  · split at hf2
    · simp only [Bool.and_eq_true, validB, decide_eq_true_eq] at hf2
      have hl := hf2.1
      exact ⟨⟨by show 0 ≤ kind; omega, by show kind ≤ 4; omega⟩, ⟨by show -128 ≤ lt; omega, by show lt ≤ 128; omega⟩, fun _ => hl.1, List.Pairwise.nil, fun i hi => absurd hi List.not_mem_nil⟩
    · cases hf2
theorem OkP.add {B : List PN} (h : OkP B) {N : Int} (hN : 0 ≤ N ∧ N ≤ 128) {x : PN} (hf : formedP x N B.length = true) : OkP (addP B x).2 ∧ B.length ≤ (addP B x).2.length ∧ (addP B x).2.length ≤ B.length + 1 ∧ 0 ≤ (addP B x).1 ∧ (addP B x).1 < (addP B x).2.length := by
  have hr := formed_rng hf
  have hc := fun hk => formed_const (m := B.length) hN hf hk
  obtain ⟨kind, lt, l⟩ := x
  simp only at hr hc
  by_cases hk : kind = 3 ∨ kind = 4
  case neg =>
    rw [add_const (x := (kind, lt, l)) ⟨fun e => hk (.inl e), fun e => hk (.inr e)⟩]
    exact h.put (hc hk)
  rw [add_gate h hk _ rfl]
  generalize hs : (flatP B kind l).foldl (addS B (dropK kind) (endK kind)) ⟨[], [], true⟩ = s
  have hdk : 0 ≤ dropK kind ∧ dropK kind ≤ 1 := by unfold dropK; split <;> decide
  have hek : 0 ≤ endK kind ∧ endK kind ≤ 1 := by unfold endK; split <;> decide
  by_cases ho : s.open_ = true
  case neg => rw [if_neg ho]; exact h.put (okX_const (by omega) (by omega))
  have of := out_facts h hr s hs.symm ho
  have hln := sortS_len s.out
  rw [if_pos ho]
  split
  · exact h.put (okX_const (by omega) (by omega))
  · split
    · have hm := mem_g (sortS s.out) 0 (by omega)
      have := of.2.2 _ hm
      exact ⟨h, Nat.le_refl _, Nat.le_succ _, this.1, this.2⟩
    · refine h.put ⟨by show 0 ≤ kind ∧ kind ≤ 4; omega, ⟨(by decide : (-128 : Int) ≤ 0), (by decide : (0 : Int) ≤ 128)⟩, fun e => ?_, of.1, of.2.2⟩
      have e : kind = 2 := e
      omega
end Go.Proofs.YtdiciemlbhkilaaGreatDoor
namespace Go.Proofs.YtdiciemlbhkilaaGreatDoor
open Go Go.Cx Go.RowKit
set_option linter.unusedVariables false
set_option linter.unusedSimpArgs false
set_option maxHeartbeats 4000000
attribute [local irreducible] J JC thenK blockK loopK roundK drawK retK QW Qt pel List.set Calls
attribute [local irreducible] JE Br eK0 eK3 brK
section
variable {P : Program} {n : Nat} {w0 : World} {R : Heap} {l0 : List Oper} {K : Exit → Fr → List Heap → Prop} {f : Fr} {L : List Heap} {rest : List (Nat × Oper)} {κ : Nat}
variable {Γ : List (Nat × TI)} {d : Nat} {ty : TypeId} {pos : String} {aft : Array Edge} {g : Option (Nat × Bool)} {t u kt et : TypeId} {x y : Operand}
theorem J.mN {p : Option Nat} {s1 b1 : Nat} {z1 : Option Value} (hΓ : Fits P Γ) (k : J P n w0 R l0 K rest (upd f d (.bool p.isNone)) L) (hg : wantB n f l0 ⟨some d, .binOp .eql t x y u, ty, pos, aft, g⟩ = true := by exact rfl) (hx : Cx.ev n f x = .map p := by exact rfl) (hy : Cx.ev n f y = .map none := by exact rfl) (ht : Go.Cx.look Γ t = some ⟨.map kt et, s1, z1, b1⟩ := by exact rfl) : J P n w0 R l0 K ((κ, ⟨some d, .binOp .eql t x y u, ty, pos, aft, g⟩) :: rest) f L :=
  J.p hg (fun w => by
    have hu := (hΓ t _ ht).1
    have h : ∀ d : Nat, (Op.equalIn (d + 1) t (.map p) (.map none)).run P w = .ok p.isNone w := fun d => by
      cases p <;> simp [Op.equalIn, run_underlying hu]
    have h2 : (binOp .eql t (.map p) (.map none)).run P w = .ok (.bool p.isNone) w := by
      simp only [binOp]
      simp [Op.equal, Op.maxDepth, h 9999]
    have h3 : (eqGuard .eql t x y (.map p) (.map none)).run P w = .ok () w := by simp [eqGuard]
    simp only [execOp, hx, hy, Sem.run_bind, h3, Result.andThen_ok, h2]
    rfl) k
end
theorem hrot4 {w0 w : World} {R x a b c d : Heap} {L : List Heap} (h : H w0 R (x :: a :: b :: c :: d :: L) w) : H w0 R (a :: b :: c :: d :: x :: L) w := H.sel (l := [_, _, _, _, _]) (M := L) h [1, 2, 3, 4, 0]
theorem lit_sl (a : Option Addr) : SlT encI 1 a [] [] := ⟨fun _ => rfl, fun i hi => absurd hi (Nat.not_lt_zero _)⟩
theorem eAddN : Entr Tryz.prog 39 := Entr.of Tryz.func39 rfl rfl
set_option maxHeartbeats 16000000 in
theorem addN_any (N : Int) (hN : 0 ≤ N ∧ N ≤ 128) (v : NV) {w0 w : World} {R : Heap} {L : List Heap} {b cap bm : Nat} {a : Option Addr} {vs : List NV} {ho hi hm hl : Heap} (hsl : SlT encI 1 v.a v.l hl) (rl : RdH R L hl) (hvl : v.l.length ≤ 1000000) (hf : formedP (pnV v) N vs.length = true) (hT : Tab w0) (bs : BS vs a cap bm ho hi hm) (op : OkP (vs.map pnV)) (hv65 : vs.length < 65536) (hw : H w0 R (bL N b a vs cap bm ho hi hm ++ L) w) :
    Calls Tryz.prog 39 #[.pointer (some ⟨b, 0, none⟩), .agg ⟨encNV v⟩] w fun e w' => ∃ v' L', e = .returned v' ∧ H w0 R L' w' ∧ ∃ a' cap' ho' hi' hm' vs', v' = .tuple #[.int .i64 (addP (vs.map pnV) (pnV v)).1, .int .i64 0] ∧ L' = bL N b a' vs' cap' bm ho' hi' hm' ++ L ∧ BS vs' a' cap' bm ho' hi' hm' ∧ vs'.map pnV = (addP (vs.map pnV) (pnV v)).2 := by
  have cF := fun w hw => formedN_any v hl hsl hvl N vs.length hN w hw
  rw [hf] at cF
  by_cases hk : v.kind = 3 ∨ v.kind = 4
  case neg =>
    have hA : addP (vs.map pnV) (pnV v) = putP (vs.map pnV) (v.kind, v.lit, []) := add_const (x := pnV v) ⟨fun e => hk (.inl e), fun e => hk (.inr e)⟩
    rw [hA]
    unfold bL at hw
    simp only [List.cons_append, List.nil_append] at hw
    have hlen : (vs.map pnV).length = vs.length := List.length_map ..
    refine calls_in Tryz.func39 Tryz.ntmps39 rfl rfl (hw) ?_
    unfold bO
    have okv : OkV ⟨v.kind, v.lit, none, 0, []⟩ := by
      have hx := formed_const (m := 0) hN hf hk
      exact ⟨hx.k, hx.t, Nat.zero_le _, fun k hk => absurd hk List.not_mem_nil⟩
    repeat' first
      | (refine J.isJ ?_; first | (first | (refine J.o 11 ?_; first | refine J.pN hΓ ?_ | refine J.mN hΓ ?_) | (refine J.fc 81 ?_; refine J.call0 eForm rfl rfl (fun w hw => cF w (hw.rdH rl.tl.tl.tl.tl.tl)) ?_) | (refine J.fc 82 ?_; refine J.callx ePut rfl rfl (fun w hw => put_any ⟨v.kind, v.lit, none, 0, []⟩ okv hT bs (lit_sl none) hv65 (H.sel (l := [_, _, _, _, _, _]) (M := L) hw.nilF [0, 2, 3, 4, 5])) ?_; rintro _ _ ⟨a2, c2, ho2, hi2, hm2, vs2, rfl, rfl, bs2, e2, _⟩)) | (first | (refine J.o 0 ?_; refine J.ev' hΓ ?_) | refine J.nil ?_ | (refine J.o 4 ?_; first | refine J.e0 hΓ ?_ | refine J.e1 hΓ ?_ | refine J.lT default hΓ ?_ | refine J.lR hΓ ?_) | (refine J.o 3 ?_; first | refine J.iJ hΓ ?_ | refine J.ev' hΓ ?_) | (refine J.o 6 ?_; refine J.bx (fun _ => ?_)) | (refine J.o 8 ?_; refine J.bd hΓ ?_) | (refine J.o 10 ?_; refine J.ev' hΓ ?_) | (refine J.o 11 ?_; refine J.ev' hΓ ?_)))
      | (first | refine JC.seq ?_ | refine JC.region ?_ | refine JC.block ?_ | refine JC.ret ?_ | refine JC.skip ?_ | refine thenK.nn ?_ | refine thenK.r ?_ | refine blockK.nn ?_ | refine blockK.r ?_ | refine JC.condF rfl ?_ | (refine JC.cond rfl (fun hc => ?_) (fun hc => ?_) <;> ((try simp only [decide_eq_true_eq, decide_eq_false_iff_not, beq_iff_eq, beq_eq_false_iff_ne, bne_iff_ne, bne_eq_false_iff_eq, Bool.not_eq_true', Bool.not_eq_false', Bool.not_eq_true, Bool.not_eq_false] at hc) <;> first | (first | (exact absurd rfl hc) | (exfalso; omega) | (exact absurd (hc.symm.trans (by assumption : _ = false)) (by decide)) | (exact absurd (hc.symm.trans (by assumption : _ = true)) (by decide))) | skip)) | refine drawK.nn ?_)
      | ((refine JC.drawN [] [] (by kernel_rfl) (by kernel_rfl) ?_))
      | fail
    all_goals first | (exfalso; omega) | skip
    exact ret2f rfl rfl rfl rfl rfl (fun w1 hw => ⟨_, _, rfl, hw, a2, c2, ho2, hi2, hm2, vs2, rfl, rfl, bs2, e2⟩)
  have hlen : (vs.map pnV).length = vs.length := List.length_map ..
  have hf' := hf
  rw [← hlen] at hf'
  have hrg : ∀ i, i ∈ v.l → 0 ≤ i ∧ i < vs.length := formed_rng hf
  have okb := op.okB (by omega)
  have okC : ∀ k : Int, 0 ≤ k ∧ k ≤ 1 → OkV ⟨k, 0, none, 0, []⟩ := fun k hk => ⟨by show 0 ≤ k ∧ k ≤ 4; omega, ⟨(by decide : (-128 : Int) ≤ 0), (by decide : (0 : Int) ≤ 128)⟩, Nat.zero_le _, fun i hi => absurd hi List.not_mem_nil⟩
  unfold bL at hw
  simp only [List.cons_append, List.nil_append] at hw
  rcases hk with hk | hk
  · have hd : dropK v.kind = 1 := by unfold dropK; rw [hk]; rfl
    have he : endK v.kind = 0 := by unfold endK; rw [hk]; rfl
    have hA := add_gate op (kind := v.kind) (lt := v.lit) (l := v.l) (by omega) _ rfl
    have hof := fun ho => out_facts op (kind := v.kind) (l := v.l) (formed_rng hf') _ rfl ho
    rw [hd, he] at hA
    rw [hd, he] at hof
    have hA : addP (vs.map pnV) (pnV v) = (if (stW vs v.kind 1 0 v.l).open_ = true then (if (stW vs v.kind 1 0 v.l).out.length = 0 then putP (vs.map pnV) (1, 0, []) else if (stW vs v.kind 1 0 v.l).out.length = 1 then ((sortS (stW vs v.kind 1 0 v.l).out).getD 0 default, vs.map pnV) else putP (vs.map pnV) (v.kind, 0, sortS (stW vs v.kind 1 0 v.l).out)) else putP (vs.map pnV) (0, 0, [])) := hA
    have hof : (stW vs v.kind 1 0 v.l).open_ = true → (sortS (stW vs v.kind 1 0 v.l).out).Pairwise (· < ·) ∧ _ ∧ ∀ i, i ∈ sortS (stW vs v.kind 1 0 v.l).out → 0 ≤ i ∧ i < ((vs.map pnV).length : Int) := hof
    rw [hlen] at hof
    have okM : (stW vs v.kind 1 0 v.l).open_ = true → ∀ ao co, OkV ⟨v.kind, 0, ao, co, sortS (stW vs v.kind 1 0 v.l).out⟩ := fun ho ao co => by
      have h := hof ho
      have h2 := asc_len _ 0 vs.length (by omega) h.1 h.2.2
      exact ⟨by show 0 ≤ v.kind ∧ v.kind ≤ 4; omega, ⟨(by decide : (-128 : Int) ≤ 0), (by decide : (0 : Int) ≤ 128)⟩, by show (sortS (stW vs v.kind 1 0 v.l).out).length ≤ 1000000; omega, fun k hk => by have := h.2.2 k hk; omega⟩
    have hln := sortS_len (stW vs v.kind 1 0 v.l).out
    refine calls_in Tryz.func39 Tryz.ntmps39 rfl rfl (hw) ?_
    unfold bO
    repeat' first
      | (refine J.isJ ?_; first | (first | (refine J.o 11 ?_; first | refine J.pN hΓ ?_ | refine J.mN hΓ ?_) | (refine J.o 4 ?_; first | refine J.lT default hΓ ?_ (hs := oO.sl) (hr := RdH.hd) | refine J.lR hΓ ?_ (hr := Rd.hd.tl.tl.tl.tl.tl)) | (refine J.fc 81 ?_; refine J.call0 eForm rfl rfl (fun w hw => cF w (hw.rdH rl.tl.tl.tl.tl.tl)) ?_) | (refine J.fc 83 ?_; refine J.callx eInp rfl rfl (fun w hw => inputs_any v.kind 1 0 v.l v.a v.c hsl rl.tl bs.ow bs.ins okb (by omega) hvl hrg (show H w0 R (bL N b a vs cap bm ho hi hm ++ (_ :: L)) w from hrot4 hw)) ?_; rintro _ _ ⟨ao, co, hO, rfl, rfl, oO⟩; unfold bL bO; simp only [List.cons_append, List.nil_append]) | (refine J.fc 82 ?_; (first | refine J.callx ePut rfl rfl (fun w hw => put_any ⟨v.kind, 0, ao, co, sortS (stW vs v.kind 1 0 v.l).out⟩ (okM (by assumption) ao co) hT bs oO.sl hv65 (H.sel (l := [_, _, _, _, _, _]) (M := L) hw [0, 1, 2, 3, 4])) ?_ | refine J.callx ePut rfl rfl (fun w hw => put_any ⟨0, 0, none, 0, []⟩ (okC 0 (by decide)) hT bs (lit_sl none) hv65 (H.sel (l := [_, _, _, _, _, _, _]) (M := L) hw.nilF [0, 2, 3, 4, 5])) ?_ | refine J.callx ePut rfl rfl (fun w hw => put_any ⟨1, 0, none, 0, []⟩ (okC 1 (by decide)) hT bs (lit_sl none) hv65 (H.sel (l := [_, _, _, _, _, _, _]) (M := L) hw.nilF [0, 2, 3, 4, 5])) ?_); rintro _ _ ⟨a2, c2, ho2, hi2, hm2, vs2, rfl, rfl, bs2, e2, _⟩)) | (first | (refine J.o 0 ?_; refine J.ev' hΓ ?_) | refine J.nil ?_ | (refine J.o 4 ?_; first | refine J.e0 hΓ ?_ | refine J.e1 hΓ ?_ | refine J.lT default hΓ ?_ | refine J.lR hΓ ?_) | (refine J.o 3 ?_; first | refine J.iJ hΓ ?_ | refine J.ev' hΓ ?_) | (refine J.o 6 ?_; refine J.bx (fun _ => ?_)) | (refine J.o 8 ?_; refine J.bd hΓ ?_) | (refine J.o 10 ?_; refine J.ev' hΓ ?_) | (refine J.o 11 ?_; refine J.ev' hΓ ?_)))
      | (first | refine JC.seq ?_ | refine JC.region ?_ | refine JC.block ?_ | refine JC.ret ?_ | refine JC.skip ?_ | refine thenK.nn ?_ | refine thenK.r ?_ | refine blockK.nn ?_ | refine blockK.r ?_ | refine JC.condF rfl ?_ | (refine JC.cond rfl (fun hc => ?_) (fun hc => ?_) <;> ((try simp only [decide_eq_true_eq, decide_eq_false_iff_not, beq_iff_eq, beq_eq_false_iff_ne, bne_iff_ne, bne_eq_false_iff_eq, Bool.not_eq_true', Bool.not_eq_false', Bool.not_eq_true, Bool.not_eq_false] at hc) <;> first | (first | (exact absurd rfl hc) | (exfalso; omega) | (exact absurd (hc.symm.trans (by assumption : _ = false)) (by decide)) | (exact absurd (hc.symm.trans (by assumption : _ = true)) (by decide))) | skip)) | refine drawK.nn ?_)
      | ((refine JC.drawN [] [] (by kernel_rfl) (by kernel_rfl) ?_))
      | fail
    all_goals first | (exfalso; omega) | skip
    all_goals rw [hA]
    · rw [if_neg (by rw [hc]; decide)]
      exact ret2f rfl rfl rfl rfl rfl (fun w1 hw => ⟨_, _, rfl, hw, a2, c2, ho2, hi2, hm2, vs2, rfl, rfl, bs2, e2⟩)
    · rw [if_pos (by assumption : (stW vs v.kind 1 0 v.l).open_ = true), if_pos (by omega : (stW vs v.kind 1 0 v.l).out.length = 0)]
      exact ret2f rfl rfl rfl rfl rfl (fun w1 hw => ⟨_, _, rfl, hw, a2, c2, ho2, hi2, hm2, vs2, rfl, rfl, bs2, e2⟩)
    · rw [if_pos (by assumption : (stW vs v.kind 1 0 v.l).open_ = true), if_neg (by omega : ¬ (stW vs v.kind 1 0 v.l).out.length = 0), if_pos (by omega : (stW vs v.kind 1 0 v.l).out.length = 1)]
      exact ret2f rfl rfl rfl rfl rfl (fun w1 hw => ⟨_, _, rfl, H.sel (l := [_, _, _, _, _, _]) (M := L) hw [1, 2, 3, 4], a, cap, ho, hi, hm, vs, rfl, rfl, bs, rfl⟩)
    · rw [if_pos (by assumption : (stW vs v.kind 1 0 v.l).open_ = true), if_neg (by omega : ¬ (stW vs v.kind 1 0 v.l).out.length = 0), if_neg (by omega : ¬ (stW vs v.kind 1 0 v.l).out.length = 1)]
      exact ret2f rfl rfl rfl rfl rfl (fun w1 hw => ⟨_, _, rfl, hw, a2, c2, ho2, hi2, hm2, vs2, rfl, rfl, bs2, e2⟩)
  · have hd : dropK v.kind = 0 := by unfold dropK; rw [hk]; rfl
    have he : endK v.kind = 1 := by unfold endK; rw [hk]; rfl
    have hA := add_gate op (kind := v.kind) (lt := v.lit) (l := v.l) (by omega) _ rfl
    have hof := fun ho => out_facts op (kind := v.kind) (l := v.l) (formed_rng hf') _ rfl ho
    rw [hd, he] at hA
    rw [hd, he] at hof
    have hA : addP (vs.map pnV) (pnV v) = (if (stW vs v.kind 0 1 v.l).open_ = true then (if (stW vs v.kind 0 1 v.l).out.length = 0 then putP (vs.map pnV) (0, 0, []) else if (stW vs v.kind 0 1 v.l).out.length = 1 then ((sortS (stW vs v.kind 0 1 v.l).out).getD 0 default, vs.map pnV) else putP (vs.map pnV) (v.kind, 0, sortS (stW vs v.kind 0 1 v.l).out)) else putP (vs.map pnV) (1, 0, [])) := hA
    have hof : (stW vs v.kind 0 1 v.l).open_ = true → (sortS (stW vs v.kind 0 1 v.l).out).Pairwise (· < ·) ∧ _ ∧ ∀ i, i ∈ sortS (stW vs v.kind 0 1 v.l).out → 0 ≤ i ∧ i < ((vs.map pnV).length : Int) := hof
    rw [hlen] at hof
    have okM : (stW vs v.kind 0 1 v.l).open_ = true → ∀ ao co, OkV ⟨v.kind, 0, ao, co, sortS (stW vs v.kind 0 1 v.l).out⟩ := fun ho ao co => by
      have h := hof ho
      have h2 := asc_len _ 0 vs.length (by omega) h.1 h.2.2
      exact ⟨by show 0 ≤ v.kind ∧ v.kind ≤ 4; omega, ⟨(by decide : (-128 : Int) ≤ 0), (by decide : (0 : Int) ≤ 128)⟩, by show (sortS (stW vs v.kind 0 1 v.l).out).length ≤ 1000000; omega, fun k hk => by have := h.2.2 k hk; omega⟩
    have hln := sortS_len (stW vs v.kind 0 1 v.l).out
    refine calls_in Tryz.func39 Tryz.ntmps39 rfl rfl (hw) ?_
    unfold bO
    repeat' first
      | (refine J.isJ ?_; first | (first | (refine J.o 11 ?_; first | refine J.pN hΓ ?_ | refine J.mN hΓ ?_) | (refine J.o 4 ?_; first | refine J.lT default hΓ ?_ (hs := oO.sl) (hr := RdH.hd) | refine J.lR hΓ ?_ (hr := Rd.hd.tl.tl.tl.tl.tl)) | (refine J.fc 81 ?_; refine J.call0 eForm rfl rfl (fun w hw => cF w (hw.rdH rl.tl.tl.tl.tl.tl)) ?_) | (refine J.fc 83 ?_; refine J.callx eInp rfl rfl (fun w hw => inputs_any v.kind 0 1 v.l v.a v.c hsl rl.tl bs.ow bs.ins okb (by omega) hvl hrg (show H w0 R (bL N b a vs cap bm ho hi hm ++ (_ :: L)) w from hrot4 hw)) ?_; rintro _ _ ⟨ao, co, hO, rfl, rfl, oO⟩; unfold bL bO; simp only [List.cons_append, List.nil_append]) | (refine J.fc 82 ?_; (first | refine J.callx ePut rfl rfl (fun w hw => put_any ⟨v.kind, 0, ao, co, sortS (stW vs v.kind 0 1 v.l).out⟩ (okM (by assumption) ao co) hT bs oO.sl hv65 (H.sel (l := [_, _, _, _, _, _]) (M := L) hw [0, 1, 2, 3, 4])) ?_ | refine J.callx ePut rfl rfl (fun w hw => put_any ⟨1, 0, none, 0, []⟩ (okC 1 (by decide)) hT bs (lit_sl none) hv65 (H.sel (l := [_, _, _, _, _, _, _]) (M := L) hw.nilF [0, 2, 3, 4, 5])) ?_ | refine J.callx ePut rfl rfl (fun w hw => put_any ⟨0, 0, none, 0, []⟩ (okC 0 (by decide)) hT bs (lit_sl none) hv65 (H.sel (l := [_, _, _, _, _, _, _]) (M := L) hw.nilF [0, 2, 3, 4, 5])) ?_); rintro _ _ ⟨a2, c2, ho2, hi2, hm2, vs2, rfl, rfl, bs2, e2, _⟩)) | (first | (refine J.o 0 ?_; refine J.ev' hΓ ?_) | refine J.nil ?_ | (refine J.o 4 ?_; first | refine J.e0 hΓ ?_ | refine J.e1 hΓ ?_ | refine J.lT default hΓ ?_ | refine J.lR hΓ ?_) | (refine J.o 3 ?_; first | refine J.iJ hΓ ?_ | refine J.ev' hΓ ?_) | (refine J.o 6 ?_; refine J.bx (fun _ => ?_)) | (refine J.o 8 ?_; refine J.bd hΓ ?_) | (refine J.o 10 ?_; refine J.ev' hΓ ?_) | (refine J.o 11 ?_; refine J.ev' hΓ ?_)))
      | (first | refine JC.seq ?_ | refine JC.region ?_ | refine JC.block ?_ | refine JC.ret ?_ | refine JC.skip ?_ | refine thenK.nn ?_ | refine thenK.r ?_ | refine blockK.nn ?_ | refine blockK.r ?_ | refine JC.condF rfl ?_ | (refine JC.cond rfl (fun hc => ?_) (fun hc => ?_) <;> ((try simp only [decide_eq_true_eq, decide_eq_false_iff_not, beq_iff_eq, beq_eq_false_iff_ne, bne_iff_ne, bne_eq_false_iff_eq, Bool.not_eq_true', Bool.not_eq_false', Bool.not_eq_true, Bool.not_eq_false] at hc) <;> first | (first | (exact absurd rfl hc) | (exfalso; omega) | (exact absurd (hc.symm.trans (by assumption : _ = false)) (by decide)) | (exact absurd (hc.symm.trans (by assumption : _ = true)) (by decide))) | skip)) | refine drawK.nn ?_)
      | ((refine JC.drawN [] [] (by kernel_rfl) (by kernel_rfl) ?_))
      | fail
    all_goals first | (exfalso; omega) | skip
    all_goals rw [hA]
    · rw [if_neg (by rw [hc]; decide)]
      exact ret2f rfl rfl rfl rfl rfl (fun w1 hw => ⟨_, _, rfl, hw, a2, c2, ho2, hi2, hm2, vs2, rfl, rfl, bs2, e2⟩)
    · rw [if_pos (by assumption : (stW vs v.kind 0 1 v.l).open_ = true), if_pos (by omega : (stW vs v.kind 0 1 v.l).out.length = 0)]
      exact ret2f rfl rfl rfl rfl rfl (fun w1 hw => ⟨_, _, rfl, hw, a2, c2, ho2, hi2, hm2, vs2, rfl, rfl, bs2, e2⟩)
    · rw [if_pos (by assumption : (stW vs v.kind 0 1 v.l).open_ = true), if_neg (by omega : ¬ (stW vs v.kind 0 1 v.l).out.length = 0), if_pos (by omega : (stW vs v.kind 0 1 v.l).out.length = 1)]
      exact ret2f rfl rfl rfl rfl rfl (fun w1 hw => ⟨_, _, rfl, H.sel (l := [_, _, _, _, _, _]) (M := L) hw [1, 2, 3, 4], a, cap, ho, hi, hm, vs, rfl, rfl, bs, rfl⟩)
    · rw [if_pos (by assumption : (stW vs v.kind 0 1 v.l).open_ = true), if_neg (by omega : ¬ (stW vs v.kind 0 1 v.l).out.length = 0), if_neg (by omega : ¬ (stW vs v.kind 0 1 v.l).out.length = 1)]
      exact ret2f rfl rfl rfl rfl rfl (fun w1 hw => ⟨_, _, rfl, hw, a2, c2, ho2, hi2, hm2, vs2, rfl, rfl, bs2, e2⟩)
end Go.Proofs.YtdiciemlbhkilaaGreatDoor
namespace Go.Proofs.YtdiciemlbhkilaaGreatDoor
open Go Go.Cx Go.RowKit
set_option linter.unusedVariables false
set_option linter.unusedSimpArgs false
set_option maxHeartbeats 4000000
attribute [local irreducible] J JC thenK blockK loopK roundK drawK retK QW Qt pel List.set Calls
attribute [local irreducible] JE Br eK0 eK3 brK
def b2i (b : Bool) : Int := if b then 1 else 0
def Ord (B : List PN) : Prop := ∀ (i : Nat) (k : Int), k ∈ inP B i → 0 ≤ k ∧ k < i
def orS (U : List Bool) (l : List Int) (x : Bool) : List Bool := l.foldl (fun U k => U.set k.toNat (U.getD k.toNat false || x)) U
def mk (B : List PN) : Nat → List Bool → List Bool
  | 0, U => U
  | i + 1, U => mk B i (orS U (inP B i) (U.getD i false))
def markN (B : List PN) (r n : Nat) : List Bool := mk B (r + 1) ((List.replicate n false).set r true)
def rk (U : List Bool) : Nat → Int
  | 0 => 0
  | i + 1 => rk U i + b2i (U.getD i false)
def netTo (B : List PN) (U : List Bool) : Nat → List PN
  | 0 => []
  | i + 1 => netTo B U i ++ (if U.getD i false = true then [(kindP B i, litP B i, (inP B i).map fun k => rk U k.toNat)] else [])
def netP (B : List PN) (r : Nat) : List PN := netTo B (markN B r (r + 1)) (r + 1)
theorem orS_cons (U : List Bool) (k : Int) (l : List Int) (x : Bool) : orS U (k :: l) x = orS (U.set k.toNat (U.getD k.toNat false || x)) l x := rfl
theorem orS_snoc (U : List Bool) (k : Int) (l : List Int) (x : Bool) : orS U (l ++ [k]) x = (orS U l x).set k.toNat ((orS U l x).getD k.toNat false || x) := by
  unfold orS; rw [List.foldl_append]; rfl
theorem orS_len : ∀ (l : List Int) (U : List Bool) (x : Bool), (orS U l x).length = U.length
  | [], U, x => rfl
  | k :: l, U, x => by rw [orS_cons, orS_len l, List.length_set]
theorem getD_setB (U : List Bool) (k j : Nat) (y : Bool) : (U.set k y).getD j false = if k = j ∧ k < U.length then y else U.getD j false := by
  simp only [List.getD_eq_getElem?_getD, List.getElem?_set]
  by_cases h : k = j
  · subst h
    by_cases h2 : k < U.length
    · simp [h2]
    · simp [h2]
  · simp [h]
theorem orS_ne : ∀ (l : List Int) (U : List Bool) (x : Bool) (j : Nat), (∀ k, k ∈ l → k.toNat ≠ j) → (orS U l x).getD j false = U.getD j false
  | [], U, x, j, _ => rfl
  | k :: l, U, x, j, h => by
    rw [orS_cons, orS_ne l _ _ _ fun k hk => h k (List.mem_cons_of_mem _ hk), getD_setB, if_neg (fun e => h k List.mem_cons_self e.1)]
theorem orS_mono : ∀ (l : List Int) (U : List Bool) (x : Bool) (j : Nat), U.getD j false = true → (orS U l x).getD j false = true
  | [], U, x, j, h => h
  | k :: l, U, x, j, h => by
    rw [orS_cons]
    refine orS_mono l _ _ _ ?_
    rw [getD_setB]
    split
    · rename_i e; rw [e.1, h]; rfl
    · exact h
theorem orS_mem : ∀ (l : List Int) (U : List Bool) (j : Nat), (∃ k, k ∈ l ∧ k.toNat = j) → j < U.length → (orS U l true).getD j false = true
  | [], U, j, ⟨k, hk, _⟩, _ => absurd hk List.not_mem_nil
  | k :: l, U, j, ⟨q, hq, hqj⟩, hj => by
    rw [orS_cons]
    rcases List.mem_cons.1 hq with rfl | hq
    · refine orS_mono l _ _ _ ?_
      rw [getD_setB, if_pos ⟨hqj, by omega⟩, Bool.or_true]
    · exact orS_mem l _ j ⟨q, hq, hqj⟩ (by rw [List.length_set]; exact hj)
theorem mk_mono (B : List PN) : ∀ (n : Nat) (U : List Bool) (j : Nat), U.getD j false = true → (mk B n U).getD j false = true
  | 0, U, j, h => h
  | n + 1, U, j, h => by rw [mk]; exact mk_mono B n _ j (orS_mono _ _ _ _ h)
theorem mk_ge {B : List PN} (hB : Ord B) : ∀ (n : Nat) (U : List Bool) (j : Nat), n ≤ j + 1 → (mk B n U).getD j false = U.getD j false
  | 0, U, j, h => rfl
  | n + 1, U, j, h => by
    rw [mk, mk_ge hB n _ j (by omega), orS_ne]
    intro k hk
    have := hB n k hk
    omega
theorem mk_closed {B : List PN} (hB : Ord B) : ∀ (n : Nat) (U : List Bool), n ≤ U.length → ∀ i, i < n → (mk B n U).getD i false = true → ∀ k, k ∈ inP B i → (mk B n U).getD k.toNat false = true
  | 0, U, _, i, hi, _, _, _ => absurd hi (Nat.not_lt_zero _)
  | n + 1, U, hU, i, hi, h, k, hk => by
    rw [mk] at h ⊢
    by_cases e : i = n
    · subst e
      rw [mk_ge hB i _ i (by omega), orS_ne] at h
      · rw [h]
        refine mk_mono B i _ _ (orS_mem _ _ _ ⟨k, hk, rfl⟩ ?_)
        have := hB i k hk
        omega
      · intro q hq
        have := hB i q hq
        omega
    · exact mk_closed hB n _ (by rw [orS_len]; omega) i (by omega) h k hk
theorem netTo_len (B : List PN) (U : List Bool) : ∀ i, ((netTo B U i).length : Int) = rk U i
  | 0 => rfl
  | i + 1 => by
    rw [netTo, rk, List.length_append]
    have := netTo_len B U i
    cases U.getD i false with
    | true => rw [if_pos rfl]; show ((_ + 1 : Nat) : Int) = _ + 1; omega
    | false => rw [if_neg (by decide)]; show ((_ + 0 : Nat) : Int) = _ + 0; omega
section
variable {Γ : List (Nat × TI)} {e : TypeId}
variable {P : Program} {n : Nat} {w0 : World} {R : Heap} {l0 : List Oper} {K : Exit → Fr → List Heap → Prop} {f : Fr} {L : List Heap} {rest : List (Nat × Oper)} {κ : Nat}
variable {d : Nat} {ty : TypeId} {pos : String} {aft : Array Edge} {g : Option (Nat × Bool)} {t u : TypeId} {x y : Operand}
theorem J.oB {p q : Bool} (k : J P n w0 R l0 K rest (upd f d (.int .i64 (b2i (p || q)))) L) (hg : wantB n f l0 ⟨some d, .binOp .or t x y u, ty, pos, aft, g⟩ = true := by exact rfl) (hx : Cx.ev n f x = .int .i64 (b2i p) := by exact rfl) (hy : Cx.ev n f y = .int .i64 (b2i q) := by exact rfl) : J P n w0 R l0 K ((κ, ⟨some d, .binOp .or t x y u, ty, pos, aft, g⟩) :: rest) f L :=
  J.p hg (bin_run hx hy (fun w => by cases p <;> cases q <;> rfl)) k
theorem J.sN {a : Option Addr} {m c s1 b1 : Nat} {z1 : Option Value} (hΓ : Fits P Γ) (k : J P n w0 R l0 K rest (upd f d (.bool a.isNone)) L) (hg : wantB n f l0 ⟨some d, .binOp .eql t x y u, ty, pos, aft, g⟩ = true := by exact rfl) (hx : Cx.ev n f x = .slice a m c := by exact rfl) (hy : Cx.ev n f y = .slice none 0 0 := by exact rfl) (ht : Go.Cx.look Γ t = some ⟨.slice e, s1, z1, b1⟩ := by exact rfl) : J P n w0 R l0 K ((κ, ⟨some d, .binOp .eql t x y u, ty, pos, aft, g⟩) :: rest) f L :=
  J.p hg (fun w => by
    have hu := (hΓ t _ ht).1
    have h : ∀ d : Nat, (Op.equalIn (d + 1) t (.slice a m c) (.slice none 0 0)).run P w = .ok a.isNone w := fun d => by
      cases a <;> simp [Op.equalIn, run_underlying hu]
    have h2 : (binOp .eql t (.slice a m c) (.slice none 0 0)).run P w = .ok (.bool a.isNone) w := by
      simp only [binOp]
      simp [Op.equal, Op.maxDepth, h 9999]
    have h3 : (eqGuard .eql t x y (.slice a m c) (.slice none 0 0)).run P w = .ok () w := by simp [eqGuard]
    simp only [execOp, hx, hy, Sem.run_bind, h3, Result.andThen_ok, h2]
    rfl) k
end
theorem eClone : Entr Tryz.prog 84 := Entr.of Tryz.func84 rfl rfl
theorem lit_nil (b : Nat) (t : TypeId) : OwT encI 1 t (some ⟨b, 0, none⟩) 0 [] [(b, .cells ⟨[]⟩ t (0, 0))] := ⟨fun _ => rfl, .inr ⟨b, [], rfl, rfl, rfl, Nat.le_refl _, rfl⟩⟩
theorem clone_any (a : Option Addr) (c : Nat) (l : List Int) (h : Heap) (hs : SlT encI 1 a l h) (hl : l.length ≤ 1000000) (w : World) (hw : Holds h w) :
    Calls Tryz.prog 84 #[.slice a l.length c] w (Gives (fun v g => ∃ a' c', v = .slice a' l.length c' ∧ OwT encI 1 3 a' c' l g) w) := by
  have q0 : ∀ L, RdH h L h := fun L => RdH.old fun _ hh => hh
  cases a with
  | none =>
    have h0 : l = [] := by
      cases l with
      | nil => rfl
      | cons x l => obtain ⟨b, off, cs', e', fr, h1, _⟩ := hs.at_ 0 (by simp); cases h1
    subst h0
    refine calls_of_JC (R := h) Tryz.func84 Tryz.ntmps84 rfl rfl (hw) ?_
    repeat' first
      | (refine J.isJ ?_; first | ((refine J.o 11 ?_; refine J.sN hΓ ?_)) | (first | (refine J.o 0 ?_; refine J.ev' hΓ ?_) | refine J.nil ?_ | (refine J.o 3 ?_; first | refine J.ev' hΓ ?_) | (refine J.o 9 ?_; refine J.bl hΓ (fun _ => ?_)) | (refine J.o 10 ?_; refine J.ev' hΓ ?_) | (refine J.o 11 ?_; refine J.ev' hΓ ?_)))
      | (first | refine JC.seq ?_ | refine JC.region ?_ | refine JC.ret ?_ | refine JC.skip ?_ | refine thenK.nn ?_ | refine thenK.r ?_ | refine JC.condT rfl ?_ | refine JC.condF rfl ?_)
      | (fail)
      | fail
    all_goals first | (exfalso; omega) | skip
    exact ret1f rfl rfl rfl (fun w1 hw => Gives.of hw.nilF ⟨none, 0, rfl, OwT.nil (fun _ => rfl)⟩)
  | some ad =>
    refine calls_of_JC (R := h) Tryz.func84 Tryz.ntmps84 rfl rfl (hw) ?_
    repeat' first
      | (refine J.isJ ?_; first | (first | (refine J.o 11 ?_; refine J.sN hΓ ?_) | (refine J.o 9 ?_; refine J.apA hΓ (lit_nil _ _) hs (q0 _) (fun a2 c2 h2 o2 => ?_))) | (first | (refine J.o 0 ?_; refine J.ev' hΓ ?_) | refine J.nil ?_ | (refine J.o 3 ?_; first | refine J.ev' hΓ ?_) | (refine J.o 9 ?_; refine J.bl hΓ (fun _ => ?_)) | (refine J.o 10 ?_; refine J.ev' hΓ ?_) | (refine J.o 11 ?_; refine J.ev' hΓ ?_)))
      | (first | refine JC.seq ?_ | refine JC.region ?_ | refine JC.ret ?_ | refine JC.skip ?_ | refine thenK.nn ?_ | refine thenK.r ?_ | refine JC.condT rfl ?_ | refine JC.condF rfl ?_)
      | (fail)
      | fail
    all_goals first | (exfalso; omega) | skip
    rw [List.nil_append] at o2 ⊢
    exact ret1f rfl rfl rfl (fun w1 hw => Gives.of hw ⟨a2, c2, rfl, o2⟩)
end Go.Proofs.YtdiciemlbhkilaaGreatDoor
namespace Go.Proofs.YtdiciemlbhkilaaGreatDoor
open Go Go.Cx Go.RowKit
set_option linter.unusedVariables false
set_option linter.unusedSimpArgs false
set_option maxHeartbeats 4000000
attribute [local irreducible] J JC thenK blockK loopK roundK drawK retK QW Qt pel List.set Calls
attribute [local irreducible] JE Br eK0 eK3 brK
theorem eNet : Entr Tryz.prog 43 := Entr.of Tryz.func43 rfl rfl
structure NetO (a : Option Addr) (c : Nat) (os : List NV) (hO hI : Heap) : Prop where
  ow : OwT encNV 3 82 a c os hO
  ins : ∀ v, v ∈ os → SlT encI 1 v.a v.l hI
  own : ∀ v, v ∈ os → v.l = [] ∨ ∃ g cs, v.a = some ⟨g, 0, none⟩ ∧ (g, Obj.cells ⟨cs⟩ 3 (0, 0)) ∈ hI ∧ v.l.length ≤ cs.length
def netOb (N : Int) (a : Option Addr) (len c : Nat) : Obj := .cells ⟨[.int .i64 N, .slice a len c]⟩ 31 (0, 0)
theorem slT_take {α : Type} {enc : α → List Value} {size : Nat} {a : Option Addr} {ts : List α} {h : Heap} (hs : SlT enc size a ts h) (k : Nat) : SlT enc size a (ts.take k) h := by
  refine ⟨hs.len, fun i hi => ?_⟩
  rw [List.length_take] at hi
  obtain ⟨b, off, cs, e, fr, h1, h2, h3, h4⟩ := hs.at_ i (by omega)
  exact ⟨b, off, cs, e, fr, h1, h2, h3, by rw [h4, List.getElem_take]⟩
theorem take_getD {α : Type} [Inhabited α] (l : List α) (n k : Nat) (h : k < n) : (l.take n).getD k default = l.getD k default := by
  rw [List.getD_eq_getElem?_getD, List.getD_eq_getElem?_getD, List.getElem?_take_of_lt h]
def turn (f : Int → Int) (l : List Int) (q : Nat) : List Int := (l.take q).map f ++ l.drop q
theorem turn_len (f : Int → Int) (l : List Int) (q : Nat) : (turn f l q).length = l.length := by
  unfold turn; rw [List.length_append, List.length_map, ← List.length_append, List.take_append_drop]
theorem turn_getD (f : Int → Int) (l : List Int) (q : Nat) (h : q < l.length) : (turn f l q).getD q default = l.getD q default := by
  unfold turn
  have hl : ((l.take q).map f).length = q := by rw [List.length_map, List.length_take]; omega
  rw [List.getD_eq_getElem?_getD, List.getElem?_append_right (by omega), hl, Nat.sub_self, List.getElem?_drop, List.getD_eq_getElem?_getD]; rfl
theorem turn_set (f : Int → Int) (l : List Int) (q : Nat) (h : q < l.length) : (turn f l q).set q (f (l.getD q default)) = turn f l (q + 1) := by
  unfold turn
  have hl : ((l.take q).map f).length = q := by rw [List.length_map, List.length_take]; omega
  rw [List.set_append_right _ _ (by omega), hl, Nat.sub_self, drop_g l q h, take_g l q h, List.map_append, List.append_assoc, List.set_cons_zero]; rfl
theorem turn_all (f : Int → Int) (l : List Int) : turn f l l.length = l.map f := by
  unfold turn; rw [List.take_length, List.drop_length, List.append_nil]
theorem rk_le (U : List Bool) : ∀ i, 0 ≤ rk U i ∧ rk U i ≤ i
  | 0 => ⟨Int.le_refl 0, Int.le_refl 0⟩
  | i + 1 => by
    have := rk_le U i
    unfold rk b2i
    split <;> omega
theorem mapb_getD (U : List Bool) (k : Nat) : (U.map b2i).getD k default = b2i (U.getD k false) := by
  rw [List.getD_eq_getElem?_getD, List.getD_eq_getElem?_getD, List.getElem?_map]
  cases U[k]? with
  | none => rfl
  | some v => rfl
theorem rep_b2i (n : Nat) : List.replicate n (0 : Int) = (List.replicate n false).map b2i := by rw [List.map_replicate]; rfl
set_option maxHeartbeats 16000000 in
theorem net_any (r : Nat) {w0 w : World} {R : Heap} {L : List Heap} {N : Int} {b cap bm : Nat} {a : Option Addr} {vs : List NV} {ho hi hm : Heap} (hr : r < vs.length) (bs : BS vs a cap bm ho hi hm) (op : OkP (vs.map pnV)) (od : Ord (vs.map pnV)) (hv65 : vs.length ≤ 65536) (hw : H w0 R (bL N b a vs cap bm ho hi hm ++ L) w) :
    Calls Tryz.prog 43 #[.pointer (some ⟨b, 0, none⟩), .int .i64 (r : Int)] w fun e w' => ∃ v' L', e = .returned v' ∧ H w0 R L' w' ∧ ∃ ao co os hO hI, v' = .tuple #[.agg ⟨[.int .i64 N, .slice ao os.length co]⟩, .int .i64 0] ∧ L' = hO :: hI :: (bL N b a vs cap bm ho hi hm ++ L) ∧ NetO ao co os hO hI ∧ os.map pnV = netP (vs.map pnV) r := by
  obtain ⟨ow, ins, mp⟩ := bs
  obtain ⟨okv, rng⟩ := op.okB hv65
  have hcap : vs.length ≤ cap := by
    rcases ow.row with ⟨_, _, h, _⟩ | ⟨g, cs, _, _, _, h, _⟩
    · rw [h] at hr; exact absurd hr (Nat.not_lt_zero _)
    · exact h
  have hvl1 : ∀ v, v ∈ vs → v.l.length ≤ 1000000 := fun v hv => (okv v hv).n
  have hord : ∀ i, i < vs.length → ∀ k, k ∈ (vs.getD i default).l → 0 ≤ k ∧ k < i := fun i hi k hk => od i k (by rw [inP_of]; exact hk)
  have hlA : (List.replicate (r + 1) (0 : Int)).length = r + 1 := List.length_replicate ..
  unfold bL at hw ⊢
  simp only [List.cons_append, List.nil_append] at hw ⊢
  refine calls_in Tryz.func43 Tryz.ntmps43 rfl rfl (hw) ?_
  unfold bO
  repeat' first
    | (refine J.isJ ?_; first | (first | (refine J.o 11 ?_; first | refine J.pN hΓ ?_ | refine J.mN hΓ ?_) | (refine J.o 9 ?_; refine J.make (enc := encI) (m := r + 1) (0 : Int) hΓ rfl rfl rfl rfl rfl rfl (fun _ => rfl) (by omega) (by omega) (fun bA hA oA => ?_); generalize (some (⟨bA, 0, none⟩ : Addr)) = aA at oA ⊢)) | (first | (refine J.o 0 ?_; refine J.ev' hΓ ?_) | refine J.nil ?_ | (refine J.o 4 ?_; first | refine J.e0 hΓ ?_ | refine J.e1 hΓ ?_ | refine J.e2 hΓ ?_ | refine J.lT default hΓ ?_) | (refine J.o 3 ?_; first | refine J.iJ hΓ ?_ | refine J.fP hΓ ?_ | refine J.ev' hΓ ?_) | (refine J.o 1 ?_; first | refine J.ad ?_ | refine J.sb ?_) | (refine J.o 5 ?_; first | refine J.t0 hΓ ?_ | refine J.t1 hΓ ?_ | refine J.tT _ default hΓ (fun _ _ => ?_) | refine J.tT2 _ default hΓ (fun _ _ => ?_)) | (refine J.o 7 ?_; refine J.al hΓ (fun _ => ?_)) | (refine J.o 8 ?_; refine J.bd hΓ ?_) | (refine J.o 9 ?_; refine J.bl hΓ (fun _ => ?_)) | (refine J.o 10 ?_; refine J.ev' hΓ ?_) | (refine J.o 11 ?_; refine J.ev' hΓ ?_)))
    | (first | refine JC.seq ?_ | refine JC.region ?_ | refine JC.block ?_ | refine JC.ret ?_ | refine JC.exit ?_ | refine JC.skip ?_ | refine thenK.nn ?_ | refine thenK.x ?_ | refine blockK.nn ?_ | refine blockK.hit rfl ?_ | refine JC.condT rfl ?_ | refine JC.condF rfl ?_ | (refine JC.cond rfl (fun hc => ?_) (fun hc => ?_) <;> ((try simp only [decide_eq_true_eq, decide_eq_false_iff_not, beq_iff_eq, beq_eq_false_iff_ne, bne_iff_ne, bne_eq_false_iff_eq, Bool.not_eq_true', Bool.not_eq_false', Bool.not_eq_true, Bool.not_eq_false] at hc) <;> first | (first | (exact absurd rfl hc) | (exfalso; omega) | (exact absurd (hc.symm.trans (by assumption : _ = false)) (by decide)) | (exact absurd (hc.symm.trans (by assumption : _ = true)) (by decide))) | skip)) | refine drawK.nn ?_ | refine loopK.x ?_)
    | ((refine JC.drawN [] [] (by kernel_rfl) (by kernel_rfl) ?_))
    | fail
  all_goals first | (exfalso; omega) | skip
  rename_i n4 hA2 oA
  rw [rep_b2i, ← show b2i true = 1 from rfl, ← List.map_set] at oA
  have hcl : ∀ i, i < r + 1 → (markN (vs.map pnV) r (r + 1)).getD i false = true → ∀ k, k ∈ inP (vs.map pnV) i → (markN (vs.map pnV) r (r + 1)).getD k.toNat false = true := mk_closed od (r + 1) ((List.replicate (r + 1) false).set r true) (by simp)
  have hPn : netP (vs.map pnV) r = netTo (vs.map pnV) (markN (vs.map pnV) r (r + 1)) (r + 1) := rfl
  rw [hPn]
  generalize hF : markN (vs.map pnV) r (r + 1) = F at *
  refine JC.gen [(0, .pointer (some ⟨b, 0, none⟩)), (1, .int .i64 (r : Int)), (4, .pointer (some ⟨n4, 0, none⟩)), (6, .slice aA (r + 1) (r + 1)), (7, .int .i64 (r : Int))] ⟨rfl, rfl, rfl, rfl, rfl, trivial⟩ (fun F0 => ?_)
  refine JC.loop (fun i => i == 5 || i == 7 || i == 9 || Nat.ble 10 i) (fun m g L' => ∃ (U : List Bool) (hA : Heap), g 7 = .int .i64 ((m : Int) - 1) ∧ m ≤ r + 1 ∧ U.length = r + 1 ∧ mk (vs.map pnV) m U = F ∧ OwT encI 1 3 aA (r + 1) (U.map b2i) hA ∧ L' = hA :: [(n4, netOb 0 none 0 0)] :: [(b, bO N a vs.length cap bm)] :: ho :: hi :: hm :: L) (r + 1) ⟨_, hA2, ?_, Nat.le_refl _, ?_, hF, oA, rfl⟩ ?_
  · show Value.int .i64 _ = _; congr 1; omega
  · rw [List.length_set, List.length_replicate]
  rintro m g L' ⟨U, hA, e7, hmr, hUl, hU, oA, rfl⟩
  unfold netOb bO
  rcases Nat.eq_zero_or_pos m with hm0 | hm0
  case inl =>
    subst hm0
    refine JC.pin 7 e7 ?_
    clear e7
    have hU : U = F := hU
    subst hU
    have ow3 : SlT encNV 3 a (vs.take (r + 1)) ho := slT_take ow.sl (r + 1)
    have hl3 : (vs.take (r + 1)).length = r + 1 := by rw [List.length_take]; omega
    repeat' first
      | (refine J.isJ ?_; first | (first | (refine J.o 4 ?_; first | refine J.e3 hΓ ?_) | (refine J.o 13 ?_; refine J.slF (m := r + 1) hΓ ?_)) | (first | (refine J.o 0 ?_; refine J.ev' hΓ ?_) | refine J.nil ?_ | (refine J.o 4 ?_; first | refine J.e0 hΓ ?_ | refine J.e1 hΓ ?_ | refine J.e2 hΓ ?_ | refine J.lT default hΓ ?_) | (refine J.o 3 ?_; first | refine J.iJ hΓ ?_ | refine J.fP hΓ ?_ | refine J.ev' hΓ ?_) | (refine J.o 1 ?_; first | refine J.ad ?_ | refine J.sb ?_) | (refine J.o 5 ?_; first | refine J.t0 hΓ ?_ | refine J.t1 hΓ ?_ | refine J.tT _ default hΓ (fun _ _ => ?_) | refine J.tT2 _ default hΓ (fun _ _ => ?_)) | (refine J.o 7 ?_; refine J.al hΓ (fun _ => ?_)) | (refine J.o 8 ?_; refine J.bd hΓ ?_) | (refine J.o 9 ?_; refine J.bl hΓ (fun _ => ?_)) | (refine J.o 10 ?_; refine J.ev' hΓ ?_) | (refine J.o 11 ?_; refine J.ev' hΓ ?_)))
      | (first | refine JC.seq ?_ | refine JC.region ?_ | refine JC.block ?_ | refine JC.ret ?_ | refine JC.exit ?_ | refine JC.skip ?_ | refine thenK.nn ?_ | refine thenK.x ?_ | refine blockK.nn ?_ | refine blockK.hit rfl ?_ | refine JC.condT rfl ?_ | refine JC.condF rfl ?_ | (refine JC.cond rfl (fun hc => ?_) (fun hc => ?_) <;> ((try simp only [decide_eq_true_eq, decide_eq_false_iff_not, beq_iff_eq, beq_eq_false_iff_ne, bne_iff_ne, bne_eq_false_iff_eq, Bool.not_eq_true', Bool.not_eq_false', Bool.not_eq_true, Bool.not_eq_false] at hc) <;> first | (first | (exact absurd rfl hc) | (exfalso; omega) | (exact absurd (hc.symm.trans (by assumption : _ = false)) (by decide)) | (exact absurd (hc.symm.trans (by assumption : _ = true)) (by decide))) | skip)) | refine drawK.nn ?_ | refine loopK.x ?_)
      | (fail)
      | fail
    all_goals first | (exfalso; omega) | skip
    rename_i n10
    refine JC.weak (L' := hA :: [(n10, netOb N none 0 0)] :: [] :: [] :: [(n4, netOb 0 none 0 0)] :: [(b, bO N a vs.length cap bm)] :: ho :: hi :: hm :: L) (fun w hw => H.sel (l := [_, _, _, _]) (M := [(n4, netOb 0 none 0 0)] :: [(b, bO N a vs.length cap bm)] :: ho :: hi :: hm :: L) hw.nilF.nilF [3, 2, 0, 1]) ?_
    refine JC.gen [(0, .pointer (some ⟨b, 0, none⟩)), (1, .int .i64 (r : Int)), (4, .pointer (some ⟨n4, 0, none⟩)), (6, .slice aA (r + 1) (r + 1)), (10, .pointer (some ⟨n10, 0, none⟩)), (82, .slice a (r + 1) cap), (83, .int .i64 ((r + 1 : Nat) : Int)), (84, .int .i64 0)] ⟨rfl, rfl, rfl, rfl, rfl, rfl, rfl, rfl, trivial⟩ (fun F1 => ?_)
    refine JC.loopG (fun i => i == 5 || i == 11 || i == 12 || i == 13 || Nat.ble 84 i) (fun m g L' => ∃ (k : Nat) (ts : List Int) (hA : Heap) (ao : Option Addr) (co : Nat) (os : List NV) (hO hI : Heap), g 84 = .int .i64 (k : Int) ∧ k + m = r + 1 ∧ OwT encI 1 3 aA (r + 1) ts hA ∧ ts.length = r + 1 ∧ (∀ j, j < r + 1 → ts.getD j default = if j < k then (if U.getD j false = true then rk U j else 0) else b2i (U.getD j false)) ∧ NetO ao co os hO hI ∧ os.map pnV = netTo (vs.map pnV) U k ∧ L' = hA :: [(n10, netOb N ao os.length co)] :: hO :: hI :: [(n4, netOb 0 none 0 0)] :: [(b, bO N a vs.length cap bm)] :: ho :: hi :: hm :: L) (r + 1) ⟨0, U.map b2i, hA, none, 0, [], [], [], rfl, by omega, oA, by rw [List.length_map]; exact hUl, fun j hj => by rw [if_neg (Nat.not_lt_zero _)]; exact mapb_getD U j, ⟨OwT.nil (fun _ => rfl), fun v hv => absurd hv List.not_mem_nil, fun v hv => absurd hv List.not_mem_nil⟩, rfl, rfl⟩ ?_
    clear oA
    rintro m g L' ⟨k, ts, hA, ao, co, os, hO, hI, e84, hkm, oA, htl, hts, no, hos, rfl⟩
    refine JC.pin 84 e84 ?_
    clear e84
    unfold netOb bO
    have hlen := netTo_len (vs.map pnV) U k
    rw [← hos, List.length_map] at hlen
    have hrk := rk_le U k
    have hol : os.length ≤ 65536 := by omega
    rcases Nat.lt_or_ge k (r + 1) with hk | hk
    case inr =>
      have hkr : k = r + 1 := by omega
      subst hkr
      repeat' first
        | (refine J.isJ ?_; first | ((refine J.o 5 ?_; first | (refine J.perm br3 ?_; refine J.t0 hΓ ?_) | (refine J.perm br4 ?_; refine J.t0 hΓ ?_) | (refine J.perm br5 ?_; refine J.t0 hΓ ?_) | (refine J.perm br6 ?_; refine J.t0 hΓ ?_) | (refine J.perm br7 ?_; refine J.t0 hΓ ?_))) | (first | (refine J.o 0 ?_; refine J.ev' hΓ ?_) | refine J.nil ?_ | (refine J.o 4 ?_; first | refine J.e0 hΓ ?_ | refine J.e1 hΓ ?_ | refine J.e2 hΓ ?_ | refine J.lT default hΓ ?_) | (refine J.o 3 ?_; first | refine J.iJ hΓ ?_ | refine J.fP hΓ ?_ | refine J.ev' hΓ ?_) | (refine J.o 1 ?_; first | refine J.ad ?_ | refine J.sb ?_) | (refine J.o 5 ?_; first | refine J.t0 hΓ ?_ | refine J.t1 hΓ ?_ | refine J.tT _ default hΓ (fun _ _ => ?_) | refine J.tT2 _ default hΓ (fun _ _ => ?_)) | (refine J.o 7 ?_; refine J.al hΓ (fun _ => ?_)) | (refine J.o 8 ?_; refine J.bd hΓ ?_) | (refine J.o 9 ?_; refine J.bl hΓ (fun _ => ?_)) | (refine J.o 10 ?_; refine J.ev' hΓ ?_) | (refine J.o 11 ?_; refine J.ev' hΓ ?_)))
        | (first | refine JC.seq ?_ | refine JC.region ?_ | refine JC.block ?_ | refine JC.ret ?_ | refine JC.exit ?_ | refine JC.skip ?_ | refine thenK.nn ?_ | refine thenK.x ?_ | refine blockK.nn ?_ | refine blockK.hit rfl ?_ | refine JC.condT rfl ?_ | refine JC.condF rfl ?_ | (refine JC.cond rfl (fun hc => ?_) (fun hc => ?_) <;> ((try simp only [decide_eq_true_eq, decide_eq_false_iff_not, beq_iff_eq, beq_eq_false_iff_ne, bne_iff_ne, bne_eq_false_iff_eq, Bool.not_eq_true', Bool.not_eq_false', Bool.not_eq_true, Bool.not_eq_false] at hc) <;> first | (first | (exact absurd rfl hc) | (exfalso; omega) | (exact absurd (hc.symm.trans (by assumption : _ = false)) (by decide)) | (exact absurd (hc.symm.trans (by assumption : _ = true)) (by decide))) | skip)) | refine drawK.nn ?_ | refine loopK.x ?_)
        | (fail)
        | fail
      all_goals first | (exfalso; omega) | skip
      exact retCS hΓ rfl rfl rfl rfl Rd.hd rfl rfl (fun w1 hw => ⟨_, _, rfl, H.sel (l := [_, _, _, _, _, _, _, _, _]) (M := L) hw [3, 4, 5, 6, 7, 8], ao, co, os, hO, hI, rfl, rfl, no, hos⟩)
    have hkv : k < vs.length := by omega
    have hmk := mem_g vs k hkv
    have hgt := take_getD vs (r + 1) k hk
    have htk := hts k hk
    rw [if_neg (Nat.lt_irrefl k)] at htk
    have hnst : netTo (vs.map pnV) U (k + 1) = netTo (vs.map pnV) U k ++ (if U.getD k false = true then [((vs.getD k default).kind, (vs.getD k default).lit, (vs.getD k default).l.map fun q => rk U q.toNat)] else []) := by
      show netTo (vs.map pnV) U k ++ _ = _
      rw [kindP_of, litP_of, inP_of]
    cases hUk : U.getD k false with
    | false =>
      rw [hUk] at htk hnst
      rw [if_neg (by decide), List.append_nil] at hnst
      repeat' first
        | (refine J.isJ ?_; first | (first | (refine J.o 4 ?_; first | refine J.e3 hΓ ?_) | (refine J.o 4 ?_; first | (refine J.lT default hΓ ?_ (hs := ow3) (hr := RdH.hd.tl.tl.tl.tl.tl.tl); rw [hgt]) | (refine J.lT default hΓ ?_ (hs := oA.sl) (hr := RdH.hd.tl); rw [htk]))) | (first | (refine J.o 0 ?_; refine J.ev' hΓ ?_) | refine J.nil ?_ | (refine J.o 4 ?_; first | refine J.e0 hΓ ?_ | refine J.e1 hΓ ?_ | refine J.e2 hΓ ?_ | refine J.lT default hΓ ?_) | (refine J.o 3 ?_; first | refine J.iJ hΓ ?_ | refine J.fP hΓ ?_ | refine J.ev' hΓ ?_) | (refine J.o 1 ?_; first | refine J.ad ?_ | refine J.sb ?_) | (refine J.o 5 ?_; first | refine J.t0 hΓ ?_ | refine J.t1 hΓ ?_ | refine J.tT _ default hΓ (fun _ _ => ?_) | refine J.tT2 _ default hΓ (fun _ _ => ?_)) | (refine J.o 7 ?_; refine J.al hΓ (fun _ => ?_)) | (refine J.o 8 ?_; refine J.bd hΓ ?_) | (refine J.o 9 ?_; refine J.bl hΓ (fun _ => ?_)) | (refine J.o 10 ?_; refine J.ev' hΓ ?_) | (refine J.o 11 ?_; refine J.ev' hΓ ?_)))
        | (first | refine JC.seq ?_ | refine JC.region ?_ | refine JC.block ?_ | refine JC.ret ?_ | refine JC.exit ?_ | refine JC.skip ?_ | refine thenK.nn ?_ | refine thenK.x ?_ | refine blockK.nn ?_ | refine blockK.hit rfl ?_ | refine JC.condT rfl ?_ | refine JC.condF rfl ?_ | (refine JC.cond rfl (fun hc => ?_) (fun hc => ?_) <;> ((try simp only [decide_eq_true_eq, decide_eq_false_iff_not, beq_iff_eq, beq_eq_false_iff_ne, bne_iff_ne, bne_eq_false_iff_eq, Bool.not_eq_true', Bool.not_eq_false', Bool.not_eq_true, Bool.not_eq_false] at hc) <;> first | (first | (exact absurd rfl hc) | (exfalso; omega) | (exact absurd (hc.symm.trans (by assumption : _ = false)) (by decide)) | (exact absurd (hc.symm.trans (by assumption : _ = true)) (by decide))) | skip)) | refine drawK.nn ?_ | refine loopK.x ?_)
        | (fail)
        | fail
      all_goals first | (exfalso; omega) | skip
      refine loopK.nn (m - 1) (by omega) (by repeat (first | refine Ag.upd rfl ?_ | exact Ag.hv)) ⟨_, ⟨k + 1, ts, hA, ao, co, os, hO, hI, ?_, by omega, oA, htl, fun j hj => ?_, no, by rw [hnst]; exact hos, rfl⟩, fun w hw => hw.drop⟩
      · show Value.int .i64 _ = _; congr 1
      · by_cases hjk : j = k
        · subst hjk
          rw [htk, hUk, if_pos (by omega), if_neg (by decide)]; rfl
        · rw [hts j hj]
          by_cases hlt : j < k
          · rw [if_pos hlt, if_pos (show j < k + 1 by omega)]
          · rw [if_neg hlt, if_neg (show ¬ j < k + 1 by omega)]
    | true =>
      rw [hUk] at htk hnst
      rw [if_pos rfl] at hnst
      have hVl := hvl1 _ hmk
      have hVs := ins _ hmk
      have hVo := hord k hkv
      obtain ⟨noo, noi, noo2⟩ := no
      repeat' first
        | (refine J.isJ ?_; first | (first | (refine J.o 4 ?_; first | refine J.e3 hΓ ?_) | (refine J.o 4 ?_; first | (refine J.lT default hΓ ?_ (hs := ow3) (hr := RdH.hd.tl.tl.tl.tl.tl.tl); rw [hgt]) | (refine J.lT default hΓ ?_ (hs := oA.sl) (hr := RdH.hd.tl); rw [htk])) | (refine J.fc 84 ?_; refine J.call1 eClone rfl rfl (fun w hw => clone_any (vs.getD k default).a (vs.getD k default).c (vs.getD k default).l hi hVs hVl w (hw.rdH RdH.hd.tl.tl.tl.tl.tl.tl.tl.tl)) ?_; rintro _ hc ⟨ac, cc, rfl, oc⟩)) | (first | (refine J.o 0 ?_; refine J.ev' hΓ ?_) | refine J.nil ?_ | (refine J.o 4 ?_; first | refine J.e0 hΓ ?_ | refine J.e1 hΓ ?_ | refine J.e2 hΓ ?_ | refine J.lT default hΓ ?_) | (refine J.o 3 ?_; first | refine J.iJ hΓ ?_ | refine J.fP hΓ ?_ | refine J.ev' hΓ ?_) | (refine J.o 1 ?_; first | refine J.ad ?_ | refine J.sb ?_) | (refine J.o 5 ?_; first | refine J.t0 hΓ ?_ | refine J.t1 hΓ ?_ | refine J.tT _ default hΓ (fun _ _ => ?_) | refine J.tT2 _ default hΓ (fun _ _ => ?_)) | (refine J.o 7 ?_; refine J.al hΓ (fun _ => ?_)) | (refine J.o 8 ?_; refine J.bd hΓ ?_) | (refine J.o 9 ?_; refine J.bl hΓ (fun _ => ?_)) | (refine J.o 10 ?_; refine J.ev' hΓ ?_) | (refine J.o 11 ?_; refine J.ev' hΓ ?_)))
        | (first | refine JC.seq ?_ | refine JC.region ?_ | refine JC.block ?_ | refine JC.ret ?_ | refine JC.exit ?_ | refine JC.skip ?_ | refine thenK.nn ?_ | refine thenK.x ?_ | refine blockK.nn ?_ | refine blockK.hit rfl ?_ | refine JC.condT rfl ?_ | refine JC.condF rfl ?_ | (refine JC.cond rfl (fun hc => ?_) (fun hc => ?_) <;> ((try simp only [decide_eq_true_eq, decide_eq_false_iff_not, beq_iff_eq, beq_eq_false_iff_ne, bne_iff_ne, bne_eq_false_iff_eq, Bool.not_eq_true', Bool.not_eq_false', Bool.not_eq_true, Bool.not_eq_false] at hc) <;> first | (first | (exact absurd rfl hc) | (exfalso; omega) | (exact absurd (hc.symm.trans (by assumption : _ = false)) (by decide)) | (exact absurd (hc.symm.trans (by assumption : _ = true)) (by decide))) | skip)) | refine drawK.nn ?_ | refine loopK.x ?_)
        | (fail)
        | fail
      all_goals first | (exfalso; omega) | skip
      rename_i n12
      refine JC.loop (fun i => i == 13 || Nat.ble 101 i) (fun m g L' => ∃ (q : Nat) (hc : Heap), g 101 = .int .i64 (q : Int) ∧ q + m = (vs.getD k default).l.length ∧ OwT encI 1 3 ac cc (turn (fun q => rk U q.toNat) (vs.getD k default).l q) hc ∧ L' = hc :: [(n12, .cells ⟨[.int .i64 (vs.getD k default).kind, .int .i64 (vs.getD k default).lit, .slice ac (vs.getD k default).l.length cc]⟩ 82 (0, 0))] :: hA :: [(n10, netOb N ao os.length co)] :: hO :: hI :: [(n4, netOb 0 none 0 0)] :: [(b, bO N a vs.length cap bm)] :: ho :: hi :: hm :: L) (vs.getD k default).l.length ⟨0, hc, rfl, by omega, oc, rfl⟩ ?_
      clear oc
      rintro m2 g2 L' ⟨q, hK, e101, hqm, oc, rfl⟩
      refine JC.pin 101 e101 ?_
      clear e101
      unfold netOb bO
      have hl4 := turn_len (fun q => rk U q.toNat) (vs.getD k default).l q
      rcases Nat.lt_or_ge q (vs.getD k default).l.length with hq | hq
      case inr =>
        have hqe : q = (vs.getD k default).l.length := by omega
        rw [hqe, turn_all] at oc
        have hus1 : ([⟨(vs.getD k default).kind, (vs.getD k default).lit, ac, cc, (vs.getD k default).l.map fun q => rk U q.toNat⟩] : List NV).flatMap encNV = [.int .i64 (vs.getD k default).kind, .int .i64 (vs.getD k default).lit, .slice ac (vs.getD k default).l.length cc] := by
          show encNV _ ++ [] = _
          unfold encNV
          simp only [List.length_map, List.append_nil]
        repeat' first
          | (refine J.isJ ?_; first | (first | (refine J.o 4 ?_; first | refine J.e3 hΓ ?_) | (refine J.o 5 ?_; first | (refine J.perm br3 ?_; refine J.t0 hΓ ?_) | (refine J.perm br4 ?_; refine J.t0 hΓ ?_) | (refine J.perm br5 ?_; refine J.t0 hΓ ?_) | (refine J.perm br6 ?_; refine J.t0 hΓ ?_) | (refine J.perm br7 ?_; refine J.t0 hΓ ?_)) | (refine J.o 9 ?_; first | (first | (refine J.ap1 (enc := encNV) [⟨(vs.getD k default).kind, (vs.getD k default).lit, ac, cc, (vs.getD k default).l.map fun q => rk U q.toNat⟩] hΓ (fun a2 c2 h2 o2 => ?_) (hus := hus1)) | (refine J.perm (br1.cons _) ?_; refine J.ap1 (enc := encNV) [⟨(vs.getD k default).kind, (vs.getD k default).lit, ac, cc, (vs.getD k default).l.map fun q => rk U q.toNat⟩] hΓ (fun a2 c2 h2 o2 => ?_) (hus := hus1)) | (refine J.perm (br2.cons _) ?_; refine J.ap1 (enc := encNV) [⟨(vs.getD k default).kind, (vs.getD k default).lit, ac, cc, (vs.getD k default).l.map fun q => rk U q.toNat⟩] hΓ (fun a2 c2 h2 o2 => ?_) (hus := hus1)) | (refine J.perm (br3.cons _) ?_; refine J.ap1 (enc := encNV) [⟨(vs.getD k default).kind, (vs.getD k default).lit, ac, cc, (vs.getD k default).l.map fun q => rk U q.toNat⟩] hΓ (fun a2 c2 h2 o2 => ?_) (hus := hus1)) | (refine J.perm (br4.cons _) ?_; refine J.ap1 (enc := encNV) [⟨(vs.getD k default).kind, (vs.getD k default).lit, ac, cc, (vs.getD k default).l.map fun q => rk U q.toNat⟩] hΓ (fun a2 c2 h2 o2 => ?_) (hus := hus1)) | (refine J.perm (br5.cons _) ?_; refine J.ap1 (enc := encNV) [⟨(vs.getD k default).kind, (vs.getD k default).lit, ac, cc, (vs.getD k default).l.map fun q => rk U q.toNat⟩] hΓ (fun a2 c2 h2 o2 => ?_) (hus := hus1))) | (refine J.perm br1 ?_; first | (refine J.ap1 (enc := encNV) [⟨(vs.getD k default).kind, (vs.getD k default).lit, ac, cc, (vs.getD k default).l.map fun q => rk U q.toNat⟩] hΓ (fun a2 c2 h2 o2 => ?_) (hus := hus1)) | (refine J.perm (br1.cons _) ?_; refine J.ap1 (enc := encNV) [⟨(vs.getD k default).kind, (vs.getD k default).lit, ac, cc, (vs.getD k default).l.map fun q => rk U q.toNat⟩] hΓ (fun a2 c2 h2 o2 => ?_) (hus := hus1)) | (refine J.perm (br2.cons _) ?_; refine J.ap1 (enc := encNV) [⟨(vs.getD k default).kind, (vs.getD k default).lit, ac, cc, (vs.getD k default).l.map fun q => rk U q.toNat⟩] hΓ (fun a2 c2 h2 o2 => ?_) (hus := hus1)) | (refine J.perm (br3.cons _) ?_; refine J.ap1 (enc := encNV) [⟨(vs.getD k default).kind, (vs.getD k default).lit, ac, cc, (vs.getD k default).l.map fun q => rk U q.toNat⟩] hΓ (fun a2 c2 h2 o2 => ?_) (hus := hus1)) | (refine J.perm (br4.cons _) ?_; refine J.ap1 (enc := encNV) [⟨(vs.getD k default).kind, (vs.getD k default).lit, ac, cc, (vs.getD k default).l.map fun q => rk U q.toNat⟩] hΓ (fun a2 c2 h2 o2 => ?_) (hus := hus1)) | (refine J.perm (br5.cons _) ?_; refine J.ap1 (enc := encNV) [⟨(vs.getD k default).kind, (vs.getD k default).lit, ac, cc, (vs.getD k default).l.map fun q => rk U q.toNat⟩] hΓ (fun a2 c2 h2 o2 => ?_) (hus := hus1))) | (refine J.perm br2 ?_; first | (refine J.ap1 (enc := encNV) [⟨(vs.getD k default).kind, (vs.getD k default).lit, ac, cc, (vs.getD k default).l.map fun q => rk U q.toNat⟩] hΓ (fun a2 c2 h2 o2 => ?_) (hus := hus1)) | (refine J.perm (br1.cons _) ?_; refine J.ap1 (enc := encNV) [⟨(vs.getD k default).kind, (vs.getD k default).lit, ac, cc, (vs.getD k default).l.map fun q => rk U q.toNat⟩] hΓ (fun a2 c2 h2 o2 => ?_) (hus := hus1)) | (refine J.perm (br2.cons _) ?_; refine J.ap1 (enc := encNV) [⟨(vs.getD k default).kind, (vs.getD k default).lit, ac, cc, (vs.getD k default).l.map fun q => rk U q.toNat⟩] hΓ (fun a2 c2 h2 o2 => ?_) (hus := hus1)) | (refine J.perm (br3.cons _) ?_; refine J.ap1 (enc := encNV) [⟨(vs.getD k default).kind, (vs.getD k default).lit, ac, cc, (vs.getD k default).l.map fun q => rk U q.toNat⟩] hΓ (fun a2 c2 h2 o2 => ?_) (hus := hus1)) | (refine J.perm (br4.cons _) ?_; refine J.ap1 (enc := encNV) [⟨(vs.getD k default).kind, (vs.getD k default).lit, ac, cc, (vs.getD k default).l.map fun q => rk U q.toNat⟩] hΓ (fun a2 c2 h2 o2 => ?_) (hus := hus1)) | (refine J.perm (br5.cons _) ?_; refine J.ap1 (enc := encNV) [⟨(vs.getD k default).kind, (vs.getD k default).lit, ac, cc, (vs.getD k default).l.map fun q => rk U q.toNat⟩] hΓ (fun a2 c2 h2 o2 => ?_) (hus := hus1))))) | (first | (refine J.o 0 ?_; refine J.ev' hΓ ?_) | refine J.nil ?_ | (refine J.o 4 ?_; first | refine J.e0 hΓ ?_ | refine J.e1 hΓ ?_ | refine J.e2 hΓ ?_ | refine J.lT default hΓ ?_) | (refine J.o 3 ?_; first | refine J.iJ hΓ ?_ | refine J.fP hΓ ?_ | refine J.ev' hΓ ?_) | (refine J.o 1 ?_; first | refine J.ad ?_ | refine J.sb ?_) | (refine J.o 5 ?_; first | refine J.t0 hΓ ?_ | refine J.t1 hΓ ?_ | refine J.tT _ default hΓ (fun _ _ => ?_) | refine J.tT2 _ default hΓ (fun _ _ => ?_)) | (refine J.o 7 ?_; refine J.al hΓ (fun _ => ?_)) | (refine J.o 8 ?_; refine J.bd hΓ ?_) | (refine J.o 9 ?_; refine J.bl hΓ (fun _ => ?_)) | (refine J.o 10 ?_; refine J.ev' hΓ ?_) | (refine J.o 11 ?_; refine J.ev' hΓ ?_)))
          | (first | refine JC.seq ?_ | refine JC.region ?_ | refine JC.block ?_ | refine JC.ret ?_ | refine JC.exit ?_ | refine JC.skip ?_ | refine thenK.nn ?_ | refine thenK.x ?_ | refine blockK.nn ?_ | refine blockK.hit rfl ?_ | refine JC.condT rfl ?_ | refine JC.condF rfl ?_ | (refine JC.cond rfl (fun hc => ?_) (fun hc => ?_) <;> ((try simp only [decide_eq_true_eq, decide_eq_false_iff_not, beq_iff_eq, beq_eq_false_iff_ne, bne_iff_ne, bne_eq_false_iff_eq, Bool.not_eq_true', Bool.not_eq_false', Bool.not_eq_true, Bool.not_eq_false] at hc) <;> first | (first | (exact absurd rfl hc) | (exfalso; omega) | (exact absurd (hc.symm.trans (by assumption : _ = false)) (by decide)) | (exact absurd (hc.symm.trans (by assumption : _ = true)) (by decide))) | skip)) | refine drawK.nn ?_ | refine loopK.x ?_)
          | (fail)
          | fail
        all_goals first | (exfalso; omega) | skip
        rename_i oA2 _
        have hsetk : ∀ j, j < r + 1 → (ts.set k (os.length : Int)).getD j default = if j < k + 1 then (if U.getD j false = true then rk U j else 0) else b2i (U.getD j false) := fun j hj => by
          rw [List.getD_eq_getElem?_getD, List.getElem?_set]
          by_cases hjk : k = j
          · subst hjk
            rw [if_pos rfl, if_pos (by omega), if_pos (show k < k + 1 by omega), hUk, if_pos rfl, ← hlen]; rfl
          · rw [if_neg hjk, ← List.getD_eq_getElem?_getD, hts j hj]
            by_cases hlt : j < k
            · rw [if_pos hlt, if_pos (show j < k + 1 by omega)]
            · rw [if_neg hlt, if_neg (show ¬ j < k + 1 by omega)]
        refine loopK.nn (m - 1) (by omega) (by repeat (first | refine Ag.upd rfl ?_ | exact Ag.hv | refine Ag.hv2 (fun i hi => by simp at hi ⊢; omega) ?_)) ⟨_, ⟨k + 1, _, _, a2, c2, os ++ [(⟨(vs.getD k default).kind, (vs.getD k default).lit, ac, cc, (vs.getD k default).l.map fun q => rk U q.toNat⟩ : NV)], h2, hI ++ hK, ?_, by omega, oA2, by rw [List.length_set]; exact htl, hsetk, ⟨o2, fun v hv => ?_, fun v hv => ?_⟩, ?_, rfl⟩, fun w hw => H.sel (l := [_, _, _, _]) (M := [(n4, netOb 0 none 0 0)] :: [(b, bO N a vs.length cap bm)] :: ho :: hi :: hm :: L) (H.sel (l := [_, _, _, _, _, _]) (M := [(n4, netOb 0 none 0 0)] :: [(b, bO N a vs.length cap bm)] :: ho :: hi :: hm :: L) hw [5, 2, 4, 0, 1]).mg1 [1, 2, 3, 0]⟩
        · show Value.int .i64 _ = _; congr 1
        · rcases List.mem_append.1 hv with hv | hv
          · exact (noi v hv).sub fun y hy => List.mem_append_left _ hy
          · rw [List.mem_singleton.1 hv]; exact oc.sl.sub fun y hy => List.mem_append_right _ hy
        · rcases List.mem_append.1 hv with hv | hv
          · rcases noo2 v hv with h | ⟨g, cs, h1, h2, h3⟩
            · exact .inl h
            · exact .inr ⟨g, cs, h1, List.mem_append_left _ h2, h3⟩
          · rw [List.mem_singleton.1 hv]
            rcases oc.row with ⟨_, _, h, _⟩ | ⟨g, cs, h1, h2, h3, h4, _⟩
            · exact .inl h
            · refine .inr ⟨g, cs, h1, by rw [h2]; exact List.mem_append_right _ List.mem_cons_self, ?_⟩
              simp only [Nat.mul_one] at *
              omega
        · rw [hnst, List.map_append, hos]; rfl
      have hxq := hVo _ (mem_g (vs.getD k default).l q hq)
      have hgq := turn_getD (fun q => rk U q.toNat) (vs.getD k default).l q hq
      have hUq : U.getD ((vs.getD k default).l.getD q default).toNat false = true := hcl k hk hUk _ (by rw [inP_of]; exact mem_g (vs.getD k default).l q hq)
      have htq : ts.getD ((vs.getD k default).l.getD q default).toNat default = rk U ((vs.getD k default).l.getD q default).toNat := by
        rw [hts _ (by omega), if_pos (by omega), if_pos hUq]
      have hst := turn_set (fun q => rk U q.toNat) (vs.getD k default).l q hq
      repeat' first
        | (refine J.isJ ?_; first | (first | (refine J.o 4 ?_; first | (refine J.lT default hΓ ?_ (hs := oc.sl) (hr := RdH.hd); rw [hgq]) | (refine J.lT default hΓ ?_ (hs := oA.sl) (hr := RdH.hd.tl.tl); rw [htq]))) | (first | (refine J.o 0 ?_; refine J.ev' hΓ ?_) | refine J.nil ?_ | (refine J.o 4 ?_; first | refine J.e0 hΓ ?_ | refine J.e1 hΓ ?_ | refine J.e2 hΓ ?_ | refine J.lT default hΓ ?_) | (refine J.o 3 ?_; first | refine J.iJ hΓ ?_ | refine J.fP hΓ ?_ | refine J.ev' hΓ ?_) | (refine J.o 1 ?_; first | refine J.ad ?_ | refine J.sb ?_) | (refine J.o 5 ?_; first | refine J.t0 hΓ ?_ | refine J.t1 hΓ ?_ | refine J.tT _ default hΓ (fun _ _ => ?_) | refine J.tT2 _ default hΓ (fun _ _ => ?_)) | (refine J.o 7 ?_; refine J.al hΓ (fun _ => ?_)) | (refine J.o 8 ?_; refine J.bd hΓ ?_) | (refine J.o 9 ?_; refine J.bl hΓ (fun _ => ?_)) | (refine J.o 10 ?_; refine J.ev' hΓ ?_) | (refine J.o 11 ?_; refine J.ev' hΓ ?_)))
        | (first | refine JC.seq ?_ | refine JC.region ?_ | refine JC.block ?_ | refine JC.ret ?_ | refine JC.exit ?_ | refine JC.skip ?_ | refine thenK.nn ?_ | refine thenK.x ?_ | refine blockK.nn ?_ | refine blockK.hit rfl ?_ | refine JC.condT rfl ?_ | refine JC.condF rfl ?_ | (refine JC.cond rfl (fun hc => ?_) (fun hc => ?_) <;> ((try simp only [decide_eq_true_eq, decide_eq_false_iff_not, beq_iff_eq, beq_eq_false_iff_ne, bne_iff_ne, bne_eq_false_iff_eq, Bool.not_eq_true', Bool.not_eq_false', Bool.not_eq_true, Bool.not_eq_false] at hc) <;> first | (first | (exact absurd rfl hc) | (exfalso; omega) | (exact absurd (hc.symm.trans (by assumption : _ = false)) (by decide)) | (exact absurd (hc.symm.trans (by assumption : _ = true)) (by decide))) | skip)) | refine drawK.nn ?_ | refine loopK.x ?_)
        | ((refine JC.drawN [] [] (by kernel_rfl) (by kernel_rfl) ?_))
        | fail
      all_goals first | (exfalso; omega) | skip
      rename_i oc2
      have oc3 : OwT encI 1 3 ac cc (turn (fun q => rk U q.toNat) (vs.getD k default).l (q + 1)) _ := hst ▸ oc2
      refine loopK.nn (m2 - 1) (by omega) (by repeat (first | refine Ag.upd rfl ?_ | exact Ag.hv)) ⟨q + 1, _, ?_, by omega, oc3, rfl⟩
      show Value.int .i64 _ = _; congr 1
  obtain ⟨i, rfl⟩ : ∃ i, m = i + 1 := ⟨m - 1, by omega⟩
  have e7' : g 7 = .int .i64 (i : Int) := e7.trans (congrArg (Value.int .i64) (by omega))
  refine JC.pin 7 e7' ?_
  clear e7 e7'
  have hiv : i < vs.length := by omega
  have hmi := mem_g vs i hiv
  have hVl := hvl1 _ hmi
  have hVs := ins _ hmi
  have hVo := hord i hiv
  have hlU : (U.map b2i).length = r + 1 := by rw [List.length_map]; exact hUl
  have hU2 : mk (vs.map pnV) i (orS U (vs.getD i default).l (U.getD i false)) = F := by rw [← hU]; show _ = mk _ i (orS U (inP _ i) _); rw [inP_of]
  repeat' first
    | (refine J.isJ ?_; first | (first | (refine J.o 4 ?_; refine J.lT default hΓ ?_ (hs := ow.sl) (hr := RdH.hd.tl.tl.tl))) | (first | (refine J.o 0 ?_; refine J.ev' hΓ ?_) | refine J.nil ?_ | (refine J.o 4 ?_; first | refine J.e0 hΓ ?_ | refine J.e1 hΓ ?_ | refine J.e2 hΓ ?_ | refine J.lT default hΓ ?_) | (refine J.o 3 ?_; first | refine J.iJ hΓ ?_ | refine J.fP hΓ ?_ | refine J.ev' hΓ ?_) | (refine J.o 1 ?_; first | refine J.ad ?_ | refine J.sb ?_) | (refine J.o 5 ?_; first | refine J.t0 hΓ ?_ | refine J.t1 hΓ ?_ | refine J.tT _ default hΓ (fun _ _ => ?_) | refine J.tT2 _ default hΓ (fun _ _ => ?_)) | (refine J.o 7 ?_; refine J.al hΓ (fun _ => ?_)) | (refine J.o 8 ?_; refine J.bd hΓ ?_) | (refine J.o 9 ?_; refine J.bl hΓ (fun _ => ?_)) | (refine J.o 10 ?_; refine J.ev' hΓ ?_) | (refine J.o 11 ?_; refine J.ev' hΓ ?_)))
    | (first | refine JC.seq ?_ | refine JC.region ?_ | refine JC.block ?_ | refine JC.ret ?_ | refine JC.exit ?_ | refine JC.skip ?_ | refine thenK.nn ?_ | refine thenK.x ?_ | refine blockK.nn ?_ | refine blockK.hit rfl ?_ | refine JC.condT rfl ?_ | refine JC.condF rfl ?_ | (refine JC.cond rfl (fun hc => ?_) (fun hc => ?_) <;> ((try simp only [decide_eq_true_eq, decide_eq_false_iff_not, beq_iff_eq, beq_eq_false_iff_ne, bne_iff_ne, bne_eq_false_iff_eq, Bool.not_eq_true', Bool.not_eq_false', Bool.not_eq_true, Bool.not_eq_false] at hc) <;> first | (first | (exact absurd rfl hc) | (exfalso; omega) | (exact absurd (hc.symm.trans (by assumption : _ = false)) (by decide)) | (exact absurd (hc.symm.trans (by assumption : _ = true)) (by decide))) | skip)) | refine drawK.nn ?_ | refine loopK.x ?_)
    | (fail)
    | fail
  all_goals first | (exfalso; omega) | skip
  refine JC.loop (fun i => i == 9 || Nat.ble 56 i) (fun m g L' => ∃ (q : Nat) (hA : Heap), g 56 = .int .i64 (q : Int) ∧ q + m = (vs.getD i default).l.length ∧ OwT encI 1 3 aA (r + 1) ((orS U ((vs.getD i default).l.take q) (U.getD i false)).map b2i) hA ∧ L' = hA :: [(n4, netOb 0 none 0 0)] :: [(b, bO N a vs.length cap bm)] :: ho :: hi :: hm :: L) (vs.getD i default).l.length ⟨0, hA, rfl, by omega, oA, rfl⟩ ?_
  clear oA hlU
  rintro m2 g2 L' ⟨q, hA, e56, hqm, oA, rfl⟩
  refine JC.pin 56 e56 ?_
  clear e56
  unfold netOb bO
  have hlU : ((orS U ((vs.getD i default).l.take q) (U.getD i false)).map b2i).length = r + 1 := by rw [List.length_map, orS_len]; exact hUl
  rcases Nat.lt_or_ge q (vs.getD i default).l.length with hq | hq
  case inr =>
    rw [List.take_of_length_le hq] at oA
    repeat' first
      | (refine J.isJ ?_; first | (fail) | (first | (refine J.o 0 ?_; refine J.ev' hΓ ?_) | refine J.nil ?_ | (refine J.o 4 ?_; first | refine J.e0 hΓ ?_ | refine J.e1 hΓ ?_ | refine J.e2 hΓ ?_ | refine J.lT default hΓ ?_) | (refine J.o 3 ?_; first | refine J.iJ hΓ ?_ | refine J.fP hΓ ?_ | refine J.ev' hΓ ?_) | (refine J.o 1 ?_; first | refine J.ad ?_ | refine J.sb ?_) | (refine J.o 5 ?_; first | refine J.t0 hΓ ?_ | refine J.t1 hΓ ?_ | refine J.tT _ default hΓ (fun _ _ => ?_) | refine J.tT2 _ default hΓ (fun _ _ => ?_)) | (refine J.o 7 ?_; refine J.al hΓ (fun _ => ?_)) | (refine J.o 8 ?_; refine J.bd hΓ ?_) | (refine J.o 9 ?_; refine J.bl hΓ (fun _ => ?_)) | (refine J.o 10 ?_; refine J.ev' hΓ ?_) | (refine J.o 11 ?_; refine J.ev' hΓ ?_)))
      | (first | refine JC.seq ?_ | refine JC.region ?_ | refine JC.block ?_ | refine JC.ret ?_ | refine JC.exit ?_ | refine JC.skip ?_ | refine thenK.nn ?_ | refine thenK.x ?_ | refine blockK.nn ?_ | refine blockK.hit rfl ?_ | refine JC.condT rfl ?_ | refine JC.condF rfl ?_ | (refine JC.cond rfl (fun hc => ?_) (fun hc => ?_) <;> ((try simp only [decide_eq_true_eq, decide_eq_false_iff_not, beq_iff_eq, beq_eq_false_iff_ne, bne_iff_ne, bne_eq_false_iff_eq, Bool.not_eq_true', Bool.not_eq_false', Bool.not_eq_true, Bool.not_eq_false] at hc) <;> first | (first | (exact absurd rfl hc) | (exfalso; omega) | (exact absurd (hc.symm.trans (by assumption : _ = false)) (by decide)) | (exact absurd (hc.symm.trans (by assumption : _ = true)) (by decide))) | skip)) | refine drawK.nn ?_ | refine loopK.x ?_)
      | (fail)
      | fail
    all_goals first | (exfalso; omega) | skip
    refine loopK.nn i (by omega) (by repeat (first | refine Ag.upd rfl ?_ | exact Ag.hv | refine Ag.hv2 (fun i hi => by simp at hi ⊢; omega) ?_)) ⟨_, hA, ?_, by omega, by rw [orS_len]; exact hUl, hU2, oA, rfl⟩
    show Value.int .i64 _ = _; congr 1
  have hxq := hVo _ (mem_g (vs.getD i default).l q hq)
  have hxi : (orS U ((vs.getD i default).l.take q) (U.getD i false)).getD i false = U.getD i false := orS_ne _ _ _ _ fun k hk => by have := hVo k (List.mem_of_mem_take hk); omega
  have hsn : (orS U ((vs.getD i default).l.take q) (U.getD i false)).set ((vs.getD i default).l.getD q default).toNat ((orS U ((vs.getD i default).l.take q) (U.getD i false)).getD ((vs.getD i default).l.getD q default).toNat false || U.getD i false) = orS U ((vs.getD i default).l.take (q + 1)) (U.getD i false) := by rw [take_g _ _ hq, orS_snoc]
  repeat' first
    | (refine J.isJ ?_; first | (first | (refine J.o 4 ?_; first | (refine J.lT default hΓ ?_ (hs := hVs) (hr := RdH.hd.tl.tl.tl.tl)) | (refine J.lT default hΓ ?_ (hs := oA.sl) (hr := RdH.hd); rw [mapb_getD])) | (refine J.o 1 ?_; refine J.oB ?_; rw [hxi])) | (first | (refine J.o 0 ?_; refine J.ev' hΓ ?_) | refine J.nil ?_ | (refine J.o 4 ?_; first | refine J.e0 hΓ ?_ | refine J.e1 hΓ ?_ | refine J.e2 hΓ ?_ | refine J.lT default hΓ ?_) | (refine J.o 3 ?_; first | refine J.iJ hΓ ?_ | refine J.fP hΓ ?_ | refine J.ev' hΓ ?_) | (refine J.o 1 ?_; first | refine J.ad ?_ | refine J.sb ?_) | (refine J.o 5 ?_; first | refine J.t0 hΓ ?_ | refine J.t1 hΓ ?_ | refine J.tT _ default hΓ (fun _ _ => ?_) | refine J.tT2 _ default hΓ (fun _ _ => ?_)) | (refine J.o 7 ?_; refine J.al hΓ (fun _ => ?_)) | (refine J.o 8 ?_; refine J.bd hΓ ?_) | (refine J.o 9 ?_; refine J.bl hΓ (fun _ => ?_)) | (refine J.o 10 ?_; refine J.ev' hΓ ?_) | (refine J.o 11 ?_; refine J.ev' hΓ ?_)))
    | (first | refine JC.seq ?_ | refine JC.region ?_ | refine JC.block ?_ | refine JC.ret ?_ | refine JC.exit ?_ | refine JC.skip ?_ | refine thenK.nn ?_ | refine thenK.x ?_ | refine blockK.nn ?_ | refine blockK.hit rfl ?_ | refine JC.condT rfl ?_ | refine JC.condF rfl ?_ | (refine JC.cond rfl (fun hc => ?_) (fun hc => ?_) <;> ((try simp only [decide_eq_true_eq, decide_eq_false_iff_not, beq_iff_eq, beq_eq_false_iff_ne, bne_iff_ne, bne_eq_false_iff_eq, Bool.not_eq_true', Bool.not_eq_false', Bool.not_eq_true, Bool.not_eq_false] at hc) <;> first | (first | (exact absurd rfl hc) | (exfalso; omega) | (exact absurd (hc.symm.trans (by assumption : _ = false)) (by decide)) | (exact absurd (hc.symm.trans (by assumption : _ = true)) (by decide))) | skip)) | refine drawK.nn ?_ | refine loopK.x ?_)
    | ((refine JC.drawN [] [] (by kernel_rfl) (by kernel_rfl) ?_))
    | fail
  all_goals first | (exfalso; omega) | skip
  rename_i oA2
  rw [← List.map_set, hsn] at oA2
  refine loopK.nn (m2 - 1) (by omega) (by repeat (first | refine Ag.upd rfl ?_ | exact Ag.hv)) ⟨q + 1, _, ?_, by omega, oA2, rfl⟩
  show Value.int .i64 _ = _; congr 1
end Go.Proofs.YtdiciemlbhkilaaGreatDoor
namespace Go.Proofs.YtdiciemlbhkilaaGreatDoor
open Go Go.Cx Go.RowKit
set_option linter.unusedVariables false
set_option linter.unusedSimpArgs false
set_option maxHeartbeats 4000000
attribute [local irreducible] J JC thenK blockK loopK roundK drawK retK QW Qt pel List.set Calls
attribute [local irreducible] JE Br eK0 eK3 brK
theorem add_cases {B : List PN} (h : OkP B) {N : Int} (hN : 0 ≤ N ∧ N ≤ 128) {x : PN} (hf : formedP x N B.length = true) : (∃ y, addP B x = (y, B) ∧ 0 ≤ y ∧ y < B.length) ∨ ∃ z, addP B x = putP B z ∧ OkX B.length z := by
  have hr := formed_rng hf
  have hc := fun hk => formed_const (m := B.length) hN hf hk
  obtain ⟨kind, lt, l⟩ := x
  simp only at hr hc
  by_cases hk : kind = 3 ∨ kind = 4
  case neg =>
    rw [add_const (x := (kind, lt, l)) ⟨fun e => hk (.inl e), fun e => hk (.inr e)⟩]
    exact .inr ⟨_, rfl, hc hk⟩
  rw [add_gate h hk _ rfl]
  generalize hs : (flatP B kind l).foldl (addS B (dropK kind) (endK kind)) ⟨[], [], true⟩ = s
  have hdk : 0 ≤ dropK kind ∧ dropK kind ≤ 1 := by unfold dropK; split <;> decide
  have hek : 0 ≤ endK kind ∧ endK kind ≤ 1 := by unfold endK; split <;> decide
  by_cases ho : s.open_ = true
  case neg => rw [if_neg ho]; exact .inr ⟨_, rfl, okX_const (by omega) (by omega)⟩
  have of := out_facts h hr s hs.symm ho
  have hln := sortS_len s.out
  rw [if_pos ho]
  split
  · exact .inr ⟨_, rfl, okX_const (by omega) (by omega)⟩
  · split
    · have hm := mem_g (sortS s.out) 0 (by omega)
      have := of.2.2 _ hm
      exact .inl ⟨_, rfl, this.1, this.2⟩
    · refine .inr ⟨_, rfl, ⟨by show 0 ≤ kind ∧ kind ≤ 4; omega, ⟨(by decide : (-128 : Int) ≤ 0), (by decide : (0 : Int) ≤ 128)⟩, fun e => ?_, of.1, of.2.2⟩⟩
      have e : kind = 2 := e
      omega
theorem formAll_at (N : Int) : ∀ (B : List PN) (k : Int), formAll N B k = true → ∀ j, j < B.length → formedP (B.getD j default) N (k + j) = true
  | [], k, _, j, hj => absurd hj (Nat.not_lt_zero _)
  | x :: B, k, h, j, hj => by
    unfold formAll at h
    rw [Bool.and_eq_true] at h
    cases j with
    | zero => rw [Int.natCast_zero, Int.add_zero]; exact h.1
    | succ j =>
      have := formAll_at N B (k + 1) h.2 j (by rw [List.length_cons] at hj; omega)
      rw [show k + ((j + 1 : Nat) : Int) = k + 1 + (j : Int) by omega]
      exact this
theorem check_facts {N : Int} {X : List PN} (h : checkP N X = true) : (0 ≤ N ∧ N ≤ 128) ∧ (1 ≤ X.length ∧ X.length ≤ 65536) ∧ formAll N X 0 = true := by
  unfold checkP at h
  simp only [Bool.and_eq_true, decide_eq_true_eq] at h
  exact ⟨h.1, h.2.1, h.2.2⟩
end Go.Proofs.YtdiciemlbhkilaaGreatDoor
namespace Go.Proofs.YtdiciemlbhkilaaGreatDoor
open Go Go.Cx Go.RowKit
set_option linter.unusedVariables false
set_option linter.unusedSimpArgs false
set_option maxHeartbeats 4000000
attribute [local irreducible] J JC thenK blockK loopK roundK drawK retK QW Qt pel List.set Calls
attribute [local irreducible] JE Br eK0 eK3 brK
def truS (s : Nat × Nat) (T : List Bool) (x : PN) : Bool := if x.1 = 1 then true else if x.1 = 2 then decide (hasB s (absI x.2.1) = decide (0 < x.2.1)) else if x.1 = 3 then !(x.2.2.any fun k => !(T.getD k.toNat default)) else if x.1 = 4 then x.2.2.any fun k => T.getD k.toNat default else false
def truT (s : Nat × Nat) (X : List PN) : List Bool := X.foldl (fun T x => T ++ [truS s T x]) []
def evalP (s : Nat × Nat) (N : Int) (X : List PN) : Bool := checkP N X && (truT s X).getD (X.length - 1) default
theorem truT_snoc (s : Nat × Nat) (X : List PN) (x : PN) : truT s (X ++ [x]) = truT s X ++ [truS s (truT s X) x] := by
  unfold truT; rw [List.foldl_append]; rfl
theorem truT_len (s : Nat × Nat) (X : List PN) : (truT s X).length = X.length := by
  have h : ∀ (X : List PN) (T : List Bool), (X.foldl (fun T x => T ++ [truS s T x]) T).length = T.length + X.length := fun X => by
    induction X with
    | nil => intro T; rfl
    | cons x X ih => intro T; rw [List.foldl_cons, ih]; simp only [List.length_append, List.length_cons, List.length_nil]; omega
  have := h X []
  rw [List.length_nil, Nat.zero_add] at this
  exact this
theorem any_congr {l : List Int} {p q : Int → Bool} (h : ∀ x, x ∈ l → p x = q x) : l.any p = l.any q := by
  induction l with
  | nil => rfl
  | cons x l ih => rw [List.any_cons, List.any_cons, h x List.mem_cons_self, ih fun y hy => h y (List.mem_cons_of_mem _ hy)]
theorem formed_kinds {x : PN} {N bf : Int} (hf : formedP x N bf = true) : x.1 = 0 ∨ x.1 = 1 ∨ (x.1 = 2 ∧ x.2.1 ≠ 0 ∧ -N ≤ x.2.1 ∧ x.2.1 ≤ N) ∨ x.1 = 3 ∨ x.1 = 4 := by
  unfold formedP at hf
  rw [Bool.and_eq_true] at hf
  have h2 := hf.2
  split at h2
  · rename_i h; rcases h with h | h
    · exact .inl h
    · exact .inr (.inl h)
  · split at h2
    · rename_i h
      rw [Bool.and_eq_true] at h2
      have := h2.1
      unfold validB at this
      exact .inr (.inr (.inl ⟨h, by simpa using this⟩))
    · split at h2
      · rename_i h; rcases h with h | h
        · exact .inr (.inr (.inr (.inl h)))
        · exact .inr (.inr (.inr (.inr h)))
      · cases h2
end Go.Proofs.YtdiciemlbhkilaaGreatDoor
namespace Go.Proofs.YtdiciemlbhkilaaGreatDoor
open Go Go.Cx Go.RowKit
set_option linter.unusedVariables false
set_option linter.unusedSimpArgs false
set_option maxHeartbeats 4000000
attribute [local irreducible] J JC thenK blockK loopK roundK drawK retK QW Qt pel List.set Calls
def GateX (B : List PN) (x : PN) : Prop := 2 ≤ x.2.2.length ∧ x.2.2.Pairwise (· < ·) ∧ (∀ i, i ∈ x.2.2 → kindP B i ≠ x.1 ∧ 2 ≤ kindP B i) ∧ ∀ i k, i ∈ x.2.2 → k ∈ x.2.2 → kindP B i = 2 → kindP B k = 2 → litP B i ≠ -(litP B k)
def isG (x : PN) : Prop := x.1 = 3 ∨ x.1 = 4
structure Simp (N : Int) (B : List PN) : Prop where
  nd : B.Nodup
  fm : ∀ i : Nat, i < B.length → formedP (B.getD i default) N i = true
  gt : ∀ i : Nat, i < B.length → isG (B.getD i default) → GateX B (B.getD i default)
theorem kindP_nat (B : List PN) (i : Nat) : kindP B i = (B.getD i default).1 := by unfold kindP; rw [Int.toNat_natCast]
theorem litP_nat (B : List PN) (i : Nat) : litP B i = (B.getD i default).2.1 := by unfold litP; rw [Int.toNat_natCast]
theorem inP_nat (B : List PN) (i : Nat) : inP B i = (B.getD i default).2.2 := by unfold inP; rw [Int.toNat_natCast]
theorem getD_app {α : Type} [Inhabited α] (B C : List α) (i : Nat) (h : i < B.length) : (B ++ C).getD i default = B.getD i default := by
  rw [List.getD_eq_getElem?_getD, List.getD_eq_getElem?_getD, List.getElem?_append_left h]
theorem getD_lastN {α : Type} [Inhabited α] (B : List α) (x : α) : (B ++ [x]).getD B.length default = x := by
  rw [List.getD_eq_getElem?_getD, List.getElem?_append_right (Nat.le_refl _), Nat.sub_self]; rfl
theorem getD_last2 {α : Type} [Inhabited α] (B : List α) (x : α) (n : Nat) (h : B.length = n) : (B ++ [x]).getD n default = x := by
  subst h; exact getD_lastN B x
theorem getD_past {α : Type} [Inhabited α] (B : List α) (i : Nat) (h : B.length ≤ i) : B.getD i default = default := by
  rw [List.getD_eq_getElem?_getD, List.getElem?_eq_none h]; rfl
theorem kindP_app (B C : List PN) (i : Int) (h : i.toNat < B.length) : kindP (B ++ C) i = kindP B i := by unfold kindP; rw [getD_app _ _ _ h]
theorem litP_app (B C : List PN) (i : Int) (h : i.toNat < B.length) : litP (B ++ C) i = litP B i := by unfold litP; rw [getD_app _ _ _ h]
theorem inP_app (B C : List PN) (i : Int) (h : i.toNat < B.length) : inP (B ++ C) i = inP B i := by unfold inP; rw [getD_app _ _ _ h]
theorem mem_getD {B : List PN} {x : PN} (h : x ∈ B) : ∃ i, i < B.length ∧ B.getD i default = x := by
  obtain ⟨i, hi, rfl⟩ := List.mem_iff_getElem.1 h
  exact ⟨i, hi, by rw [List.getD_eq_getElem?_getD, List.getElem?_eq_getElem hi]; rfl⟩
theorem formed_low {x : PN} {N bf : Int} (h : formedP x N bf = true) (hk : ¬ isG x) : x.2.2 = [] := by
  obtain ⟨k, t, l⟩ := x
  unfold formedP at h
  unfold isG at hk
  simp only [Bool.and_eq_true, Bool.not_eq_true'] at h hk ⊢
  have h2 := h.2
  split at h2
  · simp only [Bool.and_eq_true, decide_eq_true_eq] at h2; exact List.length_eq_zero_iff.1 h2.2
  · split at h2
    · simp only [Bool.and_eq_true, decide_eq_true_eq] at h2; exact List.length_eq_zero_iff.1 h2.2
    · first | cases h2 | (split at h2 <;> first | contradiction | cases h2)
theorem formed_gate {kind : Int} {N bf : Int} {l : List Int} (hk : kind = 3 ∨ kind = 4) (hl : ∀ i, i ∈ l → 0 ≤ i ∧ i < bf) : formedP (kind, 0, l) N bf = true := by
  unfold formedP
  simp only [Bool.and_eq_true, Bool.not_eq_true']
  refine ⟨List.any_eq_false.2 fun i hi => ?_, ?_⟩
  · have := hl i hi
    unfold badI
    simp only [Bool.or_eq_true, decide_eq_true_eq]
    omega
  · rw [if_neg (by omega), if_neg (by omega), if_pos hk]; rfl
theorem formed_c {kind : Int} {N bf : Int} (hk : kind = 0 ∨ kind = 1) : formedP (kind, 0, []) N bf = true := by
  unfold formedP
  simp only [List.any_nil, Bool.not_false, Bool.true_and]
  rw [if_pos hk]; rfl
theorem formed_empty {x : PN} {N bf : Int} (h : formedP x N bf = true) (hk : ¬ isG x) : formedP (x.1, x.2.1, []) N bf = true := by
  have := formed_low h hk
  obtain ⟨k, t, l⟩ := x
  simp only at this
  subst this
  exact h
theorem GateX.congr {B C : List PN} {x : PN} (h : GateX B x) (hr : ∀ i, i ∈ x.2.2 → i.toNat < B.length) : GateX (B ++ C) x := by
  obtain ⟨h1, h2, h3, h4⟩ := h
  refine ⟨h1, h2, fun i hi => ?_, fun i k hi hk => ?_⟩
  · rw [kindP_app _ _ _ (hr i hi)]; exact h3 i hi
  · rw [kindP_app _ _ _ (hr i hi), kindP_app _ _ _ (hr k hk), litP_app _ _ _ (hr i hi), litP_app _ _ _ (hr k hk)]; exact h4 i k hi hk
theorem Simp.nil (N : Int) : Simp N [] := ⟨List.nodup_nil, fun i hi => absurd hi (Nat.not_lt_zero _), fun i hi => absurd hi (Nat.not_lt_zero _)⟩
theorem Simp.ord {N : Int} {B : List PN} (h : Simp N B) : Ord B := fun i k hk => by
  rw [inP_nat] at hk
  by_cases hi : i < B.length
  · exact formed_rng (h.fm i hi) k hk
  · rw [getD_past _ _ (by omega)] at hk; exact absurd hk List.not_mem_nil
theorem Simp.put {N : Int} {B : List PN} (h : Simp N B) {z : PN} (hf : formedP z N B.length = true) (hg : isG z → GateX B z) : Simp N (putP B z).2 := by
  unfold putP
  by_cases hz : z ∈ B
  · rw [if_pos hz]; exact h
  · rw [if_neg hz]
    have hlen : (B ++ [z]).length = B.length + 1 := by rw [List.length_append]; rfl
    refine ⟨?_, fun i hi => ?_, fun i hi hgi => ?_⟩
    · rw [List.nodup_append]
      exact ⟨h.nd, by simp, fun a ha b hb => by rw [List.mem_singleton.1 hb]; exact fun e => hz (e ▸ ha)⟩
    · by_cases hb : i < B.length
      · show formedP ((B ++ [z]).getD i default) N i = true
        rw [getD_app _ _ _ hb]; exact h.fm i hb
      · have : i = B.length := by have : i < (B ++ [z]).length := hi; omega
        subst this
        show formedP ((B ++ [z]).getD B.length default) N B.length = true
        rw [getD_lastN]; exact hf
    · show GateX (B ++ [z]) ((B ++ [z]).getD i default)
      have hgi : isG ((B ++ [z]).getD i default) := hgi
      by_cases hb : i < B.length
      · rw [getD_app _ _ _ hb] at hgi ⊢
        exact (h.gt i hb hgi).congr fun k hk => by have := formed_rng (h.fm i hb) k hk; omega
      · have : i = B.length := by have : i < (B ++ [z]).length := hi; omega
        subst this
        rw [getD_lastN] at hgi ⊢
        exact (hg hgi).congr fun k hk => by have := formed_rng hf k hk; omega
theorem kind_rng {N : Int} {B : List PN} (h : Simp N B) (i : Int) : 0 ≤ kindP B i ∧ kindP B i ≤ 4 := by
  unfold kindP
  by_cases hb : i.toNat < B.length
  · rcases formed_kinds (h.fm _ hb) with e | e | e | e | e
    · omega
    · omega
    · omega
    · omega
    · omega
  · rw [getD_past _ _ (by omega)]; exact ⟨Int.le_refl 0, (by decide : (0 : Int) ≤ 4)⟩
theorem flat_kind {N : Int} {B : List PN} (h : Simp N B) {kind : Int} (hk : kind = 3 ∨ kind = 4) {l : List Int} (hl : ∀ i, i ∈ l → 0 ≤ i ∧ i < B.length) : ∀ i, i ∈ flatP B kind l → kindP B i ≠ kind := fun i hi => by
  unfold flatP at hi
  obtain ⟨j, hj, hi⟩ := List.mem_flatMap.1 hi
  have hjr := hl j hj
  split at hi
  · rename_i hkj
    have hjl : j.toNat < B.length := by omega
    have hg : isG (B.getD j.toNat default) := by
      have : (B.getD j.toNat default).1 = kind := hkj
      unfold isG; rw [this]; exact hk
    have hG := h.gt _ hjl hg
    have h3 := (hG.2.2.1 i hi).1
    have hkj : (B.getD j.toNat default).1 = kind := hkj
    rw [hkj] at h3
    exact h3
  · rename_i hkj
    rw [List.mem_singleton.1 hi]; exact hkj
structure GIn (B : List PN) (kind : Int) (l D : List Int) : Prop where
  mem : ∀ x, x ∈ D ↔ x ∈ flatP B kind l ∧ kindP B x ≠ dropK kind
  nd : D.Nodup
  rg : ∀ i, i ∈ D → 0 ≤ i ∧ i < B.length
theorem gin {B : List PN} (h : OkP B) (kind : Int) {l : List Int} (hl : ∀ i, i ∈ l → 0 ≤ i ∧ i < B.length) : GIn B kind l (inputsR B kind (dropK kind) l) := by
  have ag := agree_all (B := B) (drop := dropK kind) (end_ := endK kind) (by unfold dropK endK; split <;> decide) (by unfold dropK; split <;> decide) (lit_ne h) (flatP B kind l)
  exact ⟨ag.mem, ag.nd, fun i hi => flat_rng h kind hl i ((ag.mem i).1 hi).1⟩
theorem add_doc {B : List PN} {kind lt : Int} {l : List Int} (hk : kind = 3 ∨ kind = 4) : addP B (kind, lt, l) = (if decR B (inputsR B kind (dropK kind) l) (endK kind) = true then putP B (endK kind, 0, []) else match inputsR B kind (dropK kind) l with
      | [] => putP B (dropK kind, 0, [])
      | [y] => (y, B)
      | _ => putP B (kind, 0, sortS (inputsR B kind (dropK kind) l))) := by
  unfold addP
  rw [if_neg (by omega)]
  rfl
theorem dropK_c (kind : Int) : dropK kind = 0 ∨ dropK kind = 1 := by unfold dropK; split <;> omega
theorem endK_c (kind : Int) : endK kind = 0 ∨ endK kind = 1 := by unfold endK; split <;> omega
theorem add_simp {N : Int} {B : List PN} (h : Simp N B) (ho : OkP B) {x : PN} (hf : formedP x N B.length = true) : Simp N (addP B x).2 := by
  have hr := formed_rng hf
  have hL := fun hk => formed_empty hf hk
  obtain ⟨kind, lt, l⟩ := x
  simp only at hr hL
  by_cases hk : kind = 3 ∨ kind = 4
  case neg =>
    rw [add_const (x := (kind, lt, l)) ⟨fun e => hk (.inl e), fun e => hk (.inr e)⟩]
    exact h.put (hL hk) fun hg => absurd hg hk
  have gi := gin ho kind hr
  have hfk := flat_kind h hk hr
  rw [add_doc hk]
  generalize inputsR B kind (dropK kind) l = D at gi
  have hnG : ∀ c : Int, c = 0 ∨ c = 1 → ¬ isG (c, 0, []) := fun c hc hg => by
    have hg : c = 3 ∨ c = 4 := hg
    omega
  by_cases hd : decR B D (endK kind) = true
  · rw [if_pos hd]; exact h.put (formed_c (endK_c kind)) fun hg => absurd hg (hnG _ (endK_c kind))
  rw [if_neg hd]
  rcases hD : D with _ | ⟨y, _ | ⟨z, t⟩⟩
  · exact h.put (formed_c (dropK_c kind)) fun hg => absurd hg (hnG _ (dropK_c kind))
  · exact h
  · show Simp N (putP B (kind, 0, sortS (y :: z :: t))).2
    rw [← hD]
    have hs := sortS_perm D
    have hln := sortS_len D
    have hmem : ∀ i, i ∈ sortS D ↔ i ∈ D := fun i => hs.mem_iff
    refine h.put (formed_gate hk fun i hi => gi.rg i ((hmem i).1 hi)) fun _ => ⟨?_, sorted_lt (sortS_sorted _) (hs.nodup_iff.2 gi.nd), fun i hi => ?_, fun i k hi hk2 ha hb hc => ?_⟩
    · show 2 ≤ (sortS D).length
      rw [hln, hD]; simp only [List.length_cons]; omega
    · have hi := (hmem i).1 hi
      have h1 := (gi.mem i).1 hi
      refine ⟨hfk i h1.1, ?_⟩
      have h2 := kind_rng h i
      have h3 : kindP B i ≠ endK kind := fun e => hd ((dec_iff B D (endK kind)).2 ⟨i, hi, .inl e⟩)
      have h4 := h1.2
      unfold endK dropK at *
      split at h3 <;> omega
    · exact hd ((dec_iff B D (endK kind)).2 ⟨i, (hmem i).1 hi, .inr ⟨k, (hmem k).1 hk2, ha, hb, hc⟩⟩)
theorem rk_lt {U : List Bool} {k i : Nat} (h : k < i) (hk : U.getD k false = true) : rk U k < rk U i := by
  induction i with
  | zero => omega
  | succ i ih =>
    rw [rk]
    by_cases e : k = i
    · subst e; rw [hk]; unfold b2i; simp; omega
    · have := ih (by omega)
      unfold b2i; split <;> omega
theorem rk_inj {U : List Bool} {i k : Nat} (hi : U.getD i false = true) (hk : U.getD k false = true) (h : rk U i = rk U k) : i = k := by
  rcases Nat.lt_trichotomy i k with e | e | e
  · have := rk_lt e hi; omega
  · exact e
  · have := rk_lt e hk; omega
def nodeN (B : List PN) (U : List Bool) (i : Nat) : PN := (kindP B i, litP B i, (inP B i).map fun k => rk U k.toNat)
theorem netTo_succ (B : List PN) (U : List Bool) (n : Nat) : netTo B U (n + 1) = netTo B U n ++ (if U.getD n false = true then [nodeN B U n] else []) := rfl
theorem net_at (B : List PN) (U : List Bool) : ∀ n i, i < n → U.getD i false = true → (netTo B U n).getD (rk U i).toNat default = nodeN B U i
  | 0, i, h, _ => absurd h (Nat.not_lt_zero _)
  | n + 1, i, h, hu => by
    have hl := netTo_len B U n
    rw [netTo_succ]
    by_cases e : i = n
    · subst e
      rw [hu, if_pos rfl, ← hl, Int.toNat_natCast, getD_lastN]
    · have := rk_lt (U := U) (show i < n by omega) hu
      have := rk_le U i
      rw [getD_app _ _ _ (by omega)]
      exact net_at B U n i (by omega) hu
theorem net_idx (B : List PN) (U : List Bool) : ∀ n j, j < (netTo B U n).length → ∃ i, i < n ∧ U.getD i false = true ∧ rk U i = j
  | 0, j, h => absurd h (Nat.not_lt_zero _)
  | n + 1, j, h => by
    have hl := netTo_len B U n
    rw [netTo_succ, List.length_append] at h
    by_cases e : j < (netTo B U n).length
    · obtain ⟨i, h1, h2, h3⟩ := net_idx B U n j e
      exact ⟨i, by omega, h2, h3⟩
    · cases hu : U.getD n false with
      | false => rw [hu, if_neg (by decide)] at h; simp only [List.length_nil] at h; omega
      | true =>
        rw [hu, if_pos rfl] at h
        simp only [List.length_cons, List.length_nil] at h
        exact ⟨n, by omega, hu, by omega⟩
theorem orS_cases : ∀ (l : List Int) (U : List Bool) (x : Bool) (j : Nat), (orS U l x).getD j false = true → U.getD j false = true ∨ (x = true ∧ ∃ k, k ∈ l ∧ k.toNat = j)
  | [], U, x, j, h => .inl h
  | k :: l, U, x, j, h => by
    rw [orS_cons] at h
    rcases orS_cases l _ x j h with h | ⟨h1, q, hq, e⟩
    · rw [getD_setB] at h
      split at h
      · rename_i hc
        rw [Bool.or_eq_true] at h
        rcases h with h | h
        · left; rw [← hc.1]; exact h
        · exact .inr ⟨h, k, List.mem_cons_self, hc.1⟩
      · exact .inl h
    · exact .inr ⟨h1, q, List.mem_cons_of_mem _ hq, e⟩
theorem mk_parent (B : List PN) : ∀ (n : Nat) (U : List Bool) (j : Nat), (mk B n U).getD j false = true → U.getD j false = true ∨ ∃ i, i < n ∧ (mk B n U).getD i false = true ∧ ∃ k, k ∈ inP B i ∧ k.toNat = j
  | 0, U, j, h => .inl h
  | n + 1, U, j, h => by
    rw [mk] at h ⊢
    rcases mk_parent B n _ j h with h1 | ⟨i, h1, h2, h3⟩
    · rcases orS_cases _ _ _ _ h1 with h2 | ⟨h2, h3⟩
      · exact .inl h2
      · exact .inr ⟨n, by omega, mk_mono B n _ _ (orS_mono _ _ _ _ h2), h3⟩
    · exact .inr ⟨i, by omega, h2, h3⟩
structure Marks (B : List PN) (r : Nat) (U : List Bool) : Prop where
  rt : U.getD r false = true
  cl : ∀ i, i < r + 1 → U.getD i false = true → ∀ k, k ∈ inP B i → U.getD k.toNat false = true
  pa : ∀ j, U.getD j false = true → j ≠ r → ∃ i, i < r + 1 ∧ U.getD i false = true ∧ (j : Int) ∈ inP B i ∧ j < i
theorem marks {B : List PN} (hB : Ord B) (r : Nat) : Marks B r (markN B r (r + 1)) := by
  have hr : ((List.replicate (r + 1) false).set r true).getD r false = true := by rw [getD_setB, if_pos ⟨rfl, by simp⟩]
  refine ⟨mk_mono B _ _ _ hr, mk_closed hB (r + 1) _ (by simp), fun j hj hne => ?_⟩
  rcases mk_parent B (r + 1) _ j hj with h | ⟨i, h1, h2, k, h3, h4⟩
  · rw [getD_setB, if_neg (fun e => hne e.1.symm), List.getD_eq_getElem?_getD, List.getElem?_replicate] at h
    split at h <;> cases h
  · have := hB i k h3
    exact ⟨i, h1, h2, by rw [show (j : Int) = k by omega]; exact h3, by omega⟩
theorem net_last {B : List PN} {r : Nat} {U : List Bool} (m : Marks B r U) : ((netTo B U (r + 1)).length : Int) = rk U r + 1 := by
  rw [netTo_len, rk, m.rt]; rfl
theorem nodeN_form {N : Int} {B : List PN} (h : Simp N B) {r : Nat} {U : List Bool} (m : Marks B r U) {i : Nat} (hi : i < r + 1) (hib : i < B.length) (hu : U.getD i false = true) : formedP (nodeN B U i) N (rk U i) = true := by
  have hf := h.fm i hib
  have hr := formed_rng hf
  unfold formedP at hf ⊢
  simp only [Bool.and_eq_true, Bool.not_eq_true'] at hf ⊢
  refine ⟨List.any_eq_false.2 fun q hq => ?_, ?_⟩
  · obtain ⟨k, hk, rfl⟩ := List.mem_map.1 hq
    have hk2 := m.cl i hi hu k hk
    rw [inP_nat] at hk
    have := hr k hk
    have := rk_lt (U := U) (show k.toNat < i by omega) hk2
    have := rk_le U k.toNat
    unfold badI
    simp only [Bool.or_eq_true, decide_eq_true_eq]
    omega
  · unfold nodeN
    simp only [List.length_map]
    rw [kindP_nat, litP_nat, inP_nat]
    exact hf.2
theorem kind_net {B : List PN} {U : List Bool} {n i : Nat} (h : i < n) (hu : U.getD i false = true) : kindP (netTo B U n) (rk U i) = kindP B i := by
  show ((netTo B U n).getD (rk U i).toNat default).1 = _
  rw [net_at B U n i h hu]; rfl
theorem lit_net {B : List PN} {U : List Bool} {n i : Nat} (h : i < n) (hu : U.getD i false = true) : litP (netTo B U n) (rk U i) = litP B i := by
  show ((netTo B U n).getD (rk U i).toNat default).2.1 = _
  rw [net_at B U n i h hu]; rfl
theorem in_net {B : List PN} {U : List Bool} {n i : Nat} (h : i < n) (hu : U.getD i false = true) : inP (netTo B U n) (rk U i) = (inP B i).map fun k => rk U k.toNat := by
  show ((netTo B U n).getD (rk U i).toNat default).2.2 = _
  rw [net_at B U n i h hu]; rfl
theorem map_inj_on {f : Int → Int} : ∀ {a b : List Int}, (∀ x, x ∈ a → ∀ y, y ∈ b → f x = f y → x = y) → a.map f = b.map f → a = b
  | [], [], _, _ => rfl
  | [], y :: b, _, h => by cases h
  | x :: a, [], _, h => by cases h
  | x :: a, y :: b, hi, h => by
    rw [List.map_cons, List.map_cons, List.cons.injEq] at h
    rw [hi x List.mem_cons_self y List.mem_cons_self h.1, map_inj_on (fun u hu v hv => hi u (List.mem_cons_of_mem _ hu) v (List.mem_cons_of_mem _ hv)) h.2]
theorem net_simp {N : Int} {B : List PN} (h : Simp N B) {r : Nat} (hr : r < B.length) {U : List Bool} (m : Marks B r U) : Simp N (netTo B U (r + 1)) := by
  have hpair : ∀ i, i < r + 1 → (inP B i).Pairwise (· < ·) ∨ inP B i = [] := fun i hi => by
    rw [inP_nat]
    by_cases hg : isG (B.getD i default)
    · exact .inl (h.gt i (by omega) hg).2.1
    · exact .inr (formed_low (h.fm i (by omega)) hg)
  refine ⟨?_, fun j hj => ?_, fun j hj hg => ?_⟩
  · rw [List.nodup_iff_pairwise_ne, List.pairwise_iff_getElem]
    intro a b ha hb hab e
    obtain ⟨i, h1, h2, h3⟩ := net_idx B U (r + 1) a ha
    obtain ⟨k, k1, k2, k3⟩ := net_idx B U (r + 1) b hb
    have e1 := net_at B U (r + 1) i h1 h2
    have e2 := net_at B U (r + 1) k k1 k2
    rw [h3, Int.toNat_natCast, List.getD_eq_getElem?_getD, List.getElem?_eq_getElem ha] at e1
    rw [k3, Int.toNat_natCast, List.getD_eq_getElem?_getD, List.getElem?_eq_getElem hb] at e2
    have e3 : nodeN B U i = nodeN B U k := by rw [← e1, ← e2]; exact e
    unfold nodeN at e3
    simp only [Prod.mk.injEq] at e3
    have e4 : inP B i = inP B k := map_inj_on (fun x hx y hy hxy => by
      have o1 := h.ord i x hx
      have o2 := h.ord k y hy
      have := rk_inj (m.cl i h1 h2 x hx) (m.cl k k1 k2 y hy) hxy
      omega) e3.2.2
    have e5 : B.getD i default = B.getD k default := Prod.ext (by rw [← kindP_nat, ← kindP_nat]; exact e3.1) (Prod.ext (by rw [← litP_nat, ← litP_nat]; exact e3.2.1) (by rw [← inP_nat, ← inP_nat]; exact e4))
    have hne : i ≠ k := fun e => by subst e; omega
    have hnd := h.nd
    rw [List.nodup_iff_pairwise_ne, List.pairwise_iff_getElem] at hnd
    rw [List.getD_eq_getElem?_getD, List.getD_eq_getElem?_getD, List.getElem?_eq_getElem (show i < B.length by omega), List.getElem?_eq_getElem (show k < B.length by omega)] at e5
    have e5 : B[i] = B[k] := e5
    rcases Nat.lt_or_gt_of_ne hne with hlt | hlt
    · exact hnd i k (by omega) (by omega) hlt e5
    · exact hnd k i (by omega) (by omega) hlt e5.symm
  · obtain ⟨i, h1, h2, h3⟩ := net_idx B U (r + 1) j hj
    have e1 := net_at B U (r + 1) i h1 h2
    rw [h3, Int.toNat_natCast] at e1
    rw [e1, ← h3]
    exact nodeN_form h m h1 (by omega) h2
  · obtain ⟨i, h1, h2, h3⟩ := net_idx B U (r + 1) j hj
    have e1 := net_at B U (r + 1) i h1 h2
    rw [h3, Int.toNat_natCast] at e1
    rw [e1] at hg ⊢
    have hg2 : isG (B.getD i default) := by unfold isG at hg ⊢; rw [← kindP_nat]; exact hg
    obtain ⟨g1, g2, g3, g4⟩ := h.gt i (by omega) hg2
    rw [← inP_nat] at g1 g2 g3 g4
    rw [← kindP_nat] at g3
    have hcl := m.cl i h1 h2
    have hor := h.ord i
    refine ⟨by show 2 ≤ ((inP B i).map _).length; rw [List.length_map]; exact g1, ?_, fun q hq => ?_, fun q q2 hq hq2 => ?_⟩
    · show ((inP B i).map _).Pairwise (· < ·)
      rw [List.pairwise_map]
      refine List.Pairwise.imp_of_mem ?_ g2
      intro a b ha hb hab
      exact rk_lt (by have := hor a ha; have := hor b hb; omega) (hcl a ha)
    · obtain ⟨k, hk, rfl⟩ := List.mem_map.1 hq
      have hkr := hor k hk
      rw [kind_net (by omega) (hcl k hk), show ((k.toNat : Nat) : Int) = k by omega]
      exact g3 k hk
    · obtain ⟨k, hk, rfl⟩ := List.mem_map.1 hq
      obtain ⟨k2, hk2, rfl⟩ := List.mem_map.1 hq2
      have hkr := hor k hk
      have hkr2 := hor k2 hk2
      rw [kind_net (by omega) (hcl k hk), kind_net (by omega) (hcl k2 hk2), lit_net (by omega) (hcl k hk), lit_net (by omega) (hcl k2 hk2), show ((k.toNat : Nat) : Int) = k by omega, show ((k2.toNat : Nat) : Int) = k2 by omega]
      exact g4 k k2 hk hk2
structure Full (X : List PN) : Prop where
  us : ∀ j, j + 1 < X.length → ∃ i, j < i ∧ i < X.length ∧ (j : Int) ∈ inP X i
  co : ∀ i, i < X.length → (X.getD i default).1 < 2 → X.length = 1
  ne : 1 ≤ X.length
theorem rk_zero (U : List Bool) : ∀ n, (∀ j, j < n → U.getD j false = false) → rk U n = 0
  | 0, _ => rfl
  | n + 1, h => by rw [rk, rk_zero U n fun j hj => h j (by omega), h n (by omega)]; rfl
theorem net_full {N : Int} {B : List PN} (h : Simp N B) {r : Nat} (hr : r < B.length) {U : List Bool} (m : Marks B r U) : Full (netTo B U (r + 1)) := by
  have hl := net_last m
  have hrk := rk_le U r
  refine ⟨fun j hj => ?_, fun j hj hk => ?_, by omega⟩
  · obtain ⟨i, h1, h2, h3⟩ := net_idx B U (r + 1) j (by omega)
    have hne : i ≠ r := fun e => by subst e; omega
    obtain ⟨q, q1, q2, q3, q4⟩ := m.pa i h2 hne
    have hlt := rk_lt q4 h2
    have hlq : rk U q < rk U (r + 1) := rk_lt q1 q2
    rw [← netTo_len B U (r + 1)] at hlq
    have hq0 := rk_le U q
    refine ⟨(rk U q).toNat, by omega, by omega, ?_⟩
    rw [show (((rk U q).toNat : Nat) : Int) = rk U q by omega, in_net q1 q2]
    exact List.mem_map.2 ⟨(i : Int), q3, by rw [Int.toNat_natCast]; exact h3⟩
  · obtain ⟨i, h1, h2, h3⟩ := net_idx B U (r + 1) j hj
    have e1 := net_at B U (r + 1) i h1 h2
    rw [h3, Int.toNat_natCast] at e1
    rw [e1] at hk
    have hk : kindP B i < 2 := hk
    have hir : i = r := Decidable.byContradiction fun hne => by
      obtain ⟨q, q1, q2, q3, q4⟩ := m.pa i h2 hne
      rw [inP_nat] at q3
      by_cases hg : isG (B.getD q default)
      · have := ((h.gt q (by omega) hg).2.2.1 i q3).2
        omega
      · rw [formed_low (h.fm q (by omega)) hg] at q3; exact absurd q3 List.not_mem_nil
    subst hir
    have hin : inP B i = [] := by
      rw [inP_nat]
      refine formed_low (h.fm i hr) fun hg => ?_
      unfold isG at hg
      rw [← kindP_nat] at hg
      omega
    have hnone : ∀ d j, j < i → i - j ≤ d → U.getD j false = false := fun d => by
      induction d with
      | zero => intro j hj hd; omega
      | succ d ih =>
        intro j hj hd
        cases hu : U.getD j false with
        | false => rfl
        | true =>
          obtain ⟨q, q1, q2, q3, q4⟩ := m.pa j hu (by omega)
          by_cases e : q = i
          · subst e; rw [hin] at q3; exact absurd q3 List.not_mem_nil
          · rw [ih q (by omega) (by omega)] at q2; cases q2
    have hz := rk_zero U i fun j hj => hnone (i - j) j hj (Nat.le_refl _)
    omega
theorem flat_id {B : List PN} {kind : Int} : ∀ (l : List Int), (∀ i, i ∈ l → kindP B i ≠ kind) → flatP B kind l = l
  | [], _ => rfl
  | x :: l, h => by
    have ih := flat_id l fun i hi => h i (List.mem_cons_of_mem _ hi)
    unfold flatP at ih ⊢
    rw [List.flatMap_cons, if_neg (h x List.mem_cons_self), ih]; rfl
end Go.Proofs.YtdiciemlbhkilaaGreatDoor
namespace Go.Proofs.YtdiciemlbhkilaaGreatDoor
open Go Go.Cx Go.RowKit
set_option linter.unusedVariables false
set_option linter.unusedSimpArgs false
set_option maxHeartbeats 4000000
attribute [local irreducible] J JC thenK blockK loopK roundK drawK retK QW Qt pel List.set Calls
theorem truS_congr (s : Nat × Nat) {T V : List Bool} {x : PN} (h : ∀ k, k ∈ x.2.2 → T.getD k.toNat default = V.getD k.toNat default) : truS s T x = truS s V x := by
  unfold truS
  rw [any_congr (p := fun k => !(T.getD k.toNat default)) (q := fun k => !(V.getD k.toNat default)) fun k hk => by rw [h k hk], any_congr (p := fun k => T.getD k.toNat default) (q := fun k => V.getD k.toNat default) fun k hk => by rw [h k hk]]
theorem truS_map (s : Nat × Nat) {T V : List Bool} {f : Int → Int} (a b : Int) (l : List Int) (h : ∀ k, k ∈ l → T.getD (f k).toNat default = V.getD k.toNat default) : truS s T (a, b, l.map f) = truS s V (a, b, l) := by
  unfold truS
  simp only [List.any_map]
  rw [any_congr (p := (fun k : Int => !(T.getD k.toNat default)) ∘ f) (q := fun k => !(V.getD k.toNat default)) fun k hk => by show (!_) = _; rw [h k hk], any_congr (p := (fun k : Int => T.getD k.toNat default) ∘ f) (q := fun k => V.getD k.toNat default) fun k hk => h k hk]
def valN (s : Nat × Nat) (B : List PN) (i : Int) : Bool := (truT s B).getD i.toNat default
theorem val_app (s : Nat × Nat) (B : List PN) (x : PN) (i : Int) (h : i.toNat < B.length) : valN s (B ++ [x]) i = valN s B i := by
  unfold valN; rw [truT_snoc, getD_app _ _ _ (by rw [truT_len]; exact h)]
theorem valN_last (s : Nat × Nat) (B : List PN) (x : PN) : valN s (B ++ [x]) B.length = truS s (truT s B) x := by
  unfold valN; rw [truT_snoc, Int.toNat_natCast, ← truT_len s B, getD_lastN]
theorem val_take (s : Nat × Nat) (B : List PN) (k j : Nat) (h : j < k) (hk : k ≤ B.length) : (truT s (B.take k)).getD j default = (truT s B).getD j default := by
  have : ∀ d, k + d ≤ B.length → (truT s (B.take (k + d))).getD j default = (truT s (B.take k)).getD j default := fun d => by
    induction d with
    | zero => intro _; rfl
    | succ d ih =>
      intro hd
      rw [show k + (d + 1) = (k + d) + 1 by omega, take_g B (k + d) (by omega), truT_snoc, getD_app _ _ _ (by rw [truT_len, List.length_take]; omega)]
      exact ih (by omega)
  have h2 := this (B.length - k) (by omega)
  rw [show k + (B.length - k) = B.length by omega, List.take_length] at h2
  exact h2.symm
theorem val_at (s : Nat × Nat) {B : List PN} (hB : Ord B) (i : Nat) (hi : i < B.length) : valN s B i = truS s (truT s B) (B.getD i default) := by
  have h1 : valN s B i = truS s (truT s (B.take i)) (B.getD i default) := by
    unfold valN
    rw [Int.toNat_natCast, ← val_take s B (i + 1) i (by omega) (by omega), take_g B i hi, truT_snoc]
    exact getD_last2 _ _ _ (by rw [truT_len, List.length_take]; omega)
  rw [h1]
  refine truS_congr s fun k hk => ?_
  have := hB i k (by rw [inP_nat]; exact hk)
  exact val_take s B i k.toNat (by omega) (by omega)
theorem val_put (s : Nat × Nat) {B : List PN} (hB : Ord B) (z : PN) : valN s (putP B z).2 (putP B z).1 = truS s (truT s B) z ∧ ∀ i : Int, i.toNat < B.length → valN s (putP B z).2 i = valN s B i := by
  unfold putP
  by_cases hz : z ∈ B
  · rw [if_pos hz]
    have hb := idx_nat B z hz
    have hat := idxP_at z B 0 hz
    rw [Int.sub_zero] at hat
    refine ⟨?_, fun i _ => rfl⟩
    have := val_at s hB (idxP B z 0).toNat (by omega)
    rw [hat, show (((idxP B z 0).toNat : Nat) : Int) = idxP B z 0 by omega] at this
    exact this
  · rw [if_neg hz]
    exact ⟨valN_last s B z, fun i hi => val_app s B z i hi⟩
def ask (kind : Int) (v : Bool) : Bool := if kind = 4 then v else !v
theorem truS_gate (s : Nat × Nat) (T : List Bool) {kind : Int} (lt : Int) (l : List Int) (hk : kind = 3 ∨ kind = 4) : truS s T (kind, lt, l) = ask kind (l.any fun k => ask kind (T.getD k.toNat default)) := by
  unfold truS ask
  rcases hk with rfl | rfl
  · rfl
  · rfl
theorem ask_ask (kind : Int) (v : Bool) : ask kind (ask kind v) = v := by unfold ask; split <;> simp
theorem any_mem {p : Int → Bool} {a b : List Int} (h : ∀ x, x ∈ a ↔ x ∈ b) : a.any p = b.any p := by
  rw [Bool.eq_iff_iff, List.any_eq_true, List.any_eq_true]
  exact ⟨fun ⟨x, h1, h2⟩ => ⟨x, (h x).1 h1, h2⟩, fun ⟨x, h1, h2⟩ => ⟨x, (h x).2 h1, h2⟩⟩
theorem any_flat (s : Nat × Nat) {B : List PN} (hB : Ord B) {kind : Int} (hk : kind = 3 ∨ kind = 4) : ∀ (l : List Int), (∀ i, i ∈ l → 0 ≤ i ∧ i < B.length) → (flatP B kind l).any (fun k => ask kind (valN s B k)) = l.any (fun k => ask kind (valN s B k))
  | [], _ => rfl
  | x :: l, h => by
    have ih := any_flat s hB hk l fun i hi => h i (List.mem_cons_of_mem _ hi)
    have hx := h x List.mem_cons_self
    unfold flatP at ih ⊢
    rw [List.flatMap_cons, List.any_append, List.any_cons, ih]
    congr 1
    split
    · rename_i hkx
      have h1 := val_at s hB x.toNat (by omega)
      rw [show ((x.toNat : Nat) : Int) = x by omega] at h1
      have h2 : B.getD x.toNat default = (kind, litP B x, inP B x) := by rw [← hkx]; rfl
      rw [h2, truS_gate s _ _ _ hk] at h1
      rw [h1, ask_ask]; rfl
    · rw [List.any_cons, List.any_nil, Bool.or_false]
theorem val_lit (s : Nat × Nat) {B : List PN} (hB : Ord B) (i : Int) (h : 0 ≤ i ∧ i < B.length) (hk : kindP B i = 2) : valN s B i = decide (hasB s (absI (litP B i)) = decide (0 < litP B i)) := by
  have h1 := val_at s hB i.toNat (by omega)
  rw [show ((i.toNat : Nat) : Int) = i by omega] at h1
  have h2 : B.getD i.toNat default = (2, litP B i, inP B i) := by rw [← hk]; rfl
  rw [h1, h2]; rfl
theorem val_const (s : Nat × Nat) {B : List PN} (hB : Ord B) (i : Int) (h : 0 ≤ i ∧ i < B.length) (hk : kindP B i = 0 ∨ kindP B i = 1) : valN s B i = decide (kindP B i = 1) := by
  have h1 := val_at s hB i.toNat (by omega)
  rw [show ((i.toNat : Nat) : Int) = i by omega] at h1
  have h2 : B.getD i.toNat default = (kindP B i, litP B i, inP B i) := rfl
  rw [h1, h2]
  rcases hk with e | e <;> rw [e] <;> rfl
theorem val_add (s : Nat × Nat) {N : Int} {B : List PN} (hB : Ord B) (ho : OkP B) {x : PN} (hf : formedP x N B.length = true) : valN s (addP B x).2 (addP B x).1 = truS s (truT s B) x ∧ ∀ i : Int, i.toNat < B.length → valN s (addP B x).2 i = valN s B i := by
  have hr := formed_rng hf
  have hL := fun hk => formed_low hf hk
  obtain ⟨kind, lt, l⟩ := x
  simp only at hr hL
  by_cases hk : kind = 3 ∨ kind = 4
  case neg =>
    have := hL hk
    subst this
    rw [add_const (x := (kind, lt, [])) ⟨fun e => hk (.inl e), fun e => hk (.inr e)⟩]
    exact val_put s hB _
  have gi := gin ho kind hr
  have hfl := any_flat s hB hk l hr
  have hT : truS s (truT s B) (kind, lt, l) = ask kind (l.any fun k => ask kind (valN s B k)) := truS_gate s _ _ _ hk
  rw [hT, add_doc hk, ← hfl]
  generalize inputsR B kind (dropK kind) l = D at gi
  have hdrop : ∀ i, i ∈ flatP B kind l → kindP B i = dropK kind → ask kind (valN s B i) = false := fun i hi e => by
    have hri := flat_rng ho kind hr i hi
    rw [val_const s hB i hri (by rcases dropK_c kind with h | h <;> omega), e]
    unfold dropK ask
    split <;> rfl
  have hAD : (flatP B kind l).any (fun k => ask kind (valN s B k)) = D.any (fun k => ask kind (valN s B k)) := by
    rw [Bool.eq_iff_iff, List.any_eq_true, List.any_eq_true]
    constructor
    · rintro ⟨x, h1, h2⟩
      refine ⟨x, (gi.mem x).2 ⟨h1, fun e => ?_⟩, h2⟩
      rw [hdrop x h1 e] at h2; cases h2
    · rintro ⟨x, h1, h2⟩
      exact ⟨x, ((gi.mem x).1 h1).1, h2⟩
  rw [hAD]
  by_cases hd : decR B D (endK kind) = true
  · rw [if_pos hd]
    have hA : D.any (fun k => ask kind (valN s B k)) = true := by
      rw [List.any_eq_true]
      obtain ⟨i, hi, h | ⟨q, hq, h1, h2, h3⟩⟩ := (dec_iff B D (endK kind)).1 hd
      · refine ⟨i, hi, ?_⟩
        rw [val_const s hB i (gi.rg i hi) (by rcases endK_c kind with h4 | h4 <;> omega), h]
        unfold endK ask
        split <;> rfl
      · have v1 := val_lit s hB i (gi.rg i hi) h1
        have v2 := val_lit s hB q (gi.rg q hq) h2
        have hz := lit_ne ho q h2
        rw [h3, absI_neg] at v1
        have hn : valN s B i = !(valN s B q) := by
          rw [v1, v2]
          rcases Int.lt_or_gt_of_ne hz with h | h
          · rw [decide_eq_true (show 0 < -(litP B q) by omega), decide_eq_false (show ¬ 0 < litP B q by omega)]
            cases hasB s (absI (litP B q)) <;> rfl
          · rw [decide_eq_false (show ¬ 0 < -(litP B q) by omega), decide_eq_true h]
            cases hasB s (absI (litP B q)) <;> rfl
        by_cases hv : ask kind (valN s B i) = true
        · exact ⟨i, hi, hv⟩
        · refine ⟨q, hq, ?_⟩
          rw [hn] at hv
          unfold ask at hv ⊢
          split
          · rename_i h; rw [if_pos h] at hv; simpa using hv
          · rename_i h; rw [if_neg h] at hv; simpa using hv
    rw [hA]
    have := val_put s hB (endK kind, 0, [])
    refine ⟨this.1.trans ?_, this.2⟩
    unfold truS endK ask
    rcases hk with rfl | rfl <;> rfl
  rw [if_neg hd]
  rcases hD : D with _ | ⟨y, _ | ⟨z, t⟩⟩
  · have := val_put s hB (dropK kind, 0, [])
    refine ⟨this.1.trans ?_, this.2⟩
    unfold truS dropK ask
    rcases hk with rfl | rfl <;> rfl
  · refine ⟨?_, fun i _ => rfl⟩
    show valN s B y = _
    rw [List.any_cons, List.any_nil, Bool.or_false, ask_ask]
  · show valN s (putP B (kind, 0, sortS (y :: z :: t))).2 (putP B (kind, 0, sortS (y :: z :: t))).1 = _ ∧ ∀ i : Int, i.toNat < B.length → valN s (putP B (kind, 0, sortS (y :: z :: t))).2 i = valN s B i
    rw [← hD]
    have := val_put s hB (kind, 0, sortS D)
    refine ⟨this.1.trans ?_, this.2⟩
    rw [truS_gate s _ _ _ hk, any_mem fun x => (sortS_perm D).mem_iff]; rfl
theorem val_net (s : Nat × Nat) {B : List PN} (hB : Ord B) {r : Nat} (hr : r < B.length) {U : List Bool} (m : Marks B r U) : ∀ n, n ≤ r + 1 → ∀ i, i < n → U.getD i false = true → valN s (netTo B U n) (rk U i) = valN s B i := fun n => by
  induction n with
  | zero => intro _ i hi; omega
  | succ n ih =>
    intro hn i hi hu
    have ih := ih (by omega)
    have hl := netTo_len B U n
    rw [netTo_succ]
    by_cases e : i < n
    · have := rk_lt e hu
      have := rk_le U i
      have h2 : valN s (netTo B U n ++ if U.getD n false = true then [nodeN B U n] else []) (rk U i) = valN s (netTo B U n) (rk U i) := by
        split
        · exact val_app s _ _ _ (by omega)
        · rw [List.append_nil]
      rw [h2]
      exact ih i e hu
    · have e : i = n := by omega
      subst e
      rw [hu, if_pos rfl, ← hl, valN_last, val_at s hB i (by omega)]
      have hx : B.getD i default = (kindP B i, litP B i, inP B i) := by rw [kindP_nat, litP_nat, inP_nat]
      rw [hx]
      have hv : ∀ k, k ∈ inP B i → (truT s (netTo B U i)).getD (rk U k.toNat).toNat default = (truT s B).getD k.toNat default := fun k hk => by
        have := hB i k hk
        have h3 := ih k.toNat (by omega) (m.cl i (by omega) hu k hk)
        unfold valN at h3
        rw [Int.toNat_natCast] at h3
        exact h3
      exact truS_map s _ _ _ hv
theorem formAll_of (N : Int) : ∀ (B : List PN) (k : Int), (∀ j : Nat, j < B.length → formedP (B.getD j default) N (k + j) = true) → formAll N B k = true
  | [], k, _ => rfl
  | x :: B, k, h => by
    unfold formAll
    rw [Bool.and_eq_true]
    refine ⟨?_, formAll_of N B (k + 1) fun j hj => ?_⟩
    · have := h 0 (by rw [List.length_cons]; omega)
      rw [Int.natCast_zero, Int.add_zero] at this
      exact this
    · have := h (j + 1) (by rw [List.length_cons]; omega)
      rw [show k + ((j + 1 : Nat) : Int) = k + 1 + (j : Int) by omega] at this
      exact this
end Go.Proofs.YtdiciemlbhkilaaGreatDoor
namespace Go.Proofs.YtdiciemlbhkilaaGreatDoor
open Go Go.Cx Go.RowKit
set_option linter.unusedVariables false
set_option linter.unusedSimpArgs false
set_option maxHeartbeats 4000000
attribute [local irreducible] J JC thenK blockK loopK roundK drawK retK QW Qt pel List.set Calls
attribute [local irreducible] JE Br eK0 eK3 brK
def uniS (s t : Nat × Nat) : Nat × Nat := (s.1 ||| t.1, s.2 ||| t.2)
theorem okS_uni {s t : Nat × Nat} (hs : okS s) (ht : okS t) : okS (uniS s t) := ⟨Nat.or_lt_two_pow hs.1 ht.1, Nat.or_lt_two_pow hs.2 ht.2⟩
theorem has_uni (s t : Nat × Nat) (u : Int) : hasB (uniS s t) u = (hasB s u || hasB t u) := by
  unfold hasB uniS
  split
  · exact Nat.testBit_or _ _ _
  · split
    · exact Nat.testBit_or _ _ _
    · rfl
theorem okS_zero : okS (0, 0) := ⟨by decide, by decide⟩
theorem okS_of : ∀ (l : List Int) (s : Nat × Nat), okS s → okS (l.foldl withS s)
  | [], s, h => h
  | x :: l, s, h => by rw [List.foldl_cons]; exact okS_of l _ (okS_with h x)
def setO (s : Nat × Nat) : Obj := .cells ⟨[.int .u64 (s.1 : Int), .int .u64 (s.2 : Int)]⟩ 40 (0, 0)
def varS (T : List (Nat × Nat)) (x : PN) : Nat × Nat := x.2.2.foldl (fun s k => uniS s (T.getD k.toNat default)) (withS (0, 0) (varI x.2.1))
def varT (X : List PN) : List (Nat × Nat) := X.foldl (fun T x => T ++ [varS T x]) []
theorem varT_snoc (X : List PN) (x : PN) : varT (X ++ [x]) = varT X ++ [varS (varT X) x] := by
  unfold varT; rw [List.foldl_append]; rfl
theorem varT_len : ∀ (X : List PN), (varT X).length = X.length := fun X => by
  have h : ∀ (X : List PN) (T : List (Nat × Nat)), (X.foldl (fun T x => T ++ [varS T x]) T).length = T.length + X.length := fun X => by
    induction X with
    | nil => intro T; rfl
    | cons x X ih => intro T; rw [List.foldl_cons, ih]; simp only [List.length_append, List.length_cons, List.length_nil]; omega
  have := h X []
  rw [List.length_nil, Nat.zero_add] at this
  exact this
theorem okS_d (T : List (Nat × Nat)) (hT : ∀ s, s ∈ T → okS s) (k : Nat) : okS (T.getD k default) := by
  by_cases h : k < T.length
  · exact hT _ (mem_g T k h)
  · rw [List.getD_eq_getElem?_getD, List.getElem?_eq_none (by omega)]; exact okS_zero
theorem okS_fold (T : List (Nat × Nat)) (hT : ∀ s, s ∈ T → okS s) : ∀ (l : List Int) (s : Nat × Nat), okS s → okS (l.foldl (fun s (k : Int) => uniS s (T.getD k.toNat default)) s)
  | [], s, h => h
  | x :: l, s, h => by rw [List.foldl_cons]; exact okS_fold T hT l _ (okS_uni h (okS_d T hT _))
theorem okS_varS (T : List (Nat × Nat)) (hT : ∀ s, s ∈ T → okS s) (x : PN) : okS (varS T x) := okS_fold T hT _ _ (okS_with okS_zero _)
theorem okS_varT : ∀ (X : List PN) (s : Nat × Nat), s ∈ varT X → okS s := fun X => by
  have h : ∀ (X : List PN) (T : List (Nat × Nat)), (∀ s, s ∈ T → okS s) → ∀ s, s ∈ (X.foldl (fun T x => T ++ [varS T x]) T) → okS s := fun X => by
    induction X with
    | nil => intro T hT; exact hT
    | cons x X ih =>
      intro T hT
      rw [List.foldl_cons]
      refine ih _ fun s hs => ?_
      rcases List.mem_append.1 hs with hs | hs
      · exact hT s hs
      · rw [List.mem_singleton.1 hs]; exact okS_varS T hT x
  exact h X [] fun s hs => absurd hs List.not_mem_nil
theorem app_getD {α : Type} [Inhabited α] (s t : List α) (j : Nat) (h : j < s.length) : (s ++ t).getD j default = s.getD j default := by
  rw [List.getD_eq_getElem?_getD, List.getElem?_append_left h, ← List.getD_eq_getElem?_getD]
theorem app_at {α : Type} [Inhabited α] (s : List α) (x : α) (t : List α) : (s ++ x :: t).getD s.length default = x := by
  rw [List.getD_eq_getElem?_getD, List.getElem?_append_right (Nat.le_refl _), Nat.sub_self]; rfl
theorem app_st {α : Type} (s : List α) (x y : α) (t : List α) : (s ++ x :: t).set s.length y = s ++ y :: t := by
  rw [List.set_append_right _ _ (Nat.le_refl _), Nat.sub_self, List.set_cons_zero]
def parV (T : List (Nat × Nat)) (x : PN) (q : Nat) : Nat × Nat := (x.2.2.take q).foldl (fun s k => uniS s (T.getD k.toNat default)) (withS (0, 0) (varI x.2.1))
theorem parV_all (T : List (Nat × Nat)) (x : PN) (q : Nat) (h : x.2.2.length ≤ q) : parV T x q = varS T x := by
  unfold parV varS; rw [List.take_of_length_le h]
theorem parV_step (T : List (Nat × Nat)) (x : PN) (q : Nat) (h : q < x.2.2.length) : parV T x (q + 1) = uniS (parV T x q) (T.getD (x.2.2.getD q default).toNat default) := by
  unfold parV; rw [take_g _ q h, List.foldl_append]; rfl
theorem okS_par (T : List (Nat × Nat)) (hT : ∀ s, s ∈ T → okS s) (x : PN) (q : Nat) : okS (parV T x q) := okS_fold T hT _ _ (okS_with okS_zero _)
theorem has_fold (T : List (Nat × Nat)) (u : Int) : ∀ (l : List Int) (s : Nat × Nat), hasB (l.foldl (fun s (k : Int) => uniS s (T.getD k.toNat default)) s) u = true ↔ hasB s u = true ∨ ∃ k, k ∈ l ∧ hasB (T.getD k.toNat default) u = true
  | [], s => by simp
  | x :: l, s => by
    rw [List.foldl_cons, has_fold T u l, has_uni, Bool.or_eq_true]
    constructor
    · rintro ((h | h) | ⟨k, h1, h2⟩)
      · exact .inl h
      · exact .inr ⟨x, List.mem_cons_self, h⟩
      · exact .inr ⟨k, List.mem_cons_of_mem _ h1, h2⟩
    · rintro (h | ⟨k, h1, h2⟩)
      · exact .inl (.inl h)
      · rcases List.mem_cons.1 h1 with rfl | h1
        · exact .inl (.inr h2)
        · exact .inr ⟨k, h1, h2⟩
end Go.Proofs.YtdiciemlbhkilaaGreatDoor
