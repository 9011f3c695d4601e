/- Reduce, the walk. -/
import Derived.Test.YtncnpmgohhgmfaaDoorNn
namespace Go.Proofs.YtncnpmgohhgmfaaDoor
open Go Go.Cx Go.RowKit
set_option linter.unusedVariables false
set_option linter.unusedSimpArgs false
set_option maxHeartbeats 4000000
attribute [local irreducible] J JC thenK blockK loopK roundK drawK retK QW Qt pel List.set Calls
attribute [local irreducible] JE Br eK0 eK2 eK3 brK
theorem eReduce : Entr Tryd.prog 17 := Entr.of Tryd.func17 rfl rfl
theorem hrot2 {w0 w : World} {R x y a b c d : Heap} {L : List Heap} (h : H w0 R (x :: y :: a :: b :: c :: d :: L) w) : H w0 R (a :: b :: c :: d :: x :: y :: L) w := H.sel (l := [_, _, _, _, _, _]) (M := L) h [2, 3, 4, 5, 0, 1]
theorem app_rep (s : List Int) (n j : Nat) (h : j < s.length) : (s ++ List.replicate n (0 : Int)).getD j default = s.getD j default := by
  rw [List.getD_eq_getElem?_getD, List.getElem?_append_left h, ← List.getD_eq_getElem?_getD]
theorem app_set (s : List Int) (n : Nat) (x : Int) : (s ++ List.replicate (n + 1) (0 : Int)).set s.length x = (s ++ [x]) ++ List.replicate n 0 := by
  rw [List.set_append_right _ _ (Nat.le_refl _), Nat.sub_self, List.replicate_succ, List.set_cons_zero, List.append_assoc]; rfl
set_option maxHeartbeats 16000000 in
theorem reduce_any (N : Int) (a : Option Addr) (cap : Nat) (vs : List NV) (h : Heap) (hr : NetIn a vs h) {w0 w : World} {R : Heap} {L : List Heap} (rl : RdH R L h) (hT : Tab w0) (hw : H w0 R L w) :
    Calls Tryd.prog 17 #[.agg ⟨[.int .i64 N, .slice a vs.length cap]⟩] w fun e w' => ∃ v' L', e = .returned v' ∧ H w0 R L' w' ∧ ∃ ao co os hO hI, v' = .tuple #[.agg ⟨[.int .i64 (if checkP N (vs.map pnV) = true then N else 0), .slice ao os.length co]⟩, .int .i64 (if checkP N (vs.map pnV) = true then 0 else 1)] ∧ L' = hO :: hI :: L ∧ NetO ao co os hO hI ∧ os.map pnV = if checkP N (vs.map pnV) = true then redP (vs.map pnV) else [] := by
  have cC := fun w hw => check_any N a cap vs h hr w hw
  obtain ⟨so, si, sl, hl⟩ := hr
  cases hC : checkP N (vs.map pnV) with
  | false =>
    rw [hC, if_neg (by decide)] at cC
    rw [if_neg (by decide), if_neg (by decide), if_neg (by decide)]
    refine calls_in Tryd.func17 Tryd.ntmps17 rfl rfl (hw) ?_
    repeat' first
      | (refine J.isJ ?_; first | (first | (refine J.fc 25 ?_; refine J.call0 eCheck rfl rfl (fun w hw => cC w (hw.rdH rl.tl.tl)) ?_)) | (first | (refine J.o 0 ?_; refine J.ev' hΓ ?_) | refine J.nil ?_ | refine J.kd ?_ | (refine J.o 4 ?_; first | refine J.e0 hΓ ?_ | refine J.e1 hΓ ?_ | refine J.e2 hΓ ?_ | refine J.lT default hΓ ?_ | refine J.lR hΓ ?_) | (refine J.o 3 ?_; first | refine J.iJ hΓ ?_ | refine J.fP hΓ ?_ | refine J.iC hΓ ?_ | refine J.ev' hΓ ?_) | (refine J.o 1 ?_; first | refine J.ad ?_ | refine J.sb ?_ | refine J.ng ?_) | (refine J.o 5 ?_; first | refine J.t0 hΓ ?_ | refine J.t1 hΓ ?_ | refine J.t2 hΓ ?_ | refine J.tT _ default hΓ (fun _ _ => ?_) | refine J.tT1 _ default hΓ (fun _ _ => ?_) | refine J.tT2 _ default hΓ (fun _ _ => ?_)) | (refine J.o 6 ?_; refine J.bx (fun _ => ?_)) | (refine J.o 7 ?_; refine J.al hΓ (fun _ => ?_)) | (refine J.o 8 ?_; refine J.bd hΓ ?_) | (refine J.o 9 ?_; refine J.bl hΓ (fun _ => ?_)) | (refine J.o 10 ?_; refine J.ev' hΓ ?_) | (refine J.o 11 ?_; refine J.ev' hΓ ?_) | refine J.kn ?_) | ((fail_if_success refine J.wt ?_); refine J.gc rfl rfl (fun hc => ?_) (fun hc => ?_) <;> ((try simp only [decide_eq_true_eq, decide_eq_false_iff_not, beq_iff_eq, beq_eq_false_iff_ne, bne_iff_ne, bne_eq_false_iff_eq, Bool.not_eq_true', Bool.not_eq_false', Bool.not_eq_true, Bool.not_eq_false] at hc) <;> first | (first | (exact absurd rfl hc) | (exfalso; omega) | (exact absurd (hc.symm.trans (by assumption : _ = false)) (by decide)) | (exact absurd (hc.symm.trans (by assumption : _ = true)) (by decide))) | skip)))
      | (first | refine JC.seq ?_ | refine JC.region ?_ | refine JC.block ?_ | refine JC.ret ?_ | refine JC.exit ?_ | refine JC.skip ?_ | refine thenK.nn ?_ | refine thenK.r ?_ | refine thenK.x ?_ | refine blockK.nn ?_ | refine blockK.r ?_ | refine blockK.hit rfl ?_ | refine blockK.miss rfl ?_ | refine JC.condT rfl ?_ | refine JC.condF rfl ?_ | (refine JC.cond rfl (fun hc => ?_) (fun hc => ?_) <;> ((try simp only [decide_eq_true_eq, decide_eq_false_iff_not, beq_iff_eq, beq_eq_false_iff_ne, bne_iff_ne, bne_eq_false_iff_eq, Bool.not_eq_true', Bool.not_eq_false', Bool.not_eq_true, Bool.not_eq_false] at hc) <;> first | (first | (exact absurd rfl hc) | (exfalso; omega) | (exact absurd (hc.symm.trans (by assumption : _ = false)) (by decide)) | (exact absurd (hc.symm.trans (by assumption : _ = true)) (by decide))) | skip)) | (refine JC.drawA [] (by kernel_rfl) (by kernel_rfl) ?_) | refine drawK.nn ?_ | refine roundK.nn ?_ | refine roundK.r ?_ | refine roundK.x ?_ | refine loopK.r ?_ | refine loopK.x ?_)
      | ((refine JC.drawN [] [] (by kernel_rfl) (by kernel_rfl) ?_))
      | fail
    all_goals first | (exfalso; omega) | skip
    exact retCS hΓ rfl rfl rfl rfl Rd.hd rfl rfl (fun w1 hw => ⟨_, _, rfl, (hw.drop.drop).nilF.nilF, none, 0, [], [], [], rfl, rfl, ⟨OwT.nil (fun _ => rfl), fun v hv => absurd hv List.not_mem_nil, fun v hv => absurd hv List.not_mem_nil⟩, rfl⟩)
  | true =>
    rw [hC, if_pos rfl] at cC
    rw [if_pos rfl, if_pos rfl, if_pos rfl]
    obtain ⟨hN, hM, hFA⟩ := check_facts hC
    have hX : (vs.map pnV).length = vs.length := List.length_map ..
    have hlA : (List.replicate vs.length (0 : Int)).length = vs.length := List.length_replicate ..
    refine calls_in Tryd.func17 Tryd.ntmps17 rfl rfl (hw) ?_
    repeat' first
      | (refine J.isJ ?_; first | (first | (refine J.fc 25 ?_; refine J.call0 eCheck rfl rfl (fun w hw => cC w (hw.rdH rl.tl.tl)) ?_) | (refine J.fc 20 ?_; refine J.callx eNew rfl rfl (fun w hw => new_any N hN hw) ?_; rintro _ _ ⟨b, bm, rfl, rfl, bs⟩; unfold bL; simp only [List.cons_append, List.nil_append]) | (refine J.o 4 ?_; first | refine J.e3 hΓ ?_ | refine J.e4 hΓ ?_) | (refine J.o 4 ?_; first | refine J.lR hΓ ?_ (hr := Rd.hd.tl.tl.tl.tl.tl) | refine J.lR hΓ ?_ (hr := Rd.hd.tl.tl.tl.tl.tl.tl)) | (refine J.o 9 ?_; refine J.make (enc := encI) (m := vs.length) (0 : Int) hΓ rfl rfl rfl rfl rfl rfl (fun _ => rfl) (by omega) (by omega) (fun bA hA oA => ?_); generalize (some (⟨bA, 0, none⟩ : Addr)) = aA at oA ⊢)) | (first | (refine J.o 0 ?_; refine J.ev' hΓ ?_) | refine J.nil ?_ | refine J.kd ?_ | (refine J.o 4 ?_; first | refine J.e0 hΓ ?_ | refine J.e1 hΓ ?_ | refine J.e2 hΓ ?_ | refine J.lT default hΓ ?_ | refine J.lR hΓ ?_) | (refine J.o 3 ?_; first | refine J.iJ hΓ ?_ | refine J.fP hΓ ?_ | refine J.iC hΓ ?_ | refine J.ev' hΓ ?_) | (refine J.o 1 ?_; first | refine J.ad ?_ | refine J.sb ?_ | refine J.ng ?_) | (refine J.o 5 ?_; first | refine J.t0 hΓ ?_ | refine J.t1 hΓ ?_ | refine J.t2 hΓ ?_ | refine J.tT _ default hΓ (fun _ _ => ?_) | refine J.tT1 _ default hΓ (fun _ _ => ?_) | refine J.tT2 _ default hΓ (fun _ _ => ?_)) | (refine J.o 6 ?_; refine J.bx (fun _ => ?_)) | (refine J.o 7 ?_; refine J.al hΓ (fun _ => ?_)) | (refine J.o 8 ?_; refine J.bd hΓ ?_) | (refine J.o 9 ?_; refine J.bl hΓ (fun _ => ?_)) | (refine J.o 10 ?_; refine J.ev' hΓ ?_) | (refine J.o 11 ?_; refine J.ev' hΓ ?_) | refine J.kn ?_) | ((fail_if_success refine J.wt ?_); refine J.gc rfl rfl (fun hc => ?_) (fun hc => ?_) <;> ((try simp only [decide_eq_true_eq, decide_eq_false_iff_not, beq_iff_eq, beq_eq_false_iff_ne, bne_iff_ne, bne_eq_false_iff_eq, Bool.not_eq_true', Bool.not_eq_false', Bool.not_eq_true, Bool.not_eq_false] at hc) <;> first | (first | (exact absurd rfl hc) | (exfalso; omega) | (exact absurd (hc.symm.trans (by assumption : _ = false)) (by decide)) | (exact absurd (hc.symm.trans (by assumption : _ = true)) (by decide))) | skip)))
      | (first | refine JC.seq ?_ | refine JC.region ?_ | refine JC.block ?_ | refine JC.ret ?_ | refine JC.exit ?_ | refine JC.skip ?_ | refine thenK.nn ?_ | refine thenK.r ?_ | refine thenK.x ?_ | refine blockK.nn ?_ | refine blockK.r ?_ | refine blockK.hit rfl ?_ | refine blockK.miss rfl ?_ | refine JC.condT rfl ?_ | refine JC.condF rfl ?_ | (refine JC.cond rfl (fun hc => ?_) (fun hc => ?_) <;> ((try simp only [decide_eq_true_eq, decide_eq_false_iff_not, beq_iff_eq, beq_eq_false_iff_ne, bne_iff_ne, bne_eq_false_iff_eq, Bool.not_eq_true', Bool.not_eq_false', Bool.not_eq_true, Bool.not_eq_false] at hc) <;> first | (first | (exact absurd rfl hc) | (exfalso; omega) | (exact absurd (hc.symm.trans (by assumption : _ = false)) (by decide)) | (exact absurd (hc.symm.trans (by assumption : _ = true)) (by decide))) | skip)) | refine drawK.nn ?_ | refine roundK.nn ?_ | refine roundK.r ?_ | refine roundK.x ?_ | refine loopK.r ?_ | refine loopK.x ?_)
      | ((refine JC.drawN [] [] (by kernel_rfl) (by kernel_rfl) ?_))
      | fail
    all_goals first | (exfalso; omega) | skip
    rename_i n1 n2
    refine JC.weak (L' := bL N b none [] 0 bm [] [] [(bm, .map ⟨[]⟩ 0)] ++ ([(n2, netOb 0 none 0 0)] :: hA :: [(n1, netOb N a vs.length cap)] :: L)) (fun w hw => H.sel (l := [_, _, _, _, _, _, _]) (M := L) hw [1, 2, 3, 4, 5, 0, 6]) ?_
    refine JC.gen [(2, .pointer (some ⟨n2, 0, none⟩)), (5, .pointer (some ⟨b, 0, none⟩)), (7, .slice aA vs.length vs.length), (28, .slice a vs.length cap), (29, .int .i64 vs.length), (30, .int .i64 0)] ⟨rfl, rfl, rfl, rfl, rfl, rfl, trivial⟩ (fun F1 => ?_)
    refine JC.loopG (fun i => i == 3 || i == 8 || i == 9 || i == 10 || Nat.ble 30 i) (fun m g L' => ∃ (k : Nat) (a' : Option Addr) (c' : Nat) (vs' : List NV) (ho hi hm hA : Heap), g 30 = .int .i64 (k : Int) ∧ k + m = vs.length ∧ BS vs' a' c' bm ho hi hm ∧ vs'.map pnV = (redT ((vs.map pnV).take k)).1 ∧ OwT encI 1 3 aA vs.length ((redT ((vs.map pnV).take k)).2 ++ List.replicate m 0) hA ∧ L' = bL N b a' vs' c' bm ho hi hm ++ ([(n2, netOb 0 none 0 0)] :: hA :: [(n1, netOb N a vs.length cap)] :: L)) vs.length ⟨0, none, 0, [], [], [], [(bm, .map ⟨[]⟩ 0)], hA, rfl, by omega, bs, rfl, oA, rfl⟩ ?_
    clear oA bs
    rintro m g L' ⟨k, a', c', vs', ho, hi, hm, hA, e30, hkm, bs, hvs, oA, rfl⟩
    refine JC.pin 30 e30 ?_
    clear e30
    unfold bL netOb
    simp only [List.cons_append, List.nil_append]
    have ri := redI_all hN hFA k (by omega)
    have hvl' : vs'.length = (redT ((vs.map pnV).take k)).1.length := by rw [← hvs, List.length_map]
    have hle := ri.le
    have hln := ri.ln
    have hlA2 : ((redT ((vs.map pnV).take k)).2 ++ List.replicate m (0 : Int)).length = vs.length := by rw [List.length_append, List.length_replicate]; omega
    rcases Nat.lt_or_ge k vs.length with hk | hk
    case inr =>
      have hm0 : m = 0 := by omega
      subst hm0
      have hke : k = vs.length := by omega
      have htk : (vs.map pnV).take k = vs.map pnV := List.take_of_length_le (by omega)
      rw [htk] at oA ri hvs hle hln hlA2 hvl'
      rw [List.replicate_zero, List.append_nil] at oA hlA2
      have hrg := ri.rg (vs.length - 1) (by omega)
      have hrp : redP (vs.map pnV) = netP (redT (vs.map pnV)).1 ((redT (vs.map pnV)).2.getD (vs.length - 1) default).toNat := by unfold redP; rw [hX]
      rw [hrp]
      have hx1 : ((vs.length : Int) - 1).toNat = vs.length - 1 := by omega
      have hval : (redT (vs.map pnV)).2.getD (vs.length - 1) default = ((((redT (vs.map pnV)).2.getD (vs.length - 1) default).toNat : Nat) : Int) := by omega
      have op : OkP (vs'.map pnV) := by rw [hvs]; exact ri.ok
      have od : Ord (vs'.map pnV) := by rw [hvs]; exact ri.od
      have hrr : ((redT (vs.map pnV)).2.getD (vs.length - 1) default).toNat < vs'.length := by omega
      have cN := fun w hw => net_any (w0 := w0) (R := R) (w := w) (N := N) (b := b) (L := [(n2, netOb 0 none 0 0)] :: hA :: [(n1, netOb N a vs.length cap)] :: L) ((redT (vs.map pnV)).2.getD (vs.length - 1) default).toNat hrr bs op od (by omega) hw
      rw [← hval, hvs] at cN
      repeat' first
        | (refine J.isJ ?_; first | (first | (refine J.o 5 ?_; first | (refine J.perm br3 ?_; refine J.t0 hΓ ?_) | (refine J.perm br4 ?_; refine J.t0 hΓ ?_) | (refine J.perm br5 ?_; refine J.t0 hΓ ?_) | (refine J.perm br6 ?_; refine J.t0 hΓ ?_) | (refine J.perm br7 ?_; refine J.t0 hΓ ?_)) | (refine J.o 4 ?_; refine J.lT default hΓ ?_ (hs := oA.sl) (hr := RdH.hd.tl.tl.tl.tl.tl); rw [hx1]) | (refine J.fc 23 ?_; refine J.callx eNet rfl rfl (fun w hw => cN w hw) ?_; rintro _ _ ⟨ao, co, os, hO, hI, rfl, rfl, no, hos⟩; unfold bL netOb; simp only [List.cons_append, List.nil_append])) | (first | (refine J.o 0 ?_; refine J.ev' hΓ ?_) | refine J.nil ?_ | refine J.kd ?_ | (refine J.o 4 ?_; first | refine J.e0 hΓ ?_ | refine J.e1 hΓ ?_ | refine J.e2 hΓ ?_ | refine J.lT default hΓ ?_ | refine J.lR hΓ ?_) | (refine J.o 3 ?_; first | refine J.iJ hΓ ?_ | refine J.fP hΓ ?_ | refine J.iC hΓ ?_ | refine J.ev' hΓ ?_) | (refine J.o 1 ?_; first | refine J.ad ?_ | refine J.sb ?_ | refine J.ng ?_) | (refine J.o 5 ?_; first | refine J.t0 hΓ ?_ | refine J.t1 hΓ ?_ | refine J.t2 hΓ ?_ | refine J.tT _ default hΓ (fun _ _ => ?_) | refine J.tT1 _ default hΓ (fun _ _ => ?_) | refine J.tT2 _ default hΓ (fun _ _ => ?_)) | (refine J.o 6 ?_; refine J.bx (fun _ => ?_)) | (refine J.o 7 ?_; refine J.al hΓ (fun _ => ?_)) | (refine J.o 8 ?_; refine J.bd hΓ ?_) | (refine J.o 9 ?_; refine J.bl hΓ (fun _ => ?_)) | (refine J.o 10 ?_; refine J.ev' hΓ ?_) | (refine J.o 11 ?_; refine J.ev' hΓ ?_) | refine J.kn ?_) | ((fail_if_success refine J.wt ?_); refine J.gc rfl rfl (fun hc => ?_) (fun hc => ?_) <;> ((try simp only [decide_eq_true_eq, decide_eq_false_iff_not, beq_iff_eq, beq_eq_false_iff_ne, bne_iff_ne, bne_eq_false_iff_eq, Bool.not_eq_true', Bool.not_eq_false', Bool.not_eq_true, Bool.not_eq_false] at hc) <;> first | (first | (exact absurd rfl hc) | (exfalso; omega) | (exact absurd (hc.symm.trans (by assumption : _ = false)) (by decide)) | (exact absurd (hc.symm.trans (by assumption : _ = true)) (by decide))) | skip)))
        | (first | refine JC.seq ?_ | refine JC.region ?_ | refine JC.block ?_ | refine JC.ret ?_ | refine JC.exit ?_ | refine JC.skip ?_ | refine thenK.nn ?_ | refine thenK.r ?_ | refine thenK.x ?_ | refine blockK.nn ?_ | refine blockK.r ?_ | refine blockK.hit rfl ?_ | refine blockK.miss rfl ?_ | refine JC.condT rfl ?_ | refine JC.condF rfl ?_ | (refine JC.cond rfl (fun hc => ?_) (fun hc => ?_) <;> ((try simp only [decide_eq_true_eq, decide_eq_false_iff_not, beq_iff_eq, beq_eq_false_iff_ne, bne_iff_ne, bne_eq_false_iff_eq, Bool.not_eq_true', Bool.not_eq_false', Bool.not_eq_true, Bool.not_eq_false] at hc) <;> first | (first | (exact absurd rfl hc) | (exfalso; omega) | (exact absurd (hc.symm.trans (by assumption : _ = false)) (by decide)) | (exact absurd (hc.symm.trans (by assumption : _ = true)) (by decide))) | skip)) | refine drawK.nn ?_ | refine roundK.nn ?_ | refine roundK.r ?_ | refine roundK.x ?_ | refine loopK.r ?_ | refine loopK.x ?_)
        | ((refine JC.drawN [] [] (by kernel_rfl) (by kernel_rfl) ?_))
        | fail
      all_goals first | (exfalso; omega) | skip
      exact retCS hΓ rfl rfl rfl rfl Rd.hd rfl rfl (fun w1 hw => ⟨_, _, rfl, H.sel (l := [_, _, _, _, _, _, _, _, _]) (M := L) hw [1, 2], ao, co, os, hO, hI, rfl, rfl, no, hos⟩)
    have hkX : k < (vs.map pnV).length := by omega
    have hmk := mem_g vs k hk
    have hVl := sl _ hmk
    have hVs := si _ hmk
    have hfk : formedP (pnV (vs.getD k default)) N k = true := by
      have := formAll_at N (vs.map pnV) 0 hFA k hkX
      rw [Int.zero_add, getD_map] at this
      exact this
    have hVo := formed_rng hfk
    have hnext : redT ((vs.map pnV).take (k + 1)) = redS (redT ((vs.map pnV).take k)) (pnV (vs.getD k default)) := by
      unfold redT; rw [take_g _ k hkX, List.foldl_append, getD_map]; rfl
    repeat' first
      | (refine J.isJ ?_; first | (first | (refine J.o 4 ?_; refine J.lT default hΓ ?_ (hs := so) (hr := rl.tl.tl.tl.tl.tl.tl.tl)) | (refine J.fc 39 ?_; refine J.call1 eClone rfl rfl (fun w hw => clone_any (vs.getD k default).a (vs.getD k default).c (vs.getD k default).l h hVs hVl w (hw.rdH rl.tl.tl.tl.tl.tl.tl.tl.tl)) ?_; rintro _ hK ⟨ac, cc, rfl, oc⟩)) | (first | (refine J.o 0 ?_; refine J.ev' hΓ ?_) | refine J.nil ?_ | refine J.kd ?_ | (refine J.o 4 ?_; first | refine J.e0 hΓ ?_ | refine J.e1 hΓ ?_ | refine J.e2 hΓ ?_ | refine J.lT default hΓ ?_ | refine J.lR hΓ ?_) | (refine J.o 3 ?_; first | refine J.iJ hΓ ?_ | refine J.fP hΓ ?_ | refine J.iC hΓ ?_ | refine J.ev' hΓ ?_) | (refine J.o 1 ?_; first | refine J.ad ?_ | refine J.sb ?_ | refine J.ng ?_) | (refine J.o 5 ?_; first | refine J.t0 hΓ ?_ | refine J.t1 hΓ ?_ | refine J.t2 hΓ ?_ | refine J.tT _ default hΓ (fun _ _ => ?_) | refine J.tT1 _ default hΓ (fun _ _ => ?_) | refine J.tT2 _ default hΓ (fun _ _ => ?_)) | (refine J.o 6 ?_; refine J.bx (fun _ => ?_)) | (refine J.o 7 ?_; refine J.al hΓ (fun _ => ?_)) | (refine J.o 8 ?_; refine J.bd hΓ ?_) | (refine J.o 9 ?_; refine J.bl hΓ (fun _ => ?_)) | (refine J.o 10 ?_; refine J.ev' hΓ ?_) | (refine J.o 11 ?_; refine J.ev' hΓ ?_) | refine J.kn ?_) | ((fail_if_success refine J.wt ?_); refine J.gc rfl rfl (fun hc => ?_) (fun hc => ?_) <;> ((try simp only [decide_eq_true_eq, decide_eq_false_iff_not, beq_iff_eq, beq_eq_false_iff_ne, bne_iff_ne, bne_eq_false_iff_eq, Bool.not_eq_true', Bool.not_eq_false', Bool.not_eq_true, Bool.not_eq_false] at hc) <;> first | (first | (exact absurd rfl hc) | (exfalso; omega) | (exact absurd (hc.symm.trans (by assumption : _ = false)) (by decide)) | (exact absurd (hc.symm.trans (by assumption : _ = true)) (by decide))) | skip)))
      | (first | refine JC.seq ?_ | refine JC.region ?_ | refine JC.block ?_ | refine JC.ret ?_ | refine JC.exit ?_ | refine JC.skip ?_ | refine thenK.nn ?_ | refine thenK.r ?_ | refine thenK.x ?_ | refine blockK.nn ?_ | refine blockK.r ?_ | refine blockK.hit rfl ?_ | refine blockK.miss rfl ?_ | refine JC.condT rfl ?_ | refine JC.condF rfl ?_ | (refine JC.cond rfl (fun hc => ?_) (fun hc => ?_) <;> ((try simp only [decide_eq_true_eq, decide_eq_false_iff_not, beq_iff_eq, beq_eq_false_iff_ne, bne_iff_ne, bne_eq_false_iff_eq, Bool.not_eq_true', Bool.not_eq_false', Bool.not_eq_true, Bool.not_eq_false] at hc) <;> first | (first | (exact absurd rfl hc) | (exfalso; omega) | (exact absurd (hc.symm.trans (by assumption : _ = false)) (by decide)) | (exact absurd (hc.symm.trans (by assumption : _ = true)) (by decide))) | skip)) | refine drawK.nn ?_ | refine roundK.nn ?_ | refine roundK.r ?_ | refine roundK.x ?_ | refine loopK.r ?_ | refine loopK.x ?_)
      | ((refine JC.drawN [] [] (by kernel_rfl) (by kernel_rfl) ?_))
      | fail
    all_goals first | (exfalso; omega) | skip
    rename_i n9
    refine JC.loop (fun i => i == 10 || Nat.ble 42 i) (fun m2 g L' => ∃ (q : Nat) (hK : Heap), g 42 = .int .i64 (q : Int) ∧ q + m2 = (vs.getD k default).l.length ∧ OwT encI 1 3 ac cc (turn (fun q : Int => (redT ((vs.map pnV).take k)).2.getD q.toNat default) (vs.getD k default).l q) hK ∧ L' = hK :: [(n9, .cells ⟨[.int .i64 (vs.getD k default).kind, .int .i64 (vs.getD k default).lit, .slice ac (vs.getD k default).l.length cc]⟩ 40 (0, 0))] :: [(b, bO N a' vs'.length c' bm)] :: ho :: hi :: hm :: [(n2, netOb 0 none 0 0)] :: hA :: [(n1, netOb N a vs.length cap)] :: L) (vs.getD k default).l.length ⟨0, hK, rfl, by omega, oc, rfl⟩ ?_
    clear oc
    rintro m2 g2 L' ⟨q, hK, e42, hqm, oc, rfl⟩
    refine JC.pin 42 e42 ?_
    clear e42
    unfold netOb
    have hl4 := turn_len (fun q : Int => (redT ((vs.map pnV).take k)).2.getD q.toNat default) (vs.getD k default).l q
    rcases Nat.lt_or_ge q (vs.getD k default).l.length with hq | hq
    case inr =>
      have hqe : q = (vs.getD k default).l.length := by omega
      rw [hqe, turn_all] at oc
      have hy := ri.form hfk
      rw [← hvl'] at hy
      have hys : redY (redT ((vs.map pnV).take k)).2 (pnV (vs.getD k default)) = pnV ⟨(vs.getD k default).kind, (vs.getD k default).lit, ac, cc, (vs.getD k default).l.map (fun q : Int => (redT ((vs.map pnV).take k)).2.getD q.toNat default)⟩ := rfl
      rw [hys] at hy
      have op : OkP (vs'.map pnV) := by rw [hvs]; exact ri.ok
      have hocl : SlT encI 1 ac ((vs.getD k default).l.map (fun q : Int => (redT ((vs.map pnV).take k)).2.getD q.toNat default)) hK := oc.sl
      have cA := fun w hw => add_any (w0 := w0) (R := R) (w := w) (b := b) (L := hK :: [(n9, .cells ⟨[.int .i64 (vs.getD k default).kind, .int .i64 (vs.getD k default).lit, .slice ac (vs.getD k default).l.length cc]⟩ 40 (0, 0))] :: [(n2, netOb 0 none 0 0)] :: hA :: [(n1, netOb N a vs.length cap)] :: L) N hN ⟨(vs.getD k default).kind, (vs.getD k default).lit, ac, cc, (vs.getD k default).l.map (fun q : Int => (redT ((vs.map pnV).take k)).2.getD q.toNat default)⟩ hocl RdH.hd (by rw [List.length_map]; exact hVl) hy hT bs op (by omega) hw
      have henc : encNV ⟨(vs.getD k default).kind, (vs.getD k default).lit, ac, cc, (vs.getD k default).l.map (fun q : Int => (redT ((vs.map pnV).take k)).2.getD q.toNat default)⟩ = [.int .i64 (vs.getD k default).kind, .int .i64 (vs.getD k default).lit, .slice ac (vs.getD k default).l.length cc] := by unfold encNV; simp only [List.length_map]
      rw [henc, hvs, ← hys] at cA
      obtain ⟨m', rfl⟩ : ∃ m', m = m' + 1 := ⟨m - 1, by omega⟩
      have haset := app_set (redT ((vs.map pnV).take k)).2 m' (addP (redT ((vs.map pnV).take k)).1 (redY (redT ((vs.map pnV).take k)).2 (pnV (vs.getD k default)))).1
      rw [hln] at haset
      repeat' first
        | (refine J.isJ ?_; first | (first | (refine J.fc 21 ?_; refine J.callx eAdd rfl rfl (fun w hw => cA w (hrot2 hw)) ?_; rintro _ _ ⟨a2, c2, ho2, hi2, hm2, vs2, rfl, rfl, bs2, e2⟩; unfold bL netOb; simp only [List.cons_append, List.nil_append]) | (refine J.o 5 ?_; refine J.perm br7 ?_; refine J.tT _ default hΓ (fun hA2 oA2 => ?_))) | (first | (refine J.o 0 ?_; refine J.ev' hΓ ?_) | refine J.nil ?_ | refine J.kd ?_ | (refine J.o 4 ?_; first | refine J.e0 hΓ ?_ | refine J.e1 hΓ ?_ | refine J.e2 hΓ ?_ | refine J.lT default hΓ ?_ | refine J.lR hΓ ?_) | (refine J.o 3 ?_; first | refine J.iJ hΓ ?_ | refine J.fP hΓ ?_ | refine J.iC hΓ ?_ | refine J.ev' hΓ ?_) | (refine J.o 1 ?_; first | refine J.ad ?_ | refine J.sb ?_ | refine J.ng ?_) | (refine J.o 5 ?_; first | refine J.t0 hΓ ?_ | refine J.t1 hΓ ?_ | refine J.t2 hΓ ?_ | refine J.tT _ default hΓ (fun _ _ => ?_) | refine J.tT1 _ default hΓ (fun _ _ => ?_) | refine J.tT2 _ default hΓ (fun _ _ => ?_)) | (refine J.o 6 ?_; refine J.bx (fun _ => ?_)) | (refine J.o 7 ?_; refine J.al hΓ (fun _ => ?_)) | (refine J.o 8 ?_; refine J.bd hΓ ?_) | (refine J.o 9 ?_; refine J.bl hΓ (fun _ => ?_)) | (refine J.o 10 ?_; refine J.ev' hΓ ?_) | (refine J.o 11 ?_; refine J.ev' hΓ ?_) | refine J.kn ?_) | ((fail_if_success refine J.wt ?_); refine J.gc rfl rfl (fun hc => ?_) (fun hc => ?_) <;> ((try simp only [decide_eq_true_eq, decide_eq_false_iff_not, beq_iff_eq, beq_eq_false_iff_ne, bne_iff_ne, bne_eq_false_iff_eq, Bool.not_eq_true', Bool.not_eq_false', Bool.not_eq_true, Bool.not_eq_false] at hc) <;> first | (first | (exact absurd rfl hc) | (exfalso; omega) | (exact absurd (hc.symm.trans (by assumption : _ = false)) (by decide)) | (exact absurd (hc.symm.trans (by assumption : _ = true)) (by decide))) | skip)))
        | (first | refine JC.seq ?_ | refine JC.region ?_ | refine JC.block ?_ | refine JC.ret ?_ | refine JC.exit ?_ | refine JC.skip ?_ | refine thenK.nn ?_ | refine thenK.r ?_ | refine thenK.x ?_ | refine blockK.nn ?_ | refine blockK.r ?_ | refine blockK.hit rfl ?_ | refine blockK.miss rfl ?_ | refine JC.condT rfl ?_ | refine JC.condF rfl ?_ | (refine JC.cond rfl (fun hc => ?_) (fun hc => ?_) <;> ((try simp only [decide_eq_true_eq, decide_eq_false_iff_not, beq_iff_eq, beq_eq_false_iff_ne, bne_iff_ne, bne_eq_false_iff_eq, Bool.not_eq_true', Bool.not_eq_false', Bool.not_eq_true, Bool.not_eq_false] at hc) <;> first | (first | (exact absurd rfl hc) | (exfalso; omega) | (exact absurd (hc.symm.trans (by assumption : _ = false)) (by decide)) | (exact absurd (hc.symm.trans (by assumption : _ = true)) (by decide))) | skip)) | refine drawK.nn ?_ | refine roundK.nn ?_ | refine roundK.r ?_ | refine roundK.x ?_ | refine loopK.r ?_ | refine loopK.x ?_)
        | ((refine JC.drawN [] [] (by kernel_rfl) (by kernel_rfl) ?_))
        | fail
      all_goals first | (exfalso; omega) | skip
      rw [haset] at oA2
      refine loopK.nn m' (by omega) (by repeat (first | refine Ag.upd rfl ?_ | exact Ag.hv | refine Ag.hv2 (fun i hi => by simp at hi ⊢; omega) ?_)) ⟨_, ⟨k + 1, a2, c2, vs2, ho2, hi2, hm2, hA2, ?_, by omega, bs2, by rw [hnext]; exact e2, by rw [hnext]; exact oA2, rfl⟩, fun w hw => H.sel (l := [_, _, _, _, _, _, _, _, _]) (M := L) hw [1, 2, 3, 4, 7, 0, 8]⟩
      show Value.int .i64 _ = _; congr 1
    have hxq := hVo _ (mem_g (vs.getD k default).l q hq)
    have hgq := turn_getD (fun q : Int => (redT ((vs.map pnV).take k)).2.getD q.toNat default) (vs.getD k default).l q hq
    have htq : ((redT ((vs.map pnV).take k)).2 ++ List.replicate m (0 : Int)).getD ((vs.getD k default).l.getD q default).toNat default = (redT ((vs.map pnV).take k)).2.getD ((vs.getD k default).l.getD q default).toNat default := app_rep _ _ _ (by omega)
    have hst := turn_set (fun q : Int => (redT ((vs.map pnV).take k)).2.getD q.toNat default) (vs.getD k default).l q hq
    repeat' first
      | (refine J.isJ ?_; first | (first | (refine J.o 4 ?_; first | (refine J.lT default hΓ ?_ (hs := oc.sl) (hr := RdH.hd); rw [hgq]) | (refine J.lT default hΓ ?_ (hs := oA.sl) (hr := RdH.hd.tl.tl.tl.tl.tl.tl.tl); rw [htq]))) | (first | (refine J.o 0 ?_; refine J.ev' hΓ ?_) | refine J.nil ?_ | refine J.kd ?_ | (refine J.o 4 ?_; first | refine J.e0 hΓ ?_ | refine J.e1 hΓ ?_ | refine J.e2 hΓ ?_ | refine J.lT default hΓ ?_ | refine J.lR hΓ ?_) | (refine J.o 3 ?_; first | refine J.iJ hΓ ?_ | refine J.fP hΓ ?_ | refine J.iC hΓ ?_ | refine J.ev' hΓ ?_) | (refine J.o 1 ?_; first | refine J.ad ?_ | refine J.sb ?_ | refine J.ng ?_) | (refine J.o 5 ?_; first | refine J.t0 hΓ ?_ | refine J.t1 hΓ ?_ | refine J.t2 hΓ ?_ | refine J.tT _ default hΓ (fun _ _ => ?_) | refine J.tT1 _ default hΓ (fun _ _ => ?_) | refine J.tT2 _ default hΓ (fun _ _ => ?_)) | (refine J.o 6 ?_; refine J.bx (fun _ => ?_)) | (refine J.o 7 ?_; refine J.al hΓ (fun _ => ?_)) | (refine J.o 8 ?_; refine J.bd hΓ ?_) | (refine J.o 9 ?_; refine J.bl hΓ (fun _ => ?_)) | (refine J.o 10 ?_; refine J.ev' hΓ ?_) | (refine J.o 11 ?_; refine J.ev' hΓ ?_) | refine J.kn ?_) | ((fail_if_success refine J.wt ?_); refine J.gc rfl rfl (fun hc => ?_) (fun hc => ?_) <;> ((try simp only [decide_eq_true_eq, decide_eq_false_iff_not, beq_iff_eq, beq_eq_false_iff_ne, bne_iff_ne, bne_eq_false_iff_eq, Bool.not_eq_true', Bool.not_eq_false', Bool.not_eq_true, Bool.not_eq_false] at hc) <;> first | (first | (exact absurd rfl hc) | (exfalso; omega) | (exact absurd (hc.symm.trans (by assumption : _ = false)) (by decide)) | (exact absurd (hc.symm.trans (by assumption : _ = true)) (by decide))) | skip)))
      | (first | refine JC.seq ?_ | refine JC.region ?_ | refine JC.block ?_ | refine JC.ret ?_ | refine JC.exit ?_ | refine JC.skip ?_ | refine thenK.nn ?_ | refine thenK.r ?_ | refine thenK.x ?_ | refine blockK.nn ?_ | refine blockK.r ?_ | refine blockK.hit rfl ?_ | refine blockK.miss rfl ?_ | refine JC.condT rfl ?_ | refine JC.condF rfl ?_ | (refine JC.cond rfl (fun hc => ?_) (fun hc => ?_) <;> ((try simp only [decide_eq_true_eq, decide_eq_false_iff_not, beq_iff_eq, beq_eq_false_iff_ne, bne_iff_ne, bne_eq_false_iff_eq, Bool.not_eq_true', Bool.not_eq_false', Bool.not_eq_true, Bool.not_eq_false] at hc) <;> first | (first | (exact absurd rfl hc) | (exfalso; omega) | (exact absurd (hc.symm.trans (by assumption : _ = false)) (by decide)) | (exact absurd (hc.symm.trans (by assumption : _ = true)) (by decide))) | skip)) | refine drawK.nn ?_ | refine roundK.nn ?_ | refine roundK.r ?_ | refine roundK.x ?_ | refine loopK.r ?_ | refine loopK.x ?_)
      | ((refine JC.drawN [] [] (by kernel_rfl) (by kernel_rfl) ?_))
      | fail
    all_goals first | (exfalso; omega) | skip
    rename_i oc2
    have oc3 : OwT encI 1 3 ac cc (turn (fun q : Int => (redT ((vs.map pnV).take k)).2.getD q.toNat default) (vs.getD k default).l (q + 1)) _ := hst ▸ oc2
    refine loopK.nn (m2 - 1) (by omega) (by repeat (first | refine Ag.upd rfl ?_ | exact Ag.hv)) ⟨q + 1, _, ?_, by omega, oc3, rfl⟩
    show Value.int .i64 _ = _; congr 1
end Go.Proofs.YtncnpmgohhgmfaaDoor
