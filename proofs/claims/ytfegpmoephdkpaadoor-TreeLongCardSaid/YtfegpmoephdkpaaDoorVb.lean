/- A tree's text is read back as its nodes in the order of the text; TreeBack's walk. -/
import Derived.Test.YtfegpmoephdkpaaDoorVa
namespace Go.Proofs.YtfegpmoephdkpaaDoor
open Go Go.Cx Go.RowKit
set_option linter.unusedVariables false
set_option linter.unusedSimpArgs false
set_option maxHeartbeats 4000000
attribute [local irreducible] J JC thenK blockK loopK roundK drawK retK QW Qt pel List.set Calls

theorem cntD_app : ∀ (d : List UInt8) (f : Nat) (r : List UInt8), (∀ x, x ∈ d → dig x = true) → d.length < f → cntD f (d ++ 32 :: r) = d.length
  | [], 0, r, _, h => by simp at h
  | [], f + 1, r, _, _ => by rw [List.nil_append, cntD, if_neg (by decide)]; rfl
  | x :: d, 0, r, _, h => by simp at h
  | x :: d, f + 1, r, hd, h => by
    rw [List.cons_append, cntD, if_pos (hd x (List.mem_cons_self ..)), cntD_app d f r (fun y hy => hd y (List.mem_cons_of_mem _ hy)) (by simpa using h)]
    rfl
theorem itoa_all : ((List.range 129).all fun k => decide ((Lib.itoa (k : Int)).all dig = true ∧ 1 ≤ (Lib.itoa (k : Int)).length ∧ (Lib.itoa (k : Int)).length ≤ 3 ∧ (1 < (Lib.itoa (k : Int)).length → ((Lib.itoa (k : Int)).getD 0 0).toNat ≠ 48) ∧ Lib.atoi (Lib.itoa (k : Int)) = some (k : Int))) = true := by kernel_rfl
theorem itoa_one (v : Int) (h0 : 0 ≤ v) (h1 : v ≤ 128) : (∀ x, x ∈ Lib.itoa v → dig x = true) ∧ 1 ≤ (Lib.itoa v).length ∧ (Lib.itoa v).length ≤ 3 ∧ (1 < (Lib.itoa v).length → ((Lib.itoa v).getD 0 0).toNat ≠ 48) ∧ Lib.atoi (Lib.itoa v) = some v := by
  have h := of_decide_eq_true (List.all_eq_true.1 itoa_all v.toNat (List.mem_range.2 (by omega)))
  rw [Int.toNat_of_nonneg h0] at h
  exact ⟨fun x hx => List.all_eq_true.1 h.1 x hx, h.2⟩
theorem numS_itoa (v : Int) (h0 : 0 ≤ v) (h1 : v ≤ 128) (r : List UInt8) : numS (Lib.itoa v ++ 32 :: r) = some (v, 32 :: r) := by
  obtain ⟨a1, a2, a3, a4, a5⟩ := itoa_one v h0 h1
  unfold numS
  rw [cntD_app (Lib.itoa v) 6 r a1 (by omega)]
  have hg : (Lib.itoa v ++ 32 :: r).getD 0 0 = (Lib.itoa v).getD 0 0 := by
    rw [List.getD_eq_getElem?_getD, List.getElem?_append_left (by omega), List.getD_eq_getElem?_getD]
  simp only [hg]
  rw [if_neg (by
    rintro (h | h | ⟨h, h'⟩)
    · omega
    · omega
    · exact a4 h h'), List.take_left, List.drop_left, a5]
  rfl
theorem nodeP_str : ∀ (t : TT) (ts : List Nd) (r : List UInt8) (f : Nat), t.rng → t.size ≤ f → nodeP f ts (t.str ++ r) = (true, ts ++ t.nodes ts.length, r)
  | t, ts, r, 0, _, h => by have := TT.size_pos t; omega
  | .leaf c, ts, r, f + 1, _, _ => by cases c <;> rfl
  | .ask v a b, ts, r, f + 1, hf, h => by
    obtain ⟨v1, v2, fa, fb⟩ := hf
    rw [TT.size] at h
    have pa := TT.size_pos a
    have pb := TT.size_pos b
    have e1 : (TT.ask v a b).str ++ r = 40 :: (Lib.itoa v ++ 32 :: (a.str ++ 32 :: (b.str ++ 41 :: r))) := by simp [TT.str]
    have el : ∀ (c : UInt8) (l : List UInt8), eatL (c :: l) c = l := fun c l => by unfold eatL eatB; simp
    have eb : ∀ (c : UInt8) (l : List UInt8), eatB (c :: l) c = true := fun c l => by unfold eatB; simp
    rw [e1, nodeP]
    have x1 : eatB (40 :: (Lib.itoa v ++ 32 :: (a.str ++ 32 :: (b.str ++ 41 :: r)))) 43 = false := rfl
    have x2 : eatL (40 :: (Lib.itoa v ++ 32 :: (a.str ++ 32 :: (b.str ++ 41 :: r)))) 43 = 40 :: (Lib.itoa v ++ 32 :: (a.str ++ 32 :: (b.str ++ 41 :: r))) := rfl
    have x3 : eatB (40 :: (Lib.itoa v ++ 32 :: (a.str ++ 32 :: (b.str ++ 41 :: r)))) 45 = false := rfl
    have x4 : eatL (40 :: (Lib.itoa v ++ 32 :: (a.str ++ 32 :: (b.str ++ 41 :: r)))) 45 = 40 :: (Lib.itoa v ++ 32 :: (a.str ++ 32 :: (b.str ++ 41 :: r))) := rfl
    simp only [x1, x2, x3, x4, eb, el, numS_itoa v (by omega) v2, Bool.false_eq_true, Bool.true_eq_false, if_false]
    have tl : (ts ++ [(⟨0, 0, 0, false⟩ : Nd)]).length = ts.length + 1 := by simp
    rw [nodeP_str a _ _ f fa (by omega)]
    simp only [eb, el, Bool.true_eq_false, if_false]
    rw [nodeP_str b _ _ f fb (by omega)]
    simp only [eb, el, Bool.true_eq_false, if_false]
    have l2 : (ts ++ [(⟨0, 0, 0, false⟩ : Nd)] ++ a.nodes (ts ++ [(⟨0, 0, 0, false⟩ : Nd)]).length).length = ts.length + 1 + a.size := by simp [TT.nodes_len]; omega
    rw [l2, tl]
    congr 1
    congr 1
    rw [TT.nodes]
    simp [List.set_append]
theorem TT.size_le_str : ∀ t : TT, t.size ≤ t.str.length
  | .leaf c => by cases c <;> simp [TT.size, TT.str]
  | .ask v a b => by
    have := TT.size_le_str a
    have := TT.size_le_str b
    simp only [TT.size, TT.str, List.length_append, List.length_cons, List.length_nil]
    omega

theorem class_valid {ts : List Nd} (h : Valid ts 128) (s : Nat × Nat) : classT ts s = (toT ts ts.length 0).cls s := by
  have := h.pos
  unfold classT
  rw [if_pos ((valid_iff ts 128).2 h), toT_cls ts h.later s _ 0 (by omega) (by omega) (by omega)]
theorem print_valid {ts : List Nd} (h : Valid ts 128) : printP ts = (0, (toT ts ts.length 0).str) := by
  have := h.pos
  unfold printP
  rw [if_pos ((valid_iff ts 128).2 h), toT_str ts h.later _ 0 (by omega) (by omega) (by omega)]
theorem tree_size {ts : List Nd} (h : Valid ts 128) : (toT ts ts.length 0).size = ts.length := by
  have := h.pos
  have h0 := h.size0
  unfold sz at h0
  have h1 := toT_size ts h.later ts.length 0 (by omega) (by omega) (by omega)
  have : szN ts ts.length ((0 : Nat) : Int) = szN ts ts.length 0 := rfl
  omega
theorem nodes_toT (t : TT) (hf : t.fresh) : toT (t.nodes 0) (t.nodes 0).length 0 = t :=
  At.toT (k := 0) ⟨[], [], by simp, rfl⟩ hf.rng (by rw [TT.nodes_len]; exact Nat.le_refl _)
theorem parse_str (t : TT) (hf : t.fresh) (hl : t.str.length ≤ 1048576) : parseP t.str = if t.size ≤ 4096 then (0, t.nodes 0) else (2, []) := by
  have h1 := TT.size_le_str t
  have hn := nodeP_str t [] [] (t.str.length + 1) hf.rng (by omega)
  rw [List.append_nil] at hn
  unfold parseP
  rw [if_neg (by omega), hn]
  simp only [List.nil_append, List.length_nil, Bool.true_eq_false, if_false, ne_eq, not_true_eq_false]
  by_cases hs : t.size ≤ 4096
  · rw [if_pos hs, if_pos ((valid_iff _ 128).2 (nodes_valid t hf hs))]
  · have hlen := TT.nodes_len t 0
    have hc : checkT (t.nodes 0) 128 = 2 := by
      unfold checkT
      rw [if_neg (by omega), if_pos (by omega)]
    rw [if_neg hs, hc]; rfl

/-- what TreeBack asks of a valid tree -/
theorem back_law {ts : List Nd} (h : Valid ts 128) (s : Nat × Nat) : ∃ us : List Nd, Valid us 128 ∧ parseP (printP ts).2 = (0, us) ∧ printP us = printP ts ∧ us.length = ts.length ∧ classT us s = classT ts s := by
  have hpos := h.pos
  have hle := h.le
  have hfr := toT_fresh h ts.length 0 (by omega) (by omega) (by omega)
  have hsz := tree_size h
  have hsh := strN_le h ts.length 0 (by omega) (by omega)
  have h0 := toT_size ts h.later ts.length 0 (by omega) (by omega) (by omega)
  have hst := toT_str ts h.later ts.length 0 (by omega) (by omega) (by omega)
  have hv := nodes_valid _ hfr (by omega)
  refine ⟨(toT ts ts.length 0).nodes 0, hv, ?_, ?_, by rw [TT.nodes_len, hsz], ?_⟩
  · rw [print_valid h]
    dsimp only
    rw [parse_str _ hfr (by rw [← hst]; omega), if_pos (by omega)]
  · rw [print_valid h, print_valid hv, nodes_toT _ hfr]
  · rw [class_valid h, class_valid hv, nodes_toT _ hfr]

theorem treeBack_walk (a : Option Addr) (cap : Nat) (ts : List Nd) (s : Nat × Nat) (hok : okS s) (h : Heap) (hs : SlT encN 4 a ts h) (w : World) (hw : Holds h w) (hT : Tab w) :
    Calls Tryd.prog 9 #[.slice a ts.length cap, sv s] w fun e w' => e = .returned (.bool true) ∧ Below w.heap.size w w' := by
  have cP : ∀ w', Below w.heap.size w w' → Holds h w' → Calls Tryd.prog 20 #[.slice a ts.length cap] w' fun e w2 => e = .returned (.tuple #[.string (S (printP ts).2), .int .i64 (printP ts).1]) ∧ Below w'.heap.size w' w2 :=
    fun w' hb hw' => print_any a cap ts h hs w' hw' (fun hc => ((valid_iff ts 128).1 hc).itoaAt (hT.below hb)) (fun hc => ((valid_iff ts 128).1 hc).short)
  refine calls_of_JC (R := h) Tryd.func9 Tryd.ntmps9 rfl rfl (hw) ?_
  by_cases hl : 80 < ts.length
  ·
    repeat' first
      | (refine J.isJ ?_; first | (first | (refine J.o 0 ?_; refine J.ev' hΓ ?_) | refine J.nil ?_ | refine J.kd ?_ | (refine J.o 4 ?_; first | refine J.e0 hΓ ?_ | refine J.lT default hΓ ?_ | refine J.e1 hΓ ?_ | refine J.e2 hΓ ?_ | refine J.lR hΓ ?_) | (refine J.o 3 ?_; first | refine J.iA hΓ ?_ | refine J.iJ hΓ ?_ | refine J.fP hΓ ?_ | refine J.iC hΓ ?_ | refine J.ev' hΓ ?_) | (refine J.o 1 ?_; first | refine J.ad ?_ | refine J.ct ?_ | refine J.sb ?_ | refine J.mu ?_ | refine J.ng ?_ | refine J.qu ?_ | refine J.rm ?_ | refine J.s1 ?_ | refine J.sr ?_ | refine J.aW ?_ | refine J.oW ?_ | refine J.nW ?_) | (refine J.o 2 ?_; refine J.cv _ hΓ ?_) | (refine J.o 5 ?_; first | refine J.t0 hΓ ?_ | refine J.t1 hΓ ?_ | refine J.t2 hΓ ?_ | refine J.tT _ default hΓ (fun _ _ => ?_) | refine J.tT1 _ default hΓ (fun _ _ => ?_) | refine J.tT2 _ default hΓ (fun _ _ => ?_) | refine J.tT3 _ default hΓ (fun _ _ => ?_)) | (refine J.o 6 ?_; refine J.bx (fun _ => ?_)) | (refine J.o 7 ?_; refine J.al hΓ (fun _ => ?_)) | (refine J.o 8 ?_; refine J.bd hΓ ?_) | (refine J.o 9 ?_; refine J.bl hΓ (fun _ => ?_)) | (refine J.o 10 ?_; first | refine J.ls hΓ ?_ | refine J.ev' hΓ ?_) | (refine J.o 11 ?_; first | refine J.eS ?_ | refine J.xS ?_ | refine J.ev' hΓ ?_ | refine J.nT hΓ ?_) | (refine J.o 12 ?_; refine J.ix hΓ ?_) | (refine J.o 13 ?_; first | refine J.sL hΓ ?_ | refine J.sH hΓ ?_) | (refine J.o 14 ?_; refine J.mf hΓ ?_) | refine J.kn ?_) | ((refine J.fc 15 ?_; refine J.call0 eWorks rfl rfl (fun w hw => works_any w) ?_)) | ((fail_if_success refine J.wt ?_); refine J.gc rfl rfl (fun hc => ?_) (fun hc => ?_) <;> ((try simp only [decide_eq_true_eq, decide_eq_false_iff_not, beq_iff_eq, beq_eq_false_iff_ne, bne_iff_ne, bne_eq_false_iff_eq, Bool.not_eq_true', Bool.not_eq_false', Bool.not_eq_true, Bool.not_eq_false] at hc) <;> first | (first | (exact absurd rfl hc) | (exfalso; omega) | (exact absurd (hc.symm.trans (by assumption : _ = false)) (by decide)) | (exact absurd (hc.symm.trans (by assumption : _ = true)) (by decide))) | skip)))
      | (first | refine JC.seq ?_ | refine JC.region ?_ | refine JC.block ?_ | refine JC.ret ?_ | refine JC.exit ?_ | refine JC.skip ?_ | refine thenK.nn ?_ | refine thenK.r ?_ | refine thenK.x ?_ | refine blockK.nn ?_ | refine blockK.r ?_ | refine blockK.hit rfl ?_ | refine blockK.miss rfl ?_ | refine JC.condT rfl ?_ | refine JC.condF rfl ?_ | (refine JC.cond rfl (fun hc => ?_) (fun hc => ?_) <;> ((try simp only [decide_eq_true_eq, decide_eq_false_iff_not, beq_iff_eq, beq_eq_false_iff_ne, bne_iff_ne, bne_eq_false_iff_eq, Bool.not_eq_true', Bool.not_eq_false', Bool.not_eq_true, Bool.not_eq_false] at hc) <;> first | (first | (exact absurd rfl hc) | (exfalso; omega) | (exact absurd (hc.symm.trans (by assumption : _ = false)) (by decide)) | (exact absurd (hc.symm.trans (by assumption : _ = true)) (by decide))) | skip)) | (refine JC.drawA [] (by kernel_rfl) (by kernel_rfl) ?_) | refine drawK.nn ?_ | refine roundK.nn ?_ | refine roundK.r ?_ | refine roundK.x ?_ | refine loopK.r ?_ | refine loopK.x ?_)
      | fail
    all_goals first | (exfalso; omega) | exact ret1f rfl rfl rfl (fun w1 hw => ⟨rfl, hw.below⟩)
  by_cases hc : checkT ts 128 = 0
  case neg =>
    have hp : printP ts = (checkT ts 128, []) := by unfold printP; rw [if_neg hc]
    rw [hp] at cP
    repeat' first
      | (refine J.isJ ?_; first | (first | (refine J.o 0 ?_; refine J.ev' hΓ ?_) | refine J.nil ?_ | refine J.kd ?_ | (refine J.o 4 ?_; first | refine J.e0 hΓ ?_ | refine J.lT default hΓ ?_ | refine J.e1 hΓ ?_ | refine J.e2 hΓ ?_ | refine J.lR hΓ ?_) | (refine J.o 3 ?_; first | refine J.iA hΓ ?_ | refine J.iJ hΓ ?_ | refine J.fP hΓ ?_ | refine J.iC hΓ ?_ | refine J.ev' hΓ ?_) | (refine J.o 1 ?_; first | refine J.ad ?_ | refine J.ct ?_ | refine J.sb ?_ | refine J.mu ?_ | refine J.ng ?_ | refine J.qu ?_ | refine J.rm ?_ | refine J.s1 ?_ | refine J.sr ?_ | refine J.aW ?_ | refine J.oW ?_ | refine J.nW ?_) | (refine J.o 2 ?_; refine J.cv _ hΓ ?_) | (refine J.o 5 ?_; first | refine J.t0 hΓ ?_ | refine J.t1 hΓ ?_ | refine J.t2 hΓ ?_ | refine J.tT _ default hΓ (fun _ _ => ?_) | refine J.tT1 _ default hΓ (fun _ _ => ?_) | refine J.tT2 _ default hΓ (fun _ _ => ?_) | refine J.tT3 _ default hΓ (fun _ _ => ?_)) | (refine J.o 6 ?_; refine J.bx (fun _ => ?_)) | (refine J.o 7 ?_; refine J.al hΓ (fun _ => ?_)) | (refine J.o 8 ?_; refine J.bd hΓ ?_) | (refine J.o 9 ?_; refine J.bl hΓ (fun _ => ?_)) | (refine J.o 10 ?_; first | refine J.ls hΓ ?_ | refine J.ev' hΓ ?_) | (refine J.o 11 ?_; first | refine J.eS ?_ | refine J.xS ?_ | refine J.ev' hΓ ?_ | refine J.nT hΓ ?_) | (refine J.o 12 ?_; refine J.ix hΓ ?_) | (refine J.o 13 ?_; first | refine J.sL hΓ ?_ | refine J.sH hΓ ?_) | (refine J.o 14 ?_; refine J.mf hΓ ?_) | refine J.kn ?_) | (first | (refine J.fc 15 ?_; refine J.call0 eWorks rfl rfl (fun w hw => works_any w) ?_) | (refine J.fc 20 ?_; refine J.call0 ePrint rfl rfl (fun w hw => cP w hw.below (hw.rdH (by first | exact RdH.hd | exact RdH.hd.tl | exact RdH.hd.tl.tl | exact RdH.hd.tl.tl.tl | exact RdH.hd.tl.tl.tl.tl | exact RdH.hd.tl.tl.tl.tl.tl | exact RdH.hd.tl.tl.tl.tl.tl.tl | exact RdH.hd.tl.tl.tl.tl.tl.tl.tl | exact RdH.old (fun _ hh => hh) | assumption))) ?_)) | ((fail_if_success refine J.wt ?_); refine J.gc rfl rfl (fun hc => ?_) (fun hc => ?_) <;> ((try simp only [decide_eq_true_eq, decide_eq_false_iff_not, beq_iff_eq, beq_eq_false_iff_ne, bne_iff_ne, bne_eq_false_iff_eq, Bool.not_eq_true', Bool.not_eq_false', Bool.not_eq_true, Bool.not_eq_false] at hc) <;> first | (first | (exact absurd rfl hc) | (exfalso; omega) | (exact absurd (hc.symm.trans (by assumption : _ = false)) (by decide)) | (exact absurd (hc.symm.trans (by assumption : _ = true)) (by decide))) | skip)))
      | (first | refine JC.seq ?_ | refine JC.region ?_ | refine JC.block ?_ | refine JC.ret ?_ | refine JC.exit ?_ | refine JC.skip ?_ | refine thenK.nn ?_ | refine thenK.r ?_ | refine thenK.x ?_ | refine blockK.nn ?_ | refine blockK.r ?_ | refine blockK.hit rfl ?_ | refine blockK.miss rfl ?_ | refine JC.condT rfl ?_ | refine JC.condF rfl ?_ | (refine JC.cond rfl (fun hc => ?_) (fun hc => ?_) <;> ((try simp only [decide_eq_true_eq, decide_eq_false_iff_not, beq_iff_eq, beq_eq_false_iff_ne, bne_iff_ne, bne_eq_false_iff_eq, Bool.not_eq_true', Bool.not_eq_false', Bool.not_eq_true, Bool.not_eq_false] at hc) <;> first | (first | (exact absurd rfl hc) | (exfalso; omega) | (exact absurd (hc.symm.trans (by assumption : _ = false)) (by decide)) | (exact absurd (hc.symm.trans (by assumption : _ = true)) (by decide))) | skip)) | (refine JC.drawA [] (by kernel_rfl) (by kernel_rfl) ?_) | refine drawK.nn ?_ | refine roundK.nn ?_ | refine roundK.r ?_ | refine roundK.x ?_ | refine loopK.r ?_ | refine loopK.x ?_)
      | fail
    all_goals first | (exfalso; omega) | exact ret1f rfl rfl rfl (fun w1 hw => ⟨rfl, hw.below⟩) | exact ret1f rfl rfl rfl (fun w1 hw => ⟨retB (by simp), hw.below⟩)
  have hV := (valid_iff ts 128).1 hc
  obtain ⟨us, hU, b1, b2, b3, b4⟩ := back_law hV s
  have hp : printP ts = (0, (printP ts).2) := by unfold printP; rw [if_pos hc]
  rw [hp] at cP b2
  generalize (printP ts).2 = P at *
  dsimp only at cP b1
  have cA : ∀ w, Calls Tryd.prog 22 #[.string (S P)] w (Gives (TreeErr 55 (0, us)) w) := fun w => by rw [← b1]; exact parse_any P w
  have cU : ∀ (a' : Option Addr) (cap' : Nat) (h' : Heap), SlT encN 4 a' us h' → ∀ w', Below w.heap.size w w' → Holds h' w' → Calls Tryd.prog 20 #[.slice a' us.length cap'] w' fun e w2 => e = .returned (.tuple #[.string (S P), .int .i64 0]) ∧ Below w'.heap.size w' w2 := fun a' cap' h' hs' w' hb hw' => by
    have := print_any a' cap' us h' hs' w' hw' (fun _ => hU.itoaAt (hT.below hb)) (fun _ => hU.short)
    rw [b2] at this
    exact this
  have cC : ∀ (a' : Option Addr) (cap' : Nat) (h' : Heap), SlT encN 4 a' us h' → ∀ w', Holds h' w' → Calls Tryd.prog 16 #[.slice a' us.length cap', sv s] w' fun e w2 => e = .returned (.bool (classT ts s)) ∧ Below w'.heap.size w' w2 := fun a' cap' h' hs' w' hw' => by
    rw [← b4]; exact classify_any a' cap' us s hok h' hs' w' hw'
  repeat' first
    | (refine J.isJ ?_; first | (first | (refine J.o 0 ?_; refine J.ev' hΓ ?_) | refine J.nil ?_ | refine J.kd ?_ | (refine J.o 4 ?_; first | refine J.e0 hΓ ?_ | refine J.lT default hΓ ?_ | refine J.e1 hΓ ?_ | refine J.e2 hΓ ?_ | refine J.lR hΓ ?_) | (refine J.o 3 ?_; first | refine J.iA hΓ ?_ | refine J.iJ hΓ ?_ | refine J.fP hΓ ?_ | refine J.iC hΓ ?_ | refine J.ev' hΓ ?_) | (refine J.o 1 ?_; first | refine J.ad ?_ | refine J.ct ?_ | refine J.sb ?_ | refine J.mu ?_ | refine J.ng ?_ | refine J.qu ?_ | refine J.rm ?_ | refine J.s1 ?_ | refine J.sr ?_ | refine J.aW ?_ | refine J.oW ?_ | refine J.nW ?_) | (refine J.o 2 ?_; refine J.cv _ hΓ ?_) | (refine J.o 5 ?_; first | refine J.t0 hΓ ?_ | refine J.t1 hΓ ?_ | refine J.t2 hΓ ?_ | refine J.tT _ default hΓ (fun _ _ => ?_) | refine J.tT1 _ default hΓ (fun _ _ => ?_) | refine J.tT2 _ default hΓ (fun _ _ => ?_) | refine J.tT3 _ default hΓ (fun _ _ => ?_)) | (refine J.o 6 ?_; refine J.bx (fun _ => ?_)) | (refine J.o 7 ?_; refine J.al hΓ (fun _ => ?_)) | (refine J.o 8 ?_; refine J.bd hΓ ?_) | (refine J.o 9 ?_; refine J.bl hΓ (fun _ => ?_)) | (refine J.o 10 ?_; first | refine J.ls hΓ ?_ | refine J.ev' hΓ ?_) | (refine J.o 11 ?_; first | refine J.eS ?_ | refine J.xS ?_ | refine J.ev' hΓ ?_ | refine J.nT hΓ ?_) | (refine J.o 12 ?_; refine J.ix hΓ ?_) | (refine J.o 13 ?_; first | refine J.sL hΓ ?_ | refine J.sH hΓ ?_) | (refine J.o 14 ?_; refine J.mf hΓ ?_) | refine J.kn ?_) | (first | (refine J.fc 15 ?_; refine J.call0 eWorks rfl rfl (fun w hw => works_any w) ?_) | (refine J.fc 20 ?_; first | (refine J.call0 ePrint rfl rfl (fun w hw => cP w hw.below (hw.rdH (by first | exact RdH.hd | exact RdH.hd.tl | exact RdH.hd.tl.tl | exact RdH.hd.tl.tl.tl | exact RdH.hd.tl.tl.tl.tl | exact RdH.hd.tl.tl.tl.tl.tl | exact RdH.hd.tl.tl.tl.tl.tl.tl | exact RdH.hd.tl.tl.tl.tl.tl.tl.tl | exact RdH.old (fun _ hh => hh) | assumption))) ?_) | (refine J.call0 ePrint rfl rfl (fun w hw => cU _ _ _ op.sl w hw.below (hw.rdH (by first | exact RdH.hd | exact RdH.hd.tl | exact RdH.hd.tl.tl | exact RdH.hd.tl.tl.tl | exact RdH.hd.tl.tl.tl.tl | exact RdH.hd.tl.tl.tl.tl.tl | exact RdH.hd.tl.tl.tl.tl.tl.tl | exact RdH.hd.tl.tl.tl.tl.tl.tl.tl | exact RdH.old (fun _ hh => hh) | assumption))) ?_)) | (refine J.fc 22 ?_; refine J.call1 eParse rfl rfl (fun w hw => cA w) ?_; rintro _ hp2 ⟨ap, cp, rfl, op⟩) | (refine J.fc 16 ?_; first | (refine J.call0 eClassify rfl rfl (fun w hw => classify_any a cap ts s hok h hs w (hw.rdH (by first | exact RdH.hd | exact RdH.hd.tl | exact RdH.hd.tl.tl | exact RdH.hd.tl.tl.tl | exact RdH.hd.tl.tl.tl.tl | exact RdH.hd.tl.tl.tl.tl.tl | exact RdH.hd.tl.tl.tl.tl.tl.tl | exact RdH.hd.tl.tl.tl.tl.tl.tl.tl | exact RdH.old (fun _ hh => hh) | assumption))) ?_) | (refine J.call0 eClassify rfl rfl (fun w hw => cC _ _ _ op.sl w (hw.rdH (by first | exact RdH.hd | exact RdH.hd.tl | exact RdH.hd.tl.tl | exact RdH.hd.tl.tl.tl | exact RdH.hd.tl.tl.tl.tl | exact RdH.hd.tl.tl.tl.tl.tl | exact RdH.hd.tl.tl.tl.tl.tl.tl | exact RdH.hd.tl.tl.tl.tl.tl.tl.tl | exact RdH.old (fun _ hh => hh) | assumption))) ?_))) | ((fail_if_success refine J.wt ?_); refine J.gc rfl rfl (fun hc => ?_) (fun hc => ?_) <;> ((try simp only [decide_eq_true_eq, decide_eq_false_iff_not, beq_iff_eq, beq_eq_false_iff_ne, bne_iff_ne, bne_eq_false_iff_eq, Bool.not_eq_true', Bool.not_eq_false', Bool.not_eq_true, Bool.not_eq_false] at hc) <;> first | (first | (exact absurd rfl hc) | (exfalso; omega) | (exact absurd (hc.symm.trans (by assumption : _ = false)) (by decide)) | (exact absurd (hc.symm.trans (by assumption : _ = true)) (by decide))) | skip)))
    | (first | refine JC.seq ?_ | refine JC.region ?_ | refine JC.block ?_ | refine JC.ret ?_ | refine JC.exit ?_ | refine JC.skip ?_ | refine thenK.nn ?_ | refine thenK.r ?_ | refine thenK.x ?_ | refine blockK.nn ?_ | refine blockK.r ?_ | refine blockK.hit rfl ?_ | refine blockK.miss rfl ?_ | refine JC.condT rfl ?_ | refine JC.condF rfl ?_ | (refine JC.cond rfl (fun hc => ?_) (fun hc => ?_) <;> ((try simp only [decide_eq_true_eq, decide_eq_false_iff_not, beq_iff_eq, beq_eq_false_iff_ne, bne_iff_ne, bne_eq_false_iff_eq, Bool.not_eq_true', Bool.not_eq_false', Bool.not_eq_true, Bool.not_eq_false] at hc) <;> first | (first | (exact absurd rfl hc) | (exfalso; omega) | (exact absurd (hc.symm.trans (by assumption : _ = false)) (by decide)) | (exact absurd (hc.symm.trans (by assumption : _ = true)) (by decide))) | skip)) | (refine JC.drawA [] (by kernel_rfl) (by kernel_rfl) ?_) | refine drawK.nn ?_ | refine roundK.nn ?_ | refine roundK.r ?_ | refine roundK.x ?_ | refine loopK.r ?_ | refine loopK.x ?_)
    | fail
  all_goals first | (exfalso; omega) | exact ret1f rfl rfl rfl (fun w1 hw => ⟨rfl, hw.below⟩) | exact ret1f rfl rfl rfl (fun w1 hw => ⟨retB (by simp), hw.below⟩)
end Go.Proofs.YtfegpmoephdkpaaDoor
