/- SiftSwaps: part 7. -/
import Derived.Test.YtbhgahjeocnfcaaSwF
namespace Go.Proofs.Ytbhgahjeocnfcaa
open Go Go.Cx Go.RowKit
set_option linter.unusedVariables false
set_option linter.unusedSimpArgs false
set_option maxHeartbeats 4000000
attribute [local irreducible] J JC thenK blockK loopK drawK retK QW Qt pel List.set Calls
open Go.Maps Go.Lib
set_option maxRecDepth 8000
attribute [local irreducible] JE Br eK0 eK3 brK pc
abbrev VF := (Int → Bool) → Bool
def asgV (l : List Int) (β : Int → Bool) : Nat → Bool := fun k => β (l.getD k default)
def betaV (l : List Int) (α : Nat → Bool) : Int → Bool := fun v => match rk l v 0 with
  | some k => α k
  | none => false
theorem beta_at {l : List Int} (hn : l.Nodup) (α : Nat → Bool) {k : Nat} (hk : k < l.length) : betaV l α (l.getD k default) = α k := by
  unfold betaV; rw [rk_at hn hk]
theorem mem_at {l : List Int} {v : Int} (h : v ∈ l) : ∃ k, k < l.length ∧ l.getD k default = v := by
  obtain ⟨k, hk, e⟩ := List.mem_iff_getElem.1 h
  exact ⟨k, hk, by rw [List.getD_eq_getElem?_getD, List.getElem?_eq_getElem hk]; exact e⟩
def Says (ns : List N3) (l : List Int) (y : Nat) (F : VF) : Prop := y < ns.length ∧ ∀ β, fn l.length ns y (asgV l β) = F β
def gF (l : List Int) (F : VF) : BF := fun α => F (betaV l α)
theorem Says.fn {ns : List N3} {l : List Int} (hn : l.Nodup) (w : WF l.length ns) {y : Nat} {F : VF} (h : Says ns l y F) (α : Nat → Bool) : fn l.length ns y α = gF l F α := by
  unfold gF
  rw [← h.2]
  exact fn_lt w _ y (Nat.le_refl _) h.1 fun k hk => (beta_at hn α hk).symm
theorem Says.eq {ns : List N3} {l : List Int} (hn : l.Nodup) (w : WF l.length ns) {y z : Nat} {F : VF} (h : Says ns l y F) (g : Says ns l z F) : y = z :=
  w.eq h.1 g.1 fun α => by rw [h.fn hn w, g.fn hn w]
def ovr (k : Nat) (γ α : Nat → Bool) : Nat → Bool := fun i => if i < k then γ i else α i
theorem fn_ovr {n : Nat} {ns : List N3} (w : WF n ns) {j k : Nat} (γ α : Nat → Bool) (hj : j < ns.length) (hk : k ≤ (nd ns j).p) : fn n ns j (ovr k γ α) = fn n ns j α :=
  fn_dep w _ j (Nat.le_refl _) hj fun i hi => by unfold ovr; rw [if_neg (by omega)]
theorem fn_low2 {n : Nat} {ns : List N3} (w : WF n ns) {i : Nat} (h2 : 2 ≤ i) (hi : i < ns.length) (α : Nat → Bool) : fn n ns (nd ns i).l α = fn n ns i (up α (nd ns i).p false) := fn_low w h2 hi (g := fn n ns i) (fun _ => rfl) α
theorem fn_high2 {n : Nat} {ns : List N3} (w : WF n ns) {i : Nat} (h2 : 2 ≤ i) (hi : i < ns.length) (α : Nat → Bool) : fn n ns (nd ns i).h α = fn n ns i (up α (nd ns i).p true) := fn_high w h2 hi (g := fn n ns i) (fun _ => rfl) α
theorem rch_fn {n : Nat} {ns : List N3} (w : WF n ns) {r : Nat} (hr : r < ns.length) {j : Nat} (h : Rch ns r j) : ∃ γ : Nat → Bool, ∀ α, fn n ns j α = fn n ns r (ovr (nd ns j).p γ α) := by
  induction h with
  | refl => exact ⟨fun _ => false, fun α => (fn_ovr w _ α hr (Nat.le_refl _)).symm⟩
  | @low j h h2 ih =>
    obtain ⟨γ, ih⟩ := ih
    have hj := h.lt w hr
    have hl := w.ll j h2 hj
    have hp := w.lp j h2 hj
    refine ⟨fun i => if i < (nd ns j).p then γ i else false, fun α => ?_⟩
    rw [← fn_ovr w (fun _ => false) α hl (Nat.le_refl _), fn_low2 w h2 hj, ih]
    congr 1
    funext i
    unfold ovr up
    dsimp only
    by_cases h1 : i < (nd ns j).p
    · rw [if_pos h1, if_pos (show i < (nd ns (nd ns j).l).p by omega), if_pos h1]
    · rw [if_neg h1, if_neg h1]
      by_cases h3 : i = (nd ns j).p
      · rw [if_pos h3, if_pos (by omega)]
      · rw [if_neg h3]
  | @high j h h2 ih =>
    obtain ⟨γ, ih⟩ := ih
    have hj := h.lt w hr
    have hl := w.hl j h2 hj
    have hp := w.hp j h2 hj
    refine ⟨fun i => if i < (nd ns j).p then γ i else decide (i = (nd ns j).p), fun α => ?_⟩
    rw [← fn_ovr w (fun _ => false) α hl (Nat.le_refl _), fn_high2 w h2 hj, ih]
    congr 1
    funext i
    unfold ovr up
    dsimp only
    by_cases h1 : i < (nd ns j).p
    · rw [if_pos h1, if_pos (show i < (nd ns (nd ns j).h).p by omega), if_pos h1]
    · rw [if_neg h1, if_neg h1]
      by_cases h3 : i = (nd ns j).p
      · rw [if_pos h3, if_pos (by omega), decide_eq_true h3]
      · rw [if_neg h3, decide_eq_false h3]
theorem fn_rch {n : Nat} {ns : List N3} (w : WF n ns) {r : Nat} (hr : r < ns.length) (γ : Nat → Bool) : ∀ k, k ≤ n → ∃ j, Rch ns r j ∧ k ≤ (nd ns j).p ∧ ∀ α, fn n ns j α = fn n ns r (ovr k γ α)
  | 0, _ => ⟨r, .refl, Nat.zero_le _, fun α => by
      have : ovr 0 γ α = α := by funext i; unfold ovr; rw [if_neg (Nat.not_lt_zero _)]
      rw [this]⟩
  | k + 1, hk => by
    obtain ⟨j, h1, h2, h3⟩ := fn_rch w hr γ k (by omega)
    have hj := h1.lt w hr
    have e : ∀ α, ovr (k + 1) γ α = ovr k γ (up α k (γ k)) := fun α => by
      funext i
      unfold ovr up
      by_cases g1 : i < k
      · rw [if_pos (by omega), if_pos g1]
      · rw [if_neg g1]
        by_cases g2 : i = k
        · rw [if_pos (by omega), if_pos g2, g2]
        · rw [if_neg (by omega), if_neg g2]
    rcases Nat.lt_or_ge k (nd ns j).p with hlt | hge
    · exact ⟨j, h1, hlt, fun α => by rw [e, ← h3, fn_up w α _ hj hlt]⟩
    · have hp : (nd ns j).p = k := by omega
      have hj2 := w.nonconst (show (nd ns j).p < n by omega)
      have hl := w.lp j hj2 hj
      have hh := w.hp j hj2 hj
      cases hg : γ k with
      | false => exact ⟨(nd ns j).l, h1.low hj2, by omega, fun α => by rw [e, ← h3, fn_low2 w hj2 hj, hp, hg]⟩
      | true => exact ⟨(nd ns j).h, h1.high hj2, by omega, fun α => by rw [e, ← h3, fn_high2 w hj2 hj, hp, hg]⟩
def restr (P : List Int) (γ β : Int → Bool) : Int → Bool := fun v => if v ∈ P then γ v else β v
theorem getD_inj {l : List Int} (hn : l.Nodup) {i k : Nat} (hi : i < l.length) (hk : k < l.length) (e : l.getD i default = l.getD k default) : i = k := by
  have h1 := rk_at hn hi
  rw [e, rk_at hn hk] at h1
  injection h1 with h1
  exact h1.symm
theorem take_at {l : List Int} (hn : l.Nodup) {i k : Nat} (hi : i < l.length) (hk : k ≤ l.length) : l.getD i default ∈ l.take k ↔ i < k := by
  constructor
  · intro h
    obtain ⟨j, hj, e⟩ := List.mem_iff_getElem.1 h
    rw [List.length_take] at hj
    have hjl : j < l.length := by omega
    have e2 : l.getD j default = l.getD i default := by
      rw [List.getElem_take] at e
      rw [← e, List.getD_eq_getElem?_getD, List.getElem?_eq_getElem hjl]; rfl
    have := getD_inj hn hjl hi e2
    omega
  · intro h
    rw [List.getD_eq_getElem?_getD, List.getElem?_eq_getElem hi]
    exact List.mem_iff_getElem.2 ⟨i, by rw [List.length_take]; omega, by rw [List.getElem_take]; rfl⟩
theorem Says.restr {ns : List N3} {l : List Int} (hn : l.Nodup) (w : WF l.length ns) {r : Nat} {F : VF} (h : Says ns l r F) {k : Nat} (hk : k ≤ l.length) (γ : Nat → Bool) (β : Int → Bool) : Go.Proofs.Ytbhgahjeocnfcaa.fn l.length ns r (ovr k γ (asgV l β)) = F (Go.Proofs.Ytbhgahjeocnfcaa.restr (l.take k) (betaV l γ) β) := by
  rw [← h.2]
  refine fn_lt w _ r (Nat.le_refl _) h.1 fun i hi => ?_
  unfold ovr asgV Go.Proofs.Ytbhgahjeocnfcaa.restr
  by_cases h1 : i < k
  · rw [if_pos h1, if_pos ((take_at hn hi hk).2 h1), beta_at hn γ hi]
  · rw [if_neg h1, if_neg (fun g => h1 ((take_at hn hi hk).1 g))]
def Left (l : List Int) (F : VF) (k : Nat) (G : VF) : Prop := ∃ γ : Int → Bool, ∀ β, G β = F (restr (l.take k) γ β)
theorem rch_left {ns : List N3} {l : List Int} (hn : l.Nodup) (w : WF l.length ns) {r : Nat} {F : VF} (h : Says ns l r F) {j : Nat} (hr : Rch ns r j) : Left l F (nd ns j).p (fun β => fn l.length ns j (asgV l β)) := by
  obtain ⟨γ, hg⟩ := rch_fn w h.1 hr
  exact ⟨betaV l γ, fun β => by dsimp only; rw [hg, h.restr hn w (w.ple (hr.lt w h.1))]⟩
theorem left_rch {ns : List N3} {l : List Int} (hn : l.Nodup) (w : WF l.length ns) {r : Nat} {F : VF} (h : Says ns l r F) {k : Nat} (hk : k ≤ l.length) {G : VF} (hl : Left l F k G) : ∃ j, Rch ns r j ∧ k ≤ (nd ns j).p ∧ Says ns l j G := by
  obtain ⟨γ, hg⟩ := hl
  obtain ⟨j, h1, h2, h3⟩ := fn_rch w h.1 (asgV l γ) k hk
  refine ⟨j, h1, h2, h1.lt w h.1, fun β => ?_⟩
  rw [h3, h.restr hn w hk, hg]
  congr 1
  funext v
  unfold Go.Proofs.Ytbhgahjeocnfcaa.restr
  by_cases hv : v ∈ l.take k
  · rw [if_pos hv, if_pos hv]
    obtain ⟨i, hi, e⟩ := mem_at (List.mem_of_mem_take hv)
    rw [← e, beta_at hn _ hi]
    rfl
  · rw [if_neg hv, if_neg hv]
end Go.Proofs.Ytbhgahjeocnfcaa
namespace Go.Proofs.Ytbhgahjeocnfcaa
open Go Go.Cx Go.RowKit
set_option linter.unusedVariables false
set_option linter.unusedSimpArgs false
set_option maxHeartbeats 4000000
attribute [local irreducible] J JC thenK blockK loopK drawK retK QW Qt pel List.set Calls
open Go.Maps Go.Lib
set_option maxRecDepth 8000
attribute [local irreducible] JE Br eK0 eK3 brK pc
def encK (k : Nat) : List Value := [.int .u8 (k : Int)]
def OrdV (n : Nat) (v : Value) (h : Heap) : Prop := ∃ a l c, v = .slice a l.length c ∧ l.Perm (ints n) ∧ OwT encI 1 3 a c l h
theorem pickP {l : List Int} {k : Nat} (hk : k < l.length) : (l.getD k default :: (l.take k ++ l.drop (k + 1))).Perm l := by
  have h1 := (List.take_append_drop k l).symm
  rw [drop_g l k hk] at h1
  conv => rhs; rw [h1]
  exact List.perm_middle.symm
theorem order31_any (n : Nat) (hn : n ≤ 128) (ks : List Nat) (ak : Option Addr) (ck : Nat) (hk : Heap) (hs : SlT encK 1 ak ks hk) (hkl : ks.length ≤ 9223372036854775807) (hkb : ∀ k ∈ ks, k < 256) (w : World) (hw1 : Holds hk w) :
    Calls Try.prog 15 #[.int .i64 (n : Int), .slice ak ks.length ck] w (Gives (OrdV n) w) := by
  have q0 : ∀ L, RdH hk L hk := fun L => RdH.old fun _ hh => hh
  have hil := ints_len n
  refine calls_of_JC (R := hk) Try.func15 Try.ntmps15 rfl rfl (hw1) ?_
  repeat' first
    | (refine J.isJ ?_; first | ((refine J.fc 50 ?_; refine J.call1 eUpTo rfl rfl (fun w hw => upTo_any n (by omega) w) ?_; rintro _ hR ⟨aR, cR, rfl, oR⟩)) | (first | (refine J.o 0 ?_; refine J.ev' hΓ ?_) | refine J.nil ?_ | (refine J.o 4 ?_; first | refine J.lT default hΓ ?_) | (refine J.o 3 ?_; first | refine J.iJ hΓ ?_ | refine J.ev' hΓ ?_) | (refine J.o 1 ?_; first | refine J.ad ?_) | (refine J.o 9 ?_; refine J.bl hΓ (fun _ => ?_)) | (refine J.o 10 ?_; refine J.ev' hΓ ?_) | (refine J.o 11 ?_; refine J.ev' hΓ ?_)))
    | (first | refine JC.seq ?_ | refine JC.region ?_ | refine JC.block ?_ | refine JC.ret ?_ | refine JC.exit ?_ | refine JC.skip ?_ | refine thenK.nn ?_ | refine thenK.x ?_ | refine blockK.nn ?_ | refine blockK.hit rfl ?_ | (refine JC.cond rfl (fun hc => ?_) (fun hc => ?_) <;> ((try simp only [decide_eq_true_eq, decide_eq_false_iff_not, beq_iff_eq, beq_eq_false_iff_ne, bne_iff_ne, bne_eq_false_iff_eq, Bool.not_eq_true', Bool.not_eq_false', Bool.not_eq_true, Bool.not_eq_false] at hc) <;> first | (first | (exact absurd rfl hc) | (exfalso; omega) | (exact absurd (hc.symm.trans (by assumption : _ = false)) (by decide)) | (exact absurd (hc.symm.trans (by assumption : _ = true)) (by decide))) | skip)) | refine drawK.nn ?_ | refine loopK.x ?_)
    | (fail)
    | fail
  all_goals first | (exfalso; omega) | skip
  refine JC.nilF ?_
  refine JC.loop (fun i => i == 5 || i == 6 || i == 7 || i == 8 || Nat.ble 11 i) (fun m g L => ∃ (i : Nat) (out rest : List Int) (aO : Option Addr) (cO : Nat) (hO : Heap) (aR : Option Addr) (cR : Nat) (hR : Heap), g 7 = .int .i64 (i : Int) ∧ g 6 = .slice aO out.length cO ∧ g 5 = .slice aR rest.length cR ∧ rest.length = m ∧ i + m = n ∧ (out ++ rest).Perm (ints n) ∧ OwT encI 1 3 aO cO out hO ∧ OwT encI 1 3 aR cR rest hR ∧ L = [hO, hR]) n ⟨0, [], ints n, none, 0, [], aR, cR, hR, rfl, rfl, rfl, hil, by omega, by rw [List.nil_append], OwT.nil (fun _ => rfl), oR, rfl⟩ ?_
  clear oR
  rintro m g L ⟨i, out, rest, aO, cO, hO, aR, cR, hR, e7, e6, e5, hrm, him, hpm, oO, oR, rfl⟩
  refine JC.pin 7 e7 (JC.pin 6 e6 (JC.pin 5 e5 ?_))
  have hol : out.length + rest.length = n := by have := hpm.length_eq; rw [List.length_append, hil] at this; exact this
  have hcR := own_le oR
  rcases Nat.eq_zero_or_pos rest.length with h0 | h0
  ·
    repeat' first
      | (refine J.isJ ?_; first | (fail) | (first | (refine J.o 0 ?_; refine J.ev' hΓ ?_) | refine J.nil ?_ | (refine J.o 4 ?_; first | refine J.lT default hΓ ?_) | (refine J.o 3 ?_; first | refine J.iJ hΓ ?_ | refine J.ev' hΓ ?_) | (refine J.o 1 ?_; first | refine J.ad ?_) | (refine J.o 9 ?_; refine J.bl hΓ (fun _ => ?_)) | (refine J.o 10 ?_; refine J.ev' hΓ ?_) | (refine J.o 11 ?_; refine J.ev' hΓ ?_)))
      | (first | refine JC.seq ?_ | refine JC.region ?_ | refine JC.block ?_ | refine JC.ret ?_ | refine JC.exit ?_ | refine JC.skip ?_ | refine thenK.nn ?_ | refine thenK.x ?_ | refine blockK.nn ?_ | refine blockK.hit rfl ?_ | (refine JC.cond rfl (fun hc => ?_) (fun hc => ?_) <;> ((try simp only [decide_eq_true_eq, decide_eq_false_iff_not, beq_iff_eq, beq_eq_false_iff_ne, bne_iff_ne, bne_eq_false_iff_eq, Bool.not_eq_true', Bool.not_eq_false', Bool.not_eq_true, Bool.not_eq_false] at hc) <;> first | (first | (exact absurd rfl hc) | (exfalso; omega) | (exact absurd (hc.symm.trans (by assumption : _ = false)) (by decide)) | (exact absurd (hc.symm.trans (by assumption : _ = true)) (by decide))) | skip)) | refine drawK.nn ?_ | refine loopK.x ?_)
      | (fail)
      | fail
    all_goals first | (exfalso; omega) | skip
    have hr : rest = [] := List.eq_nil_of_length_eq_zero h0
    rw [hr, List.append_nil] at hpm
    exact ret1f rfl rfl rfl (fun w1 hw => Gives.of (H.sel (l := [_, _]) (M := []) hw [0]) ⟨_, _, _, rfl, hpm, oO⟩)
  ·
    obtain ⟨q, hq⟩ : ∃ q, q = if i < ks.length then ks.getD i default % rest.length else 0 := ⟨_, rfl⟩
    have hqr : q < rest.length := by rw [hq]; split; exact Nat.mod_lt _ h0; exact h0
    have hpk := pickP hqr
    have hnew : ((out ++ [rest.getD q default]) ++ (rest.take q ++ rest.drop (q + 1))).Perm (ints n) := by
      refine List.Perm.trans ?_ hpm
      rw [List.append_assoc]
      exact List.Perm.append_left _ hpk
    have hnl : (rest.take q ++ rest.drop (q + 1)).length = m - 1 := by rw [List.length_append, List.length_take, List.length_drop]; omega
    have hsT := slT_take oR.sl q
    have hsD := slT_drop oR.sl (q + 1) cR hcR
    have htl : (rest.take q).length = q := by rw [List.length_take]; omega
    have hdl : (rest.drop (q + 1)).length = rest.length - (q + 1) := List.length_drop
    by_cases hi : i < ks.length
    ·
      rw [if_pos hi] at hq
      have hkm := hkb _ (mem_g ks i hi)
      have hq2 : Value.int .i64 ((ks.getD i default % rest.length : Nat) : Int) = .int .i64 (q : Int) := by rw [hq]
      repeat' first
        | (refine J.isJ ?_; first | (first | (refine J.o 3 ?_; first | refine J.iJ hΓ ?_ (hs := hs) | refine J.iJ hΓ ?_ (hs := oR.sl)) | (refine J.o 4 ?_; first | refine J.lT default hΓ ?_ (hs := hs) (hr := q0 _) | refine J.lT default hΓ ?_ (hs := oR.sl) (hr := RdH.hd.tl) | refine J.lT default hΓ ?_ (hs := oR.sl) (hr := RdH.hd)) | (refine J.o 2 ?_; refine J.gcv hΓ ?_ (hk := wI64 (by omega))) | (refine J.o 1 ?_; refine J.grem (a := ks.getD i default) (b := rest.length) ?_; rw [hq2]) | (refine J.o 13 ?_; first | refine J.slF (m := q) hΓ ?_ | refine J.slG (q + 1) 1 hΓ ?_) | (refine J.o 9 ?_; first | (refine J.apA hΓ (lit_nil _ _) (us := rest.take q) hsT RdH.hd.tl.tl (fun a3 c3 h3 o3 => ?_); rw [List.nil_append] at o3; rw [List.nil_append]) | refine J.apA hΓ o3 (us := rest.drop (q + 1)) hsD RdH.hd.tl.tl (fun a4 c4 h4 o4 => ?_)) | (refine J.o 9 ?_; first | (first | (refine J.ap1 (enc := encI) [rest.getD q default] hΓ (fun a2 c2 h2 o2 => ?_))))) | (first | (refine J.o 0 ?_; refine J.ev' hΓ ?_) | refine J.nil ?_ | (refine J.o 4 ?_; first | refine J.lT default hΓ ?_) | (refine J.o 3 ?_; first | refine J.iJ hΓ ?_ | refine J.ev' hΓ ?_) | (refine J.o 1 ?_; first | refine J.ad ?_) | (refine J.o 9 ?_; refine J.bl hΓ (fun _ => ?_)) | (refine J.o 10 ?_; refine J.ev' hΓ ?_) | (refine J.o 11 ?_; refine J.ev' hΓ ?_)))
        | (first | refine JC.seq ?_ | refine JC.region ?_ | refine JC.block ?_ | refine JC.ret ?_ | refine JC.exit ?_ | refine JC.skip ?_ | refine thenK.nn ?_ | refine thenK.x ?_ | refine blockK.nn ?_ | refine blockK.hit rfl ?_ | (refine JC.cond rfl (fun hc => ?_) (fun hc => ?_) <;> ((try simp only [decide_eq_true_eq, decide_eq_false_iff_not, beq_iff_eq, beq_eq_false_iff_ne, bne_iff_ne, bne_eq_false_iff_eq, Bool.not_eq_true', Bool.not_eq_false', Bool.not_eq_true, Bool.not_eq_false] at hc) <;> first | (first | (exact absurd rfl hc) | (exfalso; omega) | (exact absurd (hc.symm.trans (by assumption : _ = false)) (by decide)) | (exact absurd (hc.symm.trans (by assumption : _ = true)) (by decide))) | skip)) | refine drawK.nn ?_ | refine loopK.x ?_)
        | ((first | refine JC.drawO [(0,1),(0,2),(0,3),(0,5),(0,6),(0,7),(0,8),(3,0),(2,4),(2,9),(0,10)] (by decide +kernel) (by decide +kernel) ?_ | refine JC.drawO [(0,1),(0,2),(0,3),(0,5),(0,6),(0,7),(0,8),(2,0),(2,4),(2,9),(0,10)] (by decide +kernel) (by decide +kernel) ?_ | refine JC.drawO [(0,1),(0,2),(0,3),(0,5),(0,6),(0,7),(0,8),(3,0),(3,4),(3,9),(0,10)] (by decide +kernel) (by decide +kernel) ?_))
        | fail
      all_goals first | (exfalso; omega) | skip
      refine loopK.np (m - 1) [hR] [h2, h4] (by omega) (by repeat (first | refine Ag.upd rfl ?_ | exact Ag.hv)) (List.reverse_perm [hR, h2, h4]) ⟨i + 1, out ++ [rest.getD q default], rest.take q ++ rest.drop (q + 1), a2, c2, h2, a4, c4, h4, ?_, rfl, rfl, hnl, by omega, hnew, o2, o4, rfl⟩
      show Value.int .i64 _ = _; congr 1
    ·
      rw [if_neg hi] at hq
      have hq2 : Value.int .i64 0 = .int .i64 (q : Int) := by rw [hq]; rfl
      subst hq
      repeat' first
        | (refine J.isJ ?_; first | (first | (refine J.o 3 ?_; first | refine J.iJ hΓ ?_ (hs := oR.sl)) | (refine J.o 4 ?_; first | refine J.lT default hΓ ?_ (hs := oR.sl) (hr := RdH.hd.tl) | refine J.lT default hΓ ?_ (hs := oR.sl) (hr := RdH.hd)) | (refine J.o 13 ?_; first | refine J.slF (m := 0) hΓ ?_ | refine J.slG (0 + 1) 1 hΓ ?_) | (refine J.o 9 ?_; first | (refine J.apA hΓ (lit_nil _ _) (us := rest.take 0) hsT RdH.hd.tl.tl (fun a3 c3 h3 o3 => ?_); rw [List.nil_append] at o3; rw [List.nil_append]) | refine J.apA hΓ o3 (us := rest.drop (0 + 1)) hsD RdH.hd.tl.tl (fun a4 c4 h4 o4 => ?_)) | (refine J.o 9 ?_; first | (first | (refine J.ap1 (enc := encI) [rest.getD 0 default] hΓ (fun a2 c2 h2 o2 => ?_))))) | (first | (refine J.o 0 ?_; refine J.ev' hΓ ?_) | refine J.nil ?_ | (refine J.o 4 ?_; first | refine J.lT default hΓ ?_) | (refine J.o 3 ?_; first | refine J.iJ hΓ ?_ | refine J.ev' hΓ ?_) | (refine J.o 1 ?_; first | refine J.ad ?_) | (refine J.o 9 ?_; refine J.bl hΓ (fun _ => ?_)) | (refine J.o 10 ?_; refine J.ev' hΓ ?_) | (refine J.o 11 ?_; refine J.ev' hΓ ?_)))
        | (first | refine JC.seq ?_ | refine JC.region ?_ | refine JC.block ?_ | refine JC.ret ?_ | refine JC.exit ?_ | refine JC.skip ?_ | refine thenK.nn ?_ | refine thenK.x ?_ | refine blockK.nn ?_ | refine blockK.hit rfl ?_ | (refine JC.cond rfl (fun hc => ?_) (fun hc => ?_) <;> ((try simp only [decide_eq_true_eq, decide_eq_false_iff_not, beq_iff_eq, beq_eq_false_iff_ne, bne_iff_ne, bne_eq_false_iff_eq, Bool.not_eq_true', Bool.not_eq_false', Bool.not_eq_true, Bool.not_eq_false] at hc) <;> first | (first | (exact absurd rfl hc) | (exfalso; omega) | (exact absurd (hc.symm.trans (by assumption : _ = false)) (by decide)) | (exact absurd (hc.symm.trans (by assumption : _ = true)) (by decide))) | skip)) | refine drawK.nn ?_ | refine loopK.x ?_)
        | ((first | refine JC.drawO [(0,1),(0,2),(0,3),(0,5),(0,6),(0,7),(0,8),(3,0),(2,4),(2,9),(0,10)] (by decide +kernel) (by decide +kernel) ?_ | refine JC.drawO [(0,1),(0,2),(0,3),(0,5),(0,6),(0,7),(0,8),(2,0),(2,4),(2,9),(0,10)] (by decide +kernel) (by decide +kernel) ?_ | refine JC.drawO [(0,1),(0,2),(0,3),(0,5),(0,6),(0,7),(0,8),(3,0),(3,4),(3,9),(0,10)] (by decide +kernel) (by decide +kernel) ?_))
        | fail
      all_goals first | (exfalso; omega) | skip
      refine loopK.np (m - 1) [hR] [h2, h4] (by omega) (by repeat (first | refine Ag.upd rfl ?_ | exact Ag.hv)) (List.reverse_perm [hR, h2, h4]) ⟨i + 1, out ++ [rest.getD 0 default], rest.take 0 ++ rest.drop (0 + 1), a2, c2, h2, a4, c4, h4, ?_, rfl, rfl, hnl, by omega, hnew, o2, o4, rfl⟩
      show Value.int .i64 _ = _; congr 1
end Go.Proofs.Ytbhgahjeocnfcaa
namespace Go.Proofs.Ytbhgahjeocnfcaa
open Go Go.Cx Go.RowKit
set_option linter.unusedVariables false
set_option linter.unusedSimpArgs false
set_option maxHeartbeats 4000000
attribute [local irreducible] J JC thenK blockK loopK drawK retK QW Qt pel List.set Calls
theorem c_u8 : Try.prog.cellsOf 5 = 1 := by kernel_rfl
theorem c_ints : Try.prog.cellsOf 28 = 1 := by kernel_rfl
theorem c_intss : Try.prog.cellsOf 22 = 1 := by kernel_rfl
theorem c_th : Try.prog.cellsOf 24 = 2 := by kernel_rfl
theorem reads_u8 (W : World) : Reads Try.prog W 5 encK (fun k => k < 256) := by
  intro A ec base spare held fuel cs x h
  obtain ⟨k, e0, g0⟩ := reads_int Try.underlying5 A ec base spare held fuel cs x h
  obtain ⟨k', rfl, hk⟩ := u8_wf g0
  exact ⟨k', e0, hk⟩
theorem reads_u8s (W : World) : Reads Try.prog W 25 (encSl (α := Nat)) (GoodSl W encK 1 (fun k => k < 256)) :=
  reads_slice Try.underlying25 c_u8 (by decide) (fun _ => rfl) (reads_u8 W)
def toHV (s : Sl Int) : HV := ⟨s.a, s.cap, s.ts⟩
theorem slT_hv {a : Option Addr} {ts : List (Sl Int)} {h : Heap} (hs : SlT encSl 1 a ts h) : SlT encHV 1 a (ts.map toHV) h := by
  refine ⟨fun _ => rfl, fun i hi => ?_⟩
  obtain ⟨b, off, cs, e, fr, h1, h2, h3, h4⟩ := hs.at_ i (by simpa using hi)
  exact ⟨b, off, cs, e, fr, h1, h2, h3, by rw [h4, List.getElem_map]; rfl⟩
structure ThI where
  n : Int
  a : Option Addr
  c : Nat
  vs : List HV
def encTh (v : ThI) : List Value := [.int .i64 v.n, .slice v.a v.vs.length v.c]
structure ThIn (W : World) (v : ThI) : Prop where
  l : LLR v.a v.vs (heapOf W)
  n : -9223372036854775808 ≤ v.n ∧ v.n ≤ 9223372036854775807
  m : v.vs.length ≤ 9223372036854775807
theorem reads_th (W : World) : Reads Try.prog W 24 encTh (ThIn W) := by
  intro A ec base spare held fuel cs x h
  obtain ⟨hl, hp⟩ := reads_parts Try.underlying24 h
  rw [c_th] at hl
  obtain ⟨k, e0, g0⟩ := hp 0 0 rfl c_int (reads_int Try.underlying3)
  obtain ⟨l, e1, g1⟩ := hp 1 1 rfl c_intss (reads_slice Try.underlying22 c_ints (by decide) (fun _ => rfl) (reads_ints W))
  clear h hp
  match cs, hl with
  | [c0, c1], _ =>
    simp [encSl] at e0 e1
    subst e0; subst e1
    have hm : l.ts.length ≤ 9223372036854775807 := by have := g1.cap; unfold maxLen at this; omega
    refine ⟨⟨k, l.a, l.cap, l.ts.map toHV⟩, by unfold encTh; rw [List.length_map], ⟨slT_hv g1.sl, fun v hv => ?_⟩, i64_wf g0, by show (l.ts.map toHV).length ≤ _; rw [List.length_map]; exact hm⟩
    obtain ⟨s, hs, rfl⟩ := List.mem_map.1 hv
    exact (g1.all s hs).sl
end Go.Proofs.Ytbhgahjeocnfcaa
namespace Go.Proofs.Ytbhgahjeocnfcaa
open Go Go.Cx Go.RowKit
set_option linter.unusedVariables false
set_option linter.unusedSimpArgs false
set_option maxHeartbeats 4000000
attribute [local irreducible] J JC thenK blockK loopK drawK retK QW Qt pel List.set Calls
open Go.Maps Go.Lib
set_option maxRecDepth 8000
attribute [local irreducible] JE Br eK0 eK3 brK pc
theorem fnV_inj {l : List Int} (hn : l.Nodup) {ns : List N3} (w : WF l.length ns) {i j : Nat} (hi : i < ns.length) (hj : j < ns.length) (h : (fun β => fn l.length ns i (asgV l β)) = fun β => fn l.length ns j (asgV l β)) : i = j :=
  Says.eq hn w (F := fun β => fn l.length ns j (asgV l β)) ⟨hi, fun β => congrFun h β⟩ ⟨hj, fun _ => rfl⟩
theorem fnV_nodup {l : List Int} (hn : l.Nodup) {ns : List N3} (w : WF l.length ns) {A : List Nat} (hA : A.Nodup) (hl : ∀ j ∈ A, j < ns.length) : (A.map fun j => (fun β => fn l.length ns j (asgV l β) : VF)).Nodup := by
  rw [List.Nodup, List.pairwise_map]
  refine List.Pairwise.imp_of_mem (fun {a b} ha hb hab e => hab ?_) hA
  exact fnV_inj hn w (hl a ha) (hl b hb) e
theorem len_fn {l : List Int} (hn : l.Nodup) {ns : List N3} (w : WF l.length ns) {A : List Nat} (hA : A.Nodup) (hl : ∀ j ∈ A, j < ns.length) {T : List VF} (hT : T.Nodup) (hm : ∀ G, G ∈ T ↔ ∃ j ∈ A, ∀ β, fn l.length ns j (asgV l β) = G β) : A.length = T.length := by
  have hN := fnV_nodup hn w hA hl
  have hp : (A.map fun j => (fun β => fn l.length ns j (asgV l β) : VF)).length = T.length := by
    refine Nat.le_antisymm (nodup_le _ _ hN fun G hG => ?_) (nodup_le _ _ hT fun G hG => ?_)
    · obtain ⟨j, hj, rfl⟩ := List.mem_map.1 hG
      exact (hm _).2 ⟨j, hj, fun _ => rfl⟩
    · obtain ⟨j, hj, e⟩ := (hm G).1 hG
      exact List.mem_map.2 ⟨j, hj, funext e⟩
  rwa [List.length_map] at hp
end Go.Proofs.Ytbhgahjeocnfcaa
namespace Go.Proofs.Ytbhgahjeocnfcaa
open Go Go.Cx Go.RowKit
set_option linter.unusedVariables false
set_option linter.unusedSimpArgs false
set_option maxHeartbeats 4000000
attribute [local irreducible] J JC thenK blockK loopK drawK retK QW Qt pel List.set Calls
open Go.Maps Go.Lib
set_option maxRecDepth 8000
attribute [local irreducible] JE Br eK0 eK3 brK pc
theorem mput_keep {κ β : Type} [DecidableEq κ] {m : List (κ × β)} {x z : κ} {y v : β} (h : (z, v) ∈ m) : ∃ v', (z, v') ∈ mput m x y := by
  have : z ∈ (mput m x y).map (·.1) := by
    rw [mput_keys]
    have hz : z ∈ m.map (·.1) := List.mem_map.2 ⟨_, h, rfl⟩
    split
    · exact hz
    · exact List.mem_append_left _ hz
  obtain ⟨p, hp, e⟩ := List.mem_map.1 this
  exact ⟨p.2, by rw [← e]; exact hp⟩
structure ROk (n : Nat) (o l : List Int) (ns ts : List N3) (m : List (Int × Nat)) : Prop where
  at_ : ∀ (a y : Nat), ((a : Int), y) ∈ m → a < ns.length ∧ y < ts.length ∧ ∀ β, fn n ts y (asgV l β) = fn n ns a (asgV o β)
  two : ∀ a : Nat, a < 2 → ∃ y, ((a : Int), y) ∈ m
theorem ROk.ext {n : Nat} {o l : List Int} {ns ts us : List N3} {m : List (Int × Nat)} (w : WF n ts) (h : ROk n o l ns ts m) (e : Ext ts us) : ROk n o l ns us m := ⟨fun a y hm => by
  obtain ⟨h1, h2, h3⟩ := h.at_ a y hm
  exact ⟨h1, Nat.lt_of_lt_of_le h2 e.le, fun β => by rw [fn_ext w e h2, h3]⟩, h.two⟩
theorem ROk.put {n : Nat} {o l : List Int} {ns ts : List N3} {m : List (Int × Nat)} (h : ROk n o l ns ts m) {a y : Nat} (h1 : a < ns.length) (h2 : y < ts.length) (h3 : ∀ β, fn n ts y (asgV l β) = fn n ns a (asgV o β)) : ROk n o l ns ts (mput m (a : Int) y) := ⟨fun b z hm => by
  rcases mput_mem hm with hm | ⟨e1, e2⟩
  · exact h.at_ b z hm
  · obtain rfl : b = a := by omega
    subst e2
    exact ⟨h1, h2, h3⟩, fun b hb => by
  obtain ⟨z, hz⟩ := h.two b hb
  exact mput_keep hz⟩
def fnR (c1 c2 c3 c4 : Nat) : Obj := .cells ⟨[.func (.func 117) ⟨[]⟩ ⟨[.pointer (some ⟨c1, 0, none⟩), .pointer (some ⟨c2, 0, none⟩), .pointer (some ⟨c3, 0, none⟩), .pointer (some ⟨c4, 0, none⟩)]⟩]⟩ 38 (0, 0)
theorem eRebC : Entr Try.prog 117 := Entr.of Try.func117 rfl rfl
theorem eReb2 : Entr Try.prog 62 := Entr.of Try.func62 rfl rfl
theorem stR_of2 {R : Heap} {L : List Heap} {K : KS} {b : Nat} {s : SS} {hO : Heap} (r : RdH R L (stR K b s hO)) {w0 w : World} (hw : H w0 R L w) : Holds (stR K b s hO) w := hw.rdH r
set_option maxHeartbeats 16000000 in
theorem rebC_any {n : Nat} {K Kt : KS} {s : SS} {o l : List Int} {hO hP hO2 hP2 : Heap} (so : SOk n K s) (po : POk K o hO hP) (pt : POk Kt l hO2 hP2) (hKt : Kt.no = n) (h8 : n ≤ 8) (hm : ∀ v, v ∈ o → v ∈ l) (bs bt c1 c2 c3 c4 bd : Nat) : ∀ (d a : Nat) (t : SS) (m : List (Int × Nat)) (hD : Heap), n ≤ (nd s.ns a).p + d → SOk n Kt t → a < s.ns.length → t.ns.length + (2 ^ d - 1) * 256 ≤ 1048576 → MapT Try.prog 3 ekI evI m bd hD → ROk n o l s.ns t.ns m →
    ∀ {w0 w : World} {R : Heap} {L : List Heap}, H w0 R (sF Kt bt t ++ (hO2 :: hP2 :: hD :: L)) w → RdH R L (stR K bs s hO) → Rd R L c1 (mapD bd) → Rd R L c2 (ptrS bs) → Rd R L c3 (ptrS bt) → Rd R L c4 (fnR c1 c2 c3 c4) →
    Calls Try.prog 117 #[.int .i64 (a : Int), .pointer (some ⟨c1, 0, none⟩), .pointer (some ⟨c2, 0, none⟩), .pointer (some ⟨c3, 0, none⟩), .pointer (some ⟨c4, 0, none⟩)] w fun e w' => ∃ v L', e = .returned v ∧ H w0 R L' w' ∧ ∃ t' m' hD' y, v = .tuple #[.int .i64 ((y : Nat) : Int), .int .i64 0] ∧ L' = sF Kt bt t' ++ (hO2 :: hP2 :: hD' :: L) ∧ MapT Try.prog 3 ekI evI m' bd hD' ∧ ROk n o l s.ns t'.ns m' ∧ Adds n Kt t t' ((2 ^ d - 1) * 256) y ∧ ∀ β, fn n t'.ns y (asgV l β) = fn n s.ns a (asgV o β) := by
  have h2n := pow8 h8
  intro d
  induction d using Nat.strongRecOn with
  | ind d ih =>
  intro a t m hD hp st ha hfull mp ro w0 w R L hw rS r1 r2 r3 r4
  have sm := so.sm
  have wf := so.wf
  have hno := so.no
  have hpl := po.len
  have hkey := keyI (a : Int) (by omega)
  have r1' := r1
  have r2' := r2
  have r3' := r3
  have r4' := r4
  unfold mapD at r1'
  unfold ptrS at r2' r3'
  unfold fnR at r4'
  unfold sF at hw
  simp only [List.cons_append, List.nil_append] at hw
  cases hget : mget m (a : Int) with
  | some y =>
    obtain ⟨_, hy, hfy⟩ := ro.at_ a y (mget_mem hget)
    refine calls_in Try.func117 Try.ntmps117 rfl rfl (hw) ?_
    repeat' first
      | (refine J.isJ ?_; first | (first | (refine J.o 4 ?_; refine J.lR hΓ ?_ (hr := r1'.tl.tl.tl.tl.tl.tl.tl)) | (refine J.o 9 ?_; refine J.lk (a := (a : Int)) keyedI ekI_inj mp (by first | exact RdH.hd | exact RdH.hd.tl | exact RdH.hd.tl.tl | exact RdH.hd.tl.tl.tl | exact RdH.hd.tl.tl.tl.tl | exact RdH.hd.tl.tl.tl.tl.tl | exact RdH.hd.tl.tl.tl.tl.tl.tl | exact RdH.hd.tl.tl.tl.tl.tl.tl.tl | exact RdH.old (fun _ hh => hh) | assumption) hkey hΓ ?_; rw [hget])) | (first | (refine J.o 0 ?_; refine J.ev' hΓ ?_) | refine J.nil ?_ | (refine J.o 4 ?_; first | refine J.lR hΓ ?_) | (refine J.o 3 ?_; first | refine J.ev' hΓ ?_) | (refine J.o 10 ?_; refine J.ev' hΓ ?_) | (refine J.o 11 ?_; refine J.ev' hΓ ?_)))
      | (first | refine JC.seq ?_ | refine JC.region ?_ | refine JC.ret ?_ | refine JC.skip ?_ | refine thenK.nn ?_ | refine thenK.r ?_ | refine JC.condT rfl ?_ | refine JC.condF rfl ?_)
      | (fail)
      | fail
    all_goals first | (exfalso; omega) | skip
    refine ret2f rfl rfl rfl rfl rfl (fun w1 hw => ⟨_, _, rfl, hw, t, m, hD, y, rfl, rfl, mp, ro, ⟨st, Ext.refl _, by omega, hy⟩, hfy⟩)
  | none =>
    have h2 : 2 ≤ a := by
      rcases Nat.lt_or_ge a 2 with g | g
      · obtain ⟨y, hy⟩ := ro.two a g
        exact absurd hy (mget_out hget y)
      · exact g
    have hpn := wf.pl a h2 ha
    have hll := wf.ll a h2 ha
    have hhl := wf.hl a h2 ha
    have hlp := wf.lp a h2 ha
    have hhp := wf.hp a h2 ha
    have hvo : o.getD (nd s.ns a).p default ∈ o := mem_g o _ (by omega)
    obtain ⟨k, hk⟩ : ∃ k, rk l (o.getD (nd s.ns a).p default) 0 = some k := by
      cases h : rk l (o.getD (nd s.ns a).p default) 0 with
      | some k => exact ⟨k, rfl⟩
      | none => exact absurd (hm _ hvo) (rk_none.1 h)
    have hv := po.ok.1 _ hvo
    have hd2 : 2 ^ d = 2 ^ (d - 1) + 2 ^ (d - 1) := by rw [← Nat.mul_two, ← Nat.pow_succ, show (d - 1).succ = d by omega]
    have hd0 : 0 < 2 ^ (d - 1) := Nat.pow_pos (by decide)
    have cP := fun w hw => Parts_node so po bs a h2 ha w hw
    refine calls_in Try.func117 Try.ntmps117 rfl rfl (hw) ?_
    repeat' first
      | (refine J.isJ ?_; first | (first | (refine J.o 4 ?_; first | refine J.lR hΓ ?_ (hr := r1'.tl.tl.tl.tl.tl.tl.tl) | refine J.lR hΓ ?_ (hr := r2'.tl.tl.tl.tl.tl.tl.tl) | refine J.lR hΓ ?_ (hr := r3'.tl.tl.tl.tl.tl.tl.tl) | refine J.lR hΓ ?_ (hr := r4'.tl.tl.tl.tl.tl.tl.tl)) | (refine J.o 9 ?_; refine J.lk (a := (a : Int)) keyedI ekI_inj mp (by first | exact RdH.hd | exact RdH.hd.tl | exact RdH.hd.tl.tl | exact RdH.hd.tl.tl.tl | exact RdH.hd.tl.tl.tl.tl | exact RdH.hd.tl.tl.tl.tl.tl | exact RdH.hd.tl.tl.tl.tl.tl.tl | exact RdH.hd.tl.tl.tl.tl.tl.tl.tl | exact RdH.old (fun _ hh => hh) | assumption) hkey hΓ ?_; rw [hget]) | (refine J.fc 66 ?_; refine J.call0 eParts rfl rfl (fun w hw => cP w (stR_of2 rS.tl.tl.tl.tl.tl.tl.tl hw)) ?_) | (refine J.fc 26 ?_; refine J.callx eVarS rfl rfl (fun w hw => Var_any st pt _ (by omega) k hk (by omega) (L := hD :: L) hw) ?_; rintro _ _ ⟨t1, x1, rfl, rfl, ad1, f1⟩; unfold sF; simp only [List.cons_append, List.nil_append])) | (first | (refine J.o 0 ?_; refine J.ev' hΓ ?_) | refine J.nil ?_ | (refine J.o 4 ?_; first | refine J.lR hΓ ?_) | (refine J.o 3 ?_; first | refine J.ev' hΓ ?_) | (refine J.o 10 ?_; refine J.ev' hΓ ?_) | (refine J.o 11 ?_; refine J.ev' hΓ ?_)))
      | (first | refine JC.seq ?_ | refine JC.region ?_ | refine JC.ret ?_ | refine JC.skip ?_ | refine thenK.nn ?_ | refine thenK.r ?_ | refine JC.condT rfl ?_ | refine JC.condF rfl ?_)
      | (fail)
      | fail
    all_goals first | (exfalso; omega) | skip
    have l1 := ad1.le
    refine J.isJ ?_
    refine J.o 9 ?_
    refine J.callvx eRebC rfl rfl rfl (fun w hw => ih (d - 1) (by omega) (nd s.ns a).l t1 m hD (by omega) ad1.ok hll (by omega) mp (ro.ext st.wf ad1.ext) (L := L) hw rS r1 r2 r3 r4) ?_
    rintro _ _ ⟨t2, m2, hD2, y2, rfl, rfl, mp2, ro2, ad2, f2⟩
    have l2 := ad2.le
    unfold sF
    simp only [List.cons_append, List.nil_append]
    repeat' first
      | (refine J.isJ ?_; first | ((refine J.o 4 ?_; refine J.lR hΓ ?_ (hr := r4'.tl.tl.tl.tl.tl.tl.tl))) | (first | (refine J.o 0 ?_; refine J.ev' hΓ ?_) | refine J.nil ?_ | (refine J.o 4 ?_; first | refine J.lR hΓ ?_) | (refine J.o 3 ?_; first | refine J.ev' hΓ ?_) | (refine J.o 10 ?_; refine J.ev' hΓ ?_) | (refine J.o 11 ?_; refine J.ev' hΓ ?_)))
      | (first | refine JC.seq ?_ | refine JC.region ?_ | refine JC.ret ?_ | refine JC.skip ?_ | refine thenK.nn ?_ | refine thenK.r ?_ | refine JC.condT rfl ?_ | refine JC.condF rfl ?_)
      | (fail)
      | fail
    all_goals first | (exfalso; omega) | skip
    refine J.isJ ?_
    refine J.o 9 ?_
    refine J.callvx eRebC rfl rfl rfl (fun w hw => ih (d - 1) (by omega) (nd s.ns a).h t2 m2 hD2 (by omega) ad2.ok hhl (by omega) mp2 ro2 (L := L) hw rS r1 r2 r3 r4) ?_
    rintro _ _ ⟨t3, m3, hD3, y3, rfl, rfl, mp3, ro3, ad3, f3⟩
    have l3 := ad3.le
    unfold sF
    simp only [List.cons_append, List.nil_append]
    repeat' first
      | (refine J.isJ ?_; first | (first | (refine J.o 4 ?_; first | refine J.lR hΓ ?_ (hr := r3'.tl.tl.tl.tl.tl.tl.tl)) | (refine J.fc 118 ?_; refine J.callx eIf rfl rfl (fun w hw => If_any ad3.ok x1 (ad3.old (ad2.old ad1.lt)) y3 ad3.lt y2 (ad3.old ad2.lt) (by omega) (L := hO2 :: hP2 :: hD3 :: L) hw) ?_; rintro _ _ ⟨t4, y4, rfl, rfl, ad4, f4⟩; unfold sF; simp only [List.cons_append, List.nil_append]) | (refine J.o 4 ?_; refine J.lR hΓ ?_ (hr := r1'.tl.tl.tl.tl.tl.tl.tl)) | (refine J.o 9 ?_; refine J.perm (bring_perm 6 _) ?_; refine J.mup (a := (a : Int)) (ev := evI) y4 keyedI ekI_inj mp3 hkey hΓ (fun h4 mt4 => ?_))) | (first | (refine J.o 0 ?_; refine J.ev' hΓ ?_) | refine J.nil ?_ | (refine J.o 4 ?_; first | refine J.lR hΓ ?_) | (refine J.o 3 ?_; first | refine J.ev' hΓ ?_) | (refine J.o 10 ?_; refine J.ev' hΓ ?_) | (refine J.o 11 ?_; refine J.ev' hΓ ?_)))
      | (first | refine JC.seq ?_ | refine JC.region ?_ | refine JC.ret ?_ | refine JC.skip ?_ | refine thenK.nn ?_ | refine thenK.r ?_ | refine JC.condT rfl ?_ | refine JC.condF rfl ?_)
      | (fail)
      | fail
    all_goals first | (exfalso; omega) | skip
    have l4 := ad4.le
    have e12 := ad1.ext.trans ad2.ext
    have e23 := ad2.ext.trans ad3.ext
    have hff : ∀ β, fn n t4.ns y4 (asgV l β) = fn n s.ns a (asgV o β) := fun β => by
      have hβ : asgV l β k = β (o.getD (nd s.ns a).p default) := by
        unfold asgV
        have := (rk_some hk).2.2
        rw [Nat.sub_zero] at this
        rw [this]
      have h1 := f1 (asgV l β)
      dsimp only at h1
      rw [hβ] at h1
      rw [f4]
      dsimp only
      rw [fn_ext ad1.ok.wf e23 ad1.lt, h1, f3, fn_ext ad2.ok.wf ad3.ext ad2.lt, f2, fn_node wf _ h2 ha]
      rfl
    have ro4 := (ro3.ext ad3.ok.wf ad4.ext).put ha ad4.lt hff
    refine ret2f rfl rfl rfl rfl rfl (fun w1 hw => ⟨_, _, rfl, H.sel (l := [_, _, _, _, _, _, _]) (M := L) hw [1, 2, 3, 4, 5, 6, 0], t4, _, h4, y4, rfl, rfl, mt4, ro4, (((ad1.trans ad2).trans ad3).trans ad4).mono (by omega), hff⟩)
end Go.Proofs.Ytbhgahjeocnfcaa
namespace Go.Proofs.Ytbhgahjeocnfcaa
open Go Go.Cx Go.RowKit
set_option linter.unusedVariables false
set_option linter.unusedSimpArgs false
set_option maxHeartbeats 4000000
attribute [local irreducible] J JC thenK blockK loopK drawK retK QW Qt pel List.set Calls
open Go.Maps Go.Lib
set_option maxRecDepth 8000
attribute [local irreducible] JE Br eK0 eK3 brK pc
structure Stv (F : VF) (l : List Int) (K : KS) (s : SS) (y : Nat) (hO hP : Heap) : Prop where
  so : SOk l.length K s
  po : POk K l hO hP
  sy : Says s.ns l y F
theorem Stv.ho {F : VF} {l : List Int} {K : KS} {s : SS} {y : Nat} {hO hP : Heap} (st : Stv F l K s y hO hP) : okOrd l := st.po.ok
theorem ROk.start {n : Nat} {o l : List Int} {ns ts : List N3} (w : WF n ns) (w2 : WF n ts) : ROk n o l ns ts [((0 : Int), 0), ((1 : Int), 1)] := by
  have h1 := w.two
  have h2 := w2.two
  refine ⟨fun a y hm => ?_, fun a ha => ?_⟩
  · rcases List.mem_cons.1 hm with e | hm
    · obtain ⟨e1, e2⟩ := Prod.mk.inj e
      obtain rfl : a = 0 := by omega
      subst e2
      exact ⟨by omega, by omega, fun β => by rw [fn_0 w, fn_0 w2]⟩
    · obtain ⟨e1, e2⟩ := Prod.mk.inj (List.mem_singleton.1 hm)
      obtain rfl : a = 1 := by omega
      subst e2
      exact ⟨by omega, by omega, fun β => by rw [fn_1 w, fn_1 w2]⟩
  · rcases (by omega : a = 0 ∨ a = 1) with rfl | rfl
    · exact ⟨0, List.mem_cons_self⟩
    · exact ⟨1, List.mem_cons_of_mem _ List.mem_cons_self⟩
def RebQ (F : VF) (l : List Int) (L : List Heap) (v : Value) (L' : List Heap) : Prop := ∃ bt Kt t y hO2 hP2, v = .tuple #[.pointer (some ⟨bt, 0, none⟩), .int .i64 ((y : Nat) : Int), .int .i64 0] ∧ L' = sF Kt bt t ++ (hO2 :: hP2 :: L) ∧ Stv F l Kt t y hO2 hP2
set_option maxHeartbeats 16000000 in
theorem rebuilt_any {F : VF} {o : List Int} {K : KS} {s : SS} {a : Nat} {hO hP : Heap} (sv : Stv F o K s a hO hP) (h8 : o.length ≤ 8) (l : List Int) (hlen : l.length = o.length) (ho : okOrd l) (hm : ∀ v, v ∈ o → v ∈ l) (al : Option Addr) (cl : Nat) (hl : Heap) (hs : SlT encI 1 al l hl) {w0 w : World} {R : Heap} {L : List Heap} {bs : Nat} (rS : RdH R L (stR K bs s hO)) (rl : RdH R L hl) (hw : H w0 R L w) :
    Calls Try.prog 62 #[.pointer (some ⟨bs, 0, none⟩), .int .i64 (a : Int), .slice al l.length cl] w fun e w' => ∃ v L', e = .returned v ∧ H w0 R L' w' ∧ RebQ F l L v L' := by
  have h2n : 2 ^ o.length ≤ 2 ^ 8 := Nat.pow_le_pow_right (by decide) h8
  have so := sv.so
  have ha := sv.sy.1
  refine calls_in Try.func62 Try.ntmps62 rfl rfl (hw) ?_
  refine JC.seq ?_
  refine JC.region ?_
  refine J.isJ ?_
  refine J.o 6 ?_
  refine J.bx (fun c2 => ?_)
  repeat' first
    | (refine J.isJ ?_; first | (first | (refine J.o 7 ?_; first | refine J.al (t := 30) hΓ (fun c3 => ?_) | refine J.al (t := 40) hΓ (fun c1 => ?_) | refine J.al (t := 38) hΓ (fun c4 => ?_)) | (refine J.o 14 ?_; refine J.mfV [.pointer (some ⟨c1, 0, none⟩), .pointer (some ⟨c2, 0, none⟩), .pointer (some ⟨c3, 0, none⟩), .pointer (some ⟨c4, 0, none⟩)] hΓ ?_) | (refine J.fc 25 ?_; refine J.callx eNew rfl rfl (fun w hw => new_any l al cl hl hs ho rl.tl hw) ?_; rintro _ _ ⟨bt, Kt, t, hO2, hP2, rfl, rfl, st, hns, pt⟩; have hlt : t.ns.length = 2 := (by rw [hns]; rfl); unfold sF; simp only [List.cons_append, List.nil_append]) | (refine J.o 9 ?_; first | refine J.mkm (fun bd => ?_) | refine J.ins (ev := evI) 0 keyedI ekI_inj (MapT.nil _) (keyI 0 (by omega)) hΓ (fun h1 mp1 => ?_) | refine J.ins (ev := evI) 1 keyedI ekI_inj mp1 (keyI 1 (by omega)) hΓ (fun hD mp => ?_))) | (first | (refine J.o 0 ?_; refine J.ev' hΓ ?_) | refine J.nil ?_ | (refine J.o 4 ?_; first | refine J.lR hΓ ?_) | (refine J.o 3 ?_; first | refine J.ev' hΓ ?_) | (refine J.o 5 ?_; first | refine J.t0 hΓ ?_) | (refine J.o 6 ?_; refine J.bx (fun _ => ?_)) | (refine J.o 7 ?_; refine J.al hΓ (fun _ => ?_)) | (refine J.o 10 ?_; refine J.ev' hΓ ?_) | (refine J.o 11 ?_; refine J.ev' hΓ ?_)))
    | (first | refine JC.seq ?_ | refine JC.region ?_ | refine JC.ret ?_ | refine JC.skip ?_ | refine thenK.nn ?_ | refine JC.condF rfl ?_)
    | (fail)
    | fail
  all_goals first | (exfalso; omega) | skip
  rw [hlen] at st
  have hin : ∀ β, fn o.length s.ns a (asgV o β) = F β := sv.sy.2
  have hpw : 0 < 2 ^ o.length := Nat.pow_pos (by decide)
  refine J.isJ ?_
  refine J.o 9 ?_
  refine J.callvx eRebC rfl rfl rfl (fun w hw => rebC_any so sv.po pt st.no h8 hm bs bt c1 c2 c3 c4 bd o.length a t _ hD (by omega) st ha (by omega) mp (ROk.start so.wf st.wf) (L := [(c4, fnR c1 c2 c3 c4)] :: [(c1, mapD bd)] :: [(c3, ptrS bt)] :: [(c2, ptrS bs)] :: L) (H.sel (l := [_, _, _, _, _, _, _, _, _, _, _]) (M := L) hw [4, 5, 6, 7, 8, 9, 2, 0, 1, 3, 10]) rS.tl.tl.tl.tl Rd.hd.tl Rd.hd.tl.tl.tl Rd.hd.tl.tl Rd.hd) ?_
  rintro _ _ ⟨t2, m2, hD2, y2, rfl, rfl, mp2, ro2, ad2, f2⟩
  unfold sF
  simp only [List.cons_append, List.nil_append]
  repeat' first
    | (refine J.isJ ?_; first | (first | (refine J.o 4 ?_; refine J.lR hΓ ?_ (hr := Rd.hd.tl.tl.tl.tl.tl.tl.tl.tl.tl))) | (first | (refine J.o 0 ?_; refine J.ev' hΓ ?_) | refine J.nil ?_ | (refine J.o 4 ?_; first | refine J.lR hΓ ?_) | (refine J.o 3 ?_; first | refine J.ev' hΓ ?_) | (refine J.o 5 ?_; first | refine J.t0 hΓ ?_) | (refine J.o 6 ?_; refine J.bx (fun _ => ?_)) | (refine J.o 7 ?_; refine J.al hΓ (fun _ => ?_)) | (refine J.o 10 ?_; refine J.ev' hΓ ?_) | (refine J.o 11 ?_; refine J.ev' hΓ ?_)))
    | (first | refine JC.seq ?_ | refine JC.region ?_ | refine JC.ret ?_ | refine JC.skip ?_ | refine thenK.nn ?_ | refine JC.condF rfl ?_)
    | (fail)
    | fail
  all_goals first | (exfalso; omega) | skip
  refine ret3f rfl rfl rfl rfl rfl rfl rfl (fun w1 hw => ⟨_, _, rfl, H.sel (l := [_, _, _, _, _, _, _, _, _, _, _]) (M := L) hw [0, 1, 2, 3, 4, 5], bt, Kt, t2, y2, hO2, hP2, rfl, rfl, ?_⟩)
  have ok2 := ad2.ok
  have lt2 := ad2.lt
  rw [← hlen] at ok2 f2
  exact ⟨ok2, pt, lt2, fun β => by rw [f2, hlen]; exact hin β⟩
theorem stR_b {R : Heap} {L : List Heap} {K : KS} {b : Nat} {s : SS} {hO : Heap} (r : RdH R L (stR K b s hO)) : Rd R L b (stO K s.an s.ns.length s.cn) := r _ List.mem_cons_self
theorem stR_N {R : Heap} {L : List Heap} {K : KS} {b : Nat} {s : SS} {hO : Heap} (r : RdH R L (stR K b s hO)) : RdH R L s.hN := fun x hx => r x (List.mem_cons_of_mem _ (List.mem_append_left _ hx))
theorem stR_hd {R : Heap} {K : KS} {b : Nat} {s : SS} {hO hP : Heap} (M : List Heap) : RdH R (sF K b s ++ (hO :: hP :: M)) (stR K b s hO) := fun x hx => by
  rcases List.mem_cons.1 hx with rfl | hx
  · exact (Rd.hd : Rd R (sF K b s ++ (hO :: hP :: M)) b _)
  · rcases List.mem_append.1 hx with h | h
    · exact (RdH.hd.tl : RdH R (sF K b s ++ (hO :: hP :: M)) s.hN) x h
    · exact (RdH.hd.tl.tl.tl.tl : RdH R (sF K b s ++ (hO :: hP :: M)) hO) x h
theorem stR_tl {R : Heap} {L : List Heap} {h : Heap} (r : RdH R L h) (K : KS) (b : Nat) (s : SS) (hO hP : Heap) : RdH R (sF K b s ++ (hO :: hP :: L)) h := RdH.app (sF K b s) r.tl.tl
end Go.Proofs.Ytbhgahjeocnfcaa
namespace Go.Proofs.Ytbhgahjeocnfcaa
open Go Go.Cx Go.RowKit
set_option linter.unusedVariables false
set_option linter.unusedSimpArgs false
set_option maxHeartbeats 4000000
attribute [local irreducible] J JC thenK blockK loopK drawK retK QW Qt pel List.set Calls
open Go.Maps Go.Lib
set_option maxRecDepth 8000
attribute [local irreducible] JE Br eK0 eK3 brK pc
def swp (o : List Int) (p : Nat) : List Int := (o.set p (o.getD (p + 1) default)).set (p + 1) (o.getD p default)
theorem swp_len (o : List Int) (p : Nat) : (swp o p).length = o.length := by simp [swp]
theorem swp_get (o : List Int) {p : Nat} (hp : p + 1 < o.length) (i : Nat) : (swp o p).getD i default = if i = p then o.getD (p + 1) default else if i = p + 1 then o.getD p default else o.getD i default := by
  unfold swp
  rw [List.getD_eq_getElem?_getD, List.getElem?_set, List.getElem?_set, List.length_set]
  by_cases h1 : i = p
  · rw [if_pos h1, h1, if_neg (by omega), if_pos rfl, if_pos (by omega)]; rfl
  · rw [if_neg h1]
    by_cases h2 : i = p + 1
    · rw [if_pos h2, if_pos h2.symm, if_pos (by omega)]; rfl
    · rw [if_neg h2, if_neg (fun g => h2 g.symm), if_neg (fun g => h1 g.symm), List.getD_eq_getElem?_getD]
theorem swp_perm (o : List Int) {p : Nat} (hp : p + 1 < o.length) : (swp o p).Perm o := by
  have e1 : o = o.take p ++ o.getD p default :: o.getD (p + 1) default :: o.drop (p + 2) := by
    have h1 := (List.take_append_drop p o).symm
    have h2 := drop_g o p (by omega)
    have h3 := drop_g o (p + 1) hp
    rw [h2, h3] at h1
    exact h1
  have e2 : swp o p = o.take p ++ o.getD (p + 1) default :: o.getD p default :: o.drop (p + 2) := by
    refine List.ext_getElem (by rw [swp_len]; conv => lhs; rw [e1]
                                simp) fun i h1 h2 => ?_
    have hg : ∀ (l : List Int) (h : i < l.length), l[i] = l.getD i default := fun l h => by rw [List.getD_eq_getElem?_getD, List.getElem?_eq_getElem h]; rfl
    rw [hg _ h1, hg _ h2, swp_get o hp]
    rw [swp_len] at h1
    have ht : (o.take p).length = p := by rw [List.length_take]; omega
    rcases Nat.lt_trichotomy i p with g | g | g
    · rw [if_neg (by omega), if_neg (by omega), List.getD_eq_getElem?_getD, List.getD_eq_getElem?_getD, List.getElem?_append_left (by omega), List.getElem?_take_of_lt g]
    · subst g
      rw [if_pos rfl, List.getD_eq_getElem?_getD (l := _ ++ _), List.getElem?_append_right (by omega), ht, Nat.sub_self]; rfl
    · rw [if_neg (by omega), List.getD_eq_getElem?_getD (l := _ ++ _), List.getElem?_append_right (by omega), ht]
      by_cases g2 : i = p + 1
      · rw [if_pos g2, g2, show p + 1 - p = 1 by omega]; rfl
      · obtain ⟨j, hj⟩ : ∃ j, i - p = j + 2 := ⟨i - p - 2, by omega⟩
        rw [if_neg g2, hj, List.getElem?_cons_succ, List.getElem?_cons_succ, List.getElem?_drop, List.getD_eq_getElem?_getD, show p + 2 + j = i by omega]
  rw [e2]
  conv => rhs; rw [e1]
  exact List.Perm.append_left _ (List.Perm.swap _ _ _)
theorem swp_ord {o : List Int} (h : okOrd o) {p : Nat} (hp : p + 1 < o.length) : okOrd (swp o p) :=
  ⟨fun v hv => h.1 v ((swp_perm o hp).mem_iff.1 hv), (swp_perm o hp).nodup_iff.2 h.2⟩
theorem eSwap : Entr Try.prog 17 := Entr.of Try.func17 rfl rfl
theorem eChecked : Entr Try.prog 61 := Entr.of Try.func61 rfl rfl
theorem checked_any {n : Nat} {K : KS} {s : SS} (so : SOk n K s) (b a : Nat) (ha : a < s.ns.length) {hO : Heap} {w0 w : World} {R : Heap} {L : List Heap} (rS : RdH R L (stR K b s hO)) (hw : H w0 R L w) :
    Calls Try.prog 61 #[.pointer (some ⟨b, 0, none⟩), .int .i64 (a : Int)] w fun e w' => ∃ v L', e = .returned v ∧ H w0 R L' w' ∧ v = .int .i64 0 ∧ L' = L := by
  refine calls_in Try.func61 Try.ntmps61 rfl rfl (hw) ?_
  repeat' first
    | (refine J.isJ ?_; first | (first | (refine J.o 11 ?_; refine J.pN hΓ ?_) | (refine J.fc 20 ?_; refine J.callx eSize rfl rfl (fun w hw => Size_any so b a ha (stR_b rS) (stR_N rS) hw) ?_; rintro _ _ ⟨l, rfl, rfl, bel⟩)) | (first | (refine J.o 0 ?_; refine J.ev' hΓ ?_) | refine J.nil ?_ | (refine J.o 3 ?_; first | refine J.ev' hΓ ?_) | (refine J.o 10 ?_; refine J.ev' hΓ ?_) | (refine J.o 11 ?_; refine J.ev' hΓ ?_)))
    | (first | refine JC.seq ?_ | refine JC.region ?_ | refine JC.ret ?_ | refine JC.skip ?_ | refine thenK.nn ?_ | refine JC.condF rfl ?_)
    | (fail)
    | fail
  all_goals first | (exfalso; omega) | skip
  refine ret1f rfl rfl rfl (fun w1 hw => ⟨_, _, rfl, hw, rfl, rfl⟩)
theorem rebuilt_n {F : VF} {o : List Int} {K : KS} {s : SS} {a : Nat} {hO hP : Heap} (sv : Stv F o K s a hO hP) (h8 : o.length ≤ 8) (l : List Int) (nl : Nat) (hnl : l.length = nl) (hlen : l.length = o.length) (ho : okOrd l) (hm : ∀ v, v ∈ o → v ∈ l) (al : Option Addr) (cl : Nat) (hl : Heap) (hs : SlT encI 1 al l hl) {w0 w : World} {R : Heap} {L : List Heap} {bs : Nat} (rS : RdH R L (stR K bs s hO)) (rl : RdH R L hl) (hw : H w0 R L w) :
    Calls Try.prog 62 #[.pointer (some ⟨bs, 0, none⟩), .int .i64 (a : Int), .slice al nl cl] w fun e w' => ∃ v L', e = .returned v ∧ H w0 R L' w' ∧ RebQ F l L v L' := by
  subst hnl
  exact rebuilt_any sv h8 l hlen ho hm al cl hl hs rS rl hw
theorem H.drop6 {K : KS} {b : Nat} {s : SS} {hO hP h : Heap} {L : List Heap} {w0 w : World} {R : Heap} (hw : H w0 R (sF K b s ++ (hO :: hP :: h :: L)) w) : H w0 R (sF K b s ++ (hO :: hP :: L)) w := H.sel (l := [_, _, _, _, _, _, _]) (M := L) hw [0, 1, 2, 3, 4, 5]
theorem Swap_any {F : VF} {o : List Int} {K : KS} {s : SS} {a : Nat} {hO hP : Heap} (sv : Stv F o K s a hO hP) (h8 : o.length ≤ 8) (p : Nat) (hp : p + 1 < o.length) {w0 w : World} {R : Heap} {L : List Heap} {bs : Nat} (rS : RdH R L (stR K bs s hO)) (hw : H w0 R L w) :
    Calls Try.prog 17 #[.pointer (some ⟨bs, 0, none⟩), .int .i64 (a : Int), .int .i64 (p : Int)] w fun e w' => ∃ v L', e = .returned v ∧ H w0 R L' w' ∧ RebQ F (swp o p) L v L' := by
  have so := sv.so
  have ha := sv.sy.1
  have hsl : (swp o p).length = o.length := swp_len o p
  have cO := fun w hw => Order_any so sv.po bs w hw
  have hg1 : (o.set p (o.getD (p + 1) default)).length = o.length := by simp
  refine calls_in Try.func17 Try.ntmps17 rfl rfl (hw) ?_
  repeat' first
    | (refine J.isJ ?_; first | (first | (refine J.fc 61 ?_; refine J.callx eChecked rfl rfl (fun w hw => checked_any so bs a ha rS hw) ?_; rintro _ _ ⟨rfl, rfl⟩) | (refine J.fc 19 ?_; refine J.call1 eOrder rfl rfl (fun w hw => cO w (stR_of2 rS hw)) ?_; rintro _ ho ⟨ao, co, rfl, oo⟩) | (refine J.o 3 ?_; refine J.iJ hΓ ?_ (hs := oo.sl)) | (refine J.o 4 ?_; refine J.lT default hΓ ?_ (hs := oo.sl) (hr := RdH.hd)) | (refine J.o 5 ?_; first | refine J.tT (enc := encI) (o.getD (p + 1) default) default hΓ (fun h5 o5 => ?_) (ho := oo))) | (first | (refine J.o 0 ?_; refine J.ev' hΓ ?_) | refine J.nil ?_ | (refine J.o 4 ?_; first | refine J.lT default hΓ ?_) | (refine J.o 3 ?_; first | refine J.iJ hΓ ?_ | refine J.ev' hΓ ?_) | (refine J.o 1 ?_; first | refine J.ad ?_ | refine J.sb ?_) | (refine J.o 5 ?_; first | refine J.tT _ default hΓ (fun _ _ => ?_)) | (refine J.o 10 ?_; refine J.ev' hΓ ?_) | (refine J.o 11 ?_; refine J.ev' hΓ ?_)))
    | (first | refine JC.seq ?_ | refine JC.region ?_ | refine JC.ret ?_ | refine JC.skip ?_ | refine thenK.nn ?_ | refine JC.condF rfl ?_ | (refine JC.cond rfl (fun hc => ?_) (fun hc => ?_) <;> ((try simp only [decide_eq_true_eq, decide_eq_false_iff_not, beq_iff_eq, beq_eq_false_iff_ne, bne_iff_ne, bne_eq_false_iff_eq, Bool.not_eq_true', Bool.not_eq_false', Bool.not_eq_true, Bool.not_eq_false] at hc) <;> first | (first | (exact absurd rfl hc) | (exfalso; omega) | (exact absurd (hc.symm.trans (by assumption : _ = false)) (by decide)) | (exact absurd (hc.symm.trans (by assumption : _ = true)) (by decide))) | skip)) | refine drawK.nn ?_)
    | ((refine JC.drawO [(0,0),(0,1),(0,2),(0,3),(0,4),(0,5),(0,6),(0,7),(0,8),(1,9),(0,10),(0,11),(0,12),(1,13),(0,14),(2,15),(0,16),(2,17)] (by decide +kernel) (by decide +kernel) ?_))
    | fail
  all_goals first | (exfalso; omega) | skip
  rename_i h6 o6
  have hq : ((p : Int) + 1).toNat = p + 1 := by omega
  rw [hq] at o6
  have o7 : OwT encI 1 3 ao co (swp o p) h6 := o6
  repeat' first
    | (refine J.isJ ?_; first | ((refine J.fc 62 ?_; refine J.callx eReb2 rfl rfl (fun w hw => rebuilt_n sv h8 (swp o p) o.length hsl hsl (swp_ord sv.ho hp) (fun v hv => (swp_perm o hp).mem_iff.2 hv) ao co h6 o7.sl rS.tl RdH.hd hw) ?_; rintro _ _ ⟨bt, Kt, t, y, hO2, hP2, rfl, rfl, sv2⟩)) | (first | (refine J.o 0 ?_; refine J.ev' hΓ ?_) | refine J.nil ?_ | (refine J.o 4 ?_; first | refine J.lT default hΓ ?_) | (refine J.o 3 ?_; first | refine J.iJ hΓ ?_ | refine J.ev' hΓ ?_) | (refine J.o 1 ?_; first | refine J.ad ?_ | refine J.sb ?_) | (refine J.o 5 ?_; first | refine J.tT _ default hΓ (fun _ _ => ?_)) | (refine J.o 10 ?_; refine J.ev' hΓ ?_) | (refine J.o 11 ?_; refine J.ev' hΓ ?_)))
    | (first | refine JC.seq ?_ | refine JC.region ?_ | refine JC.ret ?_ | refine JC.skip ?_ | refine thenK.nn ?_ | refine JC.condF rfl ?_ | (refine JC.cond rfl (fun hc => ?_) (fun hc => ?_) <;> ((try simp only [decide_eq_true_eq, decide_eq_false_iff_not, beq_iff_eq, beq_eq_false_iff_ne, bne_iff_ne, bne_eq_false_iff_eq, Bool.not_eq_true', Bool.not_eq_false', Bool.not_eq_true, Bool.not_eq_false] at hc) <;> first | (first | (exact absurd rfl hc) | (exfalso; omega) | (exact absurd (hc.symm.trans (by assumption : _ = false)) (by decide)) | (exact absurd (hc.symm.trans (by assumption : _ = true)) (by decide))) | skip)) | refine drawK.nn ?_)
    | (fail)
    | fail
  all_goals first | (exfalso; omega) | skip
  refine ret3f rfl rfl rfl rfl rfl rfl rfl (fun w1 hw => ⟨_, _, rfl, H.drop6 hw, bt, Kt, t, y, hO2, hP2, rfl, rfl, sv2⟩)
theorem Swap_out {F : VF} {o : List Int} {K : KS} {s : SS} {a : Nat} {hO hP : Heap} (sv : Stv F o K s a hO hP) (p : Int) (hp : p < 0 ∨ (o.length : Int) - 1 ≤ p) {w0 w : World} {R : Heap} {L : List Heap} {bs : Nat} (rS : RdH R L (stR K bs s hO)) (hw : H w0 R L w) :
    Calls Try.prog 17 #[.pointer (some ⟨bs, 0, none⟩), .int .i64 (a : Int), .int .i64 p] w fun e w' => ∃ v L', e = .returned v ∧ H w0 R L' w' ∧ v = .tuple #[.pointer none, .int .i64 0, .int .i64 1] ∧ L' = L := by
  have so := sv.so
  have ha := sv.sy.1
  have n8 := so.n8
  have cO := fun w hw => Order_any so sv.po bs w hw
  refine calls_in Try.func17 Try.ntmps17 rfl rfl (hw) ?_
  repeat' first
    | (refine J.isJ ?_; first | (first | (refine J.fc 61 ?_; refine J.callx eChecked rfl rfl (fun w hw => checked_any so bs a ha rS hw) ?_; rintro _ _ ⟨rfl, rfl⟩) | (refine J.fc 19 ?_; refine J.call1 eOrder rfl rfl (fun w hw => cO w (stR_of2 rS hw)) ?_; rintro _ ho ⟨ao, co, rfl, oo⟩)) | (first | (refine J.o 0 ?_; refine J.ev' hΓ ?_) | refine J.nil ?_ | refine J.kd ?_ | (refine J.o 3 ?_; first | refine J.ev' hΓ ?_) | (refine J.o 1 ?_; first | refine J.sb ?_) | (refine J.o 10 ?_; refine J.ev' hΓ ?_) | (refine J.o 11 ?_; refine J.ev' hΓ ?_)) | ((fail_if_success refine J.wt ?_); refine J.gc rfl rfl (fun hc => ?_) (fun hc => ?_) <;> ((try simp only [decide_eq_true_eq, decide_eq_false_iff_not, beq_iff_eq, beq_eq_false_iff_ne, bne_iff_ne, bne_eq_false_iff_eq, Bool.not_eq_true', Bool.not_eq_false', Bool.not_eq_true, Bool.not_eq_false] at hc) <;> first | (first | (exact absurd rfl hc) | (exfalso; omega) | (exact absurd (hc.symm.trans (by assumption : _ = false)) (by decide)) | (exact absurd (hc.symm.trans (by assumption : _ = true)) (by decide))) | skip)))
    | (first | refine JC.seq ?_ | refine JC.region ?_ | refine JC.ret ?_ | refine JC.skip ?_ | refine thenK.nn ?_ | refine thenK.r ?_ | refine JC.condT rfl ?_ | refine JC.condF rfl ?_ | (refine JC.cond rfl (fun hc => ?_) (fun hc => ?_) <;> ((try simp only [decide_eq_true_eq, decide_eq_false_iff_not, beq_iff_eq, beq_eq_false_iff_ne, bne_iff_ne, bne_eq_false_iff_eq, Bool.not_eq_true', Bool.not_eq_false', Bool.not_eq_true, Bool.not_eq_false] at hc) <;> first | (first | (exact absurd rfl hc) | (exfalso; omega) | (exact absurd (hc.symm.trans (by assumption : _ = false)) (by decide)) | (exact absurd (hc.symm.trans (by assumption : _ = true)) (by decide))) | skip)))
    | (fail)
    | fail
  all_goals first | (exfalso; omega) | skip
  all_goals (refine ret3f rfl rfl rfl rfl rfl rfl rfl (fun w1 hw => ⟨_, _, rfl, hw.drop, rfl, rfl⟩))
end Go.Proofs.Ytbhgahjeocnfcaa
namespace Go.Proofs.Ytbhgahjeocnfcaa
open Go Go.Cx Go.RowKit
set_option linter.unusedVariables false
set_option linter.unusedSimpArgs false
set_option maxHeartbeats 4000000
attribute [local irreducible] J JC thenK blockK loopK drawK retK QW Qt pel List.set Calls
open Go.Maps Go.Lib
set_option maxRecDepth 8000
attribute [local irreducible] JE Br eK0 eK3 brK pc
section
variable {P : Program} {n : Nat} {w0 : World} {R : Heap} {l0 : List Oper} {K : Exit → Fr → List Heap → Prop} {f : Fr} {L : List Heap} {rest : List (Nat × Oper)} {κ : Nat}
variable {d : Nat} {ty : TypeId} {pos : String} {aft : Array Edge} {g : Option (Nat × Bool)} {t u : TypeId} {x y : Operand}
theorem J.eqT2 {Γ : List (Nat × TI)} {a b : Nat} (hΓ : Fits P Γ) (h : a = b) (k : J P n w0 R l0 K rest (upd f d (.bool true)) L) (hg : wantB n f l0 ⟨some d, .binOp .eql t x y u, ty, pos, aft, g⟩ = true := by exact rfl) (hx : Cx.ev n f x = .int .i64 (a : Int) := by exact rfl) (hy : Cx.ev n f y = .int .i64 (b : Int) := by exact rfl) (hv : pureEv Γ (Cx.ev n f) (.binOp .eql t x y u) = some (.bool ((a : Int) == (b : Int))) := by exact rfl) : J P n w0 R l0 K ((κ, ⟨some d, .binOp .eql t x y u, ty, pos, aft, g⟩) :: rest) f L := by
  subst h
  have e : ((a : Int) == (a : Int)) = true := by simp
  rw [e] at hv
  exact J.ev hΓ hg hv k
end
end Go.Proofs.Ytbhgahjeocnfcaa
namespace Go.Proofs.Ytbhgahjeocnfcaa
open Go Go.Cx Go.RowKit
set_option linter.unusedVariables false
set_option linter.unusedSimpArgs false
set_option maxHeartbeats 4000000
attribute [local irreducible] J JC thenK blockK loopK drawK retK QW Qt pel List.set Calls
set_option maxRecDepth 8000
attribute [local irreducible] JE Br eK0 eK3 brK pc
theorem eHas05 : Entr Try.prog 134 := Entr.of Try.func134 rfl rfl
theorem eHolds05 : Entr Try.prog 91 := Entr.of Try.func91 rfl rfl
theorem eAssignm : Entr Try.prog 90 := Entr.of Try.func90 rfl rfl
theorem has05_any (s : Nat × Nat) (hs : okS s) (v : Int) (w : World) :
    Calls Try.prog 134 #[sv s, .int .i64 v] w fun e w' => e = .returned (.bool (hasB s v)) ∧ Below w.heap.size w w' := by
  obtain ⟨h1, h2⟩ := hs
  unfold hasB
  by_cases hl : 1 ≤ v ∧ v ≤ 64
  · have e1 : (v - 1) / 64 = 0 := by omega
    have e2 : (v - 1) % 64 = v - 1 := by omega
    refine calls_of_JC (R := []) Try.func134 Try.ntmps134 rfl rfl (Holds.nil _) ?_
    repeat' first
      | (refine J.isJ ?_; (first | (first | (refine J.o 0 ?_; refine J.ev' hΓ ?_) | refine J.nil ?_ | refine J.kd ?_ | (refine J.o 4 ?_; first | refine J.e0 hΓ ?_) | (refine J.o 3 ?_; first | refine J.iA hΓ ?_ | refine J.ev' hΓ ?_) | (refine J.o 1 ?_; first | refine J.sb ?_ | refine J.qu ?_ | refine J.rm ?_ | refine J.sr ?_) | (refine J.o 2 ?_; refine J.cv _ hΓ ?_) | (refine J.o 6 ?_; refine J.bx (fun _ => ?_)) | (refine J.o 10 ?_; first | refine J.ev' hΓ ?_) | (refine J.o 11 ?_; first | refine J.ev' hΓ ?_)) | ((fail_if_success refine J.wt ?_); refine J.gc rfl rfl (fun hc => ?_) (fun hc => ?_) <;> ((try simp only [decide_eq_true_eq, decide_eq_false_iff_not, beq_iff_eq, beq_eq_false_iff_ne, bne_iff_ne, bne_eq_false_iff_eq, Bool.not_eq_true', Bool.not_eq_false', Bool.not_eq_true, Bool.not_eq_false] at hc) <;> first | (first | (exact absurd rfl hc) | (exfalso; omega) | (exact absurd (hc.symm.trans (by assumption : _ = false)) (by decide)) | (exact absurd (hc.symm.trans (by assumption : _ = true)) (by decide))) | skip))))
      | (first | refine JC.seq ?_ | refine JC.region ?_ | refine JC.ret ?_ | refine thenK.nn ?_)
      | fail
    all_goals first | (exfalso; omega) | skip
    all_goals (refine ret1f rfl rfl rfl (fun w1 hw => ⟨retB ?_, hw.below⟩))
    rw [if_pos hl, ← shr_bit, e2]
  by_cases hh : 65 ≤ v ∧ v ≤ 128
  · have e1 : (v - 1) / 64 = 1 := by omega
    have e2 : (v - 1) % 64 = v - 65 := by omega
    refine calls_of_JC (R := []) Try.func134 Try.ntmps134 rfl rfl (Holds.nil _) ?_
    repeat' first
      | (refine J.isJ ?_; (first | (first | (refine J.o 0 ?_; refine J.ev' hΓ ?_) | refine J.nil ?_ | refine J.kd ?_ | (refine J.o 4 ?_; first | refine J.e0 hΓ ?_) | (refine J.o 3 ?_; first | refine J.iA hΓ ?_ | refine J.ev' hΓ ?_) | (refine J.o 1 ?_; first | refine J.sb ?_ | refine J.qu ?_ | refine J.rm ?_ | refine J.sr ?_) | (refine J.o 2 ?_; refine J.cv _ hΓ ?_) | (refine J.o 6 ?_; refine J.bx (fun _ => ?_)) | (refine J.o 10 ?_; first | refine J.ev' hΓ ?_) | (refine J.o 11 ?_; first | refine J.ev' hΓ ?_)) | ((fail_if_success refine J.wt ?_); refine J.gc rfl rfl (fun hc => ?_) (fun hc => ?_) <;> ((try simp only [decide_eq_true_eq, decide_eq_false_iff_not, beq_iff_eq, beq_eq_false_iff_ne, bne_iff_ne, bne_eq_false_iff_eq, Bool.not_eq_true', Bool.not_eq_false', Bool.not_eq_true, Bool.not_eq_false] at hc) <;> first | (first | (exact absurd rfl hc) | (exfalso; omega) | (exact absurd (hc.symm.trans (by assumption : _ = false)) (by decide)) | (exact absurd (hc.symm.trans (by assumption : _ = true)) (by decide))) | skip))))
      | (first | refine JC.seq ?_ | refine JC.region ?_ | refine JC.ret ?_ | refine thenK.nn ?_)
      | fail
    all_goals first | (exfalso; omega) | skip
    all_goals (refine ret1f rfl rfl rfl (fun w1 hw => ⟨retB ?_, hw.below⟩))
    rw [if_neg hl, if_pos hh, ← shr_bit, e2]
  rw [if_neg hl, if_neg hh]
  refine calls_of_JC (R := []) Try.func134 Try.ntmps134 rfl rfl (Holds.nil _) ?_
  repeat' first
    | (refine J.isJ ?_; (first | (first | (refine J.o 0 ?_; refine J.ev' hΓ ?_) | refine J.nil ?_ | refine J.kd ?_ | (refine J.o 4 ?_; first | refine J.e0 hΓ ?_) | (refine J.o 3 ?_; first | refine J.iA hΓ ?_ | refine J.ev' hΓ ?_) | (refine J.o 1 ?_; first | refine J.sb ?_ | refine J.qu ?_ | refine J.rm ?_ | refine J.sr ?_) | (refine J.o 2 ?_; refine J.cv _ hΓ ?_) | (refine J.o 6 ?_; refine J.bx (fun _ => ?_)) | (refine J.o 10 ?_; first | refine J.ev' hΓ ?_) | (refine J.o 11 ?_; first | refine J.ev' hΓ ?_)) | ((fail_if_success refine J.wt ?_); refine J.gc rfl rfl (fun hc => ?_) (fun hc => ?_) <;> ((try simp only [decide_eq_true_eq, decide_eq_false_iff_not, beq_iff_eq, beq_eq_false_iff_ne, bne_iff_ne, bne_eq_false_iff_eq, Bool.not_eq_true', Bool.not_eq_false', Bool.not_eq_true, Bool.not_eq_false] at hc) <;> first | (first | (exact absurd rfl hc) | (exfalso; omega) | (exact absurd (hc.symm.trans (by assumption : _ = false)) (by decide)) | (exact absurd (hc.symm.trans (by assumption : _ = true)) (by decide))) | skip))))
    | (first | refine JC.seq ?_ | refine JC.region ?_ | refine JC.ret ?_ | refine thenK.nn ?_)
    | fail
  all_goals first | (exfalso; omega) | exact ret1f rfl rfl rfl (fun w1 hw => ⟨rfl, hw.below⟩)
theorem holds05_any (s : Nat × Nat) (hs : okS s) (l : Int) (hl : -128 ≤ l ∧ l ≤ 128) (w : World) :
    Calls Try.prog 91 #[sv s, .int .i64 l] w fun e w' => e = .returned (.bool (if l < 0 then !hasB s (-l) else hasB s l)) ∧ Below w.heap.size w w' := by
  by_cases h : l < 0
  · rw [if_pos h]
    refine calls_of_JC (R := []) Try.func91 Try.ntmps91 rfl rfl (Holds.nil _) ?_
    repeat' first
      | (refine J.isJ ?_; first | (first | (refine J.o 0 ?_; refine J.ev' hΓ ?_) | refine J.nil ?_ | (refine J.o 4 ?_; first | refine J.e0 hΓ ?_) | (refine J.o 3 ?_; first | refine J.ev' hΓ ?_) | (refine J.o 1 ?_; first | refine J.ng ?_) | (refine J.o 6 ?_; refine J.bx (fun _ => ?_)) | (refine J.o 10 ?_; first | refine J.ev' hΓ ?_) | (refine J.o 11 ?_; first | refine J.ev' hΓ ?_)) | ((refine J.fc 134 ?_; refine J.call0 eHas05 rfl rfl (fun w hw => has05_any s hs (-l) w) ?_)))
      | (first | refine JC.seq ?_ | refine JC.region ?_ | refine JC.ret ?_ | refine JC.skip ?_ | refine thenK.nn ?_ | refine thenK.r ?_ | (refine JC.cond rfl (fun hc => ?_) (fun hc => ?_) <;> ((try simp only [decide_eq_true_eq, decide_eq_false_iff_not, beq_iff_eq, beq_eq_false_iff_ne, bne_iff_ne, bne_eq_false_iff_eq, Bool.not_eq_true', Bool.not_eq_false', Bool.not_eq_true, Bool.not_eq_false] at hc) <;> first | (first | (exact absurd rfl hc) | (exfalso; omega) | (exact absurd (hc.symm.trans (by assumption : _ = false)) (by decide)) | (exact absurd (hc.symm.trans (by assumption : _ = true)) (by decide))) | skip)))
      | fail
    all_goals first | (exfalso; omega) | exact ret1f rfl rfl rfl (fun w1 hw => ⟨rfl, hw.below⟩)
  · rw [if_neg h]
    refine calls_of_JC (R := []) Try.func91 Try.ntmps91 rfl rfl (Holds.nil _) ?_
    repeat' first
      | (refine J.isJ ?_; first | (first | (refine J.o 0 ?_; refine J.ev' hΓ ?_) | refine J.nil ?_ | (refine J.o 4 ?_; first | refine J.e0 hΓ ?_) | (refine J.o 3 ?_; first | refine J.ev' hΓ ?_) | (refine J.o 1 ?_; first | refine J.ng ?_) | (refine J.o 6 ?_; refine J.bx (fun _ => ?_)) | (refine J.o 10 ?_; first | refine J.ev' hΓ ?_) | (refine J.o 11 ?_; first | refine J.ev' hΓ ?_)) | ((refine J.fc 134 ?_; refine J.call0 eHas05 rfl rfl (fun w hw => has05_any s hs l w) ?_)))
      | (first | refine JC.seq ?_ | refine JC.region ?_ | refine JC.ret ?_ | refine JC.skip ?_ | refine thenK.nn ?_ | refine thenK.r ?_ | (refine JC.cond rfl (fun hc => ?_) (fun hc => ?_) <;> ((try simp only [decide_eq_true_eq, decide_eq_false_iff_not, beq_iff_eq, beq_eq_false_iff_ne, bne_iff_ne, bne_eq_false_iff_eq, Bool.not_eq_true', Bool.not_eq_false', Bool.not_eq_true, Bool.not_eq_false] at hc) <;> first | (first | (exact absurd rfl hc) | (exfalso; omega) | (exact absurd (hc.symm.trans (by assumption : _ = false)) (by decide)) | (exact absurd (hc.symm.trans (by assumption : _ = true)) (by decide))) | skip)))
      | fail
    all_goals first | (exfalso; omega) | exact ret1f rfl rfl rfl (fun w1 hw => ⟨rfl, hw.below⟩)
theorem assignm_any (s : Nat × Nat) (hs : okS s) (N : Nat) (hN : N ≤ 128) (hsub : ∀ u, hasB s u = true → u ≤ N) (w : World) :
    Calls Try.prog 90 #[sv s, .int .i64 (N : Int)] w fun e w' => e = .returned (.bool true) ∧ Below w.heap.size w w' := by
  refine calls_of_JC (R := []) Try.func90 Try.ntmps90 rfl rfl (Holds.nil _) ?_
  repeat' first
    | (refine J.isJ ?_; (first | (first | (refine J.o 0 ?_; refine J.ev' hΓ ?_) | refine J.nil ?_ | (refine J.o 4 ?_; first | refine J.e0 hΓ ?_) | (refine J.o 3 ?_; first | refine J.ev' hΓ ?_) | (refine J.o 1 ?_; first | refine J.ad ?_) | (refine J.o 6 ?_; refine J.bx (fun _ => ?_)) | (refine J.o 10 ?_; first | refine J.ev' hΓ ?_) | (refine J.o 11 ?_; first | refine J.ev' hΓ ?_))))
    | (first | refine JC.seq ?_ | refine JC.region ?_ | refine JC.block ?_ | refine JC.ret ?_ | refine JC.exit ?_ | refine JC.skip ?_ | refine thenK.nn ?_ | refine thenK.x ?_ | refine blockK.nn ?_ | refine blockK.hit rfl ?_ | refine JC.condF rfl ?_ | (refine JC.cond rfl (fun hc => ?_) (fun hc => ?_) <;> ((try simp only [decide_eq_true_eq, decide_eq_false_iff_not, beq_iff_eq, beq_eq_false_iff_ne, bne_iff_ne, bne_eq_false_iff_eq, Bool.not_eq_true', Bool.not_eq_false', Bool.not_eq_true, Bool.not_eq_false] at hc) <;> first | (first | (exact absurd rfl hc) | (exfalso; omega) | (exact absurd (hc.symm.trans (by assumption : _ = false)) (by decide)) | (exact absurd (hc.symm.trans (by assumption : _ = true)) (by decide))) | skip)) | refine loopK.x ?_)
    | fail
  all_goals first | (exfalso; omega) | skip
  refine JC.loop (fun i => i == 4 || Nat.ble 5 i) (fun m g L => ∃ (k : Nat), g 5 = .int .i64 ((N : Int) + 1 + k) ∧ N + k + m = 128 ∧ L = _) (128 - N) ⟨0, rfl, by omega, rfl⟩ ?_
  rintro m g L ⟨k, e5, hkm, rfl⟩
  refine JC.pin 5 e5 ?_
  clear e5
  have hb : hasB s ((N : Int) + 1 + k) = false := by
    cases h : hasB s ((N : Int) + 1 + k) with
    | false => rfl
    | true => have := hsub _ h; omega
  have cH := fun w => has05_any s hs ((N : Int) + 1 + k) w
  rw [hb] at cH
  rcases Nat.lt_or_ge (N + k) 128 with hk | hk
  · 
    repeat' first
      | (refine J.isJ ?_; first | (first | (refine J.o 0 ?_; refine J.ev' hΓ ?_) | refine J.nil ?_ | (refine J.o 4 ?_; first | refine J.e0 hΓ ?_) | (refine J.o 3 ?_; first | refine J.ev' hΓ ?_) | (refine J.o 1 ?_; first | refine J.ad ?_) | (refine J.o 6 ?_; refine J.bx (fun _ => ?_)) | (refine J.o 10 ?_; first | refine J.ev' hΓ ?_) | (refine J.o 11 ?_; first | refine J.ev' hΓ ?_)) | ((refine J.fc 134 ?_; refine J.call0 eHas05 rfl rfl (fun w hw => cH w) ?_)))
      | (first | refine JC.seq ?_ | refine JC.region ?_ | refine JC.block ?_ | refine JC.ret ?_ | refine JC.exit ?_ | refine JC.skip ?_ | refine thenK.nn ?_ | refine thenK.x ?_ | refine blockK.nn ?_ | refine blockK.hit rfl ?_ | refine JC.condF rfl ?_ | (refine JC.cond rfl (fun hc => ?_) (fun hc => ?_) <;> ((try simp only [decide_eq_true_eq, decide_eq_false_iff_not, beq_iff_eq, beq_eq_false_iff_ne, bne_iff_ne, bne_eq_false_iff_eq, Bool.not_eq_true', Bool.not_eq_false', Bool.not_eq_true, Bool.not_eq_false] at hc) <;> first | (first | (exact absurd rfl hc) | (exfalso; omega) | (exact absurd (hc.symm.trans (by assumption : _ = false)) (by decide)) | (exact absurd (hc.symm.trans (by assumption : _ = true)) (by decide))) | skip)) | refine loopK.x ?_)
      | fail
    all_goals first | (exfalso; omega) | skip
    all_goals refine loopK.nn (m - 1) (by omega) (by repeat (first | refine Ag.upd rfl ?_ | exact Ag.hv)) ⟨k + 1, ?_, by omega, rfl⟩
    all_goals (show Value.int .i64 _ = _; congr 1)
  · 
    repeat' first
      | (refine J.isJ ?_; (first | (first | (refine J.o 0 ?_; refine J.ev' hΓ ?_) | refine J.nil ?_ | (refine J.o 4 ?_; first | refine J.e0 hΓ ?_) | (refine J.o 3 ?_; first | refine J.ev' hΓ ?_) | (refine J.o 1 ?_; first | refine J.ad ?_) | (refine J.o 6 ?_; refine J.bx (fun _ => ?_)) | (refine J.o 10 ?_; first | refine J.ev' hΓ ?_) | (refine J.o 11 ?_; first | refine J.ev' hΓ ?_))))
      | (first | refine JC.seq ?_ | refine JC.region ?_ | refine JC.block ?_ | refine JC.ret ?_ | refine JC.exit ?_ | refine JC.skip ?_ | refine thenK.nn ?_ | refine thenK.x ?_ | refine blockK.nn ?_ | refine blockK.hit rfl ?_ | refine JC.condF rfl ?_ | (refine JC.cond rfl (fun hc => ?_) (fun hc => ?_) <;> ((try simp only [decide_eq_true_eq, decide_eq_false_iff_not, beq_iff_eq, beq_eq_false_iff_ne, bne_iff_ne, bne_eq_false_iff_eq, Bool.not_eq_true', Bool.not_eq_false', Bool.not_eq_true, Bool.not_eq_false] at hc) <;> first | (first | (exact absurd rfl hc) | (exfalso; omega) | (exact absurd (hc.symm.trans (by assumption : _ = false)) (by decide)) | (exact absurd (hc.symm.trans (by assumption : _ = true)) (by decide))) | skip)) | refine loopK.x ?_)
      | fail
    all_goals first | (exfalso; omega) | exact ret1f rfl rfl rfl (fun w1 hw => ⟨rfl, hw.below⟩)
section
variable {P : Program} {n : Nat} {w0 : World} {R : Heap} {l0 : List Oper} {K : Exit → Fr → List Heap → Prop} {f : Fr} {L : List Heap} {rest : List (Nat × Oper)} {κ : Nat}
variable {d : Nat} {ty : TypeId} {pos : String} {aft : Array Edge} {g : Option (Nat × Bool)} {t u : TypeId} {x y : Operand}
theorem J.s2 {yk : IntKind} {j : Int} (k : J P n w0 R l0 K rest (upd f d (.int .i64 ((2 ^ j.toNat : Nat) : Int))) L) (hg : wantB n f l0 ⟨some d, .binOp .shl t x y u, ty, pos, aft, g⟩ = true := by exact rfl) (hx : Cx.ev n f x = .int .i64 1 := by exact rfl) (hy : Cx.ev n f y = .int yk j := by exact rfl) (h0 : 0 ≤ j := by omega) (h1 : j < 63 := by omega) : J P n w0 R l0 K ((κ, ⟨some d, .binOp .shl t x y u, ty, pos, aft, g⟩) :: rest) f L :=
  J.p hg (bin_run hx hy (fun w => by
    have hj : j.toNat < 63 := by omega
    have hlt : 2 ^ j.toNat < 2 ^ 63 := Nat.pow_lt_pow_right (by omega) hj
    have hm : min j.toNat 64 = j.toNat := by omega
    have hn : ¬ j < 0 := by omega
    have hcast : ((2 : Int) ^ j.toNat) = ((2 ^ j.toNat : Nat) : Int) := by rw [Int.natCast_pow]; rfl
    have hw : IntKind.i64.wrap ((2 : Int) ^ j.toNat) = ((2 ^ j.toNat : Nat) : Int) := by
      rw [hcast, IntWalk.i64_in _ ⟨by have := Int.natCast_nonneg (2 ^ j.toNat); omega, by have := Int.ofNat_lt.mpr hlt; have e : ((2 ^ 63 : Nat) : Int) = 9223372036854775808 := rfl; omega⟩]
    simp only [binOp, Op.shift, if_neg hn, IntKind.bits, hm, Int.one_mul, hw]
    rfl)) k
end
end Go.Proofs.Ytbhgahjeocnfcaa
namespace Go.Proofs.Ytbhgahjeocnfcaa
open Go Go.Cx Go.RowKit
set_option linter.unusedVariables false
set_option linter.unusedSimpArgs false
set_option maxHeartbeats 4000000
attribute [local irreducible] J JC thenK blockK loopK drawK retK QW Qt pel List.set Calls
open Go.Maps Go.Lib
set_option maxRecDepth 8000
attribute [local irreducible] JE Br eK0 eK3 brK pc
theorem eEval05 : Entr Try.prog 41 := Entr.of Try.func41 rfl rfl
def litT (b : Int → Bool) (l : Int) : Bool := if l < 0 then !b (-l) else b l
def evT (b : Int → Bool) (T : List (List Int)) : Bool := T.all fun c => c.any (litT b)
def okTh (N : Nat) (T : List (List Int)) : Prop := N ≤ 128 ∧ T.length ≤ 4096 ∧ ∀ c ∈ T, c.length ≤ 128 ∧ ∀ x ∈ c, x ≠ 0 ∧ -(N : Int) ≤ x ∧ x ≤ N
theorem okTh_iff {N : Nat} {T : List (List Int)} : thE (N : Int) T = 0 ↔ okTh N T := by
  rw [thE_ok]
  unfold okTh
  constructor
  · rintro ⟨h1, h2, h3⟩; exact ⟨by omega, h2, h3⟩
  · rintro ⟨h1, h2, h3⟩; exact ⟨⟨by omega, by omega⟩, h2, h3⟩
set_option maxHeartbeats 8000000 in
theorem eval05_any (N : Nat) (a : Option Addr) (cap : Nat) (vs : List HV) (s : Nat × Nat) (hs : okS s) (h : Heap) (hr : LLR a vs h) (hok : okTh N (vs.map (·.l))) (hsub : ∀ u, hasB s u = true → u ≤ N) (w : World) (hw : Holds h w) :
    Calls Try.prog 41 #[.agg ⟨[.int .i64 (N : Int), .slice a vs.length cap]⟩, sv s] w fun e w' => e = .returned (.bool (evT (hasB s) (vs.map (·.l)))) ∧ Below w.heap.size w w' := by
  have q0 : ∀ L, RdH h L h := fun L => RdH.old fun _ hh => hh
  have cC := fun w hw => check05_any (N : Int) a cap vs h hr w hw
  rw [okTh_iff.2 hok] at cC
  obtain ⟨hN, hTl, hv⟩ := hok
  have cA := fun w => assignm_any s hs N hN hsub w
  have hlen : (vs.map (·.l)).length = vs.length := List.length_map _
  obtain ⟨ho, hi⟩ := hr
  refine calls_of_JC (R := h) Try.func41 Try.ntmps41 rfl rfl (hw) ?_
  repeat' first
    | (refine J.isJ ?_; first | (first | (refine J.o 6 ?_; first | refine J.bx (t := 24) (fun b2 => ?_) | refine J.bx (t := 53) (fun b3 => ?_)) | (refine J.fc 52 ?_; refine J.call0 eCheck05 rfl rfl (fun w hw => cC w (hw.rdH (q0 _))) ?_) | (refine J.fc 90 ?_; refine J.call0 eAssignm rfl rfl (fun w hw => cA w) ?_) | (refine J.o 4 ?_; first | refine J.e0 hΓ ?_ | refine J.e1 hΓ ?_)) | (first | (refine J.o 0 ?_; refine J.ev' hΓ ?_) | refine J.nil ?_ | refine J.kd ?_ | (refine J.o 4 ?_; first | refine J.lT default hΓ ?_) | (refine J.o 3 ?_; first | refine J.iJ hΓ ?_ | refine J.ev' hΓ ?_) | (refine J.o 1 ?_; first | refine J.ad ?_) | (refine J.o 6 ?_; refine J.bx (fun _ => ?_)) | (refine J.o 10 ?_; refine J.ev' hΓ ?_) | (refine J.o 11 ?_; refine J.ev' hΓ ?_)))
    | (first | refine JC.seq ?_ | refine JC.region ?_ | refine JC.block ?_ | refine JC.ret ?_ | refine JC.exit ?_ | refine JC.skip ?_ | refine thenK.nn ?_ | refine thenK.r ?_ | refine thenK.x ?_ | refine blockK.nn ?_ | refine blockK.r ?_ | refine blockK.hit rfl ?_ | refine JC.condT rfl ?_ | refine JC.condF rfl ?_ | (refine JC.cond rfl (fun hc => ?_) (fun hc => ?_) <;> ((try simp only [decide_eq_true_eq, decide_eq_false_iff_not, beq_iff_eq, beq_eq_false_iff_ne, bne_iff_ne, bne_eq_false_iff_eq, Bool.not_eq_true', Bool.not_eq_false', Bool.not_eq_true, Bool.not_eq_false] at hc) <;> first | (first | (exact absurd rfl hc) | (exfalso; omega) | (exact absurd (hc.symm.trans (by assumption : _ = false)) (by decide)) | (exact absurd (hc.symm.trans (by assumption : _ = true)) (by decide))) | skip)) | refine drawK.nn ?_ | refine loopK.r ?_ | refine loopK.x ?_)
    | (fail)
    | fail
  all_goals first | (exfalso; omega) | skip
  refine JC.loop (fun i => i == 4 || i == 5 || i == 6 || i == 7 || Nat.ble 18 i) (fun m g L => ∃ (k : Nat), g 5 = .int .i64 (k : Int) ∧ k + m = vs.length ∧ (((vs.map (·.l)).take k).all fun c => c.any (litT (hasB s))) = true ∧ L = _) vs.length ⟨0, rfl, by omega, rfl, rfl⟩ ?_
  rintro m g L ⟨k, e5, hkm, hall, rfl⟩
  refine JC.pin 5 e5 ?_
  clear e5
  rcases Nat.lt_or_ge k vs.length with hk | hk
  case inr =>
    rw [List.take_of_length_le (by rw [List.length_map]; exact hk)] at hall
    repeat' first
      | (refine J.isJ ?_; first | ((refine J.o 4 ?_; first | refine J.e0 hΓ ?_ | refine J.e1 hΓ ?_)) | (first | (refine J.o 0 ?_; refine J.ev' hΓ ?_) | refine J.nil ?_ | refine J.kd ?_ | (refine J.o 4 ?_; first | refine J.lT default hΓ ?_) | (refine J.o 3 ?_; first | refine J.iJ hΓ ?_ | refine J.ev' hΓ ?_) | (refine J.o 1 ?_; first | refine J.ad ?_) | (refine J.o 6 ?_; refine J.bx (fun _ => ?_)) | (refine J.o 10 ?_; refine J.ev' hΓ ?_) | (refine J.o 11 ?_; refine J.ev' hΓ ?_)))
      | (first | refine JC.seq ?_ | refine JC.region ?_ | refine JC.block ?_ | refine JC.ret ?_ | refine JC.exit ?_ | refine JC.skip ?_ | refine thenK.nn ?_ | refine thenK.r ?_ | refine thenK.x ?_ | refine blockK.nn ?_ | refine blockK.r ?_ | refine blockK.hit rfl ?_ | refine JC.condT rfl ?_ | refine JC.condF rfl ?_ | (refine JC.cond rfl (fun hc => ?_) (fun hc => ?_) <;> ((try simp only [decide_eq_true_eq, decide_eq_false_iff_not, beq_iff_eq, beq_eq_false_iff_ne, bne_iff_ne, bne_eq_false_iff_eq, Bool.not_eq_true', Bool.not_eq_false', Bool.not_eq_true, Bool.not_eq_false] at hc) <;> first | (first | (exact absurd rfl hc) | (exfalso; omega) | (exact absurd (hc.symm.trans (by assumption : _ = false)) (by decide)) | (exact absurd (hc.symm.trans (by assumption : _ = true)) (by decide))) | skip)) | refine drawK.nn ?_ | refine loopK.r ?_ | refine loopK.x ?_)
      | (fail)
      | fail
    all_goals first | (exfalso; omega) | exact ret1f rfl rfl rfl (fun w1 hw => ⟨by rw [show evT (hasB s) (vs.map (·.l)) = true from hall], hw.below⟩)
  have hm := mem_g vs k hk
  have hik := hi _ hm
  have hml : (vs.getD k default).l ∈ vs.map (·.l) := List.mem_map_of_mem (f := (·.l)) hm
  have hck := hv _ hml
  have hcn := hck.1
  repeat' first
    | (refine J.isJ ?_; first | (first | (refine J.o 3 ?_; refine J.iJ hΓ ?_ (hs := ho)) | (refine J.o 4 ?_; first | refine J.lT default hΓ ?_ (hs := ho) (hr := q0 _) | refine J.e0 hΓ ?_ | refine J.e1 hΓ ?_)) | (first | (refine J.o 0 ?_; refine J.ev' hΓ ?_) | refine J.nil ?_ | refine J.kd ?_ | (refine J.o 4 ?_; first | refine J.lT default hΓ ?_) | (refine J.o 3 ?_; first | refine J.iJ hΓ ?_ | refine J.ev' hΓ ?_) | (refine J.o 1 ?_; first | refine J.ad ?_) | (refine J.o 6 ?_; refine J.bx (fun _ => ?_)) | (refine J.o 10 ?_; refine J.ev' hΓ ?_) | (refine J.o 11 ?_; refine J.ev' hΓ ?_)))
    | (first | refine JC.seq ?_ | refine JC.region ?_ | refine JC.block ?_ | refine JC.ret ?_ | refine JC.exit ?_ | refine JC.skip ?_ | refine thenK.nn ?_ | refine thenK.r ?_ | refine thenK.x ?_ | refine blockK.nn ?_ | refine blockK.r ?_ | refine blockK.hit rfl ?_ | refine JC.condT rfl ?_ | refine JC.condF rfl ?_ | (refine JC.cond rfl (fun hc => ?_) (fun hc => ?_) <;> ((try simp only [decide_eq_true_eq, decide_eq_false_iff_not, beq_iff_eq, beq_eq_false_iff_ne, bne_iff_ne, bne_eq_false_iff_eq, Bool.not_eq_true', Bool.not_eq_false', Bool.not_eq_true, Bool.not_eq_false] at hc) <;> first | (first | (exact absurd rfl hc) | (exfalso; omega) | (exact absurd (hc.symm.trans (by assumption : _ = false)) (by decide)) | (exact absurd (hc.symm.trans (by assumption : _ = true)) (by decide))) | skip)) | refine drawK.nn ?_ | refine loopK.r ?_ | refine loopK.x ?_)
    | (fail)
    | fail
  all_goals first | (exfalso; omega) | skip
  refine JC.loop (fun i => i == 6 || i == 7 || (Nat.ble 25 i && Nat.ble i 47)) (fun m g L => ∃ (j : Nat), g 7 = .int .i64 (j : Int) ∧ g 6 = .bool (((vs.getD k default).l.take j).any (litT (hasB s))) ∧ j + m = (vs.getD k default).l.length ∧ L = _) (vs.getD k default).l.length ⟨0, rfl, rfl, by omega, rfl⟩ ?_
  rintro m3 g3 L3 ⟨j, e7, e6, hjm, rfl⟩
  refine JC.pin 7 e7 (JC.pin 6 e6 ?_)
  clear e7 e6
  rcases Nat.lt_or_ge j (vs.getD k default).l.length with hj | hj
  case inl =>
    have hvj := hck.2 _ (mem_g (vs.getD k default).l j hj)
    have cH := fun w => holds05_any s hs ((vs.getD k default).l.getD j default) (by omega) w
    have hsn : ((vs.getD k default).l.take (j + 1)).any (litT (hasB s)) = (Bool.or (((vs.getD k default).l.take j).any (litT (hasB s))) (litT (hasB s) ((vs.getD k default).l.getD j default))) := by
      rw [take_g _ j hj, List.any_append, List.any_cons, List.any_nil, Bool.or_false]
    rw [show (if (vs.getD k default).l.getD j default < 0 then !hasB s (-(vs.getD k default).l.getD j default) else hasB s ((vs.getD k default).l.getD j default)) = litT (hasB s) ((vs.getD k default).l.getD j default) from rfl] at cH
    generalize ((vs.getD k default).l.take j).any (litT (hasB s)) = is at *
    cases is with
    | true =>
      repeat' first
        | (refine J.isJ ?_; first | (first | (refine J.o 3 ?_; first | refine J.iJ hΓ ?_ (hs := ho) | refine J.iJ hΓ ?_ (hs := hik)) | (refine J.o 4 ?_; first | refine J.lT default hΓ ?_ (hs := hik) (hr := q0 _) | refine J.lT default hΓ ?_ (hs := ho) (hr := q0 _) | refine J.e0 hΓ ?_ | refine J.e1 hΓ ?_)) | (first | (refine J.o 0 ?_; refine J.ev' hΓ ?_) | refine J.nil ?_ | refine J.kd ?_ | (refine J.o 4 ?_; first | refine J.lT default hΓ ?_) | (refine J.o 3 ?_; first | refine J.iJ hΓ ?_ | refine J.ev' hΓ ?_) | (refine J.o 1 ?_; first | refine J.ad ?_) | (refine J.o 6 ?_; refine J.bx (fun _ => ?_)) | (refine J.o 10 ?_; refine J.ev' hΓ ?_) | (refine J.o 11 ?_; refine J.ev' hΓ ?_)))
        | (first | refine JC.seq ?_ | refine JC.region ?_ | refine JC.block ?_ | refine JC.ret ?_ | refine JC.exit ?_ | refine JC.skip ?_ | refine thenK.nn ?_ | refine thenK.r ?_ | refine thenK.x ?_ | refine blockK.nn ?_ | refine blockK.r ?_ | refine blockK.hit rfl ?_ | refine JC.condT rfl ?_ | refine JC.condF rfl ?_ | (refine JC.cond rfl (fun hc => ?_) (fun hc => ?_) <;> ((try simp only [decide_eq_true_eq, decide_eq_false_iff_not, beq_iff_eq, beq_eq_false_iff_ne, bne_iff_ne, bne_eq_false_iff_eq, Bool.not_eq_true', Bool.not_eq_false', Bool.not_eq_true, Bool.not_eq_false] at hc) <;> first | (first | (exact absurd rfl hc) | (exfalso; omega) | (exact absurd (hc.symm.trans (by assumption : _ = false)) (by decide)) | (exact absurd (hc.symm.trans (by assumption : _ = true)) (by decide))) | skip)) | refine drawK.nn ?_ | refine loopK.r ?_ | refine loopK.x ?_)
        | ((refine JC.drawW [] [] (by kernel_rfl) (by kernel_rfl) ?_))
        | fail
      all_goals first | (exfalso; omega) | skip
      all_goals refine loopK.nn (m3 - 1) (by omega) (by repeat (first | refine Ag.upd rfl ?_ | exact Ag.hv)) ⟨j + 1, ?_, ?_, by omega, rfl⟩
      · show Value.int .i64 _ = _; congr 1
      · rw [hsn]; rfl
    | false =>
      repeat' first
        | (refine J.isJ ?_; first | (first | (refine J.o 3 ?_; first | refine J.iJ hΓ ?_ (hs := ho) | refine J.iJ hΓ ?_ (hs := hik)) | (refine J.o 4 ?_; first | refine J.lT default hΓ ?_ (hs := hik) (hr := q0 _) | refine J.lT default hΓ ?_ (hs := ho) (hr := q0 _) | refine J.e0 hΓ ?_ | refine J.e1 hΓ ?_) | (refine J.fc 91 ?_; refine J.call0 eHolds05 rfl rfl (fun w hw => cH w) ?_)) | (first | (refine J.o 0 ?_; refine J.ev' hΓ ?_) | refine J.nil ?_ | refine J.kd ?_ | (refine J.o 4 ?_; first | refine J.lT default hΓ ?_) | (refine J.o 3 ?_; first | refine J.iJ hΓ ?_ | refine J.ev' hΓ ?_) | (refine J.o 1 ?_; first | refine J.ad ?_) | (refine J.o 6 ?_; refine J.bx (fun _ => ?_)) | (refine J.o 10 ?_; refine J.ev' hΓ ?_) | (refine J.o 11 ?_; refine J.ev' hΓ ?_)))
        | (first | refine JC.seq ?_ | refine JC.region ?_ | refine JC.block ?_ | refine JC.ret ?_ | refine JC.exit ?_ | refine JC.skip ?_ | refine thenK.nn ?_ | refine thenK.r ?_ | refine thenK.x ?_ | refine blockK.nn ?_ | refine blockK.r ?_ | refine blockK.hit rfl ?_ | refine JC.condT rfl ?_ | refine JC.condF rfl ?_ | (refine JC.cond rfl (fun hc => ?_) (fun hc => ?_) <;> ((try simp only [decide_eq_true_eq, decide_eq_false_iff_not, beq_iff_eq, beq_eq_false_iff_ne, bne_iff_ne, bne_eq_false_iff_eq, Bool.not_eq_true', Bool.not_eq_false', Bool.not_eq_true, Bool.not_eq_false] at hc) <;> first | (first | (exact absurd rfl hc) | (exfalso; omega) | (exact absurd (hc.symm.trans (by assumption : _ = false)) (by decide)) | (exact absurd (hc.symm.trans (by assumption : _ = true)) (by decide))) | skip)) | refine drawK.nn ?_ | refine loopK.r ?_ | refine loopK.x ?_)
        | ((refine JC.drawW [] [] (by kernel_rfl) (by kernel_rfl) ?_))
        | fail
      all_goals first | (exfalso; omega) | skip
      all_goals refine loopK.nn (m3 - 1) (by omega) (by repeat (first | refine Ag.upd rfl ?_ | exact Ag.hv)) ⟨j + 1, ?_, ?_, by omega, rfl⟩
      · show Value.int .i64 _ = _; congr 1
      · rw [hsn]; rfl
  rw [List.take_of_length_le hj]
  cases hb : (vs.getD k default).l.any (litT (hasB s)) with
  | true =>
    have hall2 : (((vs.map (·.l)).take (k + 1)).all fun c => c.any (litT (hasB s))) = true := by
      rw [← List.map_take, take_g vs k hk, List.map_append, List.all_append, List.map_take, hall]
      simp only [List.map_cons, List.map_nil, List.all_cons, List.all_nil, hb, Bool.and_self]
    repeat' first
      | (refine J.isJ ?_; first | (first | (refine J.o 3 ?_; first | refine J.iJ hΓ ?_ (hs := ho)) | (refine J.o 4 ?_; first | refine J.lT default hΓ ?_ (hs := ho) (hr := q0 _) | refine J.e0 hΓ ?_ | refine J.e1 hΓ ?_)) | (first | (refine J.o 0 ?_; refine J.ev' hΓ ?_) | refine J.nil ?_ | refine J.kd ?_ | (refine J.o 4 ?_; first | refine J.lT default hΓ ?_) | (refine J.o 3 ?_; first | refine J.iJ hΓ ?_ | refine J.ev' hΓ ?_) | (refine J.o 1 ?_; first | refine J.ad ?_) | (refine J.o 6 ?_; refine J.bx (fun _ => ?_)) | (refine J.o 10 ?_; refine J.ev' hΓ ?_) | (refine J.o 11 ?_; refine J.ev' hΓ ?_)))
      | (first | refine JC.seq ?_ | refine JC.region ?_ | refine JC.block ?_ | refine JC.ret ?_ | refine JC.exit ?_ | refine JC.skip ?_ | refine thenK.nn ?_ | refine thenK.r ?_ | refine thenK.x ?_ | refine blockK.nn ?_ | refine blockK.r ?_ | refine blockK.hit rfl ?_ | refine JC.condT rfl ?_ | refine JC.condF rfl ?_ | (refine JC.cond rfl (fun hc => ?_) (fun hc => ?_) <;> ((try simp only [decide_eq_true_eq, decide_eq_false_iff_not, beq_iff_eq, beq_eq_false_iff_ne, bne_iff_ne, bne_eq_false_iff_eq, Bool.not_eq_true', Bool.not_eq_false', Bool.not_eq_true, Bool.not_eq_false] at hc) <;> first | (first | (exact absurd rfl hc) | (exfalso; omega) | (exact absurd (hc.symm.trans (by assumption : _ = false)) (by decide)) | (exact absurd (hc.symm.trans (by assumption : _ = true)) (by decide))) | skip)) | refine drawK.nn ?_ | refine loopK.r ?_ | refine loopK.x ?_)
      | ((refine JC.drawW [] [] (by kernel_rfl) (by kernel_rfl) ?_))
      | fail
    all_goals first | (exfalso; omega) | skip
    all_goals refine loopK.nn (m - 1) (by omega) (by repeat (first | refine Ag.upd rfl ?_ | exact Ag.hv | refine Ag.hv2 (fun i hi => by simp at hi ⊢; omega) ?_)) ⟨k + 1, ?_, by omega, hall2, rfl⟩
    all_goals (show Value.int .i64 _ = _; congr 1)
  | false =>
    have hno : evT (hasB s) (vs.map (·.l)) = false := by
      unfold evT
      rw [List.all_eq_false]
      exact ⟨_, hml, by rw [hb]; decide⟩
    repeat' first
      | (refine J.isJ ?_; first | (first | (refine J.o 3 ?_; first | refine J.iJ hΓ ?_ (hs := ho)) | (refine J.o 4 ?_; first | refine J.lT default hΓ ?_ (hs := ho) (hr := q0 _) | refine J.e0 hΓ ?_ | refine J.e1 hΓ ?_)) | (first | (refine J.o 0 ?_; refine J.ev' hΓ ?_) | refine J.nil ?_ | refine J.kd ?_ | (refine J.o 4 ?_; first | refine J.lT default hΓ ?_) | (refine J.o 3 ?_; first | refine J.iJ hΓ ?_ | refine J.ev' hΓ ?_) | (refine J.o 1 ?_; first | refine J.ad ?_) | (refine J.o 6 ?_; refine J.bx (fun _ => ?_)) | (refine J.o 10 ?_; refine J.ev' hΓ ?_) | (refine J.o 11 ?_; refine J.ev' hΓ ?_)))
      | (first | refine JC.seq ?_ | refine JC.region ?_ | refine JC.block ?_ | refine JC.ret ?_ | refine JC.exit ?_ | refine JC.skip ?_ | refine thenK.nn ?_ | refine thenK.r ?_ | refine thenK.x ?_ | refine blockK.nn ?_ | refine blockK.r ?_ | refine blockK.hit rfl ?_ | refine JC.condT rfl ?_ | refine JC.condF rfl ?_ | (refine JC.cond rfl (fun hc => ?_) (fun hc => ?_) <;> ((try simp only [decide_eq_true_eq, decide_eq_false_iff_not, beq_iff_eq, beq_eq_false_iff_ne, bne_iff_ne, bne_eq_false_iff_eq, Bool.not_eq_true', Bool.not_eq_false', Bool.not_eq_true, Bool.not_eq_false] at hc) <;> first | (first | (exact absurd rfl hc) | (exfalso; omega) | (exact absurd (hc.symm.trans (by assumption : _ = false)) (by decide)) | (exact absurd (hc.symm.trans (by assumption : _ = true)) (by decide))) | skip)) | refine drawK.nn ?_ | refine loopK.r ?_ | refine loopK.x ?_)
      | ((refine JC.drawW [] [] (by kernel_rfl) (by kernel_rfl) ?_))
      | fail
    all_goals first | (exfalso; omega) | exact ret1f rfl rfl rfl (fun w1 hw => ⟨by rw [hno], hw.below⟩)
end Go.Proofs.Ytbhgahjeocnfcaa
namespace Go.Proofs.Ytbhgahjeocnfcaa
open Go Go.Cx Go.RowKit
set_option linter.unusedVariables false
set_option linter.unusedSimpArgs false
set_option maxHeartbeats 4000000
attribute [local irreducible] J JC thenK blockK loopK drawK retK QW Qt pel List.set Calls
open Go.Maps Go.Lib
set_option maxRecDepth 8000
attribute [local irreducible] JE Br eK0 eK3 brK pc
theorem ePairs : Entr Try.prog 49 := Entr.of Try.func49 rfl rfl
def pairP (k : Nat) : Nat → List (List Int)
  | 0 => []
  | i + 1 => pairP k i ++ [[-((i : Int) + 1), -((i : Int) + 1) - k]]
def ThV (N : Nat) (T : List (List Int)) (v : Value) (h : Heap) : Prop := ∃ a c vs, v = .agg ⟨[.int .i64 (N : Int), .slice a vs.length c]⟩ ∧ vs.map (·.l) = T ∧ LLR a vs h
def cellT (b k : Nat) (a : Option Addr) (n c : Nat) : Heap := [(b, .cells ⟨[.int .i64 ((2 * k : Nat) : Int), .slice a n c]⟩ 24 (0, 0))]
theorem pairs_any (k : Nat) (hk : k ≤ 100) (w : World) : Calls Try.prog 49 #[.int .i64 (k : Int)] w (Gives (ThV (2 * k) (pairP k k)) w) := by
  refine calls_of_JC (R := []) Try.func49 Try.ntmps49 rfl rfl (Holds.nil _) ?_
  refine JC.seq ?_
  refine JC.region ?_
  refine J.isJ ?_
  refine J.o 7 ?_
  refine J.al hΓ (fun b2 => ?_)
  repeat' first
    | (refine J.isJ ?_; first | (first | (refine J.o 1 ?_; refine J.gmul (a := 2) (b := k) ?_ (hw := wI64 (by omega))) | (refine J.o 7 ?_; refine J.al hΓ (fun b3 => ?_))) | (first | (refine J.o 0 ?_; refine J.ev' hΓ ?_) | refine J.nil ?_ | (refine J.o 4 ?_; first | refine J.lR hΓ ?_) | (refine J.o 3 ?_; first | refine J.ev' hΓ ?_) | (refine J.o 1 ?_; first | refine J.ad ?_ | refine J.sb ?_ | refine J.ng ?_) | (refine J.o 5 ?_; first | refine J.t0 hΓ ?_ | refine J.t2 hΓ ?_) | (refine J.o 7 ?_; refine J.al hΓ (fun _ => ?_)) | (refine J.o 8 ?_; refine J.bd hΓ ?_) | (refine J.o 9 ?_; refine J.bl hΓ (fun _ => ?_)) | (refine J.o 10 ?_; refine J.ev' hΓ ?_) | (refine J.o 11 ?_; refine J.ev' hΓ ?_)))
    | (first | refine JC.seq ?_ | refine JC.region ?_ | refine JC.block ?_ | refine JC.ret ?_ | refine JC.exit ?_ | refine JC.skip ?_ | refine thenK.nn ?_ | refine thenK.x ?_ | refine blockK.nn ?_ | refine blockK.hit rfl ?_ | (refine JC.cond rfl (fun hc => ?_) (fun hc => ?_) <;> ((try simp only [decide_eq_true_eq, decide_eq_false_iff_not, beq_iff_eq, beq_eq_false_iff_ne, bne_iff_ne, bne_eq_false_iff_eq, Bool.not_eq_true', Bool.not_eq_false', Bool.not_eq_true, Bool.not_eq_false] at hc) <;> first | (first | (exact absurd rfl hc) | (exfalso; omega) | (exact absurd (hc.symm.trans (by assumption : _ = false)) (by decide)) | (exact absurd (hc.symm.trans (by assumption : _ = true)) (by decide))) | skip)) | refine loopK.x ?_)
    | (fail)
    | fail
  all_goals first | (exfalso; omega) | skip
  refine JC.nilF (JC.nilF (JC.perm (bring_perm 2 _) ?_))
  refine JC.loopG (fun i => i == 4 || Nat.ble 8 i) (fun m g L => ∃ (i : Nat) (vs : List HV) (aO : Option Addr) (cO : Nat) (hO hI : Heap), g 4 = .int .i64 ((i + 1 : Nat) : Int) ∧ i + m = k ∧ vs.length = i ∧ vs.map (·.l) = pairP k i ∧ OwT encHV 1 28 aO cO vs hO ∧ (∀ v ∈ vs, SlT encI 1 v.a v.l hI) ∧ L = [cellT b3 k aO vs.length cO, hO, hI, [(b2, .cells ⟨[.int .i64 0, .slice none 0 0]⟩ 24 (0, 0))]]) k ⟨0, [], none, 0, [], [], rfl, by omega, rfl, rfl, OwT.nil (fun _ => rfl), fun v hv => (by cases hv), rfl⟩ ?_
  rintro m g L ⟨i, vs, aO, cO, hO, hI, e4, him, hvl, hvs, oO, sI, rfl⟩
  refine JC.pin 4 e4 ?_
  unfold cellT
  rcases Nat.lt_or_ge i k with hik | hik
  ·
    repeat' first
      | (refine J.isJ ?_; first | (first | (refine J.o 4 ?_; refine J.lR hΓ ?_ (hr := Rd.hd)) | (refine J.o 9 ?_; first | refine J.bl (e := 3) hΓ (fun bl => ?_) | refine J.bl (e := 28) hΓ (fun bm => ?_)) | (refine J.o 9 ?_; first | (first | (refine J.ap1 (enc := encHV) [(⟨some ⟨bl, 0, none⟩, 2, [-((i : Int) + 1), -((i : Int) + 1) - k]⟩ : HV)] hΓ (fun a2 c2 h2 o2 => ?_)) | (refine J.perm (br1.cons _) ?_; refine J.ap1 (enc := encHV) [(⟨some ⟨bl, 0, none⟩, 2, [-((i : Int) + 1), -((i : Int) + 1) - k]⟩ : HV)] hΓ (fun a2 c2 h2 o2 => ?_)) | (refine J.perm (br2.cons _) ?_; refine J.ap1 (enc := encHV) [(⟨some ⟨bl, 0, none⟩, 2, [-((i : Int) + 1), -((i : Int) + 1) - k]⟩ : HV)] hΓ (fun a2 c2 h2 o2 => ?_)) | (refine J.perm (br3.cons _) ?_; refine J.ap1 (enc := encHV) [(⟨some ⟨bl, 0, none⟩, 2, [-((i : Int) + 1), -((i : Int) + 1) - k]⟩ : HV)] hΓ (fun a2 c2 h2 o2 => ?_)) | (refine J.perm (br4.cons _) ?_; refine J.ap1 (enc := encHV) [(⟨some ⟨bl, 0, none⟩, 2, [-((i : Int) + 1), -((i : Int) + 1) - k]⟩ : HV)] hΓ (fun a2 c2 h2 o2 => ?_)) | (refine J.perm (br5.cons _) ?_; refine J.ap1 (enc := encHV) [(⟨some ⟨bl, 0, none⟩, 2, [-((i : Int) + 1), -((i : Int) + 1) - k]⟩ : HV)] hΓ (fun a2 c2 h2 o2 => ?_))) | (refine J.perm br1 ?_; first | (refine J.ap1 (enc := encHV) [(⟨some ⟨bl, 0, none⟩, 2, [-((i : Int) + 1), -((i : Int) + 1) - k]⟩ : HV)] hΓ (fun a2 c2 h2 o2 => ?_)) | (refine J.perm (br1.cons _) ?_; refine J.ap1 (enc := encHV) [(⟨some ⟨bl, 0, none⟩, 2, [-((i : Int) + 1), -((i : Int) + 1) - k]⟩ : HV)] hΓ (fun a2 c2 h2 o2 => ?_)) | (refine J.perm (br2.cons _) ?_; refine J.ap1 (enc := encHV) [(⟨some ⟨bl, 0, none⟩, 2, [-((i : Int) + 1), -((i : Int) + 1) - k]⟩ : HV)] hΓ (fun a2 c2 h2 o2 => ?_)) | (refine J.perm (br3.cons _) ?_; refine J.ap1 (enc := encHV) [(⟨some ⟨bl, 0, none⟩, 2, [-((i : Int) + 1), -((i : Int) + 1) - k]⟩ : HV)] hΓ (fun a2 c2 h2 o2 => ?_)) | (refine J.perm (br4.cons _) ?_; refine J.ap1 (enc := encHV) [(⟨some ⟨bl, 0, none⟩, 2, [-((i : Int) + 1), -((i : Int) + 1) - k]⟩ : HV)] hΓ (fun a2 c2 h2 o2 => ?_)) | (refine J.perm (br5.cons _) ?_; refine J.ap1 (enc := encHV) [(⟨some ⟨bl, 0, none⟩, 2, [-((i : Int) + 1), -((i : Int) + 1) - k]⟩ : HV)] hΓ (fun a2 c2 h2 o2 => ?_))) | (refine J.perm br2 ?_; first | (refine J.ap1 (enc := encHV) [(⟨some ⟨bl, 0, none⟩, 2, [-((i : Int) + 1), -((i : Int) + 1) - k]⟩ : HV)] hΓ (fun a2 c2 h2 o2 => ?_)) | (refine J.perm (br1.cons _) ?_; refine J.ap1 (enc := encHV) [(⟨some ⟨bl, 0, none⟩, 2, [-((i : Int) + 1), -((i : Int) + 1) - k]⟩ : HV)] hΓ (fun a2 c2 h2 o2 => ?_)) | (refine J.perm (br2.cons _) ?_; refine J.ap1 (enc := encHV) [(⟨some ⟨bl, 0, none⟩, 2, [-((i : Int) + 1), -((i : Int) + 1) - k]⟩ : HV)] hΓ (fun a2 c2 h2 o2 => ?_)) | (refine J.perm (br3.cons _) ?_; refine J.ap1 (enc := encHV) [(⟨some ⟨bl, 0, none⟩, 2, [-((i : Int) + 1), -((i : Int) + 1) - k]⟩ : HV)] hΓ (fun a2 c2 h2 o2 => ?_)) | (refine J.perm (br4.cons _) ?_; refine J.ap1 (enc := encHV) [(⟨some ⟨bl, 0, none⟩, 2, [-((i : Int) + 1), -((i : Int) + 1) - k]⟩ : HV)] hΓ (fun a2 c2 h2 o2 => ?_)) | (refine J.perm (br5.cons _) ?_; refine J.ap1 (enc := encHV) [(⟨some ⟨bl, 0, none⟩, 2, [-((i : Int) + 1), -((i : Int) + 1) - k]⟩ : HV)] hΓ (fun a2 c2 h2 o2 => ?_))))) | (first | (refine J.o 0 ?_; refine J.ev' hΓ ?_) | refine J.nil ?_ | (refine J.o 4 ?_; first | refine J.lR hΓ ?_) | (refine J.o 3 ?_; first | refine J.ev' hΓ ?_) | (refine J.o 1 ?_; first | refine J.ad ?_ | refine J.sb ?_ | refine J.ng ?_) | (refine J.o 5 ?_; first | refine J.t0 hΓ ?_ | refine J.t2 hΓ ?_) | (refine J.o 7 ?_; refine J.al hΓ (fun _ => ?_)) | (refine J.o 8 ?_; refine J.bd hΓ ?_) | (refine J.o 9 ?_; refine J.bl hΓ (fun _ => ?_)) | (refine J.o 10 ?_; refine J.ev' hΓ ?_) | (refine J.o 11 ?_; refine J.ev' hΓ ?_)))
      | (first | refine JC.seq ?_ | refine JC.region ?_ | refine JC.block ?_ | refine JC.ret ?_ | refine JC.exit ?_ | refine JC.skip ?_ | refine thenK.nn ?_ | refine thenK.x ?_ | refine blockK.nn ?_ | refine blockK.hit rfl ?_ | (refine JC.cond rfl (fun hc => ?_) (fun hc => ?_) <;> ((try simp only [decide_eq_true_eq, decide_eq_false_iff_not, beq_iff_eq, beq_eq_false_iff_ne, bne_iff_ne, bne_eq_false_iff_eq, Bool.not_eq_true', Bool.not_eq_false', Bool.not_eq_true, Bool.not_eq_false] at hc) <;> first | (first | (exact absurd rfl hc) | (exfalso; omega) | (exact absurd (hc.symm.trans (by assumption : _ = false)) (by decide)) | (exact absurd (hc.symm.trans (by assumption : _ = true)) (by decide))) | skip)) | refine loopK.x ?_)
      | (fail)
      | fail
    all_goals first | (exfalso; omega) | skip
    have hsl : SlT encI 1 (some ⟨bl, 0, none⟩) [-((i : Int) + 1), -((i : Int) + 1) - k] [(bl, .cells ⟨[.int .i64 (-((i + 1 : Nat) : Int)), .int .i64 (-((i + 1 : Nat) : Int) - k)]⟩ 3 (0, 0))] := slArg bl [-((i : Int) + 1), -((i : Int) + 1) - k] 3
    refine loopK.nn (m - 1) (by omega) (by repeat (first | refine Ag.upd rfl ?_ | exact Ag.hv)) ⟨_, ⟨i + 1, vs ++ [⟨some ⟨bl, 0, none⟩, 2, [-((i : Int) + 1), -((i : Int) + 1) - k]⟩], a2, c2, h2, [(bl, .cells ⟨[.int .i64 (-((i + 1 : Nat) : Int)), .int .i64 (-((i + 1 : Nat) : Int) - k)]⟩ 3 (0, 0))] ++ hI, ?_, by omega, by rw [List.length_append, hvl]; rfl, by rw [List.map_append, hvs]; rfl, o2, fun v hv => ?_, rfl⟩, fun w hw => by
      have hw2 := (H.sel (l := [_, _, _, _, _]) (M := []) hw [1, 3, 2, 0, 4]).mg1
      exact H.sel (l := [_, _, _, _]) (M := []) hw2 [1, 2, 0, 3]⟩
    · show Value.int .i64 _ = _; congr 1
    · rcases List.mem_append.1 hv with g | g
      · exact (sI v g).sub fun x hx => List.mem_append_right _ hx
      · rw [List.mem_singleton.1 g]
        exact hsl.sub fun x hx => List.mem_append_left _ hx
  ·
    obtain rfl : i = k := by omega
    repeat' first
      | (refine J.isJ ?_; first | (first | (refine J.o 4 ?_; refine J.lR hΓ ?_ (hr := Rd.hd)) | (refine J.o 5 ?_; first | (refine J.perm br3 ?_; refine J.t0 hΓ ?_) | (refine J.perm br4 ?_; refine J.t0 hΓ ?_) | (refine J.perm br5 ?_; refine J.t0 hΓ ?_) | (refine J.perm br6 ?_; refine J.t0 hΓ ?_) | (refine J.perm br7 ?_; refine J.t0 hΓ ?_))) | (first | (refine J.o 0 ?_; refine J.ev' hΓ ?_) | refine J.nil ?_ | (refine J.o 4 ?_; first | refine J.lR hΓ ?_) | (refine J.o 3 ?_; first | refine J.ev' hΓ ?_) | (refine J.o 1 ?_; first | refine J.ad ?_ | refine J.sb ?_ | refine J.ng ?_) | (refine J.o 5 ?_; first | refine J.t0 hΓ ?_ | refine J.t2 hΓ ?_) | (refine J.o 7 ?_; refine J.al hΓ (fun _ => ?_)) | (refine J.o 8 ?_; refine J.bd hΓ ?_) | (refine J.o 9 ?_; refine J.bl hΓ (fun _ => ?_)) | (refine J.o 10 ?_; refine J.ev' hΓ ?_) | (refine J.o 11 ?_; refine J.ev' hΓ ?_)))
      | (first | refine JC.seq ?_ | refine JC.region ?_ | refine JC.block ?_ | refine JC.ret ?_ | refine JC.exit ?_ | refine JC.skip ?_ | refine thenK.nn ?_ | refine thenK.x ?_ | refine blockK.nn ?_ | refine blockK.hit rfl ?_ | (refine JC.cond rfl (fun hc => ?_) (fun hc => ?_) <;> ((try simp only [decide_eq_true_eq, decide_eq_false_iff_not, beq_iff_eq, beq_eq_false_iff_ne, bne_iff_ne, bne_eq_false_iff_eq, Bool.not_eq_true', Bool.not_eq_false', Bool.not_eq_true, Bool.not_eq_false] at hc) <;> first | (first | (exact absurd rfl hc) | (exfalso; omega) | (exact absurd (hc.symm.trans (by assumption : _ = false)) (by decide)) | (exact absurd (hc.symm.trans (by assumption : _ = true)) (by decide))) | skip)) | refine loopK.x ?_)
      | (fail)
      | fail
    all_goals first | (exfalso; omega) | skip
    refine retC hΓ rfl rfl rfl Rd.hd rfl (fun w1 hw => ?_)
    have hw2 := (H.sel (l := [_, _, _, _]) (M := []) hw [2, 3]).mg1
    exact Gives.of hw2 ⟨aO, cO, vs, rfl, hvs, oO.sl.sub fun x hx => List.mem_append_left _ hx, fun v hv => (sI v hv).sub fun x hx => List.mem_append_right _ hx⟩
def thF (T : List (List Int)) : VF := fun β => evT β T
theorem thA_ev {l : List Int} {N : Nat} {T : List (List Int)} (hok : okTh N T) (hm : ∀ v : Int, 1 ≤ v → v ≤ N → v ∈ l) (β : Int → Bool) : thA l T (asgV l β) = evT β T := by
  have hlit : ∀ c ∈ T, ∀ x ∈ c, litA l x (asgV l β) = litT β x := fun c hc x hx => by
    have h := (hok.2.2 c hc).2 x hx
    have hN := hok.1
    have hv := varI_ok hN h
    obtain ⟨k, hk⟩ : ∃ k, rk l (varI x) 0 = some k := by
      cases g : rk l (varI x) 0 with
      | some k => exact ⟨k, rfl⟩
      | none => exact absurd (hm _ hv.1 hv.2) (rk_none.1 g)
    have hg := (rk_some hk).2.2
    rw [Nat.sub_zero] at hg
    unfold litT
    by_cases hn : x < 0
    · have hx2 : varI x = -x := by unfold varI; rw [if_neg (by omega), if_pos (by omega)]
      rw [litA_neg hn hk, if_pos hn]
      unfold asgV
      rw [hg, hx2]
    · have hx2 : varI x = x := by unfold varI; rw [if_pos (by omega)]
      rw [litA_pos hn hk, if_neg hn]
      unfold asgV
      rw [hg, hx2]
  unfold thA evT clA
  rw [Bool.eq_iff_iff, List.all_eq_true, List.all_eq_true]
  refine forall_congr' fun c => forall_congr' fun hc => ?_
  rw [List.any_eq_true, List.any_eq_true]
  refine exists_congr fun x => ?_
  constructor
  · rintro ⟨h1, h2⟩; exact ⟨h1, by rw [← hlit c hc x h1]; exact h2⟩
  · rintro ⟨h1, h2⟩; exact ⟨h1, by rw [hlit c hc x h1]; exact h2⟩
theorem of_ints {l : List Int} {N : Nat} (hN : N ≤ 128) (hp : l.Perm (ints N)) : ofS l = allS N := by
  refine set_ext (okS_of l (0, 0) okS_zero) (okS_all N) fun u h1 h2 => ?_
  rw [Bool.eq_iff_iff, has_all N u hN]
  unfold ofS
  rw [ofS_has l (0, 0) u, has_zero, hp.mem_iff, ints_mem]
  constructor
  · rintro (h | h)
    · cases h
    · exact h.1
  · intro h; exact .inr ⟨h, h1, h2⟩
theorem costT_le : ∀ (T : List (List Int)) (m : Nat), (∀ c ∈ T, c.length ≤ m) → costT T ≤ T.length * (m * 20 + 255)
  | [], m, _ => by rw [costT]; omega
  | c :: T, m, h => by
    have h1 := costT_le T m fun x hx => h x (List.mem_cons_of_mem _ hx)
    have h2 := Nat.mul_le_mul_right 20 (h c List.mem_cons_self)
    rw [costT, List.length_cons, Nat.succ_mul]
    omega
theorem compile_V (N : Nat) (h8 : N ≤ 8) (l : List Int) (hp : l.Perm (ints N)) (a : Option Addr) (c : Nat) (h : Heap) (hs : SlT encI 1 a l h) (aT : Option Addr) (cap : Nat) (vs : List HV) (hT : Heap) (ll : LLR aT vs hT) (T : List (List Int)) (hvs : vs.map (·.l) = T) (hok : okTh N T) (hcost : 2 + costT T ≤ 1048576) {w0 w : World} {R : Heap} {L : List Heap} (hr : RdH R L h) (rT : RdH R L hT) (hw : H w0 R L w) :
    Calls Try.prog 16 #[.agg ⟨[.int .i64 (N : Int), .slice aT vs.length cap]⟩, .slice a l.length c] w fun e w' => ∃ v L', e = .returned v ∧ H w0 R L' w' ∧ RebQ (thF T) l L v L' := by
  subst hvs
  have hlen : l.length = N := by rw [hp.length_eq, ints_len]
  refine (compile_any N l a c h hs aT cap vs hT ll (okTh_iff.2 hok) hlen (of_ints (by omega) hp) h8 hcost hr rT hw).mono ?_
  rintro e w' ⟨v, L', h1, h2, b, K, s, y, hO, hP, h3, h4, so, po, hy, hf, _⟩
  subst hlen
  exact ⟨v, L', h1, h2, b, K, s, y, hO, hP, h3, h4, so, po, hy, fun β => by
    rw [hf]
    exact thA_ev hok (fun v h1 h2 => hp.mem_iff.2 ((ints_mem _ _).2 ⟨h1, h2⟩)) β⟩
def szF (l : List Int) (F : VF) : Nat := sizeT l.length (tabF l.length (gF l F))
theorem Stv.size {F : VF} {l : List Int} {K : KS} {s : SS} {y : Nat} {hO hP : Heap} (sv : Stv F l K s y hO hP) {m : List Int} (b : Bel s.ns y m) : m.length = szF l F :=
  b.size sv.so.wf sv.sy.1 (sv.sy.fn sv.ho.2 sv.so.wf)
theorem eWorks31 : Entr Try.prog 14 := Entr.of Try.func14 rfl rfl
theorem works31_any (w : World) : Calls Try.prog 14 #[] w fun e w' => e = .returned (.bool true) ∧ Below w.heap.size w w' := by
  have ok2 : okTh 4 (pairP 2 2) := okTh_iff.1 (by decide +kernel)
  have hz1 : szF (ints 4) (thF (pairP 2 2)) = 6 := by decide +kernel
  have hz2 : szF (swp (ints 4) 1) (thF (pairP 2 2)) = 4 := by decide +kernel
  have hl4 : (ints 4).length = 4 := ints_len 4
  have hco : 2 + costT (pairP 2 2) ≤ 1048576 := by decide +kernel
  have hsd : decide (swp (ints 4) 1 = [1, 3, 2, 4]) = true := by decide +kernel
  refine calls_of_JC (R := []) Try.func14 Try.ntmps14 rfl rfl (Holds.nil _) ?_
  repeat' first
    | (refine J.isJ ?_; first | (first | (refine J.fc 49 ?_; refine J.call1 ePairs rfl rfl (fun w hw => pairs_any 2 (by omega) w) ?_; rintro _ hT ⟨aT, cT, vs, rfl, hvs, ll⟩) | (refine J.fc 50 ?_; refine J.call1 eUpTo rfl rfl (fun w hw => upTo_any 4 (by omega) w) ?_; rintro _ hU ⟨aU, cU, rfl, oU⟩) | (refine J.fc 16 ?_; refine J.callx eCom rfl rfl (fun w hw => compile_V 4 (by omega) (ints 4) (List.Perm.refl _) aU cU hU oU.sl aT cT vs hT ll (pairP 2 2) hvs ok2 hco RdH.hd RdH.hd.tl hw) ?_; rintro _ _ ⟨b1, K1, s1, y1, hO1, hP1, rfl, rfl, sv1⟩) | (refine J.fc 17 ?_; refine J.callx eSwap rfl rfl (fun w hw => Swap_any sv1 (by omega) 1 (by omega) (stR_hd _) hw) ?_; rintro _ _ ⟨b2, K2, s2, y2, hO2, hP2, rfl, rfl, sv2⟩) | (refine J.fc 20 ?_; first | (refine J.callx eSize rfl rfl (fun w hw => Size_any sv1.so b1 y1 sv1.sy.1 (stR_b (stR_tl (stR_hd _) K2 b2 s2 hO2 hP2)) (stR_N (stR_tl (stR_hd _) K2 b2 s2 hO2 hP2)) hw) ?_; rintro _ _ ⟨l1, rfl, rfl, bel1⟩; have hs1 := (sv1.size bel1).trans hz1) | (refine J.callx eSize rfl rfl (fun w hw => Size_any sv2.so b2 y2 sv2.sy.1 (stR_b (stR_hd _)) (stR_N (stR_hd _)) hw) ?_; rintro _ _ ⟨l2, rfl, rfl, bel2⟩; have hs2 := (sv2.size bel2).trans hz2)) | (refine J.o 11 ?_; first | refine J.eqT2 hΓ hs1 ?_ | refine J.eqT2 hΓ hs2 ?_) | (refine J.fc 19 ?_; refine J.call1 eOrder rfl rfl (fun w hw => Order_any sv2.so sv2.po b2 w (stR_of2 (stR_hd _) hw)) ?_; rintro _ ho ⟨ao, co, rfl, oo⟩) | (refine J.o 9 ?_; refine J.bl (e := 3) hΓ (fun bl => ?_)) | (refine J.fc 18 ?_; refine J.call0 eSame3 rfl rfl (fun w hw => same3_any (swp (ints 4) 1) [1, 3, 2, 4] ao (some ⟨bl, 0, none⟩) co 4 (ho ++ [(bl, .cells ⟨[.int .i64 1, .int .i64 3, .int .i64 2, .int .i64 4]⟩ 3 (0, 0))]) (oo.sl.sub fun x hx => List.mem_append_left _ hx) ((slArg bl [1, 3, 2, 4] 3).sub fun x hx => List.mem_append_right _ hx) (by rw [swp_len]; omega) (by decide) w ((hw.rdH RdH.hd.tl).append (hw.rdH RdH.hd))) ?_; rw [hsd])) | (first | (refine J.o 0 ?_; refine J.ev' hΓ ?_) | refine J.nil ?_ | (refine J.o 3 ?_; first | refine J.ev' hΓ ?_) | (refine J.o 9 ?_; refine J.bl hΓ (fun _ => ?_)) | (refine J.o 10 ?_; refine J.ev' hΓ ?_) | (refine J.o 11 ?_; refine J.ev' hΓ ?_)))
    | (first | refine JC.seq ?_ | refine JC.region ?_ | refine JC.ret ?_ | refine JC.skip ?_ | refine thenK.nn ?_ | refine JC.condF rfl ?_)
    | fail
  all_goals first | (exfalso; omega) | skip
  all_goals (refine ret1f rfl rfl rfl (fun w1 hw => ⟨rfl, hw.below⟩))
end Go.Proofs.Ytbhgahjeocnfcaa
namespace Go.Proofs.Ytbhgahjeocnfcaa
open Go Go.Cx Go.RowKit
set_option linter.unusedVariables false
set_option linter.unusedSimpArgs false
set_option maxHeartbeats 4000000
attribute [local irreducible] J JC thenK blockK loopK drawK retK QW Qt pel List.set Calls
open Go.Maps Go.Lib
set_option maxRecDepth 8000
attribute [local irreducible] JE Br eK0 eK3 brK pc
def fromB (f : Nat → Bool) : Nat → Nat
  | 0 => 0
  | j + 1 => 2 * fromB f j + if f j = true then 1 else 0
theorem fromB_lt (f : Nat → Bool) : ∀ j, fromB f j < 2 ^ j
  | 0 => by simp [fromB]
  | j + 1 => by
    have := fromB_lt f j
    rw [fromB, Nat.pow_succ]
    split <;> omega
theorem fromB_bit (f : Nat → Bool) : ∀ (j i : Nat), (fromB f j).testBit i = (decide (i < j) && f (j - 1 - i))
  | 0, i => by simp [fromB]
  | j + 1, 0 => by
    rw [fromB, Nat.testBit_zero, show j + 1 - 1 - 0 = j by omega]
    cases f j <;> simp <;> omega
  | j + 1, i + 1 => by
    rw [fromB, Nat.testBit_succ, show (2 * fromB f j + if f j = true then 1 else 0) / 2 = fromB f j by split <;> omega, fromB_bit f j i]
    rw [show j + 1 - 1 - (i + 1) = j - 1 - i by omega]
    simp
theorem evT_congr {N : Nat} {T : List (List Int)} (hok : okTh N T) {b c : Int → Bool} (h : ∀ u : Int, 1 ≤ u → u ≤ N → b u = c u) : evT b T = evT c T := by
  have hl : ∀ cl ∈ T, ∀ x ∈ cl, litT b x = litT c x := fun cl hc x hx => by
    have := (hok.2.2 cl hc).2 x hx
    unfold litT
    split
    · rw [h (-x) (by omega) (by omega)]
    · rw [h x (by omega) (by omega)]
  unfold evT
  rw [Bool.eq_iff_iff, List.all_eq_true, List.all_eq_true]
  refine forall_congr' fun cl => forall_congr' fun hc => ?_
  rw [List.any_eq_true, List.any_eq_true]
  refine exists_congr fun x => ?_
  constructor
  · rintro ⟨h1, h2⟩; exact ⟨h1, by rw [← hl cl hc x h1]; exact h2⟩
  · rintro ⟨h1, h2⟩; exact ⟨h1, by rw [hl cl hc x h1]; exact h2⟩
end Go.Proofs.Ytbhgahjeocnfcaa
namespace Go.Proofs.Ytbhgahjeocnfcaa
open Go Go.Cx Go.RowKit
set_option linter.unusedVariables false
set_option linter.unusedSimpArgs false
set_option maxHeartbeats 4000000
attribute [local irreducible] J JC thenK blockK loopK drawK retK QW Qt pel List.set Calls
open Go.Maps Go.Lib
set_option maxRecDepth 8000
attribute [local irreducible] JE Br eK0 eK3 brK pc
theorem Bel.nats {ns : List N3} {a : Nat} {l : List Int} (b : Bel ns a l) : ∃ A : List Nat, A.Nodup ∧ (∀ j, j ∈ A ↔ 2 ≤ j ∧ Rch ns a j) ∧ A.length = l.length := by
  refine ⟨l.map Int.toNat, ?_, fun j => ?_, List.length_map _⟩
  · rw [List.Nodup, List.pairwise_map]
    refine List.Pairwise.imp_of_mem (fun {x y} hx hy hxy e => hxy ?_) b.nodup
    obtain ⟨i, hi, _⟩ := (b.mem x).1 hx
    obtain ⟨j, hj, _⟩ := (b.mem y).1 hy
    omega
  · rw [List.mem_map]
    constructor
    · rintro ⟨x, hx, rfl⟩
      obtain ⟨i, rfl, h⟩ := (b.mem x).1 hx
      exact h
    · intro h
      exact ⟨(j : Int), (b.mem _).2 ⟨j, rfl, h⟩, by simp⟩
end Go.Proofs.Ytbhgahjeocnfcaa
namespace Go.Proofs.Ytbhgahjeocnfcaa
open Go Go.Cx Go.RowKit
set_option linter.unusedVariables false
set_option linter.unusedSimpArgs false
set_option maxHeartbeats 4000000
attribute [local irreducible] J JC thenK blockK loopK drawK retK QW Qt pel List.set Calls
open Go.Maps Go.Lib
set_option maxRecDepth 8000
attribute [local irreducible] JE Br eK0 eK3 brK pc
def tabX (N : Nat) (F : VF) : List Bool := (List.range (2 ^ N)).map fun x => F (hasB (x, 0))
theorem tabX_len (N : Nat) (F : VF) : (tabX N F).length = 2 ^ N := by simp [tabX]
theorem tabX_get (N : Nat) (F : VF) {x : Nat} (h : x < 2 ^ N) : (tabX N F).getD x default = F (hasB (x, 0)) := by
  unfold tabX; rw [List.getD_eq_getElem?_getD, List.getElem?_map, List.getElem?_range h]; rfl
def DepN (N : Nat) (F : VF) : Prop := ∀ b c : Int → Bool, (∀ u : Int, 1 ≤ u → u ≤ N → b u = c u) → F b = F c
def idxX (N : Nat) (β : Int → Bool) : Nat := fromB (fun j => β ((N : Int) - j)) N
theorem idxX_lt (N : Nat) (β : Int → Bool) : idxX N β < 2 ^ N := fromB_lt _ _
theorem idxX_bit (N : Nat) (β : Int → Bool) (i : Nat) : (idxX N β).testBit i = (decide (i < N) && β ((i : Int) + 1)) := by
  unfold idxX
  rw [fromB_bit]
  by_cases h : i < N
  · rw [decide_eq_true h, show (N : Int) - ((N - 1 - i : Nat) : Int) = (i : Int) + 1 by omega]
  · rw [decide_eq_false h]; rfl
theorem has_idx {N : Nat} (hN : N ≤ 60) (β : Int → Bool) {u : Int} (h1 : 1 ≤ u) (h2 : u ≤ N) : hasB (idxX N β, 0) u = β u := by
  unfold hasB
  rw [if_pos (by omega), idxX_bit, decide_eq_true (by omega), Bool.true_and]
  congr 1; omega
theorem idx_has {N : Nat} (hN : N ≤ 60) {x : Nat} (hx : x < 2 ^ N) : idxX N (hasB (x, 0)) = x := by
  refine Nat.eq_of_testBit_eq fun i => ?_
  rw [idxX_bit]
  by_cases h : i < N
  · rw [decide_eq_true h, Bool.true_and]
    unfold hasB
    rw [if_pos (by omega)]
    congr 1; omega
  · rw [decide_eq_false h, Nat.testBit_lt_two_pow (Nat.lt_of_lt_of_le hx (Nat.pow_le_pow_right (by decide) (by omega)))]; rfl
def vfT (N : Nat) (t : List Bool) : VF := fun β => t.getD (idxX N β) default
theorem vfT_tab {N : Nat} (hN : N ≤ 60) {G : VF} (hG : DepN N G) : vfT N (tabX N G) = G := by
  funext β
  unfold vfT
  rw [tabX_get N G (idxX_lt N β)]
  exact hG _ _ fun u h1 h2 => has_idx hN β h1 h2
theorem tab_vfT {N : Nat} (hN : N ≤ 60) {t : List Bool} (ht : t.length = 2 ^ N) : tabX N (vfT N t) = t := by
  refine list_eq (by rw [tabX_len, ht]) fun x hx => ?_
  rw [tabX_len] at hx
  rw [tabX_get N _ hx]
  unfold vfT
  rw [idx_has hN hx]
def cstT (t : List Bool) : Prop := ∀ i, i < t.length → t.getD i default = t.getD 0 default
instance (t : List Bool) : Decidable (cstT t) := by unfold cstT; exact inferInstance
def stepT (out : List (List Bool)) (t : List Bool) : List (List Bool) := if cstT t ∨ t ∈ out then out else out ++ [t]
theorem foldT_all : ∀ (ts out : List (List Bool)), out.Nodup → (ts.foldl stepT out).Nodup ∧ ∀ t, t ∈ ts.foldl stepT out ↔ t ∈ out ∨ (t ∈ ts ∧ ¬ cstT t)
  | [], out, h => ⟨h, fun t => by simp⟩
  | x :: ts, out, h => by
    rw [List.foldl_cons]
    have hs : (stepT out x).Nodup ∧ ∀ t, t ∈ stepT out x ↔ t ∈ out ∨ (t = x ∧ ¬ cstT t) := by
      unfold stepT
      by_cases hc : cstT x ∨ x ∈ out
      · rw [if_pos hc]
        refine ⟨h, fun t => ⟨.inl, ?_⟩⟩
        rintro (g | ⟨rfl, g⟩)
        · exact g
        · exact hc.resolve_left g
      · rw [if_neg hc]
        refine ⟨?_, fun t => ?_⟩
        · rw [List.nodup_append]
          exact ⟨h, List.nodup_cons.2 ⟨List.not_mem_nil, List.nodup_nil⟩, fun a ha b hb e => by rw [List.mem_singleton.1 hb] at e; exact hc (.inr (e ▸ ha))⟩
        · rw [List.mem_append, List.mem_singleton]
          constructor
          · rintro (g | rfl)
            · exact .inl g
            · exact .inr ⟨rfl, fun g => hc (.inl g)⟩
          · rintro (g | ⟨rfl, _⟩)
            · exact .inl g
            · exact .inr rfl
    obtain ⟨h1, h2⟩ := foldT_all ts _ hs.1
    refine ⟨h1, fun t => ?_⟩
    rw [h2, hs.2, List.mem_cons]
    constructor
    · rintro ((g | ⟨g1, g2⟩) | ⟨g1, g2⟩)
      · exact .inl g
      · exact .inr ⟨.inl g1, g2⟩
      · exact .inr ⟨.inr g1, g2⟩
    · rintro (g | ⟨g1 | g1, g2⟩)
      · exact .inl (.inl g)
      · exact .inl (.inr ⟨g1, g2⟩)
      · exact .inr ⟨g1, g2⟩
def asgL (l : List Int) : Nat → List (Nat × Nat)
  | 0 => [(0, 0)]
  | k + 1 => asgL l k ++ (asgL l k).map fun s => withS s (l.getD k default)
theorem asgL_len (l : List Int) : ∀ k, (asgL l k).length = 2 ^ k
  | 0 => rfl
  | k + 1 => by rw [asgL, List.length_append, List.length_map, asgL_len l k, Nat.pow_succ]; omega
theorem take_mem_s {l : List Int} {k : Nat} (hk : k < l.length) (u : Int) : u ∈ l.take (k + 1) ↔ u ∈ l.take k ∨ u = l.getD k default := by
  rw [take_g l k hk, List.mem_append, List.mem_singleton]
theorem asgL_ok {l : List Int} (ho : okOrd l) : ∀ k, k ≤ l.length → ∀ a ∈ asgL l k, okS a ∧ ∀ u, hasB a u = true → u ∈ l.take k
  | 0, _, a, ha => by
    rw [List.mem_singleton.1 ha]
    exact ⟨okS_zero, fun u hu => by rw [has_zero] at hu; cases hu⟩
  | k + 1, hk, a, ha => by
    rw [asgL] at ha
    rcases List.mem_append.1 ha with g | g
    · obtain ⟨h1, h2⟩ := asgL_ok ho k (by omega) a g
      exact ⟨h1, fun u hu => (take_mem_s (by omega) u).2 (.inl (h2 u hu))⟩
    · obtain ⟨s, hs, rfl⟩ := List.mem_map.1 g
      obtain ⟨h1, h2⟩ := asgL_ok ho k (by omega) s hs
      refine ⟨ok_with h1 _, fun u hu => (take_mem_s (by omega) u).2 ?_⟩
      exact ((has_with s _ u (ho.1 _ (mem_g l k (by omega)))).1 hu).imp (h2 u) id
theorem asgL_all {l : List Int} (ho : okOrd l) (γ : Int → Bool) : ∀ k, k ≤ l.length → ∃ a ∈ asgL l k, ∀ u, u ∈ l.take k → hasB a u = γ u
  | 0, _ => ⟨(0, 0), List.mem_singleton_self _, fun u hu => by cases hu⟩
  | k + 1, hk => by
    obtain ⟨a, ha, h⟩ := asgL_all ho γ k (by omega)
    have hv := ho.1 _ (mem_g l k (by omega))
    have hnot : l.getD k default ∉ l.take k := fun g => by have := (take_at ho.2 (i := k) (by omega) (by omega)).1 g; omega
    cases hg : γ (l.getD k default) with
    | false =>
      refine ⟨a, List.mem_append_left _ ha, fun u hu => ?_⟩
      rcases (take_mem_s (by omega) u).1 hu with g | rfl
      · exact h u g
      · rw [hg]
        cases hh : hasB a (l.getD k default) with
        | false => rfl
        | true => exact absurd ((asgL_ok ho k (by omega) a ha).2 _ hh) hnot
    | true =>
      refine ⟨withS a (l.getD k default), List.mem_append_right _ (List.mem_map.2 ⟨a, ha, rfl⟩), fun u hu => ?_⟩
      rcases (take_mem_s (by omega) u).1 hu with g | rfl
      · have hne : u ≠ l.getD k default := fun e => hnot (e ▸ g)
        rw [← h u g, Bool.eq_iff_iff, has_with a _ u hv]
        exact ⟨fun x => x.resolve_right hne, .inl⟩
      · rw [hg]; exact (has_with a _ _ hv).2 (.inr rfl)
def leftF (l : List Int) (F : VF) (k : Nat) (a : Nat × Nat) : VF := fun β => F (restr (l.take k) (hasB a) β)
def rowT (N : Nat) (l : List Int) (F : VF) (k : Nat) : List (List Bool) := (asgL l k).map fun a => tabX N (leftF l F k a)
def nodesT (N : Nat) (l : List Int) (F : VF) (m : Nat) : List (List Bool) := ((List.range m).flatMap (rowT N l F)).foldl stepT []
theorem leftF_dep {N : Nat} {F : VF} (hF : DepN N F) (l : List Int) (k : Nat) (a : Nat × Nat) : DepN N (leftF l F k a) := fun b c h => hF _ _ fun u h1 h2 => by
  unfold restr
  split
  · rfl
  · exact h u h1 h2
theorem nodesT_size {N : Nat} (hN : N ≤ 60) {F : VF} (hF : DepN N F) {l : List Int} (hp : l.Perm (ints N)) {K : KS} {s : SS} {y : Nat} {hO hP : Heap} (sv : Stv F l K s y hO hP) {L1 : List Int} (bel : Bel s.ns y L1) : L1.length = (nodesT N l F (l.length + 1)).length := by
  have ho := sv.ho
  have w := sv.so.wf
  obtain ⟨A, hA, mA, hAl⟩ := bel.nats
  obtain ⟨hTn, hTm⟩ := foldT_all ((List.range (l.length + 1)).flatMap (rowT N l F)) [] List.nodup_nil
  have hmem : ∀ t, t ∈ nodesT N l F (l.length + 1) ↔ (∃ k a, k ≤ l.length ∧ a ∈ asgL l k ∧ t = tabX N (leftF l F k a)) ∧ ¬ cstT t := fun t => by
    unfold nodesT
    rw [hTm]
    constructor
    · rintro (g | ⟨g1, g2⟩)
      · cases g
      · obtain ⟨k, hk, g⟩ := List.mem_flatMap.1 g1
        obtain ⟨a, ha, e⟩ := List.mem_map.1 g
        exact ⟨⟨k, a, by have := List.mem_range.1 hk; omega, ha, e.symm⟩, g2⟩
    · rintro ⟨⟨k, a, hk, ha, e⟩, g⟩
      exact .inr ⟨List.mem_flatMap.2 ⟨k, List.mem_range.2 (by omega), List.mem_map.2 ⟨a, ha, e.symm⟩⟩, g⟩
  have hlen : ∀ t, t ∈ nodesT N l F (l.length + 1) → t.length = 2 ^ N := fun t ht => by
    obtain ⟨⟨k, a, _, _, rfl⟩, _⟩ := (hmem t).1 ht
    exact tabX_len _ _
  have hT : ((nodesT N l F (l.length + 1)).map (vfT N)).Nodup := by
    rw [List.Nodup, List.pairwise_map]
    refine List.Pairwise.imp_of_mem (fun {a b} ha hb hab e => hab ?_) (show (nodesT N l F (l.length + 1)).Nodup from hTn)
    rw [← tab_vfT hN (hlen a ha), ← tab_vfT hN (hlen b hb), e]
  have hmv : ∀ v : Int, v ∈ l ↔ 1 ≤ v ∧ v ≤ N := fun v => by rw [hp.mem_iff, ints_mem]
  have hdepG : ∀ j, j < s.ns.length → DepN N (fun β => fn l.length s.ns j (asgV l β)) := fun j hj b c h => by
    dsimp only
    refine fn_lt w _ j (Nat.le_refl _) hj fun i hi => ?_
    have := (hmv _).1 (mem_g l i hi)
    exact h _ this.1 this.2
  have key := len_fn ho.2 w hA (fun j hj => ((mA j).1 hj).2.lt w sv.sy.1) hT fun G => by
    rw [List.mem_map]
    constructor
    · rintro ⟨t, ht, rfl⟩
      obtain ⟨⟨k, a, hk, ha, rfl⟩, hc⟩ := (hmem t).1 ht
      rw [vfT_tab hN (leftF_dep hF l k a)]
      obtain ⟨j, h1, h2, h3⟩ := left_rch ho.2 w sv.sy hk (G := leftF l F k a) ⟨hasB a, fun β => rfl⟩
      refine ⟨j, (mA j).2 ⟨?_, h1⟩, h3.2⟩
      rcases Nat.lt_or_ge j 2 with g | g
      · exfalso
        refine hc fun i hi => ?_
        rw [tabX_len] at hi
        rw [tabX_get _ _ hi, tabX_get _ _ (Nat.two_pow_pos N), ← h3.2, ← h3.2]
        unfold fn; rw [ev_const _ _ _ g, ev_const _ _ _ g]
      · exact g
    · rintro ⟨j, hj, hG⟩
      obtain ⟨h2, hr⟩ := (mA j).1 hj
      have hjl := hr.lt w sv.sy.1
      have hple := w.ple hjl
      obtain ⟨γ, hγ⟩ := rch_left ho.2 w sv.sy hr
      obtain ⟨a, ha, hag⟩ := asgL_all ho γ (nd s.ns j).p hple
      have hGl : G = leftF l F (nd s.ns j).p a := funext fun β => by
        rw [← hG]
        have := hγ β
        dsimp only at this
        rw [this]
        unfold leftF
        congr 1
        funext u
        unfold restr
        by_cases hu : u ∈ l.take (nd s.ns j).p
        · rw [if_pos hu, if_pos hu, hag u hu]
        · rw [if_neg hu, if_neg hu]
      refine ⟨tabX N (leftF l F (nd s.ns j).p a), (hmem _).2 ⟨⟨_, a, hple, ha, rfl⟩, fun hc => ?_⟩, ?_⟩
      · refine fn_noncst w h2 hjl fun α β => ?_
        have hv : ∀ α : Nat → Bool, fn l.length s.ns j α = (tabX N (leftF l F (nd s.ns j).p a)).getD 0 default := fun α => by
          have h1 : fn l.length s.ns j α = G (betaV l α) := by
            rw [← hG]
            exact fn_lt w _ j (Nat.le_refl _) hjl fun i hi => (beta_at ho.2 α hi).symm
          have h3 := congrFun (vfT_tab hN (leftF_dep hF l (nd s.ns j).p a)) (betaV l α)
          rw [h1, hGl, ← h3]
          exact hc _ (by rw [tabX_len]; exact idxX_lt _ _)
        rw [hv α, hv β]
      · rw [vfT_tab hN (leftF_dep hF l _ a), hGl]
  rw [List.length_map] at key
  rw [← hAl, key]
end Go.Proofs.Ytbhgahjeocnfcaa
namespace Go.Proofs.Ytbhgahjeocnfcaa
open Go Go.Cx Go.RowKit
set_option linter.unusedVariables false
set_option linter.unusedSimpArgs false
set_option maxHeartbeats 4000000
attribute [local irreducible] J JC thenK blockK loopK drawK retK QW Qt pel List.set Calls
open Go.Maps Go.Lib
set_option maxRecDepth 20000
attribute [local irreducible] JE Br eK0 eK3 brK pc
theorem eMinus3 : Entr Try.prog 178 := Entr.of Try.func178 rfl rfl
theorem eUnion3 : Entr Try.prog 177 := Entr.of Try.func177 rfl rfl
theorem ePart31 : Entr Try.prog 147 := Entr.of Try.func147 rfl rfl
theorem eAsg31 : Entr Try.prog 146 := Entr.of Try.func146 rfl rfl
theorem eConst31 : Entr Try.prog 148 := Entr.of Try.func148 rfl rfl
theorem eSame31 : Entr Try.prog 149 := Entr.of Try.func149 rfl rfl
def minQ (s t : Nat × Nat) : Nat × Nat := ofP ((upTo s 128).filter fun u => !hasB t u)
theorem minQ_has (s t : Nat × Nat) (u : Int) : hasB (minQ s t) u = (hasB s u && !hasB t u) := by
  unfold minQ
  rw [Bool.eq_iff_iff, ofP_has, List.mem_filter, upTo_mem, Bool.and_eq_true]
  constructor
  · rintro ⟨_, _, ⟨_, _, h⟩, g⟩; exact ⟨h, g⟩
  · rintro ⟨h, g⟩
    have := hasB_rng h
    exact ⟨this.1, this.2, ⟨this.1, this.2, h⟩, g⟩
def uniQ (s t : Nat × Nat) : Nat × Nat := ofP (upTo s 128 ++ upTo t 128)
theorem uniQ_has (s t : Nat × Nat) (u : Int) : hasB (uniQ s t) u = (Bool.or (hasB s u) (hasB t u)) := by
  unfold uniQ
  rw [Bool.eq_iff_iff, ofP_has, List.mem_append, upTo_mem, upTo_mem, Bool.or_eq_true]
  constructor
  · rintro ⟨_, _, ⟨_, _, h⟩ | ⟨_, _, h⟩⟩
    · exact .inl h
    · exact .inr h
  · rintro (h | h)
    · have := hasB_rng h
      exact ⟨this.1, this.2, .inl ⟨this.1, this.2, h⟩⟩
    · have := hasB_rng h
      exact ⟨this.1, this.2, .inr ⟨this.1, this.2, h⟩⟩
theorem union3_any (s t : Nat × Nat) (hs : okS s) (ht : okS t) (w : World) : Calls Try.prog 177 #[sv s, sv t] w fun e w' => e = .returned (sv (uniQ s t)) ∧ Below w.heap.size w w' := by
  have l1 := upTo_len s 128
  have l2 := upTo_len t 128
  refine calls_of_JC (R := []) Try.func177 Try.ntmps177 rfl rfl (Holds.nil _) ?_
  refine JC.seq ?_
  refine JC.region ?_
  refine J.isJ ?_
  refine J.o 6 ?_
  refine J.bx (fun b2 => ?_)
  refine J.isJ ?_
  refine J.o 6 ?_
  refine J.bx (fun b3 => ?_)
  refine J.isJ ?_
  refine J.o 7 ?_
  refine J.al hΓ (fun b4 => ?_)
  repeat' first
    | (refine J.isJ ?_; first | (first | (refine J.o 4 ?_; first | refine J.lR hΓ ?_ (hr := Rd.hd.tl.tl) | refine J.lR hΓ ?_ (hr := Rd.hd.tl.tl)) | (refine J.fc 133 ?_; first | (refine J.call1 eList3 rfl rfl (fun w hw => list3_any s hs w) ?_; rintro _ h1 ⟨a1, c1, rfl, o1⟩) | (refine J.call1 eList3 rfl rfl (fun w hw => list3_any t ht w) ?_; rintro _ h2 ⟨a2, c2, rfl, o2⟩)) | (refine J.o 9 ?_; refine J.perm (bring_perm 1 _) ?_; refine J.apA hΓ o1 o2.sl RdH.hd.tl (fun a3 c3 h3 o3 => ?_)) | (refine J.fc 127 ?_; refine J.call0 eOf3 rfl rfl (fun w hw => of3_any a3 c3 (upTo s 128 ++ upTo t 128) h3 o3.sl (by rw [List.length_append]; omega) w (hw.rdH RdH.hd)) ?_)) | (first | refine J.nil ?_ | (refine J.o 4 ?_; first | refine J.lR hΓ ?_) | (refine J.o 5 ?_; first | refine J.t2 hΓ ?_) | (refine J.o 6 ?_; refine J.bx (fun _ => ?_)) | (refine J.o 7 ?_; refine J.al hΓ (fun _ => ?_))))
    | (first | refine JC.seq ?_ | refine JC.region ?_ | refine JC.ret ?_ | refine thenK.nn ?_ | refine drawK.nn ?_)
    | ((first | refine JC.drawO [(1,0),(1,2),(3,1),(3,3),(2,4),(1,5),(2,6)] (by decide +kernel) (by decide +kernel) ?_ | refine JC.drawO [(1,0),(1,2),(2,1),(2,3),(2,4),(1,5),(2,6)] (by decide +kernel) (by decide +kernel) ?_ | refine JC.drawO [(1,0),(1,2),(3,1),(3,3),(3,4),(1,5),(2,6)] (by decide +kernel) (by decide +kernel) ?_))
    | fail
  all_goals first | (exfalso; omega) | skip
  refine retC hΓ rfl rfl rfl (by first | exact Rd.hd | exact Rd.hd.tl | exact Rd.hd.tl.tl) rfl (fun w1 hw => ⟨rfl, hw.below⟩)
theorem minus3_any (s t : Nat × Nat) (hs : okS s) (ht : okS t) (w : World) : Calls Try.prog 178 #[sv s, sv t] w fun e w' => e = .returned (sv (minQ s t)) ∧ Below w.heap.size w w' := by
  refine calls_of_JC (R := []) Try.func178 Try.ntmps178 rfl rfl (Holds.nil _) ?_
  refine JC.seq ?_
  refine JC.region ?_
  refine J.isJ ?_
  refine J.o 6 ?_
  refine J.bx (fun b2 => ?_)
  refine J.isJ ?_
  refine J.o 6 ?_
  refine J.bx (fun b3 => ?_)
  refine J.isJ ?_
  refine J.o 7 ?_
  refine J.al hΓ (fun b4 => ?_)
  repeat' first
    | (refine J.isJ ?_; first | ((refine J.fc 151 ?_; refine J.call1 eNone3 rfl rfl (fun w hw => none_any w) ?_; rintro _ hx ⟨bx, rfl, ox⟩)) | (first | (refine J.o 0 ?_; refine J.ev' hΓ ?_) | refine J.nil ?_ | refine J.kd ?_ | (refine J.o 4 ?_; first | refine J.lR hΓ ?_) | (refine J.o 3 ?_; first | refine J.iJ hΓ ?_ | refine J.ev' hΓ ?_) | (refine J.o 1 ?_; first | refine J.ad ?_) | (refine J.o 5 ?_; first | refine J.t1 hΓ ?_ | refine J.tT _ default hΓ (fun _ _ => ?_)) | (refine J.o 6 ?_; refine J.bx (fun _ => ?_)) | (refine J.o 7 ?_; refine J.al hΓ (fun _ => ?_)) | (refine J.o 10 ?_; refine J.ev' hΓ ?_) | (refine J.o 11 ?_; refine J.ev' hΓ ?_)))
    | (first | refine JC.seq ?_ | refine JC.region ?_ | refine JC.block ?_ | refine JC.ret ?_ | refine JC.exit ?_ | refine JC.skip ?_ | refine thenK.nn ?_ | refine thenK.x ?_ | refine blockK.nn ?_ | refine blockK.hit rfl ?_ | refine JC.condF rfl ?_ | (refine JC.cond rfl (fun hc => ?_) (fun hc => ?_) <;> ((try simp only [decide_eq_true_eq, decide_eq_false_iff_not, beq_iff_eq, beq_eq_false_iff_ne, bne_iff_ne, bne_eq_false_iff_eq, Bool.not_eq_true', Bool.not_eq_false', Bool.not_eq_true, Bool.not_eq_false] at hc) <;> first | (first | (exact absurd rfl hc) | (exfalso; omega) | (exact absurd (hc.symm.trans (by assumption : _ = false)) (by decide)) | (exact absurd (hc.symm.trans (by assumption : _ = true)) (by decide))) | skip)) | refine loopK.x ?_)
    | (fail)
    | fail
  all_goals first | (exfalso; omega) | skip
  refine JC.loop (fun i => i == 6 || Nat.ble 8 i) (fun m g L' => ∃ (k : Nat) (x : List Bool) (hx : Heap), g 6 = .int .i64 ((k + 1 : Nat) : Int) ∧ k + m = 128 ∧ x.length = 129 ∧ (∀ u : Nat, 1 ≤ u → u ≤ k → x.getD u default = (hasB s u && !hasB t u)) ∧ OwT encBo 1 4 (some ⟨bx, 0, none⟩) 129 x hx ∧ L' = [hx, _, _, _]) 128 ⟨0, _, _, rfl, rfl, List.length_replicate, fun u h1 h2 => by omega, ox, rfl⟩ ?_
  clear ox
  rintro m g L' ⟨k, x, hx, e6, hkm, hxl, hall, ox, rfl⟩
  refine JC.pin 6 e6 ?_
  rcases Nat.lt_or_ge k 128 with hk | hk
  ·
    have c1 := fun w => refHas_any s hs ((k + 1 : Nat) : Int) w
    have c2 := fun w => refHas_any t ht ((k + 1 : Nat) : Int) w
    obtain ⟨bv, hbv⟩ : ∃ bv, (hasB s ((k + 1 : Nat) : Int) && !hasB t ((k + 1 : Nat) : Int)) = bv := ⟨_, rfl⟩
    have hset : ∀ u : Nat, 1 ≤ u → u ≤ k + 1 → (x.set (k + 1) bv).getD u default = (hasB s u && !hasB t u) := fun u h1 h2 => by
      rw [List.getD_eq_getElem?_getD, List.getElem?_set]
      by_cases e : k + 1 = u
      · subst e; rw [if_pos rfl, if_pos (by omega), hbv]; rfl
      · rw [if_neg e, ← List.getD_eq_getElem?_getD]; exact hall u h1 (by omega)
    cases hb1 : hasB s ((k + 1 : Nat) : Int) <;> cases hb2 : hasB t ((k + 1 : Nat) : Int)
    all_goals
      rw [hb1] at c1 hbv
      rw [hb2] at c2 hbv
      subst hbv
      repeat' first
        | (refine J.isJ ?_; first | (first | (refine J.o 4 ?_; first | refine J.lR hΓ ?_ (hr := Rd.hd.tl.tl.tl) | refine J.lR hΓ ?_ (hr := Rd.hd.tl.tl)) | (refine J.fc 130 ?_; first | refine J.call0 eHasR rfl rfl (fun w hw => c1 w) ?_ | refine J.call0 eHasR rfl rfl (fun w hw => c2 w) ?_) | (refine J.o 3 ?_; refine J.iJ hΓ ?_ (hs := ox.sl)) | (refine J.o 5 ?_; first | refine J.tT (enc := encBo) true default hΓ (fun h5 o5 => ?_) (ho := ox) | refine J.tT (enc := encBo) false default hΓ (fun h5 o5 => ?_) (ho := ox))) | (first | (refine J.o 0 ?_; refine J.ev' hΓ ?_) | refine J.nil ?_ | refine J.kd ?_ | (refine J.o 4 ?_; first | refine J.lR hΓ ?_) | (refine J.o 3 ?_; first | refine J.iJ hΓ ?_ | refine J.ev' hΓ ?_) | (refine J.o 1 ?_; first | refine J.ad ?_) | (refine J.o 5 ?_; first | refine J.t1 hΓ ?_ | refine J.tT _ default hΓ (fun _ _ => ?_)) | (refine J.o 6 ?_; refine J.bx (fun _ => ?_)) | (refine J.o 7 ?_; refine J.al hΓ (fun _ => ?_)) | (refine J.o 10 ?_; refine J.ev' hΓ ?_) | (refine J.o 11 ?_; refine J.ev' hΓ ?_)))
        | (first | refine JC.seq ?_ | refine JC.region ?_ | refine JC.block ?_ | refine JC.ret ?_ | refine JC.exit ?_ | refine JC.skip ?_ | refine thenK.nn ?_ | refine thenK.x ?_ | refine blockK.nn ?_ | refine blockK.hit rfl ?_ | refine JC.condF rfl ?_ | (refine JC.cond rfl (fun hc => ?_) (fun hc => ?_) <;> ((try simp only [decide_eq_true_eq, decide_eq_false_iff_not, beq_iff_eq, beq_eq_false_iff_ne, bne_iff_ne, bne_eq_false_iff_eq, Bool.not_eq_true', Bool.not_eq_false', Bool.not_eq_true, Bool.not_eq_false] at hc) <;> first | (first | (exact absurd rfl hc) | (exfalso; omega) | (exact absurd (hc.symm.trans (by assumption : _ = false)) (by decide)) | (exact absurd (hc.symm.trans (by assumption : _ = true)) (by decide))) | skip)) | refine loopK.x ?_)
        | fail
      all_goals first | (exfalso; omega) | skip
      refine loopK.nn (m - 1) (by omega) (by repeat (first | refine Ag.upd rfl ?_ | exact Ag.hv)) ⟨k + 1, _, _, ?_, by omega, by rw [List.length_set]; exact hxl, hset, by assumption, rfl⟩
      show Value.int .i64 _ = _; congr 1
  ·
    obtain rfl : k = 128 := by omega
    have hq : setP x = minQ s t := by
      refine set_ext (setP_ok x) (ofP_ok _) fun u h1 h2 => ?_
      rw [minQ_has, Bool.eq_iff_iff, setP_has x hxl u]
      have := hall u.toNat (by omega) (by omega)
      rw [show ((u.toNat : Nat) : Int) = u by omega] at this
      rw [← this]
      exact ⟨fun g => g.2.2, fun g => ⟨h1, h2, g⟩⟩
    have cS := fun w hw => set_any (some ⟨bx, 0, none⟩) 129 x hx ox.sl hxl w hw
    rw [hxl, hq] at cS
    repeat' first
      | (refine J.isJ ?_; first | (first | (refine J.fc 152 ?_; refine J.call0 eSet3 rfl rfl (fun w hw => cS w (hw.rdH RdH.hd)) ?_)) | (first | (refine J.o 0 ?_; refine J.ev' hΓ ?_) | refine J.nil ?_ | refine J.kd ?_ | (refine J.o 4 ?_; first | refine J.lR hΓ ?_) | (refine J.o 3 ?_; first | refine J.iJ hΓ ?_ | refine J.ev' hΓ ?_) | (refine J.o 1 ?_; first | refine J.ad ?_) | (refine J.o 5 ?_; first | refine J.t1 hΓ ?_ | refine J.tT _ default hΓ (fun _ _ => ?_)) | (refine J.o 6 ?_; refine J.bx (fun _ => ?_)) | (refine J.o 7 ?_; refine J.al hΓ (fun _ => ?_)) | (refine J.o 10 ?_; refine J.ev' hΓ ?_) | (refine J.o 11 ?_; refine J.ev' hΓ ?_)))
      | (first | refine JC.seq ?_ | refine JC.region ?_ | refine JC.block ?_ | refine JC.ret ?_ | refine JC.exit ?_ | refine JC.skip ?_ | refine thenK.nn ?_ | refine thenK.x ?_ | refine blockK.nn ?_ | refine blockK.hit rfl ?_ | refine JC.condF rfl ?_ | (refine JC.cond rfl (fun hc => ?_) (fun hc => ?_) <;> ((try simp only [decide_eq_true_eq, decide_eq_false_iff_not, beq_iff_eq, beq_eq_false_iff_ne, bne_iff_ne, bne_eq_false_iff_eq, Bool.not_eq_true', Bool.not_eq_false', Bool.not_eq_true, Bool.not_eq_false] at hc) <;> first | (first | (exact absurd rfl hc) | (exfalso; omega) | (exact absurd (hc.symm.trans (by assumption : _ = false)) (by decide)) | (exact absurd (hc.symm.trans (by assumption : _ = true)) (by decide))) | skip)) | refine loopK.x ?_)
      | (fail)
      | fail
    all_goals first | (exfalso; omega) | skip
    refine retC hΓ rfl rfl rfl (by first | exact Rd.hd | exact Rd.hd.tl | exact Rd.hd.tl.tl) rfl (fun w1 hw => ⟨rfl, hw.below⟩)
end Go.Proofs.Ytbhgahjeocnfcaa
namespace Go.Proofs.Ytbhgahjeocnfcaa
open Go Go.Cx Go.RowKit
set_option linter.unusedVariables false
set_option linter.unusedSimpArgs false
set_option maxHeartbeats 4000000
attribute [local irreducible] J JC thenK blockK loopK drawK retK QW Qt pel List.set Calls
open Go.Maps Go.Lib
set_option maxRecDepth 8000
attribute [local irreducible] JE Br eK0 eK3 brK pc
theorem ofS_take (l : List Int) {k : Nat} (hk : k < l.length) : ofS (l.take (k + 1)) = withS (ofS (l.take k)) (l.getD k default) := by
  unfold ofS; rw [take_g l k hk, List.foldl_append]; rfl
theorem part_set {N : Nat} (hN : N ≤ 60) {l : List Int} (ho : okOrd l) (hle : ∀ v ∈ l, v ≤ N) {k : Nat} (hk : k ≤ l.length) {a : Nat × Nat} (ha : okS a) (hak : ∀ u, hasB a u = true → u ∈ l.take k) {x : Nat} (hx : x < 2 ^ N) :
    (uniQ (minQ (x, 0) (ofS (l.take k))) a).1 < 2 ^ N ∧ hasB ((uniQ (minQ (x, 0) (ofS (l.take k))) a).1, 0) = restr (l.take k) (hasB a) (hasB (x, 0)) := by
  have hU : ∀ u, hasB (uniQ (minQ (x, 0) (ofS (l.take k))) a) u = restr (l.take k) (hasB a) (hasB (x, 0)) u := fun u => by
    rw [uniQ_has, minQ_has]
    unfold restr
    have hf : hasB (ofS (l.take k)) u = decide (u ∈ l.take k) := by
      rw [Bool.eq_iff_iff, decide_eq_true_iff]
      unfold ofS
      rw [ofS_has, has_zero]
      constructor
      · rintro (g | g)
        · cases g
        · exact g.1
      · intro g; exact .inr ⟨g, ho.1 u (List.mem_of_mem_take g)⟩
    rw [hf]
    by_cases hu : u ∈ l.take k
    · rw [if_pos hu, decide_eq_true hu]; cases hasB (x, 0) u <;> cases hasB a u <;> rfl
    · rw [if_neg hu, decide_eq_false hu]
      cases h : hasB a u with
      | true => exact absurd (hak u h) hu
      | false => cases hasB (x, 0) u <;> rfl
  have hle2 : ∀ u, hasB (uniQ (minQ (x, 0) (ofS (l.take k))) a) u = true → 1 ≤ u ∧ u ≤ N := fun u h => by
    have hr := hasB_rng h
    rw [hU] at h
    unfold restr at h
    split at h
    · rename_i hm; exact ⟨hr.1, hle u (List.mem_of_mem_take hm)⟩
    · refine ⟨hr.1, ?_⟩
      unfold hasB at h
      split at h
      · rename_i h1
        apply Classical.byContradiction
        intro hn
        have : x.testBit (u - 1).toNat = false := Nat.testBit_lt_two_pow (Nat.lt_of_lt_of_le hx (Nat.pow_le_pow_right (by decide) (by omega)))
        rw [show ((x, 0) : Nat × Nat).1 = x from rfl, this] at h
        cases h
      · split at h
        · rw [show ((x, 0) : Nat × Nat).2 = 0 from rfl, Nat.zero_testBit] at h; cases h
        · cases h
  have hok : okS (uniQ (minQ (x, 0) (ofS (l.take k))) a) := ofP_ok _
  refine ⟨?_, funext fun u => ?_⟩
  · refine Nat.lt_pow_two_of_testBit _ fun i hi => ?_
    cases h : (uniQ (minQ (x, 0) (ofS (l.take k))) a).1.testBit i with
    | false => rfl
    | true =>
      exfalso
      rcases Nat.lt_or_ge i 64 with g | g
      · have := hle2 ((i : Int) + 1) (by
          unfold hasB
          rw [if_pos (by omega), show ((i : Int) + 1 - 1).toNat = i by omega]
          exact h)
        omega
      · rw [Nat.testBit_lt_two_pow (Nat.lt_of_lt_of_le hok.1 (Nat.pow_le_pow_right (by decide) g))] at h
        cases h
  · rw [← hU]
    by_cases h1 : 1 ≤ u ∧ u ≤ 64
    · unfold hasB; rw [if_pos h1, if_pos h1]
    · cases h : hasB (uniQ (minQ (x, 0) (ofS (l.take k))) a) u with
      | true => have := hle2 u h; omega
      | false =>
        unfold hasB
        rw [if_neg h1]
        split
        · rw [show (((uniQ (minQ (x, 0) (ofS (l.take k))) a).1, 0) : Nat × Nat).2 = 0 from rfl, Nat.zero_testBit]
        · rfl
theorem part31_any (N : Nat) (hN : N ≤ 8) (F : VF) (l : List Int) (ho : okOrd l) (hle : ∀ v ∈ l, v ≤ N) (al : Option Addr) (cl : Nat) (hl : Heap) (hsl : SlT encI 1 al l hl) (aF : Option Addr) (cF : Nat) (hF : Heap) (hsF : SlT encBo 1 aF (tabX N F) hF) (k : Nat) (hk : k ≤ l.length) (a : Nat × Nat) (ha : okS a) (hak : ∀ u, hasB a u = true → u ∈ l.take k) (w : World) (hw1 : Holds (hl ++ hF) w) :
    Calls Try.prog 147 #[.agg ⟨[.int .i64 (N : Int), .slice aF (2 ^ N) cF]⟩, .slice al l.length cl, .int .i64 (k : Int), sv a] w (Gives (Sls encBo 1 4 (tabX N (leftF l F k a))) w) := by
  have h2n := pow8 hN
  have q0 : ∀ L, RdH (hl ++ hF) L hl := fun L => RdH.old fun _ hh => List.mem_append_left _ hh
  have q1 : ∀ L, RdH (hl ++ hF) L hF := fun L => RdH.old fun _ hh => List.mem_append_right _ hh
  have hll := ord_le l ho
  have htl := tabX_len N F
  refine calls_of_JC (R := (hl ++ hF)) Try.func147 Try.ntmps147 rfl rfl (hw1) ?_
  refine JC.seq ?_
  refine JC.region ?_
  refine J.isJ ?_
  refine J.o 6 ?_
  refine J.bx (fun b4 => ?_)
  refine J.isJ ?_
  refine J.o 6 ?_
  refine J.bx (fun b7 => ?_)
  repeat' first
    | (refine J.isJ ?_; first | ((refine J.o 7 ?_; refine J.al hΓ (fun b9 => ?_))) | (first | (refine J.o 0 ?_; refine J.ev' hΓ ?_) | refine J.nil ?_ | (refine J.o 4 ?_; first | refine J.lT default hΓ ?_ | refine J.lR hΓ ?_) | (refine J.o 3 ?_; first | refine J.iJ hΓ ?_ | refine J.ev' hΓ ?_) | (refine J.o 1 ?_; first | refine J.ad ?_) | (refine J.o 5 ?_; first | refine J.t0 hΓ ?_ | refine J.tT _ default hΓ (fun _ _ => ?_)) | (refine J.o 6 ?_; refine J.bx (fun _ => ?_)) | (refine J.o 7 ?_; refine J.al hΓ (fun _ => ?_)) | (refine J.o 8 ?_; refine J.bd hΓ ?_) | (refine J.o 10 ?_; refine J.ev' hΓ ?_) | (refine J.o 11 ?_; refine J.ev' hΓ ?_)))
    | (first | refine JC.seq ?_ | refine JC.region ?_ | refine JC.block ?_ | refine JC.ret ?_ | refine JC.exit ?_ | refine JC.skip ?_ | refine thenK.nn ?_ | refine thenK.x ?_ | refine blockK.nn ?_ | refine blockK.hit rfl ?_ | (refine JC.cond rfl (fun hc => ?_) (fun hc => ?_) <;> ((try simp only [decide_eq_true_eq, decide_eq_false_iff_not, beq_iff_eq, beq_eq_false_iff_ne, bne_iff_ne, bne_eq_false_iff_eq, Bool.not_eq_true', Bool.not_eq_false', Bool.not_eq_true, Bool.not_eq_false] at hc) <;> first | (first | (exact absurd rfl hc) | (exfalso; omega) | (exact absurd (hc.symm.trans (by assumption : _ = false)) (by decide)) | (exact absurd (hc.symm.trans (by assumption : _ = true)) (by decide))) | skip)) | refine drawK.nn ?_ | refine loopK.x ?_)
    | (fail)
    | fail
  all_goals first | (exfalso; omega) | skip
  refine JC.loop (fun i => i == 10 || (Nat.ble 14 i && Nat.ble i 24)) (fun m g L' => ∃ i : Nat, g 10 = .int .i64 (i : Int) ∧ i + m = k ∧ L' = [[(b9, setO (ofS (l.take i)))], [(b7, setO a)], [(b4, .cells ⟨[.int .i64 (N : Int), .slice aF (2 ^ N) cF]⟩ 45 (0, 0))]]) k ⟨0, rfl, by omega, rfl⟩ ?_
  rintro m g L' ⟨i, e10, him, rfl⟩
  refine JC.pin 10 e10 ?_
  unfold setO
  rcases Nat.lt_or_ge i k with hi | hi
  ·
    have cW := fun w => with3_any (ofS (l.take i)) (okS_of _ _ okS_zero) (l.getD i default) (ho.1 _ (mem_g l i (by omega))) w
    rw [← ofS_take l (by omega)] at cW
    repeat' first
      | (refine J.isJ ?_; first | (first | (refine J.o 4 ?_; first | refine J.lR hΓ ?_ (hr := Rd.hd) | refine J.lT default hΓ ?_ (hs := hsl) (hr := q0 _)) | (refine J.o 3 ?_; refine J.iJ hΓ ?_ (hs := hsl)) | (refine J.fc 89 ?_; refine J.call0 eWith3 rfl rfl (fun w hw => cW w) ?_) | (refine J.o 5 ?_; refine J.t0 hΓ ?_)) | (first | (refine J.o 0 ?_; refine J.ev' hΓ ?_) | refine J.nil ?_ | (refine J.o 4 ?_; first | refine J.lT default hΓ ?_ | refine J.lR hΓ ?_) | (refine J.o 3 ?_; first | refine J.iJ hΓ ?_ | refine J.ev' hΓ ?_) | (refine J.o 1 ?_; first | refine J.ad ?_) | (refine J.o 5 ?_; first | refine J.t0 hΓ ?_ | refine J.tT _ default hΓ (fun _ _ => ?_)) | (refine J.o 6 ?_; refine J.bx (fun _ => ?_)) | (refine J.o 7 ?_; refine J.al hΓ (fun _ => ?_)) | (refine J.o 8 ?_; refine J.bd hΓ ?_) | (refine J.o 10 ?_; refine J.ev' hΓ ?_) | (refine J.o 11 ?_; refine J.ev' hΓ ?_)))
      | (first | refine JC.seq ?_ | refine JC.region ?_ | refine JC.block ?_ | refine JC.ret ?_ | refine JC.exit ?_ | refine JC.skip ?_ | refine thenK.nn ?_ | refine thenK.x ?_ | refine blockK.nn ?_ | refine blockK.hit rfl ?_ | (refine JC.cond rfl (fun hc => ?_) (fun hc => ?_) <;> ((try simp only [decide_eq_true_eq, decide_eq_false_iff_not, beq_iff_eq, beq_eq_false_iff_ne, bne_iff_ne, bne_eq_false_iff_eq, Bool.not_eq_true', Bool.not_eq_false', Bool.not_eq_true, Bool.not_eq_false] at hc) <;> first | (first | (exact absurd rfl hc) | (exfalso; omega) | (exact absurd (hc.symm.trans (by assumption : _ = false)) (by decide)) | (exact absurd (hc.symm.trans (by assumption : _ = true)) (by decide))) | skip)) | refine drawK.nn ?_ | refine loopK.x ?_)
      | ((refine JC.drawO [(1,0),(0,1),(0,2),(0,3),(1,4),(1,5),(2,6)] (by decide +kernel) (by decide +kernel) ?_))
      | fail
    all_goals first | (exfalso; omega) | skip
    refine loopK.nn (m - 1) (by omega) (by repeat (first | refine Ag.upd rfl ?_ | exact Ag.hv)) ⟨i + 1, ?_, by omega, rfl⟩
    show Value.int .i64 _ = _; congr 1
  ·
    obtain rfl : i = k := by omega
    repeat' first
      | (refine J.isJ ?_; first | (first | (refine J.o 4 ?_; refine J.lR hΓ ?_ (hr := Rd.hd.tl.tl)) | (refine J.o 9 ?_; refine J.make (enc := encBo) (m := 2 ^ N) false hΓ rfl rfl rfl rfl rfl rfl (fun _ => rfl) (by omega) (by omega) (fun bp hp0 op0 => ?_))) | (first | (refine J.o 0 ?_; refine J.ev' hΓ ?_) | refine J.nil ?_ | (refine J.o 4 ?_; first | refine J.lT default hΓ ?_ | refine J.lR hΓ ?_) | (refine J.o 3 ?_; first | refine J.iJ hΓ ?_ | refine J.ev' hΓ ?_) | (refine J.o 1 ?_; first | refine J.ad ?_) | (refine J.o 5 ?_; first | refine J.t0 hΓ ?_ | refine J.tT _ default hΓ (fun _ _ => ?_)) | (refine J.o 6 ?_; refine J.bx (fun _ => ?_)) | (refine J.o 7 ?_; refine J.al hΓ (fun _ => ?_)) | (refine J.o 8 ?_; refine J.bd hΓ ?_) | (refine J.o 10 ?_; refine J.ev' hΓ ?_) | (refine J.o 11 ?_; refine J.ev' hΓ ?_)))
      | (first | refine JC.seq ?_ | refine JC.region ?_ | refine JC.block ?_ | refine JC.ret ?_ | refine JC.exit ?_ | refine JC.skip ?_ | refine thenK.nn ?_ | refine thenK.x ?_ | refine blockK.nn ?_ | refine blockK.hit rfl ?_ | (refine JC.cond rfl (fun hc => ?_) (fun hc => ?_) <;> ((try simp only [decide_eq_true_eq, decide_eq_false_iff_not, beq_iff_eq, beq_eq_false_iff_ne, bne_iff_ne, bne_eq_false_iff_eq, Bool.not_eq_true', Bool.not_eq_false', Bool.not_eq_true, Bool.not_eq_false] at hc) <;> first | (first | (exact absurd rfl hc) | (exfalso; omega) | (exact absurd (hc.symm.trans (by assumption : _ = false)) (by decide)) | (exact absurd (hc.symm.trans (by assumption : _ = true)) (by decide))) | skip)) | refine drawK.nn ?_ | refine loopK.x ?_)
      | (fail)
      | fail
    all_goals first | (exfalso; omega) | skip
    refine JC.loop (fun i => i == 12 || i == 13 || Nat.ble 29 i) (fun m g L' => ∃ q h', g 12 = .int .i64 ((q : Nat) : Int) ∧ q + m = 2 ^ N ∧ OwT encBo 1 4 (some ⟨bp, 0, none⟩) (2 ^ N) (fillL (fun x => leftF l F i a (hasB (x, 0))) (2 ^ N) q) h' ∧ L' = [h', [(b9, setO (ofS (l.take i)))], [(b7, setO a)], [(b4, .cells ⟨[.int .i64 (N : Int), .slice aF (2 ^ N) cF]⟩ 45 (0, 0))]]) (2 ^ N) ⟨0, _, rfl, by omega, by rw [fill_0]; exact op0, rfl⟩ ?_
    clear op0
    rintro m2 g2 L' ⟨q, h', e12, hqm, o4, rfl⟩
    refine JC.pin 12 e12 ?_
    unfold setO
    have hfl := fill_len (fun x => leftF l F i a (hasB (x, 0))) (N := 2 ^ N) (q := q) (by omega)
    have hrl : (List.replicate (2 ^ N) false).length = 2 ^ N := List.length_replicate
    rcases Nat.lt_or_ge q (2 ^ N) with hlt | hge
    ·
      obtain ⟨hp1, hp2⟩ := part_set (by omega) ho hle hk ha hak hlt
      have okx : okS (q, 0) := ⟨by show q < 2 ^ 64; exact Nat.lt_trans hlt (Nat.lt_of_le_of_lt h2n (by decide)), by show 0 < 2 ^ 64; decide⟩
      have cM := fun w => minus3_any (q, 0) (ofS (l.take i)) okx (okS_of _ _ okS_zero) w
      have cU := fun w => union3_any (minQ (q, 0) (ofS (l.take i))) a (ofP_ok _) ha w
      obtain ⟨z, hz⟩ : ∃ z, z = (uniQ (minQ (q, 0) (ofS (l.take i))) a).1 := ⟨_, rfl⟩
      have hget : (tabX N F).getD z default = leftF l F i a (hasB (q, 0)) := by
        rw [hz, tabX_get N F hp1, hp2]; rfl
      rw [← hz] at hp1
      have hzv : Value.int .u64 ((uniQ (minQ (q, 0) (ofS (l.take i))) a).1 : Int) = .int .u64 (z : Int) := by rw [hz]
      have hfs := fill_s (fun x => leftF l F i a (hasB (x, 0))) hlt
      repeat' first
        | (refine J.isJ ?_; first | (first | (refine J.o 4 ?_; first | refine J.lR hΓ ?_ (hr := Rd.hd.tl) | refine J.lR hΓ ?_ (hr := Rd.hd.tl.tl) | refine J.lR hΓ ?_ (hr := Rd.hd.tl.tl.tl) | (refine J.lT default hΓ ?_ (hs := hsF) (hr := q1 _); rw [hget])) | (refine J.o 2 ?_; first | (refine J.gcv (a := q) hΓ ?_ (hk := wU64 (by omega))) | (refine J.gcv (a := z) hΓ ?_ (hk := wI64 (by omega)))) | (refine J.fc 178 ?_; refine J.call0 eMinus3 rfl rfl (fun w hw => cM w) ?_) | (refine J.fc 177 ?_; refine J.call0 eUnion3 rfl rfl (fun w hw => cU w) ?_) | (refine J.o 12 ?_; refine J.xI hΓ ?_; rw [hzv]) | (refine J.o 3 ?_; first | refine J.iJ hΓ ?_ (hs := hsF) | refine J.iJ hΓ ?_ (hs := o4.sl)) | (refine J.o 5 ?_; refine J.tT (enc := encBo) (leftF l F i a (hasB (q, 0))) default hΓ (fun h5 o5 => ?_) (ho := o4))) | (first | (refine J.o 0 ?_; refine J.ev' hΓ ?_) | refine J.nil ?_ | (refine J.o 4 ?_; first | refine J.lT default hΓ ?_ | refine J.lR hΓ ?_) | (refine J.o 3 ?_; first | refine J.iJ hΓ ?_ | refine J.ev' hΓ ?_) | (refine J.o 1 ?_; first | refine J.ad ?_) | (refine J.o 5 ?_; first | refine J.t0 hΓ ?_ | refine J.tT _ default hΓ (fun _ _ => ?_)) | (refine J.o 6 ?_; refine J.bx (fun _ => ?_)) | (refine J.o 7 ?_; refine J.al hΓ (fun _ => ?_)) | (refine J.o 8 ?_; refine J.bd hΓ ?_) | (refine J.o 10 ?_; refine J.ev' hΓ ?_) | (refine J.o 11 ?_; refine J.ev' hΓ ?_)))
        | (first | refine JC.seq ?_ | refine JC.region ?_ | refine JC.block ?_ | refine JC.ret ?_ | refine JC.exit ?_ | refine JC.skip ?_ | refine thenK.nn ?_ | refine thenK.x ?_ | refine blockK.nn ?_ | refine blockK.hit rfl ?_ | (refine JC.cond rfl (fun hc => ?_) (fun hc => ?_) <;> ((try simp only [decide_eq_true_eq, decide_eq_false_iff_not, beq_iff_eq, beq_eq_false_iff_ne, bne_iff_ne, bne_eq_false_iff_eq, Bool.not_eq_true', Bool.not_eq_false', Bool.not_eq_true, Bool.not_eq_false] at hc) <;> first | (first | (exact absurd rfl hc) | (exfalso; omega) | (exact absurd (hc.symm.trans (by assumption : _ = false)) (by decide)) | (exact absurd (hc.symm.trans (by assumption : _ = true)) (by decide))) | skip)) | refine drawK.nn ?_ | refine loopK.x ?_)
        | ((refine JC.drawW [] [] (by kernel_rfl) (by kernel_rfl) ?_))
        | fail
      all_goals first | (exfalso; omega) | skip
      rw [hfs] at o5
      refine loopK.nn (m2 - 1) (by omega) (by repeat (first | refine Ag.upd rfl ?_ | exact Ag.hv)) ⟨q + 1, _, ?_, by omega, o5, rfl⟩
      show Value.int .i64 _ = _; congr 1
    ·
      obtain rfl : q = 2 ^ N := by omega
      rw [fill_n] at o4
      repeat' first
        | (refine J.isJ ?_; first | (first | (refine J.o 4 ?_; refine J.lR hΓ ?_ (hr := Rd.hd.tl.tl.tl))) | (first | (refine J.o 0 ?_; refine J.ev' hΓ ?_) | refine J.nil ?_ | (refine J.o 4 ?_; first | refine J.lT default hΓ ?_ | refine J.lR hΓ ?_) | (refine J.o 3 ?_; first | refine J.iJ hΓ ?_ | refine J.ev' hΓ ?_) | (refine J.o 1 ?_; first | refine J.ad ?_) | (refine J.o 5 ?_; first | refine J.t0 hΓ ?_ | refine J.tT _ default hΓ (fun _ _ => ?_)) | (refine J.o 6 ?_; refine J.bx (fun _ => ?_)) | (refine J.o 7 ?_; refine J.al hΓ (fun _ => ?_)) | (refine J.o 8 ?_; refine J.bd hΓ ?_) | (refine J.o 10 ?_; refine J.ev' hΓ ?_) | (refine J.o 11 ?_; refine J.ev' hΓ ?_)))
        | (first | refine JC.seq ?_ | refine JC.region ?_ | refine JC.block ?_ | refine JC.ret ?_ | refine JC.exit ?_ | refine JC.skip ?_ | refine thenK.nn ?_ | refine thenK.x ?_ | refine blockK.nn ?_ | refine blockK.hit rfl ?_ | (refine JC.cond rfl (fun hc => ?_) (fun hc => ?_) <;> ((try simp only [decide_eq_true_eq, decide_eq_false_iff_not, beq_iff_eq, beq_eq_false_iff_ne, bne_iff_ne, bne_eq_false_iff_eq, Bool.not_eq_true', Bool.not_eq_false', Bool.not_eq_true, Bool.not_eq_false] at hc) <;> first | (first | (exact absurd rfl hc) | (exfalso; omega) | (exact absurd (hc.symm.trans (by assumption : _ = false)) (by decide)) | (exact absurd (hc.symm.trans (by assumption : _ = true)) (by decide))) | skip)) | refine drawK.nn ?_ | refine loopK.x ?_)
        | (fail)
        | fail
      all_goals first | (exfalso; omega) | skip
      exact ret1f rfl rfl rfl (fun w1 hw => Gives.of (H.sel (l := [_, _, _, _]) (M := []) hw [0]) ⟨_, _, by rw [tabX_len], o4⟩)
end Go.Proofs.Ytbhgahjeocnfcaa
