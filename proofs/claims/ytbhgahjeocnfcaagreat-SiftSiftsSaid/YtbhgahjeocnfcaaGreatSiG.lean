/- SiftSifts: part 7. -/
import Derived.Test.YtbhgahjeocnfcaaGreatSiF
import Derived.RangeFuncNested
import Derived.RangeFuncBound
import Derived.RangeFuncCalls
import Derived.RangeFuncLeaves
import Derived.TacticsIn
import Derived.OrdersIn
import Derived.LoopNIn
namespace Go.Proofs.YtbhgahjeocnfcaaGreat
open Go Go.Cx Go.RowKit
set_option linter.unusedVariables false
set_option linter.unusedSimpArgs false
set_option maxHeartbeats 4000000
attribute [local irreducible] J JC thenK blockK loopK roundK drawK retK QW Qt pel List.set Calls
open Go.Maps Go.Lib
set_option maxRecDepth 8000
attribute [local irreducible] JE Br eK0 eK3 brK pc
section
variable {P : Program} {n : Nat} {w0 : World} {R : Heap} {l0 : List Oper} {K : Exit → Fr → List Heap → Prop} {f : Fr} {L : List Heap} {rest : List (Nat × Oper)} {κ : Nat}
variable {Γ : List (Nat × TI)} {d : Nat} {ty : TypeId} {pos : String} {aft : Array Edge} {g : Option (Nat × Bool)} {t e : TypeId} {x y : Operand} {a : Option Addr} {len cap : Nat}
theorem J.slG {ki : IntKind} {i : Int} (m sz : Nat) {s1 b1 : Nat} {z1 : Option Value} {te : TI} (hΓ : Fits P Γ)
    (kk : J P n w0 R l0 K rest (upd f d (.slice (if cap = m then a else a.map (·.add (m * sz))) (len - m) (cap - m))) L)
    (hg : wantB n f l0 ⟨some d, .slice t x (some y) none none, ty, pos, aft, g⟩ = true := by exact rfl) (hx : Cx.ev n f x = .slice a len cap := by exact rfl) (hy : Cx.ev n f y = .int ki i := by exact rfl) (ht : Go.Cx.look Γ t = some ⟨.slice e, s1, z1, b1⟩ := by exact rfl) (hte : Go.Cx.look Γ e = some te := by exact rfl) (hsz : te.size = sz := by exact rfl) (hm : i = (m : Int) := by omega) (h1 : m ≤ len := by omega) (h2 : len ≤ cap := by omega) :
    J P n w0 R l0 K ((κ, ⟨some d, .slice t x (some y) none none, ty, pos, aft, g⟩) :: rest) f L :=
  J.p hg (fun w => by
    subst hm
    subst hsz
    have hu : P.underlying t = some (.slice e) := (hΓ t _ ht).1
    have he : P.elem t = e := by unfold Program.elem; rw [hu]
    have hu' : P.underlying t = some (.slice (P.elem t)) := by rw [he]; exact hu
    have : (Instr.sliceAt t (.slice a len cap) (some (.int ki (m : Int))) none none).run P w = .ok (.slice (if cap = m then a else a.map (·.add (m * te.size))) (len - m) (cap - m)) w := by
      rw [run_sliceAt_slice w t _ _ _ _ hu', run_slice_l w t a len cap hu' ki (m : Int) (by omega) (by omega), he, sizeOf_run hΓ hte w]
      simp [sliced, Result.andThen]
    simp only [execOp, hx, hy, Sem.run_bind, Option.map_some, Option.map_none]
    rw [this]
    rfl) kk
end
structure BW where
  a : Option Addr
  c : Nat
  l : List Bool
instance : Inhabited BW := ⟨⟨none, 0, []⟩⟩
def encBW (v : BW) : List Value := [.slice v.a v.l.length v.c]
end Go.Proofs.YtbhgahjeocnfcaaGreat
namespace Go.Proofs.YtbhgahjeocnfcaaGreat
open Go Go.Cx Go.RowKit
set_option linter.unusedVariables false
set_option linter.unusedSimpArgs false
set_option maxHeartbeats 4000000
attribute [local irreducible] J JC thenK blockK loopK roundK drawK retK QW Qt pel List.set Calls
open Go.Maps Go.Lib
set_option maxRecDepth 8000
attribute [local irreducible] JE Br eK0 eK3 brK pc
theorem fn_lt {n : Nat} {ns : List N3} (w : WF n ns) {a b : Nat → Bool} : ∀ (m i : Nat), n - (nd ns i).p ≤ m → i < ns.length → (∀ k, k < n → a k = b k) → fn n ns i a = fn n ns i b
  | m, i, hm, hi, hab => by
    rcases Nat.lt_or_ge i 2 with h2 | h2
    · unfold fn; rw [ev_const _ _ _ h2, ev_const _ _ _ h2]
    · have hp := w.pl i h2 hi
      have hl := w.lp i h2 hi
      have hh := w.hp i h2 hi
      obtain ⟨m', rfl⟩ : ∃ m', m = m' + 1 := ⟨m - 1, by omega⟩
      rw [fn_node w a h2 hi, fn_node w b h2 hi, hab _ hp, fn_lt w m' _ (by omega) (w.ll i h2 hi) hab, fn_lt w m' _ (by omega) (w.hl i h2 hi) hab]
theorem fn_low {n : Nat} {ns : List N3} (w : WF n ns) {i : Nat} (h2 : 2 ≤ i) (hi : i < ns.length) {g : BF} (hg : ∀ α, fn n ns i α = g α) (α : Nat → Bool) : fn n ns (nd ns i).l α = g (up α (nd ns i).p false) := by
  rw [← hg, fn_node w _ h2 hi, up_eq]
  exact (fn_up w α false (w.ll i h2 hi) (w.lp i h2 hi)).symm
theorem fn_high {n : Nat} {ns : List N3} (w : WF n ns) {i : Nat} (h2 : 2 ≤ i) (hi : i < ns.length) {g : BF} (hg : ∀ α, fn n ns i α = g α) (α : Nat → Bool) : fn n ns (nd ns i).h α = g (up α (nd ns i).p true) := by
  rw [← hg, fn_node w _ h2 hi, up_eq]
  exact (fn_up w α true (w.hl i h2 hi) (w.hp i h2 hi)).symm
theorem Bel.size {n : Nat} {ns : List N3} (w : WF n ns) {a : Nat} (ha : a < ns.length) {l : List Int} (b : Bel ns a l) {g : BF} (hg : ∀ α, fn n ns a α = g α) : l.length = sizeT n (tabF n g) := by
  have : tab n ns a = tabF n g := by
    unfold tab blk tabF
    exact List.map_congr_left fun r _ => hg _
  rw [← this]
  exact size_eq w ha b.nodup b.mem
end Go.Proofs.YtbhgahjeocnfcaaGreat
namespace Go.Proofs.YtbhgahjeocnfcaaGreat
open Go Go.Cx Go.RowKit
set_option linter.unusedVariables false
set_option linter.unusedSimpArgs false
set_option maxHeartbeats 4000000
attribute [local irreducible] J JC thenK blockK loopK roundK drawK retK QW Qt pel List.set Calls
open Go.Maps Go.Lib
set_option maxRecDepth 8000
attribute [local irreducible] JE Br eK0 eK3 brK pc
abbrev VF := (Int → Bool) → Bool
def asgV (l : List Int) (β : Int → Bool) : Nat → Bool := fun k => β (l.getD k default)
def betaV (l : List Int) (α : Nat → Bool) : Int → Bool := fun v => match rk l v 0 with
  | some k => α k
  | none => false
theorem beta_at {l : List Int} (hn : l.Nodup) (α : Nat → Bool) {k : Nat} (hk : k < l.length) : betaV l α (l.getD k default) = α k := by
  unfold betaV; rw [rk_at hn hk]
theorem mem_at {l : List Int} {v : Int} (h : v ∈ l) : ∃ k, k < l.length ∧ l.getD k default = v := by
  obtain ⟨k, hk, e⟩ := List.mem_iff_getElem.1 h
  exact ⟨k, hk, by rw [List.getD_eq_getElem?_getD, List.getElem?_eq_getElem hk]; exact e⟩
def Says (ns : List N3) (l : List Int) (y : Nat) (F : VF) : Prop := y < ns.length ∧ ∀ β, fn l.length ns y (asgV l β) = F β
def gF (l : List Int) (F : VF) : BF := fun α => F (betaV l α)
theorem Says.fn {ns : List N3} {l : List Int} (hn : l.Nodup) (w : WF l.length ns) {y : Nat} {F : VF} (h : Says ns l y F) (α : Nat → Bool) : fn l.length ns y α = gF l F α := by
  unfold gF
  rw [← h.2]
  exact fn_lt w _ y (Nat.le_refl _) h.1 fun k hk => (beta_at hn α hk).symm
theorem Says.eq {ns : List N3} {l : List Int} (hn : l.Nodup) (w : WF l.length ns) {y z : Nat} {F : VF} (h : Says ns l y F) (g : Says ns l z F) : y = z :=
  w.eq h.1 g.1 fun α => by rw [h.fn hn w, g.fn hn w]
def ovr (k : Nat) (γ α : Nat → Bool) : Nat → Bool := fun i => if i < k then γ i else α i
theorem fn_ovr {n : Nat} {ns : List N3} (w : WF n ns) {j k : Nat} (γ α : Nat → Bool) (hj : j < ns.length) (hk : k ≤ (nd ns j).p) : fn n ns j (ovr k γ α) = fn n ns j α :=
  fn_dep w _ j (Nat.le_refl _) hj fun i hi => by unfold ovr; rw [if_neg (by omega)]
theorem fn_low2 {n : Nat} {ns : List N3} (w : WF n ns) {i : Nat} (h2 : 2 ≤ i) (hi : i < ns.length) (α : Nat → Bool) : fn n ns (nd ns i).l α = fn n ns i (up α (nd ns i).p false) := fn_low w h2 hi (g := fn n ns i) (fun _ => rfl) α
theorem fn_high2 {n : Nat} {ns : List N3} (w : WF n ns) {i : Nat} (h2 : 2 ≤ i) (hi : i < ns.length) (α : Nat → Bool) : fn n ns (nd ns i).h α = fn n ns i (up α (nd ns i).p true) := fn_high w h2 hi (g := fn n ns i) (fun _ => rfl) α
theorem rch_fn {n : Nat} {ns : List N3} (w : WF n ns) {r : Nat} (hr : r < ns.length) {j : Nat} (h : Rch ns r j) : ∃ γ : Nat → Bool, ∀ α, fn n ns j α = fn n ns r (ovr (nd ns j).p γ α) := by
  induction h with
  | refl => exact ⟨fun _ => false, fun α => (fn_ovr w _ α hr (Nat.le_refl _)).symm⟩
  | @low j h h2 ih =>
    obtain ⟨γ, ih⟩ := ih
    have hj := h.lt w hr
    have hl := w.ll j h2 hj
    have hp := w.lp j h2 hj
    refine ⟨fun i => if i < (nd ns j).p then γ i else false, fun α => ?_⟩
    rw [← fn_ovr w (fun _ => false) α hl (Nat.le_refl _), fn_low2 w h2 hj, ih]
    congr 1
    funext i
    unfold ovr up
    dsimp only
    by_cases h1 : i < (nd ns j).p
    · rw [if_pos h1, if_pos (show i < (nd ns (nd ns j).l).p by omega), if_pos h1]
    · rw [if_neg h1, if_neg h1]
      by_cases h3 : i = (nd ns j).p
      · rw [if_pos h3, if_pos (by omega)]
      · rw [if_neg h3]
  | @high j h h2 ih =>
    obtain ⟨γ, ih⟩ := ih
    have hj := h.lt w hr
    have hl := w.hl j h2 hj
    have hp := w.hp j h2 hj
    refine ⟨fun i => if i < (nd ns j).p then γ i else decide (i = (nd ns j).p), fun α => ?_⟩
    rw [← fn_ovr w (fun _ => false) α hl (Nat.le_refl _), fn_high2 w h2 hj, ih]
    congr 1
    funext i
    unfold ovr up
    dsimp only
    by_cases h1 : i < (nd ns j).p
    · rw [if_pos h1, if_pos (show i < (nd ns (nd ns j).h).p by omega), if_pos h1]
    · rw [if_neg h1, if_neg h1]
      by_cases h3 : i = (nd ns j).p
      · rw [if_pos h3, if_pos (by omega), decide_eq_true h3]
      · rw [if_neg h3, decide_eq_false h3]
theorem fn_rch {n : Nat} {ns : List N3} (w : WF n ns) {r : Nat} (hr : r < ns.length) (γ : Nat → Bool) : ∀ k, k ≤ n → ∃ j, Rch ns r j ∧ k ≤ (nd ns j).p ∧ ∀ α, fn n ns j α = fn n ns r (ovr k γ α)
  | 0, _ => ⟨r, .refl, Nat.zero_le _, fun α => by
      have : ovr 0 γ α = α := by funext i; unfold ovr; rw [if_neg (Nat.not_lt_zero _)]
      rw [this]⟩
  | k + 1, hk => by
    obtain ⟨j, h1, h2, h3⟩ := fn_rch w hr γ k (by omega)
    have hj := h1.lt w hr
    have e : ∀ α, ovr (k + 1) γ α = ovr k γ (up α k (γ k)) := fun α => by
      funext i
      unfold ovr up
      by_cases g1 : i < k
      · rw [if_pos (by omega), if_pos g1]
      · rw [if_neg g1]
        by_cases g2 : i = k
        · rw [if_pos (by omega), if_pos g2, g2]
        · rw [if_neg (by omega), if_neg g2]
    rcases Nat.lt_or_ge k (nd ns j).p with hlt | hge
    · exact ⟨j, h1, hlt, fun α => by rw [e, ← h3, fn_up w α _ hj hlt]⟩
    · have hp : (nd ns j).p = k := by omega
      have hj2 := w.nonconst (show (nd ns j).p < n by omega)
      have hl := w.lp j hj2 hj
      have hh := w.hp j hj2 hj
      cases hg : γ k with
      | false => exact ⟨(nd ns j).l, h1.low hj2, by omega, fun α => by rw [e, ← h3, fn_low2 w hj2 hj, hp, hg]⟩
      | true => exact ⟨(nd ns j).h, h1.high hj2, by omega, fun α => by rw [e, ← h3, fn_high2 w hj2 hj, hp, hg]⟩
def restr (P : List Int) (γ β : Int → Bool) : Int → Bool := fun v => if v ∈ P then γ v else β v
theorem ord_zero {l : List Int} (ho : okOrd l) : (default : Int) ∉ l := fun h => by
  have := ho.1 _ h
  have e : (default : Int) = 0 := rfl
  omega
theorem getD_inj {l : List Int} (hn : l.Nodup) {i k : Nat} (hi : i < l.length) (hk : k < l.length) (e : l.getD i default = l.getD k default) : i = k := by
  have h1 := rk_at hn hi
  rw [e, rk_at hn hk] at h1
  injection h1 with h1
  exact h1.symm
theorem take_at {l : List Int} (hn : l.Nodup) {i k : Nat} (hi : i < l.length) (hk : k ≤ l.length) : l.getD i default ∈ l.take k ↔ i < k := by
  constructor
  · intro h
    obtain ⟨j, hj, e⟩ := List.mem_iff_getElem.1 h
    rw [List.length_take] at hj
    have hjl : j < l.length := by omega
    have e2 : l.getD j default = l.getD i default := by
      rw [List.getElem_take] at e
      rw [← e, List.getD_eq_getElem?_getD, List.getElem?_eq_getElem hjl]; rfl
    have := getD_inj hn hjl hi e2
    omega
  · intro h
    rw [List.getD_eq_getElem?_getD, List.getElem?_eq_getElem hi]
    exact List.mem_iff_getElem.2 ⟨i, by rw [List.length_take]; omega, by rw [List.getElem_take]; rfl⟩
theorem Says.restr {ns : List N3} {l : List Int} (hn : l.Nodup) (w : WF l.length ns) {r : Nat} {F : VF} (h : Says ns l r F) {k : Nat} (hk : k ≤ l.length) (γ : Nat → Bool) (β : Int → Bool) : Go.Proofs.YtbhgahjeocnfcaaGreat.fn l.length ns r (ovr k γ (asgV l β)) = F (Go.Proofs.YtbhgahjeocnfcaaGreat.restr (l.take k) (betaV l γ) β) := by
  rw [← h.2]
  refine fn_lt w _ r (Nat.le_refl _) h.1 fun i hi => ?_
  unfold ovr asgV Go.Proofs.YtbhgahjeocnfcaaGreat.restr
  by_cases h1 : i < k
  · rw [if_pos h1, if_pos ((take_at hn hi hk).2 h1), beta_at hn γ hi]
  · rw [if_neg h1, if_neg (fun g => h1 ((take_at hn hi hk).1 g))]
def Left (l : List Int) (F : VF) (k : Nat) (G : VF) : Prop := ∃ γ : Int → Bool, ∀ β, G β = F (restr (l.take k) γ β)
theorem rch_left {ns : List N3} {l : List Int} (hn : l.Nodup) (w : WF l.length ns) {r : Nat} {F : VF} (h : Says ns l r F) {j : Nat} (hr : Rch ns r j) : Left l F (nd ns j).p (fun β => fn l.length ns j (asgV l β)) := by
  obtain ⟨γ, hg⟩ := rch_fn w h.1 hr
  exact ⟨betaV l γ, fun β => by dsimp only; rw [hg, h.restr hn w (w.ple (hr.lt w h.1))]⟩
theorem left_rch {ns : List N3} {l : List Int} (hn : l.Nodup) (w : WF l.length ns) {r : Nat} {F : VF} (h : Says ns l r F) {k : Nat} (hk : k ≤ l.length) {G : VF} (hl : Left l F k G) : ∃ j, Rch ns r j ∧ k ≤ (nd ns j).p ∧ Says ns l j G := by
  obtain ⟨γ, hg⟩ := hl
  obtain ⟨j, h1, h2, h3⟩ := fn_rch w h.1 (asgV l γ) k hk
  refine ⟨j, h1, h2, h1.lt w h.1, fun β => ?_⟩
  rw [h3, h.restr hn w hk, hg]
  congr 1
  funext v
  unfold Go.Proofs.YtbhgahjeocnfcaaGreat.restr
  by_cases hv : v ∈ l.take k
  · rw [if_pos hv, if_pos hv]
    obtain ⟨i, hi, e⟩ := mem_at (List.mem_of_mem_take hv)
    rw [← e, beta_at hn _ hi]
    rfl
  · rw [if_neg hv, if_neg hv]
def Deps (F : VF) (v : Int) : Prop := ∃ β : Int → Bool, F (fun u => if u = v then false else β u) ≠ F (fun u => if u = v then true else β u)
theorem asg_upd {l : List Int} (ho : okOrd l) {k : Nat} (hk : k < l.length) (b : Bool) (β : Int → Bool) : asgV l (fun u => if u = l.getD k default then b else β u) = up (asgV l β) k b := by
  funext i
  unfold asgV up
  dsimp only
  rcases Nat.lt_or_ge i l.length with hi | hi
  · by_cases h : i = k
    · rw [h, if_pos rfl, if_pos rfl]
    · have : l.getD i default ≠ l.getD k default := fun e => h (getD_inj ho.2 hi hk e)
      rw [if_neg this, if_neg h]
  · have hd : l.getD i default = (default : Int) := by rw [List.getD_eq_getElem?_getD, List.getElem?_eq_none hi]; rfl
    have hz : (default : Int) ≠ l.getD k default := fun e => ord_zero ho (by rw [e]; exact mem_g l k hk)
    rw [if_neg (show ¬ i = k by omega), hd, if_neg hz]
theorem Says.top {ns : List N3} {l : List Int} (ho : okOrd l) (w : WF l.length ns) {j : Nat} {G : VF} (h : Says ns l j G) {k : Nat} (hk : k < l.length) (hkp : k ≤ (nd ns j).p) : (nd ns j).p = k ↔ Deps G (l.getD k default) := by
  constructor
  · intro e
    have h2 := w.nonconst (show (nd ns j).p < l.length by omega)
    apply Classical.byContradiction
    intro hd
    refine w.ne j h2 h.1 (w.eq (w.ll j h2 h.1) (w.hl j h2 h.1) fun α => ?_)
    rw [fn_low2 w h2 h.1, fn_high2 w h2 h.1, e]
    have hα : ∀ b, Go.Proofs.YtbhgahjeocnfcaaGreat.fn l.length ns j (up α k b) = G (fun u => if u = l.getD k default then b else betaV l α u) := fun b => by
      rw [← h.2, asg_upd ho hk]
      refine fn_lt w _ j (Nat.le_refl _) h.1 fun i hi => ?_
      unfold up
      split
      · rfl
      · exact (beta_at ho.2 α hi).symm
    rw [hα, hα]
    apply Classical.byContradiction
    intro hne
    exact hd ⟨betaV l α, hne⟩
  · rintro ⟨β, hne⟩
    rcases Nat.lt_or_ge k (nd ns j).p with g | g
    · exfalso
      apply hne
      rw [← h.2, ← h.2, asg_upd ho hk, asg_upd ho hk, fn_up w _ _ h.1 g, fn_up w _ _ h.1 g]
    · omega
end Go.Proofs.YtbhgahjeocnfcaaGreat
namespace Go.Proofs.YtbhgahjeocnfcaaGreat
open Go Go.Cx Go.RowKit
set_option linter.unusedVariables false
set_option linter.unusedSimpArgs false
set_option maxHeartbeats 4000000
attribute [local irreducible] J JC thenK blockK loopK roundK drawK retK QW Qt pel List.set Calls
open Go.Maps Go.Lib
set_option maxRecDepth 8000
attribute [local irreducible] JE Br eK0 eK3 brK pc
def encK (k : Nat) : List Value := [.int .u8 (k : Int)]
def OrdV (n : Nat) (v : Value) (h : Heap) : Prop := ∃ a l c, v = .slice a l.length c ∧ l.Perm (ints n) ∧ OwT encI 1 3 a c l h
theorem pickP {l : List Int} {k : Nat} (hk : k < l.length) : (l.getD k default :: (l.take k ++ l.drop (k + 1))).Perm l := by
  have h1 := (List.take_append_drop k l).symm
  rw [drop_g l k hk] at h1
  conv => rhs; rw [h1]
  exact List.perm_middle.symm
theorem order31_any (n : Nat) (hn : n ≤ 128) (ks : List Nat) (ak : Option Addr) (ck : Nat) (hk : Heap) (hs : SlT encK 1 ak ks hk) (hkl : ks.length ≤ 9223372036854775807) (hkb : ∀ k ∈ ks, k < 256) (w : World) (hw1 : Holds hk w) :
    Calls Tryz.prog 7 #[.int .i64 (n : Int), .slice ak ks.length ck] w (Gives (OrdV n) w) := by
  have q0 : ∀ L, RdH hk L hk := fun L => RdH.old fun _ hh => hh
  have hil := ints_len n
  refine calls_of_JC (R := hk) Tryz.func7 Tryz.ntmps7 rfl rfl (hw1) ?_
  repeat' first
    | (refine J.isJ ?_; first | ((refine J.fc 24 ?_; refine J.call1 eUpTo rfl rfl (fun w hw => upTo_any n (by omega) w) ?_; rintro _ hR ⟨aR, cR, rfl, oR⟩)) | (first | (refine J.o 0 ?_; refine J.ev' hΓ ?_) | refine J.nil ?_ | (refine J.o 4 ?_; first | refine J.lT default hΓ ?_) | (refine J.o 3 ?_; first | refine J.iJ hΓ ?_ | refine J.ev' hΓ ?_) | (refine J.o 1 ?_; first | refine J.ad ?_) | (refine J.o 9 ?_; refine J.bl hΓ (fun _ => ?_)) | (refine J.o 10 ?_; refine J.ev' hΓ ?_) | (refine J.o 11 ?_; refine J.ev' hΓ ?_)))
    | (first | refine JC.seq ?_ | refine JC.region ?_ | refine JC.block ?_ | refine JC.ret ?_ | refine JC.exit ?_ | refine JC.skip ?_ | refine thenK.nn ?_ | refine thenK.x ?_ | refine blockK.nn ?_ | refine blockK.hit rfl ?_ | (refine JC.cond rfl (fun hc => ?_) (fun hc => ?_) <;> ((try simp only [decide_eq_true_eq, decide_eq_false_iff_not, beq_iff_eq, beq_eq_false_iff_ne, bne_iff_ne, bne_eq_false_iff_eq, Bool.not_eq_true', Bool.not_eq_false', Bool.not_eq_true, Bool.not_eq_false] at hc) <;> first | (first | (exact absurd rfl hc) | (exfalso; omega) | (exact absurd (hc.symm.trans (by assumption : _ = false)) (by decide)) | (exact absurd (hc.symm.trans (by assumption : _ = true)) (by decide))) | skip)) | refine drawK.nn ?_ | refine loopK.x ?_)
    | (fail)
    | fail
  all_goals first | (exfalso; omega) | skip
  refine JC.nilF ?_
  refine JC.loop (fun i => i == 5 || i == 6 || i == 7 || i == 8 || Nat.ble 11 i) (fun m g L => ∃ (i : Nat) (out rest : List Int) (aO : Option Addr) (cO : Nat) (hO : Heap) (aR : Option Addr) (cR : Nat) (hR : Heap), g 7 = .int .i64 (i : Int) ∧ g 6 = .slice aO out.length cO ∧ g 5 = .slice aR rest.length cR ∧ rest.length = m ∧ i + m = n ∧ (out ++ rest).Perm (ints n) ∧ OwT encI 1 3 aO cO out hO ∧ OwT encI 1 3 aR cR rest hR ∧ L = [hO, hR]) n ⟨0, [], ints n, none, 0, [], aR, cR, hR, rfl, rfl, rfl, hil, by omega, by rw [List.nil_append], OwT.nil (fun _ => rfl), oR, rfl⟩ ?_
  clear oR
  rintro m g L ⟨i, out, rest, aO, cO, hO, aR, cR, hR, e7, e6, e5, hrm, him, hpm, oO, oR, rfl⟩
  refine JC.pin 7 e7 (JC.pin 6 e6 (JC.pin 5 e5 ?_))
  have hol : out.length + rest.length = n := by have := hpm.length_eq; rw [List.length_append, hil] at this; exact this
  have hcR := own_le oR
  rcases Nat.eq_zero_or_pos rest.length with h0 | h0
  ·
    repeat' first
      | (refine J.isJ ?_; first | (fail) | (first | (refine J.o 0 ?_; refine J.ev' hΓ ?_) | refine J.nil ?_ | (refine J.o 4 ?_; first | refine J.lT default hΓ ?_) | (refine J.o 3 ?_; first | refine J.iJ hΓ ?_ | refine J.ev' hΓ ?_) | (refine J.o 1 ?_; first | refine J.ad ?_) | (refine J.o 9 ?_; refine J.bl hΓ (fun _ => ?_)) | (refine J.o 10 ?_; refine J.ev' hΓ ?_) | (refine J.o 11 ?_; refine J.ev' hΓ ?_)))
      | (first | refine JC.seq ?_ | refine JC.region ?_ | refine JC.block ?_ | refine JC.ret ?_ | refine JC.exit ?_ | refine JC.skip ?_ | refine thenK.nn ?_ | refine thenK.x ?_ | refine blockK.nn ?_ | refine blockK.hit rfl ?_ | (refine JC.cond rfl (fun hc => ?_) (fun hc => ?_) <;> ((try simp only [decide_eq_true_eq, decide_eq_false_iff_not, beq_iff_eq, beq_eq_false_iff_ne, bne_iff_ne, bne_eq_false_iff_eq, Bool.not_eq_true', Bool.not_eq_false', Bool.not_eq_true, Bool.not_eq_false] at hc) <;> first | (first | (exact absurd rfl hc) | (exfalso; omega) | (exact absurd (hc.symm.trans (by assumption : _ = false)) (by decide)) | (exact absurd (hc.symm.trans (by assumption : _ = true)) (by decide))) | skip)) | refine drawK.nn ?_ | refine loopK.x ?_)
      | (fail)
      | fail
    all_goals first | (exfalso; omega) | skip
    have hr : rest = [] := List.eq_nil_of_length_eq_zero h0
    rw [hr, List.append_nil] at hpm
    exact ret1f rfl rfl rfl (fun w1 hw => Gives.of (H.sel (l := [_, _]) (M := []) hw [0]) ⟨_, _, _, rfl, hpm, oO⟩)
  ·
    obtain ⟨q, hq⟩ : ∃ q, q = if i < ks.length then ks.getD i default % rest.length else 0 := ⟨_, rfl⟩
    have hqr : q < rest.length := by rw [hq]; split; exact Nat.mod_lt _ h0; exact h0
    have hpk := pickP hqr
    have hnew : ((out ++ [rest.getD q default]) ++ (rest.take q ++ rest.drop (q + 1))).Perm (ints n) := by
      refine List.Perm.trans ?_ hpm
      rw [List.append_assoc]
      exact List.Perm.append_left _ hpk
    have hnl : (rest.take q ++ rest.drop (q + 1)).length = m - 1 := by rw [List.length_append, List.length_take, List.length_drop]; omega
    have hsT := slT_take oR.sl q
    have hsD := slT_drop oR.sl (q + 1) cR hcR
    have htl : (rest.take q).length = q := by rw [List.length_take]; omega
    have hdl : (rest.drop (q + 1)).length = rest.length - (q + 1) := List.length_drop
    by_cases hi : i < ks.length
    ·
      rw [if_pos hi] at hq
      have hkm := hkb _ (mem_g ks i hi)
      have hq2 : Value.int .i64 ((ks.getD i default % rest.length : Nat) : Int) = .int .i64 (q : Int) := by rw [hq]
      repeat' first
        | (refine J.isJ ?_; first | (first | (refine J.o 3 ?_; first | refine J.iJ hΓ ?_ (hs := hs) | refine J.iJ hΓ ?_ (hs := oR.sl)) | (refine J.o 4 ?_; first | refine J.lT default hΓ ?_ (hs := hs) (hr := q0 _) | refine J.lT default hΓ ?_ (hs := oR.sl) (hr := RdH.hd.tl) | refine J.lT default hΓ ?_ (hs := oR.sl) (hr := RdH.hd)) | (refine J.o 2 ?_; refine J.gcv hΓ ?_ (hk := wI64 (by omega))) | (refine J.o 1 ?_; refine J.grem (a := ks.getD i default) (b := rest.length) ?_; rw [hq2]) | (refine J.o 13 ?_; first | refine J.slF (m := q) hΓ ?_ | refine J.slG (q + 1) 1 hΓ ?_) | (refine J.o 9 ?_; first | (refine J.apA hΓ (lit_nil _ _) (us := rest.take q) hsT RdH.hd.tl.tl (fun a3 c3 h3 o3 => ?_); rw [List.nil_append] at o3; rw [List.nil_append]) | refine J.apA hΓ o3 (us := rest.drop (q + 1)) hsD RdH.hd.tl.tl (fun a4 c4 h4 o4 => ?_)) | (refine J.o 9 ?_; first | (first | (refine J.ap1 (enc := encI) [rest.getD q default] hΓ (fun a2 c2 h2 o2 => ?_))))) | (first | (refine J.o 0 ?_; refine J.ev' hΓ ?_) | refine J.nil ?_ | (refine J.o 4 ?_; first | refine J.lT default hΓ ?_) | (refine J.o 3 ?_; first | refine J.iJ hΓ ?_ | refine J.ev' hΓ ?_) | (refine J.o 1 ?_; first | refine J.ad ?_) | (refine J.o 9 ?_; refine J.bl hΓ (fun _ => ?_)) | (refine J.o 10 ?_; refine J.ev' hΓ ?_) | (refine J.o 11 ?_; refine J.ev' hΓ ?_)))
        | (first | refine JC.seq ?_ | refine JC.region ?_ | refine JC.block ?_ | refine JC.ret ?_ | refine JC.exit ?_ | refine JC.skip ?_ | refine thenK.nn ?_ | refine thenK.x ?_ | refine blockK.nn ?_ | refine blockK.hit rfl ?_ | (refine JC.cond rfl (fun hc => ?_) (fun hc => ?_) <;> ((try simp only [decide_eq_true_eq, decide_eq_false_iff_not, beq_iff_eq, beq_eq_false_iff_ne, bne_iff_ne, bne_eq_false_iff_eq, Bool.not_eq_true', Bool.not_eq_false', Bool.not_eq_true, Bool.not_eq_false] at hc) <;> first | (first | (exact absurd rfl hc) | (exfalso; omega) | (exact absurd (hc.symm.trans (by assumption : _ = false)) (by decide)) | (exact absurd (hc.symm.trans (by assumption : _ = true)) (by decide))) | skip)) | refine drawK.nn ?_ | refine loopK.x ?_)
        | ((first | refine JC.drawO [(0,1),(0,2),(0,3),(0,5),(0,6),(0,7),(0,8),(3,0),(2,4),(2,9),(0,10)] (by decide +kernel) (by decide +kernel) ?_ | refine JC.drawO [(0,1),(0,2),(0,3),(0,5),(0,6),(0,7),(0,8),(2,0),(2,4),(2,9),(0,10)] (by decide +kernel) (by decide +kernel) ?_ | refine JC.drawO [(0,1),(0,2),(0,3),(0,5),(0,6),(0,7),(0,8),(3,0),(3,4),(3,9),(0,10)] (by decide +kernel) (by decide +kernel) ?_))
        | fail
      all_goals first | (exfalso; omega) | skip
      refine loopK.np (m - 1) [hR] [h2, h4] (by omega) (by repeat (first | refine Ag.upd rfl ?_ | exact Ag.hv)) (List.reverse_perm [hR, h2, h4]) ⟨i + 1, out ++ [rest.getD q default], rest.take q ++ rest.drop (q + 1), a2, c2, h2, a4, c4, h4, ?_, rfl, rfl, hnl, by omega, hnew, o2, o4, rfl⟩
      show Value.int .i64 _ = _; congr 1
    ·
      rw [if_neg hi] at hq
      have hq2 : Value.int .i64 0 = .int .i64 (q : Int) := by rw [hq]; rfl
      subst hq
      repeat' first
        | (refine J.isJ ?_; first | (first | (refine J.o 3 ?_; first | refine J.iJ hΓ ?_ (hs := oR.sl)) | (refine J.o 4 ?_; first | refine J.lT default hΓ ?_ (hs := oR.sl) (hr := RdH.hd.tl) | refine J.lT default hΓ ?_ (hs := oR.sl) (hr := RdH.hd)) | (refine J.o 13 ?_; first | refine J.slF (m := 0) hΓ ?_ | refine J.slG (0 + 1) 1 hΓ ?_) | (refine J.o 9 ?_; first | (refine J.apA hΓ (lit_nil _ _) (us := rest.take 0) hsT RdH.hd.tl.tl (fun a3 c3 h3 o3 => ?_); rw [List.nil_append] at o3; rw [List.nil_append]) | refine J.apA hΓ o3 (us := rest.drop (0 + 1)) hsD RdH.hd.tl.tl (fun a4 c4 h4 o4 => ?_)) | (refine J.o 9 ?_; first | (first | (refine J.ap1 (enc := encI) [rest.getD 0 default] hΓ (fun a2 c2 h2 o2 => ?_))))) | (first | (refine J.o 0 ?_; refine J.ev' hΓ ?_) | refine J.nil ?_ | (refine J.o 4 ?_; first | refine J.lT default hΓ ?_) | (refine J.o 3 ?_; first | refine J.iJ hΓ ?_ | refine J.ev' hΓ ?_) | (refine J.o 1 ?_; first | refine J.ad ?_) | (refine J.o 9 ?_; refine J.bl hΓ (fun _ => ?_)) | (refine J.o 10 ?_; refine J.ev' hΓ ?_) | (refine J.o 11 ?_; refine J.ev' hΓ ?_)))
        | (first | refine JC.seq ?_ | refine JC.region ?_ | refine JC.block ?_ | refine JC.ret ?_ | refine JC.exit ?_ | refine JC.skip ?_ | refine thenK.nn ?_ | refine thenK.x ?_ | refine blockK.nn ?_ | refine blockK.hit rfl ?_ | (refine JC.cond rfl (fun hc => ?_) (fun hc => ?_) <;> ((try simp only [decide_eq_true_eq, decide_eq_false_iff_not, beq_iff_eq, beq_eq_false_iff_ne, bne_iff_ne, bne_eq_false_iff_eq, Bool.not_eq_true', Bool.not_eq_false', Bool.not_eq_true, Bool.not_eq_false] at hc) <;> first | (first | (exact absurd rfl hc) | (exfalso; omega) | (exact absurd (hc.symm.trans (by assumption : _ = false)) (by decide)) | (exact absurd (hc.symm.trans (by assumption : _ = true)) (by decide))) | skip)) | refine drawK.nn ?_ | refine loopK.x ?_)
        | ((first | refine JC.drawO [(0,1),(0,2),(0,3),(0,5),(0,6),(0,7),(0,8),(3,0),(2,4),(2,9),(0,10)] (by decide +kernel) (by decide +kernel) ?_ | refine JC.drawO [(0,1),(0,2),(0,3),(0,5),(0,6),(0,7),(0,8),(2,0),(2,4),(2,9),(0,10)] (by decide +kernel) (by decide +kernel) ?_ | refine JC.drawO [(0,1),(0,2),(0,3),(0,5),(0,6),(0,7),(0,8),(3,0),(3,4),(3,9),(0,10)] (by decide +kernel) (by decide +kernel) ?_))
        | fail
      all_goals first | (exfalso; omega) | skip
      refine loopK.np (m - 1) [hR] [h2, h4] (by omega) (by repeat (first | refine Ag.upd rfl ?_ | exact Ag.hv)) (List.reverse_perm [hR, h2, h4]) ⟨i + 1, out ++ [rest.getD 0 default], rest.take 0 ++ rest.drop (0 + 1), a2, c2, h2, a4, c4, h4, ?_, rfl, rfl, hnl, by omega, hnew, o2, o4, rfl⟩
      show Value.int .i64 _ = _; congr 1
end Go.Proofs.YtbhgahjeocnfcaaGreat
namespace Go.Proofs.YtbhgahjeocnfcaaGreat
open Go Go.Cx Go.RowKit
set_option linter.unusedVariables false
set_option linter.unusedSimpArgs false
set_option maxHeartbeats 4000000
attribute [local irreducible] J JC thenK blockK loopK roundK drawK retK QW Qt pel List.set Calls
theorem c_u8 : Tryz.prog.cellsOf 5 = 1 := by kernel_rfl
theorem c_ints : Tryz.prog.cellsOf 28 = 1 := by kernel_rfl
theorem c_intss : Tryz.prog.cellsOf 22 = 1 := by kernel_rfl
theorem c_th : Tryz.prog.cellsOf 24 = 2 := by kernel_rfl
theorem reads_u8 (W : World) : Reads Tryz.prog W 5 encK (fun k => k < 256) := by
  intro A ec base spare held fuel cs x h
  obtain ⟨k, e0, g0⟩ := reads_int Tryz.underlying5 A ec base spare held fuel cs x h
  obtain ⟨k', rfl, hk⟩ := u8_wf g0
  exact ⟨k', e0, hk⟩
theorem reads_u8s (W : World) : Reads Tryz.prog W 25 (encSl (α := Nat)) (GoodSl W encK 1 (fun k => k < 256)) :=
  reads_slice Tryz.underlying25 c_u8 (by decide) (fun _ => rfl) (reads_u8 W)
def toHV (s : Sl Int) : HV := ⟨s.a, s.cap, s.ts⟩
theorem slT_hv {a : Option Addr} {ts : List (Sl Int)} {h : Heap} (hs : SlT encSl 1 a ts h) : SlT encHV 1 a (ts.map toHV) h := by
  refine ⟨fun _ => rfl, fun i hi => ?_⟩
  obtain ⟨b, off, cs, e, fr, h1, h2, h3, h4⟩ := hs.at_ i (by simpa using hi)
  exact ⟨b, off, cs, e, fr, h1, h2, h3, by rw [h4, List.getElem_map]; rfl⟩
structure ThI where
  n : Int
  a : Option Addr
  c : Nat
  vs : List HV
def encTh (v : ThI) : List Value := [.int .i64 v.n, .slice v.a v.vs.length v.c]
structure ThIn (W : World) (v : ThI) : Prop where
  l : LLR v.a v.vs (heapOf W)
  n : -9223372036854775808 ≤ v.n ∧ v.n ≤ 9223372036854775807
  m : v.vs.length ≤ 9223372036854775807
theorem reads_th (W : World) : Reads Tryz.prog W 24 encTh (ThIn W) := by
  intro A ec base spare held fuel cs x h
  obtain ⟨hl, hp⟩ := reads_parts Tryz.underlying24 h
  rw [c_th] at hl
  obtain ⟨k, e0, g0⟩ := hp 0 0 rfl c_int (reads_int Tryz.underlying3)
  obtain ⟨l, e1, g1⟩ := hp 1 1 rfl c_intss (reads_slice Tryz.underlying22 c_ints (by decide) (fun _ => rfl) (reads_ints W))
  clear h hp
  match cs, hl with
  | [c0, c1], _ =>
    simp [encSl] at e0 e1
    subst e0; subst e1
    have hm : l.ts.length ≤ 9223372036854775807 := by have := g1.cap; unfold maxLen at this; omega
    refine ⟨⟨k, l.a, l.cap, l.ts.map toHV⟩, by unfold encTh; rw [List.length_map], ⟨slT_hv g1.sl, fun v hv => ?_⟩, i64_wf g0, by show (l.ts.map toHV).length ≤ _; rw [List.length_map]; exact hm⟩
    obtain ⟨s, hs, rfl⟩ := List.mem_map.1 hv
    exact (g1.all s hs).sl
end Go.Proofs.YtbhgahjeocnfcaaGreat
namespace Go.Cx
open Go Go.RowKit
set_option linter.unusedVariables false
set_option linter.unusedSimpArgs false
def FR (r : Option Nat) : Fence := { Fence.wide with round := r }
theorem oper_in {P : Program} {r : Option Nat} {m : Nat} {o : Oper} {a : Act} {w : World} {next : Act → World → Prop} {Q : Exit → Act → World → Prop} (hd : ∀ c, o.op ≠ .defer c) (h : o.wp P a w next Q) : o.wpIn (FR r) m P a w next Q := by
  refine ⟨fun _ _ => trivial, ?_⟩
  rw [Oper.semAt_eq _ _ _ hd]
  unfold Oper.wp at h
  cases hr : (execOp a.eval o).run P w with
  | ok x w' =>
    rw [hr] at h
    cases x with
    | value v => exact h
    | skip => exact h
    | defer d => exact h
    | enter f args =>
      refine ⟨fun h => (by cases h), ?_⟩
      have h1 : CallsIn Fence.wide (m - 1) P f args w' _ := callsIn_wide.2 h
      have h2 : CallsIn (FR r) (m - 1) P f args w' _ := h1
      refine h2.mono fun e w'' hh => ?_
      cases e <;> exact hh
    | row row args =>
      refine ⟨fun h => (by cases h), ?_⟩
      intro c cs _
      obtain ⟨v, w'', r1, s1⟩ := h c cs
      exact ⟨v, w'', r1, stepsIn_wide.2 s1⟩
    | _ => exact h.elim
  | halt x w' =>
    rw [hr] at h
    cases x <;> exact h
theorem LX.plainIn {P : Program} {r : Option Nat} {m : Nat} {ops : Array Oper} {Q : Exit → Act → World → Prop} : ∀ {l : List Oper} {a : Act} {C : World → Prop}, (∀ o ∈ l, ∀ c, o.op ≠ .defer c) → LX P ops Q (zipK [] l) a C → ∀ w, C w → wpListIn (FR r) m P ops Q l a w
  | [], a, C, _, h, w, hw => h w hw
  | o :: l, a, C, hd, h, w, hw => by
    have h1 : lop P ops Q o (fun a' w' => ∃ C' : World → Prop, ((0 : Nat) ≠ 0 → ∀ w, C' w → C w) ∧ C' w' ∧ LX P ops Q (zipK [] l) a' C') a w := h w hw
    have hd2 : ∀ x ∈ l, ∀ c, x.op ≠ .defer c := fun x hx => hd x (List.mem_cons_of_mem _ hx)
    unfold lop at h1
    unfold wpListIn
    split
    · rename_i hg
      rw [if_pos hg] at h1
      exact oper_in (hd o List.mem_cons_self) (Oper.wp_mono (fun a' w' ⟨C', _, hC, hl⟩ => LX.plainIn hd2 hl w' hC) h1)
    · rename_i hg
      rw [if_neg hg] at h1
      obtain ⟨C', _, hC, hl⟩ := h1
      exact ⟨fun _ _ => trivial, LX.plainIn hd2 hl w hC⟩
def noDefer (l : List Oper) : Bool := l.all fun o => match o.op with | .defer _ => false | _ => true
theorem noDefer_ok {l : List Oper} (h : noDefer l = true) : ∀ o ∈ l, ∀ c, o.op ≠ .defer c := fun o ho c e => by
  have := List.all_eq_true.1 h o ho
  rw [e] at this
  cases this
def JR (rd : Option Nat) (m : Nat) (P : Program) (n : Nat) (w0 : World) (R : Heap) (c : Code) (K : Exit → Fr → List Heap → Prop) (f : Fr) (L : List Heap) : Prop :=
  ∀ a w, Rep n f a → H w0 R L w → c.wpIn (FR rd) m P (QW n w0 R K) a w
section
variable {rd : Option Nat} {m : Nat} {P : Program} {n : Nat} {w0 : World} {R : Heap} {l0 : List Oper} {K : Exit → Fr → List Heap → Prop} {f : Fr} {L : List Heap} {o : Oper} {rest : List (Nat × Oper)} {κ : Nat}
def thenR (rd : Option Nat) (m : Nat) (P : Program) (n : Nat) (w0 : World) (R : Heap) (y : Code) (K : Exit → Fr → List Heap → Prop) : Exit → Fr → List Heap → Prop
  | .normal, f, L => JR rd m P n w0 R y K f L
  | e, f, L => K e f L
theorem JR.seq {x y : Code} (h : JR rd m P n w0 R x (thenR rd m P n w0 R y K) f L) : JR rd m P n w0 R (.seq x y) K f L := fun a w ha hw => by
  refine wpIn_seq (wpIn_mono (h a w ha hw) ?_)
  intro e a' w' q
  cases e <;> first | exact q | (obtain ⟨f', L', ha', hw', hk⟩ := q; first | exact hk a' w' ha' hw' | exact ⟨f', L', ha', hw', hk⟩)
theorem JR.skip (h : K .normal f L) : JR rd m P n w0 R .skip K f L := fun _ _ ha hw => wpIn_skip ⟨f, L, ha, hw, h⟩
theorem JR.exit {id : Nat} (h : K (.exit id) f L) : JR rd m P n w0 R (.exit id) K f L := fun _ _ ha hw => wpIn_exit ⟨f, L, ha, hw, h⟩
theorem JR.region {id : Nat} {l : List Oper} (hd : noDefer l = true) (h : J P n w0 R l K (zipK [] l) f L) : JR rd m P n w0 R (.region id l.toArray false) K f L := fun a w ha hw => wpIn_region_lit (LX.plainIn (noDefer_ok hd) (h a ha) w hw)
theorem JR.condT {c : Operand} {x y : Code} (hc : ev n f c = .bool true) (ht : JR rd m P n w0 R x K f L) : JR rd m P n w0 R (.cond c x y) K f L := fun a w ha hw =>
  wpIn_cond_true (by rw [ha.eval]; exact hc) (ht a w ha hw)
theorem JR.condF {c : Operand} {x y : Code} (hc : ev n f c = .bool false) (ht : JR rd m P n w0 R y K f L) : JR rd m P n w0 R (.cond c x y) K f L := fun a w ha hw =>
  wpIn_cond_false (by rw [ha.eval]; exact hc) (ht a w ha hw)
theorem JR.cond {c : Operand} {x y : Code} {b : Bool} (hc : ev n f c = .bool b) (ht : b = true → JR rd m P n w0 R x K f L) (hf : b = false → JR rd m P n w0 R y K f L) : JR rd m P n w0 R (.cond c x y) K f L := fun a w ha hw =>
  wpIn_cond_split (by rw [ha.eval]; exact hc) (fun hb => ht hb a w ha hw) (fun hb => hf hb a w ha hw)
theorem JR.block {id : Nat} {c : Code} (h : JR rd m P n w0 R c (blockK id K) f L) : JR rd m P n w0 R (.block id c) K f L := fun a w ha hw => by
  refine wpIn_block (wpIn_mono (h a w ha hw) ?_)
  intro e a' w' q
  cases e with
  | exit i =>
    obtain ⟨f', L', ha', hw', hk⟩ := q
    simp only [Exit.inBlock]
    by_cases hi : i = id
    · subst hi
      rw [if_pos rfl]
      have : Nat.beq i i = true := by simp
      simp only [blockK, this, cond_true] at hk
      exact ⟨f', L', ha', hw', hk⟩
    · rw [if_neg hi]
      have : Nat.beq i id = false := by
        cases hb : Nat.beq i id
        · rfl
        · exact absurd (Nat.eq_of_beq_eq_true hb) hi
      simp only [blockK, this, cond_false] at hk
      exact ⟨f', L', ha', hw', hk⟩
  | _ => exact q
theorem thenR.nn {y : Code} (h : JR rd m P n w0 R y K f L) : thenR rd m P n w0 R y K .normal f L := h
theorem thenR.x {y : Code} {id : Nat} (h : K (.exit id) f L) : thenR rd m P n w0 R y K (.exit id) f L := h
theorem JR.pin {c : Code} (i : Nat) {v : Value} (e : f i = v) (k : JR rd m P n w0 R c K (upd f i v) L) : JR rd m P n w0 R c K f L := by
  have : upd f i v = f := funext fun j => by
    by_cases h : j = i
    · subst h; rw [upd_same, e]
    · exact upd_ne f v h
  rw [this] at k
  exact k
end
end Go.Cx
namespace Go.Cx
open Go Go.RowKit
set_option linter.unusedVariables false
set_option linter.unusedSimpArgs false
def dfr (ds : List Deferred) (a : Act) : Act := { a with defers := a.defers ++ ds }
theorem dfr_nil (a : Act) : dfr [] a = a := by unfold dfr; rw [List.append_nil]
theorem dfr_put (ds : List Deferred) (a : Act) (d : Option Tmp) (v : Value) : (dfr ds a).put d v = dfr ds (a.put d v) := by cases d <;> rfl
theorem oper_dfr {P : Program} {ds : List Deferred} {o : Oper} {a : Act} {w : World} {next next' : Act → World → Prop} {Q Q' : Exit → Act → World → Prop} (hn : ∀ a w, next a w → next' (dfr ds a) w) (hp : ∀ c a w, ¬ Q (.panic c) a w) (hl : ∀ a w, ¬ Q .outgrown a w) (h : o.wp P a w next Q) : o.wp P (dfr ds a) w next' Q' := by
  unfold Oper.wp at *
  have he : (dfr ds a).eval = a.eval := rfl
  rw [he]
  generalize (execOp a.eval o).run P w = r at *
  cases r with
  | ok x w' =>
    cases x <;> simp only [Oper.upon] at h ⊢ <;>
      first
        | (rw [dfr_put]; exact hn _ _ h)
        | exact (by have := hn _ _ h; rw [← dfr_put] at this; exact this)
        | exact Calls.mono h (fun e w'' he => by cases e <;> first | (have := hn _ _ he; rw [← dfr_put] at this; exact this) | exact absurd he (hp _ _ _) | (obtain ⟨a, w, h⟩ := he; exact absurd h (hl _ _)))
        | exact Rows.mono h (fun _ _ he => by have := hn _ _ he; rw [← dfr_put] at this; exact this)
        | exact h.elim
  | halt x w' => cases x <;> simp only [Oper.upon] at h ⊢ <;> first | exact absurd h (hp _ _ _) | exact h.elim
section
variable {ds : List Deferred} {m : Nat} {P : Program} {n : Nat} {w0 : World} {R : Heap} {l0 : List Oper} {K : Exit → Fr → List Heap → Prop} {f : Fr} {L : List Heap} {o : Oper} {fuel : Nat} {listed : Array Bool} {Q : Exit → Act → World → Prop}
def JA (ds : List Deferred) (m : Nat) (P : Program) (n : Nat) (w0 : World) (R : Heap) (l0 : List Oper) (Q : Exit → Act → World → Prop) (fuel : Nat) (listed : Array Bool) (f : Fr) (L : List Heap) : Prop :=
  ∀ a w, Rep n f a → H w0 R L w → wpAnyIn (FR none) m P .any l0.toArray Q fuel listed (dfr ds a) w
theorem JA.start {id : Nat} (hm : P.follows .mixedOrders = true) (h : JA ds m P n w0 R l0 Q l0.length (Array.replicate l0.length false) f L) {a : Act} {w : World} (ha : Rep n f a) (hw : H w0 R L w) : (Code.region id l0.toArray true).wpIn (FR none) m P Q (dfr ds a) w := by
  refine wpIn_region_any hm ?_
  have := h a _ ha (hw.drew (w.drawn + 1))
  simpa using this
theorem JA.done (hr : Region.ready .any l0.toArray listed = []) (h : ∀ a w, Rep n f a → H w0 R L w → Q .normal (dfr ds a) w) : JA ds m P n w0 R l0 Q fuel listed f L := fun a w ha hw => wpAnyIn_done hr (h a w ha hw) fuel
def JO (ds : List Deferred) (m : Nat) (P : Program) (n : Nat) (w0 : World) (R : Heap) (l0 : List Oper) (Q : Exit → Act → World → Prop) (fuel : Nat) (listed : Array Bool) (f : Fr) (L : List Heap) (i : Nat) : Prop :=
  ∀ a w, Rep n f a → H w0 R L w → wpOpIn (FR none) m P l0.toArray Q i (wpAnyIn (FR none) m P .any l0.toArray Q fuel (listed.setIfInBounds i true)) (dfr ds a) w
theorem JA.all {rs : List Nat} (hr : Region.ready .any l0.toArray listed = rs) (hne : rs ≠ []) (h : ∀ i ∈ rs, JO ds m P n w0 R l0 Q fuel listed f L i) : JA ds m P n w0 R l0 Q (fuel + 1) listed f L := fun a w ha hw => wpAnyIn_all hr hne fun i hi => h i hi a w ha hw
theorem JA.one {i : Nat} (hr : Region.ready .any l0.toArray listed = [i]) (h : JO ds m P n w0 R l0 Q fuel listed f L i) : JA ds m P n w0 R l0 Q (fuel + 1) listed f L := JA.all hr (by simp) fun j hj => by rw [List.mem_singleton.1 hj]; exact h
theorem JA.two {i j : Nat} (hr : Region.ready .any l0.toArray listed = [i, j]) (h : JO ds m P n w0 R l0 Q fuel listed f L i) (k : JO ds m P n w0 R l0 Q fuel listed f L j) : JA ds m P n w0 R l0 Q (fuel + 1) listed f L := JA.all hr (by simp) fun x hx => by
  rcases List.mem_cons.1 hx with rfl | hx
  · exact h
  · rw [List.mem_singleton.1 hx]; exact k
def nextK (ds : List Deferred) (m : Nat) (P : Program) (n : Nat) (w0 : World) (R : Heap) (l0 : List Oper) (Q : Exit → Act → World → Prop) (fuel : Nat) (listed : Array Bool) : Exit → Fr → List Heap → Prop
  | .normal, f, L => JA ds m P n w0 R l0 Q fuel listed f L
  | _, _, _ => False
theorem nextK.nn (h : JA ds m P n w0 R l0 Q fuel listed f L) : nextK ds m P n w0 R l0 Q fuel listed .normal f L := h
theorem JO.of {i : Nat} (hi : l0.toArray[i]? = some o) (hd : ∀ c, o.op ≠ .defer c) (h : J P n w0 R l0 (nextK ds m P n w0 R l0 Q fuel (listed.setIfInBounds i true)) [(2, o)] f L) : JO ds m P n w0 R l0 Q fuel listed f L i := fun a w ha hw => by
  have h1 := h a ha w hw
  have hnext : ∀ a' w', (∃ C' : World → Prop, ((0 : Nat) ≠ 0 → ∀ w, C' w → H w0 R L w) ∧ C' w' ∧ LX P l0.toArray (QW n w0 R (nextK ds m P n w0 R l0 Q fuel (listed.setIfInBounds i true))) [] a' C') → wpAnyIn (FR none) m P .any l0.toArray Q fuel (listed.setIfInBounds i true) (dfr ds a') w' := fun a' w' ⟨C', _, hC, hl⟩ => by
    obtain ⟨f', L', ha', hw', hk⟩ := hl w' hC
    exact hk a' w' ha' hw'
  unfold wpOpIn
  rw [hi]
  unfold lop at h1
  dsimp only
  have hwa : Region.wanted o (yielded l0.toArray (dfr ds a).tmps) = Region.wanted o (yielded l0.toArray a.tmps) := rfl
  rw [hwa]
  split
  · rename_i hg
    rw [if_pos hg] at h1
    exact oper_in hd (oper_dfr hnext (fun c a w q => by obtain ⟨_, _, _, _, q⟩ := q; exact q.elim) (fun a w q => q) h1)
  · rename_i hg
    rw [if_neg hg] at h1
    refine ⟨fun _ _ => trivial, ?_⟩
    rw [dfr_put]
    exact hnext _ _ h1
theorem JA.quiet {i : Nat} (hi : l0.toArray[i]? = some o) (hs : Region.noSelect l0.toArray = true) (hf : Region.free .any l0.toArray listed i = true) (hr : (Region.ready .any l0.toArray listed).contains i = true) (hab : ∀ (w : World) (a : Act), o.about P w a.eval = none) (hQ : ∀ c a w, ¬ Q (.panic c) a w) (h : J P n w0 R l0 (nextK ds m P n w0 R l0 Q fuel (listed.setIfInBounds i true)) [(0, o)] f L) : JA ds m P n w0 R l0 Q (fuel + 1) listed f L := fun a w ha hw => by
  obtain ⟨v, hy, hl⟩ := h a ha
  obtain ⟨f', L', ha', hw', hk⟩ := hl w hw
  refine wpAnyIn_take rfl hi hs hf hr (fun c a w q => absurd q (hQ _ _ _)) (v := v) ⟨hy, fun w => hab w (dfr ds a)⟩ ?_
  rw [dfr_put]
  exact hk _ _ ha' hw'
theorem yield_run {l : Nat} {x : Operand} {xs : List Operand} {ats : Array TypeId} {vs : List Value} {dst : Option Tmp} {ty : TypeId} {pos : String} {aft : Array Edge} {g : Option (Nat × Bool)} (hx : Cx.ev n f x = .func (.yield l) ⟨[]⟩ ⟨[]⟩) (ha : argsEv (Cx.ev n f) xs = some vs) (w : World) :
    (execOp (Cx.ev n f) ⟨dst, .call ⟨.value x, ⟨xs⟩, ats⟩, ty, pos, aft, g⟩).run P w = (Instr.yield l ⟨vs⟩).run P w := by
  have h1 : (⟨xs⟩ : Array Operand).map (Cx.ev n f) = ⟨vs⟩ := by rw [← argsEv_eq ha]; simp
  simp only [execOp, resolve, h1, hx, Deferred.ofValue, Sem.run_bind, Sem.run_pure, Result.andThen_ok, invoke]
  simp
theorem JO.yield {i l d : Nat} {x : Operand} {xs : List Operand} {ats : Array TypeId} {vs : List Value} {ty : TypeId} {pos : String} {aft : Array Edge} {g : Option (Nat × Bool)} {Φ : Value → List Heap → Prop} (hi : l0.toArray[i]? = some ⟨some d, .call ⟨.value x, ⟨xs⟩, ats⟩, ty, pos, aft, g⟩) (hg : wantB n f l0 ⟨some d, .call ⟨.value x, ⟨xs⟩, ats⟩, ty, pos, aft, g⟩ = true) (hx : Cx.ev n f x = .func (.yield l) ⟨[]⟩ ⟨[]⟩) (ha : argsEv (Cx.ev n f) xs = some vs)
    (hy : ∀ w, H w0 R L w → ∃ fn tmps assign body, (Instr.yield l ⟨vs⟩).run P w = .ok (.round l fn tmps assign body) w ∧ RoundIn (FR none) (m - 1) P l fn tmps assign body w fun e w' => ∃ v L', e = .returned v ∧ H w0 R L' w' ∧ Φ v L')
    (k : ∀ v L', Φ v L' → JA ds m P n w0 R l0 Q fuel (listed.setIfInBounds i true) (upd f d v) L') : JO ds m P n w0 R l0 Q fuel listed f L i := fun a w hra hw => by
  unfold wpOpIn
  rw [hi]
  dsimp only
  have hwa : (dfr ds a).tmps = a.tmps := rfl
  rw [hwa, if_pos ((hra.wanted l0 ⟨some d, .call ⟨.value x, ⟨xs⟩, ats⟩, ty, pos, aft, g⟩).trans hg)]
  refine ⟨fun _ _ => trivial, ?_⟩
  have he : (dfr ds a).eval = a.eval := rfl
  rw [Oper.semAt_eq _ _ _ (fun c => by intro h; cases h), he, hra.eval, yield_run hx ha]
  obtain ⟨fn, tmps, assign, body, hr, hround⟩ := hy w hw
  rw [hr]
  refine ⟨fun h => (by cases h), hround.mono ?_⟩
  rintro e w' ⟨v, L', rfl, hw', hP⟩
  show wpAnyIn _ _ _ _ _ _ _ _ _ _
  rw [dfr_put]
  exact k v L' hP _ _ (hra.put (some d) v) hw'
theorem JA.meet {fuel' : Nat} {listed' : Array Bool} (M : Fr → Fr → List Heap → Prop) (fin : ∀ g Lx, M f g Lx → JA ds m P n w0 R l0 Q fuel' listed' g Lx) (h : (∀ g Lx, M f g Lx → JA ds m P n w0 R l0 Q fuel' listed' g Lx) → JA ds m P n w0 R l0 Q fuel listed f L) : JA ds m P n w0 R l0 Q fuel listed f L := h fin
theorem JA.perm {L' : List Heap} (hp : L.Perm L') (k : JA ds m P n w0 R l0 Q fuel listed f L') : JA ds m P n w0 R l0 Q fuel listed f L := fun a w ha hw => k a w ha (hw.perm hp)
theorem JA.pin (i : Nat) {v : Value} (e : f i = v) (k : JA ds m P n w0 R l0 Q fuel listed (upd f i v) L) : JA ds m P n w0 R l0 Q fuel listed f L := by
  have : upd f i v = f := funext fun j => by
    by_cases h : j = i
    · subst h; rw [upd_same, e]
    · exact upd_ne f v h
  rw [this] at k
  exact k
theorem JA.at {listed' : Array Bool} (hl : listed = listed') (k : JA ds m P n w0 R l0 Q fuel listed' f L) : JA ds m P n w0 R l0 Q fuel listed f L := hl ▸ k
theorem JA.fin (hr : Region.ready .any l0.toArray listed = []) (hk : K .normal f L) : JA [] m P n w0 R l0 (QW n w0 R K) fuel listed f L := JA.done hr fun a w ha hw => by
  rw [dfr_nil]
  exact ⟨f, L, ha, hw, hk⟩
end
end Go.Cx
namespace Go.Cx
open Go Go.RowKit
set_option linter.unusedVariables false
set_option linter.unusedSimpArgs false
theorem H.turn {w0 w : World} {R : Heap} {L : List Heap} {b : Nat} {o : Obj} (o' : Obj) (h : H w0 R ([(b, o)] :: L) w) : H w0 R ([(b, o')] :: L) (w.putObj b o') := by
  have hb := h.rd (Rd.hd (R := R) (L := L) (g := b) (o := o))
  exact h.grew (grownBy_putObj' w b o') (World.putObj_heap_same (Array.getElem?_eq_some_iff.1 hb).1)
section
variable {m : Nat} {P : Program} {n : Nat} {w0 : World} {R : Heap} {f : Fr} {L : List Heap} {l : Nat} {r : Loop}
def rndK (w0 : World) (R : Heap) (l : Nat) (r : Loop) (Φ : Value → List Heap → Prop) : Exit → Fr → List Heap → Prop
  | .normal, _, L => ∃ L2, (∀ w, H w0 R L w → H w0 R ([(l, .loop { r with state := .busy })] :: L2) w) ∧ Φ (.bool true) ([(l, .loop { r with state := .ready, pending := none })] :: L2)
  | .ret, _, L => ∃ L2, (∀ w, H w0 R L w → H w0 R ([(l, .loop { r with state := .busy })] :: L2) w) ∧ Φ (.bool false) ([(l, .loop { r with state := .done, pending := some .ret })] :: L2)
  | .exit id, _, L => ∃ L2, (∀ w, H w0 R L w → H w0 R ([(l, .loop { r with state := .busy })] :: L2) w) ∧ Φ (.bool false) ([(l, .loop { r with state := .done, pending := some (.exit id) })] :: L2)
  | _, _, _ => False
def asgK (m : Nat) (P : Program) (n : Nat) (w0 : World) (R : Heap) (l : Nat) (r : Loop) (Φ : Value → List Heap → Prop) : Exit → Fr → List Heap → Prop
  | .normal, f, L => ∃ L2, (∀ w, H w0 R L w → H w0 R ([(l, .loop r)] :: L2) w) ∧ JR (some l) m P n w0 R r.body (rndK w0 R l r Φ) f ([(l, .loop { r with state := .busy })] :: L2)
  | _, _, _ => False
theorem round_any {vs : List Value} {Φ : Value → List Heap → Prop} (hst : r.state = .ready) (hsz : vs.length = r.params.size) (ha0 : Rep n f { tmps := (r.params.zip ⟨vs⟩).foldl (fun tmps (t, a) => tmps.setIfInBounds t a) r.tmps, defers := [] })
    (hasg : JR (some l) m P n w0 R r.assign (asgK m P n w0 R l r Φ) f ([(l, .loop r)] :: L)) {w : World} (hw : H w0 R ([(l, .loop r)] :: L) w) :
    ∃ fn tmps assign body, (Instr.yield l ⟨vs⟩).run P w = .ok (.round l fn tmps assign body) w ∧ RoundIn (FR none) m P l fn tmps assign body w fun e w' => ∃ v L', e = .returned v ∧ H w0 R L' w' ∧ Φ v L' := by
  have hl := hw.rd (Rd.hd (R := R) (L := L) (g := l) (o := .loop r))
  refine ⟨_, _, _, _, run_yield (P := P) (args := ⟨vs⟩) hl hsz, roundIn_of_wpIn (F := FR none) trivial ?_⟩
  refine wpIn_mono (hasg _ w ha0 hw) ?_
  intro e a1 w1 q
  cases e with
  | normal =>
    obtain ⟨f1, L1, ha1, hw1, L2, hto, hbody⟩ := q
    have hw2 := hto w1 hw1
    have hl2 := hw2.rd (Rd.hd (R := R) (L := L2) (g := l) (o := .loop r))
    refine ⟨_, run_beginRound hl2 hst, ?_⟩
    have hw3 := H.turn (.loop { r with state := .busy }) hw2
    refine wpIn_mono (hbody a1 _ ha1 hw3) ?_
    intro e a3 w3 q
    have fin : ∀ (jump : Option Code) (L4 : List Heap), H w0 R ([(l, .loop { r with state := .busy })] :: L4) w3 →
        (Instr.endRound l jump).run P w3 = .ok (.bool jump.isNone) (w3.putObj l (.loop { r with state := if jump.isNone then .ready else .done, pending := jump })) ∧ H w0 R ([(l, .loop { r with state := if jump.isNone then .ready else .done, pending := jump })] :: L4) (w3.putObj l (.loop { r with state := if jump.isNone then .ready else .done, pending := jump })) := fun jump L4 h4 =>
      ⟨run_endRound (r := { r with state := .busy }) jump (h4.rd (Rd.hd (R := R) (L := L4) (g := l) (o := .loop { r with state := .busy }))), H.turn _ h4⟩
    cases e with
    | normal =>
      obtain ⟨f3, L3, ha3, hw3, L4, hto, hP⟩ := q
      obtain ⟨h1, h2⟩ := fin none L4 (hto _ hw3)
      exact ⟨_, _, h1, _, _, rfl, h2, hP⟩
    | ret =>
      obtain ⟨f3, L3, ha3, hw3, L4, hto, hP⟩ := q
      obtain ⟨h1, h2⟩ := fin (some .ret) L4 (hto _ hw3)
      exact ⟨_, _, h1, _, _, rfl, h2, hP⟩
    | exit id =>
      obtain ⟨f3, L3, ha3, hw3, L4, hto, hP⟩ := q
      obtain ⟨h1, h2⟩ := fin (some (.exit id)) L4 (hto _ hw3)
      exact ⟨_, _, h1, _, _, rfl, h2, hP⟩
    | goto t => obtain ⟨_, _, _, _, q⟩ := q; exact q.elim
    | panic c => obtain ⟨_, _, _, _, q⟩ := q; exact q.elim
    | outgrown => exact q.elim
  | ret => obtain ⟨_, _, _, _, q⟩ := q; exact q.elim
  | exit id => obtain ⟨_, _, _, _, q⟩ := q; exact q.elim
  | goto t => obtain ⟨_, _, _, _, q⟩ := q; exact q.elim
  | panic c => obtain ⟨_, _, _, _, q⟩ := q; exact q.elim
  | outgrown => exact q.elim
def recL (fn : FuncId) (tmps : Array Value) (ps : Array Tmp) (assign body : Code) (D : Nat) : Loop := { state := .ready, pending := none, fn, tmps, params := ps, assign, body, defers := D }
theorem rangeF_any {g : Operand} {ps : Array Tmp} {assign body : Code} {gf : FuncId} {lb : List Value} {Q : Exit → Act → World → Prop} {Ψ : List Heap → Prop} (hg : Cx.ev n f g = .func (.func gf) ⟨[]⟩ ⟨lb⟩) (he : Entr P gf)
    (hit : ∀ (fn D : Nat) (tmps : Array Value) (w1 : World), Rep n f { tmps := tmps, defers := [] } → H w0 R ([(D + 1, .loop (recL fn tmps ps assign body D))] :: [(D, .deferred (some []))] :: L) w1 →
      CallsIn (FR none) (m - 1) P gf ⟨.func (.yield (D + 1)) ⟨[]⟩ ⟨[]⟩ :: lb⟩ w1 fun e w' => ∃ v L', e = .returned v ∧ H w0 R ([(D + 1, .loop (recL fn tmps ps assign body D))] :: [(D, .deferred (some []))] :: L') w' ∧ Ψ L')
    (hk : ∀ (D : Nat) L', Ψ L' → ∀ a w, Rep n f a → H w0 R ([(D, .deferred (some []))] :: L') w → Q .normal (dfr [{ target := .collected D, args := #[] }] a) w)
    {a : Act} {w : World} (ha : Rep n f a) (hw : H w0 R L w) : (Code.rangeFunc g ps assign body).wpIn (FR none) m P Q a w := by
  refine wpIn_rangeFunc fun fn _ => ?_
  have h1 := hw.alloc (.deferred (some []))
  have h2 := h1.alloc (.loop (recL fn a.tmps ps assign body w.heap.size))
  rw [World.size_alloc] at h2
  have ha2 : Rep n f { tmps := a.tmps, defers := [] } := ⟨ha.1, rfl, ha.2.2⟩
  have hda : a.defers = [] := ha.2.1
  have hga : a.eval g = .func (.func gf) ⟨[]⟩ ⟨lb⟩ := by rw [ha.eval]; exact hg
  obtain ⟨W1, hW1⟩ : ∃ W1, (w.alloc (.deferred (some []))).alloc (.loop (recL fn a.tmps ps assign body w.heap.size)) = W1 := ⟨_, rfl⟩
  rw [hW1] at h2
  refine ⟨w.heap.size + 1, [{ target := .collected w.heap.size, args := #[] }], W1, { target := .fn (.func gf) ⟨lb⟩, args := #[.func (.yield (w.heap.size + 1)) #[] #[]] }, W1, gf, ⟨.func (.yield (w.heap.size + 1)) ⟨[]⟩ ⟨[]⟩ :: lb⟩, W1, ?_, ?_, fun _ _ => trivial, ?_, fun h => (by cases h), ?_⟩
  · rw [← hW1]; exact run_enterLoop_outer fn a.tmps ps assign body
  · simp only [resolve, hga]
    simp [go_sem]
  · have := he ⟨.func (.yield (w.heap.size + 1)) ⟨[]⟩ ⟨[]⟩ :: lb⟩ W1
    simpa [invoke, go_sem] using this
  · refine (hit fn w.heap.size a.tmps W1 ha2 h2).mono ?_
    rintro e w' ⟨v, L', rfl, hw', hP⟩
    have hl := hw'.rd (Rd.hd (R := R) (L := [(w.heap.size, .deferred (some []))] :: L') (g := w.heap.size + 1) (o := .loop (recL fn a.tmps ps assign body w.heap.size)))
    refine ⟨none, _, run_endLoop (r := recL fn a.tmps ps assign body w.heap.size) hl (by intro h; cases h), ?_⟩
    have h3 := (H.turn (.loop { recL fn a.tmps ps assign body w.heap.size with state := .exhausted }) hw').drop
    have hd : ({ a with defers := [{ target := .collected w.heap.size, args := #[] }] ++ a.defers } : Act) = dfr [{ target := .collected w.heap.size, args := #[] }] a := by unfold dfr; rw [hda]; rfl
    show Q .normal _ _
    rw [hd]
    exact hk _ _ hP a _ ha h3
theorem leaves_D {fn : Func} {Post : Ending → World → Prop} {D : Nat} {a : Act} {w : World} (ha : Rep n f a) (hw : H w0 R ([(D, .deferred (some []))] :: L) w) (hr : retK P fn n w0 R Post .ret f ([(D, .deferred none)] :: L)) : bodyPostM (FR none) m P fn Post .ret (dfr [{ target := .collected D, args := #[] }] a) w := by
  have hk := hw.rd (Rd.hd (R := R) (L := L) (g := D) (o := .deferred (some [])))
  have hda : (dfr [{ target := .collected D, args := #[] }] a).defers = [{ target := .collected D, args := #[] }] := by
    show a.defers ++ _ = _
    rw [ha.2.1]; rfl
  show LeavesInM (FR none) m P fn _ Post _ .returning w
  rw [hda]
  obtain ⟨v, h1, h2⟩ := hr a _ ha (H.turn (.deferred none) hw)
  exact ⟨(by intro h; cases h), .inl ⟨D, _, rfl, run_takeDeferred hk, ⟨v, h1, h2⟩⟩⟩
theorem calls_of_D {fid : FuncId} {fn : Func} {c : Code} {args : List Value} {Post : Ending → World → Prop} {w : World} (hf : P.funcs[fid]? = some fn) (hn : fn.ntmps = n) (hb : fn.body = some c) (hsz : Nat.ble args.length n = true) (hw : H w0 R L w)
    (h : ∀ a, Rep n (fr0 args) a → c.wpIn (FR none) m P (bodyPostM (FR none) m P fn Post) a w) : Calls P fid args.toArray w Post := by
  have h1 : CallsIn Fence.wide m P fid args.toArray w Post := callsIn_of_wp_marks (F := Fence.wide) hf hb trivial (by
    rw [hn]
    exact h _ (fr0_rep (Nat.le_of_ble_eq_true hsz)))
  exact callsIn_wide.1 h1
def JW (ds : List Deferred) (m : Nat) (P : Program) (n : Nat) (w0 : World) (R : Heap) (c : Code) (Q : Exit → Act → World → Prop) (f : Fr) (L : List Heap) : Prop :=
  ∀ a w, Rep n f a → H w0 R L w → c.wpIn (FR none) m P Q (dfr ds a) w
def toW (m : Nat) (P : Program) (n : Nat) (w0 : World) (R : Heap) (y : Code) (Q : Exit → Act → World → Prop) : Exit → Fr → List Heap → Prop
  | .normal, f, L => JW [] m P n w0 R y Q f L
  | _, _, _ => False
theorem toW.nn {y : Code} {Q : Exit → Act → World → Prop} (h : JW [] m P n w0 R y Q f L) : toW m P n w0 R y Q .normal f L := h
theorem JW.seqC {x y : Code} {Q : Exit → Act → World → Prop} (h : JC P n w0 R x (toW m P n w0 R y Q) f L) : JW [] m P n w0 R (.seq x y) Q f L := fun a w ha hw => by
  rw [dfr_nil]
  refine wpIn_seq (wpIn_mono (wpIn_wide.2 (h a w ha hw) : x.wpIn (FR none) m P _ a w) ?_)
  intro e a' w' q
  cases e with
  | normal =>
    obtain ⟨f', L', ha', hw', hk⟩ := q
    have := hk a' w' ha' hw'
    rw [dfr_nil] at this
    exact this
  | ret => obtain ⟨_, _, _, _, q⟩ := q; exact q.elim
  | exit id => obtain ⟨_, _, _, _, q⟩ := q; exact q.elim
  | goto t => obtain ⟨_, _, _, _, q⟩ := q; exact q.elim
  | panic c => obtain ⟨_, _, _, _, q⟩ := q; exact q.elim
  | outgrown => exact q.elim
end
end Go.Cx
namespace Go.Cx
open Go Go.RowKit
set_option linter.unusedVariables false
set_option linter.unusedSimpArgs false
section
variable {rd : Option Nat} {m : Nat} {P : Program} {n : Nat} {w0 : World} {R : Heap} {K : Exit → Fr → List Heap → Prop} {f : Fr} {L : List Heap}
theorem JR.draw {id : Nat} {l0 : List Oper} (hm : P.follows .mixedOrders = true) (h : JA [] m P n w0 R l0 (QW n w0 R K) l0.length (Array.replicate l0.length false) f L) : JR none m P n w0 R (.region id l0.toArray true) K f L := fun a w ha hw => by
  have := JA.start (id := id) hm h ha hw
  rwa [dfr_nil] at this
theorem roundsR {c : Code} (ws : Nat → Bool) (I : Nat → Fr → List Heap → Prop) (f0 : Fr) (round : ∀ k g L', I k g L' → JR rd m P n w0 R c (loopK ws f0 I k K) (havoc ws f0 g) L') : ∀ k j, j ≤ k → ∀ g L', Ag ws f0 g → I j g L' → ∀ a w, Rep n g a → H w0 R L' w → Code.roundsIn (FR rd) m P c (QW n w0 R K) (k + 1) a w
  | k, j, hj, g, L', hag, hI, a, w, ha, hw => by
    have hr := round j g L' hI
    rw [hag.eq] at hr
    show c.wpIn _ _ _ _ _ _
    refine wpIn_mono (hr a w ha hw) ?_
    intro e a' w' q
    cases e with
    | normal =>
      obtain ⟨f', L'', ha', hw', h1, m', h2, J, L3, hp, h3⟩ := q
      cases k with
      | zero => omega
      | succ k => exact roundsR ws I f0 round k m' (by omega) f' L3 h1 h3 a' w' ha' (hw'.perm hp).drops
    | ret => exact q
    | exit id => exact q
    | goto t => exact q
    | panic c => exact q
    | outgrown => exact q
theorem JR.loop {c : Code} (ws : Nat → Bool) (I : Nat → Fr → List Heap → Prop) (m0 : Nat) (h0 : I m0 f L)
    (round : ∀ k g L', I k g L' → JR rd m P n w0 R c (loopK ws f I k K) (havoc ws f g) L') : JR rd m P n w0 R (.loop c) K f L := fun a w ha hw =>
  wpIn_loop_rounds (m0 + 1) (roundsR ws I f round m0 m0 (Nat.le_refl _) f L Ag.rfl' h0 a w ha hw)
theorem calls_inR {fid : FuncId} {fn : Func} {c : Code} {args : List Value} {Post : Ending → World → Prop} {w : World}
    (hf : P.funcs[fid]? = some fn) (hn : fn.ntmps = n) (hb : fn.body = some c) (hsz : Nat.ble args.length n = true) (hH : H w0 R L w) (h : JR none m P n w0 R c (retK P fn n w0 R Post) (fr0 args) L) : CallsIn (FR none) m P fid args.toArray w Post := by
  refine callsIn_of_wp hf hb trivial ?_
  rw [hn]
  refine wpIn_mono (h _ w (fr0_rep (Nat.le_of_ble_eq_true hsz)) hH) ?_
  intro e a' w' q
  cases e with
  | normal =>
    obtain ⟨f', L', ha', hw', hk⟩ := q
    obtain ⟨v, h1, h2⟩ := hk a' w' ha' hw'
    exact ⟨ha'.2.1, v, h1, h2⟩
  | ret =>
    obtain ⟨f', L', ha', hw', hk⟩ := q
    obtain ⟨v, h1, h2⟩ := hk a' w' ha' hw'
    exact ⟨ha'.2.1, v, h1, h2⟩
  | exit i => obtain ⟨_, _, _, _, hk⟩ := q; exact hk.elim
  | goto i => obtain ⟨_, _, _, _, hk⟩ := q; exact hk.elim
  | panic i => obtain ⟨_, _, _, _, hk⟩ := q; exact hk.elim
  | outgrown => exact q.elim
def noP (K : Exit → Fr → List Heap → Prop) : Prop := ∀ c f L, ¬ K (.panic c) f L
theorem noP.thenR {y : Code} (h : noP K) : noP (thenR rd m P n w0 R y K) := h
theorem noP.blockK {id : Nat} (h : noP K) : noP (Cx.blockK id K) := h
theorem noP.loopK {ws : Nat → Bool} {f0 : Fr} {I : Nat → Fr → List Heap → Prop} {k : Nat} (h : noP K) : noP (Cx.loopK ws f0 I k K) := h
theorem noP.retK {fn : Func} {Post : Ending → World → Prop} : noP (Cx.retK P fn n w0 R Post) := fun _ _ _ h => h
theorem noP.qw (h : noP K) : ∀ c a w, ¬ QW n w0 R K (.panic c) a w := fun c a w ⟨f, L, _, _, q⟩ => h c f L q
end
end Go.Cx
namespace Go.Proofs.YtbhgahjeocnfcaaGreat
open Go Go.Cx Go.RowKit
set_option linter.unusedVariables false
set_option linter.unusedSimpArgs false
set_option maxHeartbeats 4000000
attribute [local irreducible] J JC thenK blockK loopK roundK drawK retK QW Qt pel List.set Calls
open Go.Maps Go.Lib
set_option maxRecDepth 8000
attribute [local irreducible] JE Br eK0 eK3 brK pc
theorem fnV_inj {l : List Int} (hn : l.Nodup) {ns : List N3} (w : WF l.length ns) {i j : Nat} (hi : i < ns.length) (hj : j < ns.length) (h : (fun β => fn l.length ns i (asgV l β)) = fun β => fn l.length ns j (asgV l β)) : i = j :=
  Says.eq hn w (F := fun β => fn l.length ns j (asgV l β)) ⟨hi, fun β => congrFun h β⟩ ⟨hj, fun _ => rfl⟩
theorem fnV_nodup {l : List Int} (hn : l.Nodup) {ns : List N3} (w : WF l.length ns) {A : List Nat} (hA : A.Nodup) (hl : ∀ j ∈ A, j < ns.length) : (A.map fun j => (fun β => fn l.length ns j (asgV l β) : VF)).Nodup := by
  rw [List.Nodup, List.pairwise_map]
  refine List.Pairwise.imp_of_mem (fun {a b} ha hb hab e => hab ?_) hA
  exact fnV_inj hn w (hl a ha) (hl b hb) e
theorem len_fn {l : List Int} (hn : l.Nodup) {ns : List N3} (w : WF l.length ns) {A : List Nat} (hA : A.Nodup) (hl : ∀ j ∈ A, j < ns.length) {T : List VF} (hT : T.Nodup) (hm : ∀ G, G ∈ T ↔ ∃ j ∈ A, ∀ β, fn l.length ns j (asgV l β) = G β) : A.length = T.length := by
  have hN := fnV_nodup hn w hA hl
  have hp : (A.map fun j => (fun β => fn l.length ns j (asgV l β) : VF)).length = T.length := by
    refine Nat.le_antisymm (nodup_le _ _ hN fun G hG => ?_) (nodup_le _ _ hT fun G hG => ?_)
    · obtain ⟨j, hj, rfl⟩ := List.mem_map.1 hG
      exact (hm _).2 ⟨j, hj, fun _ => rfl⟩
    · obtain ⟨j, hj, e⟩ := (hm G).1 hG
      exact List.mem_map.2 ⟨j, hj, funext e⟩
  rwa [List.length_map] at hp
end Go.Proofs.YtbhgahjeocnfcaaGreat
namespace Go.Proofs.YtbhgahjeocnfcaaGreat
open Go Go.Cx Go.RowKit
set_option linter.unusedVariables false
set_option linter.unusedSimpArgs false
set_option maxHeartbeats 4000000
attribute [local irreducible] J JC thenK blockK loopK roundK drawK retK QW Qt pel List.set Calls
open Go.Maps Go.Lib
set_option maxRecDepth 8000
attribute [local irreducible] JE Br eK0 eK3 brK pc
theorem mput_keep {κ β : Type} [DecidableEq κ] {m : List (κ × β)} {x z : κ} {y v : β} (h : (z, v) ∈ m) : ∃ v', (z, v') ∈ mput m x y := by
  have : z ∈ (mput m x y).map (·.1) := by
    rw [mput_keys]
    have hz : z ∈ m.map (·.1) := List.mem_map.2 ⟨_, h, rfl⟩
    split
    · exact hz
    · exact List.mem_append_left _ hz
  obtain ⟨p, hp, e⟩ := List.mem_map.1 this
  exact ⟨p.2, by rw [← e]; exact hp⟩
structure ROk (n : Nat) (o l : List Int) (ns ts : List N3) (m : List (Int × Nat)) : Prop where
  at_ : ∀ (a y : Nat), ((a : Int), y) ∈ m → a < ns.length ∧ y < ts.length ∧ ∀ β, fn n ts y (asgV l β) = fn n ns a (asgV o β)
  two : ∀ a : Nat, a < 2 → ∃ y, ((a : Int), y) ∈ m
theorem ROk.ext {n : Nat} {o l : List Int} {ns ts us : List N3} {m : List (Int × Nat)} (w : WF n ts) (h : ROk n o l ns ts m) (e : Ext ts us) : ROk n o l ns us m := ⟨fun a y hm => by
  obtain ⟨h1, h2, h3⟩ := h.at_ a y hm
  exact ⟨h1, Nat.lt_of_lt_of_le h2 e.le, fun β => by rw [fn_ext w e h2, h3]⟩, h.two⟩
theorem ROk.put {n : Nat} {o l : List Int} {ns ts : List N3} {m : List (Int × Nat)} (h : ROk n o l ns ts m) {a y : Nat} (h1 : a < ns.length) (h2 : y < ts.length) (h3 : ∀ β, fn n ts y (asgV l β) = fn n ns a (asgV o β)) : ROk n o l ns ts (mput m (a : Int) y) := ⟨fun b z hm => by
  rcases mput_mem hm with hm | ⟨e1, e2⟩
  · exact h.at_ b z hm
  · obtain rfl : b = a := by omega
    subst e2
    exact ⟨h1, h2, h3⟩, fun b hb => by
  obtain ⟨z, hz⟩ := h.two b hb
  exact mput_keep hz⟩
def fnR (c1 c2 c3 c4 : Nat) : Obj := .cells ⟨[.func (.func 65) ⟨[]⟩ ⟨[.pointer (some ⟨c1, 0, none⟩), .pointer (some ⟨c2, 0, none⟩), .pointer (some ⟨c3, 0, none⟩), .pointer (some ⟨c4, 0, none⟩)]⟩]⟩ 52 (0, 0)
theorem eRebC : Entr Tryz.prog 65 := Entr.of Tryz.func65 rfl rfl
theorem eReb2 : Entr Tryz.prog 38 := Entr.of Tryz.func38 rfl rfl
theorem stR_of2 {R : Heap} {L : List Heap} {K : KS} {b : Nat} {s : SS} {hO : Heap} (r : RdH R L (stR K b s hO)) {w0 w : World} (hw : H w0 R L w) : Holds (stR K b s hO) w := hw.rdH r
set_option maxHeartbeats 16000000 in
theorem rebC_any {n : Nat} {K Kt : KS} {s : SS} {o l : List Int} {hO hP hO2 hP2 : Heap} (so : SOk n K s) (po : POk K o hO hP) (pt : POk Kt l hO2 hP2) (hKt : Kt.no = n) (h8 : n ≤ 8) (hm : ∀ v, v ∈ o → v ∈ l) (bs bt c1 c2 c3 c4 bd : Nat) : ∀ (d a : Nat) (t : SS) (m : List (Int × Nat)) (hD : Heap), n ≤ (nd s.ns a).p + d → SOk n Kt t → a < s.ns.length → t.ns.length + (2 ^ d - 1) * 256 ≤ 1048576 → MapT Tryz.prog 3 ekI evI m bd hD → ROk n o l s.ns t.ns m →
    ∀ {w0 w : World} {R : Heap} {L : List Heap}, H w0 R (sF Kt bt t ++ (hO2 :: hP2 :: hD :: L)) w → RdH R L (stR K bs s hO) → Rd R L c1 (mapD bd) → Rd R L c2 (ptrS bs) → Rd R L c3 (ptrS bt) → Rd R L c4 (fnR c1 c2 c3 c4) →
    Calls Tryz.prog 65 #[.int .i64 (a : Int), .pointer (some ⟨c1, 0, none⟩), .pointer (some ⟨c2, 0, none⟩), .pointer (some ⟨c3, 0, none⟩), .pointer (some ⟨c4, 0, none⟩)] w fun e w' => ∃ v L', e = .returned v ∧ H w0 R L' w' ∧ ∃ t' m' hD' y, v = .tuple #[.int .i64 ((y : Nat) : Int), .int .i64 0] ∧ L' = sF Kt bt t' ++ (hO2 :: hP2 :: hD' :: L) ∧ MapT Tryz.prog 3 ekI evI m' bd hD' ∧ ROk n o l s.ns t'.ns m' ∧ Adds n Kt t t' ((2 ^ d - 1) * 256) y ∧ ∀ β, fn n t'.ns y (asgV l β) = fn n s.ns a (asgV o β) := by
  have h2n := pow8 h8
  intro d
  induction d using Nat.strongRecOn with
  | ind d ih =>
  intro a t m hD hp st ha hfull mp ro w0 w R L hw rS r1 r2 r3 r4
  have sm := so.sm
  have wf := so.wf
  have hno := so.no
  have hpl := po.len
  have hkey := keyI (a : Int) (by omega)
  have r1' := r1
  have r2' := r2
  have r3' := r3
  have r4' := r4
  unfold mapD at r1'
  unfold ptrS at r2' r3'
  unfold fnR at r4'
  unfold sF at hw
  simp only [List.cons_append, List.nil_append] at hw
  cases hget : mget m (a : Int) with
  | some y =>
    obtain ⟨_, hy, hfy⟩ := ro.at_ a y (mget_mem hget)
    refine calls_in Tryz.func65 Tryz.ntmps65 rfl rfl (hw) ?_
    repeat' first
      | (refine J.isJ ?_; first | (first | (refine J.o 4 ?_; refine J.lR hΓ ?_ (hr := r1'.tl.tl.tl.tl.tl.tl.tl)) | (refine J.o 9 ?_; refine J.lk (a := (a : Int)) keyedI ekI_inj mp (by first | exact RdH.hd | exact RdH.hd.tl | exact RdH.hd.tl.tl | exact RdH.hd.tl.tl.tl | exact RdH.hd.tl.tl.tl.tl | exact RdH.hd.tl.tl.tl.tl.tl | exact RdH.hd.tl.tl.tl.tl.tl.tl | exact RdH.hd.tl.tl.tl.tl.tl.tl.tl | exact RdH.old (fun _ hh => hh) | assumption) hkey hΓ ?_; rw [hget])) | (first | (refine J.o 0 ?_; refine J.ev' hΓ ?_) | refine J.nil ?_ | (refine J.o 4 ?_; first | refine J.lR hΓ ?_) | (refine J.o 3 ?_; first | refine J.ev' hΓ ?_) | (refine J.o 10 ?_; refine J.ev' hΓ ?_) | (refine J.o 11 ?_; refine J.ev' hΓ ?_)))
      | (first | refine JC.seq ?_ | refine JC.region ?_ | refine JC.ret ?_ | refine JC.skip ?_ | refine thenK.nn ?_ | refine thenK.r ?_ | refine JC.condT rfl ?_ | refine JC.condF rfl ?_)
      | (fail)
      | fail
    all_goals first | (exfalso; omega) | skip
    refine ret2f rfl rfl rfl rfl rfl (fun w1 hw => ⟨_, _, rfl, hw, t, m, hD, y, rfl, rfl, mp, ro, ⟨st, Ext.refl _, by omega, hy⟩, hfy⟩)
  | none =>
    have h2 : 2 ≤ a := by
      rcases Nat.lt_or_ge a 2 with g | g
      · obtain ⟨y, hy⟩ := ro.two a g
        exact absurd hy (mget_out hget y)
      · exact g
    have hpn := wf.pl a h2 ha
    have hll := wf.ll a h2 ha
    have hhl := wf.hl a h2 ha
    have hlp := wf.lp a h2 ha
    have hhp := wf.hp a h2 ha
    have hvo : o.getD (nd s.ns a).p default ∈ o := mem_g o _ (by omega)
    obtain ⟨k, hk⟩ : ∃ k, rk l (o.getD (nd s.ns a).p default) 0 = some k := by
      cases h : rk l (o.getD (nd s.ns a).p default) 0 with
      | some k => exact ⟨k, rfl⟩
      | none => exact absurd (hm _ hvo) (rk_none.1 h)
    have hv := po.ok.1 _ hvo
    have hd2 : 2 ^ d = 2 ^ (d - 1) + 2 ^ (d - 1) := by rw [← Nat.mul_two, ← Nat.pow_succ, show (d - 1).succ = d by omega]
    have hd0 : 0 < 2 ^ (d - 1) := Nat.pow_pos (by decide)
    have cP := fun w hw => Parts_node so po bs a h2 ha w hw
    refine calls_in Tryz.func65 Tryz.ntmps65 rfl rfl (hw) ?_
    repeat' first
      | (refine J.isJ ?_; first | (first | (refine J.o 4 ?_; first | refine J.lR hΓ ?_ (hr := r1'.tl.tl.tl.tl.tl.tl.tl) | refine J.lR hΓ ?_ (hr := r2'.tl.tl.tl.tl.tl.tl.tl) | refine J.lR hΓ ?_ (hr := r3'.tl.tl.tl.tl.tl.tl.tl) | refine J.lR hΓ ?_ (hr := r4'.tl.tl.tl.tl.tl.tl.tl)) | (refine J.o 9 ?_; refine J.lk (a := (a : Int)) keyedI ekI_inj mp (by first | exact RdH.hd | exact RdH.hd.tl | exact RdH.hd.tl.tl | exact RdH.hd.tl.tl.tl | exact RdH.hd.tl.tl.tl.tl | exact RdH.hd.tl.tl.tl.tl.tl | exact RdH.hd.tl.tl.tl.tl.tl.tl | exact RdH.hd.tl.tl.tl.tl.tl.tl.tl | exact RdH.old (fun _ hh => hh) | assumption) hkey hΓ ?_; rw [hget]) | (refine J.fc 62 ?_; refine J.call0 eParts rfl rfl (fun w hw => cP w (stR_of2 rS.tl.tl.tl.tl.tl.tl.tl hw)) ?_) | (refine J.fc 66 ?_; refine J.callx eVarS rfl rfl (fun w hw => Var_any st pt _ (by omega) k hk (by omega) (L := hD :: L) hw) ?_; rintro _ _ ⟨t1, x1, rfl, rfl, ad1, f1⟩; unfold sF; simp only [List.cons_append, List.nil_append])) | (first | (refine J.o 0 ?_; refine J.ev' hΓ ?_) | refine J.nil ?_ | (refine J.o 4 ?_; first | refine J.lR hΓ ?_) | (refine J.o 3 ?_; first | refine J.ev' hΓ ?_) | (refine J.o 10 ?_; refine J.ev' hΓ ?_) | (refine J.o 11 ?_; refine J.ev' hΓ ?_)))
      | (first | refine JC.seq ?_ | refine JC.region ?_ | refine JC.ret ?_ | refine JC.skip ?_ | refine thenK.nn ?_ | refine thenK.r ?_ | refine JC.condT rfl ?_ | refine JC.condF rfl ?_)
      | (fail)
      | fail
    all_goals first | (exfalso; omega) | skip
    have l1 := ad1.le
    refine J.isJ ?_
    refine J.o 9 ?_
    refine J.callvx eRebC rfl rfl rfl (fun w hw => ih (d - 1) (by omega) (nd s.ns a).l t1 m hD (by omega) ad1.ok hll (by omega) mp (ro.ext st.wf ad1.ext) (L := L) hw rS r1 r2 r3 r4) ?_
    rintro _ _ ⟨t2, m2, hD2, y2, rfl, rfl, mp2, ro2, ad2, f2⟩
    have l2 := ad2.le
    unfold sF
    simp only [List.cons_append, List.nil_append]
    repeat' first
      | (refine J.isJ ?_; first | ((refine J.o 4 ?_; refine J.lR hΓ ?_ (hr := r4'.tl.tl.tl.tl.tl.tl.tl))) | (first | (refine J.o 0 ?_; refine J.ev' hΓ ?_) | refine J.nil ?_ | (refine J.o 4 ?_; first | refine J.lR hΓ ?_) | (refine J.o 3 ?_; first | refine J.ev' hΓ ?_) | (refine J.o 10 ?_; refine J.ev' hΓ ?_) | (refine J.o 11 ?_; refine J.ev' hΓ ?_)))
      | (first | refine JC.seq ?_ | refine JC.region ?_ | refine JC.ret ?_ | refine JC.skip ?_ | refine thenK.nn ?_ | refine thenK.r ?_ | refine JC.condT rfl ?_ | refine JC.condF rfl ?_)
      | (fail)
      | fail
    all_goals first | (exfalso; omega) | skip
    refine J.isJ ?_
    refine J.o 9 ?_
    refine J.callvx eRebC rfl rfl rfl (fun w hw => ih (d - 1) (by omega) (nd s.ns a).h t2 m2 hD2 (by omega) ad2.ok hhl (by omega) mp2 ro2 (L := L) hw rS r1 r2 r3 r4) ?_
    rintro _ _ ⟨t3, m3, hD3, y3, rfl, rfl, mp3, ro3, ad3, f3⟩
    have l3 := ad3.le
    unfold sF
    simp only [List.cons_append, List.nil_append]
    repeat' first
      | (refine J.isJ ?_; first | (first | (refine J.o 4 ?_; first | refine J.lR hΓ ?_ (hr := r3'.tl.tl.tl.tl.tl.tl.tl)) | (refine J.fc 67 ?_; refine J.callx eIf rfl rfl (fun w hw => If_any ad3.ok x1 (ad3.old (ad2.old ad1.lt)) y3 ad3.lt y2 (ad3.old ad2.lt) (by omega) (L := hO2 :: hP2 :: hD3 :: L) hw) ?_; rintro _ _ ⟨t4, y4, rfl, rfl, ad4, f4⟩; unfold sF; simp only [List.cons_append, List.nil_append]) | (refine J.o 4 ?_; refine J.lR hΓ ?_ (hr := r1'.tl.tl.tl.tl.tl.tl.tl)) | (refine J.o 9 ?_; refine J.perm (bring_perm 6 _) ?_; refine J.mup (a := (a : Int)) (ev := evI) y4 keyedI ekI_inj mp3 hkey hΓ (fun h4 mt4 => ?_))) | (first | (refine J.o 0 ?_; refine J.ev' hΓ ?_) | refine J.nil ?_ | (refine J.o 4 ?_; first | refine J.lR hΓ ?_) | (refine J.o 3 ?_; first | refine J.ev' hΓ ?_) | (refine J.o 10 ?_; refine J.ev' hΓ ?_) | (refine J.o 11 ?_; refine J.ev' hΓ ?_)))
      | (first | refine JC.seq ?_ | refine JC.region ?_ | refine JC.ret ?_ | refine JC.skip ?_ | refine thenK.nn ?_ | refine thenK.r ?_ | refine JC.condT rfl ?_ | refine JC.condF rfl ?_)
      | (fail)
      | fail
    all_goals first | (exfalso; omega) | skip
    have l4 := ad4.le
    have e12 := ad1.ext.trans ad2.ext
    have e23 := ad2.ext.trans ad3.ext
    have hff : ∀ β, fn n t4.ns y4 (asgV l β) = fn n s.ns a (asgV o β) := fun β => by
      have hβ : asgV l β k = β (o.getD (nd s.ns a).p default) := by
        unfold asgV
        have := (rk_some hk).2.2
        rw [Nat.sub_zero] at this
        rw [this]
      have h1 := f1 (asgV l β)
      dsimp only at h1
      rw [hβ] at h1
      rw [f4]
      dsimp only
      rw [fn_ext ad1.ok.wf e23 ad1.lt, h1, f3, fn_ext ad2.ok.wf ad3.ext ad2.lt, f2, fn_node wf _ h2 ha]
      rfl
    have ro4 := (ro3.ext ad3.ok.wf ad4.ext).put ha ad4.lt hff
    refine ret2f rfl rfl rfl rfl rfl (fun w1 hw => ⟨_, _, rfl, H.sel (l := [_, _, _, _, _, _, _]) (M := L) hw [1, 2, 3, 4, 5, 6, 0], t4, _, h4, y4, rfl, rfl, mt4, ro4, (((ad1.trans ad2).trans ad3).trans ad4).mono (by omega), hff⟩)
end Go.Proofs.YtbhgahjeocnfcaaGreat
namespace Go.Proofs.YtbhgahjeocnfcaaGreat
open Go Go.Cx Go.RowKit
set_option linter.unusedVariables false
set_option linter.unusedSimpArgs false
set_option maxHeartbeats 4000000
attribute [local irreducible] J JC thenK blockK loopK roundK drawK retK QW Qt pel List.set Calls
open Go.Maps Go.Lib
set_option maxRecDepth 8000
attribute [local irreducible] JE Br eK0 eK3 brK pc
structure Stv (F : VF) (l : List Int) (K : KS) (s : SS) (y : Nat) (hO hP : Heap) : Prop where
  so : SOk l.length K s
  po : POk K l hO hP
  sy : Says s.ns l y F
theorem Stv.ho {F : VF} {l : List Int} {K : KS} {s : SS} {y : Nat} {hO hP : Heap} (st : Stv F l K s y hO hP) : okOrd l := st.po.ok
theorem ROk.start {n : Nat} {o l : List Int} {ns ts : List N3} (w : WF n ns) (w2 : WF n ts) : ROk n o l ns ts [((0 : Int), 0), ((1 : Int), 1)] := by
  have h1 := w.two
  have h2 := w2.two
  refine ⟨fun a y hm => ?_, fun a ha => ?_⟩
  · rcases List.mem_cons.1 hm with e | hm
    · obtain ⟨e1, e2⟩ := Prod.mk.inj e
      obtain rfl : a = 0 := by omega
      subst e2
      exact ⟨by omega, by omega, fun β => by rw [fn_0 w, fn_0 w2]⟩
    · obtain ⟨e1, e2⟩ := Prod.mk.inj (List.mem_singleton.1 hm)
      obtain rfl : a = 1 := by omega
      subst e2
      exact ⟨by omega, by omega, fun β => by rw [fn_1 w, fn_1 w2]⟩
  · rcases (by omega : a = 0 ∨ a = 1) with rfl | rfl
    · exact ⟨0, List.mem_cons_self⟩
    · exact ⟨1, List.mem_cons_of_mem _ List.mem_cons_self⟩
def RebQ (F : VF) (l : List Int) (L : List Heap) (v : Value) (L' : List Heap) : Prop := ∃ bt Kt t y hO2 hP2, v = .tuple #[.pointer (some ⟨bt, 0, none⟩), .int .i64 ((y : Nat) : Int), .int .i64 0] ∧ L' = sF Kt bt t ++ (hO2 :: hP2 :: L) ∧ Stv F l Kt t y hO2 hP2
set_option maxHeartbeats 16000000 in
theorem rebuilt_any {F : VF} {o : List Int} {K : KS} {s : SS} {a : Nat} {hO hP : Heap} (sv : Stv F o K s a hO hP) (h8 : o.length ≤ 8) (l : List Int) (hlen : l.length = o.length) (ho : okOrd l) (hm : ∀ v, v ∈ o → v ∈ l) (al : Option Addr) (cl : Nat) (hl : Heap) (hs : SlT encI 1 al l hl) {w0 w : World} {R : Heap} {L : List Heap} {bs : Nat} (rS : RdH R L (stR K bs s hO)) (rl : RdH R L hl) (hw : H w0 R L w) :
    Calls Tryz.prog 38 #[.pointer (some ⟨bs, 0, none⟩), .int .i64 (a : Int), .slice al l.length cl] w fun e w' => ∃ v L', e = .returned v ∧ H w0 R L' w' ∧ RebQ F l L v L' := by
  have h2n : 2 ^ o.length ≤ 2 ^ 8 := Nat.pow_le_pow_right (by decide) h8
  have so := sv.so
  have ha := sv.sy.1
  refine calls_in Tryz.func38 Tryz.ntmps38 rfl rfl (hw) ?_
  refine JC.seq ?_
  refine JC.region ?_
  refine J.isJ ?_
  refine J.o 6 ?_
  refine J.bx (fun c2 => ?_)
  repeat' first
    | (refine J.isJ ?_; first | (first | (refine J.o 7 ?_; first | refine J.al (t := 30) hΓ (fun c3 => ?_) | refine J.al (t := 67) hΓ (fun c1 => ?_) | refine J.al (t := 52) hΓ (fun c4 => ?_)) | (refine J.o 14 ?_; refine J.mfV [.pointer (some ⟨c1, 0, none⟩), .pointer (some ⟨c2, 0, none⟩), .pointer (some ⟨c3, 0, none⟩), .pointer (some ⟨c4, 0, none⟩)] hΓ ?_) | (refine J.fc 27 ?_; refine J.callx eNew rfl rfl (fun w hw => new_any l al cl hl hs ho rl.tl hw) ?_; rintro _ _ ⟨bt, Kt, t, hO2, hP2, rfl, rfl, st, hns, pt⟩; have hlt : t.ns.length = 2 := (by rw [hns]; rfl); unfold sF; simp only [List.cons_append, List.nil_append]) | (refine J.o 9 ?_; first | refine J.mkm (fun bd => ?_) | refine J.ins (ev := evI) 0 keyedI ekI_inj (MapT.nil _) (keyI 0 (by omega)) hΓ (fun h1 mp1 => ?_) | refine J.ins (ev := evI) 1 keyedI ekI_inj mp1 (keyI 1 (by omega)) hΓ (fun hD mp => ?_))) | (first | (refine J.o 0 ?_; refine J.ev' hΓ ?_) | refine J.nil ?_ | (refine J.o 4 ?_; first | refine J.lR hΓ ?_) | (refine J.o 3 ?_; first | refine J.ev' hΓ ?_) | (refine J.o 5 ?_; first | refine J.t0 hΓ ?_) | (refine J.o 6 ?_; refine J.bx (fun _ => ?_)) | (refine J.o 7 ?_; refine J.al hΓ (fun _ => ?_)) | (refine J.o 10 ?_; refine J.ev' hΓ ?_) | (refine J.o 11 ?_; refine J.ev' hΓ ?_)))
    | (first | refine JC.seq ?_ | refine JC.region ?_ | refine JC.ret ?_ | refine JC.skip ?_ | refine thenK.nn ?_ | refine JC.condF rfl ?_)
    | (fail)
    | fail
  all_goals first | (exfalso; omega) | skip
  rw [hlen] at st
  have hin : ∀ β, fn o.length s.ns a (asgV o β) = F β := sv.sy.2
  have hpw : 0 < 2 ^ o.length := Nat.pow_pos (by decide)
  refine J.isJ ?_
  refine J.o 9 ?_
  refine J.callvx eRebC rfl rfl rfl (fun w hw => rebC_any so sv.po pt st.no h8 hm bs bt c1 c2 c3 c4 bd o.length a t _ hD (by omega) st ha (by omega) mp (ROk.start so.wf st.wf) (L := [(c4, fnR c1 c2 c3 c4)] :: [(c1, mapD bd)] :: [(c3, ptrS bt)] :: [(c2, ptrS bs)] :: L) (H.sel (l := [_, _, _, _, _, _, _, _, _, _, _]) (M := L) hw [4, 5, 6, 7, 8, 9, 2, 0, 1, 3, 10]) rS.tl.tl.tl.tl Rd.hd.tl Rd.hd.tl.tl.tl Rd.hd.tl.tl Rd.hd) ?_
  rintro _ _ ⟨t2, m2, hD2, y2, rfl, rfl, mp2, ro2, ad2, f2⟩
  unfold sF
  simp only [List.cons_append, List.nil_append]
  repeat' first
    | (refine J.isJ ?_; first | (first | (refine J.o 4 ?_; refine J.lR hΓ ?_ (hr := Rd.hd.tl.tl.tl.tl.tl.tl.tl.tl.tl))) | (first | (refine J.o 0 ?_; refine J.ev' hΓ ?_) | refine J.nil ?_ | (refine J.o 4 ?_; first | refine J.lR hΓ ?_) | (refine J.o 3 ?_; first | refine J.ev' hΓ ?_) | (refine J.o 5 ?_; first | refine J.t0 hΓ ?_) | (refine J.o 6 ?_; refine J.bx (fun _ => ?_)) | (refine J.o 7 ?_; refine J.al hΓ (fun _ => ?_)) | (refine J.o 10 ?_; refine J.ev' hΓ ?_) | (refine J.o 11 ?_; refine J.ev' hΓ ?_)))
    | (first | refine JC.seq ?_ | refine JC.region ?_ | refine JC.ret ?_ | refine JC.skip ?_ | refine thenK.nn ?_ | refine JC.condF rfl ?_)
    | (fail)
    | fail
  all_goals first | (exfalso; omega) | skip
  refine ret3f rfl rfl rfl rfl rfl rfl rfl (fun w1 hw => ⟨_, _, rfl, H.sel (l := [_, _, _, _, _, _, _, _, _, _, _]) (M := L) hw [0, 1, 2, 3, 4, 5], bt, Kt, t2, y2, hO2, hP2, rfl, rfl, ?_⟩)
  have ok2 := ad2.ok
  have lt2 := ad2.lt
  rw [← hlen] at ok2 f2
  exact ⟨ok2, pt, lt2, fun β => by rw [f2, hlen]; exact hin β⟩
theorem stR_b {R : Heap} {L : List Heap} {K : KS} {b : Nat} {s : SS} {hO : Heap} (r : RdH R L (stR K b s hO)) : Rd R L b (stO K s.an s.ns.length s.cn) := r _ List.mem_cons_self
theorem stR_N {R : Heap} {L : List Heap} {K : KS} {b : Nat} {s : SS} {hO : Heap} (r : RdH R L (stR K b s hO)) : RdH R L s.hN := fun x hx => r x (List.mem_cons_of_mem _ (List.mem_append_left _ hx))
theorem stR_hd {R : Heap} {K : KS} {b : Nat} {s : SS} {hO hP : Heap} (M : List Heap) : RdH R (sF K b s ++ (hO :: hP :: M)) (stR K b s hO) := fun x hx => by
  rcases List.mem_cons.1 hx with rfl | hx
  · exact (Rd.hd : Rd R (sF K b s ++ (hO :: hP :: M)) b _)
  · rcases List.mem_append.1 hx with h | h
    · exact (RdH.hd.tl : RdH R (sF K b s ++ (hO :: hP :: M)) s.hN) x h
    · exact (RdH.hd.tl.tl.tl.tl : RdH R (sF K b s ++ (hO :: hP :: M)) hO) x h
theorem stR_tl {R : Heap} {L : List Heap} {h : Heap} (r : RdH R L h) (K : KS) (b : Nat) (s : SS) (hO hP : Heap) : RdH R (sF K b s ++ (hO :: hP :: L)) h := RdH.app (sF K b s) r.tl.tl
end Go.Proofs.YtbhgahjeocnfcaaGreat
namespace Go.Proofs.YtbhgahjeocnfcaaGreat
open Go Go.Cx Go.RowKit
set_option linter.unusedVariables false
set_option linter.unusedSimpArgs false
set_option maxHeartbeats 4000000
attribute [local irreducible] J JC thenK blockK loopK roundK drawK retK QW Qt pel List.set Calls
open Go.Maps Go.Lib
set_option maxRecDepth 8000
attribute [local irreducible] JE Br eK0 eK3 brK pc
def swp (o : List Int) (p : Nat) : List Int := (o.set p (o.getD (p + 1) default)).set (p + 1) (o.getD p default)
theorem swp_len (o : List Int) (p : Nat) : (swp o p).length = o.length := by simp [swp]
theorem swp_get (o : List Int) {p : Nat} (hp : p + 1 < o.length) (i : Nat) : (swp o p).getD i default = if i = p then o.getD (p + 1) default else if i = p + 1 then o.getD p default else o.getD i default := by
  unfold swp
  rw [List.getD_eq_getElem?_getD, List.getElem?_set, List.getElem?_set, List.length_set]
  by_cases h1 : i = p
  · rw [if_pos h1, h1, if_neg (by omega), if_pos rfl, if_pos (by omega)]; rfl
  · rw [if_neg h1]
    by_cases h2 : i = p + 1
    · rw [if_pos h2, if_pos h2.symm, if_pos (by omega)]; rfl
    · rw [if_neg h2, if_neg (fun g => h2 g.symm), if_neg (fun g => h1 g.symm), List.getD_eq_getElem?_getD]
theorem swp_perm (o : List Int) {p : Nat} (hp : p + 1 < o.length) : (swp o p).Perm o := by
  have e1 : o = o.take p ++ o.getD p default :: o.getD (p + 1) default :: o.drop (p + 2) := by
    have h1 := (List.take_append_drop p o).symm
    have h2 := drop_g o p (by omega)
    have h3 := drop_g o (p + 1) hp
    rw [h2, h3] at h1
    exact h1
  have e2 : swp o p = o.take p ++ o.getD (p + 1) default :: o.getD p default :: o.drop (p + 2) := by
    refine List.ext_getElem (by rw [swp_len]; conv => lhs; rw [e1]
                                simp) fun i h1 h2 => ?_
    have hg : ∀ (l : List Int) (h : i < l.length), l[i] = l.getD i default := fun l h => by rw [List.getD_eq_getElem?_getD, List.getElem?_eq_getElem h]; rfl
    rw [hg _ h1, hg _ h2, swp_get o hp]
    rw [swp_len] at h1
    have ht : (o.take p).length = p := by rw [List.length_take]; omega
    rcases Nat.lt_trichotomy i p with g | g | g
    · rw [if_neg (by omega), if_neg (by omega), List.getD_eq_getElem?_getD, List.getD_eq_getElem?_getD, List.getElem?_append_left (by omega), List.getElem?_take_of_lt g]
    · subst g
      rw [if_pos rfl, List.getD_eq_getElem?_getD (l := _ ++ _), List.getElem?_append_right (by omega), ht, Nat.sub_self]; rfl
    · rw [if_neg (by omega), List.getD_eq_getElem?_getD (l := _ ++ _), List.getElem?_append_right (by omega), ht]
      by_cases g2 : i = p + 1
      · rw [if_pos g2, g2, show p + 1 - p = 1 by omega]; rfl
      · obtain ⟨j, hj⟩ : ∃ j, i - p = j + 2 := ⟨i - p - 2, by omega⟩
        rw [if_neg g2, hj, List.getElem?_cons_succ, List.getElem?_cons_succ, List.getElem?_drop, List.getD_eq_getElem?_getD, show p + 2 + j = i by omega]
  rw [e2]
  conv => rhs; rw [e1]
  exact List.Perm.append_left _ (List.Perm.swap _ _ _)
theorem swp_ord {o : List Int} (h : okOrd o) {p : Nat} (hp : p + 1 < o.length) : okOrd (swp o p) :=
  ⟨fun v hv => h.1 v ((swp_perm o hp).mem_iff.1 hv), (swp_perm o hp).nodup_iff.2 h.2⟩
theorem eSwap : Entr Tryz.prog 17 := Entr.of Tryz.func17 rfl rfl
theorem eChecked : Entr Tryz.prog 34 := Entr.of Tryz.func34 rfl rfl
theorem checked_any {n : Nat} {K : KS} {s : SS} (so : SOk n K s) (b a : Nat) (ha : a < s.ns.length) {hO : Heap} {w0 w : World} {R : Heap} {L : List Heap} (rS : RdH R L (stR K b s hO)) (hw : H w0 R L w) :
    Calls Tryz.prog 34 #[.pointer (some ⟨b, 0, none⟩), .int .i64 (a : Int)] w fun e w' => ∃ v L', e = .returned v ∧ H w0 R L' w' ∧ v = .int .i64 0 ∧ L' = L := by
  refine calls_in Tryz.func34 Tryz.ntmps34 rfl rfl (hw) ?_
  repeat' first
    | (refine J.isJ ?_; first | (first | (refine J.o 11 ?_; refine J.pN hΓ ?_) | (refine J.fc 16 ?_; refine J.callx eSize rfl rfl (fun w hw => Size_any so b a ha (stR_b rS) (stR_N rS) hw) ?_; rintro _ _ ⟨l, rfl, rfl, bel⟩)) | (first | (refine J.o 0 ?_; refine J.ev' hΓ ?_) | refine J.nil ?_ | (refine J.o 3 ?_; first | refine J.ev' hΓ ?_) | (refine J.o 10 ?_; refine J.ev' hΓ ?_) | (refine J.o 11 ?_; refine J.ev' hΓ ?_)))
    | (first | refine JC.seq ?_ | refine JC.region ?_ | refine JC.ret ?_ | refine JC.skip ?_ | refine thenK.nn ?_ | refine JC.condF rfl ?_)
    | (fail)
    | fail
  all_goals first | (exfalso; omega) | skip
  refine ret1f rfl rfl rfl (fun w1 hw => ⟨_, _, rfl, hw, rfl, rfl⟩)
theorem rebuilt_n {F : VF} {o : List Int} {K : KS} {s : SS} {a : Nat} {hO hP : Heap} (sv : Stv F o K s a hO hP) (h8 : o.length ≤ 8) (l : List Int) (nl : Nat) (hnl : l.length = nl) (hlen : l.length = o.length) (ho : okOrd l) (hm : ∀ v, v ∈ o → v ∈ l) (al : Option Addr) (cl : Nat) (hl : Heap) (hs : SlT encI 1 al l hl) {w0 w : World} {R : Heap} {L : List Heap} {bs : Nat} (rS : RdH R L (stR K bs s hO)) (rl : RdH R L hl) (hw : H w0 R L w) :
    Calls Tryz.prog 38 #[.pointer (some ⟨bs, 0, none⟩), .int .i64 (a : Int), .slice al nl cl] w fun e w' => ∃ v L', e = .returned v ∧ H w0 R L' w' ∧ RebQ F l L v L' := by
  subst hnl
  exact rebuilt_any sv h8 l hlen ho hm al cl hl hs rS rl hw
theorem H.drop6 {K : KS} {b : Nat} {s : SS} {hO hP h : Heap} {L : List Heap} {w0 w : World} {R : Heap} (hw : H w0 R (sF K b s ++ (hO :: hP :: h :: L)) w) : H w0 R (sF K b s ++ (hO :: hP :: L)) w := H.sel (l := [_, _, _, _, _, _, _]) (M := L) hw [0, 1, 2, 3, 4, 5]
theorem Swap_any {F : VF} {o : List Int} {K : KS} {s : SS} {a : Nat} {hO hP : Heap} (sv : Stv F o K s a hO hP) (h8 : o.length ≤ 8) (p : Nat) (hp : p + 1 < o.length) {w0 w : World} {R : Heap} {L : List Heap} {bs : Nat} (rS : RdH R L (stR K bs s hO)) (hw : H w0 R L w) :
    Calls Tryz.prog 17 #[.pointer (some ⟨bs, 0, none⟩), .int .i64 (a : Int), .int .i64 (p : Int)] w fun e w' => ∃ v L', e = .returned v ∧ H w0 R L' w' ∧ RebQ F (swp o p) L v L' := by
  have so := sv.so
  have ha := sv.sy.1
  have hsl : (swp o p).length = o.length := swp_len o p
  have cO := fun w hw => Order_any so sv.po bs w hw
  have hg1 : (o.set p (o.getD (p + 1) default)).length = o.length := by simp
  refine calls_in Tryz.func17 Tryz.ntmps17 rfl rfl (hw) ?_
  repeat' first
    | (refine J.isJ ?_; first | (first | (refine J.fc 34 ?_; refine J.callx eChecked rfl rfl (fun w hw => checked_any so bs a ha rS hw) ?_; rintro _ _ ⟨rfl, rfl⟩) | (refine J.fc 21 ?_; refine J.call1 eOrder rfl rfl (fun w hw => cO w (stR_of2 rS hw)) ?_; rintro _ ho ⟨ao, co, rfl, oo⟩) | (refine J.o 3 ?_; refine J.iJ hΓ ?_ (hs := oo.sl)) | (refine J.o 4 ?_; refine J.lT default hΓ ?_ (hs := oo.sl) (hr := RdH.hd)) | (refine J.o 5 ?_; first | refine J.tT (enc := encI) (o.getD (p + 1) default) default hΓ (fun h5 o5 => ?_) (ho := oo))) | (first | (refine J.o 0 ?_; refine J.ev' hΓ ?_) | refine J.nil ?_ | (refine J.o 4 ?_; first | refine J.lT default hΓ ?_) | (refine J.o 3 ?_; first | refine J.iJ hΓ ?_ | refine J.ev' hΓ ?_) | (refine J.o 1 ?_; first | refine J.ad ?_ | refine J.sb ?_) | (refine J.o 5 ?_; first | refine J.tT _ default hΓ (fun _ _ => ?_)) | (refine J.o 10 ?_; refine J.ev' hΓ ?_) | (refine J.o 11 ?_; refine J.ev' hΓ ?_)))
    | (first | refine JC.seq ?_ | refine JC.region ?_ | refine JC.ret ?_ | refine JC.skip ?_ | refine thenK.nn ?_ | refine JC.condF rfl ?_ | (refine JC.cond rfl (fun hc => ?_) (fun hc => ?_) <;> ((try simp only [decide_eq_true_eq, decide_eq_false_iff_not, beq_iff_eq, beq_eq_false_iff_ne, bne_iff_ne, bne_eq_false_iff_eq, Bool.not_eq_true', Bool.not_eq_false', Bool.not_eq_true, Bool.not_eq_false] at hc) <;> first | (first | (exact absurd rfl hc) | (exfalso; omega) | (exact absurd (hc.symm.trans (by assumption : _ = false)) (by decide)) | (exact absurd (hc.symm.trans (by assumption : _ = true)) (by decide))) | skip)) | refine drawK.nn ?_)
    | ((refine JC.drawO [(0,0),(0,1),(0,2),(0,3),(0,4),(0,5),(0,6),(0,7),(0,8),(1,9),(0,10),(0,11),(0,12),(1,13),(0,14),(2,15),(0,16),(2,17)] (by decide +kernel) (by decide +kernel) ?_))
    | fail
  all_goals first | (exfalso; omega) | skip
  rename_i h6 o6
  have hq : ((p : Int) + 1).toNat = p + 1 := by omega
  rw [hq] at o6
  have o7 : OwT encI 1 3 ao co (swp o p) h6 := o6
  repeat' first
    | (refine J.isJ ?_; first | ((refine J.fc 38 ?_; refine J.callx eReb2 rfl rfl (fun w hw => rebuilt_n sv h8 (swp o p) o.length hsl hsl (swp_ord sv.ho hp) (fun v hv => (swp_perm o hp).mem_iff.2 hv) ao co h6 o7.sl rS.tl RdH.hd hw) ?_; rintro _ _ ⟨bt, Kt, t, y, hO2, hP2, rfl, rfl, sv2⟩)) | (first | (refine J.o 0 ?_; refine J.ev' hΓ ?_) | refine J.nil ?_ | (refine J.o 4 ?_; first | refine J.lT default hΓ ?_) | (refine J.o 3 ?_; first | refine J.iJ hΓ ?_ | refine J.ev' hΓ ?_) | (refine J.o 1 ?_; first | refine J.ad ?_ | refine J.sb ?_) | (refine J.o 5 ?_; first | refine J.tT _ default hΓ (fun _ _ => ?_)) | (refine J.o 10 ?_; refine J.ev' hΓ ?_) | (refine J.o 11 ?_; refine J.ev' hΓ ?_)))
    | (first | refine JC.seq ?_ | refine JC.region ?_ | refine JC.ret ?_ | refine JC.skip ?_ | refine thenK.nn ?_ | refine JC.condF rfl ?_ | (refine JC.cond rfl (fun hc => ?_) (fun hc => ?_) <;> ((try simp only [decide_eq_true_eq, decide_eq_false_iff_not, beq_iff_eq, beq_eq_false_iff_ne, bne_iff_ne, bne_eq_false_iff_eq, Bool.not_eq_true', Bool.not_eq_false', Bool.not_eq_true, Bool.not_eq_false] at hc) <;> first | (first | (exact absurd rfl hc) | (exfalso; omega) | (exact absurd (hc.symm.trans (by assumption : _ = false)) (by decide)) | (exact absurd (hc.symm.trans (by assumption : _ = true)) (by decide))) | skip)) | refine drawK.nn ?_)
    | (fail)
    | fail
  all_goals first | (exfalso; omega) | skip
  refine ret3f rfl rfl rfl rfl rfl rfl rfl (fun w1 hw => ⟨_, _, rfl, H.drop6 hw, bt, Kt, t, y, hO2, hP2, rfl, rfl, sv2⟩)
end Go.Proofs.YtbhgahjeocnfcaaGreat
namespace Go.Proofs.YtbhgahjeocnfcaaGreat
open Go Go.Cx Go.RowKit
set_option linter.unusedVariables false
set_option linter.unusedSimpArgs false
set_option maxHeartbeats 4000000
attribute [local irreducible] J JC thenK blockK loopK roundK drawK retK QW Qt pel List.set Calls
open Go.Maps Go.Lib
set_option maxRecDepth 8000
attribute [local irreducible] JE Br eK0 eK3 brK pc
section
variable {P : Program} {n : Nat} {w0 : World} {R : Heap} {l0 : List Oper} {K : Exit → Fr → List Heap → Prop} {f : Fr} {L : List Heap} {rest : List (Nat × Oper)} {κ : Nat}
variable {d : Nat} {ty : TypeId} {pos : String} {aft : Array Edge} {g : Option (Nat × Bool)} {t u : TypeId} {x y : Operand}
theorem J.eqT2 {Γ : List (Nat × TI)} {a b : Nat} (hΓ : Fits P Γ) (h : a = b) (k : J P n w0 R l0 K rest (upd f d (.bool true)) L) (hg : wantB n f l0 ⟨some d, .binOp .eql t x y u, ty, pos, aft, g⟩ = true := by exact rfl) (hx : Cx.ev n f x = .int .i64 (a : Int) := by exact rfl) (hy : Cx.ev n f y = .int .i64 (b : Int) := by exact rfl) (hv : pureEv Γ (Cx.ev n f) (.binOp .eql t x y u) = some (.bool ((a : Int) == (b : Int))) := by exact rfl) : J P n w0 R l0 K ((κ, ⟨some d, .binOp .eql t x y u, ty, pos, aft, g⟩) :: rest) f L := by
  subst h
  have e : ((a : Int) == (a : Int)) = true := by simp
  rw [e] at hv
  exact J.ev hΓ hg hv k
end
end Go.Proofs.YtbhgahjeocnfcaaGreat
namespace Go.Proofs.YtbhgahjeocnfcaaGreat
open Go Go.Cx Go.RowKit
set_option linter.unusedVariables false
set_option linter.unusedSimpArgs false
set_option maxHeartbeats 4000000
attribute [local irreducible] J JC thenK blockK loopK roundK drawK retK QW Qt pel List.set Calls
set_option maxRecDepth 8000
attribute [local irreducible] JE Br eK0 eK3 brK pc
theorem eHas05 : Entr Tryz.prog 83 := Entr.of Tryz.func83 rfl rfl
theorem eHolds05 : Entr Tryz.prog 61 := Entr.of Tryz.func61 rfl rfl
theorem eAssignm : Entr Tryz.prog 60 := Entr.of Tryz.func60 rfl rfl
theorem has05_any (s : Nat × Nat) (hs : okS s) (v : Int) (w : World) :
    Calls Tryz.prog 83 #[sv s, .int .i64 v] w fun e w' => e = .returned (.bool (hasB s v)) ∧ Below w.heap.size w w' := by
  obtain ⟨h1, h2⟩ := hs
  unfold hasB
  by_cases hl : 1 ≤ v ∧ v ≤ 64
  · have e1 : (v - 1) / 64 = 0 := by omega
    have e2 : (v - 1) % 64 = v - 1 := by omega
    refine calls_of_JC (R := []) Tryz.func83 Tryz.ntmps83 rfl rfl (Holds.nil _) ?_
    repeat' first
      | (refine J.isJ ?_; (first | (first | (refine J.o 0 ?_; refine J.ev' hΓ ?_) | refine J.nil ?_ | refine J.kd ?_ | (refine J.o 4 ?_; first | refine J.e0 hΓ ?_) | (refine J.o 3 ?_; first | refine J.iA hΓ ?_ | refine J.ev' hΓ ?_) | (refine J.o 1 ?_; first | refine J.sb ?_ | refine J.qu ?_ | refine J.rm ?_ | refine J.sr ?_) | (refine J.o 2 ?_; refine J.cv _ hΓ ?_) | (refine J.o 6 ?_; refine J.bx (fun _ => ?_)) | (refine J.o 10 ?_; first | refine J.ev' hΓ ?_) | (refine J.o 11 ?_; first | refine J.ev' hΓ ?_)) | ((fail_if_success refine J.wt ?_); refine J.gc rfl rfl (fun hc => ?_) (fun hc => ?_) <;> ((try simp only [decide_eq_true_eq, decide_eq_false_iff_not, beq_iff_eq, beq_eq_false_iff_ne, bne_iff_ne, bne_eq_false_iff_eq, Bool.not_eq_true', Bool.not_eq_false', Bool.not_eq_true, Bool.not_eq_false] at hc) <;> first | (first | (exact absurd rfl hc) | (exfalso; omega) | (exact absurd (hc.symm.trans (by assumption : _ = false)) (by decide)) | (exact absurd (hc.symm.trans (by assumption : _ = true)) (by decide))) | skip))))
      | (first | refine JC.seq ?_ | refine JC.region ?_ | refine JC.ret ?_ | refine thenK.nn ?_)
      | fail
    all_goals first | (exfalso; omega) | skip
    all_goals (refine ret1f rfl rfl rfl (fun w1 hw => ⟨retB ?_, hw.below⟩))
    rw [if_pos hl, ← shr_bit, e2]
  by_cases hh : 65 ≤ v ∧ v ≤ 128
  · have e1 : (v - 1) / 64 = 1 := by omega
    have e2 : (v - 1) % 64 = v - 65 := by omega
    refine calls_of_JC (R := []) Tryz.func83 Tryz.ntmps83 rfl rfl (Holds.nil _) ?_
    repeat' first
      | (refine J.isJ ?_; (first | (first | (refine J.o 0 ?_; refine J.ev' hΓ ?_) | refine J.nil ?_ | refine J.kd ?_ | (refine J.o 4 ?_; first | refine J.e0 hΓ ?_) | (refine J.o 3 ?_; first | refine J.iA hΓ ?_ | refine J.ev' hΓ ?_) | (refine J.o 1 ?_; first | refine J.sb ?_ | refine J.qu ?_ | refine J.rm ?_ | refine J.sr ?_) | (refine J.o 2 ?_; refine J.cv _ hΓ ?_) | (refine J.o 6 ?_; refine J.bx (fun _ => ?_)) | (refine J.o 10 ?_; first | refine J.ev' hΓ ?_) | (refine J.o 11 ?_; first | refine J.ev' hΓ ?_)) | ((fail_if_success refine J.wt ?_); refine J.gc rfl rfl (fun hc => ?_) (fun hc => ?_) <;> ((try simp only [decide_eq_true_eq, decide_eq_false_iff_not, beq_iff_eq, beq_eq_false_iff_ne, bne_iff_ne, bne_eq_false_iff_eq, Bool.not_eq_true', Bool.not_eq_false', Bool.not_eq_true, Bool.not_eq_false] at hc) <;> first | (first | (exact absurd rfl hc) | (exfalso; omega) | (exact absurd (hc.symm.trans (by assumption : _ = false)) (by decide)) | (exact absurd (hc.symm.trans (by assumption : _ = true)) (by decide))) | skip))))
      | (first | refine JC.seq ?_ | refine JC.region ?_ | refine JC.ret ?_ | refine thenK.nn ?_)
      | fail
    all_goals first | (exfalso; omega) | skip
    all_goals (refine ret1f rfl rfl rfl (fun w1 hw => ⟨retB ?_, hw.below⟩))
    rw [if_neg hl, if_pos hh, ← shr_bit, e2]
  rw [if_neg hl, if_neg hh]
  refine calls_of_JC (R := []) Tryz.func83 Tryz.ntmps83 rfl rfl (Holds.nil _) ?_
  repeat' first
    | (refine J.isJ ?_; (first | (first | (refine J.o 0 ?_; refine J.ev' hΓ ?_) | refine J.nil ?_ | refine J.kd ?_ | (refine J.o 4 ?_; first | refine J.e0 hΓ ?_) | (refine J.o 3 ?_; first | refine J.iA hΓ ?_ | refine J.ev' hΓ ?_) | (refine J.o 1 ?_; first | refine J.sb ?_ | refine J.qu ?_ | refine J.rm ?_ | refine J.sr ?_) | (refine J.o 2 ?_; refine J.cv _ hΓ ?_) | (refine J.o 6 ?_; refine J.bx (fun _ => ?_)) | (refine J.o 10 ?_; first | refine J.ev' hΓ ?_) | (refine J.o 11 ?_; first | refine J.ev' hΓ ?_)) | ((fail_if_success refine J.wt ?_); refine J.gc rfl rfl (fun hc => ?_) (fun hc => ?_) <;> ((try simp only [decide_eq_true_eq, decide_eq_false_iff_not, beq_iff_eq, beq_eq_false_iff_ne, bne_iff_ne, bne_eq_false_iff_eq, Bool.not_eq_true', Bool.not_eq_false', Bool.not_eq_true, Bool.not_eq_false] at hc) <;> first | (first | (exact absurd rfl hc) | (exfalso; omega) | (exact absurd (hc.symm.trans (by assumption : _ = false)) (by decide)) | (exact absurd (hc.symm.trans (by assumption : _ = true)) (by decide))) | skip))))
    | (first | refine JC.seq ?_ | refine JC.region ?_ | refine JC.ret ?_ | refine thenK.nn ?_)
    | fail
  all_goals first | (exfalso; omega) | exact ret1f rfl rfl rfl (fun w1 hw => ⟨rfl, hw.below⟩)
theorem holds05_any (s : Nat × Nat) (hs : okS s) (l : Int) (hl : -128 ≤ l ∧ l ≤ 128) (w : World) :
    Calls Tryz.prog 61 #[sv s, .int .i64 l] w fun e w' => e = .returned (.bool (if l < 0 then !hasB s (-l) else hasB s l)) ∧ Below w.heap.size w w' := by
  by_cases h : l < 0
  · rw [if_pos h]
    refine calls_of_JC (R := []) Tryz.func61 Tryz.ntmps61 rfl rfl (Holds.nil _) ?_
    repeat' first
      | (refine J.isJ ?_; first | (first | (refine J.o 0 ?_; refine J.ev' hΓ ?_) | refine J.nil ?_ | (refine J.o 4 ?_; first | refine J.e0 hΓ ?_) | (refine J.o 3 ?_; first | refine J.ev' hΓ ?_) | (refine J.o 1 ?_; first | refine J.ng ?_) | (refine J.o 6 ?_; refine J.bx (fun _ => ?_)) | (refine J.o 10 ?_; first | refine J.ev' hΓ ?_) | (refine J.o 11 ?_; first | refine J.ev' hΓ ?_)) | ((refine J.fc 83 ?_; refine J.call0 eHas05 rfl rfl (fun w hw => has05_any s hs (-l) w) ?_)))
      | (first | refine JC.seq ?_ | refine JC.region ?_ | refine JC.ret ?_ | refine JC.skip ?_ | refine thenK.nn ?_ | refine thenK.r ?_ | (refine JC.cond rfl (fun hc => ?_) (fun hc => ?_) <;> ((try simp only [decide_eq_true_eq, decide_eq_false_iff_not, beq_iff_eq, beq_eq_false_iff_ne, bne_iff_ne, bne_eq_false_iff_eq, Bool.not_eq_true', Bool.not_eq_false', Bool.not_eq_true, Bool.not_eq_false] at hc) <;> first | (first | (exact absurd rfl hc) | (exfalso; omega) | (exact absurd (hc.symm.trans (by assumption : _ = false)) (by decide)) | (exact absurd (hc.symm.trans (by assumption : _ = true)) (by decide))) | skip)))
      | fail
    all_goals first | (exfalso; omega) | exact ret1f rfl rfl rfl (fun w1 hw => ⟨rfl, hw.below⟩)
  · rw [if_neg h]
    refine calls_of_JC (R := []) Tryz.func61 Tryz.ntmps61 rfl rfl (Holds.nil _) ?_
    repeat' first
      | (refine J.isJ ?_; first | (first | (refine J.o 0 ?_; refine J.ev' hΓ ?_) | refine J.nil ?_ | (refine J.o 4 ?_; first | refine J.e0 hΓ ?_) | (refine J.o 3 ?_; first | refine J.ev' hΓ ?_) | (refine J.o 1 ?_; first | refine J.ng ?_) | (refine J.o 6 ?_; refine J.bx (fun _ => ?_)) | (refine J.o 10 ?_; first | refine J.ev' hΓ ?_) | (refine J.o 11 ?_; first | refine J.ev' hΓ ?_)) | ((refine J.fc 83 ?_; refine J.call0 eHas05 rfl rfl (fun w hw => has05_any s hs l w) ?_)))
      | (first | refine JC.seq ?_ | refine JC.region ?_ | refine JC.ret ?_ | refine JC.skip ?_ | refine thenK.nn ?_ | refine thenK.r ?_ | (refine JC.cond rfl (fun hc => ?_) (fun hc => ?_) <;> ((try simp only [decide_eq_true_eq, decide_eq_false_iff_not, beq_iff_eq, beq_eq_false_iff_ne, bne_iff_ne, bne_eq_false_iff_eq, Bool.not_eq_true', Bool.not_eq_false', Bool.not_eq_true, Bool.not_eq_false] at hc) <;> first | (first | (exact absurd rfl hc) | (exfalso; omega) | (exact absurd (hc.symm.trans (by assumption : _ = false)) (by decide)) | (exact absurd (hc.symm.trans (by assumption : _ = true)) (by decide))) | skip)))
      | fail
    all_goals first | (exfalso; omega) | exact ret1f rfl rfl rfl (fun w1 hw => ⟨rfl, hw.below⟩)
theorem assignm_any (s : Nat × Nat) (hs : okS s) (N : Nat) (hN : N ≤ 128) (hsub : ∀ u, hasB s u = true → u ≤ N) (w : World) :
    Calls Tryz.prog 60 #[sv s, .int .i64 (N : Int)] w fun e w' => e = .returned (.bool true) ∧ Below w.heap.size w w' := by
  refine calls_of_JC (R := []) Tryz.func60 Tryz.ntmps60 rfl rfl (Holds.nil _) ?_
  repeat' first
    | (refine J.isJ ?_; (first | (first | (refine J.o 0 ?_; refine J.ev' hΓ ?_) | refine J.nil ?_ | (refine J.o 4 ?_; first | refine J.e0 hΓ ?_) | (refine J.o 3 ?_; first | refine J.ev' hΓ ?_) | (refine J.o 1 ?_; first | refine J.ad ?_) | (refine J.o 6 ?_; refine J.bx (fun _ => ?_)) | (refine J.o 10 ?_; first | refine J.ev' hΓ ?_) | (refine J.o 11 ?_; first | refine J.ev' hΓ ?_))))
    | (first | refine JC.seq ?_ | refine JC.region ?_ | refine JC.block ?_ | refine JC.ret ?_ | refine JC.exit ?_ | refine JC.skip ?_ | refine thenK.nn ?_ | refine thenK.x ?_ | refine blockK.nn ?_ | refine blockK.hit rfl ?_ | refine JC.condF rfl ?_ | (refine JC.cond rfl (fun hc => ?_) (fun hc => ?_) <;> ((try simp only [decide_eq_true_eq, decide_eq_false_iff_not, beq_iff_eq, beq_eq_false_iff_ne, bne_iff_ne, bne_eq_false_iff_eq, Bool.not_eq_true', Bool.not_eq_false', Bool.not_eq_true, Bool.not_eq_false] at hc) <;> first | (first | (exact absurd rfl hc) | (exfalso; omega) | (exact absurd (hc.symm.trans (by assumption : _ = false)) (by decide)) | (exact absurd (hc.symm.trans (by assumption : _ = true)) (by decide))) | skip)) | refine loopK.x ?_)
    | fail
  all_goals first | (exfalso; omega) | skip
  refine JC.loop (fun i => i == 4 || Nat.ble 5 i) (fun m g L => ∃ (k : Nat), g 5 = .int .i64 ((N : Int) + 1 + k) ∧ N + k + m = 128 ∧ L = _) (128 - N) ⟨0, rfl, by omega, rfl⟩ ?_
  rintro m g L ⟨k, e5, hkm, rfl⟩
  refine JC.pin 5 e5 ?_
  clear e5
  have hb : hasB s ((N : Int) + 1 + k) = false := by
    cases h : hasB s ((N : Int) + 1 + k) with
    | false => rfl
    | true => have := hsub _ h; omega
  have cH := fun w => has05_any s hs ((N : Int) + 1 + k) w
  rw [hb] at cH
  rcases Nat.lt_or_ge (N + k) 128 with hk | hk
  · 
    repeat' first
      | (refine J.isJ ?_; first | (first | (refine J.o 0 ?_; refine J.ev' hΓ ?_) | refine J.nil ?_ | (refine J.o 4 ?_; first | refine J.e0 hΓ ?_) | (refine J.o 3 ?_; first | refine J.ev' hΓ ?_) | (refine J.o 1 ?_; first | refine J.ad ?_) | (refine J.o 6 ?_; refine J.bx (fun _ => ?_)) | (refine J.o 10 ?_; first | refine J.ev' hΓ ?_) | (refine J.o 11 ?_; first | refine J.ev' hΓ ?_)) | ((refine J.fc 83 ?_; refine J.call0 eHas05 rfl rfl (fun w hw => cH w) ?_)))
      | (first | refine JC.seq ?_ | refine JC.region ?_ | refine JC.block ?_ | refine JC.ret ?_ | refine JC.exit ?_ | refine JC.skip ?_ | refine thenK.nn ?_ | refine thenK.x ?_ | refine blockK.nn ?_ | refine blockK.hit rfl ?_ | refine JC.condF rfl ?_ | (refine JC.cond rfl (fun hc => ?_) (fun hc => ?_) <;> ((try simp only [decide_eq_true_eq, decide_eq_false_iff_not, beq_iff_eq, beq_eq_false_iff_ne, bne_iff_ne, bne_eq_false_iff_eq, Bool.not_eq_true', Bool.not_eq_false', Bool.not_eq_true, Bool.not_eq_false] at hc) <;> first | (first | (exact absurd rfl hc) | (exfalso; omega) | (exact absurd (hc.symm.trans (by assumption : _ = false)) (by decide)) | (exact absurd (hc.symm.trans (by assumption : _ = true)) (by decide))) | skip)) | refine loopK.x ?_)
      | fail
    all_goals first | (exfalso; omega) | skip
    all_goals refine loopK.nn (m - 1) (by omega) (by repeat (first | refine Ag.upd rfl ?_ | exact Ag.hv)) ⟨k + 1, ?_, by omega, rfl⟩
    all_goals (show Value.int .i64 _ = _; congr 1)
  · 
    repeat' first
      | (refine J.isJ ?_; (first | (first | (refine J.o 0 ?_; refine J.ev' hΓ ?_) | refine J.nil ?_ | (refine J.o 4 ?_; first | refine J.e0 hΓ ?_) | (refine J.o 3 ?_; first | refine J.ev' hΓ ?_) | (refine J.o 1 ?_; first | refine J.ad ?_) | (refine J.o 6 ?_; refine J.bx (fun _ => ?_)) | (refine J.o 10 ?_; first | refine J.ev' hΓ ?_) | (refine J.o 11 ?_; first | refine J.ev' hΓ ?_))))
      | (first | refine JC.seq ?_ | refine JC.region ?_ | refine JC.block ?_ | refine JC.ret ?_ | refine JC.exit ?_ | refine JC.skip ?_ | refine thenK.nn ?_ | refine thenK.x ?_ | refine blockK.nn ?_ | refine blockK.hit rfl ?_ | refine JC.condF rfl ?_ | (refine JC.cond rfl (fun hc => ?_) (fun hc => ?_) <;> ((try simp only [decide_eq_true_eq, decide_eq_false_iff_not, beq_iff_eq, beq_eq_false_iff_ne, bne_iff_ne, bne_eq_false_iff_eq, Bool.not_eq_true', Bool.not_eq_false', Bool.not_eq_true, Bool.not_eq_false] at hc) <;> first | (first | (exact absurd rfl hc) | (exfalso; omega) | (exact absurd (hc.symm.trans (by assumption : _ = false)) (by decide)) | (exact absurd (hc.symm.trans (by assumption : _ = true)) (by decide))) | skip)) | refine loopK.x ?_)
      | fail
    all_goals first | (exfalso; omega) | exact ret1f rfl rfl rfl (fun w1 hw => ⟨rfl, hw.below⟩)
section
variable {P : Program} {n : Nat} {w0 : World} {R : Heap} {l0 : List Oper} {K : Exit → Fr → List Heap → Prop} {f : Fr} {L : List Heap} {rest : List (Nat × Oper)} {κ : Nat}
variable {d : Nat} {ty : TypeId} {pos : String} {aft : Array Edge} {g : Option (Nat × Bool)} {t u : TypeId} {x y : Operand}
theorem J.s2 {yk : IntKind} {j : Int} (k : J P n w0 R l0 K rest (upd f d (.int .i64 ((2 ^ j.toNat : Nat) : Int))) L) (hg : wantB n f l0 ⟨some d, .binOp .shl t x y u, ty, pos, aft, g⟩ = true := by exact rfl) (hx : Cx.ev n f x = .int .i64 1 := by exact rfl) (hy : Cx.ev n f y = .int yk j := by exact rfl) (h0 : 0 ≤ j := by omega) (h1 : j < 63 := by omega) : J P n w0 R l0 K ((κ, ⟨some d, .binOp .shl t x y u, ty, pos, aft, g⟩) :: rest) f L :=
  J.p hg (bin_run hx hy (fun w => by
    have hj : j.toNat < 63 := by omega
    have hlt : 2 ^ j.toNat < 2 ^ 63 := Nat.pow_lt_pow_right (by omega) hj
    have hm : min j.toNat 64 = j.toNat := by omega
    have hn : ¬ j < 0 := by omega
    have hcast : ((2 : Int) ^ j.toNat) = ((2 ^ j.toNat : Nat) : Int) := by rw [Int.natCast_pow]; rfl
    have hw : IntKind.i64.wrap ((2 : Int) ^ j.toNat) = ((2 ^ j.toNat : Nat) : Int) := by
      rw [hcast, IntWalk.i64_in _ ⟨by have := Int.natCast_nonneg (2 ^ j.toNat); omega, by have := Int.ofNat_lt.mpr hlt; have e : ((2 ^ 63 : Nat) : Int) = 9223372036854775808 := rfl; omega⟩]
    simp only [binOp, Op.shift, if_neg hn, IntKind.bits, hm, Int.one_mul, hw]
    rfl)) k
end
end Go.Proofs.YtbhgahjeocnfcaaGreat
namespace Go.Proofs.YtbhgahjeocnfcaaGreat
open Go Go.Cx Go.RowKit
set_option linter.unusedVariables false
set_option linter.unusedSimpArgs false
set_option maxHeartbeats 4000000
attribute [local irreducible] J JC thenK blockK loopK roundK drawK retK QW Qt pel List.set Calls
open Go.Maps Go.Lib
set_option maxRecDepth 8000
attribute [local irreducible] JE Br eK0 eK3 brK pc
theorem eEval05 : Entr Tryz.prog 33 := Entr.of Tryz.func33 rfl rfl
def litT (b : Int → Bool) (l : Int) : Bool := if l < 0 then !b (-l) else b l
def evT (b : Int → Bool) (T : List (List Int)) : Bool := T.all fun c => c.any (litT b)
def okTh (N : Nat) (T : List (List Int)) : Prop := N ≤ 128 ∧ T.length ≤ 4096 ∧ ∀ c ∈ T, c.length ≤ 128 ∧ ∀ x ∈ c, x ≠ 0 ∧ -(N : Int) ≤ x ∧ x ≤ N
theorem okTh_iff {N : Nat} {T : List (List Int)} : thE (N : Int) T = 0 ↔ okTh N T := by
  rw [thE_ok]
  unfold okTh
  constructor
  · rintro ⟨h1, h2, h3⟩; exact ⟨by omega, h2, h3⟩
  · rintro ⟨h1, h2, h3⟩; exact ⟨⟨by omega, by omega⟩, h2, h3⟩
set_option maxHeartbeats 8000000 in
theorem eval05_any (N : Nat) (a : Option Addr) (cap : Nat) (vs : List HV) (s : Nat × Nat) (hs : okS s) (h : Heap) (hr : LLR a vs h) (hok : okTh N (vs.map (·.l))) (hsub : ∀ u, hasB s u = true → u ≤ N) (w : World) (hw : Holds h w) :
    Calls Tryz.prog 33 #[.agg ⟨[.int .i64 (N : Int), .slice a vs.length cap]⟩, sv s] w fun e w' => e = .returned (.bool (evT (hasB s) (vs.map (·.l)))) ∧ Below w.heap.size w w' := by
  have q0 : ∀ L, RdH h L h := fun L => RdH.old fun _ hh => hh
  have cC := fun w hw => check05_any (N : Int) a cap vs h hr w hw
  rw [okTh_iff.2 hok] at cC
  obtain ⟨hN, hTl, hv⟩ := hok
  have cA := fun w => assignm_any s hs N hN hsub w
  have hlen : (vs.map (·.l)).length = vs.length := List.length_map _
  obtain ⟨ho, hi⟩ := hr
  refine calls_of_JC (R := h) Tryz.func33 Tryz.ntmps33 rfl rfl (hw) ?_
  repeat' first
    | (refine J.isJ ?_; first | (first | (refine J.o 6 ?_; first | refine J.bx (t := 24) (fun b2 => ?_) | refine J.bx (t := 44) (fun b3 => ?_)) | (refine J.fc 22 ?_; refine J.call0 eCheck05 rfl rfl (fun w hw => cC w (hw.rdH (q0 _))) ?_) | (refine J.fc 60 ?_; refine J.call0 eAssignm rfl rfl (fun w hw => cA w) ?_) | (refine J.o 4 ?_; first | refine J.e0 hΓ ?_ | refine J.e1 hΓ ?_)) | (first | (refine J.o 0 ?_; refine J.ev' hΓ ?_) | refine J.nil ?_ | refine J.kd ?_ | (refine J.o 4 ?_; first | refine J.lT default hΓ ?_) | (refine J.o 3 ?_; first | refine J.iJ hΓ ?_ | refine J.ev' hΓ ?_) | (refine J.o 1 ?_; first | refine J.ad ?_) | (refine J.o 6 ?_; refine J.bx (fun _ => ?_)) | (refine J.o 10 ?_; refine J.ev' hΓ ?_) | (refine J.o 11 ?_; refine J.ev' hΓ ?_)))
    | (first | refine JC.seq ?_ | refine JC.region ?_ | refine JC.block ?_ | refine JC.ret ?_ | refine JC.exit ?_ | refine JC.skip ?_ | refine thenK.nn ?_ | refine thenK.r ?_ | refine thenK.x ?_ | refine blockK.nn ?_ | refine blockK.r ?_ | refine blockK.hit rfl ?_ | refine JC.condT rfl ?_ | refine JC.condF rfl ?_ | (refine JC.cond rfl (fun hc => ?_) (fun hc => ?_) <;> ((try simp only [decide_eq_true_eq, decide_eq_false_iff_not, beq_iff_eq, beq_eq_false_iff_ne, bne_iff_ne, bne_eq_false_iff_eq, Bool.not_eq_true', Bool.not_eq_false', Bool.not_eq_true, Bool.not_eq_false] at hc) <;> first | (first | (exact absurd rfl hc) | (exfalso; omega) | (exact absurd (hc.symm.trans (by assumption : _ = false)) (by decide)) | (exact absurd (hc.symm.trans (by assumption : _ = true)) (by decide))) | skip)) | refine drawK.nn ?_ | refine loopK.r ?_ | refine loopK.x ?_)
    | (fail)
    | fail
  all_goals first | (exfalso; omega) | skip
  refine JC.loop (fun i => i == 4 || i == 5 || i == 6 || i == 7 || Nat.ble 18 i) (fun m g L => ∃ (k : Nat), g 5 = .int .i64 (k : Int) ∧ k + m = vs.length ∧ (((vs.map (·.l)).take k).all fun c => c.any (litT (hasB s))) = true ∧ L = _) vs.length ⟨0, rfl, by omega, rfl, rfl⟩ ?_
  rintro m g L ⟨k, e5, hkm, hall, rfl⟩
  refine JC.pin 5 e5 ?_
  clear e5
  rcases Nat.lt_or_ge k vs.length with hk | hk
  case inr =>
    rw [List.take_of_length_le (by rw [List.length_map]; exact hk)] at hall
    repeat' first
      | (refine J.isJ ?_; first | ((refine J.o 4 ?_; first | refine J.e0 hΓ ?_ | refine J.e1 hΓ ?_)) | (first | (refine J.o 0 ?_; refine J.ev' hΓ ?_) | refine J.nil ?_ | refine J.kd ?_ | (refine J.o 4 ?_; first | refine J.lT default hΓ ?_) | (refine J.o 3 ?_; first | refine J.iJ hΓ ?_ | refine J.ev' hΓ ?_) | (refine J.o 1 ?_; first | refine J.ad ?_) | (refine J.o 6 ?_; refine J.bx (fun _ => ?_)) | (refine J.o 10 ?_; refine J.ev' hΓ ?_) | (refine J.o 11 ?_; refine J.ev' hΓ ?_)))
      | (first | refine JC.seq ?_ | refine JC.region ?_ | refine JC.block ?_ | refine JC.ret ?_ | refine JC.exit ?_ | refine JC.skip ?_ | refine thenK.nn ?_ | refine thenK.r ?_ | refine thenK.x ?_ | refine blockK.nn ?_ | refine blockK.r ?_ | refine blockK.hit rfl ?_ | refine JC.condT rfl ?_ | refine JC.condF rfl ?_ | (refine JC.cond rfl (fun hc => ?_) (fun hc => ?_) <;> ((try simp only [decide_eq_true_eq, decide_eq_false_iff_not, beq_iff_eq, beq_eq_false_iff_ne, bne_iff_ne, bne_eq_false_iff_eq, Bool.not_eq_true', Bool.not_eq_false', Bool.not_eq_true, Bool.not_eq_false] at hc) <;> first | (first | (exact absurd rfl hc) | (exfalso; omega) | (exact absurd (hc.symm.trans (by assumption : _ = false)) (by decide)) | (exact absurd (hc.symm.trans (by assumption : _ = true)) (by decide))) | skip)) | refine drawK.nn ?_ | refine loopK.r ?_ | refine loopK.x ?_)
      | (fail)
      | fail
    all_goals first | (exfalso; omega) | exact ret1f rfl rfl rfl (fun w1 hw => ⟨by rw [show evT (hasB s) (vs.map (·.l)) = true from hall], hw.below⟩)
  have hm := mem_g vs k hk
  have hik := hi _ hm
  have hml : (vs.getD k default).l ∈ vs.map (·.l) := List.mem_map_of_mem (f := (·.l)) hm
  have hck := hv _ hml
  have hcn := hck.1
  repeat' first
    | (refine J.isJ ?_; first | (first | (refine J.o 3 ?_; refine J.iJ hΓ ?_ (hs := ho)) | (refine J.o 4 ?_; first | refine J.lT default hΓ ?_ (hs := ho) (hr := q0 _) | refine J.e0 hΓ ?_ | refine J.e1 hΓ ?_)) | (first | (refine J.o 0 ?_; refine J.ev' hΓ ?_) | refine J.nil ?_ | refine J.kd ?_ | (refine J.o 4 ?_; first | refine J.lT default hΓ ?_) | (refine J.o 3 ?_; first | refine J.iJ hΓ ?_ | refine J.ev' hΓ ?_) | (refine J.o 1 ?_; first | refine J.ad ?_) | (refine J.o 6 ?_; refine J.bx (fun _ => ?_)) | (refine J.o 10 ?_; refine J.ev' hΓ ?_) | (refine J.o 11 ?_; refine J.ev' hΓ ?_)))
    | (first | refine JC.seq ?_ | refine JC.region ?_ | refine JC.block ?_ | refine JC.ret ?_ | refine JC.exit ?_ | refine JC.skip ?_ | refine thenK.nn ?_ | refine thenK.r ?_ | refine thenK.x ?_ | refine blockK.nn ?_ | refine blockK.r ?_ | refine blockK.hit rfl ?_ | refine JC.condT rfl ?_ | refine JC.condF rfl ?_ | (refine JC.cond rfl (fun hc => ?_) (fun hc => ?_) <;> ((try simp only [decide_eq_true_eq, decide_eq_false_iff_not, beq_iff_eq, beq_eq_false_iff_ne, bne_iff_ne, bne_eq_false_iff_eq, Bool.not_eq_true', Bool.not_eq_false', Bool.not_eq_true, Bool.not_eq_false] at hc) <;> first | (first | (exact absurd rfl hc) | (exfalso; omega) | (exact absurd (hc.symm.trans (by assumption : _ = false)) (by decide)) | (exact absurd (hc.symm.trans (by assumption : _ = true)) (by decide))) | skip)) | refine drawK.nn ?_ | refine loopK.r ?_ | refine loopK.x ?_)
    | (fail)
    | fail
  all_goals first | (exfalso; omega) | skip
  refine JC.loop (fun i => i == 6 || i == 7 || (Nat.ble 25 i && Nat.ble i 47)) (fun m g L => ∃ (j : Nat), g 7 = .int .i64 (j : Int) ∧ g 6 = .bool (((vs.getD k default).l.take j).any (litT (hasB s))) ∧ j + m = (vs.getD k default).l.length ∧ L = _) (vs.getD k default).l.length ⟨0, rfl, rfl, by omega, rfl⟩ ?_
  rintro m3 g3 L3 ⟨j, e7, e6, hjm, rfl⟩
  refine JC.pin 7 e7 (JC.pin 6 e6 ?_)
  clear e7 e6
  rcases Nat.lt_or_ge j (vs.getD k default).l.length with hj | hj
  case inl =>
    have hvj := hck.2 _ (mem_g (vs.getD k default).l j hj)
    have cH := fun w => holds05_any s hs ((vs.getD k default).l.getD j default) (by omega) w
    have hsn : ((vs.getD k default).l.take (j + 1)).any (litT (hasB s)) = (Bool.or (((vs.getD k default).l.take j).any (litT (hasB s))) (litT (hasB s) ((vs.getD k default).l.getD j default))) := by
      rw [take_g _ j hj, List.any_append, List.any_cons, List.any_nil, Bool.or_false]
    rw [show (if (vs.getD k default).l.getD j default < 0 then !hasB s (-(vs.getD k default).l.getD j default) else hasB s ((vs.getD k default).l.getD j default)) = litT (hasB s) ((vs.getD k default).l.getD j default) from rfl] at cH
    generalize ((vs.getD k default).l.take j).any (litT (hasB s)) = is at *
    cases is with
    | true =>
      repeat' first
        | (refine J.isJ ?_; first | (first | (refine J.o 3 ?_; first | refine J.iJ hΓ ?_ (hs := ho) | refine J.iJ hΓ ?_ (hs := hik)) | (refine J.o 4 ?_; first | refine J.lT default hΓ ?_ (hs := hik) (hr := q0 _) | refine J.lT default hΓ ?_ (hs := ho) (hr := q0 _) | refine J.e0 hΓ ?_ | refine J.e1 hΓ ?_)) | (first | (refine J.o 0 ?_; refine J.ev' hΓ ?_) | refine J.nil ?_ | refine J.kd ?_ | (refine J.o 4 ?_; first | refine J.lT default hΓ ?_) | (refine J.o 3 ?_; first | refine J.iJ hΓ ?_ | refine J.ev' hΓ ?_) | (refine J.o 1 ?_; first | refine J.ad ?_) | (refine J.o 6 ?_; refine J.bx (fun _ => ?_)) | (refine J.o 10 ?_; refine J.ev' hΓ ?_) | (refine J.o 11 ?_; refine J.ev' hΓ ?_)))
        | (first | refine JC.seq ?_ | refine JC.region ?_ | refine JC.block ?_ | refine JC.ret ?_ | refine JC.exit ?_ | refine JC.skip ?_ | refine thenK.nn ?_ | refine thenK.r ?_ | refine thenK.x ?_ | refine blockK.nn ?_ | refine blockK.r ?_ | refine blockK.hit rfl ?_ | refine JC.condT rfl ?_ | refine JC.condF rfl ?_ | (refine JC.cond rfl (fun hc => ?_) (fun hc => ?_) <;> ((try simp only [decide_eq_true_eq, decide_eq_false_iff_not, beq_iff_eq, beq_eq_false_iff_ne, bne_iff_ne, bne_eq_false_iff_eq, Bool.not_eq_true', Bool.not_eq_false', Bool.not_eq_true, Bool.not_eq_false] at hc) <;> first | (first | (exact absurd rfl hc) | (exfalso; omega) | (exact absurd (hc.symm.trans (by assumption : _ = false)) (by decide)) | (exact absurd (hc.symm.trans (by assumption : _ = true)) (by decide))) | skip)) | refine drawK.nn ?_ | refine loopK.r ?_ | refine loopK.x ?_)
        | ((refine JC.drawW [] [] (by kernel_rfl) (by kernel_rfl) ?_))
        | fail
      all_goals first | (exfalso; omega) | skip
      all_goals refine loopK.nn (m3 - 1) (by omega) (by repeat (first | refine Ag.upd rfl ?_ | exact Ag.hv)) ⟨j + 1, ?_, ?_, by omega, rfl⟩
      · show Value.int .i64 _ = _; congr 1
      · rw [hsn]; rfl
    | false =>
      repeat' first
        | (refine J.isJ ?_; first | (first | (refine J.o 3 ?_; first | refine J.iJ hΓ ?_ (hs := ho) | refine J.iJ hΓ ?_ (hs := hik)) | (refine J.o 4 ?_; first | refine J.lT default hΓ ?_ (hs := hik) (hr := q0 _) | refine J.lT default hΓ ?_ (hs := ho) (hr := q0 _) | refine J.e0 hΓ ?_ | refine J.e1 hΓ ?_) | (refine J.fc 61 ?_; refine J.call0 eHolds05 rfl rfl (fun w hw => cH w) ?_)) | (first | (refine J.o 0 ?_; refine J.ev' hΓ ?_) | refine J.nil ?_ | refine J.kd ?_ | (refine J.o 4 ?_; first | refine J.lT default hΓ ?_) | (refine J.o 3 ?_; first | refine J.iJ hΓ ?_ | refine J.ev' hΓ ?_) | (refine J.o 1 ?_; first | refine J.ad ?_) | (refine J.o 6 ?_; refine J.bx (fun _ => ?_)) | (refine J.o 10 ?_; refine J.ev' hΓ ?_) | (refine J.o 11 ?_; refine J.ev' hΓ ?_)))
        | (first | refine JC.seq ?_ | refine JC.region ?_ | refine JC.block ?_ | refine JC.ret ?_ | refine JC.exit ?_ | refine JC.skip ?_ | refine thenK.nn ?_ | refine thenK.r ?_ | refine thenK.x ?_ | refine blockK.nn ?_ | refine blockK.r ?_ | refine blockK.hit rfl ?_ | refine JC.condT rfl ?_ | refine JC.condF rfl ?_ | (refine JC.cond rfl (fun hc => ?_) (fun hc => ?_) <;> ((try simp only [decide_eq_true_eq, decide_eq_false_iff_not, beq_iff_eq, beq_eq_false_iff_ne, bne_iff_ne, bne_eq_false_iff_eq, Bool.not_eq_true', Bool.not_eq_false', Bool.not_eq_true, Bool.not_eq_false] at hc) <;> first | (first | (exact absurd rfl hc) | (exfalso; omega) | (exact absurd (hc.symm.trans (by assumption : _ = false)) (by decide)) | (exact absurd (hc.symm.trans (by assumption : _ = true)) (by decide))) | skip)) | refine drawK.nn ?_ | refine loopK.r ?_ | refine loopK.x ?_)
        | ((refine JC.drawW [] [] (by kernel_rfl) (by kernel_rfl) ?_))
        | fail
      all_goals first | (exfalso; omega) | skip
      all_goals refine loopK.nn (m3 - 1) (by omega) (by repeat (first | refine Ag.upd rfl ?_ | exact Ag.hv)) ⟨j + 1, ?_, ?_, by omega, rfl⟩
      · show Value.int .i64 _ = _; congr 1
      · rw [hsn]; rfl
  rw [List.take_of_length_le hj]
  cases hb : (vs.getD k default).l.any (litT (hasB s)) with
  | true =>
    have hall2 : (((vs.map (·.l)).take (k + 1)).all fun c => c.any (litT (hasB s))) = true := by
      rw [← List.map_take, take_g vs k hk, List.map_append, List.all_append, List.map_take, hall]
      simp only [List.map_cons, List.map_nil, List.all_cons, List.all_nil, hb, Bool.and_self]
    repeat' first
      | (refine J.isJ ?_; first | (first | (refine J.o 3 ?_; first | refine J.iJ hΓ ?_ (hs := ho)) | (refine J.o 4 ?_; first | refine J.lT default hΓ ?_ (hs := ho) (hr := q0 _) | refine J.e0 hΓ ?_ | refine J.e1 hΓ ?_)) | (first | (refine J.o 0 ?_; refine J.ev' hΓ ?_) | refine J.nil ?_ | refine J.kd ?_ | (refine J.o 4 ?_; first | refine J.lT default hΓ ?_) | (refine J.o 3 ?_; first | refine J.iJ hΓ ?_ | refine J.ev' hΓ ?_) | (refine J.o 1 ?_; first | refine J.ad ?_) | (refine J.o 6 ?_; refine J.bx (fun _ => ?_)) | (refine J.o 10 ?_; refine J.ev' hΓ ?_) | (refine J.o 11 ?_; refine J.ev' hΓ ?_)))
      | (first | refine JC.seq ?_ | refine JC.region ?_ | refine JC.block ?_ | refine JC.ret ?_ | refine JC.exit ?_ | refine JC.skip ?_ | refine thenK.nn ?_ | refine thenK.r ?_ | refine thenK.x ?_ | refine blockK.nn ?_ | refine blockK.r ?_ | refine blockK.hit rfl ?_ | refine JC.condT rfl ?_ | refine JC.condF rfl ?_ | (refine JC.cond rfl (fun hc => ?_) (fun hc => ?_) <;> ((try simp only [decide_eq_true_eq, decide_eq_false_iff_not, beq_iff_eq, beq_eq_false_iff_ne, bne_iff_ne, bne_eq_false_iff_eq, Bool.not_eq_true', Bool.not_eq_false', Bool.not_eq_true, Bool.not_eq_false] at hc) <;> first | (first | (exact absurd rfl hc) | (exfalso; omega) | (exact absurd (hc.symm.trans (by assumption : _ = false)) (by decide)) | (exact absurd (hc.symm.trans (by assumption : _ = true)) (by decide))) | skip)) | refine drawK.nn ?_ | refine loopK.r ?_ | refine loopK.x ?_)
      | ((refine JC.drawW [] [] (by kernel_rfl) (by kernel_rfl) ?_))
      | fail
    all_goals first | (exfalso; omega) | skip
    all_goals refine loopK.nn (m - 1) (by omega) (by repeat (first | refine Ag.upd rfl ?_ | exact Ag.hv | refine Ag.hv2 (fun i hi => by simp at hi ⊢; omega) ?_)) ⟨k + 1, ?_, by omega, hall2, rfl⟩
    all_goals (show Value.int .i64 _ = _; congr 1)
  | false =>
    have hno : evT (hasB s) (vs.map (·.l)) = false := by
      unfold evT
      rw [List.all_eq_false]
      exact ⟨_, hml, by rw [hb]; decide⟩
    repeat' first
      | (refine J.isJ ?_; first | (first | (refine J.o 3 ?_; first | refine J.iJ hΓ ?_ (hs := ho)) | (refine J.o 4 ?_; first | refine J.lT default hΓ ?_ (hs := ho) (hr := q0 _) | refine J.e0 hΓ ?_ | refine J.e1 hΓ ?_)) | (first | (refine J.o 0 ?_; refine J.ev' hΓ ?_) | refine J.nil ?_ | refine J.kd ?_ | (refine J.o 4 ?_; first | refine J.lT default hΓ ?_) | (refine J.o 3 ?_; first | refine J.iJ hΓ ?_ | refine J.ev' hΓ ?_) | (refine J.o 1 ?_; first | refine J.ad ?_) | (refine J.o 6 ?_; refine J.bx (fun _ => ?_)) | (refine J.o 10 ?_; refine J.ev' hΓ ?_) | (refine J.o 11 ?_; refine J.ev' hΓ ?_)))
      | (first | refine JC.seq ?_ | refine JC.region ?_ | refine JC.block ?_ | refine JC.ret ?_ | refine JC.exit ?_ | refine JC.skip ?_ | refine thenK.nn ?_ | refine thenK.r ?_ | refine thenK.x ?_ | refine blockK.nn ?_ | refine blockK.r ?_ | refine blockK.hit rfl ?_ | refine JC.condT rfl ?_ | refine JC.condF rfl ?_ | (refine JC.cond rfl (fun hc => ?_) (fun hc => ?_) <;> ((try simp only [decide_eq_true_eq, decide_eq_false_iff_not, beq_iff_eq, beq_eq_false_iff_ne, bne_iff_ne, bne_eq_false_iff_eq, Bool.not_eq_true', Bool.not_eq_false', Bool.not_eq_true, Bool.not_eq_false] at hc) <;> first | (first | (exact absurd rfl hc) | (exfalso; omega) | (exact absurd (hc.symm.trans (by assumption : _ = false)) (by decide)) | (exact absurd (hc.symm.trans (by assumption : _ = true)) (by decide))) | skip)) | refine drawK.nn ?_ | refine loopK.r ?_ | refine loopK.x ?_)
      | ((refine JC.drawW [] [] (by kernel_rfl) (by kernel_rfl) ?_))
      | fail
    all_goals first | (exfalso; omega) | exact ret1f rfl rfl rfl (fun w1 hw => ⟨by rw [hno], hw.below⟩)
end Go.Proofs.YtbhgahjeocnfcaaGreat
namespace Go.Proofs.YtbhgahjeocnfcaaGreat
open Go Go.Cx Go.RowKit
set_option linter.unusedVariables false
set_option linter.unusedSimpArgs false
set_option maxHeartbeats 4000000
attribute [local irreducible] J JC thenK blockK loopK roundK drawK retK QW Qt pel List.set Calls
open Go.Maps Go.Lib
set_option maxRecDepth 8000
attribute [local irreducible] JE Br eK0 eK3 brK pc
theorem ePairs : Entr Tryz.prog 23 := Entr.of Tryz.func23 rfl rfl
def pairP (k : Nat) : Nat → List (List Int)
  | 0 => []
  | i + 1 => pairP k i ++ [[-((i : Int) + 1), -((i : Int) + 1) - k]]
def ThV (N : Nat) (T : List (List Int)) (v : Value) (h : Heap) : Prop := ∃ a c vs, v = .agg ⟨[.int .i64 (N : Int), .slice a vs.length c]⟩ ∧ vs.map (·.l) = T ∧ LLR a vs h
def cellT (b k : Nat) (a : Option Addr) (n c : Nat) : Heap := [(b, .cells ⟨[.int .i64 ((2 * k : Nat) : Int), .slice a n c]⟩ 24 (0, 0))]
theorem pairs_any (k : Nat) (hk : k ≤ 100) (w : World) : Calls Tryz.prog 23 #[.int .i64 (k : Int)] w (Gives (ThV (2 * k) (pairP k k)) w) := by
  refine calls_of_JC (R := []) Tryz.func23 Tryz.ntmps23 rfl rfl (Holds.nil _) ?_
  refine JC.seq ?_
  refine JC.region ?_
  refine J.isJ ?_
  refine J.o 7 ?_
  refine J.al hΓ (fun b2 => ?_)
  repeat' first
    | (refine J.isJ ?_; first | (first | (refine J.o 1 ?_; refine J.gmul (a := 2) (b := k) ?_ (hw := wI64 (by omega))) | (refine J.o 7 ?_; refine J.al hΓ (fun b3 => ?_))) | (first | (refine J.o 0 ?_; refine J.ev' hΓ ?_) | refine J.nil ?_ | (refine J.o 4 ?_; first | refine J.lR hΓ ?_) | (refine J.o 3 ?_; first | refine J.ev' hΓ ?_) | (refine J.o 1 ?_; first | refine J.ad ?_ | refine J.sb ?_ | refine J.ng ?_) | (refine J.o 5 ?_; first | refine J.t0 hΓ ?_ | refine J.t2 hΓ ?_) | (refine J.o 7 ?_; refine J.al hΓ (fun _ => ?_)) | (refine J.o 8 ?_; refine J.bd hΓ ?_) | (refine J.o 9 ?_; refine J.bl hΓ (fun _ => ?_)) | (refine J.o 10 ?_; refine J.ev' hΓ ?_) | (refine J.o 11 ?_; refine J.ev' hΓ ?_)))
    | (first | refine JC.seq ?_ | refine JC.region ?_ | refine JC.block ?_ | refine JC.ret ?_ | refine JC.exit ?_ | refine JC.skip ?_ | refine thenK.nn ?_ | refine thenK.x ?_ | refine blockK.nn ?_ | refine blockK.hit rfl ?_ | (refine JC.cond rfl (fun hc => ?_) (fun hc => ?_) <;> ((try simp only [decide_eq_true_eq, decide_eq_false_iff_not, beq_iff_eq, beq_eq_false_iff_ne, bne_iff_ne, bne_eq_false_iff_eq, Bool.not_eq_true', Bool.not_eq_false', Bool.not_eq_true, Bool.not_eq_false] at hc) <;> first | (first | (exact absurd rfl hc) | (exfalso; omega) | (exact absurd (hc.symm.trans (by assumption : _ = false)) (by decide)) | (exact absurd (hc.symm.trans (by assumption : _ = true)) (by decide))) | skip)) | refine loopK.x ?_)
    | (fail)
    | fail
  all_goals first | (exfalso; omega) | skip
  refine JC.nilF (JC.nilF (JC.perm (bring_perm 2 _) ?_))
  refine JC.loopG (fun i => i == 4 || Nat.ble 8 i) (fun m g L => ∃ (i : Nat) (vs : List HV) (aO : Option Addr) (cO : Nat) (hO hI : Heap), g 4 = .int .i64 ((i + 1 : Nat) : Int) ∧ i + m = k ∧ vs.length = i ∧ vs.map (·.l) = pairP k i ∧ OwT encHV 1 28 aO cO vs hO ∧ (∀ v ∈ vs, SlT encI 1 v.a v.l hI) ∧ L = [cellT b3 k aO vs.length cO, hO, hI, [(b2, .cells ⟨[.int .i64 0, .slice none 0 0]⟩ 24 (0, 0))]]) k ⟨0, [], none, 0, [], [], rfl, by omega, rfl, rfl, OwT.nil (fun _ => rfl), fun v hv => (by cases hv), rfl⟩ ?_
  rintro m g L ⟨i, vs, aO, cO, hO, hI, e4, him, hvl, hvs, oO, sI, rfl⟩
  refine JC.pin 4 e4 ?_
  unfold cellT
  rcases Nat.lt_or_ge i k with hik | hik
  ·
    repeat' first
      | (refine J.isJ ?_; first | (first | (refine J.o 4 ?_; refine J.lR hΓ ?_ (hr := Rd.hd)) | (refine J.o 9 ?_; first | refine J.bl (e := 3) hΓ (fun bl => ?_) | refine J.bl (e := 28) hΓ (fun bm => ?_)) | (refine J.o 9 ?_; first | (first | (refine J.ap1 (enc := encHV) [(⟨some ⟨bl, 0, none⟩, 2, [-((i : Int) + 1), -((i : Int) + 1) - k]⟩ : HV)] hΓ (fun a2 c2 h2 o2 => ?_)) | (refine J.perm (br1.cons _) ?_; refine J.ap1 (enc := encHV) [(⟨some ⟨bl, 0, none⟩, 2, [-((i : Int) + 1), -((i : Int) + 1) - k]⟩ : HV)] hΓ (fun a2 c2 h2 o2 => ?_)) | (refine J.perm (br2.cons _) ?_; refine J.ap1 (enc := encHV) [(⟨some ⟨bl, 0, none⟩, 2, [-((i : Int) + 1), -((i : Int) + 1) - k]⟩ : HV)] hΓ (fun a2 c2 h2 o2 => ?_)) | (refine J.perm (br3.cons _) ?_; refine J.ap1 (enc := encHV) [(⟨some ⟨bl, 0, none⟩, 2, [-((i : Int) + 1), -((i : Int) + 1) - k]⟩ : HV)] hΓ (fun a2 c2 h2 o2 => ?_)) | (refine J.perm (br4.cons _) ?_; refine J.ap1 (enc := encHV) [(⟨some ⟨bl, 0, none⟩, 2, [-((i : Int) + 1), -((i : Int) + 1) - k]⟩ : HV)] hΓ (fun a2 c2 h2 o2 => ?_)) | (refine J.perm (br5.cons _) ?_; refine J.ap1 (enc := encHV) [(⟨some ⟨bl, 0, none⟩, 2, [-((i : Int) + 1), -((i : Int) + 1) - k]⟩ : HV)] hΓ (fun a2 c2 h2 o2 => ?_))) | (refine J.perm br1 ?_; first | (refine J.ap1 (enc := encHV) [(⟨some ⟨bl, 0, none⟩, 2, [-((i : Int) + 1), -((i : Int) + 1) - k]⟩ : HV)] hΓ (fun a2 c2 h2 o2 => ?_)) | (refine J.perm (br1.cons _) ?_; refine J.ap1 (enc := encHV) [(⟨some ⟨bl, 0, none⟩, 2, [-((i : Int) + 1), -((i : Int) + 1) - k]⟩ : HV)] hΓ (fun a2 c2 h2 o2 => ?_)) | (refine J.perm (br2.cons _) ?_; refine J.ap1 (enc := encHV) [(⟨some ⟨bl, 0, none⟩, 2, [-((i : Int) + 1), -((i : Int) + 1) - k]⟩ : HV)] hΓ (fun a2 c2 h2 o2 => ?_)) | (refine J.perm (br3.cons _) ?_; refine J.ap1 (enc := encHV) [(⟨some ⟨bl, 0, none⟩, 2, [-((i : Int) + 1), -((i : Int) + 1) - k]⟩ : HV)] hΓ (fun a2 c2 h2 o2 => ?_)) | (refine J.perm (br4.cons _) ?_; refine J.ap1 (enc := encHV) [(⟨some ⟨bl, 0, none⟩, 2, [-((i : Int) + 1), -((i : Int) + 1) - k]⟩ : HV)] hΓ (fun a2 c2 h2 o2 => ?_)) | (refine J.perm (br5.cons _) ?_; refine J.ap1 (enc := encHV) [(⟨some ⟨bl, 0, none⟩, 2, [-((i : Int) + 1), -((i : Int) + 1) - k]⟩ : HV)] hΓ (fun a2 c2 h2 o2 => ?_))) | (refine J.perm br2 ?_; first | (refine J.ap1 (enc := encHV) [(⟨some ⟨bl, 0, none⟩, 2, [-((i : Int) + 1), -((i : Int) + 1) - k]⟩ : HV)] hΓ (fun a2 c2 h2 o2 => ?_)) | (refine J.perm (br1.cons _) ?_; refine J.ap1 (enc := encHV) [(⟨some ⟨bl, 0, none⟩, 2, [-((i : Int) + 1), -((i : Int) + 1) - k]⟩ : HV)] hΓ (fun a2 c2 h2 o2 => ?_)) | (refine J.perm (br2.cons _) ?_; refine J.ap1 (enc := encHV) [(⟨some ⟨bl, 0, none⟩, 2, [-((i : Int) + 1), -((i : Int) + 1) - k]⟩ : HV)] hΓ (fun a2 c2 h2 o2 => ?_)) | (refine J.perm (br3.cons _) ?_; refine J.ap1 (enc := encHV) [(⟨some ⟨bl, 0, none⟩, 2, [-((i : Int) + 1), -((i : Int) + 1) - k]⟩ : HV)] hΓ (fun a2 c2 h2 o2 => ?_)) | (refine J.perm (br4.cons _) ?_; refine J.ap1 (enc := encHV) [(⟨some ⟨bl, 0, none⟩, 2, [-((i : Int) + 1), -((i : Int) + 1) - k]⟩ : HV)] hΓ (fun a2 c2 h2 o2 => ?_)) | (refine J.perm (br5.cons _) ?_; refine J.ap1 (enc := encHV) [(⟨some ⟨bl, 0, none⟩, 2, [-((i : Int) + 1), -((i : Int) + 1) - k]⟩ : HV)] hΓ (fun a2 c2 h2 o2 => ?_))))) | (first | (refine J.o 0 ?_; refine J.ev' hΓ ?_) | refine J.nil ?_ | (refine J.o 4 ?_; first | refine J.lR hΓ ?_) | (refine J.o 3 ?_; first | refine J.ev' hΓ ?_) | (refine J.o 1 ?_; first | refine J.ad ?_ | refine J.sb ?_ | refine J.ng ?_) | (refine J.o 5 ?_; first | refine J.t0 hΓ ?_ | refine J.t2 hΓ ?_) | (refine J.o 7 ?_; refine J.al hΓ (fun _ => ?_)) | (refine J.o 8 ?_; refine J.bd hΓ ?_) | (refine J.o 9 ?_; refine J.bl hΓ (fun _ => ?_)) | (refine J.o 10 ?_; refine J.ev' hΓ ?_) | (refine J.o 11 ?_; refine J.ev' hΓ ?_)))
      | (first | refine JC.seq ?_ | refine JC.region ?_ | refine JC.block ?_ | refine JC.ret ?_ | refine JC.exit ?_ | refine JC.skip ?_ | refine thenK.nn ?_ | refine thenK.x ?_ | refine blockK.nn ?_ | refine blockK.hit rfl ?_ | (refine JC.cond rfl (fun hc => ?_) (fun hc => ?_) <;> ((try simp only [decide_eq_true_eq, decide_eq_false_iff_not, beq_iff_eq, beq_eq_false_iff_ne, bne_iff_ne, bne_eq_false_iff_eq, Bool.not_eq_true', Bool.not_eq_false', Bool.not_eq_true, Bool.not_eq_false] at hc) <;> first | (first | (exact absurd rfl hc) | (exfalso; omega) | (exact absurd (hc.symm.trans (by assumption : _ = false)) (by decide)) | (exact absurd (hc.symm.trans (by assumption : _ = true)) (by decide))) | skip)) | refine loopK.x ?_)
      | (fail)
      | fail
    all_goals first | (exfalso; omega) | skip
    have hsl : SlT encI 1 (some ⟨bl, 0, none⟩) [-((i : Int) + 1), -((i : Int) + 1) - k] [(bl, .cells ⟨[.int .i64 (-((i + 1 : Nat) : Int)), .int .i64 (-((i + 1 : Nat) : Int) - k)]⟩ 3 (0, 0))] := slArg bl [-((i : Int) + 1), -((i : Int) + 1) - k] 3
    refine loopK.nn (m - 1) (by omega) (by repeat (first | refine Ag.upd rfl ?_ | exact Ag.hv)) ⟨_, ⟨i + 1, vs ++ [⟨some ⟨bl, 0, none⟩, 2, [-((i : Int) + 1), -((i : Int) + 1) - k]⟩], a2, c2, h2, [(bl, .cells ⟨[.int .i64 (-((i + 1 : Nat) : Int)), .int .i64 (-((i + 1 : Nat) : Int) - k)]⟩ 3 (0, 0))] ++ hI, ?_, by omega, by rw [List.length_append, hvl]; rfl, by rw [List.map_append, hvs]; rfl, o2, fun v hv => ?_, rfl⟩, fun w hw => by
      have hw2 := (H.sel (l := [_, _, _, _, _]) (M := []) hw [1, 3, 2, 0, 4]).mg1
      exact H.sel (l := [_, _, _, _]) (M := []) hw2 [1, 2, 0, 3]⟩
    · show Value.int .i64 _ = _; congr 1
    · rcases List.mem_append.1 hv with g | g
      · exact (sI v g).sub fun x hx => List.mem_append_right _ hx
      · rw [List.mem_singleton.1 g]
        exact hsl.sub fun x hx => List.mem_append_left _ hx
  ·
    obtain rfl : i = k := by omega
    repeat' first
      | (refine J.isJ ?_; first | (first | (refine J.o 4 ?_; refine J.lR hΓ ?_ (hr := Rd.hd)) | (refine J.o 5 ?_; first | (refine J.perm br3 ?_; refine J.t0 hΓ ?_) | (refine J.perm br4 ?_; refine J.t0 hΓ ?_) | (refine J.perm br5 ?_; refine J.t0 hΓ ?_) | (refine J.perm br6 ?_; refine J.t0 hΓ ?_) | (refine J.perm br7 ?_; refine J.t0 hΓ ?_))) | (first | (refine J.o 0 ?_; refine J.ev' hΓ ?_) | refine J.nil ?_ | (refine J.o 4 ?_; first | refine J.lR hΓ ?_) | (refine J.o 3 ?_; first | refine J.ev' hΓ ?_) | (refine J.o 1 ?_; first | refine J.ad ?_ | refine J.sb ?_ | refine J.ng ?_) | (refine J.o 5 ?_; first | refine J.t0 hΓ ?_ | refine J.t2 hΓ ?_) | (refine J.o 7 ?_; refine J.al hΓ (fun _ => ?_)) | (refine J.o 8 ?_; refine J.bd hΓ ?_) | (refine J.o 9 ?_; refine J.bl hΓ (fun _ => ?_)) | (refine J.o 10 ?_; refine J.ev' hΓ ?_) | (refine J.o 11 ?_; refine J.ev' hΓ ?_)))
      | (first | refine JC.seq ?_ | refine JC.region ?_ | refine JC.block ?_ | refine JC.ret ?_ | refine JC.exit ?_ | refine JC.skip ?_ | refine thenK.nn ?_ | refine thenK.x ?_ | refine blockK.nn ?_ | refine blockK.hit rfl ?_ | (refine JC.cond rfl (fun hc => ?_) (fun hc => ?_) <;> ((try simp only [decide_eq_true_eq, decide_eq_false_iff_not, beq_iff_eq, beq_eq_false_iff_ne, bne_iff_ne, bne_eq_false_iff_eq, Bool.not_eq_true', Bool.not_eq_false', Bool.not_eq_true, Bool.not_eq_false] at hc) <;> first | (first | (exact absurd rfl hc) | (exfalso; omega) | (exact absurd (hc.symm.trans (by assumption : _ = false)) (by decide)) | (exact absurd (hc.symm.trans (by assumption : _ = true)) (by decide))) | skip)) | refine loopK.x ?_)
      | (fail)
      | fail
    all_goals first | (exfalso; omega) | skip
    refine retC hΓ rfl rfl rfl Rd.hd rfl (fun w1 hw => ?_)
    have hw2 := (H.sel (l := [_, _, _, _]) (M := []) hw [2, 3]).mg1
    exact Gives.of hw2 ⟨aO, cO, vs, rfl, hvs, oO.sl.sub fun x hx => List.mem_append_left _ hx, fun v hv => (sI v hv).sub fun x hx => List.mem_append_right _ hx⟩
def thF (T : List (List Int)) : VF := fun β => evT β T
theorem thA_ev {l : List Int} {N : Nat} {T : List (List Int)} (hok : okTh N T) (hm : ∀ v : Int, 1 ≤ v → v ≤ N → v ∈ l) (β : Int → Bool) : thA l T (asgV l β) = evT β T := by
  have hlit : ∀ c ∈ T, ∀ x ∈ c, litA l x (asgV l β) = litT β x := fun c hc x hx => by
    have h := (hok.2.2 c hc).2 x hx
    have hN := hok.1
    have hv := varI_ok hN h
    obtain ⟨k, hk⟩ : ∃ k, rk l (varI x) 0 = some k := by
      cases g : rk l (varI x) 0 with
      | some k => exact ⟨k, rfl⟩
      | none => exact absurd (hm _ hv.1 hv.2) (rk_none.1 g)
    have hg := (rk_some hk).2.2
    rw [Nat.sub_zero] at hg
    unfold litT
    by_cases hn : x < 0
    · have hx2 : varI x = -x := by unfold varI; rw [if_neg (by omega), if_pos (by omega)]
      rw [litA_neg hn hk, if_pos hn]
      unfold asgV
      rw [hg, hx2]
    · have hx2 : varI x = x := by unfold varI; rw [if_pos (by omega)]
      rw [litA_pos hn hk, if_neg hn]
      unfold asgV
      rw [hg, hx2]
  unfold thA evT clA
  rw [Bool.eq_iff_iff, List.all_eq_true, List.all_eq_true]
  refine forall_congr' fun c => forall_congr' fun hc => ?_
  rw [List.any_eq_true, List.any_eq_true]
  refine exists_congr fun x => ?_
  constructor
  · rintro ⟨h1, h2⟩; exact ⟨h1, by rw [← hlit c hc x h1]; exact h2⟩
  · rintro ⟨h1, h2⟩; exact ⟨h1, by rw [hlit c hc x h1]; exact h2⟩
theorem of_ints {l : List Int} {N : Nat} (hN : N ≤ 128) (hp : l.Perm (ints N)) : ofS l = allS N := by
  refine set_ext (okS_of l (0, 0) okS_zero) (okS_all N) fun u h1 h2 => ?_
  rw [Bool.eq_iff_iff, has_all N u hN]
  unfold ofS
  rw [ofS_has l (0, 0) u, has_zero, hp.mem_iff, ints_mem]
  constructor
  · rintro (h | h)
    · cases h
    · exact h.1
  · intro h; exact .inr ⟨h, h1, h2⟩
theorem costT_le : ∀ (T : List (List Int)) (m : Nat), (∀ c ∈ T, c.length ≤ m) → costT T ≤ T.length * (m * 20 + 255)
  | [], m, _ => by rw [costT]; omega
  | c :: T, m, h => by
    have h1 := costT_le T m fun x hx => h x (List.mem_cons_of_mem _ hx)
    have h2 := Nat.mul_le_mul_right 20 (h c List.mem_cons_self)
    rw [costT, List.length_cons, Nat.succ_mul]
    omega
theorem compile_V (N : Nat) (h8 : N ≤ 8) (l : List Int) (hp : l.Perm (ints N)) (a : Option Addr) (c : Nat) (h : Heap) (hs : SlT encI 1 a l h) (aT : Option Addr) (cap : Nat) (vs : List HV) (hT : Heap) (ll : LLR aT vs hT) (T : List (List Int)) (hvs : vs.map (·.l) = T) (hok : okTh N T) (hcost : 2 + costT T ≤ 1048576) {w0 w : World} {R : Heap} {L : List Heap} (hr : RdH R L h) (rT : RdH R L hT) (hw : H w0 R L w) :
    Calls Tryz.prog 8 #[.agg ⟨[.int .i64 (N : Int), .slice aT vs.length cap]⟩, .slice a l.length c] w fun e w' => ∃ v L', e = .returned v ∧ H w0 R L' w' ∧ RebQ (thF T) l L v L' := by
  subst hvs
  have hlen : l.length = N := by rw [hp.length_eq, ints_len]
  refine (compile_any N l a c h hs aT cap vs hT ll (okTh_iff.2 hok) hlen (of_ints (by omega) hp) h8 hcost hr rT hw).mono ?_
  rintro e w' ⟨v, L', h1, h2, b, K, s, y, hO, hP, h3, h4, so, po, hy, hf, _⟩
  subst hlen
  exact ⟨v, L', h1, h2, b, K, s, y, hO, hP, h3, h4, so, po, hy, fun β => by
    rw [hf]
    exact thA_ev hok (fun v h1 h2 => hp.mem_iff.2 ((ints_mem _ _).2 ⟨h1, h2⟩)) β⟩
def szF (l : List Int) (F : VF) : Nat := sizeT l.length (tabF l.length (gF l F))
theorem Stv.size {F : VF} {l : List Int} {K : KS} {s : SS} {y : Nat} {hO hP : Heap} (sv : Stv F l K s y hO hP) {m : List Int} (b : Bel s.ns y m) : m.length = szF l F :=
  b.size sv.so.wf sv.sy.1 (sv.sy.fn sv.ho.2 sv.so.wf)
theorem eWorks31 : Entr Tryz.prog 6 := Entr.of Tryz.func6 rfl rfl
theorem works31_any (w : World) : Calls Tryz.prog 6 #[] w fun e w' => e = .returned (.bool true) ∧ Below w.heap.size w w' := by
  have ok2 : okTh 4 (pairP 2 2) := okTh_iff.1 (by decide +kernel)
  have hz1 : szF (ints 4) (thF (pairP 2 2)) = 6 := by decide +kernel
  have hz2 : szF (swp (ints 4) 1) (thF (pairP 2 2)) = 4 := by decide +kernel
  have hl4 : (ints 4).length = 4 := ints_len 4
  have hco : 2 + costT (pairP 2 2) ≤ 1048576 := by decide +kernel
  have hsd : decide (swp (ints 4) 1 = [1, 3, 2, 4]) = true := by decide +kernel
  refine calls_of_JC (R := []) Tryz.func6 Tryz.ntmps6 rfl rfl (Holds.nil _) ?_
  repeat' first
    | (refine J.isJ ?_; first | (first | (refine J.fc 23 ?_; refine J.call1 ePairs rfl rfl (fun w hw => pairs_any 2 (by omega) w) ?_; rintro _ hT ⟨aT, cT, vs, rfl, hvs, ll⟩) | (refine J.fc 24 ?_; refine J.call1 eUpTo rfl rfl (fun w hw => upTo_any 4 (by omega) w) ?_; rintro _ hU ⟨aU, cU, rfl, oU⟩) | (refine J.fc 8 ?_; refine J.callx eCom rfl rfl (fun w hw => compile_V 4 (by omega) (ints 4) (List.Perm.refl _) aU cU hU oU.sl aT cT vs hT ll (pairP 2 2) hvs ok2 hco RdH.hd RdH.hd.tl hw) ?_; rintro _ _ ⟨b1, K1, s1, y1, hO1, hP1, rfl, rfl, sv1⟩) | (refine J.fc 17 ?_; refine J.callx eSwap rfl rfl (fun w hw => Swap_any sv1 (by omega) 1 (by omega) (stR_hd _) hw) ?_; rintro _ _ ⟨b2, K2, s2, y2, hO2, hP2, rfl, rfl, sv2⟩) | (refine J.fc 16 ?_; first | (refine J.callx eSize rfl rfl (fun w hw => Size_any sv1.so b1 y1 sv1.sy.1 (stR_b (stR_tl (stR_hd _) K2 b2 s2 hO2 hP2)) (stR_N (stR_tl (stR_hd _) K2 b2 s2 hO2 hP2)) hw) ?_; rintro _ _ ⟨l1, rfl, rfl, bel1⟩; have hs1 := (sv1.size bel1).trans hz1) | (refine J.callx eSize rfl rfl (fun w hw => Size_any sv2.so b2 y2 sv2.sy.1 (stR_b (stR_hd _)) (stR_N (stR_hd _)) hw) ?_; rintro _ _ ⟨l2, rfl, rfl, bel2⟩; have hs2 := (sv2.size bel2).trans hz2)) | (refine J.o 11 ?_; first | refine J.eqT2 hΓ hs1 ?_ | refine J.eqT2 hΓ hs2 ?_) | (refine J.fc 21 ?_; refine J.call1 eOrder rfl rfl (fun w hw => Order_any sv2.so sv2.po b2 w (stR_of2 (stR_hd _) hw)) ?_; rintro _ ho ⟨ao, co, rfl, oo⟩) | (refine J.o 9 ?_; refine J.bl (e := 3) hΓ (fun bl => ?_)) | (refine J.fc 25 ?_; refine J.call0 eSame3 rfl rfl (fun w hw => same3_any (swp (ints 4) 1) [1, 3, 2, 4] ao (some ⟨bl, 0, none⟩) co 4 (ho ++ [(bl, .cells ⟨[.int .i64 1, .int .i64 3, .int .i64 2, .int .i64 4]⟩ 3 (0, 0))]) (oo.sl.sub fun x hx => List.mem_append_left _ hx) ((slArg bl [1, 3, 2, 4] 3).sub fun x hx => List.mem_append_right _ hx) (by rw [swp_len]; omega) (by decide) w ((hw.rdH RdH.hd.tl).append (hw.rdH RdH.hd))) ?_; rw [hsd])) | (first | (refine J.o 0 ?_; refine J.ev' hΓ ?_) | refine J.nil ?_ | (refine J.o 3 ?_; first | refine J.ev' hΓ ?_) | (refine J.o 9 ?_; refine J.bl hΓ (fun _ => ?_)) | (refine J.o 10 ?_; refine J.ev' hΓ ?_) | (refine J.o 11 ?_; refine J.ev' hΓ ?_)))
    | (first | refine JC.seq ?_ | refine JC.region ?_ | refine JC.ret ?_ | refine JC.skip ?_ | refine thenK.nn ?_ | refine JC.condF rfl ?_)
    | fail
  all_goals first | (exfalso; omega) | skip
  all_goals (refine ret1f rfl rfl rfl (fun w1 hw => ⟨rfl, hw.below⟩))
end Go.Proofs.YtbhgahjeocnfcaaGreat
namespace Go.Proofs.YtbhgahjeocnfcaaGreat
open Go Go.Cx Go.RowKit
set_option linter.unusedVariables false
set_option linter.unusedSimpArgs false
set_option maxHeartbeats 4000000
attribute [local irreducible] J JC thenK blockK loopK roundK drawK retK QW Qt pel List.set Calls
open Go.Maps Go.Lib
set_option maxRecDepth 8000
attribute [local irreducible] JE Br eK0 eK3 brK pc
theorem smallP_ok {n : Nat} (h : n ≤ 128) {N : Int} {T : List (List Int)} (s : smallP (n : Int) N T) : ∃ k : Nat, N = (k : Int) ∧ k ≤ n ∧ okTh k T ∧ 2 + costT T ≤ 1048576 := by
  obtain ⟨h1, h2, h3, h4, h5⟩ := s
  obtain ⟨k, rfl⟩ : ∃ k : Nat, N = (k : Int) := ⟨N.toNat, by omega⟩
  have hc := costT_le T 10 h4
  have hm : T.length * (10 * 20 + 255) ≤ 30 * 455 := Nat.mul_le_mul_right 455 h3
  exact ⟨k, rfl, by omega, okTh_iff.1 h5, by omega⟩
end Go.Proofs.YtbhgahjeocnfcaaGreat
namespace Go.Proofs.YtbhgahjeocnfcaaGreat
open Go Go.Cx Go.RowKit
set_option linter.unusedVariables false
set_option linter.unusedSimpArgs false
set_option maxHeartbeats 4000000
attribute [local irreducible] J JC thenK blockK loopK roundK drawK retK QW Qt pel List.set Calls
open Go.Maps Go.Lib
set_option maxRecDepth 8000
attribute [local irreducible] JE Br eK0 eK3 brK pc
theorem mget_cons {κ β : Type} [DecidableEq κ] (p : κ × β) (m : List (κ × β)) (v : κ) : mget (p :: m) v = if p.1 = v then some p.2 else mget m v := by
  unfold mget
  rw [List.find?_cons]
  by_cases h : p.1 = v
  · rw [if_pos h]; simp [h]
  · rw [if_neg h]; simp [h]
theorem mget_app1 {κ β : Type} [DecidableEq κ] (x : κ) (y : β) (v : κ) : ∀ m : List (κ × β), mget (m ++ [(x, y)]) v = match mget m v with | some z => some z | none => if x = v then some y else none
  | [] => by rw [List.nil_append, mget_cons]; rfl
  | p :: m => by
    rw [List.cons_append, mget_cons, mget_cons, mget_app1 x y v m]
    by_cases h : p.1 = v
    · rw [if_pos h, if_pos h]
    · rw [if_neg h, if_neg h]
theorem mget_nil2 {κ β : Type} [DecidableEq κ] {v : κ} : ∀ {m : List (κ × β)}, v ∉ m.map (·.1) → mget m v = none
  | [], _ => rfl
  | p :: m, h => by
    rw [List.map_cons, List.mem_cons, not_or] at h
    rw [mget_cons, if_neg (fun e => h.1 e.symm), mget_nil2 h.2]
theorem mget_mput {κ β : Type} [DecidableEq κ] (m : List (κ × β)) (x : κ) (y : β) (v : κ) : mget (mput m x y) v = if v = x then some y else mget m v := by
  unfold mput
  split
  · rename_i hc
    have hx : x ∈ m.map (·.1) := by simpa using hc
    clear hc
    induction m with
    | nil => cases hx
    | cons p m ih =>
      rw [List.map_cons, mget_cons, mget_cons]
      by_cases hp : p.1 = x
      · rw [if_pos hp]
        by_cases hv : v = x
        · rw [if_pos hv, if_pos hv.symm]
        · rw [if_neg (fun e => hv e.symm), if_neg hv, if_neg (fun e => hv (by rw [← e, hp]))]
          by_cases hm : x ∈ m.map (·.1)
          · rw [ih hm, if_neg hv]
          · have : ∀ l : List (κ × β), x ∉ l.map (·.1) → (l.map fun p => if p.1 = x then (x, y) else p) = l := by
              intro l
              induction l with
              | nil => intro _; rfl
              | cons q l ih2 =>
                intro h
                rw [List.map_cons, List.mem_cons, not_or] at h
                rw [List.map_cons, if_neg (fun e => h.1 e.symm), ih2 h.2]
            rw [this m hm]
      · rw [if_neg hp]
        have hm : x ∈ m.map (·.1) := by
          rw [List.map_cons, List.mem_cons] at hx
          rcases hx with h | h
          · exact absurd h.symm hp
          · exact h
        rw [ih hm]
        by_cases hv : v = x
        · rw [if_pos hv, if_neg (fun e => hp (by rw [e, hv])), if_pos hv]
        · rw [if_neg hv, if_neg hv]
  · rename_i hc
    have hx : x ∉ m.map (·.1) := by simpa using hc
    rw [mget_app1]
    by_cases hv : v = x
    · rw [if_pos hv, hv, mget_nil2 hx, if_pos rfl]
    · rw [if_neg hv]
      cases mget m v with
      | some z => rfl
      | none => rw [if_neg (fun e => hv e.symm)]
def seenS (S : List Nat) : List (Int × Bool) := S.map fun b : Nat => ((b : Int), true)
theorem seenS_get (b : Nat) : ∀ S : List Nat, mget (seenS S) (b : Int) = if b ∈ S then some true else none
  | [] => rfl
  | x :: S => by
    unfold seenS
    rw [List.map_cons, mget_cons]
    have ih := seenS_get b S
    unfold seenS at ih
    rw [ih]
    by_cases h : x = b
    · rw [if_pos (by rw [h]), if_pos (by rw [h]; exact List.mem_cons_self)]
    · rw [if_neg (fun e => h (by omega))]
      by_cases h2 : b ∈ S
      · rw [if_pos h2, if_pos (List.mem_cons_of_mem _ h2)]
      · rw [if_neg h2, if_neg (fun g => (List.mem_cons.1 g).elim (fun e => h e.symm) h2)]
theorem seenS_put {S : List Nat} {b : Nat} (h : b ∉ S) : mput (seenS S) (b : Int) true = seenS (S ++ [b]) := by
  rw [mput_new true (mget_out (by rw [seenS_get, if_neg h]))]
  unfold seenS
  rw [List.map_append]; rfl
def cntV (ns : List N3) (o : List Int) (S : List Nat) (v : Int) : Nat := (S.filter fun j => decide (o.getD (nd ns j).p default = v)).length
def TopsV (ns : List N3) (o : List Int) (r : Nat) (v : Value) (h : Heap) : Prop := ∃ bm mm S, v = .map (some bm) ∧ MapT Tryz.prog 3 ekI evI mm bm h ∧ S.Nodup ∧ (∀ x, x ∈ S ↔ 2 ≤ x ∧ Rch ns r x) ∧ ∀ v, (mget mm v).getD 0 = cntV ns o S v
end Go.Proofs.YtbhgahjeocnfcaaGreat
