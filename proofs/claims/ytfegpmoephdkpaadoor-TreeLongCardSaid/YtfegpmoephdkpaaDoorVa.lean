/- Trees as terms: texts, nodes in the order of the text, and what is read back. -/
import Derived.Test.YtfegpmoephdkpaaDoorUc
namespace Go.Proofs.YtfegpmoephdkpaaDoor
open Go Go.Cx
set_option linter.unusedVariables false
set_option linter.unusedSimpArgs false

inductive TT where
  | leaf (c : Bool)
  | ask (v : Int) (a b : TT)
namespace TT
def size : TT → Nat
  | leaf _ => 1
  | ask _ a b => 1 + a.size + b.size
def str : TT → List UInt8
  | leaf c => if c then [43] else [45]
  | ask v a b => [40] ++ Lib.itoa v ++ [32] ++ a.str ++ [32] ++ b.str ++ [41]
def cont (v : Int) : TT → Bool
  | leaf _ => false
  | ask u a b => decide (u = v) || cont v a || cont v b
def fresh : TT → Prop
  | leaf _ => True
  | ask v a b => 1 ≤ v ∧ v ≤ 128 ∧ a.cont v = false ∧ b.cont v = false ∧ a.fresh ∧ b.fresh
def rng : TT → Prop
  | leaf _ => True
  | ask v a b => 1 ≤ v ∧ v ≤ 128 ∧ a.rng ∧ b.rng
theorem fresh.rng : ∀ {t : TT}, t.fresh → t.rng
  | leaf _, _ => trivial
  | ask v a b, ⟨h1, h2, _, _, h3, h4⟩ => ⟨h1, h2, fresh.rng h3, fresh.rng h4⟩
def cls (s : Nat × Nat) : TT → Bool
  | leaf c => c
  | ask v a b => if hasB s v then b.cls s else a.cls s
/-- the nodes in the order of the text, the first of them number k -/
def nodes : TT → Nat → List Nd
  | leaf c, _ => [⟨0, 0, 0, c⟩]
  | ask v a b, k => ⟨v, ((k + 1 : Nat) : Int), ((k + 1 + a.size : Nat) : Int), false⟩ :: (a.nodes (k + 1) ++ b.nodes (k + 1 + a.size))
theorem size_pos : ∀ t : TT, 1 ≤ t.size
  | leaf _ => Nat.le_refl _
  | ask _ a b => by rw [size]; omega
theorem nodes_len : ∀ (t : TT) (k : Nat), (t.nodes k).length = t.size
  | leaf _, _ => rfl
  | ask _ a b, k => by rw [nodes, List.length_cons, List.length_append, nodes_len a, nodes_len b, size]; omega
end TT

/-- a node's subtree -/
def toT (ts : List Nd) : Nat → Int → TT
  | 0, _ => .leaf false
  | f + 1, i => if (ts.getD i.toNat default).v = 0 then .leaf (ts.getD i.toNat default).c else .ask (ts.getD i.toNat default).v (toT ts f (ts.getD i.toNat default).no) (toT ts f (ts.getD i.toNat default).yes)
theorem toT_str (ts : List Nd) (hl : Later ts) : ∀ (f : Nat) (i : Int), 0 ≤ i → i < ts.length → ts.length - i ≤ f → strN ts f i = (toT ts f i).str
  | 0, i, h0, h1, h2 => by omega
  | f + 1, i, h0, h1, h2 => by
    rw [strN, toT]
    by_cases hv : (ts.getD i.toNat default).v = 0
    · rw [if_pos hv, if_pos hv, TT.str]
    · obtain ⟨l1, l2, l3, l4⟩ := hl i h0 h1 hv
      rw [if_neg hv, if_neg hv, TT.str, toT_str ts hl f _ (by omega) l2 (by omega), toT_str ts hl f _ (by omega) l4 (by omega)]
theorem toT_size (ts : List Nd) (hl : Later ts) : ∀ (f : Nat) (i : Int), 0 ≤ i → i < ts.length → ts.length - i ≤ f → szN ts f i = (toT ts f i).size
  | 0, i, h0, h1, h2 => by omega
  | f + 1, i, h0, h1, h2 => by
    rw [szN, toT]
    by_cases hv : (ts.getD i.toNat default).v = 0
    · rw [if_pos hv, if_pos hv, TT.size]
    · obtain ⟨l1, l2, l3, l4⟩ := hl i h0 h1 hv
      rw [if_neg hv, if_neg hv, TT.size, toT_size ts hl f _ (by omega) l2 (by omega), toT_size ts hl f _ (by omega) l4 (by omega)]
theorem toT_cls (ts : List Nd) (hl : Later ts) (s : Nat × Nat) : ∀ (f : Nat) (i : Int), 0 ≤ i → i < ts.length → ts.length - i ≤ f → classN ts s f i = (toT ts f i).cls s
  | 0, i, h0, h1, h2 => by omega
  | f + 1, i, h0, h1, h2 => by
    rw [classN, toT]
    by_cases hv : (ts.getD i.toNat default).v = 0
    · rw [if_pos hv, if_pos hv, TT.cls]
    · obtain ⟨l1, l2, l3, l4⟩ := hl i h0 h1 hv
      rw [if_neg hv, if_neg hv, TT.cls, toT_cls ts hl s f _ (by omega) l2 (by omega), toT_cls ts hl s f _ (by omega) l4 (by omega)]
theorem toT_cont (ts : List Nd) (v : Int) : ∀ (f : Nat) (i : Int), leadsN ts v f i = (toT ts f i).cont v
  | 0, i => rfl
  | f + 1, i => by
    rw [leadsN, toT]
    by_cases hv : (ts.getD i.toNat default).v = 0
    · rw [if_pos hv, if_pos hv, TT.cont]
    · rw [if_neg hv, if_neg hv, TT.cont, toT_cont ts v f, toT_cont ts v f]
theorem toT_fuel (ts : List Nd) (hl : Later ts) : ∀ (f f' : Nat) (i : Int), 0 ≤ i → i < ts.length → ts.length - i ≤ f → ts.length - i ≤ f' → toT ts f i = toT ts f' i
  | 0, _, i, h0, h1, h2, _ => by omega
  | _ + 1, 0, i, h0, h1, _, h3 => by omega
  | f + 1, f' + 1, i, h0, h1, h2, h3 => by
    rw [toT, toT]
    by_cases hv : (ts.getD i.toNat default).v = 0
    · rw [if_pos hv, if_pos hv]
    · obtain ⟨l1, l2, l3, l4⟩ := hl i h0 h1 hv
      rw [if_neg hv, if_neg hv, toT_fuel ts hl f f' _ (by omega) l2 (by omega) (by omega), toT_fuel ts hl f f' _ (by omega) l4 (by omega) (by omega)]
theorem toT_fresh {ts : List Nd} {n : Int} (h : Valid ts n) : ∀ (f : Nat) (i : Int), 0 ≤ i → i < ts.length → ts.length - i ≤ f → (toT ts f i).fresh
  | 0, i, h0, h1, h2 => by omega
  | f + 1, i, h0, h1, h2 => by
    rw [toT]
    by_cases hv : (ts.getD i.toNat default).v = 0
    · rw [if_pos hv]; trivial
    · obtain ⟨l1, l2, l3, l4⟩ := h.later i h0 h1 hv
      have hvv := h.var (show i.toNat < ts.length by omega) hv
      have hr := h.rng
      rw [if_neg hv]
      have hld := (ldL_iff h.fm ts.length 0 (by omega)).2 (fun p _ hp hv => h.fresh p hp hv)
      have key : ∀ m k : Nat, k + m = ts.length → ldL ts k m = true → ∀ j, k ≤ j → j < ts.length → (ts.getD j default).v ≠ 0 → leadsN ts (ts.getD j default).v ts.length (ts.getD j default).no = false ∧ leadsN ts (ts.getD j default).v ts.length (ts.getD j default).yes = false := fun m => by
        induction m with
        | zero => intro k hk _ j h1 h2; omega
        | succ m ih =>
          intro k hk hl j h1 h2 h3
          rw [ldL, Bool.and_eq_true] at hl
          by_cases hj : j = k
          · subst hj
            have h4 := hl.1
            have h5 := h.var h2 h3
            rw [decide_eq_true (show 0 < (ts.getD j default).v by omega)] at h4
            simpa using h4
          · exact ih (k + 1) (by omega) hl.2 j (by omega) h2 h3
      obtain ⟨k1, k2⟩ := key ts.length 0 (by omega) hld i.toNat (Nat.zero_le _) (by omega) hv
      rw [toT_cont] at k1 k2
      rw [toT_fuel ts h.later ts.length f _ (by omega) l2 (by omega) (by omega)] at k1
      rw [toT_fuel ts h.later ts.length f _ (by omega) l4 (by omega) (by omega)] at k2
      exact ⟨by omega, by omega, k1, k2, toT_fresh h f _ (by omega) l2 (by omega), toT_fresh h f _ (by omega) l4 (by omega)⟩

/-- a stretch of a list: the nodes of a term, beginning at number k -/
def At (ts : List Nd) (t : TT) (k : Nat) : Prop := ∃ pre post, ts = pre ++ t.nodes k ++ post ∧ pre.length = k
theorem At.le {ts : List Nd} {t : TT} {k : Nat} (h : At ts t k) : k + t.size ≤ ts.length := by
  obtain ⟨pre, post, rfl, h2⟩ := h
  rw [List.length_append, List.length_append, TT.nodes_len]; omega
theorem At.get {ts : List Nd} {t : TT} {k j : Nat} (h : At ts t k) (hj : j < t.size) : ts.getD (k + j) default = (t.nodes k).getD j default := by
  obtain ⟨pre, post, rfl, rfl⟩ := h
  have hl := TT.nodes_len t pre.length
  rw [List.getD_eq_getElem?_getD, List.append_assoc, List.getElem?_append_right (by omega), Nat.add_sub_cancel_left, List.getElem?_append_left (by omega), List.getD_eq_getElem?_getD]
theorem At.left {ts : List Nd} {v : Int} {a b : TT} {k : Nat} (h : At ts (.ask v a b) k) : At ts a (k + 1) := by
  obtain ⟨pre, post, rfl, rfl⟩ := h
  exact ⟨pre ++ [⟨v, ((pre.length + 1 : Nat) : Int), ((pre.length + 1 + a.size : Nat) : Int), false⟩], b.nodes (pre.length + 1 + a.size) ++ post, by simp [TT.nodes], by simp⟩
theorem At.right {ts : List Nd} {v : Int} {a b : TT} {k : Nat} (h : At ts (.ask v a b) k) : At ts b (k + 1 + a.size) := by
  obtain ⟨pre, post, rfl, rfl⟩ := h
  exact ⟨pre ++ [⟨v, ((pre.length + 1 : Nat) : Int), ((pre.length + 1 + a.size : Nat) : Int), false⟩] ++ a.nodes (pre.length + 1), post, by simp [TT.nodes], by simp [TT.nodes_len]; omega⟩
theorem At.root {ts : List Nd} {t : TT} {k : Nat} (h : At ts t k) : ts.getD k default = (match t with | .leaf c => ⟨0, 0, 0, c⟩ | .ask v a _ => ⟨v, ((k + 1 : Nat) : Int), ((k + 1 + a.size : Nat) : Int), false⟩) := by
  have := h.get (j := 0) (TT.size_pos t)
  rw [Nat.add_zero] at this
  rw [this]
  cases t <;> rfl
theorem At.toT {ts : List Nd} : ∀ {t : TT} {k f : Nat}, At ts t k → t.rng → t.size ≤ f → toT ts f k = t
  | .leaf c, k, 0, h, _, hf => by rw [TT.size] at hf; omega
  | .leaf c, k, f + 1, h, _, hf => by rw [Go.Proofs.YtfegpmoephdkpaaDoor.toT, Int.toNat_natCast, h.root]; rfl
  | .ask v a b, k, 0, h, _, hf => by rw [TT.size] at hf; omega
  | .ask v a b, k, f + 1, h, hfr, hf => by
    rw [TT.size] at hf
    obtain ⟨v1, _, fa, fb⟩ := hfr
    rw [Go.Proofs.YtfegpmoephdkpaaDoor.toT, Int.toNat_natCast, h.root]
    rw [if_neg (by dsimp only; omega), At.toT h.left fa (by omega), At.toT h.right fb (by omega)]
/-- each number of the stretch begins a stretch of a part -/
theorem At.sub {ts : List Nd} : ∀ {t : TT} {k : Nat}, At ts t k → t.fresh → ∀ j, k ≤ j → j < k + t.size → ∃ u : TT, At ts u j ∧ u.fresh ∧ j + u.size ≤ k + t.size
  | .leaf c, k, h, hf, j, h1, h2 => by
    rw [TT.size] at h2
    obtain rfl : j = k := by omega
    exact ⟨.leaf c, h, hf, Nat.le_refl _⟩
  | .ask v a b, k, h, hf, j, h1, h2 => by
    rw [TT.size] at h2
    by_cases hj : j = k
    · subst hj; exact ⟨.ask v a b, h, hf, Nat.le_refl _⟩
    · obtain ⟨_, _, _, _, fa, fb⟩ := hf
      by_cases hja : j < k + 1 + a.size
      · obtain ⟨u, u1, u2, u3⟩ := At.sub h.left fa j (by omega) hja
        exact ⟨u, u1, u2, by rw [TT.size]; omega⟩
      · obtain ⟨u, u1, u2, u3⟩ := At.sub h.right fb j (by omega) (by omega)
        exact ⟨u, u1, u2, by rw [TT.size]; omega⟩

theorem nodes_cn : ∀ (t : TT) (k j : Nat), t.fresh → cn (t.nodes k) j = if k < j ∧ j < k + t.size then 1 else 0
  | .leaf c, k, j, _ => by
    rw [TT.nodes, TT.size, if_neg (by omega)]; rfl
  | .ask v a b, k, j, hf => by
    obtain ⟨v1, _, _, _, fa, fb⟩ := hf
    have pa := TT.size_pos a
    have pb := TT.size_pos b
    rw [TT.nodes, cn, cn_app, nodes_cn a (k + 1) j fa, nodes_cn b (k + 1 + a.size) j fb, TT.size, cn1]
    rw [if_neg (show ¬ v = 0 by omega)]
    dsimp only
    by_cases e1 : ((k + 1 : Nat) : Int) = j <;> by_cases e2 : ((k + 1 + a.size : Nat) : Int) = j <;> by_cases e3 : k + 1 < j ∧ j < k + 1 + a.size <;> by_cases e4 : k + 1 + a.size < j ∧ j < k + 1 + a.size + b.size <;> by_cases e5 : k < j ∧ j < k + (1 + a.size + b.size) <;> simp only [e1, e2, e3, e4, e5, if_true, if_false, and_self] <;> omega

theorem nodes_valid (t : TT) (hf : t.fresh) (hs : t.size ≤ 4096) : Valid (t.nodes 0) 128 := by
  have hat : At (t.nodes 0) t 0 := ⟨[], [], by simp, rfl⟩
  have hlen := TT.nodes_len t 0
  have hpos := TT.size_pos t
  have hfm : Fm (t.nodes 0) 128 := by
    intro j hj
    obtain ⟨u, u1, u2, u3⟩ := hat.sub hf j (Nat.zero_le _) (by omega)
    rw [u1.root]
    unfold fmd formedB
    cases u with
    | leaf c => rfl
    | ask v a b =>
      obtain ⟨v1, v2, _, _, _, _⟩ := u2
      have pa := TT.size_pos a
      have pb := TT.size_pos b
      rw [TT.size] at u3
      dsimp only
      rw [if_neg (by omega)]
      simp only [Bool.and_eq_true, decide_eq_true_eq, Bool.not_false]
      refine ⟨⟨⟨⟨trivial, by omega⟩, by omega⟩, ?_⟩, ?_⟩
      · rw [Int.min_def]; split <;> omega
      · rw [Int.max_def]; split <;> omega
  refine ⟨by omega, by omega, by omega, hfm, fun j h1 h2 => ?_, fun p hp hv => ?_⟩
  · rw [nodes_cn t 0 j hf, if_pos (by omega)]
  · have hl : Later (t.nodes 0) := by
      intro i h0 h1 hv
      have := hfm i.toNat (by omega)
      rw [Int.toNat_of_nonneg h0] at this
      obtain ⟨_, _, _, a, b, c, d⟩ := fmd_q this hv
      exact ⟨a, c, b, d⟩
    have hld : ldL (t.nodes 0) 0 (t.nodes 0).length = true := by
      have key : ∀ m k : Nat, k + m = (t.nodes 0).length → ldL (t.nodes 0) k m = true := fun m => by
        induction m with
        | zero => intro k _; rfl
        | succ m ih =>
          intro k hk
          rw [ldL, ih (k + 1) (by omega), Bool.and_true]
          obtain ⟨u, u1, u2, u3⟩ := hat.sub hf k (Nat.zero_le _) (by omega)
          rw [u1.root]
          cases u with
          | leaf c => rfl
          | ask v a b =>
            obtain ⟨v1, v2, ca, cb, fa, fb⟩ := u2
            rw [TT.size] at u3
            dsimp only
            rw [toT_cont, toT_cont, u1.left.toT fa.rng (by omega), u1.right.toT fb.rng (by omega), ca, cb]
            simp
      exact key _ 0 (by omega)
    exact (ldL_iff hfm _ 0 (by omega)).1 hld p (Nat.zero_le _) hp hv
end Go.Proofs.YtfegpmoephdkpaaDoor
