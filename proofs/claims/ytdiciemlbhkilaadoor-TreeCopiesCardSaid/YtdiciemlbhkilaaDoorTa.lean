/- A valid tree's size: each subtree has at most as many nodes as the list, so texts are short. -/
import Derived.Test.YtdiciemlbhkilaaDoorM
import Derived.Test.YtdiciemlbhkilaaDoorJ
import Derived.Lib.ItoaLen
namespace Go.Proofs.YtdiciemlbhkilaaDoor
open Go Go.Cx
set_option linter.unusedVariables false
set_option linter.unusedSimpArgs false

/-- a valid tree: formed, each node but the first with one parent, no variable asked twice on a path -/
structure Valid (ts : List Nd) (n : Int) : Prop where
  rng : 0 ≤ n ∧ n ≤ 128
  pos : 0 < ts.length
  le : ts.length ≤ 4096
  fm : Fm ts n
  one : ∀ j : Nat, 1 ≤ j → j < ts.length → cn ts j = 1
  fresh : ∀ p, p < ts.length → (ts.getD p default).v ≠ 0 → ¬ ∃ d, Pr ts p d ∧ (ts.getD d default).v = (ts.getD p default).v
theorem Fm.of_all {ts : List Nd} {n : Int} (h : ∀ i : Int, 0 ≤ i → i < ts.length → fmd (ts.getD i.toNat default) i n ts.length = true) : Fm ts n := fun j hj => by
  have := h j (by omega) (by omega)
  rwa [Int.toNat_natCast] at this
theorem valid_iff (ts : List Nd) (n : Int) : checkT ts n = 0 ↔ Valid ts n := by
  rw [check_eq]
  constructor
  · intro h
    obtain ⟨h0, hall⟩ := fmd_of_checkR h
    have hf := Fm.of_all hall
    unfold checkR at h
    split at h
    · omega
    rename_i h1
    split at h
    · omega
    rename_i h2
    split at h
    · omega
    split at h
    · omega
    rename_i h4
    split at h
    case isFalse => omega
    rename_i h5
    have h6 : formedR ts n = true := by simpa using h4
    refine ⟨by omega, h0, by omega, hf, (formedR_iff hf).1 h6, fun p hp hv => (ldL_iff hf ts.length 0 (by omega)).1 h5 p (Nat.zero_le _) hp hv⟩
  · intro h
    unfold checkR
    have h0 := h.rng
    have h1 := h.pos
    have h2 := h.le
    rw [if_neg (by omega), if_neg (by omega), if_neg (by omega), if_neg (by rw [(formedR_iff h.fm).2 h.one]; decide), if_pos ((ldL_iff h.fm ts.length 0 (by omega)).2 (fun p _ hp hv => h.fresh p hp hv))]
theorem Valid.later {ts : List Nd} {n : Int} (h : Valid ts n) : Later ts := by
  intro i h0 h1 hv
  have := h.fm i.toNat (by omega)
  rw [Int.toNat_of_nonneg h0] at this
  obtain ⟨_, _, _, a, b, c, d⟩ := fmd_q this hv
  exact ⟨a, c, b, d⟩
theorem Valid.var {ts : List Nd} {n : Int} (h : Valid ts n) {j : Nat} (hj : j < ts.length) (hv : (ts.getD j default).v ≠ 0) : 1 ≤ (ts.getD j default).v ∧ (ts.getD j default).v ≤ n := by
  obtain ⟨_, a, b, _⟩ := fmd_q (h.fm j hj) hv
  omega
theorem Valid.leaf {ts : List Nd} {n : Int} (h : Valid ts n) {j : Nat} (hj : j < ts.length) (hv : (ts.getD j default).v = 0) : (ts.getD j default).no = 0 ∧ (ts.getD j default).yes = 0 := by
  have := h.fm j hj
  rw [fmd_0 hv] at this
  simpa using this

/-- how many nodes a subtree has -/
def szN (ts : List Nd) : Nat → Int → Nat
  | 0, _ => 0
  | f + 1, i => if (ts.getD i.toNat default).v = 0 then 1 else 1 + szN ts f (ts.getD i.toNat default).no + szN ts f (ts.getD i.toNat default).yes
theorem szN_fuel {ts : List Nd} (hl : Later ts) : ∀ (f f' : Nat) (i : Int), 0 ≤ i → i < ts.length → ts.length - i ≤ f → ts.length - i ≤ f' → szN ts f i = szN ts f' i
  | 0, _, i, h0, h1, h2, _ => by omega
  | _ + 1, 0, i, h0, h1, _, h3 => by omega
  | f + 1, f' + 1, i, h0, h1, h2, h3 => by
    rw [szN, szN]
    by_cases hv : (ts.getD i.toNat default).v = 0
    · rw [if_pos hv, if_pos hv]
    · rw [if_neg hv, if_neg hv]
      obtain ⟨l1, l2, l3, l4⟩ := hl i h0 h1 hv
      rw [szN_fuel hl f f' _ (by omega) l2 (by omega) (by omega), szN_fuel hl f f' _ (by omega) l4 (by omega) (by omega)]
def sz (ts : List Nd) (j : Nat) : Int := (szN ts ts.length j : Int)
theorem sz_eq {ts : List Nd} (hl : Later ts) {j : Nat} (hj : j < ts.length) : sz ts j = if (ts.getD j default).v = 0 then 1 else 1 + sz ts (ts.getD j default).no.toNat + sz ts (ts.getD j default).yes.toNat := by
  unfold sz
  rw [szN_fuel hl ts.length (ts.length + 1) j (by omega) (by omega) (by omega) (by omega), szN, Int.toNat_natCast]
  by_cases hv : (ts.getD j default).v = 0
  · rw [if_pos hv, if_pos hv]; rfl
  · rw [if_neg hv, if_neg hv]
    obtain ⟨l1, l2, l3, l4⟩ := hl j (by omega) (by omega) (by rw [Int.toNat_natCast]; exact hv)
    rw [Int.toNat_natCast] at l1 l2 l3 l4
    rw [Int.toNat_of_nonneg (by omega), Int.toNat_of_nonneg (by omega)]
    omega

def sumTo (g : Nat → Int) : Nat → Int
  | 0 => 0
  | n + 1 => sumTo g n + g n
theorem sumTo_congr {g g' : Nat → Int} : ∀ (n : Nat), (∀ i, i < n → g i = g' i) → sumTo g n = sumTo g' n
  | 0, _ => rfl
  | n + 1, h => by rw [sumTo, sumTo, sumTo_congr n (fun i hi => h i (by omega)), h n (by omega)]
theorem sumTo_add (g g' : Nat → Int) : ∀ (n : Nat), sumTo (fun i => g i + g' i) n = sumTo g n + sumTo g' n
  | 0 => rfl
  | n + 1 => by rw [sumTo, sumTo, sumTo, sumTo_add g g' n]; omega
theorem sumTo_pick (g : Nat → Int) (j : Nat) : ∀ (n : Nat), j < n → sumTo (fun i => if i = j then g i else 0) n = g j
  | 0, h => by omega
  | n + 1, h => by
    rw [sumTo]
    by_cases hj : j < n
    · rw [sumTo_pick g j n hj, if_neg (by omega)]; omega
    · have : j = n := by omega
      subst this
      rw [if_pos rfl, sumTo_congr (g' := fun _ => 0) j (fun i hi => if_neg (by omega))]
      have : ∀ m, sumTo (fun _ => 0) m = 0 := fun m => by induction m with | zero => rfl | succ m ih => rw [sumTo, ih]; rfl
      rw [this]; omega
theorem sumTo_const (c : Int) : ∀ n : Nat, sumTo (fun _ => c) n = c * n
  | 0 => by simp [sumTo]
  | n + 1 => by rw [sumTo, sumTo_const c n]; simp [Int.mul_add]
theorem sumTo_first (g : Nat → Int) : ∀ n : Nat, 0 < n → sumTo g n = g 0 + sumTo (fun i => if i = 0 then 0 else g i) n
  | 0, h => by omega
  | 1, _ => by simp [sumTo]
  | n + 2, _ => by rw [sumTo, sumTo_first g (n + 1) (by omega), sumTo.eq_2 _ (n + 1), if_neg (by omega)]; omega
/-- what the edges of nodes weigh -/
def ew (s : Nat → Int) (x : Nd) : Int := if x.v = 0 then 0 else s x.no.toNat + s x.yes.toNat
def ews (s : Nat → Int) : List Nd → Int
  | [] => 0
  | x :: xs => ew s x + ews s xs
theorem ews_cn (s : Nat → Int) (N : Nat) : ∀ (xs : List Nd), (∀ x, x ∈ xs → x.v ≠ 0 → 0 ≤ x.no ∧ x.no < N ∧ 0 ≤ x.yes ∧ x.yes < N) → ews s xs = sumTo (fun j => cn xs j * s j) N
  | [], _ => by
    rw [ews, sumTo_congr (g' := fun _ => 0) N (fun i _ => by simp [cn]), sumTo_const]; simp
  | x :: xs, h => by
    rw [ews, ews_cn s N xs (fun y hy => h y (List.mem_cons_of_mem _ hy))]
    have e1 : sumTo (fun j => cn (x :: xs) j * s j) N = sumTo (fun j => cn1 x j * s j) N + sumTo (fun j => cn xs j * s j) N := by
      rw [← sumTo_add]
      exact sumTo_congr N (fun i _ => by rw [cn, Int.add_mul])
    rw [e1]
    congr 1
    unfold ew
    by_cases hv : x.v = 0
    · rw [if_pos hv, sumTo_congr (g' := fun _ => 0) N (fun i _ => by rw [cn1, if_pos hv]; simp), sumTo_const]; simp
    · rw [if_neg hv]
      obtain ⟨a, b, c, d⟩ := h x (List.mem_cons_self ..) hv
      have e2 : sumTo (fun j => cn1 x j * s j) N = sumTo (fun j => if j = x.no.toNat then s j else 0) N + sumTo (fun j => if j = x.yes.toNat then s j else 0) N := by
        rw [← sumTo_add]
        refine sumTo_congr N (fun i _ => ?_)
        rw [cn1, if_neg hv, Int.add_mul]
        congr 1
        · by_cases hi : x.no = i
          · rw [if_pos hi, if_pos (by omega), Int.one_mul]
          · rw [if_neg hi, if_neg (by omega), Int.zero_mul]
        · by_cases hi : x.yes = i
          · rw [if_pos hi, if_pos (by omega), Int.one_mul]
          · rw [if_neg hi, if_neg (by omega), Int.zero_mul]
      rw [e2, sumTo_pick s _ N (by omega), sumTo_pick s _ N (by omega)]
theorem ews_sum (s : Nat → Int) : ∀ (xs : List Nd), ews s xs = sumTo (fun j => ew s (xs.getD j default)) xs.length := by
  intro xs
  have : ∀ (ys zs : List Nd), ews s (ys ++ zs) = ews s ys + ews s zs := fun ys zs => by
    induction ys with
    | nil => simp [ews]
    | cons y ys ih => simp only [List.cons_append, ews, ih]; omega
  have h2 : ∀ k, k ≤ xs.length → ews s (xs.take k) = sumTo (fun j => ew s (xs.getD j default)) k := fun k => by
    induction k with
    | zero => intro _; simp [ews, sumTo]
    | succ k ih =>
      intro hk
      rw [sumTo, ← ih (by omega), ← take_one xs k (by omega), this]
      simp [ews]
  rw [← h2 xs.length (Nat.le_refl _), List.take_of_length_le (Nat.le_refl _)]

theorem ed_of_cn : ∀ (xs : List Nd) (j : Nat), cn xs j ≠ 0 → ∃ i, i < xs.length ∧ (xs.getD i default).v ≠ 0 ∧ ((xs.getD i default).no = j ∨ (xs.getD i default).yes = j)
  | [], j, h => absurd rfl h
  | x :: xs, j, h => by
    by_cases h1 : cn xs j = 0
    · rw [cn, h1, Int.add_zero] at h
      unfold cn1 at h
      by_cases hv : x.v = 0
      · rw [if_pos hv] at h; exact absurd rfl h
      · rw [if_neg hv] at h
        refine ⟨0, by simp, by simpa using hv, ?_⟩
        simp only [List.getD_cons_zero]
        by_cases h2 : x.no = j
        · exact .inl h2
        · by_cases h3 : x.yes = j
          · exact .inr h3
          · rw [if_neg h2, if_neg h3] at h; exact absurd rfl h
    · obtain ⟨i, a, b, c⟩ := ed_of_cn xs j h1
      exact ⟨i + 1, by simpa using a, by simpa using b, by simpa using c⟩

theorem Valid.size0 {ts : List Nd} {n : Int} (h : Valid ts n) : sz ts 0 = ts.length := by
  have hl := h.later
  have e1 : ews (sz ts) ts = sumTo (fun j => cn ts j * sz ts j) ts.length := by
    refine ews_cn _ _ ts (fun x hx hv => ?_)
    obtain ⟨i, hi, rfl⟩ := List.mem_iff_getElem.1 hx
    have hg : ts.getD i default = ts[i] := by rw [List.getD_eq_getElem?_getD, List.getElem?_eq_getElem hi]; rfl
    obtain ⟨_, _, _, a, b, c, d⟩ := fmd_q (h.fm i hi) (by rw [hg]; exact hv)
    rw [hg] at a b c d
    omega
  have e2 : ews (sz ts) ts + ts.length = sumTo (sz ts) ts.length := by
    rw [ews_sum]
    have : (ts.length : Int) = sumTo (fun _ => 1) ts.length := by rw [sumTo_const]; omega
    rw [this, ← sumTo_add]
    refine sumTo_congr _ (fun i hi => ?_)
    rw [sz_eq hl hi]
    unfold ew
    split <;> omega
  have e3 : sumTo (fun j => cn ts j * sz ts j) ts.length = sumTo (fun i => if i = 0 then 0 else sz ts i) ts.length := by
    refine sumTo_congr _ (fun i hi => ?_)
    by_cases h0 : i = 0
    · subst h0
      rw [if_pos rfl, cn_zero ts 0 (fun j hj => by simpa using h.fm j hj) 0 (Nat.le_refl _), Int.zero_mul]
    · rw [if_neg h0, h.one i (by omega) hi, Int.one_mul]
  have e4 := sumTo_first (sz ts) ts.length h.pos
  omega
theorem Valid.parent {ts : List Nd} {n : Int} (h : Valid ts n) {j : Nat} (h1 : 1 ≤ j) (hj : j < ts.length) : ∃ p, Ed ts p j := by
  obtain ⟨i, a, b, c⟩ := ed_of_cn ts j (by rw [h.one j h1 hj]; decide)
  exact ⟨i, a, b, c⟩
theorem Valid.size {ts : List Nd} {n : Int} (h : Valid ts n) : ∀ (m j : Nat), j ≤ m → j < ts.length → sz ts j ≤ ts.length
  | 0, j, hm, hj => by
    have : j = 0 := by omega
    subst this
    rw [h.size0]; exact Int.le_refl _
  | m + 1, j, hm, hj => by
    by_cases h0 : j = 0
    · subst h0; rw [h.size0]; exact Int.le_refl _
    obtain ⟨p, he⟩ := h.parent (by omega) hj
    have hlt := he.lt h.fm
    have ih := h.size m p (by omega) he.1
    rw [sz_eq h.later he.1, if_neg he.2.1] at ih
    have n1 : 0 ≤ sz ts (ts.getD p default).no.toNat := Int.natCast_nonneg _
    have n2 : 0 ≤ sz ts (ts.getD p default).yes.toNat := Int.natCast_nonneg _
    rcases he.2.2 with e | e <;> (rw [e, Int.toNat_natCast] at ih; omega)

theorem strN_le {ts : List Nd} {n : Int} (h : Valid ts n) : ∀ (f : Nat) (i : Int), 0 ≤ i → i < ts.length → (strN ts f i).length ≤ 25 * szN ts f i
  | 0, i, _, _ => by simp [strN]
  | f + 1, i, h0, h1 => by
    rw [strN, szN]
    by_cases hv : (ts.getD i.toNat default).v = 0
    · rw [if_pos hv, if_pos hv]; split <;> simp
    · rw [if_neg hv, if_neg hv]
      obtain ⟨l1, l2, l3, l4⟩ := h.later i h0 h1 hv
      have i1 := strN_le h f _ (by omega) l2
      have i2 := strN_le h f _ (by omega) l4
      have hr := h.rng
      have hvv := h.var (show i.toNat < ts.length by omega) hv
      have i3 := Lib.itoa_length_le (ts.getD i.toNat default).v (by omega) (by omega)
      simp only [List.length_append, List.length_cons, List.length_nil]
      omega
theorem Valid.short {ts : List Nd} {n : Int} (h : Valid ts n) : ShortS ts := by
  intro j h0 h1
  have a := strN_le h ts.length j h0 h1
  have b := h.size ts.length j.toNat (by omega) (by omega)
  unfold sz at b
  rw [Int.toNat_of_nonneg h0] at b
  have := h.le
  omega
end Go.Proofs.YtdiciemlbhkilaaDoor
