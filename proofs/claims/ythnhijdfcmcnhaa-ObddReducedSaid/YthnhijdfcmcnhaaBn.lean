/- Natural numbers as bytes and as words of 32 bits, in plain Lean. -/
import Derived.Test.YthnhijdfcmcnhaaCxT
namespace Go.Proofs.Ythnhijdfcmcnhaa
open Go Go.Cx
set_option linter.unusedVariables false
set_option linter.unusedSimpArgs false
def valW : List Nat → Nat
  | [] => 0
  | x :: l => x + 4294967296 * valW l
def valB : List UInt8 → Nat
  | [] => 0
  | c :: l => c.toNat + 256 * valB l
def bytesF : Nat → Nat → List UInt8
  | 0, _ => []
  | f + 1, v => if v = 0 then [] else UInt8.ofNat (v % 256) :: bytesF f (v / 256)
/-- a number's bytes, the lowest first, without zeros at the end -/
def bytesN (v : Nat) : List UInt8 := bytesF v v
theorem u8_of (k : Nat) (h : k < 256) : (UInt8.ofNat k).toNat = k := by simp [UInt8.toNat_ofNat']; omega
theorem u8_lt (c : UInt8) : c.toNat < 256 := c.toNat_lt
theorem u8_to (c : UInt8) : UInt8.ofNat c.toNat = c := by simp
theorem valB_app (l : List UInt8) (m : List UInt8) : valB (l ++ m) = valB l + 256 ^ l.length * valB m := by
  induction l with
  | nil => simp [valB]
  | cons c l ih =>
    simp only [List.cons_append, valB, ih, List.length_cons, Nat.pow_succ, Nat.mul_add]
    rw [← Nat.mul_assoc, Nat.mul_comm 256 (256 ^ l.length)]; omega
theorem valW_app (l m : List Nat) : valW (l ++ m) = valW l + 4294967296 ^ l.length * valW m := by
  induction l with
  | nil => simp [valW]
  | cons c l ih =>
    simp only [List.cons_append, valW, ih, List.length_cons, Nat.pow_succ, Nat.mul_add]
    rw [← Nat.mul_assoc, Nat.mul_comm 4294967296 (4294967296 ^ l.length)]; omega
theorem valB_bytesF : ∀ (f v : Nat), v ≤ f → valB (bytesF f v) = v
  | 0, v, h => by simp [bytesF, valB]; omega
  | f + 1, v, h => by
    unfold bytesF
    split
    · rename_i h; rw [h]; rfl
    · rw [valB, valB_bytesF f (v / 256) (by omega), u8_of _ (Nat.mod_lt _ (by omega))]; omega
theorem valB_bytesN (v : Nat) : valB (bytesN v) = v := valB_bytesF v v (Nat.le_refl _)
/-- no zero at the end -/
def noz (l : List UInt8) : Prop := ∀ h : l ≠ [], l.getLast h ≠ 0
theorem noz_tl {c : UInt8} {l : List UInt8} (h : noz (c :: l)) : noz l := fun hn => by
  have := h (by simp)
  rwa [List.getLast_cons hn] at this
theorem noz_pos : ∀ {l : List UInt8}, noz l → l ≠ [] → 0 < valB l
  | [], _, h => absurd rfl h
  | [c], h, _ => by
    have h1 : c ≠ 0 := h (by simp)
    have h2 : c.toNat ≠ 0 := fun e => h1 (by rw [← u8_to c, e]; rfl)
    simp only [valB]; omega
  | c :: d :: l, h, _ => by
    have := noz_pos (noz_tl h) (by simp)
    rw [valB]; omega
theorem bytesF_valB : ∀ (l : List UInt8) (f : Nat), noz l → valB l ≤ f → bytesF f (valB l) = l
  | [], f, _, _ => by cases f <;> simp [bytesF, valB]
  | c :: l, f, h, hf => by
    have hp := noz_pos h (by simp)
    obtain ⟨f', rfl⟩ : ∃ f', f = f' + 1 := ⟨f - 1, by omega⟩
    have hc := u8_lt c
    rw [bytesF, if_neg (by omega)]
    have e1 : valB (c :: l) % 256 = c.toNat := by rw [valB]; omega
    have e2 : valB (c :: l) / 256 = valB l := by rw [valB]; omega
    rw [e1, e2, u8_to, bytesF_valB l f' (noz_tl h) (by rw [valB] at hf hp; omega)]
theorem bytesN_valB (l : List UInt8) (h : noz l) : bytesN (valB l) = l := bytesF_valB l _ h (Nat.le_refl _)
theorem valB_lt (l : List UInt8) : valB l < 256 ^ l.length := by
  induction l with
  | nil => simp [valB]
  | cons c l ih =>
    have := u8_lt c
    rw [valB, List.length_cons, Nat.pow_succ]; omega
theorem bytesF_len : ∀ (k f v : Nat), v < 256 ^ k → (bytesF f v).length ≤ k
  | _, 0, _, _ => by simp [bytesF]
  | 0, f + 1, v, h => by
    have : v = 0 := by simpa using h
    simp [bytesF, this]
  | k + 1, f + 1, v, h => by
    unfold bytesF
    split
    · simp
    · simp only [List.length_cons]
      have := bytesF_len k f (v / 256) (by rw [Nat.pow_succ] at h; omega)
      omega
theorem bytesN_len {k v : Nat} (h : v < 256 ^ k) : (bytesN v).length ≤ k := bytesF_len k v v h
theorem bytesN_inj {a b : Nat} (h : bytesN a = bytesN b) : a = b := by rw [← valB_bytesN a, h, valB_bytesN]
/-- the bytes of words -/
def wbytes : List Nat → List UInt8
  | [] => []
  | x :: l => UInt8.ofNat (x % 256) :: UInt8.ofNat (x / 256 % 256) :: UInt8.ofNat (x / 65536 % 256) :: UInt8.ofNat (x / 16777216 % 256) :: wbytes l
theorem wbytes_len (ws : List Nat) : (wbytes ws).length = 4 * ws.length := by
  induction ws with
  | nil => rfl
  | cons x l ih => simp only [wbytes, List.length_cons, ih]; omega
def okW (ws : List Nat) : Prop := ∀ x ∈ ws, x < 4294967296
theorem valB_wbytes (ws : List Nat) (h : okW ws) : valB (wbytes ws) = valW ws := by
  induction ws with
  | nil => rfl
  | cons x l ih =>
    have hx := h x (by simp)
    simp only [wbytes, valB, valW, ih fun y hy => h y (by simp [hy])]
    rw [u8_of _ (Nat.mod_lt _ (by omega)), u8_of _ (Nat.mod_lt _ (by omega)), u8_of _ (Nat.mod_lt _ (by omega)), u8_of _ (Nat.mod_lt _ (by omega))]
    omega
theorem wbytes_at : ∀ (ws : List Nat) (i : Nat), i < 4 * ws.length → (wbytes ws)[i]? = some (UInt8.ofNat (ws.getD (i / 4) 0 / 2 ^ (8 * (i % 4)) % 256))
  | [], i, h => by simp at h
  | x :: l, i, h => by
    rcases Nat.lt_or_ge i 4 with h4 | h4
    · have : i = 0 ∨ i = 1 ∨ i = 2 ∨ i = 3 := by omega
      rcases this with rfl | rfl | rfl | rfl <;> simp [wbytes]
    · obtain ⟨k, rfl⟩ : ∃ k, i = k + 4 := ⟨i - 4, by omega⟩
      have e1 : (k + 4) / 4 = k / 4 + 1 := by omega
      have e2 : (k + 4) % 4 = k % 4 := by omega
      rw [e1, e2]
      show (wbytes l)[k]? = _
      rw [wbytes_at l k (by simp at h; omega)]
      rfl
/-- the words of bytes -/
def wordsB : List UInt8 → List Nat
  | [] => []
  | [a] => [a.toNat]
  | [a, b] => [a.toNat + 256 * b.toNat]
  | [a, b, c] => [a.toNat + 256 * b.toNat + 65536 * c.toNat]
  | a :: b :: c :: d :: l => (a.toNat + 256 * b.toNat + 65536 * c.toNat + 16777216 * d.toNat) :: wordsB l
theorem wordsB_len : ∀ (l : List UInt8), (wordsB l).length = (l.length + 3) / 4
  | [] => rfl
  | [a] => by simp [wordsB]
  | [a, b] => by simp [wordsB]
  | [a, b, c] => by simp [wordsB]
  | a :: b :: c :: d :: l => by simp only [wordsB, List.length_cons, wordsB_len l]; omega
theorem valW_wordsB : ∀ (l : List UInt8), valW (wordsB l) = valB l
  | [] => rfl
  | [a] => by simp [wordsB, valW, valB]
  | [a, b] => by simp [wordsB, valW, valB]
  | [a, b, c] => by simp only [wordsB, valW, valB]; omega
  | a :: b :: c :: d :: l => by simp only [wordsB, valW, valB, valW_wordsB l]; omega
theorem okW_wordsB : ∀ (l : List UInt8), okW (wordsB l)
  | [] => fun _ h => by simp [wordsB] at h
  | [a] => fun x h => by simp only [wordsB, List.mem_singleton] at h; have := u8_lt a; omega
  | [a, b] => fun x h => by simp only [wordsB, List.mem_singleton] at h; have := u8_lt a; have := u8_lt b; omega
  | [a, b, c] => fun x h => by simp only [wordsB, List.mem_singleton] at h; have := u8_lt a; have := u8_lt b; have := u8_lt c; omega
  | a :: b :: c :: d :: l => fun x h => by
    have := u8_lt a; have := u8_lt b; have := u8_lt c; have := u8_lt d
    rcases List.mem_cons.1 h with h | h
    · omega
    · exact okW_wordsB l x h
/-- a word out of the first i bytes -/
def gB (bs : List UInt8) (i k : Nat) : Nat := if k < i then (bs.getD k 0).toNat else 0
def wAt (bs : List UInt8) (i j : Nat) : Nat := gB bs i (4 * j) + 256 * gB bs i (4 * j + 1) + 65536 * gB bs i (4 * j + 2) + 16777216 * gB bs i (4 * j + 3)
def wUp (bs : List UInt8) (i : Nat) : List Nat := (List.range ((bs.length + 3) / 4)).map (wAt bs i)
theorem gB_lt (bs : List UInt8) (i k : Nat) : gB bs i k < 256 := by unfold gB; split; exact u8_lt _; omega
theorem wAt_lt (bs : List UInt8) (i j : Nat) : wAt bs i j < 4294967296 := by
  have := gB_lt bs i (4 * j); have := gB_lt bs i (4 * j + 1); have := gB_lt bs i (4 * j + 2); have := gB_lt bs i (4 * j + 3)
  unfold wAt; omega
theorem wAt_step (bs : List UInt8) (i : Nat) : wAt bs (i + 1) (i / 4) = wAt bs i (i / 4) ||| ((bs.getD i 0).toNat * 2 ^ (8 * (i % 4))) := by
  have hc := u8_lt (bs.getD i 0)
  have key : ∀ r, i % 4 = r → wAt bs i (i / 4) < 2 ^ (8 * r) ∧ wAt bs (i + 1) (i / 4) = (bs.getD i 0).toNat * 2 ^ (8 * r) + wAt bs i (i / 4) := by
    intro r hr
    have hi : i = 4 * (i / 4) + r := by omega
    have hr5 : r < 4 := by omega
    clear hr
    generalize i / 4 = j at hi ⊢
    subst hi
    have hr4 : r = 0 ∨ r = 1 ∨ r = 2 ∨ r = 3 := by omega
    have b0 := u8_lt (bs.getD (4 * j) 0)
    have b1 := u8_lt (bs.getD (4 * j + 1) 0)
    have b2 := u8_lt (bs.getD (4 * j + 2) 0)
    have ey : ∀ k i, k < i → gB bs i k = (bs.getD k 0).toNat := fun k i h => if_pos h
    have en : ∀ k i, i ≤ k → gB bs i k = 0 := fun k i h => if_neg (Nat.not_lt.2 h)
    unfold wAt
    rcases hr4 with rfl | rfl | rfl | rfl
    · rw [en (4 * j) (4 * j + 0) (by omega), en (4 * j + 1) (4 * j + 0) (by omega), en (4 * j + 2) (4 * j + 0) (by omega), en (4 * j + 3) (4 * j + 0) (by omega), ey (4 * j) (4 * j + 0 + 1) (by omega), en (4 * j + 1) (4 * j + 0 + 1) (by omega), en (4 * j + 2) (4 * j + 0 + 1) (by omega), en (4 * j + 3) (4 * j + 0 + 1) (by omega)]
      simp
    · rw [ey (4 * j) (4 * j + 1) (by omega), en (4 * j + 1) (4 * j + 1) (by omega), en (4 * j + 2) (4 * j + 1) (by omega), en (4 * j + 3) (4 * j + 1) (by omega), ey (4 * j) (4 * j + 1 + 1) (by omega), ey (4 * j + 1) (4 * j + 1 + 1) (by omega), en (4 * j + 2) (4 * j + 1 + 1) (by omega), en (4 * j + 3) (4 * j + 1 + 1) (by omega)]
      omega
    · rw [ey (4 * j) (4 * j + 2) (by omega), ey (4 * j + 1) (4 * j + 2) (by omega), en (4 * j + 2) (4 * j + 2) (by omega), en (4 * j + 3) (4 * j + 2) (by omega), ey (4 * j) (4 * j + 2 + 1) (by omega), ey (4 * j + 1) (4 * j + 2 + 1) (by omega), ey (4 * j + 2) (4 * j + 2 + 1) (by omega), en (4 * j + 3) (4 * j + 2 + 1) (by omega)]
      omega
    · rw [ey (4 * j) (4 * j + 3) (by omega), ey (4 * j + 1) (4 * j + 3) (by omega), ey (4 * j + 2) (4 * j + 3) (by omega), en (4 * j + 3) (4 * j + 3) (by omega), ey (4 * j) (4 * j + 3 + 1) (by omega), ey (4 * j + 1) (4 * j + 3 + 1) (by omega), ey (4 * j + 2) (4 * j + 3 + 1) (by omega), ey (4 * j + 3) (4 * j + 3 + 1) (by omega)]
      omega
  obtain ⟨h1, h2⟩ := key _ rfl
  rw [h2, Nat.or_comm, Nat.mul_comm, Nat.two_pow_add_eq_or_of_lt h1]
theorem wAt_other (bs : List UInt8) (i j : Nat) (h : j ≠ i / 4) : wAt bs (i + 1) j = wAt bs i j := by
  have e : ∀ k, k ≠ i → gB bs (i + 1) k = gB bs i k := fun k hk => by
    unfold gB
    rcases Nat.lt_or_ge k i with h | h
    · rw [if_pos (by omega), if_pos h]
    · rw [if_neg (by omega), if_neg (by omega)]
  unfold wAt
  rw [e _ (by omega), e _ (by omega), e _ (by omega), e _ (by omega)]
theorem wUp_len (bs : List UInt8) (i : Nat) : (wUp bs i).length = (bs.length + 3) / 4 := by simp [wUp]
theorem wUp_get (bs : List UInt8) (i j : Nat) (h : j < (bs.length + 3) / 4) : (wUp bs i).getD j 0 = wAt bs i j := by
  rw [List.getD_eq_getElem?_getD, wUp, List.getElem?_map, List.getElem?_range h]; rfl
theorem wUp_step (bs : List UInt8) (i : Nat) (hi : i < bs.length) : wUp bs (i + 1) = (wUp bs i).set (i / 4) (wAt bs i (i / 4) ||| ((bs.getD i 0).toNat * 2 ^ (8 * (i % 4)))) := by
  apply List.ext_getElem?
  intro j
  rw [List.getElem?_set, wUp_len]
  unfold wUp
  rw [List.getElem?_map, List.getElem?_map]
  by_cases hj : i / 4 = j
  · subst hj
    have : i / 4 < (bs.length + 3) / 4 := by omega
    rw [if_pos rfl, if_pos this, List.getElem?_range this, ← wAt_step]; rfl
  · rw [if_neg hj]
    rcases Nat.lt_or_ge j ((bs.length + 3) / 4) with h | h
    · rw [List.getElem?_range h]
      show some _ = some _
      rw [wAt_other _ _ _ (fun e => hj e.symm)]
    · rw [List.getElem?_eq_none (by simpa using h)]; rfl
theorem wUp_0 (bs : List UInt8) : wUp bs 0 = List.replicate ((bs.length + 3) / 4) 0 := by
  have : ∀ j, wAt bs 0 j = 0 := fun j => by simp [wAt, gB]
  unfold wUp
  rw [List.eq_replicate_iff]
  refine ⟨by simp, fun b hb => ?_⟩
  obtain ⟨j, _, rfl⟩ := List.mem_map.1 hb
  exact this j
theorem wAt_tl (a b c d : UInt8) (l : List UInt8) (j : Nat) : wAt (a :: b :: c :: d :: l) (l.length + 4) (j + 1) = wAt l l.length j := by
  have e : ∀ k, gB (a :: b :: c :: d :: l) (l.length + 4) (k + 4) = gB l l.length k := fun k => by
    unfold gB
    rcases Nat.lt_or_ge k l.length with h | h
    · rw [if_pos (by omega), if_pos h]; simp
    · rw [if_neg (by omega), if_neg (by omega)]
  unfold wAt
  rw [show 4 * (j + 1) = 4 * j + 4 by omega, e, show 4 * j + 4 + 1 = (4 * j + 1) + 4 by omega, e, show 4 * j + 4 + 2 = (4 * j + 2) + 4 by omega, e, show 4 * j + 4 + 3 = (4 * j + 3) + 4 by omega, e]
theorem wUp_end : ∀ (bs : List UInt8), wUp bs bs.length = wordsB bs
  | [] => rfl
  | [a] => by simp [wUp, wordsB, wAt, gB]
  | [a, b] => by simp [wUp, wordsB, wAt, gB]
  | [a, b, c] => by simp [wUp, wordsB, wAt, gB]
  | a :: b :: c :: d :: l => by
    have ih := wUp_end l
    unfold wUp at ih ⊢
    rw [show ((a :: b :: c :: d :: l).length + 3) / 4 = (l.length + 3) / 4 + 1 by simp only [List.length_cons]; omega, List.range_succ_eq_map, List.map_cons, List.map_map, wordsB]
    congr 1
    rw [← ih]
    exact List.map_congr_left fun j _ => wAt_tl a b c d l j
end Go.Proofs.Ythnhijdfcmcnhaa

/- Sums, products and decimals of words, in plain Lean. -/
namespace Go.Proofs.Ythnhijdfcmcnhaa
open Go Go.Cx
set_option linter.unusedVariables false
set_option linter.unusedSimpArgs false
abbrev W32 : Nat := 4294967296
theorem valW_set : ∀ (l : List Nat) (j v : Nat), j < l.length → valW (l.set j v) + W32 ^ j * l.getD j 0 = valW l + W32 ^ j * v
  | [], _, _, h => by simp at h
  | x :: l, 0, v, _ => by simp [valW]; omega
  | x :: l, j + 1, v, h => by
    have ih := valW_set l j v (by simpa using h)
    simp only [List.set_cons_succ, valW, Nat.pow_succ]
    have e : (x :: l).getD (j + 1) 0 = l.getD j 0 := rfl
    rw [e, Nat.mul_comm (W32 ^ j) W32, Nat.mul_assoc, Nat.mul_assoc]
    generalize W32 ^ j * l.getD j 0 = A at ih ⊢
    generalize W32 ^ j * v = B at ih ⊢
    show x + 4294967296 * valW (l.set j v) + 4294967296 * A = x + 4294967296 * valW l + 4294967296 * B
    omega
theorem valW_take (l : List Nat) (i : Nat) (h : i < l.length) : valW (l.take (i + 1)) = valW (l.take i) + W32 ^ i * l.getD i 0 := by
  have : l.take (i + 1) = l.take i ++ [l.getD i 0] := by
    rw [List.take_add_one, List.getD_eq_getElem?_getD, List.getElem?_eq_getElem h]; rfl
  rw [this, valW_app, List.length_take, Nat.min_eq_left (Nat.le_of_lt h)]
  simp [valW]
theorem okW_set {l : List Nat} (h : okW l) (j v : Nat) (hv : v < W32) : okW (l.set j v) := fun x hx => by
  rcases List.mem_or_eq_of_mem_set hx with h1 | h1
  · exact h x h1
  · rw [h1]; exact hv
theorem okW_get {l : List Nat} (h : okW l) (j : Nat) : l.getD j 0 < W32 := by
  rw [List.getD_eq_getElem?_getD]
  cases hj : l[j]? with
  | none => decide
  | some x => exact h x (List.mem_of_getElem? hj)
theorem valW_zeros (k : Nat) : valW (List.replicate k 0) = 0 := by
  induction k with
  | zero => rfl
  | succ k ih => rw [List.replicate_succ, valW, ih]
theorem okW_zeros (k : Nat) : okW (List.replicate k 0) := fun x hx => by
  rw [List.eq_of_mem_replicate hx]; decide
theorem getD_set_ne (l : List Nat) {i j : Nat} (v : Nat) (h : i ≠ j) : (l.set i v).getD j 0 = l.getD j 0 := by
  rw [List.getD_eq_getElem?_getD, List.getElem?_set_ne h, ← List.getD_eq_getElem?_getD]
/-- the sum, i words done: x the longer one, o what stands there -/
structure AddI (x y : List Nat) (i : Nat) (o : List Nat) (c : Nat) : Prop where
  len : o.length = x.length + 1
  ok : okW o
  hi : ∀ j, i ≤ j → o.getD j 0 = y.getD j 0
  c1 : c ≤ 1
  eq : valW (o.take i) + W32 ^ i * c = valW (x.take i) + valW (y.take i)
theorem valW_takeD (l : List Nat) (i : Nat) : valW (l.take (i + 1)) = valW (l.take i) + W32 ^ i * l.getD i 0 := by
  rcases Nat.lt_or_ge i l.length with h | h
  · exact valW_take l i h
  · rw [List.take_of_length_le (by omega), List.take_of_length_le h, List.getD_eq_getElem?_getD, List.getElem?_eq_none h]; simp
theorem AddI.start {x y : List Nat} (hx : okW x) (hy : okW y) (h : y.length ≤ x.length) : AddI x y 0 (y ++ List.replicate (x.length + 1 - y.length) 0) 0 := by
  refine ⟨by simp; omega, fun z hz => ?_, fun j _ => ?_, by omega, by simp [valW]⟩
  · rcases List.mem_append.1 hz with hz | hz
    · exact hy z hz
    · exact okW_zeros _ z hz
  · rcases Nat.lt_or_ge j y.length with h1 | h1
    · rw [List.getD_eq_getElem?_getD, List.getElem?_append_left h1, ← List.getD_eq_getElem?_getD]
    · rw [List.getD_eq_getElem?_getD, List.getElem?_append_right h1, List.getD_eq_getElem?_getD, List.getElem?_eq_none h1, List.getElem?_replicate]
      split <;> rfl
theorem AddI.step {x y o : List Nat} {i c : Nat} (h : AddI x y i o c) (hx : okW x) (hi : i < x.length) :
    AddI x y (i + 1) (o.set i ((c + (o.getD i 0 + x.getD i 0)) % W32)) ((c + (o.getD i 0 + x.getD i 0)) / W32) := by
  have b1 := okW_get h.ok i
  have b2 := okW_get hx i
  have hc := h.c1
  have hl : i < o.length := by rw [h.len]; omega
  refine ⟨by rw [List.length_set]; exact h.len, okW_set h.ok _ _ (Nat.mod_lt _ (by decide)), fun j hj => by rw [getD_set_ne _ _ (by omega)]; exact h.hi j (by omega), by unfold W32 at *; omega, ?_⟩
  have e1 : (o.set i ((c + (o.getD i 0 + x.getD i 0)) % W32)).take (i + 1) = o.take i ++ [(c + (o.getD i 0 + x.getD i 0)) % W32] := by
    rw [List.take_add_one, List.take_set_of_le (Nat.le_refl _), List.getElem?_set_self hl]; rfl
  rw [e1, valW_app, List.length_take, Nat.min_eq_left (Nat.le_of_lt hl), valW_takeD x, valW_takeD y, ← h.hi i (Nat.le_refl _)]
  have heq := h.eq
  generalize hs : c + (o.getD i 0 + x.getD i 0) = s
  have e2 : W32 ^ i * valW [s % W32] + W32 ^ (i + 1) * (s / W32) = W32 ^ i * c + (W32 ^ i * o.getD i 0 + W32 ^ i * x.getD i 0) := by
    rw [← Nat.mul_add, ← Nat.mul_add, hs, Nat.pow_succ, Nat.mul_assoc, ← Nat.mul_add]
    congr 1
    simp only [valW]
    exact (by rw [Nat.mul_zero, Nat.add_zero]; exact Nat.mod_add_div s W32)
  generalize W32 ^ i * valW [s % W32] = A at e2 ⊢
  generalize W32 ^ (i + 1) * (s / W32) = B at e2 ⊢
  generalize W32 ^ i * c = C at e2 heq
  generalize W32 ^ i * o.getD i 0 = D at e2 ⊢
  generalize W32 ^ i * x.getD i 0 = E at e2 ⊢
  omega
theorem AddI.fin {x y o : List Nat} {c : Nat} (h : AddI x y x.length o c) (hy : y.length ≤ x.length) : okW (o.set x.length c) ∧ valW (o.set x.length c) = valW x + valW y := by
  have hc := h.c1
  refine ⟨okW_set h.ok _ _ (by unfold W32; omega), ?_⟩
  have hl : x.length < o.length := by rw [h.len]; omega
  have e1 : o.set x.length c = o.take x.length ++ [c] := by
    have := List.take_append_drop (x.length + 1) (o.set x.length c)
    rw [List.drop_of_length_le (by rw [List.length_set, h.len]; omega), List.append_nil] at this
    rw [← this, List.take_add_one, List.take_set_of_le (Nat.le_refl _), List.getElem?_set_self hl]; rfl
  have := h.eq
  rw [List.take_of_length_le (Nat.le_refl x.length), List.take_of_length_le hy] at this
  rw [e1, valW_app, List.length_take, Nat.min_eq_left (Nat.le_of_lt hl), ← this]
  simp [valW]
/-- the product, i words of x and k words of y in the next one done -/
structure MulI (x y : List Nat) (i k : Nat) (o : List Nat) (c : Nat) : Prop where
  len : o.length = x.length + y.length
  ok : okW o
  hi : ∀ j, i + y.length ≤ j → o.getD j 0 = 0
  c1 : c < W32
  eq : valW o + W32 ^ (i + k) * c = valW (x.take i) * valW y + W32 ^ i * (x.getD i 0 * valW (y.take k))
structure MulO (x y : List Nat) (i : Nat) (o : List Nat) : Prop where
  len : o.length = x.length + y.length
  ok : okW o
  hi : ∀ j, i + y.length ≤ j → o.getD j 0 = 0
  eq : valW o = valW (x.take i) * valW y
theorem MulO.start (x y : List Nat) : MulO x y 0 (List.replicate (x.length + y.length) 0) :=
  ⟨by simp, okW_zeros _, fun j _ => by rw [List.getD_eq_getElem?_getD, List.getElem?_replicate]; split <;> rfl, by rw [valW_zeros]; simp [valW]⟩
theorem MulO.inn {x y o : List Nat} {i : Nat} (h : MulO x y i o) : MulI x y i 0 o 0 :=
  ⟨h.len, h.ok, h.hi, by decide, by rw [h.eq]; simp [valW]⟩
theorem mul_fits {c a f y : Nat} (hc : c < W32) (ha : a < W32) (hf : f < W32) (hy : y < W32) : c + (a + f * y) < 18446744073709551616 := by
  have : f * y ≤ 4294967295 * 4294967295 := Nat.mul_le_mul (by unfold W32 at hf; omega) (by unfold W32 at hy; omega)
  unfold W32 at *
  omega
theorem MulI.step {x y o : List Nat} {i k c : Nat} (h : MulI x y i k o c) (hx : okW x) (hy : okW y) (hi : i < x.length) (hk : k < y.length) :
    MulI x y i (k + 1) (o.set (i + k) ((c + (o.getD (i + k) 0 + x.getD i 0 * y.getD k 0)) % W32)) ((c + (o.getD (i + k) 0 + x.getD i 0 * y.getD k 0)) / W32) := by
  have b1 := okW_get h.ok (i + k)
  have b2 := okW_get hx i
  have b3 := okW_get hy k
  have hl : i + k < o.length := by rw [h.len]; omega
  have hs2 := mul_fits h.c1 b1 b2 b3
  refine ⟨by rw [List.length_set]; exact h.len, okW_set h.ok _ _ (Nat.mod_lt _ (by decide)), fun j hj => by rw [getD_set_ne _ _ (by omega)]; exact h.hi j hj, by unfold W32 at *; omega, ?_⟩
  have heq := h.eq
  have hv := valW_set o (i + k) ((c + (o.getD (i + k) 0 + x.getD i 0 * y.getD k 0)) % W32) hl
  rw [valW_take y k hk, Nat.mul_add, Nat.mul_add]
  generalize hs : c + (o.getD (i + k) 0 + x.getD i 0 * y.getD k 0) = s at hv ⊢
  have e2 : W32 ^ (i + k) * (s % W32) + W32 ^ (i + (k + 1)) * (s / W32) = W32 ^ (i + k) * c + (W32 ^ (i + k) * o.getD (i + k) 0 + W32 ^ (i + k) * (x.getD i 0 * y.getD k 0)) := by
    rw [← Nat.mul_add, ← Nat.mul_add, hs, ← Nat.add_assoc, Nat.pow_succ, Nat.mul_assoc, ← Nat.mul_add]
    congr 1
    exact Nat.mod_add_div s W32
  have e3 : W32 ^ i * (x.getD i 0 * (W32 ^ k * y.getD k 0)) = W32 ^ (i + k) * (x.getD i 0 * y.getD k 0) := by
    rw [Nat.pow_add, Nat.mul_left_comm (x.getD i 0), Nat.mul_assoc]
  rw [e3]
  generalize W32 ^ (i + k) * (s % W32) = A at e2 hv
  generalize W32 ^ (i + (k + 1)) * (s / W32) = B at e2 ⊢
  generalize W32 ^ (i + k) * c = C at e2 heq
  generalize W32 ^ (i + k) * o.getD (i + k) 0 = D at e2 hv
  generalize W32 ^ (i + k) * (x.getD i 0 * y.getD k 0) = E at e2 ⊢
  generalize W32 ^ i * (x.getD i 0 * valW (y.take k)) = G at heq ⊢
  generalize valW (x.take i) * valW y = Z at heq ⊢
  omega
theorem MulI.out {x y o : List Nat} {i c : Nat} (h : MulI x y i y.length o c) (hi : i < x.length) : MulO x y (i + 1) (o.set (i + y.length) c) := by
  have hl : i + y.length < o.length := by rw [h.len]; omega
  refine ⟨by rw [List.length_set]; exact h.len, okW_set h.ok _ _ h.c1, fun j hj => by rw [getD_set_ne _ _ (by omega)]; exact h.hi j (by omega), ?_⟩
  have hv := valW_set o (i + y.length) c hl
  have heq := h.eq
  rw [h.hi _ (Nat.le_refl _), Nat.mul_zero, Nat.add_zero] at hv
  rw [List.take_of_length_le (Nat.le_refl y.length)] at heq
  rw [hv, heq, valW_take x i hi, Nat.add_mul, Nat.mul_assoc]
theorem MulO.fin {x y o : List Nat} (h : MulO x y x.length o) : valW o = valW x * valW y := by
  rw [h.eq, List.take_of_length_le (Nat.le_refl _)]
/-- decimal digits, the lowest first -/
def decF : Nat → Nat → List UInt8
  | 0, _ => []
  | f + 1, v => if v = 0 then [] else UInt8.ofNat (48 + v % 10) :: decF f (v / 10)
def decN (v : Nat) : List UInt8 := decF v v
theorem decF_fuel : ∀ (f g v : Nat), v ≤ f → v ≤ g → decF f v = decF g v
  | 0, 0, _, _, _ => rfl
  | 0, g + 1, v, h, _ => by rw [decF, decF, if_pos (by omega)]
  | f + 1, 0, v, _, h => by rw [decF, decF, if_pos (by omega)]
  | f + 1, g + 1, v, h1, h2 => by
    rw [decF, decF]
    split
    · rfl
    · rw [decF_fuel f g _ (by omega) (by omega)]
theorem decN_0 : decN 0 = [] := rfl
theorem decN_pos {v : Nat} (h : 0 < v) : decN v = UInt8.ofNat (48 + v % 10) :: decN (v / 10) := by
  unfold decN
  obtain ⟨f, hf⟩ : ∃ f, v = f + 1 := ⟨v - 1, by omega⟩
  rw [hf, decF, if_neg (by omega), decF_fuel f ((f + 1) / 10) _ (by omega) (by omega)]
def textN (v : Nat) : List UInt8 := if v = 0 then [48] else (decN v).reverse
/-- one digit of a part -/
theorem dec_step {p q m : Nat} (hp : 0 < p + 10 ^ (m + 1) * q) : decN (p + 10 ^ (m + 1) * q) = UInt8.ofNat (48 + p % 10) :: decN (p / 10 + 10 ^ m * q) := by
  rw [decN_pos hp]
  have e : 10 ^ (m + 1) * q = 10 * (10 ^ m * q) := by rw [Nat.pow_succ, Nat.mul_comm (10 ^ m), Nat.mul_assoc]
  rw [e]
  generalize 10 ^ m * q = A
  rw [show (p + 10 * A) % 10 = p % 10 by omega, show (p + 10 * A) / 10 = p / 10 + A by omega]
/-- dividing words from the top: the words from i on are done -/
structure ShrI (ws : List Nat) (b i : Nat) (o : List Nat) (r : Nat) : Prop where
  len : o.length = ws.length
  ok : okW o
  lo : ∀ j, j < i → o.getD j 0 = ws.getD j 0
  r1 : r < b
  eq : valW (ws.drop i) = b * valW (o.drop i) + r
theorem valW_drop (l : List Nat) (i : Nat) (h : i < l.length) : valW (l.drop i) = l.getD i 0 + W32 * valW (l.drop (i + 1)) := by
  rw [List.drop_eq_getElem_cons h, valW, List.getD_eq_getElem?_getD, List.getElem?_eq_getElem h]; rfl
theorem ShrI.start {ws : List Nat} {b : Nat} (hb : 0 < b) (hw : okW ws) : ShrI ws b ws.length ws 0 :=
  ⟨rfl, hw, fun _ _ => rfl, hb, by simp [valW]⟩
theorem ShrI.step {ws o : List Nat} {b i r : Nat} (h : ShrI ws b (i + 1) o r) (hb : 0 < b) (hw : okW ws) (hi : i < ws.length) :
    ShrI ws b i (o.set i ((r * W32 + o.getD i 0) / b)) ((r * W32 + o.getD i 0) % b) ∧ (r * W32 + o.getD i 0) / b < W32 := by
  have b1 := okW_get h.ok i
  have hl : i < o.length := by rw [h.len]; omega
  have hr := h.r1
  have hq : (r * W32 + o.getD i 0) / b < W32 := by
    rw [Nat.div_lt_iff_lt_mul hb]
    have : (r + 1) * W32 ≤ b * W32 := Nat.mul_le_mul_right _ hr
    rw [Nat.add_mul] at this
    rw [Nat.mul_comm W32 b]
    omega
  refine ⟨⟨by rw [List.length_set]; exact h.len, okW_set h.ok _ _ hq, fun j hj => by rw [getD_set_ne _ _ (by omega)]; exact h.lo j (by omega), Nat.mod_lt _ hb, ?_⟩, hq⟩
  have e1 : (o.set i ((r * W32 + o.getD i 0) / b)).drop i = (r * W32 + o.getD i 0) / b :: o.drop (i + 1) := by
    rw [List.drop_eq_getElem_cons (by rw [List.length_set]; exact hl), List.getElem_set_self, List.drop_set_of_lt (by omega)]
  rw [e1, valW, valW_drop ws i hi, h.eq, ← h.lo i (by omega), Nat.mul_add, Nat.mul_add]
  have := Nat.div_add_mod (r * W32 + o.getD i 0) b
  have e2 : b * (4294967296 * valW (o.drop (i + 1))) = W32 * (b * valW (o.drop (i + 1))) := Nat.mul_left_comm _ _ _
  rw [e2]
  generalize W32 * (b * valW (o.drop (i + 1))) = A
  generalize b * ((r * W32 + o.getD i 0) / b) = B at this ⊢
  generalize (r * W32 + o.getD i 0) % b = C at this ⊢
  rw [Nat.mul_comm] at this
  omega
theorem ShrI.fin {ws o : List Nat} {b r : Nat} (h : ShrI ws b 0 o r) (hb : 0 < b) : valW o = valW ws / b ∧ r = valW ws % b := by
  have := h.eq
  simp only [List.drop_zero] at this
  have hr := h.r1
  rw [this]
  exact ⟨by rw [Nat.mul_add_div hb, Nat.div_eq_of_lt hr, Nat.add_zero], by rw [Nat.mul_add_mod, Nat.mod_eq_of_lt hr]⟩
/-- words without a zero at the end -/
def nozW (l : List Nat) : Prop := ∀ h : l ≠ [], l.getLast h ≠ 0
theorem nozW_pos : ∀ {l : List Nat}, nozW l → l ≠ [] → 0 < valW l
  | [], _, h => absurd rfl h
  | [c], h, _ => by
    have h1 : c ≠ 0 := h (by simp)
    simp only [valW]; omega
  | c :: d :: l, h, _ => by
    have := nozW_pos (l := d :: l) (fun hn => by have := h (by simp); rwa [List.getLast_cons hn] at this) (by simp)
    rw [valW]; omega
end Go.Proofs.Ythnhijdfcmcnhaa
