/- TreeKnown: part 10. -/
import Derived.Test.YtdiciemlbhkilaaGreatDoorKnI
import Derived.Laws.IdiomCopy
import Derived.Laws.CopyRow
namespace Go.Proofs.YtdiciemlbhkilaaGreatDoor
open Go Go.Cx
set_option linter.unusedVariables false
set_option linter.unusedSimpArgs false
abbrev W32 : Nat := 4294967296
theorem valW_set : ∀ (l : List Nat) (j v : Nat), j < l.length → valW (l.set j v) + W32 ^ j * l.getD j 0 = valW l + W32 ^ j * v
  | [], _, _, h => by simp at h
  | x :: l, 0, v, _ => by simp [valW]; omega
  | x :: l, j + 1, v, h => by
    have ih := valW_set l j v (by simpa using h)
    simp only [List.set_cons_succ, valW, Nat.pow_succ]
    have e : (x :: l).getD (j + 1) 0 = l.getD j 0 := rfl
    rw [e, Nat.mul_comm (W32 ^ j) W32, Nat.mul_assoc, Nat.mul_assoc]
    generalize W32 ^ j * l.getD j 0 = A at ih ⊢
    generalize W32 ^ j * v = B at ih ⊢
    show x + 4294967296 * valW (l.set j v) + 4294967296 * A = x + 4294967296 * valW l + 4294967296 * B
    omega
theorem valW_take (l : List Nat) (i : Nat) (h : i < l.length) : valW (l.take (i + 1)) = valW (l.take i) + W32 ^ i * l.getD i 0 := by
  have : l.take (i + 1) = l.take i ++ [l.getD i 0] := by
    rw [List.take_add_one, List.getD_eq_getElem?_getD, List.getElem?_eq_getElem h]; rfl
  rw [this, valW_app, List.length_take, Nat.min_eq_left (Nat.le_of_lt h)]
  simp [valW]
theorem okW_set {l : List Nat} (h : okW l) (j v : Nat) (hv : v < W32) : okW (l.set j v) := fun x hx => by
  rcases List.mem_or_eq_of_mem_set hx with h1 | h1
  · exact h x h1
  · rw [h1]; exact hv
theorem okW_get {l : List Nat} (h : okW l) (j : Nat) : l.getD j 0 < W32 := by
  rw [List.getD_eq_getElem?_getD]
  cases hj : l[j]? with
  | none => decide
  | some x => exact h x (List.mem_of_getElem? hj)
theorem valW_zeros (k : Nat) : valW (List.replicate k 0) = 0 := by
  induction k with
  | zero => rfl
  | succ k ih => rw [List.replicate_succ, valW, ih]
theorem okW_zeros (k : Nat) : okW (List.replicate k 0) := fun x hx => by
  rw [List.eq_of_mem_replicate hx]; decide
theorem getD_set_ne (l : List Nat) {i j : Nat} (v : Nat) (h : i ≠ j) : (l.set i v).getD j 0 = l.getD j 0 := by
  rw [List.getD_eq_getElem?_getD, List.getElem?_set_ne h, ← List.getD_eq_getElem?_getD]
structure AddI (x y : List Nat) (i : Nat) (o : List Nat) (c : Nat) : Prop where
  len : o.length = x.length + 1
  ok : okW o
  hi : ∀ j, i ≤ j → o.getD j 0 = y.getD j 0
  c1 : c ≤ 1
  eq : valW (o.take i) + W32 ^ i * c = valW (x.take i) + valW (y.take i)
theorem valW_takeD (l : List Nat) (i : Nat) : valW (l.take (i + 1)) = valW (l.take i) + W32 ^ i * l.getD i 0 := by
  rcases Nat.lt_or_ge i l.length with h | h
  · exact valW_take l i h
  · rw [List.take_of_length_le (by omega), List.take_of_length_le h, List.getD_eq_getElem?_getD, List.getElem?_eq_none h]; simp
theorem AddI.start {x y : List Nat} (hx : okW x) (hy : okW y) (h : y.length ≤ x.length) : AddI x y 0 (y ++ List.replicate (x.length + 1 - y.length) 0) 0 := by
  refine ⟨by simp; omega, fun z hz => ?_, fun j _ => ?_, by omega, by simp [valW]⟩
  · rcases List.mem_append.1 hz with hz | hz
    · exact hy z hz
    · exact okW_zeros _ z hz
  · rcases Nat.lt_or_ge j y.length with h1 | h1
    · rw [List.getD_eq_getElem?_getD, List.getElem?_append_left h1, ← List.getD_eq_getElem?_getD]
    · rw [List.getD_eq_getElem?_getD, List.getElem?_append_right h1, List.getD_eq_getElem?_getD, List.getElem?_eq_none h1, List.getElem?_replicate]
      split <;> rfl
theorem AddI.step {x y o : List Nat} {i c : Nat} (h : AddI x y i o c) (hx : okW x) (hi : i < x.length) :
    AddI x y (i + 1) (o.set i ((c + (o.getD i 0 + x.getD i 0)) % W32)) ((c + (o.getD i 0 + x.getD i 0)) / W32) := by
  have b1 := okW_get h.ok i
  have b2 := okW_get hx i
  have hc := h.c1
  have hl : i < o.length := by rw [h.len]; omega
  refine ⟨by rw [List.length_set]; exact h.len, okW_set h.ok _ _ (Nat.mod_lt _ (by decide)), fun j hj => by rw [getD_set_ne _ _ (by omega)]; exact h.hi j (by omega), by unfold W32 at *; omega, ?_⟩
  have e1 : (o.set i ((c + (o.getD i 0 + x.getD i 0)) % W32)).take (i + 1) = o.take i ++ [(c + (o.getD i 0 + x.getD i 0)) % W32] := by
    rw [List.take_add_one, List.take_set_of_le (Nat.le_refl _), List.getElem?_set_self hl]; rfl
  rw [e1, valW_app, List.length_take, Nat.min_eq_left (Nat.le_of_lt hl), valW_takeD x, valW_takeD y, ← h.hi i (Nat.le_refl _)]
  have heq := h.eq
  generalize hs : c + (o.getD i 0 + x.getD i 0) = s
  have e2 : W32 ^ i * valW [s % W32] + W32 ^ (i + 1) * (s / W32) = W32 ^ i * c + (W32 ^ i * o.getD i 0 + W32 ^ i * x.getD i 0) := by
    rw [← Nat.mul_add, ← Nat.mul_add, hs, Nat.pow_succ, Nat.mul_assoc, ← Nat.mul_add]
    congr 1
    simp only [valW]
    exact (by rw [Nat.mul_zero, Nat.add_zero]; exact Nat.mod_add_div s W32)
  generalize W32 ^ i * valW [s % W32] = A at e2 ⊢
  generalize W32 ^ (i + 1) * (s / W32) = B at e2 ⊢
  generalize W32 ^ i * c = C at e2 heq
  generalize W32 ^ i * o.getD i 0 = D at e2 ⊢
  generalize W32 ^ i * x.getD i 0 = E at e2 ⊢
  omega
theorem AddI.fin {x y o : List Nat} {c : Nat} (h : AddI x y x.length o c) (hy : y.length ≤ x.length) : okW (o.set x.length c) ∧ valW (o.set x.length c) = valW x + valW y := by
  have hc := h.c1
  refine ⟨okW_set h.ok _ _ (by unfold W32; omega), ?_⟩
  have hl : x.length < o.length := by rw [h.len]; omega
  have e1 : o.set x.length c = o.take x.length ++ [c] := by
    have := List.take_append_drop (x.length + 1) (o.set x.length c)
    rw [List.drop_of_length_le (by rw [List.length_set, h.len]; omega), List.append_nil] at this
    rw [← this, List.take_add_one, List.take_set_of_le (Nat.le_refl _), List.getElem?_set_self hl]; rfl
  have := h.eq
  rw [List.take_of_length_le (Nat.le_refl x.length), List.take_of_length_le hy] at this
  rw [e1, valW_app, List.length_take, Nat.min_eq_left (Nat.le_of_lt hl), ← this]
  simp [valW]
structure MulI (x y : List Nat) (i k : Nat) (o : List Nat) (c : Nat) : Prop where
  len : o.length = x.length + y.length
  ok : okW o
  hi : ∀ j, i + y.length ≤ j → o.getD j 0 = 0
  c1 : c < W32
  eq : valW o + W32 ^ (i + k) * c = valW (x.take i) * valW y + W32 ^ i * (x.getD i 0 * valW (y.take k))
structure MulO (x y : List Nat) (i : Nat) (o : List Nat) : Prop where
  len : o.length = x.length + y.length
  ok : okW o
  hi : ∀ j, i + y.length ≤ j → o.getD j 0 = 0
  eq : valW o = valW (x.take i) * valW y
theorem MulO.start (x y : List Nat) : MulO x y 0 (List.replicate (x.length + y.length) 0) :=
  ⟨by simp, okW_zeros _, fun j _ => by rw [List.getD_eq_getElem?_getD, List.getElem?_replicate]; split <;> rfl, by rw [valW_zeros]; simp [valW]⟩
theorem MulO.inn {x y o : List Nat} {i : Nat} (h : MulO x y i o) : MulI x y i 0 o 0 :=
  ⟨h.len, h.ok, h.hi, by decide, by rw [h.eq]; simp [valW]⟩
theorem mul_fits {c a f y : Nat} (hc : c < W32) (ha : a < W32) (hf : f < W32) (hy : y < W32) : c + (a + f * y) < 18446744073709551616 := by
  have : f * y ≤ 4294967295 * 4294967295 := Nat.mul_le_mul (by unfold W32 at hf; omega) (by unfold W32 at hy; omega)
  unfold W32 at *
  omega
theorem MulI.step {x y o : List Nat} {i k c : Nat} (h : MulI x y i k o c) (hx : okW x) (hy : okW y) (hi : i < x.length) (hk : k < y.length) :
    MulI x y i (k + 1) (o.set (i + k) ((c + (o.getD (i + k) 0 + x.getD i 0 * y.getD k 0)) % W32)) ((c + (o.getD (i + k) 0 + x.getD i 0 * y.getD k 0)) / W32) := by
  have b1 := okW_get h.ok (i + k)
  have b2 := okW_get hx i
  have b3 := okW_get hy k
  have hl : i + k < o.length := by rw [h.len]; omega
  have hs2 := mul_fits h.c1 b1 b2 b3
  refine ⟨by rw [List.length_set]; exact h.len, okW_set h.ok _ _ (Nat.mod_lt _ (by decide)), fun j hj => by rw [getD_set_ne _ _ (by omega)]; exact h.hi j hj, by unfold W32 at *; omega, ?_⟩
  have heq := h.eq
  have hv := valW_set o (i + k) ((c + (o.getD (i + k) 0 + x.getD i 0 * y.getD k 0)) % W32) hl
  rw [valW_take y k hk, Nat.mul_add, Nat.mul_add]
  generalize hs : c + (o.getD (i + k) 0 + x.getD i 0 * y.getD k 0) = s at hv ⊢
  have e2 : W32 ^ (i + k) * (s % W32) + W32 ^ (i + (k + 1)) * (s / W32) = W32 ^ (i + k) * c + (W32 ^ (i + k) * o.getD (i + k) 0 + W32 ^ (i + k) * (x.getD i 0 * y.getD k 0)) := by
    rw [← Nat.mul_add, ← Nat.mul_add, hs, ← Nat.add_assoc, Nat.pow_succ, Nat.mul_assoc, ← Nat.mul_add]
    congr 1
    exact Nat.mod_add_div s W32
  have e3 : W32 ^ i * (x.getD i 0 * (W32 ^ k * y.getD k 0)) = W32 ^ (i + k) * (x.getD i 0 * y.getD k 0) := by
    rw [Nat.pow_add, Nat.mul_left_comm (x.getD i 0), Nat.mul_assoc]
  rw [e3]
  generalize W32 ^ (i + k) * (s % W32) = A at e2 hv
  generalize W32 ^ (i + (k + 1)) * (s / W32) = B at e2 ⊢
  generalize W32 ^ (i + k) * c = C at e2 heq
  generalize W32 ^ (i + k) * o.getD (i + k) 0 = D at e2 hv
  generalize W32 ^ (i + k) * (x.getD i 0 * y.getD k 0) = E at e2 ⊢
  generalize W32 ^ i * (x.getD i 0 * valW (y.take k)) = G at heq ⊢
  generalize valW (x.take i) * valW y = Z at heq ⊢
  omega
theorem MulI.out {x y o : List Nat} {i c : Nat} (h : MulI x y i y.length o c) (hi : i < x.length) : MulO x y (i + 1) (o.set (i + y.length) c) := by
  have hl : i + y.length < o.length := by rw [h.len]; omega
  refine ⟨by rw [List.length_set]; exact h.len, okW_set h.ok _ _ h.c1, fun j hj => by rw [getD_set_ne _ _ (by omega)]; exact h.hi j (by omega), ?_⟩
  have hv := valW_set o (i + y.length) c hl
  have heq := h.eq
  rw [h.hi _ (Nat.le_refl _), Nat.mul_zero, Nat.add_zero] at hv
  rw [List.take_of_length_le (Nat.le_refl y.length)] at heq
  rw [hv, heq, valW_take x i hi, Nat.add_mul, Nat.mul_assoc]
theorem MulO.fin {x y o : List Nat} (h : MulO x y x.length o) : valW o = valW x * valW y := by
  rw [h.eq, List.take_of_length_le (Nat.le_refl _)]
def decF : Nat → Nat → List UInt8
  | 0, _ => []
  | f + 1, v => if v = 0 then [] else UInt8.ofNat (48 + v % 10) :: decF f (v / 10)
def decN (v : Nat) : List UInt8 := decF v v
theorem decF_fuel : ∀ (f g v : Nat), v ≤ f → v ≤ g → decF f v = decF g v
  | 0, 0, _, _, _ => rfl
  | 0, g + 1, v, h, _ => by rw [decF, decF, if_pos (by omega)]
  | f + 1, 0, v, _, h => by rw [decF, decF, if_pos (by omega)]
  | f + 1, g + 1, v, h1, h2 => by
    rw [decF, decF]
    split
    · rfl
    · rw [decF_fuel f g _ (by omega) (by omega)]
theorem decN_0 : decN 0 = [] := rfl
theorem decN_pos {v : Nat} (h : 0 < v) : decN v = UInt8.ofNat (48 + v % 10) :: decN (v / 10) := by
  unfold decN
  obtain ⟨f, hf⟩ : ∃ f, v = f + 1 := ⟨v - 1, by omega⟩
  rw [hf, decF, if_neg (by omega), decF_fuel f ((f + 1) / 10) _ (by omega) (by omega)]
structure ShrI (ws : List Nat) (b i : Nat) (o : List Nat) (r : Nat) : Prop where
  len : o.length = ws.length
  ok : okW o
  lo : ∀ j, j < i → o.getD j 0 = ws.getD j 0
  r1 : r < b
  eq : valW (ws.drop i) = b * valW (o.drop i) + r
theorem valW_drop (l : List Nat) (i : Nat) (h : i < l.length) : valW (l.drop i) = l.getD i 0 + W32 * valW (l.drop (i + 1)) := by
  rw [List.drop_eq_getElem_cons h, valW, List.getD_eq_getElem?_getD, List.getElem?_eq_getElem h]; rfl
theorem ShrI.start {ws : List Nat} {b : Nat} (hb : 0 < b) (hw : okW ws) : ShrI ws b ws.length ws 0 :=
  ⟨rfl, hw, fun _ _ => rfl, hb, by simp [valW]⟩
theorem ShrI.step {ws o : List Nat} {b i r : Nat} (h : ShrI ws b (i + 1) o r) (hb : 0 < b) (hw : okW ws) (hi : i < ws.length) :
    ShrI ws b i (o.set i ((r * W32 + o.getD i 0) / b)) ((r * W32 + o.getD i 0) % b) ∧ (r * W32 + o.getD i 0) / b < W32 := by
  have b1 := okW_get h.ok i
  have hl : i < o.length := by rw [h.len]; omega
  have hr := h.r1
  have hq : (r * W32 + o.getD i 0) / b < W32 := by
    rw [Nat.div_lt_iff_lt_mul hb]
    have : (r + 1) * W32 ≤ b * W32 := Nat.mul_le_mul_right _ hr
    rw [Nat.add_mul] at this
    rw [Nat.mul_comm W32 b]
    omega
  refine ⟨⟨by rw [List.length_set]; exact h.len, okW_set h.ok _ _ hq, fun j hj => by rw [getD_set_ne _ _ (by omega)]; exact h.lo j (by omega), Nat.mod_lt _ hb, ?_⟩, hq⟩
  have e1 : (o.set i ((r * W32 + o.getD i 0) / b)).drop i = (r * W32 + o.getD i 0) / b :: o.drop (i + 1) := by
    rw [List.drop_eq_getElem_cons (by rw [List.length_set]; exact hl), List.getElem_set_self, List.drop_set_of_lt (by omega)]
  rw [e1, valW, valW_drop ws i hi, h.eq, ← h.lo i (by omega), Nat.mul_add, Nat.mul_add]
  have := Nat.div_add_mod (r * W32 + o.getD i 0) b
  have e2 : b * (4294967296 * valW (o.drop (i + 1))) = W32 * (b * valW (o.drop (i + 1))) := Nat.mul_left_comm _ _ _
  rw [e2]
  generalize W32 * (b * valW (o.drop (i + 1))) = A
  generalize b * ((r * W32 + o.getD i 0) / b) = B at this ⊢
  generalize (r * W32 + o.getD i 0) % b = C at this ⊢
  rw [Nat.mul_comm] at this
  omega
theorem ShrI.fin {ws o : List Nat} {b r : Nat} (h : ShrI ws b 0 o r) (hb : 0 < b) : valW o = valW ws / b ∧ r = valW ws % b := by
  have := h.eq
  simp only [List.drop_zero] at this
  have hr := h.r1
  rw [this]
  exact ⟨by rw [Nat.mul_add_div hb, Nat.div_eq_of_lt hr, Nat.add_zero], by rw [Nat.mul_add_mod, Nat.mod_eq_of_lt hr]⟩
end Go.Proofs.YtdiciemlbhkilaaGreatDoor
namespace Go.Proofs.YtdiciemlbhkilaaGreatDoor
open Go Go.Cx Go.RowKit
set_option linter.unusedVariables false
set_option linter.unusedSimpArgs false
set_option maxHeartbeats 4000000
attribute [local irreducible] J JC thenK blockK loopK roundK drawK retK QW Qt pel List.set Calls
set_option maxRecDepth 8000
attribute [local irreducible] JE Br eK0 eK3 brK
def encW (x : Nat) : List Value := [.int .u32 (x : Int)]
def natV (v : Nat) : Value := .agg ⟨[.string (S (bytesN v))]⟩
theorem wB (a : Nat) : IntKind.u8.wrap (a : Int) = ((UInt8.ofNat a).toNat : Int) := by
  rw [IntKind.wrap_u8]
  have : (UInt8.ofNat a).toNat = a % 256 := UInt8.toNat_ofNat'
  rw [this]; rfl
def upB (ws : List Nat) (i : Nat) : List UInt8 := (wbytes ws).take i ++ List.replicate (4 * ws.length - i) 0
theorem upB_len (ws : List Nat) {i : Nat} (h : i ≤ 4 * ws.length) : (upB ws i).length = 4 * ws.length := by
  unfold upB; rw [List.length_append, List.length_take, wbytes_len, List.length_replicate]; omega
theorem upB_set (ws : List Nat) {i : Nat} (h : i < 4 * ws.length) : (upB ws i).set i (UInt8.ofNat (ws.getD (i / 4) 0 / 2 ^ (8 * (i % 4)))) = upB ws (i + 1) := by
  have hb := wbytes_at ws i h
  have hm : UInt8.ofNat (ws.getD (i / 4) 0 / 2 ^ (8 * (i % 4)) % 256) = UInt8.ofNat (ws.getD (i / 4) 0 / 2 ^ (8 * (i % 4))) := by
    apply UInt8.toNat_inj.1
    rw [UInt8.toNat_ofNat', UInt8.toNat_ofNat']; omega
  rw [hm] at hb
  unfold upB
  rw [List.set_append_right _ _ (by rw [List.length_take, wbytes_len]; omega), List.length_take, wbytes_len, Nat.min_eq_left (Nat.le_of_lt h), Nat.sub_self]
  obtain ⟨k, hk⟩ : ∃ k, 4 * ws.length - i = k + 1 := ⟨4 * ws.length - i - 1, by omega⟩
  rw [hk, List.replicate_succ, List.set_cons_zero, List.take_add_one, hb, show 4 * ws.length - (i + 1) = k by omega, List.append_assoc]
  rfl
theorem upB_end (ws : List Nat) : upB ws (4 * ws.length) = wbytes ws := by
  unfold upB
  rw [Nat.sub_self, List.replicate_zero, List.append_nil, List.take_of_length_le (by rw [wbytes_len]; exact Nat.le_refl _)]
theorem trim_step {bs : List UInt8} {n : Nat} (hn : n < bs.length) (h : bs.getD n default = 0) : valB (bs.take (n + 1)) = valB (bs.take n) := by
  have e : bs.take (n + 1) = bs.take n ++ [bs.getD n default] := by
    rw [List.take_add_one, List.getD_eq_getElem?_getD, List.getElem?_eq_getElem hn]; rfl
  rw [e, h, valB_app]; simp [valB]
theorem trim_end {bs : List UInt8} {n v : Nat} (hn : n ≤ bs.length) (hv : valB (bs.take n) = v) (h : n = 0 ∨ bs.getD (n - 1) default ≠ 0) : bs.take n = bytesN v := by
  rw [← hv, bytesN_valB]
  intro hne
  rcases h with h | h
  · subst h; simp at hne
  · have hn0 : n ≠ 0 := fun e => by subst e; simp at hne
    rw [List.getLast_eq_getElem]
    rw [List.getD_eq_getElem?_getD, List.getElem?_eq_getElem (by omega)] at h
    simp only [List.length_take, Nat.min_eq_left hn, List.getElem_take]
    exact h
theorem eFrom : Entr Tryz.prog 134 := Entr.of Tryz.func134 rfl rfl
theorem eWords : Entr Tryz.prog 73 := Entr.of Tryz.func73 rfl rfl
theorem from_any (a : Option Addr) (c : Nat) (ws : List Nat) (h : Heap) (hs : SlT encW 1 a ws h) (hok : okW ws) (hl : ws.length ≤ 100000) (w : World) (hw : Holds h w) :
    Calls Tryz.prog 134 #[.slice a ws.length c] w fun e w' => e = .returned (natV (valW ws)) ∧ Below w.heap.size w w' := by
  have q0 : ∀ L, RdH h L h := fun L => RdH.old fun _ hh => hh
  refine calls_of_JC (R := h) Tryz.func134 Tryz.ntmps134 rfl rfl (hw) ?_
  repeat' first
    | (refine J.isJ ?_; first | (first | (refine J.o 7 ?_; refine J.al hΓ (fun b2 => ?_)) | (refine J.o 1 ?_; refine J.gmul (a := 4) ?_ (hw := wI64 (by omega))) | (refine J.o 9 ?_; refine J.make (enc := encB) (m := 4 * ws.length) (0 : UInt8) hΓ rfl rfl rfl rfl rfl rfl (fun _ => rfl) (by omega) (by omega) (fun b3 h3 o3 => ?_))) | (first | (refine J.o 0 ?_; refine J.ev' hΓ ?_) | refine J.nil ?_ | refine J.kd ?_ | (refine J.o 4 ?_; first | refine J.lT default hΓ ?_) | (refine J.o 3 ?_; first | refine J.iJ hΓ ?_ | refine J.ev' hΓ ?_) | (refine J.o 1 ?_; first | refine J.ad ?_) | (refine J.o 5 ?_; first | refine J.t1 hΓ ?_ | refine J.tT _ default hΓ (fun _ _ => ?_)) | (refine J.o 7 ?_; refine J.al hΓ (fun _ => ?_)) | (refine J.o 8 ?_; refine J.bd hΓ ?_) | (refine J.o 10 ?_; refine J.ev' hΓ ?_) | (refine J.o 11 ?_; refine J.ev' hΓ ?_)) | ((fail_if_success refine J.wt ?_); refine J.gc rfl rfl (fun hc => ?_) (fun hc => ?_) <;> ((try simp only [tcS] at hc) <;> first | (first | (exact absurd rfl hc) | (exfalso; omega) | (exact (tF hc (by assumption)).elim) | (exact (fT hc (by assumption)).elim)) | skip)))
    | (first | refine JC.seq ?_ | refine JC.region ?_ | refine JC.block ?_ | refine JC.ret ?_ | refine JC.exit ?_ | refine JC.skip ?_ | refine thenK.nn ?_ | refine thenK.x ?_ | refine blockK.nn ?_ | refine blockK.hit rfl ?_ | refine JC.condF rfl ?_ | (refine JC.cond rfl (fun hc => ?_) (fun hc => ?_) <;> ((try simp only [tcS] at hc) <;> first | (first | (exact absurd rfl hc) | (exfalso; omega) | (exact (tF hc (by assumption)).elim) | (exact (fT hc (by assumption)).elim)) | skip)) | refine loopK.x ?_)
    | (fail)
    | fail
  all_goals first | (exfalso; omega) | skip
  refine JC.loop (fun i => i == 4 || Nat.ble 12 i) (fun m g L' => ∃ i h', g 12 = .int .i64 ((i : Nat) : Int) ∧ i + m = 4 * ws.length ∧ OwT encB 1 5 (some ⟨b3, 0, none⟩) (4 * ws.length) (upB ws i) h' ∧ L' = [h', [(b2, Obj.cells ⟨[.string ByteArray.empty]⟩ 59 (0, 0))]]) (4 * ws.length) ⟨0, h3, rfl, by omega, o3, rfl⟩ ?_
  rintro m g L' ⟨i, h4, e12, hi, o4, rfl⟩
  refine JC.pin 12 e12 ?_
  rcases Nat.lt_or_ge i (4 * ws.length) with hlt | hge
  · have hu := upB_len ws (show i ≤ 4 * ws.length by omega)
    have hq : i / 4 < ws.length := by omega
    repeat' first
      | (refine J.isJ ?_; first | (first | (refine J.o 1 ?_; first | refine J.gquo (b := 4) ?_ (hw := wI64 (by omega)) | refine J.grem (b := 4) ?_ | refine J.gmul (a := 8) ?_ | refine J.gshr ?_) | (refine J.o 2 ?_; first | refine J.gcv hΓ ?_ (hk := wU64 (by omega)) | refine J.gcv hΓ ?_ (hk := wB _)) | (refine J.o 4 ?_; refine J.lT (0 : Nat) hΓ ?_ (hs := hs) (hr := q0 _)) | (refine J.o 5 ?_; refine J.tT (enc := encB) _ default hΓ (fun h5 o5 => ?_))) | (first | (refine J.o 0 ?_; refine J.ev' hΓ ?_) | refine J.nil ?_ | refine J.kd ?_ | (refine J.o 4 ?_; first | refine J.lT default hΓ ?_) | (refine J.o 3 ?_; first | refine J.iJ hΓ ?_ | refine J.ev' hΓ ?_) | (refine J.o 1 ?_; first | refine J.ad ?_) | (refine J.o 5 ?_; first | refine J.t1 hΓ ?_ | refine J.tT _ default hΓ (fun _ _ => ?_)) | (refine J.o 7 ?_; refine J.al hΓ (fun _ => ?_)) | (refine J.o 8 ?_; refine J.bd hΓ ?_) | (refine J.o 10 ?_; refine J.ev' hΓ ?_) | (refine J.o 11 ?_; refine J.ev' hΓ ?_)) | ((fail_if_success refine J.wt ?_); refine J.gc rfl rfl (fun hc => ?_) (fun hc => ?_) <;> ((try simp only [tcS] at hc) <;> first | (first | (exact absurd rfl hc) | (exfalso; omega) | (exact (tF hc (by assumption)).elim) | (exact (fT hc (by assumption)).elim)) | skip)))
      | (first | refine JC.seq ?_ | refine JC.region ?_ | refine JC.block ?_ | refine JC.ret ?_ | refine JC.exit ?_ | refine JC.skip ?_ | refine thenK.nn ?_ | refine thenK.x ?_ | refine blockK.nn ?_ | refine blockK.hit rfl ?_ | refine JC.condF rfl ?_ | (refine JC.cond rfl (fun hc => ?_) (fun hc => ?_) <;> ((try simp only [tcS] at hc) <;> first | (first | (exact absurd rfl hc) | (exfalso; omega) | (exact (tF hc (by assumption)).elim) | (exact (fT hc (by assumption)).elim)) | skip)) | refine loopK.x ?_)
      | (fail)
      | fail
    rw [upB_set ws hlt] at o5
    refine loopK.nn (m - 1) (by omega) (by repeat (first | refine Ag.upd rfl ?_ | exact Ag.hv)) ⟨i + 1, h5, ?_, by omega, o5, rfl⟩
    show Value.int .i64 _ = _; congr 1
  · obtain rfl : i = 4 * ws.length := by omega
    rw [upB_end] at o4
    have hbl := wbytes_len ws
    have hvb := valB_wbytes ws hok
    repeat' first
      | (refine J.isJ ?_; first | (fail) | (first | (refine J.o 0 ?_; refine J.ev' hΓ ?_) | refine J.nil ?_ | refine J.kd ?_ | (refine J.o 4 ?_; first | refine J.lT default hΓ ?_) | (refine J.o 3 ?_; first | refine J.iJ hΓ ?_ | refine J.ev' hΓ ?_) | (refine J.o 1 ?_; first | refine J.ad ?_) | (refine J.o 5 ?_; first | refine J.t1 hΓ ?_ | refine J.tT _ default hΓ (fun _ _ => ?_)) | (refine J.o 7 ?_; refine J.al hΓ (fun _ => ?_)) | (refine J.o 8 ?_; refine J.bd hΓ ?_) | (refine J.o 10 ?_; refine J.ev' hΓ ?_) | (refine J.o 11 ?_; refine J.ev' hΓ ?_)) | ((fail_if_success refine J.wt ?_); refine J.gc rfl rfl (fun hc => ?_) (fun hc => ?_) <;> ((try simp only [tcS] at hc) <;> first | (first | (exact absurd rfl hc) | (exfalso; omega) | (exact (tF hc (by assumption)).elim) | (exact (fT hc (by assumption)).elim)) | skip)))
      | (first | refine JC.seq ?_ | refine JC.region ?_ | refine JC.block ?_ | refine JC.ret ?_ | refine JC.exit ?_ | refine JC.skip ?_ | refine thenK.nn ?_ | refine thenK.x ?_ | refine blockK.nn ?_ | refine blockK.hit rfl ?_ | refine JC.condF rfl ?_ | (refine JC.cond rfl (fun hc => ?_) (fun hc => ?_) <;> ((try simp only [tcS] at hc) <;> first | (first | (exact absurd rfl hc) | (exfalso; omega) | (exact (tF hc (by assumption)).elim) | (exact (fT hc (by assumption)).elim)) | skip)) | refine loopK.x ?_)
      | (fail)
      | fail
    all_goals first | (exfalso; omega) | skip
    refine JC.loop (fun i => i == 5 || Nat.ble 32 i) (fun m g L' => g 5 = .int .i64 ((m : Nat) : Int) ∧ m ≤ 4 * ws.length ∧ valB ((wbytes ws).take m) = valW ws ∧ L' = [h4, [(b2, Obj.cells ⟨[.string ByteArray.empty]⟩ 59 (0, 0))]]) (4 * ws.length) ⟨rfl, Nat.le_refl _, by rw [List.take_of_length_le (by omega)]; exact hvb, rfl⟩ ?_
    rintro m2 g2 L' ⟨e5, hm2, hv, rfl⟩
    refine JC.pin 5 e5 ?_
    rcases Nat.eq_zero_or_pos m2 with h0 | hpos
    · subst h0
      have hfin := trim_end (by omega) hv (.inl rfl)
      repeat' first
        | (refine J.isJ ?_; first | (first | (refine J.o 13 ?_; refine J.slF (m := 0) hΓ ?_) | (refine J.o 2 ?_; refine Go.Cx.J.cvS (bs := (wbytes ws).take 0) hΓ ?_ (hs := (OwT.take o4 0).sl))) | (first | (refine J.o 0 ?_; refine J.ev' hΓ ?_) | refine J.nil ?_ | refine J.kd ?_ | (refine J.o 4 ?_; first | refine J.lT default hΓ ?_) | (refine J.o 3 ?_; first | refine J.iJ hΓ ?_ | refine J.ev' hΓ ?_) | (refine J.o 1 ?_; first | refine J.ad ?_) | (refine J.o 5 ?_; first | refine J.t1 hΓ ?_ | refine J.tT _ default hΓ (fun _ _ => ?_)) | (refine J.o 7 ?_; refine J.al hΓ (fun _ => ?_)) | (refine J.o 8 ?_; refine J.bd hΓ ?_) | (refine J.o 10 ?_; refine J.ev' hΓ ?_) | (refine J.o 11 ?_; refine J.ev' hΓ ?_)) | ((fail_if_success refine J.wt ?_); refine J.gc rfl rfl (fun hc => ?_) (fun hc => ?_) <;> ((try simp only [tcS] at hc) <;> first | (first | (exact absurd rfl hc) | (exfalso; omega) | (exact (tF hc (by assumption)).elim) | (exact (fT hc (by assumption)).elim)) | skip)))
        | (first | refine JC.seq ?_ | refine JC.region ?_ | refine JC.block ?_ | refine JC.ret ?_ | refine JC.exit ?_ | refine JC.skip ?_ | refine thenK.nn ?_ | refine thenK.x ?_ | refine blockK.nn ?_ | refine blockK.hit rfl ?_ | refine JC.condF rfl ?_ | (refine JC.cond rfl (fun hc => ?_) (fun hc => ?_) <;> ((try simp only [tcS] at hc) <;> first | (first | (exact absurd rfl hc) | (exfalso; omega) | (exact (tF hc (by assumption)).elim) | (exact (fT hc (by assumption)).elim)) | skip)) | refine loopK.x ?_)
        | (fail)
        | fail
      all_goals first | (exfalso; omega) | skip
      rw [hfin]
      exact retC hΓ rfl rfl rfl (by first | exact Rd.hd | exact Rd.hd.tl) rfl (fun w1 hw => ⟨rfl, hw.below⟩)
    · by_cases hz : (wbytes ws).getD (m2 - 1) default = 0
      · have hst := trim_step (bs := wbytes ws) (n := m2 - 1) (by omega) hz
        rw [show m2 - 1 + 1 = m2 by omega, hv] at hst
        have hz2 : (((wbytes ws).getD (m2 - 1) default).toNat : Int) = 0 := by rw [hz]; rfl
        repeat' first
          | (refine J.isJ ?_; first | (first | (refine J.o 1 ?_; refine J.gsub (b := 1) ?_)) | (first | (refine J.o 0 ?_; refine J.ev' hΓ ?_) | refine J.nil ?_ | refine J.kd ?_ | (refine J.o 4 ?_; first | refine J.lT default hΓ ?_) | (refine J.o 3 ?_; first | refine J.iJ hΓ ?_ | refine J.ev' hΓ ?_) | (refine J.o 1 ?_; first | refine J.ad ?_) | (refine J.o 5 ?_; first | refine J.t1 hΓ ?_ | refine J.tT _ default hΓ (fun _ _ => ?_)) | (refine J.o 7 ?_; refine J.al hΓ (fun _ => ?_)) | (refine J.o 8 ?_; refine J.bd hΓ ?_) | (refine J.o 10 ?_; refine J.ev' hΓ ?_) | (refine J.o 11 ?_; refine J.ev' hΓ ?_)) | ((fail_if_success refine J.wt ?_); refine J.gc rfl rfl (fun hc => ?_) (fun hc => ?_) <;> ((try simp only [tcS] at hc) <;> first | (first | (exact absurd rfl hc) | (exfalso; omega) | (exact (tF hc (by assumption)).elim) | (exact (fT hc (by assumption)).elim)) | skip)))
          | (first | refine JC.seq ?_ | refine JC.region ?_ | refine JC.block ?_ | refine JC.ret ?_ | refine JC.exit ?_ | refine JC.skip ?_ | refine thenK.nn ?_ | refine thenK.x ?_ | refine blockK.nn ?_ | refine blockK.hit rfl ?_ | refine JC.condF rfl ?_ | (refine JC.cond rfl (fun hc => ?_) (fun hc => ?_) <;> ((try simp only [tcS] at hc) <;> first | (first | (exact absurd rfl hc) | (exfalso; omega) | (exact (tF hc (by assumption)).elim) | (exact (fT hc (by assumption)).elim)) | skip)) | refine loopK.x ?_)
          | (fail)
          | fail
        all_goals first | (exfalso; omega) | skip
        refine loopK.nn (m2 - 1) (by omega) (by repeat (first | refine Ag.upd rfl ?_ | exact Ag.hv)) ⟨rfl, by omega, hst.symm, rfl⟩
      · have hfin := trim_end (by omega) hv (.inr hz)
        have hz2 : (((wbytes ws).getD (m2 - 1) default).toNat : Int) ≠ 0 := fun e => hz (by apply UInt8.toNat_inj.1; show _ = 0; omega)
        repeat' first
          | (refine J.isJ ?_; first | (first | (refine J.o 1 ?_; refine J.gsub (b := 1) ?_) | (refine J.o 13 ?_; refine J.slF (m := m2) hΓ ?_) | (refine J.o 2 ?_; refine Go.Cx.J.cvS (bs := (wbytes ws).take m2) hΓ ?_ (hs := (OwT.take o4 m2).sl) (hlen := by rw [List.length_take]; omega))) | (first | (refine J.o 0 ?_; refine J.ev' hΓ ?_) | refine J.nil ?_ | refine J.kd ?_ | (refine J.o 4 ?_; first | refine J.lT default hΓ ?_) | (refine J.o 3 ?_; first | refine J.iJ hΓ ?_ | refine J.ev' hΓ ?_) | (refine J.o 1 ?_; first | refine J.ad ?_) | (refine J.o 5 ?_; first | refine J.t1 hΓ ?_ | refine J.tT _ default hΓ (fun _ _ => ?_)) | (refine J.o 7 ?_; refine J.al hΓ (fun _ => ?_)) | (refine J.o 8 ?_; refine J.bd hΓ ?_) | (refine J.o 10 ?_; refine J.ev' hΓ ?_) | (refine J.o 11 ?_; refine J.ev' hΓ ?_)) | ((fail_if_success refine J.wt ?_); refine J.gc rfl rfl (fun hc => ?_) (fun hc => ?_) <;> ((try simp only [tcS] at hc) <;> first | (first | (exact absurd rfl hc) | (exfalso; omega) | (exact (tF hc (by assumption)).elim) | (exact (fT hc (by assumption)).elim)) | skip)))
          | (first | refine JC.seq ?_ | refine JC.region ?_ | refine JC.block ?_ | refine JC.ret ?_ | refine JC.exit ?_ | refine JC.skip ?_ | refine thenK.nn ?_ | refine thenK.x ?_ | refine blockK.nn ?_ | refine blockK.hit rfl ?_ | refine JC.condF rfl ?_ | (refine JC.cond rfl (fun hc => ?_) (fun hc => ?_) <;> ((try simp only [tcS] at hc) <;> first | (first | (exact absurd rfl hc) | (exfalso; omega) | (exact (tF hc (by assumption)).elim) | (exact (fT hc (by assumption)).elim)) | skip)) | refine loopK.x ?_)
          | (fail)
          | fail
        all_goals first | (exfalso; omega) | skip
        rw [hfin]
        exact retC hΓ rfl rfl rfl (by first | exact Rd.hd | exact Rd.hd.tl) rfl (fun w1 hw => ⟨rfl, hw.below⟩)
theorem words_any (v : Nat) (hl : (bytesN v).length ≤ 100000) (w : World) :
    Calls Tryz.prog 73 #[natV v] w (Gives (fun val g => ∃ a c, val = .slice a (wordsB (bytesN v)).length c ∧ OwT encW 1 124 a c (wordsB (bytesN v)) g) w) := by
  unfold natV
  generalize bytesN v = bs at hl ⊢
  have hwl := wordsB_len bs
  refine calls_of_JC (R := []) Tryz.func73 Tryz.ntmps73 rfl rfl (Holds.nil _) ?_
  repeat' first
    | (refine J.isJ ?_; first | (first | (refine J.o 6 ?_; refine J.bx (fun b1 => ?_)) | (refine J.o 10 ?_; refine J.ls hΓ ?_) | (refine J.o 1 ?_; first | refine J.gadd (b := 3) ?_ (hw := wI64 (by omega)) | refine J.gquo (b := 4) ?_ (hw := wI64 (by omega))) | (refine J.o 9 ?_; refine J.make (enc := encW) (m := (bs.length + 3) / 4) (0 : Nat) hΓ rfl rfl rfl rfl rfl rfl (fun _ => rfl) (by omega) (by omega) (fun b3 h3 o3 => ?_))) | (first | (refine J.o 0 ?_; refine J.ev' hΓ ?_) | refine J.nil ?_ | (refine J.o 4 ?_; first | refine J.lT default hΓ ?_ | refine J.lR hΓ ?_) | (refine J.o 3 ?_; first | refine J.iJ hΓ ?_ | refine J.ev' hΓ ?_) | (refine J.o 1 ?_; first | refine J.ad ?_) | (refine J.o 5 ?_; first | refine J.tT _ default hΓ (fun _ _ => ?_)) | (refine J.o 6 ?_; refine J.bx (fun _ => ?_)) | (refine J.o 10 ?_; refine J.ev' hΓ ?_) | (refine J.o 11 ?_; refine J.ev' hΓ ?_)))
    | (first | refine JC.seq ?_ | refine JC.region ?_ | refine JC.block ?_ | refine JC.ret ?_ | refine JC.exit ?_ | refine JC.skip ?_ | refine thenK.nn ?_ | refine thenK.x ?_ | refine blockK.nn ?_ | refine blockK.hit rfl ?_ | (refine JC.cond rfl (fun hc => ?_) (fun hc => ?_) <;> ((try simp only [tcS] at hc) <;> first | (first | (exact absurd rfl hc) | (exfalso; omega) | (exact (tF hc (by assumption)).elim) | (exact (fT hc (by assumption)).elim)) | skip)) | refine drawK.nn ?_ | refine loopK.x ?_)
    | (fail)
    | fail
  all_goals first | (exfalso; omega) | skip
  rw [← wUp_0] at o3
  refine JC.loop (fun i => i == 4 || Nat.ble 14 i) (fun m g L' => ∃ i h', g 14 = .int .i64 ((i : Nat) : Int) ∧ i + m = bs.length ∧ OwT encW 1 124 (some ⟨b3, 0, none⟩) ((bs.length + 3) / 4) (wUp bs i) h' ∧ L' = [h', [(b1, Obj.cells ⟨[.string (S bs)]⟩ 59 (0, 0))]]) bs.length ⟨0, h3, rfl, by omega, o3, rfl⟩ ?_
  rintro m g L' ⟨i, h4, e14, hi, o4, rfl⟩
  refine JC.pin 14 e14 ?_
  have hul := wUp_len bs i
  rcases Nat.lt_or_ge i bs.length with hlt | hge
  · have hq : i / 4 < (bs.length + 3) / 4 := by omega
    have hup := wUp_step bs i hlt
    have hget := wUp_get bs i (i / 4) hq
    have hc8 := u8_lt (bs.getD i 0)
    have hwl4 := wAt_lt bs i (i / 4)
    have hwl5 := wAt_lt bs (i + 1) (i / 4)
    have hp : (bs.getD i 0).toNat * 2 ^ (8 * (i % 4)) < 4294967296 := by
      have : 2 ^ (8 * (i % 4)) ≤ 2 ^ 24 := Nat.pow_le_pow_right (by omega) (by omega)
      have := Nat.mul_le_mul (Nat.le_of_lt_succ hc8) this
      omega
    have hor : (wUp bs i).getD (i / 4) 0 < 4294967296 := by rw [hget]; exact hwl4
    repeat' first
      | (refine J.isJ ?_; first | (first | (refine J.o 10 ?_; refine J.ls hΓ ?_) | (refine J.o 12 ?_; refine J.ix hΓ ?_) | (refine J.o 1 ?_; first | refine J.gquo (b := 4) ?_ (hw := wI64 (by omega)) | refine J.grem (b := 4) ?_ | refine J.gmul (a := 8) ?_ | refine J.gshl ?_ (hw := wU32 hp) | refine J.gor ?_) | (refine J.o 2 ?_; first | refine J.gcv hΓ ?_ (hk := wU64 (by omega)) | refine J.gcv hΓ ?_ (hk := wU32 (by omega))) | (refine J.o 4 ?_; refine J.lT (0 : Nat) hΓ ?_ (hs := o4.sl)) | (refine J.o 5 ?_; refine J.tT (enc := encW) _ default hΓ (fun h5 o5 => ?_))) | (first | (refine J.o 0 ?_; refine J.ev' hΓ ?_) | refine J.nil ?_ | (refine J.o 4 ?_; first | refine J.lT default hΓ ?_ | refine J.lR hΓ ?_) | (refine J.o 3 ?_; first | refine J.iJ hΓ ?_ | refine J.ev' hΓ ?_) | (refine J.o 1 ?_; first | refine J.ad ?_) | (refine J.o 5 ?_; first | refine J.tT _ default hΓ (fun _ _ => ?_)) | (refine J.o 6 ?_; refine J.bx (fun _ => ?_)) | (refine J.o 10 ?_; refine J.ev' hΓ ?_) | (refine J.o 11 ?_; refine J.ev' hΓ ?_)))
      | (first | refine JC.seq ?_ | refine JC.region ?_ | refine JC.block ?_ | refine JC.ret ?_ | refine JC.exit ?_ | refine JC.skip ?_ | refine thenK.nn ?_ | refine thenK.x ?_ | refine blockK.nn ?_ | refine blockK.hit rfl ?_ | (refine JC.cond rfl (fun hc => ?_) (fun hc => ?_) <;> ((try simp only [tcS] at hc) <;> first | (first | (exact absurd rfl hc) | (exfalso; omega) | (exact (tF hc (by assumption)).elim) | (exact (fT hc (by assumption)).elim)) | skip)) | refine drawK.nn ?_ | refine loopK.x ?_)
      | ((refine JC.drawO [(0,0),(0,1),(0,2),(0,3),(1,4),(0,5),(1,6),(0,7),(0,8),(0,9),(0,10),(0,11),(0,12),(0,13),(0,14),(0,15),(0,16),(2,17)] (by decide +kernel) (by decide +kernel) ?_))
      | fail
    all_goals first | (exfalso; omega) | skip
    rw [hget, ← hup] at o5
    refine loopK.nn (m - 1) (by omega) (by repeat (first | refine Ag.upd rfl ?_ | exact Ag.hv)) ⟨i + 1, h5, ?_, by omega, o5, rfl⟩
    show Value.int .i64 _ = _; congr 1
  · obtain rfl : i = bs.length := by omega
    rw [wUp_end] at o4
    rw [hwl]
    repeat' first
      | (refine J.isJ ?_; first | (fail) | (first | (refine J.o 0 ?_; refine J.ev' hΓ ?_) | refine J.nil ?_ | (refine J.o 4 ?_; first | refine J.lT default hΓ ?_ | refine J.lR hΓ ?_) | (refine J.o 3 ?_; first | refine J.iJ hΓ ?_ | refine J.ev' hΓ ?_) | (refine J.o 1 ?_; first | refine J.ad ?_) | (refine J.o 5 ?_; first | refine J.tT _ default hΓ (fun _ _ => ?_)) | (refine J.o 6 ?_; refine J.bx (fun _ => ?_)) | (refine J.o 10 ?_; refine J.ev' hΓ ?_) | (refine J.o 11 ?_; refine J.ev' hΓ ?_)))
      | (first | refine JC.seq ?_ | refine JC.region ?_ | refine JC.block ?_ | refine JC.ret ?_ | refine JC.exit ?_ | refine JC.skip ?_ | refine thenK.nn ?_ | refine thenK.x ?_ | refine blockK.nn ?_ | refine blockK.hit rfl ?_ | (refine JC.cond rfl (fun hc => ?_) (fun hc => ?_) <;> ((try simp only [tcS] at hc) <;> first | (first | (exact absurd rfl hc) | (exfalso; omega) | (exact (tF hc (by assumption)).elim) | (exact (fT hc (by assumption)).elim)) | skip)) | refine drawK.nn ?_ | refine loopK.x ?_)
      | (fail)
      | fail
    all_goals first | (exfalso; omega) | skip
    exact ret1f rfl rfl rfl (fun w1 hw => Gives.of (hw.perm br1).drop ⟨_, _, rfl, o4⟩)
end Go.Proofs.YtdiciemlbhkilaaGreatDoor
namespace Go.Proofs.YtdiciemlbhkilaaGreatDoor
open Go Go.Cx Go.RowKit
set_option linter.unusedVariables false
set_option linter.unusedSimpArgs false
set_option maxHeartbeats 4000000
attribute [local irreducible] J JC thenK blockK loopK roundK drawK retK QW Qt pel List.set Calls
set_option maxRecDepth 8000
attribute [local irreducible] JE Br eK0 eK3 brK
theorem flatW (l : List Nat) : (l.flatMap encW).length = l.length := by
  induction l with
  | nil => rfl
  | cons x l ih => rw [List.flatMap_cons, List.length_append, ih, List.length_cons]; show 1 + _ = _; omega
theorem slW (b : Nat) (l : List Nat) (t : TypeId) : SlT encW 1 (some ⟨b, 0, none⟩) l [(b, .cells ⟨l.flatMap encW⟩ t (0, 0))] :=
  OwT.sl (e := t) (cap := l.length) ⟨fun _ => rfl, .inr ⟨b, _, rfl, rfl, by rw [flatW, Nat.mul_one], Nat.le_refl _, by rw [Nat.mul_one, List.take_of_length_le (by rw [flatW]; exact Nat.le_refl _)]⟩⟩
theorem from_len (a : Option Addr) (c : Nat) (ws : List Nat) (h : Heap) (hs : SlT encW 1 a ws h) (hok : okW ws) {m : Nat} (hm : ws.length = m) (hl : m ≤ 100000) {v : Nat} (hv : valW ws = v) (w : World) (hw : Holds h w) :
    Calls Tryz.prog 134 #[.slice a m c] w fun e w' => e = .returned (natV v) ∧ Below w.heap.size w w' := by
  subst hm hv
  exact from_any a c ws h hs hok hl w hw
def ofW (v : Nat) : List Nat := [v % 4294967296, v / 2 ^ 32 % 4294967296]
theorem eOfN : Entr Tryz.prog 107 := Entr.of Tryz.func107 rfl rfl
theorem ePow2 : Entr Tryz.prog 130 := Entr.of Tryz.func130 rfl rfl
theorem eMul : Entr Tryz.prog 111 := Entr.of Tryz.func111 rfl rfl
theorem ofN_any (v : Nat) (hv : v < 18446744073709551616) (w : World) : Calls Tryz.prog 107 #[.int .u64 (v : Int)] w fun e w' => e = .returned (natV v) ∧ Below w.heap.size w w' := by
  have hval : valW [v % 4294967296, v / 2 ^ 32 % 4294967296] = v := by simp only [valW]; omega
  have hok : okW [v % 4294967296, v / 2 ^ 32 % 4294967296] := fun x hx => by
    simp only [List.mem_cons, List.not_mem_nil, or_false] at hx
    rcases hx with rfl | rfl <;> omega
  refine calls_of_JC (R := []) Tryz.func107 Tryz.ntmps107 rfl rfl (Holds.nil _) ?_
  repeat' first
    | (refine J.isJ ?_; first | (first | (refine J.o 7 ?_; refine J.al hΓ (fun b2 => ?_)) | (refine J.o 2 ?_; refine J.gcv hΓ ?_ (hk := wT32 _)) | (refine J.o 1 ?_; refine J.gshr (j := 32) ?_) | (refine J.o 9 ?_; refine J.bl hΓ (fun b8 => ?_)) | (refine J.fc 134 ?_; refine J.call0 eFrom rfl rfl (fun w hw => from_any (some ⟨b8, 0, none⟩) 2 (ofW v) _ (slW b8 _ 124) hok (by show 2 ≤ 100000; omega) w (hw.rdH RdH.hd)) ?_)) | (first | (refine J.o 0 ?_; refine J.ev' hΓ ?_) | refine J.nil ?_ | (refine J.o 3 ?_; first | refine J.ev' hΓ ?_) | (refine J.o 5 ?_; first | refine J.t1 hΓ ?_) | (refine J.o 7 ?_; refine J.al hΓ (fun _ => ?_)) | (refine J.o 9 ?_; refine J.bl hΓ (fun _ => ?_)) | (refine J.o 10 ?_; refine J.ev' hΓ ?_) | (refine J.o 11 ?_; refine J.ev' hΓ ?_)))
    | (first | refine JC.seq ?_ | refine JC.region ?_ | refine JC.ret ?_ | refine thenK.nn ?_)
    | (fail)
    | fail
  all_goals first | (exfalso; omega) | skip
  exact retC hΓ rfl rfl rfl (by first | exact Rd.hd | exact Rd.hd.tl) rfl (fun w1 hw => ⟨by rw [show valW (ofW v) = v from hval]; rfl, hw.below⟩)
theorem pow2_any (k : Nat) (hk : k ≤ 4096) (w : World) : Calls Tryz.prog 130 #[.int .i64 (k : Int)] w fun e w' => e = .returned (natV (2 ^ k)) ∧ Below w.heap.size w w' := by
  have hp : 2 ^ (k % 32) < 4294967296 := by
    have : 2 ^ (k % 32) ≤ 2 ^ 31 := Nat.pow_le_pow_right (by omega) (by omega)
    omega
  have hl : (List.replicate (k / 32 + 1) 0).length = k / 32 + 1 := List.length_replicate
  have hok : okW ((List.replicate (k / 32 + 1) 0).set (k / 32) (1 * 2 ^ (k % 32))) := okW_set (okW_zeros _) _ _ (by rw [Nat.one_mul]; exact hp)
  have hval : valW ((List.replicate (k / 32 + 1) 0).set (k / 32) (1 * 2 ^ (k % 32))) = 2 ^ k := by
    have h1 := valW_set (List.replicate (k / 32 + 1) 0) (k / 32) (1 * 2 ^ (k % 32)) (by rw [hl]; omega)
    have h2 : (List.replicate (k / 32 + 1) 0).getD (k / 32) 0 = 0 := by rw [List.getD_eq_getElem?_getD, List.getElem?_replicate]; split <;> rfl
    rw [h2, valW_zeros, Nat.mul_zero, Nat.zero_add, Nat.add_zero, Nat.one_mul] at h1
    rw [Nat.one_mul, h1, show W32 = 2 ^ 32 from rfl, ← Nat.pow_mul, ← Nat.pow_add, Nat.div_add_mod]
  have hls : ((List.replicate (k / 32 + 1) 0).set (k / 32) (1 * 2 ^ (k % 32))).length = k / 32 + 1 := by rw [List.length_set, hl]
  refine calls_of_JC (R := []) Tryz.func130 Tryz.ntmps130 rfl rfl (Holds.nil _) ?_
  repeat' first
    | (refine J.isJ ?_; first | (first | (refine J.o 7 ?_; refine J.al hΓ (fun b2 => ?_)) | (refine J.o 2 ?_; refine J.gcv hΓ ?_ (hk := wU64 (by omega))) | (refine J.o 1 ?_; first | refine J.gquo (b := 32) ?_ (hw := wI64 (by omega)) | refine J.grem (b := 32) ?_ | refine J.gadd (b := 1) ?_ (hw := wI64 (by omega)) | refine J.gshl (a := 1) ?_ (hw := wU32 (by rw [Nat.one_mul]; exact hp))) | (refine J.o 9 ?_; refine J.make (enc := encW) (m := k / 32 + 1) (0 : Nat) hΓ rfl rfl rfl rfl rfl rfl (fun _ => rfl) (by omega) (by omega) (fun b3 h3 o3 => ?_)) | (refine J.o 5 ?_; refine J.tT (enc := encW) _ default hΓ (fun h5 o5 => ?_)) | (refine J.fc 134 ?_; refine J.call0 eFrom rfl rfl (fun w hw => from_len _ _ _ _ o5.sl hok hls (by omega) hval w (hw.rdH RdH.hd)) ?_)) | (first | (refine J.o 0 ?_; refine J.ev' hΓ ?_) | refine J.nil ?_ | (refine J.o 3 ?_; first | refine J.iJ hΓ ?_ | refine J.ev' hΓ ?_) | (refine J.o 5 ?_; first | refine J.t1 hΓ ?_ | refine J.tT _ default hΓ (fun _ _ => ?_)) | (refine J.o 7 ?_; refine J.al hΓ (fun _ => ?_)) | (refine J.o 10 ?_; refine J.ev' hΓ ?_) | (refine J.o 11 ?_; refine J.ev' hΓ ?_)))
    | (first | refine JC.seq ?_ | refine JC.region ?_ | refine JC.ret ?_ | refine JC.skip ?_ | refine thenK.nn ?_ | (refine JC.cond rfl (fun hc => ?_) (fun hc => ?_) <;> ((try simp only [tcS] at hc) <;> first | (first | (exact absurd rfl hc) | (exfalso; omega) | (exact (tF hc (by assumption)).elim) | (exact (fT hc (by assumption)).elim)) | skip)))
    | (fail)
    | fail
  all_goals first | (exfalso; omega) | skip
  exact retC hΓ rfl rfl rfl (by first | exact Rd.hd | exact Rd.hd.tl) rfl (fun w1 hw => ⟨rfl, hw.below⟩)
theorem mul_any (a b : Nat) (ha : (bytesN a).length ≤ 1000) (hb : (bytesN b).length ≤ 1000) (w : World) : Calls Tryz.prog 111 #[natV a, natV b] w fun e w' => e = .returned (natV (a * b)) ∧ Below w.heap.size w w' := by
  have lx := wordsB_len (bytesN a)
  have ly := wordsB_len (bytesN b)
  have kx := okW_wordsB (bytesN a)
  have ky := okW_wordsB (bytesN b)
  have vx := valW_wordsB (bytesN a)
  have vy := valW_wordsB (bytesN b)
  rw [valB_bytesN] at vx vy
  have cX := fun w => words_any a (by omega) w
  have cY := fun w => words_any b (by omega) w
  generalize wordsB (bytesN a) = x at lx kx vx cX
  generalize wordsB (bytesN b) = y at ly ky vy cY
  refine calls_of_JC (R := []) Tryz.func111 Tryz.ntmps111 rfl rfl (Holds.nil _) ?_
  unfold natV
  repeat' first
    | (refine J.isJ ?_; first | (first | (refine J.o 6 ?_; first | refine J.bx (fun b2 => ?_)) | (refine J.o 7 ?_; refine J.al hΓ (fun b4 => ?_))) | (first | (refine J.o 0 ?_; refine J.ev' hΓ ?_) | refine J.nil ?_ | (refine J.o 4 ?_; first | refine J.lT default hΓ ?_ | refine J.lR hΓ ?_) | (refine J.o 3 ?_; first | refine J.iJ hΓ ?_ | refine J.ev' hΓ ?_) | (refine J.o 1 ?_; first | refine J.ad ?_) | (refine J.o 5 ?_; first | refine J.t0 hΓ ?_ | refine J.tT _ default hΓ (fun _ _ => ?_)) | (refine J.o 6 ?_; refine J.bx (fun _ => ?_)) | (refine J.o 7 ?_; refine J.al hΓ (fun _ => ?_)) | (refine J.o 10 ?_; refine J.ev' hΓ ?_) | (refine J.o 11 ?_; refine J.ev' hΓ ?_)))
    | (first | refine JC.seq ?_ | refine JC.region ?_ | refine JC.block ?_ | refine JC.ret ?_ | refine JC.exit ?_ | refine JC.skip ?_ | refine thenK.nn ?_ | refine thenK.x ?_ | refine blockK.nn ?_ | refine blockK.hit rfl ?_ | (refine JC.cond rfl (fun hc => ?_) (fun hc => ?_) <;> ((try simp only [tcS] at hc) <;> first | (first | (exact absurd rfl hc) | (exfalso; omega) | (exact (tF hc (by assumption)).elim) | (exact (fT hc (by assumption)).elim)) | skip)) | refine drawK.nn ?_ | refine loopK.x ?_)
    | (fail)
    | fail
  rename_i b3
  refine JC.drawO [(1,0),(1,2),(3,1),(3,3),(0,4),(0,5)] (by kernel_rfl) (by kernel_rfl) ?_
  repeat' first
    | (refine J.isJ ?_; first | (first | (refine J.o 4 ?_; first | refine J.lR hΓ ?_ (hr := Rd.hd.tl.tl) | refine J.lR hΓ ?_ (hr := Rd.hd.tl)) | (refine J.fc 73 ?_; refine J.call1 eWords rfl rfl (fun w hw => cX w) ?_; rintro _ hgx ⟨ax, cx, rfl, ox⟩) | (refine J.fc 73 ?_; refine J.call1 eWords rfl rfl (fun w hw => cY w) ?_; rintro _ hgy ⟨ay, cy, rfl, oy⟩) | (refine J.o 1 ?_; refine J.gadd ?_ (hw := wI64 (by omega))) | (refine J.o 9 ?_; refine J.make (enc := encW) (m := x.length + y.length) (0 : Nat) hΓ rfl rfl rfl rfl rfl rfl (fun _ => rfl) (by omega) (by omega) (fun b7 h7 o7 => ?_))) | (first | (refine J.o 0 ?_; refine J.ev' hΓ ?_) | refine J.nil ?_ | (refine J.o 4 ?_; first | refine J.lT default hΓ ?_ | refine J.lR hΓ ?_) | (refine J.o 3 ?_; first | refine J.iJ hΓ ?_ | refine J.ev' hΓ ?_) | (refine J.o 1 ?_; first | refine J.ad ?_) | (refine J.o 5 ?_; first | refine J.t0 hΓ ?_ | refine J.tT _ default hΓ (fun _ _ => ?_)) | (refine J.o 6 ?_; refine J.bx (fun _ => ?_)) | (refine J.o 7 ?_; refine J.al hΓ (fun _ => ?_)) | (refine J.o 10 ?_; refine J.ev' hΓ ?_) | (refine J.o 11 ?_; refine J.ev' hΓ ?_)))
    | (first | refine JC.seq ?_ | refine JC.region ?_ | refine JC.block ?_ | refine JC.ret ?_ | refine JC.exit ?_ | refine JC.skip ?_ | refine thenK.nn ?_ | refine thenK.x ?_ | refine blockK.nn ?_ | refine blockK.hit rfl ?_ | (refine JC.cond rfl (fun hc => ?_) (fun hc => ?_) <;> ((try simp only [tcS] at hc) <;> first | (first | (exact absurd rfl hc) | (exfalso; omega) | (exact (tF hc (by assumption)).elim) | (exact (fT hc (by assumption)).elim)) | skip)) | refine drawK.nn ?_ | refine loopK.x ?_)
    | (fail)
    | fail
  all_goals first | (exfalso; omega) | skip
  refine JC.loop (fun i => (Nat.ble 8 i && Nat.ble i 11) || Nat.ble 24 i) (fun m g L' => ∃ i o h', g 24 = .int .i64 ((i : Nat) : Int) ∧ i + m = x.length ∧ MulO x y i o ∧ OwT encW 1 124 (some ⟨b7, 0, none⟩) (x.length + y.length) o h' ∧ L' = [h', hgy, hgx, [(b4, Obj.cells ⟨[.string ByteArray.empty]⟩ 59 (0, 0))], [(b2, Obj.cells ⟨[.string (S (bytesN b))]⟩ 59 (0, 0))], [(b3, Obj.cells ⟨[.string (S (bytesN a))]⟩ 59 (0, 0))]]) x.length ⟨0, _, h7, rfl, by omega, MulO.start x y, o7, rfl⟩ ?_
  rintro m1 g1 L' ⟨i, o, h4, e24, hi, mo, o4, rfl⟩
  refine JC.pin 24 e24 ?_
  have lo := mo.len
  rcases Nat.lt_or_ge i x.length with hlt | hge
  ·
    repeat' first
      | (refine J.isJ ?_; first | (first | (refine J.o 4 ?_; first | refine J.lT (0 : Nat) hΓ ?_ (hs := ox.sl) (hr := RdH.hd.tl.tl))) | (first | (refine J.o 0 ?_; refine J.ev' hΓ ?_) | refine J.nil ?_ | (refine J.o 4 ?_; first | refine J.lT default hΓ ?_ | refine J.lR hΓ ?_) | (refine J.o 3 ?_; first | refine J.iJ hΓ ?_ | refine J.ev' hΓ ?_) | (refine J.o 1 ?_; first | refine J.ad ?_) | (refine J.o 5 ?_; first | refine J.t0 hΓ ?_ | refine J.tT _ default hΓ (fun _ _ => ?_)) | (refine J.o 6 ?_; refine J.bx (fun _ => ?_)) | (refine J.o 7 ?_; refine J.al hΓ (fun _ => ?_)) | (refine J.o 10 ?_; refine J.ev' hΓ ?_) | (refine J.o 11 ?_; refine J.ev' hΓ ?_)))
      | (first | refine JC.seq ?_ | refine JC.region ?_ | refine JC.block ?_ | refine JC.ret ?_ | refine JC.exit ?_ | refine JC.skip ?_ | refine thenK.nn ?_ | refine thenK.x ?_ | refine blockK.nn ?_ | refine blockK.hit rfl ?_ | (refine JC.cond rfl (fun hc => ?_) (fun hc => ?_) <;> ((try simp only [tcS] at hc) <;> first | (first | (exact absurd rfl hc) | (exfalso; omega) | (exact (tF hc (by assumption)).elim) | (exact (fT hc (by assumption)).elim)) | skip)) | refine drawK.nn ?_ | refine loopK.x ?_)
      | (fail)
      | fail
    all_goals first | (exfalso; omega) | skip
    refine JC.loop (fun i => i == 10 || i == 11 || Nat.ble 31 i) (fun m g L' => ∃ k c o h', g 31 = .int .i64 ((k : Nat) : Int) ∧ k + m = y.length ∧ g 10 = .int .u64 ((c : Nat) : Int) ∧ MulI x y i k o c ∧ OwT encW 1 124 (some ⟨b7, 0, none⟩) (x.length + y.length) o h' ∧ L' = [h', hgy, hgx, [(b4, Obj.cells ⟨[.string ByteArray.empty]⟩ 59 (0, 0))], [(b2, Obj.cells ⟨[.string (S (bytesN b))]⟩ 59 (0, 0))], [(b3, Obj.cells ⟨[.string (S (bytesN a))]⟩ 59 (0, 0))]]) y.length ⟨0, 0, o, h4, rfl, by omega, rfl, mo.inn, o4, rfl⟩ ?_
    rintro m2 g2 L' ⟨k, c, o2, h6, e31, hk, e10, mi, o6, rfl⟩
    refine JC.pin 31 e31 ?_
    refine JC.pin 10 e10 ?_
    have lo2 := mi.len
    have c1 := mi.c1
    rcases Nat.lt_or_ge k y.length with hlt2 | hge2
    · have hik : i + k < o2.length := by omega
      have b1 : o2.getD (i + k) 0 < 4294967296 := okW_get mi.ok (i + k)
      have b2' : x.getD i 0 < 4294967296 := okW_get kx i
      have b3' : y.getD k 0 < 4294967296 := okW_get ky k
      have hfit := mul_fits c1 b1 b2' b3'
      have hstep := mi.step kx ky hlt hlt2
      repeat' first
        | (refine J.isJ ?_; first | (first | (refine J.o 4 ?_; first | refine J.lT (0 : Nat) hΓ ?_ (hs := oy.sl) (hr := RdH.hd.tl) | refine J.lT (0 : Nat) hΓ ?_ (hs := o6.sl) (hr := RdH.hd)) | (refine J.o 1 ?_; first | refine J.gadd ?_ (hw := wI64 (by omega)) | refine J.gadd ?_ (hw := wU64 (by omega)) | refine J.gmul ?_ (hw := wU64 (by omega)) | refine J.gshr (j := 32) ?_) | (refine J.o 2 ?_; first | refine J.gcv hΓ ?_ (hk := wU64 (by omega)) | refine J.gcv hΓ ?_ (hk := wT32 _)) | (refine J.o 5 ?_; refine J.tT (enc := encW) _ default hΓ (fun h5 o5 => ?_))) | (first | (refine J.o 0 ?_; refine J.ev' hΓ ?_) | refine J.nil ?_ | (refine J.o 4 ?_; first | refine J.lT default hΓ ?_ | refine J.lR hΓ ?_) | (refine J.o 3 ?_; first | refine J.iJ hΓ ?_ | refine J.ev' hΓ ?_) | (refine J.o 1 ?_; first | refine J.ad ?_) | (refine J.o 5 ?_; first | refine J.t0 hΓ ?_ | refine J.tT _ default hΓ (fun _ _ => ?_)) | (refine J.o 6 ?_; refine J.bx (fun _ => ?_)) | (refine J.o 7 ?_; refine J.al hΓ (fun _ => ?_)) | (refine J.o 10 ?_; refine J.ev' hΓ ?_) | (refine J.o 11 ?_; refine J.ev' hΓ ?_)))
        | (first | refine JC.seq ?_ | refine JC.region ?_ | refine JC.block ?_ | refine JC.ret ?_ | refine JC.exit ?_ | refine JC.skip ?_ | refine thenK.nn ?_ | refine thenK.x ?_ | refine blockK.nn ?_ | refine blockK.hit rfl ?_ | (refine JC.cond rfl (fun hc => ?_) (fun hc => ?_) <;> ((try simp only [tcS] at hc) <;> first | (first | (exact absurd rfl hc) | (exfalso; omega) | (exact (tF hc (by assumption)).elim) | (exact (fT hc (by assumption)).elim)) | skip)) | refine drawK.nn ?_ | refine loopK.x ?_)
        | ((refine JC.drawO [(0,0),(0,1),(0,2),(0,3),(0,4),(0,5),(1,6),(0,7),(0,8),(0,9),(0,10),(0,11),(0,12),(1,13),(0,14),(0,15),(0,16),(0,17),(0,18)] (by decide +kernel) (by decide +kernel) ?_))
        | fail
      all_goals first | (exfalso; omega) | skip
      refine loopK.nn (m2 - 1) (by omega) (by repeat (first | refine Ag.upd rfl ?_ | exact Ag.hv)) ⟨k + 1, _, _, h5, ?_, by omega, rfl, hstep, o5, rfl⟩
      show Value.int .i64 _ = _; congr 1
    · obtain rfl : k = y.length := by omega
      have hout := mi.out hlt
      have hik : i + y.length < o2.length := by omega
      repeat' first
        | (refine J.isJ ?_; first | (first | (refine J.o 1 ?_; first | refine J.gadd ?_ (hw := wI64 (by omega))) | (refine J.o 2 ?_; first | refine J.gcv hΓ ?_ (hk := wU32 c1)) | (refine J.o 5 ?_; refine J.tT (enc := encW) _ default hΓ (fun h5 o5 => ?_))) | (first | (refine J.o 0 ?_; refine J.ev' hΓ ?_) | refine J.nil ?_ | (refine J.o 4 ?_; first | refine J.lT default hΓ ?_ | refine J.lR hΓ ?_) | (refine J.o 3 ?_; first | refine J.iJ hΓ ?_ | refine J.ev' hΓ ?_) | (refine J.o 1 ?_; first | refine J.ad ?_) | (refine J.o 5 ?_; first | refine J.t0 hΓ ?_ | refine J.tT _ default hΓ (fun _ _ => ?_)) | (refine J.o 6 ?_; refine J.bx (fun _ => ?_)) | (refine J.o 7 ?_; refine J.al hΓ (fun _ => ?_)) | (refine J.o 10 ?_; refine J.ev' hΓ ?_) | (refine J.o 11 ?_; refine J.ev' hΓ ?_)))
        | (first | refine JC.seq ?_ | refine JC.region ?_ | refine JC.block ?_ | refine JC.ret ?_ | refine JC.exit ?_ | refine JC.skip ?_ | refine thenK.nn ?_ | refine thenK.x ?_ | refine blockK.nn ?_ | refine blockK.hit rfl ?_ | (refine JC.cond rfl (fun hc => ?_) (fun hc => ?_) <;> ((try simp only [tcS] at hc) <;> first | (first | (exact absurd rfl hc) | (exfalso; omega) | (exact (tF hc (by assumption)).elim) | (exact (fT hc (by assumption)).elim)) | skip)) | refine drawK.nn ?_ | refine loopK.x ?_)
        | (fail)
        | fail
      all_goals first | (exfalso; omega) | skip
      refine loopK.nn (m1 - 1) (by omega) (by repeat (first | refine Ag.upd rfl ?_ | exact Ag.hv | refine Ag.hv2 (fun i hi => by simp at hi ⊢; omega) ?_)) ⟨i + 1, _, h5, ?_, by omega, hout, o5, rfl⟩
      show Value.int .i64 _ = _; congr 1
  · obtain rfl : i = x.length := by omega
    have hval := mo.fin
    rw [vx, vy] at hval
    repeat' first
      | (refine J.isJ ?_; first | (first | (refine J.fc 134 ?_; refine J.call0 eFrom rfl rfl (fun w hw => from_len _ _ _ _ o4.sl mo.ok lo (by omega) hval w (hw.rdH RdH.hd)) ?_) | (refine J.o 5 ?_; first | (refine J.perm br3 ?_; refine J.t0 hΓ ?_) | (refine J.perm br4 ?_; refine J.t0 hΓ ?_) | (refine J.perm br5 ?_; refine J.t0 hΓ ?_) | (refine J.perm br6 ?_; refine J.t0 hΓ ?_) | (refine J.perm br7 ?_; refine J.t0 hΓ ?_))) | (first | (refine J.o 0 ?_; refine J.ev' hΓ ?_) | refine J.nil ?_ | (refine J.o 4 ?_; first | refine J.lT default hΓ ?_ | refine J.lR hΓ ?_) | (refine J.o 3 ?_; first | refine J.iJ hΓ ?_ | refine J.ev' hΓ ?_) | (refine J.o 1 ?_; first | refine J.ad ?_) | (refine J.o 5 ?_; first | refine J.t0 hΓ ?_ | refine J.tT _ default hΓ (fun _ _ => ?_)) | (refine J.o 6 ?_; refine J.bx (fun _ => ?_)) | (refine J.o 7 ?_; refine J.al hΓ (fun _ => ?_)) | (refine J.o 10 ?_; refine J.ev' hΓ ?_) | (refine J.o 11 ?_; refine J.ev' hΓ ?_)))
      | (first | refine JC.seq ?_ | refine JC.region ?_ | refine JC.block ?_ | refine JC.ret ?_ | refine JC.exit ?_ | refine JC.skip ?_ | refine thenK.nn ?_ | refine thenK.x ?_ | refine blockK.nn ?_ | refine blockK.hit rfl ?_ | (refine JC.cond rfl (fun hc => ?_) (fun hc => ?_) <;> ((try simp only [tcS] at hc) <;> first | (first | (exact absurd rfl hc) | (exfalso; omega) | (exact (tF hc (by assumption)).elim) | (exact (fT hc (by assumption)).elim)) | skip)) | refine drawK.nn ?_ | refine loopK.x ?_)
      | (fail)
      | fail
    all_goals first | (exfalso; omega) | skip
    exact retC hΓ rfl rfl rfl (by first | exact Rd.hd | exact Rd.hd.tl | exact Rd.hd.tl.tl | exact Rd.hd.tl.tl.tl) rfl (fun w1 hw => ⟨rfl, hw.below⟩)
end Go.Proofs.YtdiciemlbhkilaaGreatDoor
namespace Go.Proofs.YtdiciemlbhkilaaGreatDoor
open Go Go.Cx Go.RowKit
set_option linter.unusedVariables false
set_option linter.unusedSimpArgs false
set_option maxHeartbeats 4000000
attribute [local irreducible] J JC thenK blockK loopK roundK drawK retK QW Qt pel List.set Calls
set_option maxRecDepth 8000
attribute [local irreducible] JE Br eK0 eK3 brK
section
variable {P : Program} {n : Nat} {w0 : World} {R : Heap} {l0 : List Oper} {K : Exit → Fr → List Heap → Prop} {f : Fr} {L : List Heap} {rest : List (Nat × Oper)} {κ : Nat} {Γ : List (Nat × Go.Cx.TI)}
variable {d : Nat} {ty : TypeId} {pos : String} {aft : Array Edge} {g : Option (Nat × Bool)} {t u : TypeId} {x y : Operand}
theorem ones_W : ∀ l : List Nat, ones (l.flatMap encW) = true
  | [] => rfl
  | x :: l => by rw [List.flatMap_cons]; show ones (Value.int .u32 (x : Int) :: l.flatMap encW) = true; unfold ones; exact ones_W l
theorem J.cpy {a b : Option Addr} {cap cy e e2 m k s1 b1 b2 : Nat} {z1 z2 : Option Value} {de : TypeDesc} {ts us : List Nat} {h hs : Heap} (hΓ : Fits P Γ) (ho : OwT encW 1 e a cap ts h) (oy : OwT encW 1 e2 b cy us hs) (hr : RdH R L hs) (hle : us.length ≤ ts.length)
    (kk : ∀ h', OwT encW 1 e a cap (us ++ ts.drop us.length) h' → J P n w0 R l0 K rest (upd f d (.int .i64 (us.length : Int))) (h' :: L))
    (hg : wantB n f l0 ⟨some d, .call ⟨.builtin .copy, ⟨[x, y]⟩, ⟨[t, u]⟩⟩, ty, pos, aft, g⟩ = true := by exact rfl) (hx : Cx.ev n f x = .slice a m cap := by exact rfl) (hy : Cx.ev n f y = .slice b k cy := by exact rfl)
    (hm : ts.length = m := by omega) (hk : us.length = k := by first | rfl | omega) (ht : Cx.look Γ t = some ⟨.slice e, s1, z1, b1⟩ := by exact rfl) (he : Cx.look Γ e = some ⟨de, 1, z2, b2⟩ := by exact rfl) :
    J P n w0 R l0 K ((2, ⟨some d, .call ⟨.builtin .copy, ⟨[x, y]⟩, ⟨[t, u]⟩⟩, ty, pos, aft, g⟩) :: rest) f (h :: L) := by
  subst hm hk
  have hu := (hΓ t _ ht).1
  obtain ⟨_, ie, hie, hse, _⟩ := hΓ e _ he
  have hs1 : (P.info? e).map (·.size) = some 1 := by rw [hie]; exact congrArg some hse
  have h2 : (⟨[x, y]⟩ : Array Operand).map (Cx.ev n f) = #[.slice a ts.length cap, .slice b us.length cy] := by simp [hx, hy]
  refine J.v (Φ := fun v L' => ∃ h', v = .int .i64 (us.length : Int) ∧ L' = h' :: L ∧ OwT encW 1 e a cap (us ++ ts.drop us.length) h') hg (fun w hw => ?_) (fun v L' ⟨h', e1, e2, e3⟩ => by subst e1; subst e2; exact kk h' e3)
  rcases Nat.eq_zero_or_pos us.length with h0 | hpos
  · have hun : us = [] := List.eq_nil_of_length_eq_zero h0
    have hrun := run_copy_none (P := P) w t u ty e a b ts.length cap us.length cy hu hs1 (by rw [h0]; exact Nat.zero_min _)
    refine ⟨.int .i64 (us.length : Int), _, w, ?_, hw, h, rfl, rfl, by subst hun; exact ho⟩
    simp only [execOp, resolve, h2, Sem.run_bind, Sem.run_pure, Result.andThen_ok, invoke, builtin]
    rw [hrun, h0]
    rfl
  · rcases oy.row with ⟨_, _, hun, _⟩ | ⟨gb, cs, rfl, rfl, hc1, hc2, hc3⟩
    · subst hun; simp at hpos
    rcases ho.row with ⟨_, _, htn, _⟩ | ⟨ga, ds, rfl, rfl, hd1, hd2, hd3⟩
    · subst htn; exact absurd (Nat.lt_of_lt_of_le hpos hle) (by simp)
    rw [Nat.mul_one] at hc1 hc3 hd1 hd3
    have hga : w.heap[ga]? = some (.cells ds.toArray e (0, 0)) := hw.own (ga, _) (by simp)
    have hgb : w.heap[gb]? = some (.cells cs.toArray e2 (0, 0)) := hw.rd ((hr (gb, _) (by simp)).tl)
    have hadd : ∀ j, (⟨gb, 0, none⟩ : Addr).add j = ⟨gb, j, none⟩ := fun j => by unfold Addr.add; split <;> simp_all
    have hlu := flatW us
    have hlt := flatW ts
    have hrun := run_copy_row (P := P) w t u ty e ga 0 ts.length cap ⟨gb, 0, none⟩ us.length cy ds.toArray e (us.flatMap encW) hu hs1 hga (by rw [hlu]; exact (Nat.min_eq_left hle).symm)
      (fun j v hj => by
        rw [hadd, cell_of_row w gb j cs.toArray e2 (0, 0) hgb]
        rw [← hc3, List.getElem?_take] at hj
        split at hj
        · simpa using hj
        · cases hj) (by rw [hlu]; simp only [List.size_toArray, Nat.zero_add]; omega) (ones_ok (ones_W us))
    have hw2 := hw.write (w' := w.setRow ga (ds.toArray.toList.take 0 ++ us.flatMap encW ++ ds.toArray.toList.drop (0 + (us.flatMap encW).length)).toArray) rfl rfl rfl (by simp) (setRow_heap w ga _ _ e _ hga) (fun k hk => setRow_other _ _ _ _ hk)
    refine ⟨.int .i64 (us.length : Int), _, _, ?_, hw2, _, rfl, rfl, ⟨ho.len, .inr ⟨ga, _, rfl, rfl, ?_, ?_, ?_⟩⟩⟩
    · simp only [execOp, resolve, h2, Sem.run_bind, Sem.run_pure, Result.andThen_ok, invoke, builtin]
      rw [hrun, hlu]
      rfl
    · simp only [List.take_zero, List.nil_append, Nat.zero_add, List.length_append, List.length_drop, hlu, Nat.mul_one]
      omega
    · rw [List.length_append, List.length_drop]; omega
    · have e1 : (us ++ ts.drop us.length).length = ts.length := by rw [List.length_append, List.length_drop]; omega
      rw [e1, Nat.mul_one, List.flatMap_append]
      simp only [List.take_zero, List.nil_append, Nat.zero_add, hlu]
      have e2 : ds.take ts.length = ts.flatMap encW := hd3
      have e3 : (ts.flatMap encW).drop us.length = (ts.drop us.length).flatMap encW := by
        conv => lhs; rw [← List.take_append_drop us.length ts, List.flatMap_append]
        rw [List.drop_append_of_le_length (by rw [flatW, List.length_take]; omega), List.drop_of_length_le (by rw [flatW, List.length_take]; omega)]; rfl
      rw [← e3, ← e2, List.take_append, hlu, List.take_of_length_le (by rw [hlu]; exact hle), List.drop_take]
end
theorem eNatAdd : Entr Tryz.prog 110 := Entr.of Tryz.func110 rfl rfl
theorem add_any2 (a b : Nat) (ha : (bytesN a).length ≤ 1000) (hb : (bytesN b).length ≤ 1000) (w : World) : Calls Tryz.prog 110 #[natV a, natV b] w fun e w' => e = .returned (natV (a + b)) ∧ Below w.heap.size w w' := by
  have lx := wordsB_len (bytesN a)
  have ly := wordsB_len (bytesN b)
  have kx := okW_wordsB (bytesN a)
  have ky := okW_wordsB (bytesN b)
  have vx := valW_wordsB (bytesN a)
  have vy := valW_wordsB (bytesN b)
  rw [valB_bytesN] at vx vy
  have cX := fun w => words_any a (by omega) w
  have cY := fun w => words_any b (by omega) w
  generalize wordsB (bytesN a) = x at lx kx vx cX
  generalize wordsB (bytesN b) = y at ly ky vy cY
  rcases Nat.lt_or_ge x.length y.length with hxy | hxy
  ·
    have hle : x.length ≤ y.length := by omega
    have hst := AddI.start ky kx hle
    have hdr : (List.replicate (y.length + 1) 0).drop x.length = List.replicate (y.length + 1 - x.length) 0 := List.drop_replicate
    refine calls_of_JC (R := []) Tryz.func110 Tryz.ntmps110 rfl rfl (Holds.nil _) ?_
    unfold natV
    repeat' first
      | (refine J.isJ ?_; first | (first | (refine J.o 6 ?_; first | refine J.bx (fun b2 => ?_)) | (refine J.o 7 ?_; refine J.al hΓ (fun b4 => ?_))) | (first | (refine J.o 0 ?_; refine J.ev' hΓ ?_) | refine J.nil ?_ | (refine J.o 4 ?_; first | refine J.lT default hΓ ?_ | refine J.lR hΓ ?_) | (refine J.o 3 ?_; first | refine J.iJ hΓ ?_ | refine J.ev' hΓ ?_) | (refine J.o 1 ?_; first | refine J.ad ?_) | (refine J.o 5 ?_; first | refine J.t0 hΓ ?_ | refine J.tT _ default hΓ (fun _ _ => ?_)) | (refine J.o 6 ?_; refine J.bx (fun _ => ?_)) | (refine J.o 7 ?_; refine J.al hΓ (fun _ => ?_)) | (refine J.o 10 ?_; refine J.ev' hΓ ?_) | (refine J.o 11 ?_; refine J.ev' hΓ ?_)))
      | (first | refine JC.seq ?_ | refine JC.region ?_ | refine JC.block ?_ | refine JC.ret ?_ | refine JC.exit ?_ | refine JC.skip ?_ | refine thenK.nn ?_ | refine thenK.x ?_ | refine blockK.nn ?_ | refine blockK.hit rfl ?_ | (refine JC.cond rfl (fun hc => ?_) (fun hc => ?_) <;> ((try simp only [tcS] at hc) <;> first | (first | (exact absurd rfl hc) | (exfalso; omega) | (exact (tF hc (by assumption)).elim) | (exact (fT hc (by assumption)).elim)) | skip)) | refine drawK.nn ?_ | refine loopK.x ?_)
      | (fail)
      | fail
    rename_i b3
    refine JC.drawO [(1,0),(1,2),(3,1),(3,3),(0,4),(0,5)] (by kernel_rfl) (by kernel_rfl) ?_
    repeat' first
      | (refine J.isJ ?_; first | (first | (refine J.o 4 ?_; first | refine J.lR hΓ ?_ (hr := Rd.hd.tl.tl) | refine J.lR hΓ ?_ (hr := Rd.hd.tl)) | (refine J.fc 73 ?_; refine J.call1 eWords rfl rfl (fun w hw => cX w) ?_; rintro _ hgx ⟨ax, cx, rfl, ox⟩) | (refine J.fc 73 ?_; refine J.call1 eWords rfl rfl (fun w hw => cY w) ?_; rintro _ hgy ⟨ay, cy, rfl, oy⟩) | (refine J.o 1 ?_; refine J.gadd (b := 1) ?_ (hw := wI64 (by omega))) | (refine J.o 9 ?_; first | refine J.make (enc := encW) (m := y.length + 1) (0 : Nat) hΓ rfl rfl rfl rfl rfl rfl (fun _ => rfl) (by omega) (by omega) (fun b7 h7 o7 => ?_) | refine J.cpy hΓ o7 ox (RdH.hd.tl) (by rw [List.length_replicate]; omega) (fun h8 o8 => ?_) (hm := List.length_replicate))) | (first | (refine J.o 0 ?_; refine J.ev' hΓ ?_) | refine J.nil ?_ | (refine J.o 4 ?_; first | refine J.lT default hΓ ?_ | refine J.lR hΓ ?_) | (refine J.o 3 ?_; first | refine J.iJ hΓ ?_ | refine J.ev' hΓ ?_) | (refine J.o 1 ?_; first | refine J.ad ?_) | (refine J.o 5 ?_; first | refine J.t0 hΓ ?_ | refine J.tT _ default hΓ (fun _ _ => ?_)) | (refine J.o 6 ?_; refine J.bx (fun _ => ?_)) | (refine J.o 7 ?_; refine J.al hΓ (fun _ => ?_)) | (refine J.o 10 ?_; refine J.ev' hΓ ?_) | (refine J.o 11 ?_; refine J.ev' hΓ ?_)))
      | (first | refine JC.seq ?_ | refine JC.region ?_ | refine JC.block ?_ | refine JC.ret ?_ | refine JC.exit ?_ | refine JC.skip ?_ | refine thenK.nn ?_ | refine thenK.x ?_ | refine blockK.nn ?_ | refine blockK.hit rfl ?_ | (refine JC.cond rfl (fun hc => ?_) (fun hc => ?_) <;> ((try simp only [tcS] at hc) <;> first | (first | (exact absurd rfl hc) | (exfalso; omega) | (exact (tF hc (by assumption)).elim) | (exact (fT hc (by assumption)).elim)) | skip)) | refine drawK.nn ?_ | refine loopK.x ?_)
      | (fail)
      | fail
    all_goals first | (exfalso; omega) | skip
    rw [hdr] at o8
    refine JC.loop (fun i => i == 8 || i == 9 || Nat.ble 30 i) (fun m g L' => ∃ i c o h', g 30 = .int .i64 ((i : Nat) : Int) ∧ i + m = y.length ∧ g 8 = .int .u64 ((c : Nat) : Int) ∧ AddI y x i o c ∧ OwT encW 1 124 (some ⟨b7, 0, none⟩) (y.length + 1) o h' ∧ L' = [h', hgy, hgx, [(b4, Obj.cells ⟨[.string ByteArray.empty]⟩ 59 (0, 0))], [(b2, Obj.cells ⟨[.string (S (bytesN b))]⟩ 59 (0, 0))], [(b3, Obj.cells ⟨[.string (S (bytesN a))]⟩ 59 (0, 0))]]) y.length ⟨0, 0, _, h8, rfl, by omega, rfl, hst, o8, rfl⟩ ?_
    rintro m1 g1 L' ⟨i, c, o, h4, e30, hi, e8, ai, o4, rfl⟩
    refine JC.pin 30 e30 ?_
    refine JC.pin 8 e8 ?_
    have lo := ai.len
    have c1 := ai.c1
    rcases Nat.lt_or_ge i y.length with hlt | hge
    · have b1 : o.getD i 0 < 4294967296 := okW_get ai.ok i
      have b2' : y.getD i 0 < 4294967296 := okW_get ky i
      have hstep := ai.step ky hlt
      repeat' first
        | (refine J.isJ ?_; first | (first | (refine J.o 4 ?_; first | refine J.lT (0 : Nat) hΓ ?_ (hs := oy.sl) (hr := RdH.hd.tl) | refine J.lT (0 : Nat) hΓ ?_ (hs := o4.sl) (hr := RdH.hd)) | (refine J.o 1 ?_; first | refine J.gadd ?_ (hw := wU64 (by omega)) | refine J.gshr (j := 32) ?_) | (refine J.o 2 ?_; first | refine J.gcv hΓ ?_ (hk := wU64 (by omega)) | refine J.gcv hΓ ?_ (hk := wT32 _)) | (refine J.o 5 ?_; refine J.tT (enc := encW) _ default hΓ (fun h5 o5 => ?_))) | (first | (refine J.o 0 ?_; refine J.ev' hΓ ?_) | refine J.nil ?_ | (refine J.o 4 ?_; first | refine J.lT default hΓ ?_ | refine J.lR hΓ ?_) | (refine J.o 3 ?_; first | refine J.iJ hΓ ?_ | refine J.ev' hΓ ?_) | (refine J.o 1 ?_; first | refine J.ad ?_) | (refine J.o 5 ?_; first | refine J.t0 hΓ ?_ | refine J.tT _ default hΓ (fun _ _ => ?_)) | (refine J.o 6 ?_; refine J.bx (fun _ => ?_)) | (refine J.o 7 ?_; refine J.al hΓ (fun _ => ?_)) | (refine J.o 10 ?_; refine J.ev' hΓ ?_) | (refine J.o 11 ?_; refine J.ev' hΓ ?_)))
        | (first | refine JC.seq ?_ | refine JC.region ?_ | refine JC.block ?_ | refine JC.ret ?_ | refine JC.exit ?_ | refine JC.skip ?_ | refine thenK.nn ?_ | refine thenK.x ?_ | refine blockK.nn ?_ | refine blockK.hit rfl ?_ | (refine JC.cond rfl (fun hc => ?_) (fun hc => ?_) <;> ((try simp only [tcS] at hc) <;> first | (first | (exact absurd rfl hc) | (exfalso; omega) | (exact (tF hc (by assumption)).elim) | (exact (fT hc (by assumption)).elim)) | skip)) | refine drawK.nn ?_ | refine loopK.x ?_)
        | ((refine JC.drawO [(0,0),(0,1),(0,2),(0,3),(1,4),(0,5),(0,6),(0,7),(0,8),(1,9),(0,10),(0,11),(0,12),(0,13)] (by decide +kernel) (by decide +kernel) ?_))
        | fail
      all_goals first | (exfalso; omega) | skip
      refine loopK.nn (m1 - 1) (by omega) (by repeat (first | refine Ag.upd rfl ?_ | exact Ag.hv)) ⟨i + 1, _, _, h5, ?_, by omega, rfl, hstep, o5, rfl⟩
      show Value.int .i64 _ = _; congr 1
    · obtain rfl : i = y.length := by omega
      obtain ⟨hok, hval⟩ := ai.fin hle
      have hval2 : valW (o.set y.length c) = a + b := by rw [hval]; omega
      have hls : (o.set y.length c).length = y.length + 1 := by rw [List.length_set, lo]
      have hik : y.length < o.length := by omega
      repeat' first
        | (refine J.isJ ?_; first | (first | (refine J.o 2 ?_; refine J.gcv hΓ ?_ (hk := wU32 (by omega))) | (refine J.o 5 ?_; first | refine J.tT (enc := encW) _ default hΓ (fun h5 o5 => ?_)) | (refine J.fc 134 ?_; refine J.call0 eFrom rfl rfl (fun w hw => from_len _ _ _ _ o5.sl hok hls (by omega) hval2 w (hw.rdH RdH.hd)) ?_) | (refine J.o 5 ?_; first | (refine J.perm br3 ?_; refine J.t0 hΓ ?_) | (refine J.perm br4 ?_; refine J.t0 hΓ ?_) | (refine J.perm br5 ?_; refine J.t0 hΓ ?_) | (refine J.perm br6 ?_; refine J.t0 hΓ ?_) | (refine J.perm br7 ?_; refine J.t0 hΓ ?_))) | (first | (refine J.o 0 ?_; refine J.ev' hΓ ?_) | refine J.nil ?_ | (refine J.o 4 ?_; first | refine J.lT default hΓ ?_ | refine J.lR hΓ ?_) | (refine J.o 3 ?_; first | refine J.iJ hΓ ?_ | refine J.ev' hΓ ?_) | (refine J.o 1 ?_; first | refine J.ad ?_) | (refine J.o 5 ?_; first | refine J.t0 hΓ ?_ | refine J.tT _ default hΓ (fun _ _ => ?_)) | (refine J.o 6 ?_; refine J.bx (fun _ => ?_)) | (refine J.o 7 ?_; refine J.al hΓ (fun _ => ?_)) | (refine J.o 10 ?_; refine J.ev' hΓ ?_) | (refine J.o 11 ?_; refine J.ev' hΓ ?_)))
        | (first | refine JC.seq ?_ | refine JC.region ?_ | refine JC.block ?_ | refine JC.ret ?_ | refine JC.exit ?_ | refine JC.skip ?_ | refine thenK.nn ?_ | refine thenK.x ?_ | refine blockK.nn ?_ | refine blockK.hit rfl ?_ | (refine JC.cond rfl (fun hc => ?_) (fun hc => ?_) <;> ((try simp only [tcS] at hc) <;> first | (first | (exact absurd rfl hc) | (exfalso; omega) | (exact (tF hc (by assumption)).elim) | (exact (fT hc (by assumption)).elim)) | skip)) | refine drawK.nn ?_ | refine loopK.x ?_)
        | (fail)
        | fail
      all_goals first | (exfalso; omega) | skip
      exact retC hΓ rfl rfl rfl (by first | exact Rd.hd | exact Rd.hd.tl | exact Rd.hd.tl.tl | exact Rd.hd.tl.tl.tl) rfl (fun w1 hw => ⟨rfl, hw.below⟩)
  ·
    have hle : y.length ≤ x.length := by omega
    have hst := AddI.start kx ky hle
    have hdr : (List.replicate (x.length + 1) 0).drop y.length = List.replicate (x.length + 1 - y.length) 0 := List.drop_replicate
    refine calls_of_JC (R := []) Tryz.func110 Tryz.ntmps110 rfl rfl (Holds.nil _) ?_
    unfold natV
    repeat' first
      | (refine J.isJ ?_; first | (first | (refine J.o 6 ?_; first | refine J.bx (fun b2 => ?_)) | (refine J.o 7 ?_; refine J.al hΓ (fun b4 => ?_))) | (first | (refine J.o 0 ?_; refine J.ev' hΓ ?_) | refine J.nil ?_ | (refine J.o 4 ?_; first | refine J.lT default hΓ ?_ | refine J.lR hΓ ?_) | (refine J.o 3 ?_; first | refine J.iJ hΓ ?_ | refine J.ev' hΓ ?_) | (refine J.o 1 ?_; first | refine J.ad ?_) | (refine J.o 5 ?_; first | refine J.t0 hΓ ?_ | refine J.tT _ default hΓ (fun _ _ => ?_)) | (refine J.o 6 ?_; refine J.bx (fun _ => ?_)) | (refine J.o 7 ?_; refine J.al hΓ (fun _ => ?_)) | (refine J.o 10 ?_; refine J.ev' hΓ ?_) | (refine J.o 11 ?_; refine J.ev' hΓ ?_)))
      | (first | refine JC.seq ?_ | refine JC.region ?_ | refine JC.block ?_ | refine JC.ret ?_ | refine JC.exit ?_ | refine JC.skip ?_ | refine thenK.nn ?_ | refine thenK.x ?_ | refine blockK.nn ?_ | refine blockK.hit rfl ?_ | (refine JC.cond rfl (fun hc => ?_) (fun hc => ?_) <;> ((try simp only [tcS] at hc) <;> first | (first | (exact absurd rfl hc) | (exfalso; omega) | (exact (tF hc (by assumption)).elim) | (exact (fT hc (by assumption)).elim)) | skip)) | refine drawK.nn ?_ | refine loopK.x ?_)
      | (fail)
      | fail
    rename_i b3
    refine JC.drawO [(1,0),(1,2),(3,1),(3,3),(0,4),(0,5)] (by kernel_rfl) (by kernel_rfl) ?_
    repeat' first
      | (refine J.isJ ?_; first | (first | (refine J.o 4 ?_; first | refine J.lR hΓ ?_ (hr := Rd.hd.tl.tl) | refine J.lR hΓ ?_ (hr := Rd.hd.tl)) | (refine J.fc 73 ?_; refine J.call1 eWords rfl rfl (fun w hw => cX w) ?_; rintro _ hgx ⟨ax, cx, rfl, ox⟩) | (refine J.fc 73 ?_; refine J.call1 eWords rfl rfl (fun w hw => cY w) ?_; rintro _ hgy ⟨ay, cy, rfl, oy⟩) | (refine J.o 1 ?_; refine J.gadd (b := 1) ?_ (hw := wI64 (by omega))) | (refine J.o 9 ?_; first | refine J.make (enc := encW) (m := x.length + 1) (0 : Nat) hΓ rfl rfl rfl rfl rfl rfl (fun _ => rfl) (by omega) (by omega) (fun b7 h7 o7 => ?_) | refine J.cpy hΓ o7 oy (RdH.hd) (by rw [List.length_replicate]; omega) (fun h8 o8 => ?_) (hm := List.length_replicate))) | (first | (refine J.o 0 ?_; refine J.ev' hΓ ?_) | refine J.nil ?_ | (refine J.o 4 ?_; first | refine J.lT default hΓ ?_ | refine J.lR hΓ ?_) | (refine J.o 3 ?_; first | refine J.iJ hΓ ?_ | refine J.ev' hΓ ?_) | (refine J.o 1 ?_; first | refine J.ad ?_) | (refine J.o 5 ?_; first | refine J.t0 hΓ ?_ | refine J.tT _ default hΓ (fun _ _ => ?_)) | (refine J.o 6 ?_; refine J.bx (fun _ => ?_)) | (refine J.o 7 ?_; refine J.al hΓ (fun _ => ?_)) | (refine J.o 10 ?_; refine J.ev' hΓ ?_) | (refine J.o 11 ?_; refine J.ev' hΓ ?_)))
      | (first | refine JC.seq ?_ | refine JC.region ?_ | refine JC.block ?_ | refine JC.ret ?_ | refine JC.exit ?_ | refine JC.skip ?_ | refine thenK.nn ?_ | refine thenK.x ?_ | refine blockK.nn ?_ | refine blockK.hit rfl ?_ | (refine JC.cond rfl (fun hc => ?_) (fun hc => ?_) <;> ((try simp only [tcS] at hc) <;> first | (first | (exact absurd rfl hc) | (exfalso; omega) | (exact (tF hc (by assumption)).elim) | (exact (fT hc (by assumption)).elim)) | skip)) | refine drawK.nn ?_ | refine loopK.x ?_)
      | (fail)
      | fail
    all_goals first | (exfalso; omega) | skip
    rw [hdr] at o8
    refine JC.loop (fun i => i == 8 || i == 9 || Nat.ble 30 i) (fun m g L' => ∃ i c o h', g 30 = .int .i64 ((i : Nat) : Int) ∧ i + m = x.length ∧ g 8 = .int .u64 ((c : Nat) : Int) ∧ AddI x y i o c ∧ OwT encW 1 124 (some ⟨b7, 0, none⟩) (x.length + 1) o h' ∧ L' = [h', hgy, hgx, [(b4, Obj.cells ⟨[.string ByteArray.empty]⟩ 59 (0, 0))], [(b2, Obj.cells ⟨[.string (S (bytesN b))]⟩ 59 (0, 0))], [(b3, Obj.cells ⟨[.string (S (bytesN a))]⟩ 59 (0, 0))]]) x.length ⟨0, 0, _, h8, rfl, by omega, rfl, hst, o8, rfl⟩ ?_
    rintro m1 g1 L' ⟨i, c, o, h4, e30, hi, e8, ai, o4, rfl⟩
    refine JC.pin 30 e30 ?_
    refine JC.pin 8 e8 ?_
    have lo := ai.len
    have c1 := ai.c1
    rcases Nat.lt_or_ge i x.length with hlt | hge
    · have b1 : o.getD i 0 < 4294967296 := okW_get ai.ok i
      have b2' : x.getD i 0 < 4294967296 := okW_get kx i
      have hstep := ai.step kx hlt
      repeat' first
        | (refine J.isJ ?_; first | (first | (refine J.o 4 ?_; first | refine J.lT (0 : Nat) hΓ ?_ (hs := ox.sl) (hr := RdH.hd.tl.tl) | refine J.lT (0 : Nat) hΓ ?_ (hs := o4.sl) (hr := RdH.hd)) | (refine J.o 1 ?_; first | refine J.gadd ?_ (hw := wU64 (by omega)) | refine J.gshr (j := 32) ?_) | (refine J.o 2 ?_; first | refine J.gcv hΓ ?_ (hk := wU64 (by omega)) | refine J.gcv hΓ ?_ (hk := wT32 _)) | (refine J.o 5 ?_; refine J.tT (enc := encW) _ default hΓ (fun h5 o5 => ?_))) | (first | (refine J.o 0 ?_; refine J.ev' hΓ ?_) | refine J.nil ?_ | (refine J.o 4 ?_; first | refine J.lT default hΓ ?_ | refine J.lR hΓ ?_) | (refine J.o 3 ?_; first | refine J.iJ hΓ ?_ | refine J.ev' hΓ ?_) | (refine J.o 1 ?_; first | refine J.ad ?_) | (refine J.o 5 ?_; first | refine J.t0 hΓ ?_ | refine J.tT _ default hΓ (fun _ _ => ?_)) | (refine J.o 6 ?_; refine J.bx (fun _ => ?_)) | (refine J.o 7 ?_; refine J.al hΓ (fun _ => ?_)) | (refine J.o 10 ?_; refine J.ev' hΓ ?_) | (refine J.o 11 ?_; refine J.ev' hΓ ?_)))
        | (first | refine JC.seq ?_ | refine JC.region ?_ | refine JC.block ?_ | refine JC.ret ?_ | refine JC.exit ?_ | refine JC.skip ?_ | refine thenK.nn ?_ | refine thenK.x ?_ | refine blockK.nn ?_ | refine blockK.hit rfl ?_ | (refine JC.cond rfl (fun hc => ?_) (fun hc => ?_) <;> ((try simp only [tcS] at hc) <;> first | (first | (exact absurd rfl hc) | (exfalso; omega) | (exact (tF hc (by assumption)).elim) | (exact (fT hc (by assumption)).elim)) | skip)) | refine drawK.nn ?_ | refine loopK.x ?_)
        | ((refine JC.drawO [(0,0),(0,1),(0,2),(0,3),(1,4),(0,5),(0,6),(0,7),(0,8),(1,9),(0,10),(0,11),(0,12),(0,13)] (by decide +kernel) (by decide +kernel) ?_))
        | fail
      all_goals first | (exfalso; omega) | skip
      refine loopK.nn (m1 - 1) (by omega) (by repeat (first | refine Ag.upd rfl ?_ | exact Ag.hv)) ⟨i + 1, _, _, h5, ?_, by omega, rfl, hstep, o5, rfl⟩
      show Value.int .i64 _ = _; congr 1
    · obtain rfl : i = x.length := by omega
      obtain ⟨hok, hval⟩ := ai.fin hle
      have hval2 : valW (o.set x.length c) = a + b := by rw [hval]; omega
      have hls : (o.set x.length c).length = x.length + 1 := by rw [List.length_set, lo]
      have hik : x.length < o.length := by omega
      repeat' first
        | (refine J.isJ ?_; first | (first | (refine J.o 2 ?_; refine J.gcv hΓ ?_ (hk := wU32 (by omega))) | (refine J.o 5 ?_; first | refine J.tT (enc := encW) _ default hΓ (fun h5 o5 => ?_)) | (refine J.fc 134 ?_; refine J.call0 eFrom rfl rfl (fun w hw => from_len _ _ _ _ o5.sl hok hls (by omega) hval2 w (hw.rdH RdH.hd)) ?_) | (refine J.o 5 ?_; first | (refine J.perm br3 ?_; refine J.t0 hΓ ?_) | (refine J.perm br4 ?_; refine J.t0 hΓ ?_) | (refine J.perm br5 ?_; refine J.t0 hΓ ?_) | (refine J.perm br6 ?_; refine J.t0 hΓ ?_) | (refine J.perm br7 ?_; refine J.t0 hΓ ?_))) | (first | (refine J.o 0 ?_; refine J.ev' hΓ ?_) | refine J.nil ?_ | (refine J.o 4 ?_; first | refine J.lT default hΓ ?_ | refine J.lR hΓ ?_) | (refine J.o 3 ?_; first | refine J.iJ hΓ ?_ | refine J.ev' hΓ ?_) | (refine J.o 1 ?_; first | refine J.ad ?_) | (refine J.o 5 ?_; first | refine J.t0 hΓ ?_ | refine J.tT _ default hΓ (fun _ _ => ?_)) | (refine J.o 6 ?_; refine J.bx (fun _ => ?_)) | (refine J.o 7 ?_; refine J.al hΓ (fun _ => ?_)) | (refine J.o 10 ?_; refine J.ev' hΓ ?_) | (refine J.o 11 ?_; refine J.ev' hΓ ?_)))
        | (first | refine JC.seq ?_ | refine JC.region ?_ | refine JC.block ?_ | refine JC.ret ?_ | refine JC.exit ?_ | refine JC.skip ?_ | refine thenK.nn ?_ | refine thenK.x ?_ | refine blockK.nn ?_ | refine blockK.hit rfl ?_ | (refine JC.cond rfl (fun hc => ?_) (fun hc => ?_) <;> ((try simp only [tcS] at hc) <;> first | (first | (exact absurd rfl hc) | (exfalso; omega) | (exact (tF hc (by assumption)).elim) | (exact (fT hc (by assumption)).elim)) | skip)) | refine drawK.nn ?_ | refine loopK.x ?_)
        | (fail)
        | fail
      all_goals first | (exfalso; omega) | skip
      exact retC hΓ rfl rfl rfl (by first | exact Rd.hd | exact Rd.hd.tl | exact Rd.hd.tl.tl | exact Rd.hd.tl.tl.tl) rfl (fun w1 hw => ⟨rfl, hw.below⟩)
end Go.Proofs.YtdiciemlbhkilaaGreatDoor
namespace Go.Proofs.YtdiciemlbhkilaaGreatDoor
open Go Go.Cx Go.RowKit
set_option linter.unusedVariables false
set_option linter.unusedSimpArgs false
set_option maxHeartbeats 4000000
attribute [local irreducible] J JC thenK blockK loopK roundK drawK retK QW Qt pel List.set Calls
attribute [local irreducible] JE Br eK0 eK3 brK
section
variable {P : Program} {n : Nat} {w0 : World} {R : Heap} {l0 : List Oper} {K : Exit → Fr → List Heap → Prop} {f : Fr} {L : List Heap} {rest : List (Nat × Oper)} {κ : Nat}
variable {d : Nat} {ty : TypeId} {pos : String} {aft : Array Edge} {g : Option (Nat × Bool)} {t u : TypeId} {x y : Operand} {a b : Nat}
theorem J.gorW {c : Nat} (h : a ||| b = c) (kk : J P n w0 R l0 K rest (upd f d (.int .u64 (c : Int))) L) (ha : a < 18446744073709551616) (hb : b < 18446744073709551616) (hg : wantB n f l0 ⟨some d, .binOp .or t x y u, ty, pos, aft, g⟩ = true := by exact rfl) (hx : Cx.ev n f x = .int .u64 (a : Int) := by exact rfl) (hy : Cx.ev n f y = .int .u64 (b : Int) := by exact rfl) : J P n w0 R l0 K ((κ, ⟨some d, .binOp .or t x y u, ty, pos, aft, g⟩) :: rest) f L := by
  subst h
  exact J.gor kk hg hx hy ha hb
end
theorem or_step (bs : List UInt8) (i : Nat) (h : i < bs.length) : valB (bs.take i) ||| ((bs.getD i 0).toNat * 2 ^ (8 * i)) = valB (bs.take (i + 1)) := by
  have e1 : bs.take (i + 1) = bs.take i ++ [bs.getD i 0] := by
    rw [List.take_add_one, List.getD_eq_getElem?_getD, List.getElem?_eq_getElem h]; rfl
  have hl : (bs.take i).length = i := by rw [List.length_take]; omega
  have hlt : valB (bs.take i) < 2 ^ (8 * i) := by
    have := valB_lt (bs.take i)
    rw [hl] at this
    rwa [Nat.pow_mul]
  rw [e1, valB_app, hl, Nat.or_comm, Nat.mul_comm, ← Nat.two_pow_add_eq_or_of_lt hlt, Nat.pow_mul]
  simp only [valB, Nat.mul_zero, Nat.add_zero]
  exact Nat.add_comm _ _
theorem eLenN : Entr Tryz.prog 131 := Entr.of Tryz.func131 rfl rfl
theorem eLen8 : Entr Tryz.prog 143 := Entr.of Tryz.func143 rfl rfl
theorem uint_any (v : Nat) (hv : v < 18446744073709551616) (w : World) : Calls Tryz.prog 27 #[natV v] w fun e w' => e = .returned (.tuple #[.int .u64 (v : Int), .bool true]) ∧ Below w.heap.size w w' := by
  have hl8 : (bytesN v).length ≤ 8 := bytesN_len (by rw [show (256 : Nat) ^ 8 = 18446744073709551616 from rfl]; exact hv)
  have hvB := valB_bytesN v
  unfold natV
  generalize bytesN v = bs at hl8 hvB ⊢
  refine calls_of_JC (R := []) Tryz.func27 Tryz.ntmps27 rfl rfl (Holds.nil _) ?_
  repeat' first
    | (refine J.isJ ?_; first | (first | (refine J.o 6 ?_; refine J.bx (fun b1 => ?_)) | (refine J.o 10 ?_; refine J.ls hΓ ?_)) | (first | (refine J.o 0 ?_; refine J.ev' hΓ ?_) | refine J.nil ?_ | (refine J.o 4 ?_; first | refine J.lR hΓ ?_) | (refine J.o 3 ?_; first | refine J.ev' hΓ ?_) | (refine J.o 1 ?_; first | refine J.ad ?_) | (refine J.o 6 ?_; refine J.bx (fun _ => ?_)) | (refine J.o 10 ?_; refine J.ev' hΓ ?_) | (refine J.o 11 ?_; refine J.ev' hΓ ?_)))
    | (first | refine JC.seq ?_ | refine JC.region ?_ | refine JC.block ?_ | refine JC.ret ?_ | refine JC.exit ?_ | refine JC.skip ?_ | refine thenK.nn ?_ | refine thenK.x ?_ | refine blockK.nn ?_ | refine blockK.hit rfl ?_ | (refine JC.cond rfl (fun hc => ?_) (fun hc => ?_) <;> ((try simp only [tcS] at hc) <;> first | (first | (exact absurd rfl hc) | (exfalso; omega) | (exact (tF hc (by assumption)).elim) | (exact (fT hc (by assumption)).elim)) | skip)) | refine loopK.x ?_)
    | (fail)
    | fail
  all_goals first | (exfalso; omega) | skip
  refine JC.loop (fun i => i == 4 || i == 5 || Nat.ble 14 i || i == 13) (fun m g L' => ∃ i : Nat, g 13 = .int .i64 ((i : Nat) : Int) ∧ i + m = bs.length ∧ g 4 = .int .u64 ((valB (bs.take i) : Nat) : Int) ∧ L' = [[(b1, Obj.cells ⟨[.string (S bs)]⟩ 59 (0, 0))]]) bs.length ⟨0, rfl, by omega, rfl, rfl⟩ ?_
  rintro m g L' ⟨i, e13, hi, e4, rfl⟩
  refine JC.pin 13 e13 ?_
  refine JC.pin 4 e4 ?_
  rcases Nat.lt_or_ge i bs.length with hlt | hge
  · have hor := or_step bs i hlt
    have hc8 := u8_lt (bs.getD i 0)
    have hp : (bs.getD i 0).toNat * 2 ^ (8 * i) < 18446744073709551616 := by
      have h1 : 2 ^ (8 * i) ≤ 2 ^ 56 := Nat.pow_le_pow_right (by omega) (by omega)
      have := Nat.mul_le_mul (Nat.le_of_lt_succ hc8) h1
      omega
    have hq : valB (bs.take i) < 18446744073709551616 := by
      have h1 := valB_lt (bs.take i)
      have h2 : 256 ^ (bs.take i).length ≤ 256 ^ 8 := Nat.pow_le_pow_right (by omega) (by rw [List.length_take]; omega)
      omega
    repeat' first
      | (refine J.isJ ?_; first | (first | (refine J.o 10 ?_; refine J.ls hΓ ?_) | (refine J.o 12 ?_; refine J.ix hΓ ?_) | (refine J.o 1 ?_; first | refine J.gmul (a := 8) ?_ | refine J.gshl ?_ (hw := wU64 hp) | refine J.gorW hor ?_ hq hp) | (refine J.o 2 ?_; refine J.gcv hΓ ?_ (hk := wU64 (by omega)))) | (first | (refine J.o 0 ?_; refine J.ev' hΓ ?_) | refine J.nil ?_ | (refine J.o 4 ?_; first | refine J.lR hΓ ?_) | (refine J.o 3 ?_; first | refine J.ev' hΓ ?_) | (refine J.o 1 ?_; first | refine J.ad ?_) | (refine J.o 6 ?_; refine J.bx (fun _ => ?_)) | (refine J.o 10 ?_; refine J.ev' hΓ ?_) | (refine J.o 11 ?_; refine J.ev' hΓ ?_)))
      | (first | refine JC.seq ?_ | refine JC.region ?_ | refine JC.block ?_ | refine JC.ret ?_ | refine JC.exit ?_ | refine JC.skip ?_ | refine thenK.nn ?_ | refine thenK.x ?_ | refine blockK.nn ?_ | refine blockK.hit rfl ?_ | (refine JC.cond rfl (fun hc => ?_) (fun hc => ?_) <;> ((try simp only [tcS] at hc) <;> first | (first | (exact absurd rfl hc) | (exfalso; omega) | (exact (tF hc (by assumption)).elim) | (exact (fT hc (by assumption)).elim)) | skip)) | refine loopK.x ?_)
      | (fail)
      | fail
    all_goals first | (exfalso; omega) | skip
    refine loopK.nn (m - 1) (by omega) (by repeat (first | refine Ag.upd rfl ?_ | exact Ag.hv)) ⟨i + 1, ?_, by omega, rfl, rfl⟩
    show Value.int .i64 _ = _; congr 1
  · obtain rfl : i = bs.length := by omega
    rw [List.take_length, hvB] at *
    repeat' first
      | (refine J.isJ ?_; first | (fail) | (first | (refine J.o 0 ?_; refine J.ev' hΓ ?_) | refine J.nil ?_ | (refine J.o 4 ?_; first | refine J.lR hΓ ?_) | (refine J.o 3 ?_; first | refine J.ev' hΓ ?_) | (refine J.o 1 ?_; first | refine J.ad ?_) | (refine J.o 6 ?_; refine J.bx (fun _ => ?_)) | (refine J.o 10 ?_; refine J.ev' hΓ ?_) | (refine J.o 11 ?_; refine J.ev' hΓ ?_)))
      | (first | refine JC.seq ?_ | refine JC.region ?_ | refine JC.block ?_ | refine JC.ret ?_ | refine JC.exit ?_ | refine JC.skip ?_ | refine thenK.nn ?_ | refine thenK.x ?_ | refine blockK.nn ?_ | refine blockK.hit rfl ?_ | (refine JC.cond rfl (fun hc => ?_) (fun hc => ?_) <;> ((try simp only [tcS] at hc) <;> first | (first | (exact absurd rfl hc) | (exfalso; omega) | (exact (tF hc (by assumption)).elim) | (exact (fT hc (by assumption)).elim)) | skip)) | refine loopK.x ?_)
      | (fail)
      | fail
    all_goals first | (exfalso; omega) | skip
    exact ret2f rfl rfl rfl rfl rfl (fun w1 hw => ⟨rfl, hw.below⟩)
def lenB (bs : List UInt8) : Int := if bs.length = 0 then 0 else 8 * ((bs.length : Int) - 1) + (Lib.bitLen (bs.getD (bs.length - 1) 0).toNat : Nat)
theorem lenB_le (bs : List UInt8) : 0 ≤ lenB bs ∧ lenB bs ≤ 8 * (bs.length : Int) := by
  unfold lenB
  split
  · omega
  · have h1 := Lib.bitLen_le8 ⟨(bs.getD (bs.length - 1) 0).toNat, u8_lt _⟩
    have h1 : Lib.bitLen (bs.getD (bs.length - 1) 0).toNat ≤ 8 := h1
    omega
theorem lenN_any (v : Nat) (hl : (bytesN v).length ≤ 100000) (w : World) : Calls Tryz.prog 131 #[natV v] w fun e w' => e = .returned (.int .i64 (lenB (bytesN v))) ∧ Below w.heap.size w w' := by
  unfold natV
  generalize bytesN v = bs at hl ⊢
  have c8 : ∀ w, Calls Tryz.prog 143 #[.int .u8 ((bs.getD (bs.length - 1) 0).toNat : Int)] w fun e w' => e = .returned (.int .i64 ((Lib.bitLen (bs.getD (bs.length - 1) 0).toNat : Nat) : Int)) ∧ Below w.heap.size w w' := fun w => by
    have h1 := u8_lt (bs.getD (bs.length - 1) 0)
    refine (Tryz.bits_Len8 ((bs.getD (bs.length - 1) 0).toNat : Int) w (by omega) (by omega)).mono ?_
    rintro e w' ⟨rfl, rfl⟩
    exact ⟨rfl, Below.refl _ _⟩
  have h1 := Lib.bitLen_le8 ⟨(bs.getD (bs.length - 1) 0).toNat, u8_lt _⟩
  have h1 : Lib.bitLen (bs.getD (bs.length - 1) 0).toNat ≤ 8 := h1
  refine calls_of_JC (R := []) Tryz.func131 Tryz.ntmps131 rfl rfl (Holds.nil _) ?_
  rcases Nat.eq_zero_or_pos bs.length with h0 | h0
  · have e : lenB bs = 0 := by unfold lenB; rw [if_pos h0]
    rw [e]
    repeat' first
      | (refine J.isJ ?_; first | (first | (refine J.o 6 ?_; refine J.bx (fun b1 => ?_)) | (refine J.o 10 ?_; refine J.ls hΓ ?_)) | (first | (refine J.o 0 ?_; refine J.ev' hΓ ?_) | refine J.nil ?_ | (refine J.o 4 ?_; first | refine J.lR hΓ ?_) | (refine J.o 3 ?_; first | refine J.ev' hΓ ?_) | (refine J.o 1 ?_; first | refine J.ad ?_ | refine J.sb ?_ | refine J.mu ?_) | (refine J.o 6 ?_; refine J.bx (fun _ => ?_)) | (refine J.o 10 ?_; refine J.ev' hΓ ?_) | (refine J.o 11 ?_; refine J.ev' hΓ ?_)))
      | (first | refine JC.seq ?_ | refine JC.region ?_ | refine JC.ret ?_ | refine JC.skip ?_ | refine thenK.nn ?_ | refine thenK.r ?_ | (refine JC.cond rfl (fun hc => ?_) (fun hc => ?_) <;> ((try simp only [tcS] at hc) <;> first | (first | (exact absurd rfl hc) | (exfalso; omega) | (exact (tF hc (by assumption)).elim) | (exact (fT hc (by assumption)).elim)) | skip)))
      | (fail)
      | fail
    all_goals first | (exfalso; omega) | skip
    exact ret1f rfl rfl rfl (fun w1 hw => ⟨rfl, hw.below⟩)
  · have e : lenB bs = 8 * ((bs.length : Int) - 1) + (Lib.bitLen (bs.getD (bs.length - 1) 0).toNat : Nat) := by unfold lenB; rw [if_neg (by omega)]
    rw [e]
    repeat' first
      | (refine J.isJ ?_; first | (first | (refine J.o 6 ?_; refine J.bx (fun b1 => ?_)) | (refine J.o 10 ?_; refine J.ls hΓ ?_) | (refine J.o 12 ?_; refine J.ix (j := bs.length - 1) hΓ ?_ (hj := by omega)) | (refine J.fc 143 ?_; refine J.call0 eLen8 rfl rfl (fun w hw => c8 w) ?_)) | (first | (refine J.o 0 ?_; refine J.ev' hΓ ?_) | refine J.nil ?_ | (refine J.o 4 ?_; first | refine J.lR hΓ ?_) | (refine J.o 3 ?_; first | refine J.ev' hΓ ?_) | (refine J.o 1 ?_; first | refine J.ad ?_ | refine J.sb ?_ | refine J.mu ?_) | (refine J.o 6 ?_; refine J.bx (fun _ => ?_)) | (refine J.o 10 ?_; refine J.ev' hΓ ?_) | (refine J.o 11 ?_; refine J.ev' hΓ ?_)))
      | (first | refine JC.seq ?_ | refine JC.region ?_ | refine JC.ret ?_ | refine JC.skip ?_ | refine thenK.nn ?_ | refine thenK.r ?_ | (refine JC.cond rfl (fun hc => ?_) (fun hc => ?_) <;> ((try simp only [tcS] at hc) <;> first | (first | (exact absurd rfl hc) | (exfalso; omega) | (exact (tF hc (by assumption)).elim) | (exact (fT hc (by assumption)).elim)) | skip)))
      | (fail)
      | fail
    all_goals first | (exfalso; omega) | skip
    exact ret1f rfl rfl rfl (fun w1 hw => ⟨rfl, hw.below⟩)
end Go.Proofs.YtdiciemlbhkilaaGreatDoor
namespace Go.Proofs.YtdiciemlbhkilaaGreatDoor
open Go Go.Cx Go.RowKit
set_option linter.unusedVariables false
set_option linter.unusedSimpArgs false
set_option maxHeartbeats 4000000
attribute [local irreducible] J JC thenK blockK loopK roundK drawK retK QW Qt pel List.set Calls
attribute [local irreducible] JE Br eK0 eK3 brK JR thenR JL JLd
theorem eAppS : Entr Tryz.prog 144 := Entr.of Tryz.func144 rfl rfl
theorem eColl : Entr Tryz.prog 133 := Entr.of Tryz.func133 rfl rfl
theorem eList : Entr Tryz.prog 105 := Entr.of Tryz.func105 rfl rfl
def IntsO (l : List Int) (v : Value) (h : Heap) : Prop := ∃ a c, v = .slice a l.length c ∧ OwT encI 1 3 a c l h
def cSl (b : Nat) (a : Option Addr) (n c : Nat) : Heap := [(b, .cells ⟨[.slice a n c]⟩ 80 (0, 0))]
theorem memS_len (s : Nat × Nat) : (memS s).length ≤ 128 := by
  unfold memS
  rw [List.length_map]
  have := List.length_filter_le (fun k : Nat => hasB s ((k : Int) + 1)) (List.range 128)
  rw [List.length_range] at this
  exact this
set_option maxHeartbeats 16000000 in
theorem appS_any (s : Nat × Nat) (hs : okS s) (bm : Nat) {w0 w : World} {R : Heap} {L : List Heap} (hT : Tab64 w0) (hb : Rd R L bm (sO s)) (hw : H w0 R L w) : Calls Tryz.prog 144 #[.slice none 0 0, .func (.func 94) ⟨[]⟩ ⟨[.pointer (some ⟨bm, 0, none⟩)]⟩] w fun e w' => ∃ v L', e = .returned v ∧ H w0 R L' w' ∧ ∃ h, L' = h :: L ∧ IntsO (memS s) v h := by
  refine calls_of_JW (m := 5) (R := R) (L := L) (w0 := w0) Tryz.func144 Tryz.ntmps144 rfl rfl hw ?_
  have hml := memS_len s
  refine JW.seqC ?_
  repeat' first
    | (refine J.isJ ?_; first | ((refine J.o 6 ?_; refine J.bx (fun b2 => ?_))) | (first | (refine J.o 0 ?_; refine J.ev' hΓ ?_) | refine J.nil ?_ | (refine J.o 4 ?_; first | refine J.lR hΓ ?_) | (refine J.o 3 ?_; first | refine J.ev' hΓ ?_) | (refine J.o 5 ?_; first | refine J.t1 hΓ ?_) | (refine J.o 6 ?_; refine J.bx (fun _ => ?_)) | (refine J.o 9 ?_; refine J.bl hΓ (fun _ => ?_)) | (refine J.o 10 ?_; refine J.ev' hΓ ?_) | (refine J.o 11 ?_; refine J.ev' hΓ ?_)))
    | (first | refine JC.region ?_ | refine blockK.nn ?_)
    | (fail)
    | fail
  refine toW.nn ?_
  refine JW.seq ?_
  refine JW.seqC ?_
  repeat' first
    | (refine J.isJ ?_; first | (fail) | (first | (refine J.o 0 ?_; refine J.ev' hΓ ?_) | refine J.nil ?_ | (refine J.o 4 ?_; first | refine J.lR hΓ ?_) | (refine J.o 3 ?_; first | refine J.ev' hΓ ?_) | (refine J.o 5 ?_; first | refine J.t1 hΓ ?_) | (refine J.o 6 ?_; refine J.bx (fun _ => ?_)) | (refine J.o 9 ?_; refine J.bl hΓ (fun _ => ?_)) | (refine J.o 10 ?_; refine J.ev' hΓ ?_) | (refine J.o 11 ?_; refine J.ev' hΓ ?_)))
    | (first | refine JC.region ?_ | refine blockK.nn ?_)
    | (fail)
    | fail
  refine toW.nn ?_
  refine JW.rangeB (Ψ := fun L' => ∃ a c h, OwT encI 1 3 a c (memS s) h ∧ L' = h :: cSl b2 a (memS s).length c :: L) rfl eMem1 (fun fn D tmps w1 ha1 hw1 => ?_) ?_
  · generalize hr : recL fn tmps _ _ _ D = r at hw1 ⊢
    refine (mem1_any s hs (D + 1) 4 hT (fun l L' => ∃ d aa c h, d ++ l = memS s ∧ OwT encI 1 3 aa c d h ∧ L' = [(D + 1, .loop r)] :: [(D, .deferred (some []))] :: h :: cSl b2 aa d.length c :: L) (fun L' => False) (fun l L' hl => by obtain ⟨d, a, c, h, _, _, rfl⟩ := hl; exact hb.tl.tl.tl.tl) (fun v l L' hl wy hwy => ?_) ⟨[], none, 0, [], rfl, ⟨fun _ => rfl, .inl ⟨rfl, rfl, rfl, rfl⟩⟩, rfl⟩ (H.sel (l := [_, _, _, _]) (M := L) hw1.nilF [1, 2, 0, 3])).mono ?_
    · obtain ⟨d, aa, c, h, hd, ho, rfl⟩ := hl
      subst hr
      have hdl : d.length + 1 ≤ 128 := by
        have h5 := congrArg List.length hd
        rw [List.length_append, List.length_cons] at h5
        omega
      obtain ⟨dl, hdl2⟩ : ∃ dl, d.length = dl := ⟨_, rfl⟩
      refine round_any (Φ := fun v' L' => ∃ q : Bool, v' = .bool q ∧ (q = true → _) ∧ (q = false → False)) rfl rfl (by rw [round_tmps]; exact ha1.put (some 7) (.int .i64 v)) ?_ hwy
      refine JR.region rfl ?_
      repeat' first
        | (refine J.isJ ?_; first | (fail) | (first | (refine J.o 0 ?_; refine J.ev' hΓ ?_) | refine J.nil ?_ | (refine J.o 4 ?_; first | refine J.lR hΓ ?_) | (refine J.o 3 ?_; first | refine J.ev' hΓ ?_) | (refine J.o 5 ?_; first | refine J.t1 hΓ ?_) | (refine J.o 6 ?_; refine J.bx (fun _ => ?_)) | (refine J.o 9 ?_; refine J.bl hΓ (fun _ => ?_)) | (refine J.o 10 ?_; refine J.ev' hΓ ?_) | (refine J.o 11 ?_; refine J.ev' hΓ ?_)))
        | (first | refine JR.seq ?_ | refine JR.region (by kernel_rfl) ?_ | refine JR.block ?_ | refine JR.ret ?_ | refine JR.exit ?_ | refine JR.skip ?_ | refine thenR.nn ?_ | refine thenR.r ?_ | refine thenR.x ?_ | refine blockK.nn ?_ | refine JR.condT rfl ?_ | refine JR.condF rfl ?_ | (refine JR.cond rfl (fun hc => ?_) (fun hc => ?_) <;> ((try simp only [tcS] at hc) <;> first | (first | (exact absurd rfl hc) | (exfalso; omega) | (exact (tF hc (by assumption)).elim) | (exact (fT hc (by assumption)).elim)) | skip)))
        | (fail)
        | fail
      refine asgK.nn _ (fun w hw => hw) ?_
      refine JR.perm (bring_perm 3 _) ?_
      refine JR.perm (bring_perm 3 _) ?_
      unfold cSl
      repeat' first
        | (refine J.isJ ?_; first | (first | (refine J.o 4 ?_; refine J.lR hΓ ?_ (hr := Rd.hd.tl)) | (refine J.app1 (enc := encI) [v] hΓ rfl rfl rfl rfl rfl rfl rfl ho rfl rfl rfl rfl (by omega) (by omega) (by omega) (fun a3 c3 h3 o3 => ?_))) | (first | (refine J.o 0 ?_; refine J.ev' hΓ ?_) | refine J.nil ?_ | (refine J.o 4 ?_; first | refine J.lR hΓ ?_) | (refine J.o 3 ?_; first | refine J.ev' hΓ ?_) | (refine J.o 5 ?_; first | refine J.t1 hΓ ?_) | (refine J.o 6 ?_; refine J.bx (fun _ => ?_)) | (refine J.o 9 ?_; refine J.bl hΓ (fun _ => ?_)) | (refine J.o 10 ?_; refine J.ev' hΓ ?_) | (refine J.o 11 ?_; refine J.ev' hΓ ?_)))
        | (first | refine JR.seq ?_ | refine JR.region (by kernel_rfl) ?_ | refine JR.block ?_ | refine JR.ret ?_ | refine JR.exit ?_ | refine JR.skip ?_ | refine thenR.nn ?_ | refine thenR.r ?_ | refine thenR.x ?_ | refine blockK.nn ?_ | refine JR.condT rfl ?_ | refine JR.condF rfl ?_ | (refine JR.cond rfl (fun hc => ?_) (fun hc => ?_) <;> ((try simp only [tcS] at hc) <;> first | (first | (exact absurd rfl hc) | (exfalso; omega) | (exact (tF hc (by assumption)).elim) | (exact (fT hc (by assumption)).elim)) | skip)))
        | (fail)
        | fail
      refine rndK.nn _ (fun w hw => H.sel (l := [_, _, _, _]) (M := L) hw [2, 3, 0, 1]) ⟨true, rfl, fun _ => ⟨d ++ [v], a3, c3, h3, by rw [List.append_assoc]; exact hd, o3, ?_⟩, fun h => (by cases h)⟩
      rw [List.length_append]
      rfl
    · rintro e w' ⟨v, L', rfl, hw', ⟨d, a, c, h, hd, ho, rfl⟩ | h2⟩
      · rw [List.append_nil] at hd
        subst hd
        exact ⟨v, _, rfl, hw', a, c, h, ho, rfl⟩
      · exact h2.elim
  · rintro D _ ⟨aa, c, h, ho, rfl⟩
    unfold cSl
    refine JW.regD ?_
    refine JLd.of (fun c h => by cases h) ?_
    (refine J.isJ ?_; refine J.o 4 ?_; refine J.lR hΓ ?_ (hr := Rd.hd.tl.tl))
    (refine J.nil ?_; refine nextLd.nn ?_)
    refine JLd.of (fun c h => by cases h) ?_
    (refine J.isJ ?_; refine J.o 0 ?_; refine J.ev' hΓ ?_)
    (refine J.nil ?_; refine nextLd.nn ?_)
    refine JLd.nil ?_
    refine JW.ret (fun a w' ha hw' => ?_)
    refine leaves_D ha hw' ?_
    exact ret1f rfl rfl rfl (fun w1 hw => ⟨_, _, rfl, H.sel (l := [_, _, _]) (M := L) hw [1], h, rfl, aa, c, rfl, ho⟩)
theorem coll_any (s : Nat × Nat) (hs : okS s) (bm : Nat) {w0 w : World} {R : Heap} {L : List Heap} (hT : Tab64 w0) (hb : Rd R L bm (sO s)) (hw : H w0 R L w) : Calls Tryz.prog 133 #[.func (.func 94) ⟨[]⟩ ⟨[.pointer (some ⟨bm, 0, none⟩)]⟩] w fun e w' => ∃ v L', e = .returned v ∧ H w0 R L' w' ∧ ∃ h, L' = h :: L ∧ IntsO (memS s) v h := by
  refine calls_in Tryz.func133 Tryz.ntmps133 rfl rfl (hw) ?_
  repeat' first
    | (refine J.isJ ?_; first | ((refine J.fc 144 ?_; refine J.callx eAppS rfl rfl (fun w hw => appS_any s hs bm hT hb hw) ?_; rintro _ _ ⟨h, rfl, a, c, rfl, ho⟩)) | (first | (refine J.o 0 ?_; refine J.ev' hΓ ?_) | refine J.nil ?_ | (refine J.o 3 ?_; first | refine J.ev' hΓ ?_) | (refine J.o 10 ?_; refine J.ev' hΓ ?_) | (refine J.o 11 ?_; refine J.ev' hΓ ?_)))
    | (first | refine JC.seq ?_ | refine JC.region ?_ | refine JC.ret ?_ | refine thenK.nn ?_)
    | (fail)
    | fail
  all_goals first | (exfalso; omega) | skip
  exact ret1f rfl rfl rfl (fun w1 hw => ⟨_, _, rfl, hw, h, rfl, a, c, rfl, ho⟩)
theorem list_any (s : Nat × Nat) (hs : okS s) (w : World) (hT : Tab64 w) : Calls Tryz.prog 105 #[sv s] w fun e w' => Gives (IntsO (memS s)) w e w' := by
  refine calls_of_JC (R := []) Tryz.func105 Tryz.ntmps105 rfl rfl (Holds.nil _) ?_
  repeat' first
    | (refine J.isJ ?_; first | (first | (refine J.o 6 ?_; refine J.bx (fun b1 => ?_)) | (refine J.fc 53 ?_; refine J.callx eMembers rfl rfl (fun w hw => members_any s hw) ?_; rintro _ _ ⟨bm, rfl, rfl⟩) | (refine J.fc 133 ?_; refine J.callx eColl rfl rfl (fun w hw => coll_any s hs bm hT Rd.hd hw) ?_; rintro _ _ ⟨h, rfl, a, c, rfl, ho⟩)) | (first | (refine J.o 0 ?_; refine J.ev' hΓ ?_) | refine J.nil ?_ | (refine J.o 4 ?_; first | refine J.lR hΓ ?_) | (refine J.o 3 ?_; first | refine J.ev' hΓ ?_) | (refine J.o 6 ?_; refine J.bx (fun _ => ?_)) | (refine J.o 10 ?_; refine J.ev' hΓ ?_) | (refine J.o 11 ?_; refine J.ev' hΓ ?_)))
    | (first | refine JC.seq ?_ | refine JC.region ?_ | refine JC.ret ?_ | refine thenK.nn ?_)
    | (fail)
    | fail
  all_goals first | (exfalso; omega) | skip
  exact ret1f rfl rfl rfl (fun w1 hw => Gives.of (H.sel (l := [_, _, _]) (M := []) hw [0]) ⟨a, c, rfl, ho⟩)
end Go.Proofs.YtdiciemlbhkilaaGreatDoor
namespace Go.Proofs.YtdiciemlbhkilaaGreatDoor
open Go Go.Cx Go.RowKit
set_option linter.unusedVariables false
set_option linter.unusedSimpArgs false
set_option maxHeartbeats 4000000
attribute [local irreducible] J JC thenK blockK loopK roundK drawK retK QW Qt pel List.set Calls
set_option maxRecDepth 8000
attribute [local irreducible] JE Br eK0 eK3 brK
theorem eShort : Entr Tryz.prog 102 := Entr.of Tryz.func102 rfl rfl
def encNt (v : Nat) : List Value := [.string (S (bytesN v))]
theorem okS_min {s t : Nat × Nat} (hs : okS s) : okS (minS s t) := ⟨Nat.lt_of_le_of_lt Nat.and_le_left hs.1, Nat.lt_of_le_of_lt Nat.and_le_left hs.2⟩
theorem bytes_128 {v : Nat} (h : v ≤ 2 ^ 128) : (bytesN v).length ≤ 17 := bytesN_len (Nat.lt_of_le_of_lt h (by decide))
theorem bytes_256 {v : Nat} (h : v ≤ 2 ^ 256) : (bytesN v).length ≤ 33 := bytesN_len (Nat.lt_of_le_of_lt h (by decide))
structure CntN (nn : Nat) (X : List PN) : Prop where
  hn : nn ≤ 128
  ck : checkP nn X = true
  sm : Simp nn X
  dd : Dd X
theorem CntN.run {nn : Nat} {X : List PN} (h : CntN nn X) {i : Nat} (hi : i < X.length) : ∃ P : Nat → Nat, P 0 = (if (X.getD i default).1 = 0 ∨ (X.getD i default).1 = 4 then 0 else 1) ∧ P (X.getD i default).2.2.length = (cN X X.length).getD i default ∧ (∀ q, q ≤ (X.getD i default).2.2.length → P q ≤ 2 ^ 128) ∧
    (∀ q, q < (X.getD i default).2.2.length → ((X.getD i default).1 = 3 ∧ P (q + 1) = P q * (cN X X.length).getD ((X.getD i default).2.2.getD q default).toNat default) ∨ ((X.getD i default).1 = 4 ∧ P (q + 1) = P q + (cN X X.length).getD ((X.getD i default).2.2.getD q default).toNat default * 2 ^ cardS (minS ((varT X).getD i default) ((varT X).getD ((X.getD i default).2.2.getD q default).toNat default)))) := by
  have hs := cN_self h.sm hi
  have hf := h.sm.fm i hi
  obtain ⟨_, _, _, g3⟩ := formed_all hf
  unfold stepC at hs
  by_cases h3 : (X.getD i default).1 = 3
  · refine ⟨fun q => proC (cN X X.length) ((X.getD i default).2.2.take q), ?_, ?_, fun q hq => pro_le h.hn h.sm h.dd hi h3 hq, fun q hq => .inl ⟨h3, ?_⟩⟩
    · rw [if_neg (by omega)]; rfl
    · show proC _ (List.take _ _) = _
      rw [hs, if_neg (by omega), if_neg (by omega), List.take_length]
    · show proC _ (List.take _ _) = _
      rw [take_g _ q hq, proC_snoc]
  · by_cases h4 : (X.getD i default).1 = 4
    · refine ⟨fun q => sumC (varT X) (cN X X.length) ((varT X).getD i default) ((X.getD i default).2.2.take q), ?_, ?_, fun q hq => sum_le h.hn h.sm h.dd hi h4 hq, fun q hq => .inr ⟨h4, ?_⟩⟩
      · rw [if_pos (.inr h4)]; rfl
      · show sumC _ _ _ (List.take _ _) = _
        rw [hs, if_pos h4, List.take_length]
      · show sumC _ _ _ (List.take _ _) = _
        rw [take_g _ q hq, sumC_snoc]
    · have hk := formed_kinds hf
      have hl : (X.getD i default).2.2.length = 0 := g3 (by omega)
      have hnil := List.eq_nil_of_length_eq_zero hl
      rw [if_neg h4] at hs
      refine ⟨fun _ => if (X.getD i default).1 = 0 ∨ (X.getD i default).1 = 4 then 0 else 1, rfl, ?_, fun q _ => ?_, fun q hq => by omega⟩
      · show (if _ then 0 else 1) = _
        rw [hs, hnil]
        by_cases h0 : (X.getD i default).1 = 0
        · rw [if_pos (.inl h0), if_pos h0]
        · rw [if_neg (by omega), if_neg h0]; rfl
      · show (if _ then 0 else 1) ≤ _
        split <;> decide
def outC (X : List PN) (k : Nat) : List Nat := cN X k ++ List.replicate (X.length - k) 0
theorem outC_len {X : List PN} {k : Nat} (h : k ≤ X.length) : (outC X k).length = X.length := by
  unfold outC; rw [List.length_append, cN_len, List.length_replicate]; omega
theorem outC_at {X : List PN} {k j : Nat} (h : k ≤ X.length) (hj : j < k) : (outC X k).getD j default = (cN X X.length).getD j default := by
  unfold outC
  rw [app_getD _ _ _ (by rw [cN_len]; exact hj)]
  exact (cN_at X X.length k j hj h).symm
theorem outC_set {X : List PN} {k : Nat} (h : k < X.length) (hx : (cN X X.length).getD k default = stepC (varT X) (cN X k) ((varT X).getD k default) (X.getD k default)) : (outC X k).set k ((cN X X.length).getD k default) = outC X (k + 1) := by
  unfold outC
  obtain ⟨m, hm⟩ : ∃ m, X.length - k = m + 1 := ⟨X.length - k - 1, by omega⟩
  rw [hm, show X.length - (k + 1) = m by omega, List.replicate_succ, cN, List.append_assoc]
  have := app_st (cN X k) 0 ((cN X X.length).getD k default) (List.replicate m 0)
  rw [cN_len] at this
  rw [this, hx]; rfl
theorem outC_end (X : List PN) : outC X X.length = cN X X.length := by
  unfold outC; rw [Nat.sub_self, List.replicate_zero, List.append_nil]
attribute [local irreducible] cN proC sumC outC
set_option maxHeartbeats 16000000 in
theorem short_any (nn : Nat) (a : Option Addr) (cap : Nat) (vs : List NV) (h : Heap) (hr : NetIn a vs h) (hX : CntN nn (vs.map pnV)) (w : World) (hT : Tab64 w) (hw : Holds h w) :
    Calls Tryz.prog 102 #[.agg ⟨[.int .i64 (nn : Int), .slice a vs.length cap]⟩] w fun e w' => e = .returned (.bool true) ∧ Below w.heap.size w w' := by
  have q0 : ∀ L, RdH h L h := fun L => RdH.old fun _ hh => hh
  have cV := fun w hw => vars_any (nn : Int) a cap vs h hr w hw
  rw [hX.ck, if_pos rfl] at cV
  obtain ⟨so, si, sl, hl⟩ := hr
  have hXl : (vs.map pnV).length = vs.length := List.length_map ..
  obtain ⟨hN, hM, hFA⟩ := check_facts hX.ck
  have hTl := varT_len (vs.map pnV)
  rw [hXl] at hTl hM
  have hokT := okS_varT (vs.map pnV)
  refine calls_of_JC (R := h) Tryz.func102 Tryz.ntmps102 rfl rfl (hw) ?_
  repeat' first
    | (refine J.isJ ?_; first | (first | (refine J.fc 103 ?_; refine J.call1 eVarsN rfl rfl (fun w hw => cV w (hw.rdH (q0 _))) ?_; rintro _ hV ⟨aV, cVV, rfl, sV⟩) | (refine J.o 9 ?_; refine J.make (enc := encNt) (m := vs.length) (0 : Nat) hΓ rfl rfl rfl rfl rfl rfl (fun _ => rfl) (by omega) (by omega) (fun bo ho oo => ?_))) | (first | (refine J.o 0 ?_; refine J.ev' hΓ ?_) | refine J.nil ?_ | refine J.kd ?_ | (refine J.o 4 ?_; first | refine J.lT default hΓ ?_ | refine J.lR hΓ ?_) | (refine J.o 3 ?_; first | refine J.iJ hΓ ?_ | refine J.ev' hΓ ?_) | (refine J.o 1 ?_; first | refine J.ad ?_) | (refine J.o 5 ?_; first | refine J.t0 hΓ ?_ | refine J.t1 hΓ ?_ | refine J.tT2 _ default hΓ (fun _ _ => ?_)) | (refine J.o 6 ?_; refine J.bx (fun _ => ?_)) | (refine J.o 7 ?_; refine J.al hΓ (fun _ => ?_)) | (refine J.o 8 ?_; refine J.bd hΓ ?_) | (refine J.o 10 ?_; refine J.ev' hΓ ?_) | (refine J.o 11 ?_; refine J.ev' hΓ ?_)) | ((fail_if_success refine J.wt ?_); refine J.gc rfl rfl (fun hc => ?_) (fun hc => ?_) <;> ((try simp only [tcS] at hc) <;> first | (first | (exact absurd rfl hc) | (exfalso; omega) | (exact (tF hc (by assumption)).elim) | (exact (fT hc (by assumption)).elim)) | skip)))
    | (first | refine JC.seq ?_ | refine JC.region ?_ | refine JC.block ?_ | refine JC.ret ?_ | refine JC.exit ?_ | refine JC.skip ?_ | refine thenK.nn ?_ | refine thenK.x ?_ | refine blockK.nn ?_ | refine blockK.hit rfl ?_ | refine JC.condT rfl ?_ | (refine JC.cond rfl (fun hc => ?_) (fun hc => ?_) <;> ((try simp only [tcS] at hc) <;> first | (first | (exact absurd rfl hc) | (exfalso; omega) | (exact (tF hc (by assumption)).elim) | (exact (fT hc (by assumption)).elim)) | skip)) | refine drawK.nn ?_ | refine loopK.x ?_)
    | (fail)
    | fail
  all_goals first | (exfalso; omega) | skip
  have e0 : List.replicate vs.length 0 = outC (vs.map pnV) 0 := by rw [← hXl]; unfold outC cN; rfl
  rw [e0] at oo
  refine JC.gen [(3, .slice aV (varT (vs.map pnV)).length cVV), (4, .slice (some ⟨bo, 0, none⟩) vs.length vs.length), (17, .slice a vs.length cap), (18, .int .i64 vs.length), (19, .int .i64 0)] ⟨rfl, rfl, rfl, rfl, rfl, trivial⟩ (fun F1 => ?_)
  refine JC.loopG (fun i => i == 5 || i == 6 || i == 7 || i == 9 || Nat.ble 19 i) (fun m g L' => ∃ (k : Nat) (ho : Heap), g 19 = .int .i64 (k : Int) ∧ k + m = vs.length ∧ OwT encNt 1 59 (some ⟨bo, 0, none⟩) vs.length (outC (vs.map pnV) k) ho ∧ L' = [ho, hV, [_]]) vs.length ⟨0, ho, rfl, by omega, oo, rfl⟩ ?_
  clear oo
  rintro m g _ ⟨k, ho, e19, hkm, oo, rfl⟩
  refine JC.pin 19 e19 ?_
  clear e19
  rcases Nat.lt_or_ge k vs.length with hk | hk
  case inr =>
    repeat' first
      | (refine J.isJ ?_; first | (fail) | (first | (refine J.o 0 ?_; refine J.ev' hΓ ?_) | refine J.nil ?_ | refine J.kd ?_ | (refine J.o 4 ?_; first | refine J.lT default hΓ ?_ | refine J.lR hΓ ?_) | (refine J.o 3 ?_; first | refine J.iJ hΓ ?_ | refine J.ev' hΓ ?_) | (refine J.o 1 ?_; first | refine J.ad ?_) | (refine J.o 5 ?_; first | refine J.t0 hΓ ?_ | refine J.t1 hΓ ?_ | refine J.tT2 _ default hΓ (fun _ _ => ?_)) | (refine J.o 6 ?_; refine J.bx (fun _ => ?_)) | (refine J.o 7 ?_; refine J.al hΓ (fun _ => ?_)) | (refine J.o 8 ?_; refine J.bd hΓ ?_) | (refine J.o 10 ?_; refine J.ev' hΓ ?_) | (refine J.o 11 ?_; refine J.ev' hΓ ?_)) | ((fail_if_success refine J.wt ?_); refine J.gc rfl rfl (fun hc => ?_) (fun hc => ?_) <;> ((try simp only [tcS] at hc) <;> first | (first | (exact absurd rfl hc) | (exfalso; omega) | (exact (tF hc (by assumption)).elim) | (exact (fT hc (by assumption)).elim)) | skip)))
      | (first | refine JC.seq ?_ | refine JC.region ?_ | refine JC.block ?_ | refine JC.ret ?_ | refine JC.exit ?_ | refine JC.skip ?_ | refine thenK.nn ?_ | refine thenK.x ?_ | refine blockK.nn ?_ | refine blockK.hit rfl ?_ | refine JC.condT rfl ?_ | (refine JC.cond rfl (fun hc => ?_) (fun hc => ?_) <;> ((try simp only [tcS] at hc) <;> first | (first | (exact absurd rfl hc) | (exfalso; omega) | (exact (tF hc (by assumption)).elim) | (exact (fT hc (by assumption)).elim)) | skip)) | refine drawK.nn ?_ | refine loopK.x ?_)
      | (fail)
      | fail
    all_goals first | (exfalso; omega) | skip
    exact ret1f rfl rfl rfl (fun w1 hw => ⟨rfl, hw.below⟩)
  have hol := outC_len (X := vs.map pnV) (k := k) (by omega)
  rw [hXl] at hol
  have hmk := mem_g vs k hk
  have hVl := sl _ hmk
  have hVs := si _ hmk
  have hfk : formedP (pnV (vs.getD k default)) nn k = true := by
    have := formAll_at nn (vs.map pnV) 0 hFA k (by omega)
    rw [Int.zero_add, getD_map] at this
    exact this
  have hVo : ∀ i, i ∈ (vs.getD k default).l → 0 ≤ i ∧ i < k := formed_rng hfk
  obtain ⟨P, p0, pn, pb, ps⟩ := hX.run (i := k) (by omega)
  have hset := outC_set (X := vs.map pnV) (k := k) (by omega) (cN_last _ _ _ (by omega))
  rw [getD_map] at p0 pn pb ps
  obtain ⟨v, hv⟩ : ∃ v, vs.getD k default = v := ⟨_, rfl⟩
  rw [hv] at hVl hVs hVo p0 pn pb ps
  have p0 : P 0 = if v.kind = 0 ∨ v.kind = 4 then 0 else 1 := p0
  have pn : P v.l.length = (cN (vs.map pnV) (vs.map pnV).length).getD k default := pn
  have pb : ∀ q, q ≤ v.l.length → P q ≤ 2 ^ 128 := pb
  have ps : ∀ q, q < v.l.length → _ := ps
  have cOf : ∀ w, Calls Tryz.prog 107 #[.int .u64 1] w fun e w' => e = .returned (natV 1) ∧ Below w.heap.size w w' := fun w => ofN_any 1 (by decide) w
  have hz : natV 0 = .agg ⟨[.string (S [])]⟩ := rfl
  repeat' first
    | (refine J.isJ ?_; first | (first | (refine J.o 7 ?_; first | refine J.al (d := 6) hΓ (fun b6 => ?_) | refine J.al (d := 7) hΓ (fun b7 => ?_)) | (refine J.o 3 ?_; refine J.iJ hΓ ?_ (hs := so)) | (refine J.o 4 ?_; refine J.lT default hΓ ?_ (hs := so) (hr := q0 _); rw [hv]) | (refine J.fc 107 ?_; refine J.call0 eOfN rfl rfl (fun w hw => cOf w) ?_)) | (first | (refine J.o 0 ?_; refine J.ev' hΓ ?_) | refine J.nil ?_ | refine J.kd ?_ | (refine J.o 4 ?_; first | refine J.lT default hΓ ?_ | refine J.lR hΓ ?_) | (refine J.o 3 ?_; first | refine J.iJ hΓ ?_ | refine J.ev' hΓ ?_) | (refine J.o 1 ?_; first | refine J.ad ?_) | (refine J.o 5 ?_; first | refine J.t0 hΓ ?_ | refine J.t1 hΓ ?_ | refine J.tT2 _ default hΓ (fun _ _ => ?_)) | (refine J.o 6 ?_; refine J.bx (fun _ => ?_)) | (refine J.o 7 ?_; refine J.al hΓ (fun _ => ?_)) | (refine J.o 8 ?_; refine J.bd hΓ ?_) | (refine J.o 10 ?_; refine J.ev' hΓ ?_) | (refine J.o 11 ?_; refine J.ev' hΓ ?_)) | ((fail_if_success refine J.wt ?_); refine J.gc rfl rfl (fun hc => ?_) (fun hc => ?_) <;> ((try simp only [tcS] at hc) <;> first | (first | (exact absurd rfl hc) | (exfalso; omega) | (exact (tF hc (by assumption)).elim) | (exact (fT hc (by assumption)).elim)) | skip)))
    | (first | refine JC.seq ?_ | refine JC.region ?_ | refine JC.block ?_ | refine JC.ret ?_ | refine JC.exit ?_ | refine JC.skip ?_ | refine thenK.nn ?_ | refine thenK.x ?_ | refine blockK.nn ?_ | refine blockK.hit rfl ?_ | refine JC.condT rfl ?_ | (refine JC.cond rfl (fun hc => ?_) (fun hc => ?_) <;> ((try simp only [tcS] at hc) <;> first | (first | (exact absurd rfl hc) | (exfalso; omega) | (exact (tF hc (by assumption)).elim) | (exact (fT hc (by assumption)).elim)) | skip)) | refine drawK.nn ?_ | refine loopK.x ?_)
    | (fail)
    | fail
  all_goals first | (exfalso; omega) | skip
  all_goals first | rw [if_pos (by omega)] at p0 | rw [if_neg (by omega)] at p0
  all_goals refine JC.loopG (fun i => i == 9 || Nat.ble 37 i) (fun m g L' => ∃ (q : Nat), g 37 = .int .i64 (q : Int) ∧ q + m = v.l.length ∧ L' = [(b7, .cells ⟨[.string (S (bytesN (P q)))]⟩ 59 (0, 0))] :: [[_], ho, hV, [_]]) v.l.length ⟨0, rfl, by omega, by rw [p0]; try rfl⟩ ?_
  all_goals rintro m2 g2 _ ⟨q, e37, hqm, rfl⟩
  all_goals refine JC.pin 37 e37 ?_
  all_goals clear e37
  all_goals (
    rcases Nat.lt_or_ge q v.l.length with hq | hq
    case inr =>
      obtain rfl : q = v.l.length := by omega
      rw [pn]
      repeat' first
        | (refine J.isJ ?_; first | (first | (refine J.o 3 ?_; refine J.iJ hΓ ?_ (hs := oo.sl)) | (refine J.o 5 ?_; refine J.tT2 ((cN (vs.map pnV) (vs.map pnV).length).getD k default) default hΓ (fun h5 o5 => ?_))) | (first | (refine J.o 0 ?_; refine J.ev' hΓ ?_) | refine J.nil ?_ | refine J.kd ?_ | (refine J.o 4 ?_; first | refine J.lT default hΓ ?_ | refine J.lR hΓ ?_) | (refine J.o 3 ?_; first | refine J.iJ hΓ ?_ | refine J.ev' hΓ ?_) | (refine J.o 1 ?_; first | refine J.ad ?_) | (refine J.o 5 ?_; first | refine J.t0 hΓ ?_ | refine J.t1 hΓ ?_ | refine J.tT2 _ default hΓ (fun _ _ => ?_)) | (refine J.o 6 ?_; refine J.bx (fun _ => ?_)) | (refine J.o 7 ?_; refine J.al hΓ (fun _ => ?_)) | (refine J.o 8 ?_; refine J.bd hΓ ?_) | (refine J.o 10 ?_; refine J.ev' hΓ ?_) | (refine J.o 11 ?_; refine J.ev' hΓ ?_)) | ((fail_if_success refine J.wt ?_); refine J.gc rfl rfl (fun hc => ?_) (fun hc => ?_) <;> ((try simp only [tcS] at hc) <;> first | (first | (exact absurd rfl hc) | (exfalso; omega) | (exact (tF hc (by assumption)).elim) | (exact (fT hc (by assumption)).elim)) | skip)))
        | (first | refine JC.seq ?_ | refine JC.region ?_ | refine JC.block ?_ | refine JC.ret ?_ | refine JC.exit ?_ | refine JC.skip ?_ | refine thenK.nn ?_ | refine thenK.x ?_ | refine blockK.nn ?_ | refine blockK.hit rfl ?_ | refine JC.condT rfl ?_ | (refine JC.cond rfl (fun hc => ?_) (fun hc => ?_) <;> ((try simp only [tcS] at hc) <;> first | (first | (exact absurd rfl hc) | (exfalso; omega) | (exact (tF hc (by assumption)).elim) | (exact (fT hc (by assumption)).elim)) | skip)) | refine drawK.nn ?_ | refine loopK.x ?_)
        | (fail)
        | fail
      all_goals first | (exfalso; omega) | skip
      rw [hset] at o5
      refine loopK.nn (m - 1) (by omega) (by repeat (first | refine Ag.upd rfl ?_ | exact Ag.hv | refine Ag.hv2 (fun i hi => by simp at hi ⊢; omega) ?_)) ⟨_, ⟨k + 1, h5, ?_, by omega, o5, rfl⟩, fun w hw => H.sel (l := [_, _, _, _, _]) (M := []) hw [2, 3, 4]⟩
      show Value.int .i64 _ = _; congr 1
    have hj := hVo _ (mem_g v.l q hq)
    have pbq := pb q (by omega)
    have pbq1 := pb (q + 1) (by omega)
    have tb := T_le hX.hn hX.sm hX.dd (k := v.l.getD q default) (by omega)
    have hot := outC_at (X := vs.map pnV) (k := k) (j := (v.l.getD q default).toNat) (by omega) (by omega)
    have l1 := bytes_128 pbq
    have l2 := bytes_128 tb
    have l3 := bytes_128 pbq1
    have l4 := lenB_le (bytesN (P (q + 1)))
    have cL := fun w => lenN_any (P (q + 1)) (by omega) w
    rcases ps q hq with ⟨h3, hp⟩ | ⟨h4, hp⟩
    · have h3 : v.kind = 3 := h3
      have cM := fun w => mul_any (P q) ((cN (vs.map pnV) (vs.map pnV).length).getD (v.l.getD q default).toNat default) (by omega) (by omega) w
      rw [← show P (q + 1) = P q * (cN (vs.map pnV) (vs.map pnV).length).getD (v.l.getD q default).toNat default from hp] at cM
      repeat' first
        | (refine J.isJ ?_; first | (first | (refine J.o 3 ?_; first | refine J.iJ hΓ ?_ (hs := hVs) | refine J.iJ hΓ ?_ (hs := oo.sl)) | (refine J.o 4 ?_; first | refine J.lT default hΓ ?_ (hs := hVs) (hr := q0 _) | (refine J.lT default hΓ ?_ (hs := oo.sl) (hr := RdH.hd.tl.tl); rw [hot])) | (refine J.fc 111 ?_; refine J.call0 eMul rfl rfl (fun w hw => cM w) ?_) | (refine J.fc 131 ?_; refine J.call0 eLenN rfl rfl (fun w hw => cL w) ?_)) | (first | (refine J.o 0 ?_; refine J.ev' hΓ ?_) | refine J.nil ?_ | refine J.kd ?_ | (refine J.o 4 ?_; first | refine J.lT default hΓ ?_ | refine J.lR hΓ ?_) | (refine J.o 3 ?_; first | refine J.iJ hΓ ?_ | refine J.ev' hΓ ?_) | (refine J.o 1 ?_; first | refine J.ad ?_) | (refine J.o 5 ?_; first | refine J.t0 hΓ ?_ | refine J.t1 hΓ ?_ | refine J.tT2 _ default hΓ (fun _ _ => ?_)) | (refine J.o 6 ?_; refine J.bx (fun _ => ?_)) | (refine J.o 7 ?_; refine J.al hΓ (fun _ => ?_)) | (refine J.o 8 ?_; refine J.bd hΓ ?_) | (refine J.o 10 ?_; refine J.ev' hΓ ?_) | (refine J.o 11 ?_; refine J.ev' hΓ ?_)) | ((fail_if_success refine J.wt ?_); refine J.gc rfl rfl (fun hc => ?_) (fun hc => ?_) <;> ((try simp only [tcS] at hc) <;> first | (first | (exact absurd rfl hc) | (exfalso; omega) | (exact (tF hc (by assumption)).elim) | (exact (fT hc (by assumption)).elim)) | skip)))
        | (first | refine JC.seq ?_ | refine JC.region ?_ | refine JC.block ?_ | refine JC.ret ?_ | refine JC.exit ?_ | refine JC.skip ?_ | refine thenK.nn ?_ | refine thenK.x ?_ | refine blockK.nn ?_ | refine blockK.hit rfl ?_ | refine JC.condT rfl ?_ | (refine JC.cond rfl (fun hc => ?_) (fun hc => ?_) <;> ((try simp only [tcS] at hc) <;> first | (first | (exact absurd rfl hc) | (exfalso; omega) | (exact (tF hc (by assumption)).elim) | (exact (fT hc (by assumption)).elim)) | skip)) | refine drawK.nn ?_ | refine loopK.x ?_)
        | ((refine JC.drawO [(1,0),(0,1),(0,2),(0,3),(1,4),(1,5),(2,6)] (by decide +kernel) (by decide +kernel) ?_))
        | fail
      all_goals first | (exfalso; omega) | skip
      all_goals refine loopK.nn (m2 - 1) (by omega) (by repeat (first | refine Ag.upd rfl ?_ | exact Ag.hv | refine Ag.hv2 (fun i hi => by simp at hi ⊢; omega) ?_)) ⟨_, ⟨q + 1, ?_, by omega, rfl⟩, fun w hw => hw⟩
      all_goals (show Value.int .i64 _ = _; congr 1)
    · have h4 : v.kind = 4 := h4
      obtain ⟨s1, hs1⟩ : ∃ s1, minS ((varT (vs.map pnV)).getD k default) ((varT (vs.map pnV)).getD (v.l.getD q default).toNat default) = s1 := ⟨_, rfl⟩
      have hk1 := okS_d _ hokT k
      have hk2 := okS_d _ hokT (v.l.getD q default).toNat
      have hp : P (q + 1) = P q + (cN (vs.map pnV) (vs.map pnV).length).getD (v.l.getD q default).toNat default * 2 ^ cardS s1 := by rw [← hs1]; exact hp
      have c0 := fun w => minus_any _ _ hk1 hk2 w
      have ho1 : okS s1 := by rw [← hs1]; exact okS_min hk1
      rw [hs1] at c0
      have cc := cardS_le s1
      have cp : 2 ^ cardS s1 ≤ 2 ^ 128 := Nat.pow_le_pow_right (by omega) cc
      have l5 := bytes_128 cp
      have l6 := bytes_128 (v := (cN (vs.map pnV) (vs.map pnV).length).getD (v.l.getD q default).toNat default * 2 ^ cardS s1) (by omega)
      have cP := fun w => pow2_any (cardS s1) (by omega) w
      have cM := fun w => mul_any ((cN (vs.map pnV) (vs.map pnV).length).getD (v.l.getD q default).toNat default) (2 ^ cardS s1) (by omega) (by omega) w
      have cA := fun w => add_any2 (P q) ((cN (vs.map pnV) (vs.map pnV).length).getD (v.l.getD q default).toNat default * 2 ^ cardS s1) (by omega) (by omega) w
      rw [← hp] at cA
      repeat' first
        | (refine J.isJ ?_; first | (first | (refine J.o 3 ?_; first | refine J.iJ hΓ ?_ (hs := hVs) | refine J.iJ hΓ ?_ (hs := oo.sl) | refine J.iJ hΓ ?_ (hs := sV)) | (refine J.o 4 ?_; first | refine J.lT default hΓ ?_ (hs := hVs) (hr := q0 _) | (refine J.lT default hΓ ?_ (hs := oo.sl) (hr := RdH.hd.tl.tl); rw [hot]) | refine J.lT default hΓ ?_ (hs := sV) (hr := RdH.hd.tl.tl.tl)) | (refine J.fc 100 ?_; refine J.call0 eMinus rfl rfl (fun w hw => c0 w) ?_) | (refine J.fc 105 ?_; refine J.call1 eList rfl rfl (fun w hw => list_any s1 ho1 w (hT.below hw.below)) ?_; rintro _ hL ⟨aL, cLL, rfl, oL⟩) | (refine J.fc 130 ?_; refine J.call0 ePow2 rfl rfl (fun w hw => cP w) ?_) | (refine J.fc 110 ?_; refine J.call0 eNatAdd rfl rfl (fun w hw => cA w) ?_) | (refine J.fc 111 ?_; refine J.call0 eMul rfl rfl (fun w hw => cM w) ?_) | (refine J.fc 131 ?_; refine J.call0 eLenN rfl rfl (fun w hw => cL w) ?_)) | (first | (refine J.o 0 ?_; refine J.ev' hΓ ?_) | refine J.nil ?_ | refine J.kd ?_ | (refine J.o 4 ?_; first | refine J.lT default hΓ ?_ | refine J.lR hΓ ?_) | (refine J.o 3 ?_; first | refine J.iJ hΓ ?_ | refine J.ev' hΓ ?_) | (refine J.o 1 ?_; first | refine J.ad ?_) | (refine J.o 5 ?_; first | refine J.t0 hΓ ?_ | refine J.t1 hΓ ?_ | refine J.tT2 _ default hΓ (fun _ _ => ?_)) | (refine J.o 6 ?_; refine J.bx (fun _ => ?_)) | (refine J.o 7 ?_; refine J.al hΓ (fun _ => ?_)) | (refine J.o 8 ?_; refine J.bd hΓ ?_) | (refine J.o 10 ?_; refine J.ev' hΓ ?_) | (refine J.o 11 ?_; refine J.ev' hΓ ?_)) | ((fail_if_success refine J.wt ?_); refine J.gc rfl rfl (fun hc => ?_) (fun hc => ?_) <;> ((try simp only [tcS] at hc) <;> first | (first | (exact absurd rfl hc) | (exfalso; omega) | (exact (tF hc (by assumption)).elim) | (exact (fT hc (by assumption)).elim)) | skip)))
        | (first | refine JC.seq ?_ | refine JC.region ?_ | refine JC.block ?_ | refine JC.ret ?_ | refine JC.exit ?_ | refine JC.skip ?_ | refine thenK.nn ?_ | refine thenK.x ?_ | refine blockK.nn ?_ | refine blockK.hit rfl ?_ | refine JC.condT rfl ?_ | (refine JC.cond rfl (fun hc => ?_) (fun hc => ?_) <;> ((try simp only [tcS] at hc) <;> first | (first | (exact absurd rfl hc) | (exfalso; omega) | (exact (tF hc (by assumption)).elim) | (exact (fT hc (by assumption)).elim)) | skip)) | refine drawK.nn ?_ | refine loopK.x ?_)
        | ((refine JC.drawO [(1,0),(0,1),(0,2),(0,3),(1,4),(0,5),(0,6),(0,7),(1,8),(0,9),(0,10),(0,11),(1,12),(1,13),(3,14),(0,15),(1,16),(1,17),(1,18),(2,19)] (by decide +kernel) (by decide +kernel) ?_))
        | fail
      all_goals first | (exfalso; omega) | skip
      all_goals refine loopK.nn (m2 - 1) (by omega) (by repeat (first | refine Ag.upd rfl ?_ | exact Ag.hv | refine Ag.hv2 (fun i hi => by simp at hi ⊢; omega) ?_)) ⟨_, ⟨q + 1, ?_, by omega, rfl⟩, fun w hw => hw.drop⟩
      all_goals (show Value.int .i64 _ = _; congr 1))
theorem eCheckCt : Entr Tryz.prog 68 := Entr.of Tryz.func68 rfl rfl
theorem checkC_any (nn : Nat) (a : Option Addr) (cap : Nat) (vs : List NV) (h : Heap) (hr : NetIn a vs h) (hX : CntN nn (vs.map pnV)) (w : World) (hT : Tab64 w) (hw : Holds h w) :
    Calls Tryz.prog 68 #[.agg ⟨[.int .i64 (nn : Int), .slice a vs.length cap]⟩] w fun e w' => e = .returned (.int .i64 0) ∧ Below w.heap.size w w' := by
  have q0 : ∀ L, RdH h L h := fun L => RdH.old fun _ hh => hh
  have cC := fun w hw => checkN_any (nn : Int) a cap vs h hr w hw
  rw [hX.ck, if_pos rfl] at cC
  have cD := fun w hw => decomp_any (nn : Int) a cap vs h hr hX.ck (hX.dd.decP hX.sm) w hw
  have cS := fun w hT hw => short_any nn a cap vs h hr hX w hT hw
  refine calls_of_JC (R := h) Tryz.func68 Tryz.ntmps68 rfl rfl (hw) ?_
  repeat' first
    | (refine J.isJ ?_; first | (first | (refine J.fc 60 ?_; refine J.call0 eCheckN rfl rfl (fun w hw => cC w (hw.rdH (q0 _))) ?_) | (refine J.fc 101 ?_; refine J.call0 eDecomp rfl rfl (fun w hw => cD w (hw.rdH (q0 _))) ?_) | (refine J.fc 102 ?_; refine J.call0 eShort rfl rfl (fun w hw => cS w (hT.below hw.below) (hw.rdH (q0 _))) ?_)) | (first | (refine J.o 0 ?_; refine J.ev' hΓ ?_) | refine J.nil ?_ | (refine J.o 4 ?_; first | refine J.lR hΓ ?_) | (refine J.o 3 ?_; first | refine J.ev' hΓ ?_) | (refine J.o 6 ?_; refine J.bx (fun _ => ?_)) | (refine J.o 10 ?_; refine J.ev' hΓ ?_) | (refine J.o 11 ?_; refine J.ev' hΓ ?_)))
    | (first | refine JC.seq ?_ | refine JC.region ?_ | refine JC.ret ?_ | refine JC.skip ?_ | refine thenK.nn ?_ | refine JC.condF rfl ?_)
    | (fail)
    | fail
  all_goals first | (exfalso; omega) | skip
  all_goals exact ret1f rfl rfl rfl (fun w1 hw => ⟨rfl, hw.below⟩)
end Go.Proofs.YtdiciemlbhkilaaGreatDoor
