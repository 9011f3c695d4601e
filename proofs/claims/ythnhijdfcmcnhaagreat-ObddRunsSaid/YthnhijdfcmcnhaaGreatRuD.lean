/- ObddRuns: part 4. -/
import Derived.Test.YthnhijdfcmcnhaaGreatRuC
namespace Go.Proofs.YthnhijdfcmcnhaaGreat
open Go Go.Cx
set_option linter.unusedVariables false
set_option linter.unusedSimpArgs false
def stepB (half : Nat) (acc : List (List Bool)) (b : List Bool) : List (List Bool) := if b.take half = b.drop half ∨ b ∈ acc then acc else acc ++ [b]
def stepN (ns : List N3) (k : Nat) (acc : List Nat) (j : Nat) : List Nat := if (nd ns j).p ≠ k ∨ j ∈ acc then acc else acc ++ [j]
theorem blk_half {n : Nat} {ns : List N3} (w : WF n ns) {k j : Nat} (hk : k < n) (hp : k ≤ (nd ns j).p) (hj : j < ns.length) : ((blk n ns k j).take (2 ^ (n - k - 1)) = (blk n ns k j).drop (2 ^ (n - k - 1))) ↔ (nd ns j).p ≠ k := by
  have hl : ∀ x, (blk n ns (k + 1) x).length = 2 ^ (n - k - 1) := fun x => by rw [blk_len, Nat.sub_add_eq]
  rcases Nat.lt_or_ge k (nd ns j).p with h | h
  · rw [blk_later w hj h, List.take_left' (hl j), List.drop_left' (hl j)]
    exact ⟨fun _ => by omega, fun _ => rfl⟩
  · have e : (nd ns j).p = k := by omega
    have h2 := w.nonconst (show (nd ns j).p < n by omega)
    have hb := blk_node w h2 hj
    rw [e] at hb
    have hlp := w.lp j h2 hj
    have hhp := w.hp j h2 hj
    rw [hb, List.take_left' (hl _), List.drop_left' (hl _), blk_eq w (by omega) (by omega) (w.ll j h2 hj) (w.hl j h2 hj)]
    exact ⟨fun h => (w.ne j h2 hj h).elim, fun h => (h e).elim⟩
theorem fold_BN {n : Nat} {ns : List N3} (w : WF n ns) {k : Nat} (hk : k < n) : ∀ (js acc : List Nat), (∀ j ∈ js, j < ns.length ∧ k ≤ (nd ns j).p) → (∀ j ∈ acc, j < ns.length ∧ k ≤ (nd ns j).p) →
    (js.map (blk n ns k)).foldl (stepB (2 ^ (n - k - 1))) (acc.map (blk n ns k)) = (js.foldl (stepN ns k) acc).map (blk n ns k)
  | [], acc, _, _ => rfl
  | j :: js, acc, h1, h2 => by
    obtain ⟨hj, hp⟩ := h1 j (by simp)
    have hmem : blk n ns k j ∈ acc.map (blk n ns k) ↔ j ∈ acc := by
      rw [List.mem_map]
      constructor
      · rintro ⟨x, hx, he⟩
        obtain ⟨g1, g2⟩ := h2 x hx
        rw [← (blk_eq w g2 hp g1 hj).1 he]; exact hx
      · intro h; exact ⟨j, h, rfl⟩
    have hc := blk_half w hk hp hj
    have hs : stepB (2 ^ (n - k - 1)) (acc.map (blk n ns k)) (blk n ns k j) = (stepN ns k acc j).map (blk n ns k) := by
      unfold stepB stepN
      by_cases h : (nd ns j).p ≠ k ∨ j ∈ acc
      · rw [if_pos h, if_pos (h.imp hc.2 hmem.2)]
      · rw [if_neg h, if_neg (fun g => h (g.imp hc.1 hmem.1)), List.map_append]; rfl
    rw [List.map_cons, List.foldl_cons, List.foldl_cons, hs]
    refine fold_BN w hk js _ (fun x hx => h1 x (by simp [hx])) (fun x hx => ?_)
    unfold stepN at hx
    split at hx
    · exact h2 x hx
    · rcases List.mem_append.1 hx with hx | hx
      · exact h2 x hx
      · rw [List.mem_singleton.1 hx]; exact ⟨hj, hp⟩
theorem foldN_mem (ns : List N3) (k : Nat) : ∀ (js acc : List Nat) (x : Nat), x ∈ js.foldl (stepN ns k) acc ↔ x ∈ acc ∨ (x ∈ js ∧ (nd ns x).p = k)
  | [], acc, x => by simp
  | j :: js, acc, x => by
    rw [List.foldl_cons, foldN_mem ns k js]
    unfold stepN
    split
    · rename_i h
      constructor
      · rintro (h1 | ⟨h1, h2⟩)
        · exact .inl h1
        · exact .inr ⟨by simp [h1], h2⟩
      · rintro (h1 | ⟨h1, h2⟩)
        · exact .inl h1
        · rcases List.mem_cons.1 h1 with rfl | h1
          · rcases h with h | h
            · exact absurd h2 h
            · exact .inl h
          · exact .inr ⟨h1, h2⟩
    · rename_i h
      have hp : (nd ns j).p = k := Classical.byContradiction fun g => h (.inl g)
      rw [List.mem_append, List.mem_singleton]
      constructor
      · rintro ((h1 | rfl) | ⟨h1, h2⟩)
        · exact .inl h1
        · exact .inr ⟨by simp, hp⟩
        · exact .inr ⟨by simp [h1], h2⟩
      · rintro (h1 | ⟨h1, h2⟩)
        · exact .inl (.inl h1)
        · rcases List.mem_cons.1 h1 with rfl | h1
          · exact .inl (.inr rfl)
          · exact .inr ⟨h1, h2⟩
theorem foldN_nodup (ns : List N3) (k : Nat) : ∀ (js acc : List Nat), acc.Nodup → (js.foldl (stepN ns k) acc).Nodup
  | [], acc, h => h
  | j :: js, acc, h => by
    rw [List.foldl_cons]
    refine foldN_nodup ns k js _ ?_
    unfold stepN
    split
    · exact h
    · rename_i hn
      rw [List.nodup_append]
      refine ⟨h, by simp, fun x hx y hy => ?_⟩
      rw [List.mem_singleton.1 hy]
      intro e; subst e
      exact hn (.inr hx)
def chunks (m c : Nat) (t : List Bool) : List (List Bool) := (List.range c).map fun q => (t.drop (q * m)).take m
theorem chunks_flat (m : Nat) : ∀ (L : List (List Bool)), (∀ b ∈ L, b.length = m) → chunks m L.length L.flatten = L
  | [], _ => rfl
  | b :: L, h => by
    have ih := chunks_flat m L fun x hx => h x (by simp [hx])
    have hb := h b (by simp)
    unfold chunks at ih ⊢
    rw [List.length_cons, List.range_succ_eq_map, List.map_cons, List.map_map, List.flatten_cons]
    congr 1
    · rw [Nat.zero_mul, List.drop_zero, ← hb, List.take_left']; rfl
    · conv => rhs; rw [← ih]
      refine List.map_congr_left fun q _ => ?_
      show ((b ++ L.flatten).drop ((q + 1) * m)).take m = _
      rw [show (q + 1) * m = b.length + q * m by rw [hb, Nat.add_mul]; omega, List.drop_append]
      rw [List.drop_of_length_le (by omega), List.nil_append]
      congr 2; omega
def lvC (n k : Nat) (t : List Bool) : Nat := ((chunks (2 ^ (n - k)) (2 ^ k) t).foldl (stepB (2 ^ (n - k - 1))) []).length
def sizeT (n : Nat) (t : List Bool) : Nat := ((List.range n).map fun k => lvC n k t).sum
theorem lvl_len (n : Nat) (ns : List N3) (i : Nat) : ∀ k, (lvl n ns i k).length = 2 ^ k
  | 0 => rfl
  | k + 1 => by
    have : ∀ l : List Nat, (l.flatMap fun j => if (nd ns j).p = k then [(nd ns j).l, (nd ns j).h] else [j, j]).length = 2 * l.length := fun l => by
      induction l with
      | nil => rfl
      | cons x l ih => rw [List.flatMap_cons, List.length_append, ih, List.length_cons]; split <;> simp <;> omega
    rw [lvl, this, lvl_len n ns i k, Nat.pow_succ, Nat.mul_comm]
theorem lvC_eq {n : Nat} {ns : List N3} (w : WF n ns) {i k : Nat} (hi : i < ns.length) (hk : k < n) : lvC n k (tab n ns i) = ((lvl n ns i k).foldl (stepN ns k) []).length := by
  have ht := tab_lvl w hi k (by omega)
  have hch := chunks_flat (2 ^ (n - k)) ((lvl n ns i k).map (blk n ns k)) (fun b hb => by
    obtain ⟨j, _, rfl⟩ := List.mem_map.1 hb; exact blk_len n ns k j)
  rw [List.length_map, lvl_len] at hch
  have hf : (lvl n ns i k).flatMap (blk n ns k) = ((lvl n ns i k).map (blk n ns k)).flatten := rfl
  unfold lvC
  rw [ht, hf, hch]
  have := fold_BN w hk (lvl n ns i k) [] (fun j hj => by obtain ⟨h1, h2, _⟩ := lvl_ok w hi k (by omega) j hj; exact ⟨h1, h2⟩) (fun j hj => by cases hj)
  rw [List.map_nil] at this
  rw [this, List.length_map]
def allN (n : Nat) (ns : List N3) (i : Nat) : Nat → List Nat
  | 0 => []
  | m + 1 => allN n ns i m ++ (lvl n ns i m).foldl (stepN ns m) []
theorem allN_mem {n : Nat} {ns : List N3} (w : WF n ns) {i : Nat} (hi : i < ns.length) : ∀ m, m ≤ n → ∀ j, j ∈ allN n ns i m ↔ (Rch ns i j ∧ 2 ≤ j ∧ (nd ns j).p < m)
  | 0, _, j => by simp [allN]
  | m + 1, hm, j => by
    rw [allN, List.mem_append, allN_mem w hi m (by omega), foldN_mem, lvl_iff w hi (by omega)]
    constructor
    · rintro (⟨h1, h2, h3⟩ | h | ⟨h1, h2, h3⟩)
      · exact ⟨h1, h2, by omega⟩
      · cases h
      · exact ⟨h1, h2, by omega⟩
    · rintro ⟨h1, h2, h3⟩
      rcases Nat.lt_or_ge (nd ns j).p m with h | h
      · exact .inl ⟨h1, h2, h⟩
      · exact .inr (.inr ⟨h1, h2, by omega⟩)
theorem allN_nodup {n : Nat} {ns : List N3} (w : WF n ns) {i : Nat} (hi : i < ns.length) : ∀ m, m ≤ n → (allN n ns i m).Nodup
  | 0, _ => List.nodup_nil
  | m + 1, hm => by
    rw [allN, List.nodup_append]
    refine ⟨allN_nodup w hi m (by omega), foldN_nodup ns m _ _ List.nodup_nil, fun x hx y hy e => ?_⟩
    subst e
    have h1 := ((allN_mem w hi m (by omega) x).1 hx).2.2
    rcases (foldN_mem ns m _ _ x).1 hy with h | ⟨_, h⟩
    · cases h
    · omega
theorem allN_len {n : Nat} {ns : List N3} (w : WF n ns) {i : Nat} (hi : i < ns.length) : ∀ m, m ≤ n → (allN n ns i m).length = ((List.range m).map fun k => lvC n k (tab n ns i)).sum
  | 0, _ => rfl
  | m + 1, hm => by
    rw [allN, List.length_append, allN_len w hi m (by omega), List.range_succ, List.map_append, List.sum_append, ← lvC_eq w hi (by omega)]
    simp
theorem nodup_sub {α : Type} : ∀ (l m : List α), l.Nodup → (∀ x ∈ l, x ∈ m) → l.length ≤ m.length
  | [], _, _, _ => Nat.zero_le _
  | x :: l, m, hn, hs => by
    obtain ⟨h1, h2⟩ := List.nodup_cons.1 hn
    obtain ⟨s, t, rfl⟩ := List.append_of_mem (hs x (by simp))
    have := nodup_sub l (s ++ t) h2 fun y hy => by
      have h3 := hs y (by simp [hy])
      rcases List.mem_append.1 h3 with h4 | h4
      · exact List.mem_append_left _ h4
      · rcases List.mem_cons.1 h4 with h5 | h5
        · subst h5; exact absurd hy h1
        · exact List.mem_append_right _ h5
    simp only [List.length_append, List.length_cons] at this ⊢
    omega
theorem size_eq {n : Nat} {ns : List N3} (w : WF n ns) {i : Nat} (hi : i < ns.length) {l : List Int} (hn : l.Nodup) (hm : ∀ x : Int, x ∈ l ↔ ∃ j : Nat, x = (j : Int) ∧ 2 ≤ j ∧ Rch ns i j) : l.length = sizeT n (tab n ns i) := by
  have h1 := allN_nodup w hi n (Nat.le_refl n)
  have h2 := allN_len w hi n (Nat.le_refl n)
  have h3 : ∀ j, j ∈ allN n ns i n ↔ (2 ≤ j ∧ Rch ns i j) := fun j => by
    rw [allN_mem w hi n (Nat.le_refl n)]
    constructor
    · rintro ⟨g1, g2, _⟩; exact ⟨g2, g1⟩
    · rintro ⟨g1, g2⟩; exact ⟨g2, g1, w.pl j g1 (g2.lt w hi)⟩
  have h4 : ((allN n ns i n).map fun j : Nat => (j : Int)).Nodup := by
    rw [List.Nodup, List.pairwise_map]
    exact h1.imp fun h e => h (by omega)
  unfold sizeT
  rw [← h2]
  have a1 := nodup_sub l ((allN n ns i n).map fun j : Nat => (j : Int)) hn fun x hx => by
    obtain ⟨j, rfl, g⟩ := (hm x).1 hx
    exact List.mem_map.2 ⟨j, (h3 j).2 g, rfl⟩
  have a2 := nodup_sub ((allN n ns i n).map fun j : Nat => (j : Int)) l h4 fun x hx => by
    obtain ⟨j, hj, rfl⟩ := List.mem_map.1 hx
    exact (hm _).2 ⟨j, rfl, (h3 j).1 hj⟩
  rw [List.length_map] at a1 a2
  omega
end Go.Proofs.YthnhijdfcmcnhaaGreat
namespace Go.Proofs.YthnhijdfcmcnhaaGreat
open Go Go.Cx Go.RowKit
set_option linter.unusedVariables false
set_option linter.unusedSimpArgs false
set_option maxHeartbeats 4000000
attribute [local irreducible] J JC thenK blockK loopK drawK retK QW Qt pel List.set Calls
open Go.Maps Go.Lib
set_option maxRecDepth 8000
attribute [local irreducible] JE Br eK0 eK3 brK pc
theorem eSized : Entr Tryz.prog 10 := Entr.of Tryz.func10 rfl rfl
theorem eWorks30 : Entr Tryz.prog 5 := Entr.of Tryz.func5 rfl rfl
theorem tab_fn {n : Nat} {ns : List N3} {i : Nat} {g : (Nat → Bool) → Bool} (h : ∀ α, fn n ns i α = g α) : tab n ns i = (List.range (2 ^ n)).map fun r => g (asg n r) := by
  unfold tab blk
  rw [Nat.sub_zero]
  exact List.map_congr_left fun r _ => h _
theorem seven : (decN 7).reverse = [55] := by decide
def gW (p1 p2 p3 p4 : Nat) (α : Nat → Bool) : Bool := Bool.or (α p4 && α p3) (α p1 && α p2)
theorem sized_any (order : List Int) (a : Option Addr) (c : Nat) (h : Heap) (hs : SlT encI 1 a order h) (ho : okOrd order) (hn : order.length = 4) (pl : Nat → Nat) (hrk : ∀ j : Nat, 1 ≤ j → j ≤ 4 → rk order (j : Int) 0 = some (pl j)) (want : Nat)
    (hsz : sizeT 4 ((List.range (2 ^ 4)).map fun r => gW (pl 1) (pl 2) (pl 3) (pl 4) (asg 4 r)) = want) (hct : ((List.range (2 ^ 4)).map fun r => gW (pl 1) (pl 2) (pl 3) (pl 4) (asg 4 r)).count true = 7) (w : World) (hw : Holds h w) :
    Calls Tryz.prog 10 #[.slice a 4 c, .int .i64 (want : Int)] w fun e w' => e = .returned (.bool true) ∧ Below w.heap.size w w' := by
  have q0 : ∀ L, RdH h L h := fun L => RdH.old fun _ hh => hh
  have hget : ∀ j : Nat, 1 ≤ j → j ≤ 4 → order.getD (pl j) default = (j : Int) := fun j h1 h2 => (rk_some (hrk j h1 h2)).2.2
  have cN := fun {w0 w : World} (hw : H w0 h [] w) => new_any order a c h hs ho (q0 _) hw
  rw [hn] at cN
  refine calls_of_JC (R := h) Tryz.func10 Tryz.ntmps10 rfl rfl (hw) ?_
  repeat' first
    | (refine J.isJ ?_; first | (first | (refine J.fc 11 ?_; refine J.callx eNew rfl rfl (fun w hw => cN hw) ?_; rintro _ _ ⟨b0, K, s0, hO, hP, rfl, rfl, so0, hns, po⟩) | (refine J.o 7 ?_; refine J.al hΓ (fun b7 => ?_))) | (first | (refine J.o 0 ?_; refine J.ev' hΓ ?_) | refine J.nil ?_ | (refine J.o 4 ?_; first | refine J.lR hΓ ?_) | (refine J.o 3 ?_; first | refine J.iA hΓ ?_ | refine J.ev' hΓ ?_) | (refine J.o 1 ?_; first | refine J.ad ?_) | (refine J.o 5 ?_; first | refine J.t0 hΓ ?_) | (refine J.o 7 ?_; refine J.al hΓ (fun _ => ?_)) | (refine J.o 8 ?_; refine J.bd hΓ ?_) | (refine J.o 10 ?_; refine J.ev' hΓ ?_) | (refine J.o 11 ?_; refine J.ev' hΓ ?_)) | ((fail_if_success refine J.wt ?_); refine J.gc rfl rfl (fun hc => ?_) (fun hc => ?_) <;> ((try simp only [decide_eq_true_eq, decide_eq_false_iff_not, beq_iff_eq, beq_eq_false_iff_ne, bne_iff_ne, bne_eq_false_iff_eq, Bool.not_eq_true', Bool.not_eq_false', Bool.not_eq_true, Bool.not_eq_false] at hc) <;> first | (first | (exact absurd rfl hc) | (exfalso; omega) | (exact absurd (hc.symm.trans (by assumption : _ = false)) (by decide)) | (exact absurd (hc.symm.trans (by assumption : _ = true)) (by decide))) | skip)))
    | (first | refine JC.seq ?_ | refine JC.region ?_ | refine JC.block ?_ | refine JC.ret ?_ | refine JC.exit ?_ | refine JC.skip ?_ | refine thenK.nn ?_ | refine thenK.x ?_ | refine blockK.nn ?_ | refine blockK.hit rfl ?_ | refine JC.condT rfl ?_ | refine JC.condF rfl ?_ | refine loopK.x ?_)
    | (fail)
    | fail
  all_goals first | (exfalso; omega) | skip
  refine JC.loop (fun i => i == 8 || Nat.ble 26 i) (fun m g L' => ∃ q s Y, g 8 = .int .i64 ((q : Nat) : Int) ∧ q + m = 5 ∧ 1 ≤ q ∧ SOk 4 K s ∧ s.ns.length ≤ 1 + q ∧ (∀ j, 1 ≤ j → j < q → Y j < s.ns.length ∧ ∀ α, fn 4 s.ns (Y j) α = α (pl j)) ∧ (∀ j, q ≤ j → Y j = 0) ∧ L' = [(b7, Obj.cells ⟨[.int .i64 0, .int .i64 (Y 1 : Int), .int .i64 (Y 2 : Int), .int .i64 (Y 3 : Int), .int .i64 (Y 4 : Int)]⟩ 70 (0, 0))] :: (sF K b0 s ++ [hO, hP])) 4 ⟨1, s0, fun _ => 0, rfl, rfl, Nat.le_refl _, so0, by rw [hns]; exact Nat.le_refl _, fun j h1 h2 => by omega, fun _ _ => rfl, rfl⟩ ?_
  rintro m1 g1 L' ⟨q, s, Y, e8, hq, hq1, so, hln, hY, hY0, rfl⟩
  refine JC.pin 8 e8 ?_
  unfold sF
  simp only [List.cons_append, List.nil_append]
  rcases (by omega : q = 5 ∨ q = 1 ∨ q = 2 ∨ q = 3 ∨ q = 4) with rfl | rfl | rfl | rfl | rfl
  ·
    obtain ⟨a1, f1⟩ := hY 1 (by omega) (by omega)
    obtain ⟨a2, f2⟩ := hY 2 (by omega) (by omega)
    obtain ⟨a3, f3⟩ := hY 3 (by omega) (by omega)
    obtain ⟨a4, f4⟩ := hY 4 (by omega) (by omega)
    generalize Y 1 = y1 at a1 f1 ⊢
    generalize Y 2 = y2 at a2 f2 ⊢
    generalize Y 3 = y3 at a3 f3 ⊢
    generalize Y 4 = y4 at a4 f4 ⊢
    have p4 : (2 : Nat) ^ 4 = 16 := rfl
    repeat' first
      | (refine J.isJ ?_; first | (fail) | (first | (refine J.o 0 ?_; refine J.ev' hΓ ?_) | refine J.nil ?_ | (refine J.o 4 ?_; first | refine J.lR hΓ ?_) | (refine J.o 3 ?_; first | refine J.iA hΓ ?_ | refine J.ev' hΓ ?_) | (refine J.o 1 ?_; first | refine J.ad ?_) | (refine J.o 5 ?_; first | refine J.t0 hΓ ?_) | (refine J.o 7 ?_; refine J.al hΓ (fun _ => ?_)) | (refine J.o 8 ?_; refine J.bd hΓ ?_) | (refine J.o 10 ?_; refine J.ev' hΓ ?_) | (refine J.o 11 ?_; refine J.ev' hΓ ?_)) | ((fail_if_success refine J.wt ?_); refine J.gc rfl rfl (fun hc => ?_) (fun hc => ?_) <;> ((try simp only [decide_eq_true_eq, decide_eq_false_iff_not, beq_iff_eq, beq_eq_false_iff_ne, bne_iff_ne, bne_eq_false_iff_eq, Bool.not_eq_true', Bool.not_eq_false', Bool.not_eq_true, Bool.not_eq_false] at hc) <;> first | (first | (exact absurd rfl hc) | (exfalso; omega) | (exact absurd (hc.symm.trans (by assumption : _ = false)) (by decide)) | (exact absurd (hc.symm.trans (by assumption : _ = true)) (by decide))) | skip)))
      | (first | refine JC.seq ?_ | refine JC.region ?_ | refine JC.block ?_ | refine JC.ret ?_ | refine JC.exit ?_ | refine JC.skip ?_ | refine thenK.nn ?_ | refine thenK.x ?_ | refine blockK.nn ?_ | refine blockK.hit rfl ?_ | refine JC.condT rfl ?_ | refine JC.condF rfl ?_ | refine loopK.x ?_)
      | (fail)
      | fail
    all_goals first | (exfalso; omega) | skip
    refine J.isJ ?_
    refine J.fc 18 ?_
    refine J.callx eAnd rfl rfl (fun w hw => And_any so y1 a1 y2 a2 (by omega) (L := hO :: hP :: [_]) (H.sel (l := [_, _, _, _, _, _, _]) (M := []) hw [1, 2, 3, 4, 5, 6, 0])) ?_
    rintro _ _ ⟨s1, ya, rfl, rfl, ad1, hf1⟩
    have l1 := ad1.le
    have b3 : y3 < s1.ns.length := Nat.lt_of_lt_of_le a3 ad1.ext.le
    have b4 : y4 < s1.ns.length := Nat.lt_of_lt_of_le a4 ad1.ext.le
    unfold sF
    simp only [List.cons_append, List.nil_append]
    repeat' first
      | (refine J.isJ ?_; first | ((refine J.o 4 ?_; refine J.lR hΓ ?_ (hr := Rd.hd.tl.tl.tl.tl.tl.tl))) | (first | (refine J.o 0 ?_; refine J.ev' hΓ ?_) | refine J.nil ?_ | (refine J.o 4 ?_; first | refine J.lR hΓ ?_) | (refine J.o 3 ?_; first | refine J.iA hΓ ?_ | refine J.ev' hΓ ?_) | (refine J.o 1 ?_; first | refine J.ad ?_) | (refine J.o 5 ?_; first | refine J.t0 hΓ ?_) | (refine J.o 7 ?_; refine J.al hΓ (fun _ => ?_)) | (refine J.o 8 ?_; refine J.bd hΓ ?_) | (refine J.o 10 ?_; refine J.ev' hΓ ?_) | (refine J.o 11 ?_; refine J.ev' hΓ ?_)) | ((fail_if_success refine J.wt ?_); refine J.gc rfl rfl (fun hc => ?_) (fun hc => ?_) <;> ((try simp only [decide_eq_true_eq, decide_eq_false_iff_not, beq_iff_eq, beq_eq_false_iff_ne, bne_iff_ne, bne_eq_false_iff_eq, Bool.not_eq_true', Bool.not_eq_false', Bool.not_eq_true, Bool.not_eq_false] at hc) <;> first | (first | (exact absurd rfl hc) | (exfalso; omega) | (exact absurd (hc.symm.trans (by assumption : _ = false)) (by decide)) | (exact absurd (hc.symm.trans (by assumption : _ = true)) (by decide))) | skip)))
      | (first | refine JC.seq ?_ | refine JC.region ?_ | refine JC.block ?_ | refine JC.ret ?_ | refine JC.exit ?_ | refine JC.skip ?_ | refine thenK.nn ?_ | refine thenK.x ?_ | refine blockK.nn ?_ | refine blockK.hit rfl ?_ | refine JC.condT rfl ?_ | refine JC.condF rfl ?_ | refine loopK.x ?_)
      | (fail)
      | fail
    refine J.isJ ?_
    refine J.fc 18 ?_
    refine J.callx eAnd rfl rfl (fun w hw => And_any ad1.ok y4 b4 y3 b3 (by omega) hw) ?_
    rintro _ _ ⟨s2, yb, rfl, rfl, ad2, hf2⟩
    have l2 := ad2.le
    have ba : ya < s2.ns.length := Nat.lt_of_lt_of_le ad1.lt ad2.ext.le
    unfold sF
    simp only [List.cons_append, List.nil_append]
    repeat' first
      | (refine J.isJ ?_; first | (fail) | (first | (refine J.o 0 ?_; refine J.ev' hΓ ?_) | refine J.nil ?_ | (refine J.o 4 ?_; first | refine J.lR hΓ ?_) | (refine J.o 3 ?_; first | refine J.iA hΓ ?_ | refine J.ev' hΓ ?_) | (refine J.o 1 ?_; first | refine J.ad ?_) | (refine J.o 5 ?_; first | refine J.t0 hΓ ?_) | (refine J.o 7 ?_; refine J.al hΓ (fun _ => ?_)) | (refine J.o 8 ?_; refine J.bd hΓ ?_) | (refine J.o 10 ?_; refine J.ev' hΓ ?_) | (refine J.o 11 ?_; refine J.ev' hΓ ?_)) | ((fail_if_success refine J.wt ?_); refine J.gc rfl rfl (fun hc => ?_) (fun hc => ?_) <;> ((try simp only [decide_eq_true_eq, decide_eq_false_iff_not, beq_iff_eq, beq_eq_false_iff_ne, bne_iff_ne, bne_eq_false_iff_eq, Bool.not_eq_true', Bool.not_eq_false', Bool.not_eq_true, Bool.not_eq_false] at hc) <;> first | (first | (exact absurd rfl hc) | (exfalso; omega) | (exact absurd (hc.symm.trans (by assumption : _ = false)) (by decide)) | (exact absurd (hc.symm.trans (by assumption : _ = true)) (by decide))) | skip)))
      | (first | refine JC.seq ?_ | refine JC.region ?_ | refine JC.block ?_ | refine JC.ret ?_ | refine JC.exit ?_ | refine JC.skip ?_ | refine thenK.nn ?_ | refine thenK.x ?_ | refine blockK.nn ?_ | refine blockK.hit rfl ?_ | refine JC.condT rfl ?_ | refine JC.condF rfl ?_ | refine loopK.x ?_)
      | (fail)
      | fail
    refine J.isJ ?_
    refine J.fc 20 ?_
    refine J.callx eOr rfl rfl (fun w hw => Or_any ad2.ok yb ad2.lt ya ba (by omega) hw) ?_
    rintro _ _ ⟨s3, yc, rfl, rfl, ad3, hf3⟩
    have hfc : ∀ α, fn 4 s3.ns yc α = gW (pl 1) (pl 2) (pl 3) (pl 4) α := fun α => by
      rw [hf3 α]
      show Bool.or (fn 4 s2.ns yb α) (fn 4 s2.ns ya α) = _
      rw [hf2 α, fn_ext ad1.ok.wf ad2.ext ad1.lt, hf1 α]
      show Bool.or (fn 4 s1.ns y4 α && fn 4 s1.ns y3 α) (fn 4 s.ns y1 α && fn 4 s.ns y2 α) = _
      rw [fn_ext so.wf ad1.ext a4, fn_ext so.wf ad1.ext a3, f1, f2, f3, f4]; rfl
    have htab := tab_fn hfc
    have cT := fun w => text_any 7 (by omega) (by omega) w
    rw [seven] at cT
    have hval : ∀ x : Nat × Nat, fn 4 s3.ns yc (asgS order x) = gW 1 2 3 4 (fun j => hasB x (j : Int)) := fun x => by
      rw [hfc]
      unfold gW asgS
      rw [hget 1 (by omega) (by omega), hget 2 (by omega) (by omega), hget 3 (by omega) (by omega), hget 4 (by omega) (by omega)]
    have cE : ∀ (x : Nat × Nat), okS x → ∀ L1 w1, H w h L1 w1 → Rd h L1 b0 (stO K s3.an s3.ns.length s3.cn) → RdH h L1 s3.hN → RdH h L1 hO → Calls Tryz.prog 39 #[.pointer (some ⟨b0, 0, none⟩), .int .i64 (yc : Int), sv x] w1 fun e w' => e = .returned (.bool (gW 1 2 3 4 (fun j => hasB x (j : Int)))) ∧ Below w1.heap.size w1 w' := fun x hx L1 w1 hw hb hn ho => by
      rw [← hval x]
      exact Eval_any ad3.ok po b0 yc ad3.lt x hx w1 (holds2 (hw.rd hb) ((hw.rdH hn).append (hw.rdH ho)))
    have v12 : gW 1 2 3 4 (fun j => hasB (12, 0) (j : Int)) = true := by decide
    have v5 : gW 1 2 3 4 (fun j => hasB (5, 0) (j : Int)) = false := by decide
    have c12 := cE (12, 0) ⟨by decide, by decide⟩
    have c5 := cE (5, 0) ⟨by decide, by decide⟩
    rw [v12] at c12
    rw [v5] at c5
    have hcnt := tab_count ad3.ok.wf ad3.lt
    rw [htab, hct] at hcnt
    have so3 := ad3.ok
    have lt3 := ad3.lt
    unfold sF
    simp only [List.cons_append, List.nil_append]
    repeat' first
      | (refine J.isJ ?_; first | (first | (refine J.fc 29 ?_; refine J.callx eSize rfl rfl (fun w hw => Size_any so3 b0 yc lt3 Rd.hd RdH.hd.tl hw) ?_; rintro _ _ ⟨l, rfl, rfl, bel⟩; have hlw : l.length = want := (size_eq so3.wf lt3 bel.nodup bel.mem).trans (htab ▸ hsz)) | (refine J.fc 30 ?_; refine J.callx eCountS rfl rfl (fun w hw => Count_any so3 b0 yc lt3 Rd.hd RdH.hd.tl hw) ?_; rintro _ _ ⟨rfl, rfl⟩; rw [hcnt]; unfold natV) | (refine J.o 7 ?_; refine J.al hΓ (fun b17 => ?_)) | (refine J.fc 33 ?_; refine J.call0 eText rfl rfl (fun w hw => cT w) ?_) | (refine J.o 11 ?_; refine J.eS ?_) | (refine J.fc 39 ?_; refine J.call0 eEvalS rfl rfl (fun w hw => c12 _ w hw Rd.hd.tl RdH.hd.tl.tl RdH.hd.tl.tl.tl.tl.tl) ?_) | (refine J.fc 39 ?_; refine J.call0 eEvalS rfl rfl (fun w hw => c5 _ w hw Rd.hd.tl RdH.hd.tl.tl RdH.hd.tl.tl.tl.tl.tl) ?_)) | (first | (refine J.o 0 ?_; refine J.ev' hΓ ?_) | refine J.nil ?_ | (refine J.o 4 ?_; first | refine J.lR hΓ ?_) | (refine J.o 3 ?_; first | refine J.iA hΓ ?_ | refine J.ev' hΓ ?_) | (refine J.o 1 ?_; first | refine J.ad ?_) | (refine J.o 5 ?_; first | refine J.t0 hΓ ?_) | (refine J.o 7 ?_; refine J.al hΓ (fun _ => ?_)) | (refine J.o 8 ?_; refine J.bd hΓ ?_) | (refine J.o 10 ?_; refine J.ev' hΓ ?_) | (refine J.o 11 ?_; refine J.ev' hΓ ?_)) | ((fail_if_success refine J.wt ?_); refine J.gc rfl rfl (fun hc => ?_) (fun hc => ?_) <;> ((try simp only [decide_eq_true_eq, decide_eq_false_iff_not, beq_iff_eq, beq_eq_false_iff_ne, bne_iff_ne, bne_eq_false_iff_eq, Bool.not_eq_true', Bool.not_eq_false', Bool.not_eq_true, Bool.not_eq_false] at hc) <;> first | (first | (exact absurd rfl hc) | (exfalso; omega) | (exact absurd (hc.symm.trans (by assumption : _ = false)) (by decide)) | (exact absurd (hc.symm.trans (by assumption : _ = true)) (by decide))) | skip)))
      | (first | refine JC.seq ?_ | refine JC.region ?_ | refine JC.block ?_ | refine JC.ret ?_ | refine JC.exit ?_ | refine JC.skip ?_ | refine thenK.nn ?_ | refine thenK.x ?_ | refine blockK.nn ?_ | refine blockK.hit rfl ?_ | refine JC.condT rfl ?_ | refine JC.condF rfl ?_ | refine loopK.x ?_)
      | (fail)
      | fail
    all_goals first | (exfalso; omega) | skip
    refine ret1f rfl rfl rfl (fun w1 hw => ⟨rfl, hw.below⟩)
  ·
    repeat' first
      | (refine J.isJ ?_; first | (first | (refine J.fc 14 ?_; refine J.callx eVarS rfl rfl (fun w hw => Var_any so po (1 : Int) (by omega) (pl 1) (hrk 1 (by omega) (by omega)) (by omega) (L := [_]) (H.sel (l := [_, _, _, _, _, _, _]) (M := []) hw [1, 2, 3, 4, 5, 6, 0])) ?_; rintro _ _ ⟨s1, y1, rfl, rfl, ad1, hf1⟩; unfold sF; simp only [List.cons_append, List.nil_append]) | (refine J.o 5 ?_; first | (refine J.perm br3 ?_; refine J.t0 hΓ ?_) | (refine J.perm br4 ?_; refine J.t0 hΓ ?_) | (refine J.perm br5 ?_; refine J.t0 hΓ ?_) | (refine J.perm br6 ?_; refine J.t0 hΓ ?_) | (refine J.perm br7 ?_; refine J.t0 hΓ ?_))) | (first | (refine J.o 0 ?_; refine J.ev' hΓ ?_) | refine J.nil ?_ | (refine J.o 4 ?_; first | refine J.lR hΓ ?_) | (refine J.o 3 ?_; first | refine J.iA hΓ ?_ | refine J.ev' hΓ ?_) | (refine J.o 1 ?_; first | refine J.ad ?_) | (refine J.o 5 ?_; first | refine J.t0 hΓ ?_) | (refine J.o 7 ?_; refine J.al hΓ (fun _ => ?_)) | (refine J.o 8 ?_; refine J.bd hΓ ?_) | (refine J.o 10 ?_; refine J.ev' hΓ ?_) | (refine J.o 11 ?_; refine J.ev' hΓ ?_)) | ((fail_if_success refine J.wt ?_); refine J.gc rfl rfl (fun hc => ?_) (fun hc => ?_) <;> ((try simp only [decide_eq_true_eq, decide_eq_false_iff_not, beq_iff_eq, beq_eq_false_iff_ne, bne_iff_ne, bne_eq_false_iff_eq, Bool.not_eq_true', Bool.not_eq_false', Bool.not_eq_true, Bool.not_eq_false] at hc) <;> first | (first | (exact absurd rfl hc) | (exfalso; omega) | (exact absurd (hc.symm.trans (by assumption : _ = false)) (by decide)) | (exact absurd (hc.symm.trans (by assumption : _ = true)) (by decide))) | skip)))
      | (first | refine JC.seq ?_ | refine JC.region ?_ | refine JC.block ?_ | refine JC.ret ?_ | refine JC.exit ?_ | refine JC.skip ?_ | refine thenK.nn ?_ | refine thenK.x ?_ | refine blockK.nn ?_ | refine blockK.hit rfl ?_ | refine JC.condT rfl ?_ | refine JC.condF rfl ?_ | refine loopK.x ?_)
      | (fail)
      | fail
    all_goals first | (exfalso; omega) | skip
    have l1 := ad1.le
    refine loopK.nn (m1 - 1) (by omega) (by repeat (first | refine Ag.upd rfl ?_ | exact Ag.hv)) ⟨1 + 1, s1, fun j => if j = 1 then y1 else Y j, rfl, by omega, by omega, ad1.ok, by omega, fun j h1 h2 => ?_, fun j h1 => ?_, rfl⟩
    · show (if j = 1 then y1 else Y j) < s1.ns.length ∧ ∀ α, fn 4 s1.ns (if j = 1 then y1 else Y j) α = α (pl j)
      by_cases hj : j = 1
      · rw [if_pos hj, hj]; exact ⟨ad1.lt, hf1⟩
      · rw [if_neg hj]
        obtain ⟨g1, g2⟩ := hY j h1 (by omega)
        exact ⟨Nat.lt_of_lt_of_le g1 ad1.ext.le, fun α => by rw [fn_ext so.wf ad1.ext g1]; exact g2 α⟩
    · show (if j = 1 then y1 else Y j) = 0
      rw [if_neg (by omega)]; exact hY0 j (by omega)
  ·
    repeat' first
      | (refine J.isJ ?_; first | (first | (refine J.fc 14 ?_; refine J.callx eVarS rfl rfl (fun w hw => Var_any so po (2 : Int) (by omega) (pl 2) (hrk 2 (by omega) (by omega)) (by omega) (L := [_]) (H.sel (l := [_, _, _, _, _, _, _]) (M := []) hw [1, 2, 3, 4, 5, 6, 0])) ?_; rintro _ _ ⟨s1, y1, rfl, rfl, ad1, hf1⟩; unfold sF; simp only [List.cons_append, List.nil_append]) | (refine J.o 5 ?_; first | (refine J.perm br3 ?_; refine J.t0 hΓ ?_) | (refine J.perm br4 ?_; refine J.t0 hΓ ?_) | (refine J.perm br5 ?_; refine J.t0 hΓ ?_) | (refine J.perm br6 ?_; refine J.t0 hΓ ?_) | (refine J.perm br7 ?_; refine J.t0 hΓ ?_))) | (first | (refine J.o 0 ?_; refine J.ev' hΓ ?_) | refine J.nil ?_ | (refine J.o 4 ?_; first | refine J.lR hΓ ?_) | (refine J.o 3 ?_; first | refine J.iA hΓ ?_ | refine J.ev' hΓ ?_) | (refine J.o 1 ?_; first | refine J.ad ?_) | (refine J.o 5 ?_; first | refine J.t0 hΓ ?_) | (refine J.o 7 ?_; refine J.al hΓ (fun _ => ?_)) | (refine J.o 8 ?_; refine J.bd hΓ ?_) | (refine J.o 10 ?_; refine J.ev' hΓ ?_) | (refine J.o 11 ?_; refine J.ev' hΓ ?_)) | ((fail_if_success refine J.wt ?_); refine J.gc rfl rfl (fun hc => ?_) (fun hc => ?_) <;> ((try simp only [decide_eq_true_eq, decide_eq_false_iff_not, beq_iff_eq, beq_eq_false_iff_ne, bne_iff_ne, bne_eq_false_iff_eq, Bool.not_eq_true', Bool.not_eq_false', Bool.not_eq_true, Bool.not_eq_false] at hc) <;> first | (first | (exact absurd rfl hc) | (exfalso; omega) | (exact absurd (hc.symm.trans (by assumption : _ = false)) (by decide)) | (exact absurd (hc.symm.trans (by assumption : _ = true)) (by decide))) | skip)))
      | (first | refine JC.seq ?_ | refine JC.region ?_ | refine JC.block ?_ | refine JC.ret ?_ | refine JC.exit ?_ | refine JC.skip ?_ | refine thenK.nn ?_ | refine thenK.x ?_ | refine blockK.nn ?_ | refine blockK.hit rfl ?_ | refine JC.condT rfl ?_ | refine JC.condF rfl ?_ | refine loopK.x ?_)
      | (fail)
      | fail
    all_goals first | (exfalso; omega) | skip
    have l1 := ad1.le
    refine loopK.nn (m1 - 1) (by omega) (by repeat (first | refine Ag.upd rfl ?_ | exact Ag.hv)) ⟨2 + 1, s1, fun j => if j = 2 then y1 else Y j, rfl, by omega, by omega, ad1.ok, by omega, fun j h1 h2 => ?_, fun j h1 => ?_, rfl⟩
    · show (if j = 2 then y1 else Y j) < s1.ns.length ∧ ∀ α, fn 4 s1.ns (if j = 2 then y1 else Y j) α = α (pl j)
      by_cases hj : j = 2
      · rw [if_pos hj, hj]; exact ⟨ad1.lt, hf1⟩
      · rw [if_neg hj]
        obtain ⟨g1, g2⟩ := hY j h1 (by omega)
        exact ⟨Nat.lt_of_lt_of_le g1 ad1.ext.le, fun α => by rw [fn_ext so.wf ad1.ext g1]; exact g2 α⟩
    · show (if j = 2 then y1 else Y j) = 0
      rw [if_neg (by omega)]; exact hY0 j (by omega)
  ·
    repeat' first
      | (refine J.isJ ?_; first | (first | (refine J.fc 14 ?_; refine J.callx eVarS rfl rfl (fun w hw => Var_any so po (3 : Int) (by omega) (pl 3) (hrk 3 (by omega) (by omega)) (by omega) (L := [_]) (H.sel (l := [_, _, _, _, _, _, _]) (M := []) hw [1, 2, 3, 4, 5, 6, 0])) ?_; rintro _ _ ⟨s1, y1, rfl, rfl, ad1, hf1⟩; unfold sF; simp only [List.cons_append, List.nil_append]) | (refine J.o 5 ?_; first | (refine J.perm br3 ?_; refine J.t0 hΓ ?_) | (refine J.perm br4 ?_; refine J.t0 hΓ ?_) | (refine J.perm br5 ?_; refine J.t0 hΓ ?_) | (refine J.perm br6 ?_; refine J.t0 hΓ ?_) | (refine J.perm br7 ?_; refine J.t0 hΓ ?_))) | (first | (refine J.o 0 ?_; refine J.ev' hΓ ?_) | refine J.nil ?_ | (refine J.o 4 ?_; first | refine J.lR hΓ ?_) | (refine J.o 3 ?_; first | refine J.iA hΓ ?_ | refine J.ev' hΓ ?_) | (refine J.o 1 ?_; first | refine J.ad ?_) | (refine J.o 5 ?_; first | refine J.t0 hΓ ?_) | (refine J.o 7 ?_; refine J.al hΓ (fun _ => ?_)) | (refine J.o 8 ?_; refine J.bd hΓ ?_) | (refine J.o 10 ?_; refine J.ev' hΓ ?_) | (refine J.o 11 ?_; refine J.ev' hΓ ?_)) | ((fail_if_success refine J.wt ?_); refine J.gc rfl rfl (fun hc => ?_) (fun hc => ?_) <;> ((try simp only [decide_eq_true_eq, decide_eq_false_iff_not, beq_iff_eq, beq_eq_false_iff_ne, bne_iff_ne, bne_eq_false_iff_eq, Bool.not_eq_true', Bool.not_eq_false', Bool.not_eq_true, Bool.not_eq_false] at hc) <;> first | (first | (exact absurd rfl hc) | (exfalso; omega) | (exact absurd (hc.symm.trans (by assumption : _ = false)) (by decide)) | (exact absurd (hc.symm.trans (by assumption : _ = true)) (by decide))) | skip)))
      | (first | refine JC.seq ?_ | refine JC.region ?_ | refine JC.block ?_ | refine JC.ret ?_ | refine JC.exit ?_ | refine JC.skip ?_ | refine thenK.nn ?_ | refine thenK.x ?_ | refine blockK.nn ?_ | refine blockK.hit rfl ?_ | refine JC.condT rfl ?_ | refine JC.condF rfl ?_ | refine loopK.x ?_)
      | (fail)
      | fail
    all_goals first | (exfalso; omega) | skip
    have l1 := ad1.le
    refine loopK.nn (m1 - 1) (by omega) (by repeat (first | refine Ag.upd rfl ?_ | exact Ag.hv)) ⟨3 + 1, s1, fun j => if j = 3 then y1 else Y j, rfl, by omega, by omega, ad1.ok, by omega, fun j h1 h2 => ?_, fun j h1 => ?_, rfl⟩
    · show (if j = 3 then y1 else Y j) < s1.ns.length ∧ ∀ α, fn 4 s1.ns (if j = 3 then y1 else Y j) α = α (pl j)
      by_cases hj : j = 3
      · rw [if_pos hj, hj]; exact ⟨ad1.lt, hf1⟩
      · rw [if_neg hj]
        obtain ⟨g1, g2⟩ := hY j h1 (by omega)
        exact ⟨Nat.lt_of_lt_of_le g1 ad1.ext.le, fun α => by rw [fn_ext so.wf ad1.ext g1]; exact g2 α⟩
    · show (if j = 3 then y1 else Y j) = 0
      rw [if_neg (by omega)]; exact hY0 j (by omega)
  ·
    repeat' first
      | (refine J.isJ ?_; first | (first | (refine J.fc 14 ?_; refine J.callx eVarS rfl rfl (fun w hw => Var_any so po (4 : Int) (by omega) (pl 4) (hrk 4 (by omega) (by omega)) (by omega) (L := [_]) (H.sel (l := [_, _, _, _, _, _, _]) (M := []) hw [1, 2, 3, 4, 5, 6, 0])) ?_; rintro _ _ ⟨s1, y1, rfl, rfl, ad1, hf1⟩; unfold sF; simp only [List.cons_append, List.nil_append]) | (refine J.o 5 ?_; first | (refine J.perm br3 ?_; refine J.t0 hΓ ?_) | (refine J.perm br4 ?_; refine J.t0 hΓ ?_) | (refine J.perm br5 ?_; refine J.t0 hΓ ?_) | (refine J.perm br6 ?_; refine J.t0 hΓ ?_) | (refine J.perm br7 ?_; refine J.t0 hΓ ?_))) | (first | (refine J.o 0 ?_; refine J.ev' hΓ ?_) | refine J.nil ?_ | (refine J.o 4 ?_; first | refine J.lR hΓ ?_) | (refine J.o 3 ?_; first | refine J.iA hΓ ?_ | refine J.ev' hΓ ?_) | (refine J.o 1 ?_; first | refine J.ad ?_) | (refine J.o 5 ?_; first | refine J.t0 hΓ ?_) | (refine J.o 7 ?_; refine J.al hΓ (fun _ => ?_)) | (refine J.o 8 ?_; refine J.bd hΓ ?_) | (refine J.o 10 ?_; refine J.ev' hΓ ?_) | (refine J.o 11 ?_; refine J.ev' hΓ ?_)) | ((fail_if_success refine J.wt ?_); refine J.gc rfl rfl (fun hc => ?_) (fun hc => ?_) <;> ((try simp only [decide_eq_true_eq, decide_eq_false_iff_not, beq_iff_eq, beq_eq_false_iff_ne, bne_iff_ne, bne_eq_false_iff_eq, Bool.not_eq_true', Bool.not_eq_false', Bool.not_eq_true, Bool.not_eq_false] at hc) <;> first | (first | (exact absurd rfl hc) | (exfalso; omega) | (exact absurd (hc.symm.trans (by assumption : _ = false)) (by decide)) | (exact absurd (hc.symm.trans (by assumption : _ = true)) (by decide))) | skip)))
      | (first | refine JC.seq ?_ | refine JC.region ?_ | refine JC.block ?_ | refine JC.ret ?_ | refine JC.exit ?_ | refine JC.skip ?_ | refine thenK.nn ?_ | refine thenK.x ?_ | refine blockK.nn ?_ | refine blockK.hit rfl ?_ | refine JC.condT rfl ?_ | refine JC.condF rfl ?_ | refine loopK.x ?_)
      | (fail)
      | fail
    all_goals first | (exfalso; omega) | skip
    have l1 := ad1.le
    refine loopK.nn (m1 - 1) (by omega) (by repeat (first | refine Ag.upd rfl ?_ | exact Ag.hv)) ⟨4 + 1, s1, fun j => if j = 4 then y1 else Y j, rfl, by omega, by omega, ad1.ok, by omega, fun j h1 h2 => ?_, fun j h1 => ?_, rfl⟩
    · show (if j = 4 then y1 else Y j) < s1.ns.length ∧ ∀ α, fn 4 s1.ns (if j = 4 then y1 else Y j) α = α (pl j)
      by_cases hj : j = 4
      · rw [if_pos hj, hj]; exact ⟨ad1.lt, hf1⟩
      · rw [if_neg hj]
        obtain ⟨g1, g2⟩ := hY j h1 (by omega)
        exact ⟨Nat.lt_of_lt_of_le g1 ad1.ext.le, fun α => by rw [fn_ext so.wf ad1.ext g1]; exact g2 α⟩
    · show (if j = 4 then y1 else Y j) = 0
      rw [if_neg (by omega)]; exact hY0 j (by omega)
def plA (j : Nat) : Nat := j - 1
def plB (j : Nat) : Nat := if j = 2 then 2 else if j = 3 then 1 else j - 1
theorem works_any (w : World) : Calls Tryz.prog 5 #[] w fun e w' => e = .returned (.bool true) ∧ Below w.heap.size w w' := by
  have cA := fun b w => sized_any [1, 2, 3, 4] (some ⟨b, 0, none⟩) 4 _ (slArg b [1, 2, 3, 4] 3) ⟨by decide, by decide⟩ rfl plA (fun j h1 h2 => by rcases (by omega : j = 1 ∨ j = 2 ∨ j = 3 ∨ j = 4) with rfl | rfl | rfl | rfl <;> rfl) 4 (by decide +kernel) (by decide +kernel) w
  have cB := fun b w => sized_any [1, 3, 2, 4] (some ⟨b, 0, none⟩) 4 _ (slArg b [1, 3, 2, 4] 3) ⟨by decide, by decide⟩ rfl plB (fun j h1 h2 => by rcases (by omega : j = 1 ∨ j = 2 ∨ j = 3 ∨ j = 4) with rfl | rfl | rfl | rfl <;> rfl) 6 (by decide +kernel) (by decide +kernel) w
  refine calls_of_JC (R := []) Tryz.func5 Tryz.ntmps5 rfl rfl (Holds.nil _) ?_
  repeat' first
    | (refine J.isJ ?_; first | (first | (refine J.o 9 ?_; refine J.bl hΓ (fun b1 => ?_)) | (refine J.fc 10 ?_; refine J.call0 eSized rfl rfl (fun w hw => cA _ w (hw.rdH RdH.hd)) ?_) | (refine J.fc 10 ?_; refine J.call0 eSized rfl rfl (fun w hw => cB _ w (hw.rdH RdH.hd)) ?_)) | (first | (refine J.o 0 ?_; refine J.ev' hΓ ?_) | refine J.nil ?_ | (refine J.o 3 ?_; first | refine J.ev' hΓ ?_) | (refine J.o 9 ?_; refine J.bl hΓ (fun _ => ?_)) | (refine J.o 10 ?_; refine J.ev' hΓ ?_) | (refine J.o 11 ?_; refine J.ev' hΓ ?_)))
    | (first | refine JC.seq ?_ | refine JC.region ?_ | refine JC.ret ?_ | refine thenK.nn ?_)
    | fail
  all_goals first | (exfalso; omega) | skip
  all_goals (refine ret1f rfl rfl rfl (fun w1 hw => ⟨rfl, hw.below⟩))
end Go.Proofs.YthnhijdfcmcnhaaGreat
namespace Go.Proofs.YthnhijdfcmcnhaaGreat
open Go Go.Cx Go.RowKit
set_option linter.unusedVariables false
set_option linter.unusedSimpArgs false
set_option maxHeartbeats 4000000
attribute [local irreducible] J JC thenK blockK loopK drawK retK QW Qt pel List.set Calls
set_option maxRecDepth 8000
attribute [local irreducible] JE Br eK0 eK3 brK pc
theorem shr_bit (a j : Nat) : (((a / 2 ^ j : Nat) : Int) % 2 == 1) = a.testBit j := by
  rw [Nat.testBit_eq_decide_div_mod_eq]
  have e : ((a / 2 ^ j : Nat) : Int) % 2 = ((a / 2 ^ j % 2 : Nat) : Int) := by omega
  rw [e]
  by_cases h : a / 2 ^ j % 2 = 1
  · rw [h]; rfl
  · have : a / 2 ^ j % 2 = 0 := by omega
    rw [this]; rfl
theorem refHas_any (s : Nat × Nat) (hs : okS s) (v : Int) (w : World) :
    Calls Tryz.prog 86 #[sv s, .int .i64 v] w fun e w' => e = .returned (.bool (hasB s v)) ∧ Below w.heap.size w w' := by
  obtain ⟨h1, h2⟩ := hs
  unfold hasB
  by_cases hl : 1 ≤ v ∧ v ≤ 64
  · have e1 : (v - 1) / 64 = 0 := by omega
    have e2 : (v - 1) % 64 = v - 1 := by omega
    refine calls_of_JC (R := []) Tryz.func86 Tryz.ntmps86 rfl rfl (Holds.nil _) ?_
    repeat' first
      | (refine J.isJ ?_; (first | (first | (refine J.o 0 ?_; refine J.ev' hΓ ?_) | refine J.nil ?_ | refine J.kd ?_ | (refine J.o 4 ?_; first | refine J.e0 hΓ ?_) | (refine J.o 3 ?_; first | refine J.iA hΓ ?_ | refine J.ev' hΓ ?_) | (refine J.o 1 ?_; first | refine J.sb ?_ | refine J.qu ?_ | refine J.rm ?_ | refine J.sr ?_) | (refine J.o 2 ?_; refine J.cv _ hΓ ?_) | (refine J.o 6 ?_; refine J.bx (fun _ => ?_)) | (refine J.o 10 ?_; first | refine J.ev' hΓ ?_) | (refine J.o 11 ?_; first | refine J.ev' hΓ ?_)) | ((fail_if_success refine J.wt ?_); refine J.gc rfl rfl (fun hc => ?_) (fun hc => ?_) <;> ((try simp only [decide_eq_true_eq, decide_eq_false_iff_not, beq_iff_eq, beq_eq_false_iff_ne, bne_iff_ne, bne_eq_false_iff_eq, Bool.not_eq_true', Bool.not_eq_false', Bool.not_eq_true, Bool.not_eq_false] at hc) <;> first | (first | (exact absurd rfl hc) | (exfalso; omega) | (exact absurd (hc.symm.trans (by assumption : _ = false)) (by decide)) | (exact absurd (hc.symm.trans (by assumption : _ = true)) (by decide))) | skip))))
      | (first | refine JC.seq ?_ | refine JC.region ?_ | refine JC.ret ?_ | refine JC.skip ?_ | refine thenK.nn ?_ | refine thenK.r ?_ | refine JC.condT rfl ?_ | (refine JC.cond rfl (fun hc => ?_) (fun hc => ?_) <;> ((try simp only [decide_eq_true_eq, decide_eq_false_iff_not, beq_iff_eq, beq_eq_false_iff_ne, bne_iff_ne, bne_eq_false_iff_eq, Bool.not_eq_true', Bool.not_eq_false', Bool.not_eq_true, Bool.not_eq_false] at hc) <;> first | (first | (exact absurd rfl hc) | (exfalso; omega) | (exact absurd (hc.symm.trans (by assumption : _ = false)) (by decide)) | (exact absurd (hc.symm.trans (by assumption : _ = true)) (by decide))) | skip)))
      | fail
    all_goals first | (exfalso; omega) | skip
    all_goals (refine ret1f rfl rfl rfl (fun w1 hw => ⟨retB ?_, hw.below⟩))
    rw [if_pos hl, ← shr_bit, e2]
  by_cases hh : 65 ≤ v ∧ v ≤ 128
  · have e1 : (v - 1) / 64 = 1 := by omega
    have e2 : (v - 1) % 64 = v - 65 := by omega
    refine calls_of_JC (R := []) Tryz.func86 Tryz.ntmps86 rfl rfl (Holds.nil _) ?_
    repeat' first
      | (refine J.isJ ?_; (first | (first | (refine J.o 0 ?_; refine J.ev' hΓ ?_) | refine J.nil ?_ | refine J.kd ?_ | (refine J.o 4 ?_; first | refine J.e0 hΓ ?_) | (refine J.o 3 ?_; first | refine J.iA hΓ ?_ | refine J.ev' hΓ ?_) | (refine J.o 1 ?_; first | refine J.sb ?_ | refine J.qu ?_ | refine J.rm ?_ | refine J.sr ?_) | (refine J.o 2 ?_; refine J.cv _ hΓ ?_) | (refine J.o 6 ?_; refine J.bx (fun _ => ?_)) | (refine J.o 10 ?_; first | refine J.ev' hΓ ?_) | (refine J.o 11 ?_; first | refine J.ev' hΓ ?_)) | ((fail_if_success refine J.wt ?_); refine J.gc rfl rfl (fun hc => ?_) (fun hc => ?_) <;> ((try simp only [decide_eq_true_eq, decide_eq_false_iff_not, beq_iff_eq, beq_eq_false_iff_ne, bne_iff_ne, bne_eq_false_iff_eq, Bool.not_eq_true', Bool.not_eq_false', Bool.not_eq_true, Bool.not_eq_false] at hc) <;> first | (first | (exact absurd rfl hc) | (exfalso; omega) | (exact absurd (hc.symm.trans (by assumption : _ = false)) (by decide)) | (exact absurd (hc.symm.trans (by assumption : _ = true)) (by decide))) | skip))))
      | (first | refine JC.seq ?_ | refine JC.region ?_ | refine JC.ret ?_ | refine JC.skip ?_ | refine thenK.nn ?_ | refine thenK.r ?_ | refine JC.condT rfl ?_ | (refine JC.cond rfl (fun hc => ?_) (fun hc => ?_) <;> ((try simp only [decide_eq_true_eq, decide_eq_false_iff_not, beq_iff_eq, beq_eq_false_iff_ne, bne_iff_ne, bne_eq_false_iff_eq, Bool.not_eq_true', Bool.not_eq_false', Bool.not_eq_true, Bool.not_eq_false] at hc) <;> first | (first | (exact absurd rfl hc) | (exfalso; omega) | (exact absurd (hc.symm.trans (by assumption : _ = false)) (by decide)) | (exact absurd (hc.symm.trans (by assumption : _ = true)) (by decide))) | skip)))
      | fail
    all_goals first | (exfalso; omega) | skip
    all_goals (refine ret1f rfl rfl rfl (fun w1 hw => ⟨retB ?_, hw.below⟩))
    rw [if_neg hl, if_pos hh, ← shr_bit, e2]
  rw [if_neg hl, if_neg hh]
  refine calls_of_JC (R := []) Tryz.func86 Tryz.ntmps86 rfl rfl (Holds.nil _) ?_
  repeat' first
    | (refine J.isJ ?_; (first | (first | (refine J.o 0 ?_; refine J.ev' hΓ ?_) | refine J.nil ?_ | refine J.kd ?_ | (refine J.o 4 ?_; first | refine J.e0 hΓ ?_) | (refine J.o 3 ?_; first | refine J.iA hΓ ?_ | refine J.ev' hΓ ?_) | (refine J.o 1 ?_; first | refine J.sb ?_ | refine J.qu ?_ | refine J.rm ?_ | refine J.sr ?_) | (refine J.o 2 ?_; refine J.cv _ hΓ ?_) | (refine J.o 6 ?_; refine J.bx (fun _ => ?_)) | (refine J.o 10 ?_; first | refine J.ev' hΓ ?_) | (refine J.o 11 ?_; first | refine J.ev' hΓ ?_)) | ((fail_if_success refine J.wt ?_); refine J.gc rfl rfl (fun hc => ?_) (fun hc => ?_) <;> ((try simp only [decide_eq_true_eq, decide_eq_false_iff_not, beq_iff_eq, beq_eq_false_iff_ne, bne_iff_ne, bne_eq_false_iff_eq, Bool.not_eq_true', Bool.not_eq_false', Bool.not_eq_true, Bool.not_eq_false] at hc) <;> first | (first | (exact absurd rfl hc) | (exfalso; omega) | (exact absurd (hc.symm.trans (by assumption : _ = false)) (by decide)) | (exact absurd (hc.symm.trans (by assumption : _ = true)) (by decide))) | skip))))
    | (first | refine JC.seq ?_ | refine JC.region ?_ | refine JC.ret ?_ | refine JC.skip ?_ | refine thenK.nn ?_ | refine thenK.r ?_ | refine JC.condT rfl ?_ | (refine JC.cond rfl (fun hc => ?_) (fun hc => ?_) <;> ((try simp only [decide_eq_true_eq, decide_eq_false_iff_not, beq_iff_eq, beq_eq_false_iff_ne, bne_iff_ne, bne_eq_false_iff_eq, Bool.not_eq_true', Bool.not_eq_false', Bool.not_eq_true, Bool.not_eq_false] at hc) <;> first | (first | (exact absurd rfl hc) | (exfalso; omega) | (exact absurd (hc.symm.trans (by assumption : _ = false)) (by decide)) | (exact absurd (hc.symm.trans (by assumption : _ = true)) (by decide))) | skip)))
    | fail
  all_goals first | (exfalso; omega) | exact ret1f rfl rfl rfl (fun w1 hw => ⟨rfl, hw.below⟩)
theorem eHasR : Entr Tryz.prog 86 := Entr.of Tryz.func86 rfl rfl
def Sls {α : Type} (enc : α → List Value) (size : Nat) (e : TypeId) (ts : List α) (v : Value) (h : Heap) : Prop := ∃ a cap, v = .slice a ts.length cap ∧ OwT enc size e a cap ts h
theorem drop_one {α : Type} [Inhabited α] (ts : List α) (k : Nat) (hk : k < ts.length) : ts.drop k = ts.getD k default :: ts.drop (k + 1) := by
  rw [List.drop_eq_getElem_cons hk, List.getD_eq_getElem?_getD, List.getElem?_eq_getElem hk]; rfl
theorem ok_with {s : Nat × Nat} (h : okS s) (v : Int) : okS (withS s v) := by
  unfold withS
  split
  · exact ⟨Nat.or_lt_two_pow h.1 (pow64 (by omega)), h.2⟩
  · split
    · exact ⟨h.1, Nat.or_lt_two_pow h.2 (pow64 (by omega))⟩
    · exact h
def encBo (b : Bool) : List Value := [.bool b]
theorem set_ext {a b : Nat × Nat} (ha : okS a) (hb : okS b) (h : ∀ u : Int, 1 ≤ u → u ≤ 128 → hasB a u = hasB b u) : a = b := by
  obtain ⟨a1, a2⟩ := a
  obtain ⟨b1, b2⟩ := b
  have big : ∀ (x : Nat) (i : Nat), x < 2 ^ 64 → 64 ≤ i → x.testBit i = false := fun x i hx hi => Nat.testBit_lt_two_pow (Nat.lt_of_lt_of_le hx (Nat.pow_le_pow_right (by omega) hi))
  congr 1
  · apply Nat.eq_of_testBit_eq
    intro i
    by_cases hi : i < 64
    · have := h ((i : Int) + 1) (by omega) (by omega)
      unfold hasB at this
      rw [if_pos (by omega), if_pos (by omega)] at this
      have e : ((i : Int) + 1 - 1).toNat = i := by omega
      rw [e] at this
      exact this
    · rw [big a1 i ha.1 (by omega), big b1 i hb.1 (by omega)]
  · apply Nat.eq_of_testBit_eq
    intro i
    by_cases hi : i < 64
    · have := h ((i : Int) + 65) (by omega) (by omega)
      unfold hasB at this
      rw [if_neg (by omega), if_pos (by omega), if_neg (by omega), if_pos (by omega)] at this
      have e : ((i : Int) + 65 - 65).toNat = i := by omega
      rw [e] at this
      exact this
    · rw [big a2 i ha.2 (by omega), big b2 i hb.2 (by omega)]
def setL : List Bool → Int → Nat × Nat → Nat × Nat
  | [], _, s => s
  | b :: bs, v, s => setL bs (v + 1) (if b then withS s v else s)
def setP (l : List Bool) : Nat × Nat := setL (l.drop 1) 1 (0, 0)
theorem setL_ok : ∀ (l : List Bool) (v : Int) (s : Nat × Nat), okS s → okS (setL l v s)
  | [], _, s, h => h
  | b :: bs, v, s, h => by
    rw [setL]
    refine setL_ok bs (v + 1) _ ?_
    split
    · exact ok_with h v
    · exact h
theorem setP_ok (l : List Bool) : okS (setP l) := setL_ok _ _ _ ⟨by decide, by decide⟩
theorem setL_has : ∀ (l : List Bool) (v : Int) (s : Nat × Nat) (u : Int), 1 ≤ v → v + l.length ≤ 129 → (hasB (setL l v s) u = true ↔ hasB s u = true ∨ (v ≤ u ∧ u < v + l.length ∧ l.getD (u - v).toNat false = true))
  | [], v, s, u, h0, h1 => by
    rw [setL]
    constructor
    · exact fun h => .inl h
    · rintro (h | ⟨_, h, _⟩)
      · exact h
      · simp at h; omega
  | b :: bs, v, s, u, h0, h1 => by
    rw [List.length_cons] at h1
    rw [setL, setL_has bs (v + 1) _ u (by omega) (by omega)]
    have hg : ∀ w : Int, v + 1 ≤ w → (b :: bs).getD (w - v).toNat false = bs.getD (w - (v + 1)).toNat false := fun w hw => by
      have : (w - v).toNat = (w - (v + 1)).toNat + 1 := by omega
      rw [this]; rfl
    have hw := has_with s v u ⟨h0, by omega⟩
    rw [List.length_cons]
    constructor
    · rintro (h | ⟨h2, h3, h4⟩)
      · cases b with
        | true =>
          rcases hw.1 h with h | rfl
          · exact .inl h
          · exact .inr ⟨Int.le_refl _, by omega, by rw [Int.sub_self]; rfl⟩
        | false => exact .inl h
      · exact .inr ⟨by omega, by omega, by rw [hg u (by omega)]; exact h4⟩
    · rintro (h | ⟨h2, h3, h4⟩)
      · left
        cases b with
        | true => exact hw.2 (.inl h)
        | false => exact h
      · by_cases hu : u = v
        · subst hu
          rw [Int.sub_self] at h4
          have hb : b = true := h4
          subst hb
          exact .inl (hw.2 (.inr rfl))
        · rw [hg u (by omega)] at h4
          exact .inr ⟨by omega, by omega, h4⟩
theorem setP_has (l : List Bool) (hl : l.length = 129) (u : Int) : hasB (setP l) u = true ↔ 1 ≤ u ∧ u ≤ 128 ∧ l.getD u.toNat false = true := by
  unfold setP
  have hdl : (l.drop 1).length = 128 := by rw [List.length_drop, hl]
  rw [setL_has _ _ _ _ (by omega) (by rw [hdl]; omega), hdl]
  have h0 : hasB (0, 0) u = false := by unfold hasB; simp
  rw [h0]
  constructor
  · rintro (h | ⟨h1, h2, h3⟩)
    · cases h
    · refine ⟨h1, by omega, ?_⟩
      rw [List.getD_eq_getElem?_getD, List.getElem?_drop] at h3
      rw [List.getD_eq_getElem?_getD]
      have : 1 + (u - 1).toNat = u.toNat := by omega
      rw [this] at h3
      exact h3
  · rintro ⟨h1, h2, h3⟩
    refine .inr ⟨h1, by omega, ?_⟩
    rw [List.getD_eq_getElem?_getD, List.getElem?_drop]
    rw [List.getD_eq_getElem?_getD] at h3
    have : 1 + (u - 1).toNat = u.toNat := by omega
    rw [this]
    exact h3
theorem eNone3 : Entr Tryz.prog 71 := Entr.of Tryz.func71 rfl rfl
theorem eSet3 : Entr Tryz.prog 72 := Entr.of Tryz.func72 rfl rfl
theorem none_any (w : World) : Calls Tryz.prog 71 #[] w (Gives (fun v h => ∃ b, v = .slice (some ⟨b, 0, none⟩) 129 129 ∧ OwT encBo 1 4 (some ⟨b, 0, none⟩) 129 (List.replicate 129 false) h) w) := by
  refine calls_of_JC (R := []) Tryz.func71 Tryz.ntmps71 rfl rfl (Holds.nil _) ?_
  repeat' first
    | (refine J.isJ ?_; first | (first | (refine J.o 0 ?_; refine J.ev' hΓ ?_) | refine J.nil ?_ | (refine J.o 3 ?_; first | refine J.ev' hΓ ?_) | (refine J.o 10 ?_; first | refine J.ev' hΓ ?_) | (refine J.o 11 ?_; first | refine J.ev' hΓ ?_)) | ((refine J.make (enc := encBo) (m := 129) false hΓ rfl rfl rfl rfl rfl rfl (fun _ => rfl) (by omega) (by omega) (fun bp hp0 op0 => ?_))))
    | (first | refine JC.seq ?_ | refine JC.region ?_ | refine JC.ret ?_ | refine thenK.nn ?_)
    | fail
  all_goals exact ret1f rfl rfl rfl (fun w1 hw => Gives.of hw ⟨_, rfl, op0⟩)
theorem set_any (a : Option Addr) (cap : Nat) (l : List Bool) (h : Heap) (hs : SlT encBo 1 a l h) (hl : l.length = 129) (w : World) (hw : Holds h w) :
    Calls Tryz.prog 72 #[.slice a l.length cap] w fun e w' => e = .returned (sv (setP l)) ∧ Below w.heap.size w w' := by
  refine calls_of_JC (R := h) Tryz.func72 Tryz.ntmps72 rfl rfl (hw) ?_
  repeat' first
    | (refine J.isJ ?_; (first | (first | (refine J.o 0 ?_; refine J.ev' hΓ ?_) | refine J.nil ?_ | (refine J.o 4 ?_; first | refine J.e0 hΓ ?_ | refine J.lT default hΓ ?_) | (refine J.o 3 ?_; first | refine J.iA hΓ ?_ | refine J.iJ hΓ ?_ | refine J.ev' hΓ ?_) | (refine J.o 1 ?_; first | refine J.ad ?_ | refine J.sb ?_ | refine J.qu ?_ | refine J.rm ?_ | refine J.s1 ?_ | refine J.oW ?_) | (refine J.o 2 ?_; refine J.cv _ hΓ ?_) | (refine J.o 5 ?_; first | refine J.t0 hΓ ?_ | refine J.t1 hΓ ?_) | (refine J.o 7 ?_; refine J.al hΓ (fun _ => ?_)) | (refine J.o 10 ?_; first | refine J.ev' hΓ ?_) | (refine J.o 11 ?_; first | refine J.ev' hΓ ?_))))
    | (first | refine JC.seq ?_ | refine JC.region ?_ | refine JC.block ?_ | refine JC.ret ?_ | refine JC.exit ?_ | refine JC.skip ?_ | refine thenK.nn ?_ | refine thenK.x ?_ | refine blockK.nn ?_ | refine blockK.hit rfl ?_ | (refine JC.cond rfl (fun hc => ?_) (fun hc => ?_) <;> ((try simp only [decide_eq_true_eq, decide_eq_false_iff_not, beq_iff_eq, beq_eq_false_iff_ne, bne_iff_ne, bne_eq_false_iff_eq, Bool.not_eq_true', Bool.not_eq_false', Bool.not_eq_true, Bool.not_eq_false] at hc) <;> first | (first | (exact absurd rfl hc) | (exfalso; omega) | (exact absurd (hc.symm.trans (by assumption : _ = false)) (by decide)) | (exact absurd (hc.symm.trans (by assumption : _ = true)) (by decide))) | skip)) | refine loopK.x ?_)
    | fail
  rename_i b2 b3
  refine JC.loop (fun i => i == 4 || Nat.ble 5 i) (fun m g L' => ∃ (k : Nat) (s : Nat × Nat), g 4 = .int .i64 (k : Int) ∧ k + m = 129 ∧ 1 ≤ k ∧ okS s ∧ setL (l.drop k) k s = setP l ∧ L' = [[(b3, .cells ⟨[.int .u64 (s.1 : Int), .int .u64 (s.2 : Int)]⟩ _ (0, 0))], _]) 128 ⟨1, (0, 0), rfl, by omega, by omega, ⟨by decide, by decide⟩, rfl, rfl⟩ ?_
  rintro m g L' ⟨k, s, e4, hkm, hk1, hok, hch, rfl⟩
  refine JC.pin 4 e4 ?_
  clear e4
  obtain ⟨o1, o2⟩ := hok
  by_cases hk : k < 129
  case neg =>
    rw [List.drop_eq_nil_of_le (by omega), setL] at hch
    rw [← hch]
    repeat' first
      | (refine J.isJ ?_; (first | (first | (refine J.o 0 ?_; refine J.ev' hΓ ?_) | refine J.nil ?_ | (refine J.o 4 ?_; first | refine J.e0 hΓ ?_ | refine J.lT default hΓ ?_) | (refine J.o 3 ?_; first | refine J.iA hΓ ?_ | refine J.iJ hΓ ?_ | refine J.ev' hΓ ?_) | (refine J.o 1 ?_; first | refine J.ad ?_ | refine J.sb ?_ | refine J.qu ?_ | refine J.rm ?_ | refine J.s1 ?_ | refine J.oW ?_) | (refine J.o 2 ?_; refine J.cv _ hΓ ?_) | (refine J.o 5 ?_; first | refine J.t0 hΓ ?_ | refine J.t1 hΓ ?_) | (refine J.o 7 ?_; refine J.al hΓ (fun _ => ?_)) | (refine J.o 10 ?_; first | refine J.ev' hΓ ?_) | (refine J.o 11 ?_; first | refine J.ev' hΓ ?_))))
      | (first | refine JC.seq ?_ | refine JC.region ?_ | refine JC.block ?_ | refine JC.ret ?_ | refine JC.exit ?_ | refine JC.skip ?_ | refine thenK.nn ?_ | refine thenK.x ?_ | refine blockK.nn ?_ | refine blockK.hit rfl ?_ | (refine JC.cond rfl (fun hc => ?_) (fun hc => ?_) <;> ((try simp only [decide_eq_true_eq, decide_eq_false_iff_not, beq_iff_eq, beq_eq_false_iff_ne, bne_iff_ne, bne_eq_false_iff_eq, Bool.not_eq_true', Bool.not_eq_false', Bool.not_eq_true, Bool.not_eq_false] at hc) <;> first | (first | (exact absurd rfl hc) | (exfalso; omega) | (exact absurd (hc.symm.trans (by assumption : _ = false)) (by decide)) | (exact absurd (hc.symm.trans (by assumption : _ = true)) (by decide))) | skip)) | refine loopK.x ?_)
      | fail
    all_goals first | (exfalso; omega) | exact retC hΓ rfl rfl rfl Rd.hd.tl rfl (fun w1 hw => ⟨rfl, hw.below⟩)
  have hdr : l.drop k = l.getD k default :: l.drop (k + 1) := drop_one l k (by omega)
  rw [hdr, setL] at hch
  cases hb : l.getD k default with
  | false =>
    rw [hb] at hch
    repeat' first
      | (refine J.isJ ?_; (first | (first | (refine J.o 0 ?_; refine J.ev' hΓ ?_) | refine J.nil ?_ | (refine J.o 4 ?_; first | refine J.e0 hΓ ?_ | refine J.lT default hΓ ?_) | (refine J.o 3 ?_; first | refine J.iA hΓ ?_ | refine J.iJ hΓ ?_ | refine J.ev' hΓ ?_) | (refine J.o 1 ?_; first | refine J.ad ?_ | refine J.sb ?_ | refine J.qu ?_ | refine J.rm ?_ | refine J.s1 ?_ | refine J.oW ?_) | (refine J.o 2 ?_; refine J.cv _ hΓ ?_) | (refine J.o 5 ?_; first | refine J.t0 hΓ ?_ | refine J.t1 hΓ ?_) | (refine J.o 7 ?_; refine J.al hΓ (fun _ => ?_)) | (refine J.o 10 ?_; first | refine J.ev' hΓ ?_) | (refine J.o 11 ?_; first | refine J.ev' hΓ ?_))))
      | (first | refine JC.seq ?_ | refine JC.region ?_ | refine JC.block ?_ | refine JC.ret ?_ | refine JC.exit ?_ | refine JC.skip ?_ | refine thenK.nn ?_ | refine thenK.x ?_ | refine blockK.nn ?_ | refine blockK.hit rfl ?_ | (refine JC.cond rfl (fun hc => ?_) (fun hc => ?_) <;> ((try simp only [decide_eq_true_eq, decide_eq_false_iff_not, beq_iff_eq, beq_eq_false_iff_ne, bne_iff_ne, bne_eq_false_iff_eq, Bool.not_eq_true', Bool.not_eq_false', Bool.not_eq_true, Bool.not_eq_false] at hc) <;> first | (first | (exact absurd rfl hc) | (exfalso; omega) | (exact absurd (hc.symm.trans (by assumption : _ = false)) (by decide)) | (exact absurd (hc.symm.trans (by assumption : _ = true)) (by decide))) | skip)) | refine loopK.x ?_)
      | fail
    all_goals first | (exfalso; omega) | (rw [hb] at hc; cases hc; done) | skip
    all_goals refine loopK.nn (m - 1) (by omega) (by repeat (first | refine Ag.upd rfl ?_ | exact Ag.hv)) ⟨k + 1, s, ?_, by omega, by omega, ⟨o1, o2⟩, hch, rfl⟩
    all_goals (show Value.int .i64 _ = _; congr 1)
  | true =>
    rw [hb, if_pos rfl] at hch
    have hok' := ok_with ⟨o1, o2⟩ (k : Int)
    by_cases h64 : k ≤ 64
    · have hwv : withS s k = (s.1 ||| 2 ^ ((k : Int) - 1).toNat, s.2) := by unfold withS; rw [if_pos (by omega)]
      have e2 : ((k : Int) - 1) % 64 = (k : Int) - 1 := by omega
      repeat' first
        | (refine J.isJ ?_; (first | (first | (refine J.o 0 ?_; refine J.ev' hΓ ?_) | refine J.nil ?_ | (refine J.o 4 ?_; first | refine J.e0 hΓ ?_ | refine J.lT default hΓ ?_) | (refine J.o 3 ?_; first | refine J.iA hΓ ?_ | refine J.iJ hΓ ?_ | refine J.ev' hΓ ?_) | (refine J.o 1 ?_; first | refine J.ad ?_ | refine J.sb ?_ | refine J.qu ?_ | refine J.rm ?_ | refine J.s1 ?_ | refine J.oW ?_) | (refine J.o 2 ?_; refine J.cv _ hΓ ?_) | (refine J.o 5 ?_; first | refine J.t0 hΓ ?_ | refine J.t1 hΓ ?_) | (refine J.o 7 ?_; refine J.al hΓ (fun _ => ?_)) | (refine J.o 10 ?_; first | refine J.ev' hΓ ?_) | (refine J.o 11 ?_; first | refine J.ev' hΓ ?_))))
        | (first | refine JC.seq ?_ | refine JC.region ?_ | refine JC.block ?_ | refine JC.ret ?_ | refine JC.exit ?_ | refine JC.skip ?_ | refine thenK.nn ?_ | refine thenK.x ?_ | refine blockK.nn ?_ | refine blockK.hit rfl ?_ | (refine JC.cond rfl (fun hc => ?_) (fun hc => ?_) <;> ((try simp only [decide_eq_true_eq, decide_eq_false_iff_not, beq_iff_eq, beq_eq_false_iff_ne, bne_iff_ne, bne_eq_false_iff_eq, Bool.not_eq_true', Bool.not_eq_false', Bool.not_eq_true, Bool.not_eq_false] at hc) <;> first | (first | (exact absurd rfl hc) | (exfalso; omega) | (exact absurd (hc.symm.trans (by assumption : _ = false)) (by decide)) | (exact absurd (hc.symm.trans (by assumption : _ = true)) (by decide))) | skip)) | refine loopK.x ?_)
        | fail
      all_goals first | (exfalso; omega) | (rw [hb] at hc; cases hc; done) | skip
      all_goals refine loopK.nn (m - 1) (by omega) (by repeat (first | refine Ag.upd rfl ?_ | exact Ag.hv)) ⟨k + 1, _, ?_, by omega, by omega, hok', hch, by rw [hwv, e2]⟩
      all_goals (show Value.int .i64 _ = _; congr 1)
    · have hwv : withS s k = (s.1, s.2 ||| 2 ^ ((k : Int) - 65).toNat) := by unfold withS; rw [if_neg (by omega), if_pos (by omega)]
      have e2 : ((k : Int) - 1) % 64 = (k : Int) - 65 := by omega
      repeat' first
        | (refine J.isJ ?_; (first | (first | (refine J.o 0 ?_; refine J.ev' hΓ ?_) | refine J.nil ?_ | (refine J.o 4 ?_; first | refine J.e0 hΓ ?_ | refine J.lT default hΓ ?_) | (refine J.o 3 ?_; first | refine J.iA hΓ ?_ | refine J.iJ hΓ ?_ | refine J.ev' hΓ ?_) | (refine J.o 1 ?_; first | refine J.ad ?_ | refine J.sb ?_ | refine J.qu ?_ | refine J.rm ?_ | refine J.s1 ?_ | refine J.oW ?_) | (refine J.o 2 ?_; refine J.cv _ hΓ ?_) | (refine J.o 5 ?_; first | refine J.t0 hΓ ?_ | refine J.t1 hΓ ?_) | (refine J.o 7 ?_; refine J.al hΓ (fun _ => ?_)) | (refine J.o 10 ?_; first | refine J.ev' hΓ ?_) | (refine J.o 11 ?_; first | refine J.ev' hΓ ?_))))
        | (first | refine JC.seq ?_ | refine JC.region ?_ | refine JC.block ?_ | refine JC.ret ?_ | refine JC.exit ?_ | refine JC.skip ?_ | refine thenK.nn ?_ | refine thenK.x ?_ | refine blockK.nn ?_ | refine blockK.hit rfl ?_ | (refine JC.cond rfl (fun hc => ?_) (fun hc => ?_) <;> ((try simp only [decide_eq_true_eq, decide_eq_false_iff_not, beq_iff_eq, beq_eq_false_iff_ne, bne_iff_ne, bne_eq_false_iff_eq, Bool.not_eq_true', Bool.not_eq_false', Bool.not_eq_true, Bool.not_eq_false] at hc) <;> first | (first | (exact absurd rfl hc) | (exfalso; omega) | (exact absurd (hc.symm.trans (by assumption : _ = false)) (by decide)) | (exact absurd (hc.symm.trans (by assumption : _ = true)) (by decide))) | skip)) | refine loopK.x ?_)
        | fail
      all_goals first | (exfalso; omega) | (rw [hb] at hc; cases hc; done) | skip
      all_goals refine loopK.nn (m - 1) (by omega) (by repeat (first | refine Ag.upd rfl ?_ | exact Ag.hv)) ⟨k + 1, _, ?_, by omega, by omega, hok', hch, by rw [hwv, e2]⟩
      all_goals (show Value.int .i64 _ = _; congr 1)
def upTo (s : Nat × Nat) : Nat → List Int
  | 0 => []
  | k + 1 => upTo s k ++ (if hasB s ((k : Int) + 1) then [(k : Int) + 1] else [])
theorem upTo_len (s : Nat × Nat) : ∀ k, (upTo s k).length ≤ k
  | 0 => Nat.le_refl _
  | k + 1 => by
    have := upTo_len s k
    rw [upTo, List.length_append]
    split <;> simp <;> omega
theorem upTo_succ (s : Nat × Nat) (k : Nat) : upTo s (k + 1) = upTo s k ++ (if hasB s ((k : Int) + 1) then [(k : Int) + 1] else []) := rfl
theorem upTo_zero (s : Nat × Nat) : upTo s 0 = [] := rfl
attribute [local irreducible] upTo
theorem eList3 : Entr Tryz.prog 70 := Entr.of Tryz.func70 rfl rfl
set_option maxRecDepth 20000 in
theorem list3_any (s : Nat × Nat) (hok : okS s) (w : World) : Calls Tryz.prog 70 #[sv s] w (Gives (Sls encI 1 3 (upTo s 128)) w) := by
  refine calls_of_JC (R := []) Tryz.func70 Tryz.ntmps70 rfl rfl (Holds.nil _) ?_
  repeat' first
    | (refine J.isJ ?_; (first | (first | (refine J.o 0 ?_; refine J.ev' hΓ ?_) | refine J.nil ?_ | (refine J.o 4 ?_; first | refine J.e1 hΓ ?_) | (refine J.o 3 ?_; first | refine J.ev' hΓ ?_) | (refine J.o 1 ?_; first | refine J.ad ?_) | (refine J.o 6 ?_; refine J.bx (fun _ => ?_)) | (refine J.o 9 ?_; refine J.bl hΓ (fun _ => ?_)) | (refine J.o 10 ?_; first | refine J.ev' hΓ ?_) | (refine J.o 11 ?_; first | refine J.ev' hΓ ?_))))
    | (first | refine JC.seq ?_ | refine JC.region ?_ | refine JC.block ?_ | refine JC.ret ?_ | refine JC.exit ?_ | refine JC.skip ?_ | refine thenK.nn ?_ | refine thenK.x ?_ | refine blockK.nn ?_ | refine blockK.hit rfl ?_ | refine JC.condT rfl ?_ | refine JC.condF rfl ?_ | (refine JC.cond rfl (fun hc => ?_) (fun hc => ?_) <;> ((try simp only [decide_eq_true_eq, decide_eq_false_iff_not, beq_iff_eq, beq_eq_false_iff_ne, bne_iff_ne, bne_eq_false_iff_eq, Bool.not_eq_true', Bool.not_eq_false', Bool.not_eq_true, Bool.not_eq_false] at hc) <;> first | (first | (exact absurd rfl hc) | (exfalso; omega) | (exact absurd (hc.symm.trans (by assumption : _ = false)) (by decide)) | (exact absurd (hc.symm.trans (by assumption : _ = true)) (by decide))) | skip)) | refine loopK.x ?_)
    | fail
  refine JC.nilF ?_
  refine JC.loop (fun i => i == 3 || i == 4 || Nat.ble 5 i) (fun m g L' => ∃ (k : Nat) (a : Option Addr) (cap : Nat) (h : Heap), g 4 = .int .i64 ((k : Int) + 1) ∧ g 3 = .slice a (upTo s k).length cap ∧ k + m = 128 ∧ OwT encI 1 3 a cap (upTo s k) h ∧ L' = [h, _]) 128 ⟨0, none, 0, [], rfl, by rw [upTo_zero]; rfl, by omega, by rw [upTo_zero]; exact OwT.nil (fun _ => rfl), rfl⟩ ?_
  rintro m g L' ⟨k, a, cap, h, e4, e3, hkm, oh, rfl⟩
  refine JC.pin 4 e4 (JC.pin 3 e3 ?_)
  clear e4 e3
  have hlen := upTo_len s k
  by_cases hk : k < 128
  case neg =>
    obtain rfl : k = 128 := by omega
    repeat' first
      | (refine J.isJ ?_; (first | (first | (refine J.o 0 ?_; refine J.ev' hΓ ?_) | refine J.nil ?_ | (refine J.o 4 ?_; first | refine J.e1 hΓ ?_) | (refine J.o 3 ?_; first | refine J.ev' hΓ ?_) | (refine J.o 1 ?_; first | refine J.ad ?_) | (refine J.o 6 ?_; refine J.bx (fun _ => ?_)) | (refine J.o 9 ?_; refine J.bl hΓ (fun _ => ?_)) | (refine J.o 10 ?_; first | refine J.ev' hΓ ?_) | (refine J.o 11 ?_; first | refine J.ev' hΓ ?_))))
      | (first | refine JC.seq ?_ | refine JC.region ?_ | refine JC.block ?_ | refine JC.ret ?_ | refine JC.exit ?_ | refine JC.skip ?_ | refine thenK.nn ?_ | refine thenK.x ?_ | refine blockK.nn ?_ | refine blockK.hit rfl ?_ | refine JC.condT rfl ?_ | refine JC.condF rfl ?_ | (refine JC.cond rfl (fun hc => ?_) (fun hc => ?_) <;> ((try simp only [decide_eq_true_eq, decide_eq_false_iff_not, beq_iff_eq, beq_eq_false_iff_ne, bne_iff_ne, bne_eq_false_iff_eq, Bool.not_eq_true', Bool.not_eq_false', Bool.not_eq_true, Bool.not_eq_false] at hc) <;> first | (first | (exact absurd rfl hc) | (exfalso; omega) | (exact absurd (hc.symm.trans (by assumption : _ = false)) (by decide)) | (exact absurd (hc.symm.trans (by assumption : _ = true)) (by decide))) | skip)) | refine loopK.x ?_)
      | fail
    all_goals first | (exfalso; omega) | exact ret1f rfl rfl rfl (fun w1 hw => Gives.of hw ⟨_, _, rfl, oh⟩)
  have hu := upTo_succ s k
  have cH := fun w => refHas_any s hok ((k : Int) + 1) w
  cases hb : hasB s ((k : Int) + 1) with
  | true =>
    rw [hb, if_pos rfl] at hu
    rw [hb] at cH
    repeat' first
      | (refine J.isJ ?_; first | (first | (refine J.o 0 ?_; refine J.ev' hΓ ?_) | refine J.nil ?_ | (refine J.o 4 ?_; first | refine J.e1 hΓ ?_) | (refine J.o 3 ?_; first | refine J.ev' hΓ ?_) | (refine J.o 1 ?_; first | refine J.ad ?_) | (refine J.o 6 ?_; refine J.bx (fun _ => ?_)) | (refine J.o 9 ?_; refine J.bl hΓ (fun _ => ?_)) | (refine J.o 10 ?_; first | refine J.ev' hΓ ?_) | (refine J.o 11 ?_; first | refine J.ev' hΓ ?_)) | (first | (refine J.fc 86 ?_; refine J.call0 eHasR rfl rfl (fun w hw => cH w) ?_) | (refine J.app1 (enc := encI) [(k : Int) + 1] hΓ rfl rfl rfl rfl rfl rfl rfl oh rfl rfl rfl rfl (by omega) (by omega) (by omega) (fun a3 cap3 h3 o3 => ?_))))
      | (first | refine JC.seq ?_ | refine JC.region ?_ | refine JC.block ?_ | refine JC.ret ?_ | refine JC.exit ?_ | refine JC.skip ?_ | refine thenK.nn ?_ | refine thenK.x ?_ | refine blockK.nn ?_ | refine blockK.hit rfl ?_ | refine JC.condT rfl ?_ | refine JC.condF rfl ?_ | (refine JC.cond rfl (fun hc => ?_) (fun hc => ?_) <;> ((try simp only [decide_eq_true_eq, decide_eq_false_iff_not, beq_iff_eq, beq_eq_false_iff_ne, bne_iff_ne, bne_eq_false_iff_eq, Bool.not_eq_true', Bool.not_eq_false', Bool.not_eq_true, Bool.not_eq_false] at hc) <;> first | (first | (exact absurd rfl hc) | (exfalso; omega) | (exact absurd (hc.symm.trans (by assumption : _ = false)) (by decide)) | (exact absurd (hc.symm.trans (by assumption : _ = true)) (by decide))) | skip)) | refine loopK.x ?_)
      | fail
    all_goals first | (exfalso; omega) | skip
    all_goals refine loopK.nn (m - 1) (by omega) (by repeat (first | refine Ag.upd rfl ?_ | exact Ag.hv)) ⟨k + 1, _, _, _, ?_, ?_, by omega, by rw [hu]; exact o3, rfl⟩
    · show Value.int .i64 _ = _; congr 1
    · rw [hu]; show Value.slice _ _ _ = _; congr 1; simp
  | false =>
    rw [hb, if_neg (by decide), List.append_nil] at hu
    rw [hb] at cH
    repeat' first
      | (refine J.isJ ?_; first | (first | (refine J.o 0 ?_; refine J.ev' hΓ ?_) | refine J.nil ?_ | (refine J.o 4 ?_; first | refine J.e1 hΓ ?_) | (refine J.o 3 ?_; first | refine J.ev' hΓ ?_) | (refine J.o 1 ?_; first | refine J.ad ?_) | (refine J.o 6 ?_; refine J.bx (fun _ => ?_)) | (refine J.o 9 ?_; refine J.bl hΓ (fun _ => ?_)) | (refine J.o 10 ?_; first | refine J.ev' hΓ ?_) | (refine J.o 11 ?_; first | refine J.ev' hΓ ?_)) | ((refine J.fc 86 ?_; refine J.call0 eHasR rfl rfl (fun w hw => cH w) ?_)))
      | (first | refine JC.seq ?_ | refine JC.region ?_ | refine JC.block ?_ | refine JC.ret ?_ | refine JC.exit ?_ | refine JC.skip ?_ | refine thenK.nn ?_ | refine thenK.x ?_ | refine blockK.nn ?_ | refine blockK.hit rfl ?_ | refine JC.condT rfl ?_ | refine JC.condF rfl ?_ | (refine JC.cond rfl (fun hc => ?_) (fun hc => ?_) <;> ((try simp only [decide_eq_true_eq, decide_eq_false_iff_not, beq_iff_eq, beq_eq_false_iff_ne, bne_iff_ne, bne_eq_false_iff_eq, Bool.not_eq_true', Bool.not_eq_false', Bool.not_eq_true, Bool.not_eq_false] at hc) <;> first | (first | (exact absurd rfl hc) | (exfalso; omega) | (exact absurd (hc.symm.trans (by assumption : _ = false)) (by decide)) | (exact absurd (hc.symm.trans (by assumption : _ = true)) (by decide))) | skip)) | refine loopK.x ?_)
      | fail
    all_goals first | (exfalso; omega) | skip
    all_goals refine loopK.nn (m - 1) (by omega) (by repeat (first | refine Ag.upd rfl ?_ | exact Ag.hv)) ⟨k + 1, _, _, _, ?_, ?_, by omega, by rw [hu]; exact oh, rfl⟩
    · show Value.int .i64 _ = _; congr 1
    · rw [hu]; rfl
def mark : List Int → List Bool → List Bool
  | [], x => x
  | v :: l, x => mark l (if 1 ≤ v ∧ v ≤ 128 then x.set v.toNat true else x)
theorem mark_len : ∀ (l : List Int) (x : List Bool), (mark l x).length = x.length
  | [], _ => rfl
  | v :: l, x => by rw [mark, mark_len l]; split <;> simp
theorem mark_get : ∀ (l : List Int) (x : List Bool) (u : Int), x.length = 129 → 1 ≤ u → u ≤ 128 → ((mark l x).getD u.toNat false = true ↔ x.getD u.toNat false = true ∨ u ∈ l)
  | [], x, u, _, _, _ => by simp [mark]
  | v :: l, x, u, hx, h1, h2 => by
    rw [mark]
    by_cases hv : 1 ≤ v ∧ v ≤ 128
    · rw [if_pos hv, mark_get l _ u (by rw [List.length_set]; exact hx) h1 h2]
      have hg : (x.set v.toNat true).getD u.toNat false = if v.toNat = u.toNat then true else x.getD u.toNat false := by
        rw [List.getD_eq_getElem?_getD, List.getElem?_set, List.getD_eq_getElem?_getD]
        by_cases he : v.toNat = u.toNat
        · rw [if_pos he, if_pos (by omega), if_pos he]; rfl
        · rw [if_neg he, if_neg he]
      rw [hg]
      by_cases he : v = u
      · subst he; rw [if_pos rfl]; simp
      · rw [if_neg (by omega), List.mem_cons]
        constructor
        · rintro (h | h)
          · exact .inl h
          · exact .inr (.inr h)
        · rintro (h | h | h)
          · exact .inl h
          · exact absurd h.symm he
          · exact .inr h
    · rw [if_neg hv, mark_get l x u hx h1 h2, List.mem_cons]
      constructor
      · rintro (h | h)
        · exact .inl h
        · exact .inr (.inr h)
      · rintro (h | h | h)
        · exact .inl h
        · omega
        · exact .inr h
def ofP (l : List Int) : Nat × Nat := setP (mark l (List.replicate 129 false))
theorem ofP_ok (l : List Int) : okS (ofP l) := setP_ok _
theorem ofP_has (l : List Int) (u : Int) : hasB (ofP l) u = true ↔ 1 ≤ u ∧ u ≤ 128 ∧ u ∈ l := by
  unfold ofP
  rw [setP_has _ (by rw [mark_len]; simp)]
  constructor
  · rintro ⟨h1, h2, h3⟩
    rcases (mark_get l _ u (by simp) h1 h2).1 h3 with h | h
    · rw [List.getD_eq_getElem?_getD, List.getElem?_replicate] at h
      split at h <;> cases h
    · exact ⟨h1, h2, h⟩
  · rintro ⟨h1, h2, h3⟩
    exact ⟨h1, h2, (mark_get l _ u (by simp) h1 h2).2 (.inr h3)⟩
theorem eOf3 : Entr Tryz.prog 38 := Entr.of Tryz.func38 rfl rfl
theorem of3_any (a : Option Addr) (cap : Nat) (l : List Int) (h : Heap) (hs : SlT encI 1 a l h) (hl : l.length ≤ 1000000) (w : World) (hw : Holds h w) :
    Calls Tryz.prog 38 #[.slice a l.length cap] w fun e w' => e = .returned (sv (ofP l)) ∧ Below w.heap.size w w' := by
  refine calls_of_JC (R := h) Tryz.func38 Tryz.ntmps38 rfl rfl (hw) ?_
  repeat' first
    | (refine J.isJ ?_; first | (first | (refine J.o 0 ?_; refine J.ev' hΓ ?_) | refine J.nil ?_ | refine J.kd ?_ | (refine J.o 4 ?_; first | refine J.lT default hΓ ?_) | (refine J.o 3 ?_; first | refine J.iJ hΓ ?_ | refine J.ev' hΓ ?_) | (refine J.o 1 ?_; first | refine J.ad ?_) | (refine J.o 5 ?_; first | refine J.t1 hΓ ?_ | refine J.tT _ default hΓ (fun _ _ => ?_)) | (refine J.o 7 ?_; refine J.al hΓ (fun _ => ?_)) | (refine J.o 10 ?_; first | refine J.ev' hΓ ?_) | (refine J.o 11 ?_; first | refine J.ev' hΓ ?_)) | ((refine J.fc 71 ?_; refine J.call1 eNone3 rfl rfl (fun w hw => none_any w) ?_; rintro _ hx ⟨bx, rfl, ox⟩)) | ((fail_if_success refine J.wt ?_); refine J.gc rfl rfl (fun hc => ?_) (fun hc => ?_) <;> ((try simp only [decide_eq_true_eq, decide_eq_false_iff_not, beq_iff_eq, beq_eq_false_iff_ne, bne_iff_ne, bne_eq_false_iff_eq, Bool.not_eq_true', Bool.not_eq_false', Bool.not_eq_true, Bool.not_eq_false] at hc) <;> first | (first | (exact absurd rfl hc) | (exfalso; omega) | (exact absurd (hc.symm.trans (by assumption : _ = false)) (by decide)) | (exact absurd (hc.symm.trans (by assumption : _ = true)) (by decide))) | skip)))
    | (first | refine JC.seq ?_ | refine JC.region ?_ | refine JC.block ?_ | refine JC.ret ?_ | refine JC.exit ?_ | refine JC.skip ?_ | refine thenK.nn ?_ | refine thenK.x ?_ | refine blockK.nn ?_ | refine blockK.hit rfl ?_ | refine JC.condF rfl ?_ | (refine JC.cond rfl (fun hc => ?_) (fun hc => ?_) <;> ((try simp only [decide_eq_true_eq, decide_eq_false_iff_not, beq_iff_eq, beq_eq_false_iff_ne, bne_iff_ne, bne_eq_false_iff_eq, Bool.not_eq_true', Bool.not_eq_false', Bool.not_eq_true, Bool.not_eq_false] at hc) <;> first | (first | (exact absurd rfl hc) | (exfalso; omega) | (exact absurd (hc.symm.trans (by assumption : _ = false)) (by decide)) | (exact absurd (hc.symm.trans (by assumption : _ = true)) (by decide))) | skip)) | refine loopK.x ?_)
    | fail
  refine JC.loop (fun i => i == 4 || Nat.ble 6 i) (fun m g L' => ∃ (k : Nat) (x : List Bool) (hx : Heap), g 4 = .int .i64 (k : Int) ∧ k + m = l.length ∧ x.length = 129 ∧ mark (l.drop k) x = mark l (List.replicate 129 false) ∧ OwT encBo 1 4 (some ⟨bx, 0, none⟩) 129 x hx ∧ L' = [hx, _]) l.length ⟨0, _, _, rfl, by omega, by simp, rfl, ox, rfl⟩ ?_
  rintro m g L' ⟨k, x, hx, e4, hkm, hxl, hch, ox', rfl⟩
  refine JC.pin 4 e4 ?_
  clear e4 ox
  rcases Nat.lt_or_ge k l.length with hk | hk
  case inr =>
    rw [List.drop_eq_nil_of_le hk, mark] at hch
    have cS := fun w hw => set_any (some ⟨bx, 0, none⟩) 129 x hx ox'.sl hxl w hw
    rw [hxl, hch] at cS
    repeat' first
      | (refine J.isJ ?_; first | (first | (refine J.o 0 ?_; refine J.ev' hΓ ?_) | refine J.nil ?_ | refine J.kd ?_ | (refine J.o 4 ?_; first | refine J.lT default hΓ ?_) | (refine J.o 3 ?_; first | refine J.iJ hΓ ?_ | refine J.ev' hΓ ?_) | (refine J.o 1 ?_; first | refine J.ad ?_) | (refine J.o 5 ?_; first | refine J.t1 hΓ ?_ | refine J.tT _ default hΓ (fun _ _ => ?_)) | (refine J.o 7 ?_; refine J.al hΓ (fun _ => ?_)) | (refine J.o 10 ?_; first | refine J.ev' hΓ ?_) | (refine J.o 11 ?_; first | refine J.ev' hΓ ?_)) | ((refine J.fc 72 ?_; refine J.call0 eSet3 rfl rfl (fun w hw => cS w (hw.rdH (by first | exact RdH.hd | exact RdH.hd.tl | exact RdH.hd.tl.tl | exact RdH.hd.tl.tl.tl | exact RdH.hd.tl.tl.tl.tl | exact RdH.hd.tl.tl.tl.tl.tl | exact RdH.hd.tl.tl.tl.tl.tl.tl | exact RdH.hd.tl.tl.tl.tl.tl.tl.tl | exact RdH.old (fun _ hh => hh) | assumption))) ?_)) | ((fail_if_success refine J.wt ?_); refine J.gc rfl rfl (fun hc => ?_) (fun hc => ?_) <;> ((try simp only [decide_eq_true_eq, decide_eq_false_iff_not, beq_iff_eq, beq_eq_false_iff_ne, bne_iff_ne, bne_eq_false_iff_eq, Bool.not_eq_true', Bool.not_eq_false', Bool.not_eq_true, Bool.not_eq_false] at hc) <;> first | (first | (exact absurd rfl hc) | (exfalso; omega) | (exact absurd (hc.symm.trans (by assumption : _ = false)) (by decide)) | (exact absurd (hc.symm.trans (by assumption : _ = true)) (by decide))) | skip)))
      | (first | refine JC.seq ?_ | refine JC.region ?_ | refine JC.block ?_ | refine JC.ret ?_ | refine JC.exit ?_ | refine JC.skip ?_ | refine thenK.nn ?_ | refine thenK.x ?_ | refine blockK.nn ?_ | refine blockK.hit rfl ?_ | refine JC.condF rfl ?_ | (refine JC.cond rfl (fun hc => ?_) (fun hc => ?_) <;> ((try simp only [decide_eq_true_eq, decide_eq_false_iff_not, beq_iff_eq, beq_eq_false_iff_ne, bne_iff_ne, bne_eq_false_iff_eq, Bool.not_eq_true', Bool.not_eq_false', Bool.not_eq_true, Bool.not_eq_false] at hc) <;> first | (first | (exact absurd rfl hc) | (exfalso; omega) | (exact absurd (hc.symm.trans (by assumption : _ = false)) (by decide)) | (exact absurd (hc.symm.trans (by assumption : _ = true)) (by decide))) | skip)) | refine loopK.x ?_)
      | fail
    all_goals first | (exfalso; omega) | exact retC hΓ rfl rfl rfl (Rd.tl Rd.hd) rfl (fun w1 hw => ⟨rfl, hw.below⟩)
  rw [drop_one l k hk, mark] at hch
  by_cases hv : 1 ≤ l.getD k default ∧ l.getD k default ≤ 128
  · rw [if_pos hv] at hch
    obtain ⟨v1, v2⟩ := hv
    repeat' first
      | (refine J.isJ ?_; (first | (first | (refine J.o 0 ?_; refine J.ev' hΓ ?_) | refine J.nil ?_ | refine J.kd ?_ | (refine J.o 4 ?_; first | refine J.lT default hΓ ?_) | (refine J.o 3 ?_; first | refine J.iJ hΓ ?_ | refine J.ev' hΓ ?_) | (refine J.o 1 ?_; first | refine J.ad ?_) | (refine J.o 5 ?_; first | refine J.t1 hΓ ?_ | refine J.tT _ default hΓ (fun _ _ => ?_)) | (refine J.o 7 ?_; refine J.al hΓ (fun _ => ?_)) | (refine J.o 10 ?_; first | refine J.ev' hΓ ?_) | (refine J.o 11 ?_; first | refine J.ev' hΓ ?_)) | ((fail_if_success refine J.wt ?_); refine J.gc rfl rfl (fun hc => ?_) (fun hc => ?_) <;> ((try simp only [decide_eq_true_eq, decide_eq_false_iff_not, beq_iff_eq, beq_eq_false_iff_ne, bne_iff_ne, bne_eq_false_iff_eq, Bool.not_eq_true', Bool.not_eq_false', Bool.not_eq_true, Bool.not_eq_false] at hc) <;> first | (first | (exact absurd rfl hc) | (exfalso; omega) | (exact absurd (hc.symm.trans (by assumption : _ = false)) (by decide)) | (exact absurd (hc.symm.trans (by assumption : _ = true)) (by decide))) | skip))))
      | (first | refine JC.seq ?_ | refine JC.region ?_ | refine JC.block ?_ | refine JC.ret ?_ | refine JC.exit ?_ | refine JC.skip ?_ | refine thenK.nn ?_ | refine thenK.x ?_ | refine blockK.nn ?_ | refine blockK.hit rfl ?_ | refine JC.condF rfl ?_ | (refine JC.cond rfl (fun hc => ?_) (fun hc => ?_) <;> ((try simp only [decide_eq_true_eq, decide_eq_false_iff_not, beq_iff_eq, beq_eq_false_iff_ne, bne_iff_ne, bne_eq_false_iff_eq, Bool.not_eq_true', Bool.not_eq_false', Bool.not_eq_true, Bool.not_eq_false] at hc) <;> first | (first | (exact absurd rfl hc) | (exfalso; omega) | (exact absurd (hc.symm.trans (by assumption : _ = false)) (by decide)) | (exact absurd (hc.symm.trans (by assumption : _ = true)) (by decide))) | skip)) | refine loopK.x ?_)
      | fail
    all_goals first | (exfalso; omega) | skip
    all_goals refine loopK.nn (m - 1) (by omega) (by repeat (first | refine Ag.upd rfl ?_ | exact Ag.hv)) ⟨k + 1, _, _, ?_, by omega, ?_, hch, by assumption, rfl⟩
    · show Value.int .i64 _ = _; congr 1
    · rw [List.length_set]; exact hxl
  · rw [if_neg hv] at hch
    have hv' : l.getD k default < 1 ∨ 128 < l.getD k default := by omega
    repeat' first
      | (refine J.isJ ?_; (first | (first | (refine J.o 0 ?_; refine J.ev' hΓ ?_) | refine J.nil ?_ | refine J.kd ?_ | (refine J.o 4 ?_; first | refine J.lT default hΓ ?_) | (refine J.o 3 ?_; first | refine J.iJ hΓ ?_ | refine J.ev' hΓ ?_) | (refine J.o 1 ?_; first | refine J.ad ?_) | (refine J.o 5 ?_; first | refine J.t1 hΓ ?_ | refine J.tT _ default hΓ (fun _ _ => ?_)) | (refine J.o 7 ?_; refine J.al hΓ (fun _ => ?_)) | (refine J.o 10 ?_; first | refine J.ev' hΓ ?_) | (refine J.o 11 ?_; first | refine J.ev' hΓ ?_)) | ((fail_if_success refine J.wt ?_); refine J.gc rfl rfl (fun hc => ?_) (fun hc => ?_) <;> ((try simp only [decide_eq_true_eq, decide_eq_false_iff_not, beq_iff_eq, beq_eq_false_iff_ne, bne_iff_ne, bne_eq_false_iff_eq, Bool.not_eq_true', Bool.not_eq_false', Bool.not_eq_true, Bool.not_eq_false] at hc) <;> first | (first | (exact absurd rfl hc) | (exfalso; omega) | (exact absurd (hc.symm.trans (by assumption : _ = false)) (by decide)) | (exact absurd (hc.symm.trans (by assumption : _ = true)) (by decide))) | skip))))
      | (first | refine JC.seq ?_ | refine JC.region ?_ | refine JC.block ?_ | refine JC.ret ?_ | refine JC.exit ?_ | refine JC.skip ?_ | refine thenK.nn ?_ | refine thenK.x ?_ | refine blockK.nn ?_ | refine blockK.hit rfl ?_ | refine JC.condF rfl ?_ | (refine JC.cond rfl (fun hc => ?_) (fun hc => ?_) <;> ((try simp only [decide_eq_true_eq, decide_eq_false_iff_not, beq_iff_eq, beq_eq_false_iff_ne, bne_iff_ne, bne_eq_false_iff_eq, Bool.not_eq_true', Bool.not_eq_false', Bool.not_eq_true, Bool.not_eq_false] at hc) <;> first | (first | (exact absurd rfl hc) | (exfalso; omega) | (exact absurd (hc.symm.trans (by assumption : _ = false)) (by decide)) | (exact absurd (hc.symm.trans (by assumption : _ = true)) (by decide))) | skip)) | refine loopK.x ?_)
      | fail
    all_goals first | (exfalso; omega) | skip
    all_goals refine loopK.nn (m - 1) (by omega) (by repeat (first | refine Ag.upd rfl ?_ | exact Ag.hv)) ⟨k + 1, _, _, ?_, by omega, hxl, hch, ox', rfl⟩
    all_goals (show Value.int .i64 _ = _; congr 1)
theorem ofS_has : ∀ (l : List Int) (s : Nat × Nat) (u : Int), hasB (l.foldl withS s) u = true ↔ (hasB s u = true ∨ (u ∈ l ∧ 1 ≤ u ∧ u ≤ 128))
  | [], s, u => by simp
  | x :: l, s, u => by
    rw [List.foldl_cons, ofS_has l]
    by_cases hx : 1 ≤ x ∧ x ≤ 128
    · rw [has_with s x u hx]
      constructor
      · rintro ((h | rfl) | ⟨h1, h2⟩)
        · exact .inl h
        · exact .inr ⟨by simp, hx⟩
        · exact .inr ⟨by simp [h1], h2⟩
      · rintro (h | ⟨h1, h2⟩)
        · exact .inl (.inl h)
        · rcases List.mem_cons.1 h1 with rfl | h1
          · exact .inl (.inr rfl)
          · exact .inr ⟨h1, h2⟩
    · have e1 : withS s x = s := by unfold withS; rw [if_neg (by omega), if_neg (by omega)]
      rw [e1]
      constructor
      · rintro (h | ⟨h1, h2⟩)
        · exact .inl h
        · exact .inr ⟨by simp [h1], h2⟩
      · rintro (h | ⟨h1, h2⟩)
        · exact .inl h
        · rcases List.mem_cons.1 h1 with rfl | h1
          · exact (hx h2).elim
          · exact .inr ⟨h1, h2⟩
theorem ofP_eq (l : List Int) : ofP l = ofS l := by
  refine set_ext (ofP_ok l) (okS_of l _ okS_zero) fun u h1 h2 => ?_
  have a := ofP_has l u
  have b := ofS_has l (0, 0) u
  rw [has_zero] at b
  have b : hasB (ofS l) u = true ↔ (u ∈ l ∧ 1 ≤ u ∧ u ≤ 128) := by
    unfold ofS
    rw [b]; simp
  cases ha : hasB (ofP l) u <;> cases hb : hasB (ofS l) u
  · rfl
  · exfalso
    have := b.1 hb
    have := a.2 ⟨h1, h2, this.1⟩
    rw [ha] at this; cases this
  · exfalso
    have := a.1 ha
    have := b.2 ⟨this.2.2, h1, h2⟩
    rw [hb] at this; cases this
  · rfl
theorem upTo_cnt (s : Nat × Nat) : ∀ k, (upTo s k).length = (List.range k).countP fun j : Nat => hasB s ((j : Int) + 1)
  | 0 => by rw [upTo_zero]; rfl
  | k + 1 => by
    rw [upTo_succ, List.length_append, upTo_cnt s k, List.range_succ, List.countP_append, List.countP_singleton]
    cases hasB s ((k : Int) + 1) <;> rfl
theorem upTo_all (s : Nat × Nat) : (upTo s 128).length = cntS s := by
  have h1 : (List.range 64).countP (fun j : Nat => hasB s ((j : Int) + 1)) = pc 64 s.1 := by
    rw [pc_bits]
    refine List.countP_congr fun j hj => ?_
    have := List.mem_range.1 hj
    unfold hasB
    rw [if_pos (by omega), show ((j : Int) + 1 - 1).toNat = j by omega]
  have h2 : (List.range 64).countP ((fun j : Nat => hasB s ((j : Int) + 1)) ∘ (fun x => 64 + x)) = pc 64 s.2 := by
    rw [pc_bits]
    refine List.countP_congr fun j hj => ?_
    have := List.mem_range.1 hj
    show hasB s (((64 + j : Nat) : Int) + 1) = true ↔ _
    unfold hasB
    rw [if_neg (by omega), if_pos (by omega), show (((64 + j : Nat) : Int) + 1 - 65).toNat = j by omega]
  rw [upTo_cnt, show 128 = 64 + 64 from rfl, List.range_add, List.countP_append, List.countP_map, h1, h2]
  rfl
instance (l : List Int) : Decidable (okOrd l) := by unfold okOrd; infer_instance
theorem eLen3 : Entr Tryz.prog 37 := Entr.of Tryz.func37 rfl rfl
theorem eOrd30 : Entr Tryz.prog 9 := Entr.of Tryz.func9 rfl rfl
theorem len3_any (s : Nat × Nat) (hok : okS s) (w : World) : Calls Tryz.prog 37 #[sv s] w fun e w' => e = .returned (.int .i64 (cntS s : Int)) ∧ Below w.heap.size w w' := by
  have cL := fun w => list3_any s hok w
  refine calls_of_JC (R := []) Tryz.func37 Tryz.ntmps37 rfl rfl (Holds.nil _) ?_
  unfold sv
  repeat' first
    | (refine J.isJ ?_; first | (first | (refine J.o 0 ?_; refine J.ev' hΓ ?_) | refine J.nil ?_ | (refine J.o 4 ?_; first | refine J.e0 hΓ ?_) | (refine J.o 3 ?_; first | refine J.ev' hΓ ?_) | (refine J.o 6 ?_; refine J.bx (fun _ => ?_)) | (refine J.o 10 ?_; first | refine J.ev' hΓ ?_) | (refine J.o 11 ?_; first | refine J.ev' hΓ ?_)) | ((refine J.fc 70 ?_; refine J.call1 eList3 rfl rfl (fun w hw => cL w) ?_; rintro _ hg ⟨a, cap, rfl, oo⟩)))
    | (first | refine JC.seq ?_ | refine JC.region ?_ | refine JC.ret ?_ | refine thenK.nn ?_)
    | fail
  all_goals first | (exfalso; omega) | skip
  all_goals (refine ret1f rfl rfl rfl (fun w1 hw => ⟨?_, hw.below⟩))
  rw [upTo_all]
theorem ord30_any (a : Option Addr) (c : Nat) (l : List Int) (h : Heap) (hs : SlT encI 1 a l h) (hl : l.length ≤ 1000000) (w : World) (hw : Holds h w) :
    Calls Tryz.prog 9 #[.slice a l.length c] w fun e w' => e = .returned (.bool (decide (okOrd l))) ∧ Below w.heap.size w w' := by
  have q0 : ∀ L, RdH h L h := fun L => RdH.old fun _ hh => hh
  have cO := fun w hw => of3_any a c l h hs hl w hw
  rw [ofP_eq] at cO
  have cL := fun w => len3_any (ofS l) (okS_of l _ okS_zero) w
  have hiff := ord_iff l
  by_cases ho : okOrd l
  · have hle := ord_le l ho
    have he := hiff.2 ho
    rw [decide_eq_true ho]
    refine calls_of_JC (R := h) Tryz.func9 Tryz.ntmps9 rfl rfl (hw) ?_
    repeat' first
      | (refine J.isJ ?_; first | (first | (refine J.o 0 ?_; refine J.ev' hΓ ?_) | refine J.nil ?_ | refine J.kd ?_ | (refine J.o 3 ?_; first | refine J.ev' hΓ ?_) | (refine J.o 10 ?_; first | refine J.ev' hΓ ?_) | (refine J.o 11 ?_; first | refine J.ev' hΓ ?_)) | (first | (refine J.fc 38 ?_; refine J.call0 eOf3 rfl rfl (fun w hw => cO w (hw.rdH (q0 _))) ?_) | (refine J.fc 37 ?_; refine J.call0 eLen3 rfl rfl (fun w hw => cL w) ?_)) | ((fail_if_success refine J.wt ?_); refine J.gc rfl rfl (fun hc => ?_) (fun hc => ?_) <;> ((try simp only [decide_eq_true_eq, decide_eq_false_iff_not, beq_iff_eq, beq_eq_false_iff_ne, bne_iff_ne, bne_eq_false_iff_eq, Bool.not_eq_true', Bool.not_eq_false', Bool.not_eq_true, Bool.not_eq_false] at hc) <;> first | (first | (exact absurd rfl hc) | (exfalso; omega) | (exact absurd (hc.symm.trans (by assumption : _ = false)) (by decide)) | (exact absurd (hc.symm.trans (by assumption : _ = true)) (by decide))) | skip)))
      | (first | refine JC.seq ?_ | refine JC.region ?_ | refine JC.ret ?_ | refine thenK.nn ?_)
      | fail
    all_goals first | (exfalso; omega) | skip
    all_goals (refine ret1f rfl rfl rfl (fun w1 hw => ⟨?_, hw.below⟩))
    refine congrArg (fun z : Bool => Ending.returned (Value.bool z)) ?_
    rw [he]; simp
  · have he : cntS (ofS l) ≠ l.length := fun e => ho (hiff.1 e)
    rw [decide_eq_false ho]
    refine calls_of_JC (R := h) Tryz.func9 Tryz.ntmps9 rfl rfl (hw) ?_
    repeat' first
      | (refine J.isJ ?_; first | (first | (refine J.o 0 ?_; refine J.ev' hΓ ?_) | refine J.nil ?_ | refine J.kd ?_ | (refine J.o 3 ?_; first | refine J.ev' hΓ ?_) | (refine J.o 10 ?_; first | refine J.ev' hΓ ?_) | (refine J.o 11 ?_; first | refine J.ev' hΓ ?_)) | (first | (refine J.fc 38 ?_; refine J.call0 eOf3 rfl rfl (fun w hw => cO w (hw.rdH (q0 _))) ?_) | (refine J.fc 37 ?_; refine J.call0 eLen3 rfl rfl (fun w hw => cL w) ?_)) | ((fail_if_success refine J.wt ?_); refine J.gc rfl rfl (fun hc => ?_) (fun hc => ?_) <;> ((try simp only [decide_eq_true_eq, decide_eq_false_iff_not, beq_iff_eq, beq_eq_false_iff_ne, bne_iff_ne, bne_eq_false_iff_eq, Bool.not_eq_true', Bool.not_eq_false', Bool.not_eq_true, Bool.not_eq_false] at hc) <;> first | (first | (exact absurd rfl hc) | (exfalso; omega) | (exact absurd (hc.symm.trans (by assumption : _ = false)) (by decide)) | (exact absurd (hc.symm.trans (by assumption : _ = true)) (by decide))) | skip)))
      | (first | refine JC.seq ?_ | refine JC.region ?_ | refine JC.ret ?_ | refine thenK.nn ?_)
      | fail
    all_goals first | (exfalso; omega) | skip
    all_goals (refine ret1f rfl rfl rfl (fun w1 hw => ⟨?_, hw.below⟩))
    all_goals first | rfl | skip
    refine congrArg (fun z : Bool => Ending.returned (Value.bool z)) ?_
    rw [beq_eq_false_iff_ne]; omega
end Go.Proofs.YthnhijdfcmcnhaaGreat
namespace Go.Proofs.YthnhijdfcmcnhaaGreat
open Go Go.Cx Go.RowKit
set_option linter.unusedVariables false
set_option linter.unusedSimpArgs false
set_option maxHeartbeats 4000000
attribute [local irreducible] J JC thenK blockK loopK drawK retK QW Qt pel List.set Calls
open Go.Maps Go.Lib
set_option maxRecDepth 8000
attribute [local irreducible] JE Br eK0 eK3 brK pc
theorem mem_g0 (l : List Nat) {k : Nat} (h : k < l.length) : l.getD k 0 ∈ l := by
  rw [List.getD_eq_getElem?_getD, List.getElem?_eq_getElem h]; exact List.getElem_mem h
theorem Adds.trans {n : Nat} {K : KS} {s s1 s2 : SS} {m1 m2 y1 y2 : Nat} (h : Adds n K s s1 m1 y1) (g : Adds n K s1 s2 m2 y2) : Adds n K s s2 (m1 + m2) y2 :=
  ⟨g.ok, h.ext.trans g.ext, by have := h.le; have := g.le; omega, g.lt⟩
theorem Adds.mono {n : Nat} {K : KS} {s s1 : SS} {m1 m2 y1 : Nat} (h : Adds n K s s1 m1 y1) (hm : m1 ≤ m2) : Adds n K s s1 m2 y1 :=
  ⟨h.ok, h.ext, by have := h.le; omega, h.lt⟩
theorem Adds.old {n : Nat} {K : KS} {s s1 : SS} {m1 y1 y : Nat} (h : Adds n K s s1 m1 y1) (hy : y < s.ns.length) : y < s1.ns.length := Nat.lt_of_lt_of_le hy h.ext.le
theorem pow8 {n : Nat} (h : n ≤ 8) : 2 ^ n ≤ 256 := Nat.pow_le_pow_right (n := 2) (by omega) h
section
variable {P : Program} {n : Nat} {w0 : World} {R : Heap} {l0 : List Oper} {K : Exit → Fr → List Heap → Prop} {f : Fr} {L : List Heap} {rest : List (Nat × Oper)} {κ : Nat}
variable {Γ : List (Nat × TI)} {d : Nat} {ty : TypeId} {pos : String} {aft : Array Edge} {g : Option (Nat × Bool)} {t e : TypeId} {x y z : Operand} {a : Option Addr} {len cap : Nat}
theorem J.slR {ki kj : IntKind} {i j : Int} (m k sz : Nat) {s1 b1 : Nat} {z1 : Option Value} {te : TI} (hΓ : Fits P Γ)
    (kk : J P n w0 R l0 K rest (upd f d (.slice (if cap = m then a else a.map (·.add (m * sz))) (k - m) (cap - m))) L)
    (hg : wantB n f l0 ⟨some d, .slice t x (some y) (some z) none, ty, pos, aft, g⟩ = true := by exact rfl) (hx : Cx.ev n f x = .slice a len cap := by exact rfl) (hy : Cx.ev n f y = .int ki i := by exact rfl) (hz : Cx.ev n f z = .int kj j := by exact rfl) (ht : Go.Cx.look Γ t = some ⟨.slice e, s1, z1, b1⟩ := by exact rfl) (hte : Go.Cx.look Γ e = some te := by exact rfl) (hsz : te.size = sz := by exact rfl) (hm : i = (m : Int) := by omega) (hk : j = (k : Int) := by omega) (h1 : m ≤ k := by omega) (h2 : k ≤ cap := by omega) :
    J P n w0 R l0 K ((κ, ⟨some d, .slice t x (some y) (some z) none, ty, pos, aft, g⟩) :: rest) f L :=
  J.p hg (fun w => by
    subst hm
    subst hk
    subst hsz
    have hu : P.underlying t = some (.slice e) := (hΓ t _ ht).1
    have he : P.elem t = e := by unfold Program.elem; rw [hu]
    have hu' : P.underlying t = some (.slice (P.elem t)) := by rw [he]; exact hu
    have : (Instr.sliceAt t (.slice a len cap) (some (.int ki (m : Int))) (some (.int kj (k : Int))) none).run P w = .ok (.slice (if cap = m then a else a.map (·.add (m * te.size))) (k - m) (cap - m)) w := by
      rw [run_sliceAt_slice w t _ _ _ _ hu', run_slice_lh w t a len cap hu' ki kj (m : Int) (k : Int) (by omega) (by omega) (by omega), he, sizeOf_run hΓ hte w]
      simp [sliced, Result.andThen]
    simp only [execOp, hx, hy, hz, Sem.run_bind, Option.map_some, Option.map_none]
    rw [this]
    rfl) kk
end
theorem slT_take {α : Type} {enc : α → List Value} {size : Nat} {a : Option Addr} {ts : List α} {h : Heap} (hs : SlT enc size a ts h) (k : Nat) : SlT enc size a (ts.take k) h := by
  refine ⟨hs.len, fun i hi => ?_⟩
  rw [List.length_take] at hi
  obtain ⟨b, off, cs, e, fr, h1, h2, h3, h4⟩ := hs.at_ i (by omega)
  exact ⟨b, off, cs, e, fr, h1, h2, h3, by rw [h4, List.getElem_take]⟩
theorem slT_drop {α : Type} {enc : α → List Value} {size : Nat} {a : Option Addr} {ts : List α} {h : Heap} (hs : SlT enc size a ts h) (k cap : Nat) (hc : ts.length ≤ cap) : SlT enc size (if cap = k then a else a.map (·.add (k * size))) (ts.drop k) h := by
  refine ⟨hs.len, fun i hi => ?_⟩
  rw [List.length_drop] at hi
  obtain ⟨b, off, cs, e, fr, h1, h2, h3, h4⟩ := hs.at_ (k + i) (by omega)
  rw [if_neg (by omega), h1]
  have ha : (⟨b, off, none⟩ : Addr).add (k * size) = ⟨b, off + k * size, none⟩ := by
    unfold Addr.add
    split
    · rename_i h0; rw [h0]; rfl
    · rfl
  refine ⟨b, off + k * size, cs, e, fr, by rw [Option.map_some, ha], h2, ?_, ?_⟩
  · rw [show off + k * size + (i + 1) * size = off + (k + i + 1) * size by rw [Nat.add_assoc, ← Nat.add_mul, Nat.add_assoc]]; exact h3
  · rw [show off + k * size + i * size = off + (k + i) * size by rw [Nat.add_assoc, ← Nat.add_mul], h4, List.getElem_drop]
theorem brA (K : KS) (b : Nat) (s : SS) (hO hP hA : Heap) (M : List Heap) : (sF K b s ++ (hO :: hP :: hA :: M)).Perm (hA :: (sF K b s ++ (hO :: hP :: M))) := by
  have : sF K b s ++ (hO :: hP :: hA :: M) = (sF K b s ++ [hO, hP]) ++ hA :: M := by simp
  rw [this, show sF K b s ++ (hO :: hP :: M) = (sF K b s ++ [hO, hP]) ++ M by simp]
  exact List.perm_middle
theorem stR_of {K : KS} {b : Nat} {s : SS} {hO hP : Heap} {M : List Heap} {w0 w : World} {R : Heap} (hw : H w0 R (sF K b s ++ (hO :: hP :: M)) w) : Holds (stR K b s hO) w := by
  unfold sF at hw
  exact holds2 (hw.rd Rd.hd) ((hw.rdH RdH.hd.tl).append (hw.rdH RdH.hd.tl.tl.tl.tl))
end Go.Proofs.YthnhijdfcmcnhaaGreat
namespace Go.Proofs.YthnhijdfcmcnhaaGreat
open Go Go.Cx Go.RowKit
set_option linter.unusedVariables false
set_option linter.unusedSimpArgs false
set_option maxHeartbeats 4000000
attribute [local irreducible] J JC thenK blockK loopK drawK retK QW Qt pel List.set Calls
open Go.Maps Go.Lib
set_option maxRecDepth 8000
attribute [local irreducible] JE Br eK0 eK3 brK pc
def exF (k : Nat) (g : (Nat → Bool) → Bool) (α : Nat → Bool) : Bool := Bool.or (g (up α k false)) (g (up α k true))
theorem exF_gt {n : Nat} {ns : List N3} (w : WF n ns) {k b : Nat} (hb : b < ns.length) (h : k < (nd ns b).p) (α : Nat → Bool) : exF k (fn n ns b) α = fn n ns b α := by
  unfold exF; rw [fn_up w α false hb h, fn_up w α true hb h]; cases fn n ns b α <;> rfl
theorem exF_eq {n : Nat} {ns : List N3} (w : WF n ns) {k b : Nat} (h2 : 2 ≤ b) (hb : b < ns.length) (h : (nd ns b).p = k) (α : Nat → Bool) : exF k (fn n ns b) α = Bool.or (fn n ns (nd ns b).l α) (fn n ns (nd ns b).h α) := by
  have hl := w.lp b h2 hb
  have hh := w.hp b h2 hb
  unfold exF
  rw [fn_node w _ h2 hb, fn_node w _ h2 hb, h, up_eq, up_eq, if_neg (by decide), if_pos rfl, fn_up w α false (w.ll b h2 hb) (by omega), fn_up w α true (w.hl b h2 hb) (by omega)]
theorem exF_lt {n : Nat} {ns : List N3} (w : WF n ns) {k b : Nat} (h2 : 2 ≤ b) (hb : b < ns.length) (h : (nd ns b).p < k) (α : Nat → Bool) : exF k (fn n ns b) α = if α (nd ns b).p then exF k (fn n ns (nd ns b).h) α else exF k (fn n ns (nd ns b).l) α := by
  unfold exF
  rw [fn_node w _ h2 hb, fn_node w _ h2 hb, up_ne α false (by omega), up_ne α true (by omega)]
  split <;> rfl
theorem exF_congr {k : Nat} {g h : (Nat → Bool) → Bool} (e : ∀ α, g α = h α) (α : Nat → Bool) : exF k g α = exF k h α := by unfold exF; rw [e, e]
structure XOk (n k : Nat) (ns : List N3) (m : List (Int × Nat)) : Prop where
  at_ : ∀ (b y : Nat), ((b : Int), y) ∈ m → b < ns.length ∧ y < ns.length ∧ (nd ns b).p ≤ (nd ns y).p ∧ ∀ α, fn n ns y α = exF k (fn n ns b) α
theorem XOk.ext {n k : Nat} {ns ms : List N3} {m : List (Int × Nat)} (w : WF n ns) (h : XOk n k ns m) (e : Ext ns ms) : XOk n k ms m := ⟨fun b y hm => by
  obtain ⟨h1, h2, h3, h4⟩ := h.at_ b y hm
  exact ⟨Nat.lt_of_lt_of_le h1 e.le, Nat.lt_of_lt_of_le h2 e.le, by rw [e.at_ b h1, e.at_ y h2]; exact h3, fun α => by rw [fn_ext w e h2, h4]; exact (exF_congr (fun β => fn_ext w e h1 β) α).symm⟩⟩
theorem XOk.put {n k : Nat} {ns : List N3} {m : List (Int × Nat)} (h : XOk n k ns m) {b y : Nat} (h1 : b < ns.length) (h2 : y < ns.length) (h3 : (nd ns b).p ≤ (nd ns y).p) (h4 : ∀ α, fn n ns y α = exF k (fn n ns b) α) : XOk n k ns (mput m (b : Int) y) := ⟨fun b' y' hm => by
  rcases mput_mem hm with hm | ⟨e1, e2⟩
  · exact h.at_ b' y' hm
  · obtain rfl : b' = b := by omega
    subst e2
    exact ⟨h1, h2, h3, h4⟩⟩
def mapD (b : Nat) : Obj := .cells ⟨[.map (some b)]⟩ 76 (0, 0)
def fnE (c1 c2 c3 c4 : Nat) : Obj := .cells ⟨[.func (.func 58) ⟨[]⟩ ⟨[.pointer (some ⟨c1, 0, none⟩), .pointer (some ⟨c2, 0, none⟩), .pointer (some ⟨c3, 0, none⟩), .pointer (some ⟨c4, 0, none⟩)]⟩]⟩ 89 (0, 0)
theorem eExC : Entr Tryz.prog 58 := Entr.of Tryz.func58 rfl rfl
theorem exC_any {n : Nat} {K : KS} (k : Nat) (hk : k < n) (b0 c1 c2 c3 c4 bd : Nat) : ∀ (d b : Nat) (s : SS) (m : List (Int × Nat)) (hD : Heap), k ≤ (nd s.ns b).p + d → SOk n K s → b < s.ns.length → s.ns.length + (2 ^ d * 2 ^ n - 1) ≤ 1048576 → MapT Tryz.prog 3 ekI evI m bd hD → XOk n k s.ns m →
    ∀ {w0 w : World} {R : Heap} {L : List Heap}, H w0 R (sF K b0 s ++ (hD :: L)) w → Rd R L c1 (ptrS b0) → Rd R L c2 (intO k) → Rd R L c3 (mapD bd) → Rd R L c4 (fnE c1 c2 c3 c4) →
    Calls Tryz.prog 58 #[.int .i64 (b : Int), .pointer (some ⟨c1, 0, none⟩), .pointer (some ⟨c2, 0, none⟩), .pointer (some ⟨c3, 0, none⟩), .pointer (some ⟨c4, 0, none⟩)] w fun e w' => ∃ v L', e = .returned v ∧ H w0 R L' w' ∧ ∃ s' m' hD' y, v = .int .i64 ((y : Nat) : Int) ∧ L' = sF K b0 s' ++ (hD' :: L) ∧ MapT Tryz.prog 3 ekI evI m' bd hD' ∧ XOk n k s'.ns m' ∧ (nd s.ns b).p ≤ (nd s'.ns y).p ∧ Res n K s s' (2 ^ d * 2 ^ n - 1) y (exF k (fn n s.ns b)) := by
  intro d
  induction d using Nat.strongRecOn with
  | ind d ih =>
  intro b s m hD hp so hb hfull mp xo w0 w R L hw r1 r2 r3 r4
  have n8 := so.n8
  have sm := so.sm
  have wf := so.wf
  have two := wf.two
  have hsl := so.ow.sl
  have hkey := keyI (b : Int) (by omega)
  have hle := wf.ple hb
  have hpos : 0 < 2 ^ d * 2 ^ n := Nat.mul_pos (Nat.pow_pos (by decide)) (Nat.pow_pos (by decide))
  have hone : 2 ^ n ≤ 2 ^ d * 2 ^ n := Nat.le_mul_of_pos_left _ (Nat.pow_pos (by decide))
  have r1' := r1
  have r2' := r2
  have r3' := r3
  have r4' := r4
  unfold ptrS at r1'
  unfold intO at r2'
  unfold mapD at r3'
  unfold fnE at r4'
  unfold sF at hw
  simp only [List.cons_append, List.nil_append] at hw
  have hnd : s.ns.getD b default = nd s.ns b := rfl
  have hpi : (s.ns.getD b default).p = (nd s.ns b).p := rfl
  rcases Nat.lt_trichotomy (nd s.ns b).p k with hlt | heq | hgt
  · have h2 := wf.nonconst (show (nd s.ns b).p < n by omega)
    have hll := wf.ll b h2 hb
    have hhl := wf.hl b h2 hb
    have hlp := wf.lp b h2 hb
    have hhp := wf.hp b h2 hb
    have hpow : 2 ^ d * 2 ^ n = 2 ^ (d - 1) * 2 ^ n + 2 ^ (d - 1) * 2 ^ n := by rw [← Nat.add_mul, ← Nat.mul_two, ← Nat.pow_succ, show (d - 1).succ = d by omega]
    have hpos1 : 0 < 2 ^ (d - 1) * 2 ^ n := Nat.mul_pos (Nat.pow_pos (by decide)) (Nat.pow_pos (by decide))
    cases hget : mget m (b : Int) with
    | some y =>
      obtain ⟨_, hy, hpy, hfy⟩ := xo.at_ b y (mget_mem hget)
      refine calls_in Tryz.func58 Tryz.ntmps58 rfl rfl (hw) ?_
      unfold stO
      repeat' first
        | (refine J.isJ ?_; first | (first | (refine J.o 7 ?_; refine J.al hΓ (fun b7 => ?_)) | (refine J.o 4 ?_; first | refine J.lR hΓ ?_ (hr := r1'.tl.tl.tl.tl.tl) | refine J.lR hΓ ?_ (hr := r2'.tl.tl.tl.tl.tl.tl) | refine J.lR hΓ ?_ (hr := r3'.tl.tl.tl.tl.tl.tl) | refine J.lR hΓ ?_ (hr := Rd.hd) | (refine J.lT default hΓ ?_ (hs := hsl) (hr := RdH.hd.tl))) | (refine J.o 5 ?_; first | (refine J.perm br3 ?_; refine J.t0 hΓ ?_) | (refine J.perm br4 ?_; refine J.t0 hΓ ?_) | (refine J.perm br5 ?_; refine J.t0 hΓ ?_) | (refine J.perm br6 ?_; refine J.t0 hΓ ?_) | (refine J.perm br7 ?_; refine J.t0 hΓ ?_)) | (refine J.o 9 ?_; refine J.lk (a := (b : Int)) keyedI ekI_inj mp (by first | exact RdH.hd | exact RdH.hd.tl | exact RdH.hd.tl.tl | exact RdH.hd.tl.tl.tl | exact RdH.hd.tl.tl.tl.tl | exact RdH.hd.tl.tl.tl.tl.tl | exact RdH.hd.tl.tl.tl.tl.tl.tl | exact RdH.hd.tl.tl.tl.tl.tl.tl.tl | exact RdH.old (fun _ hh => hh) | assumption) hkey hΓ ?_; rw [hget])) | (first | (refine J.o 0 ?_; refine J.ev' hΓ ?_) | refine J.nil ?_ | (refine J.o 4 ?_; first | refine J.lT default hΓ ?_ | refine J.lR hΓ ?_) | (refine J.o 3 ?_; first | refine J.iJ hΓ ?_ | refine J.ev' hΓ ?_) | (refine J.o 5 ?_; first | refine J.t0 hΓ ?_) | (refine J.o 7 ?_; refine J.al hΓ (fun _ => ?_)) | (refine J.o 10 ?_; refine J.ev' hΓ ?_) | (refine J.o 11 ?_; refine J.ev' hΓ ?_)))
        | (first | refine JC.seq ?_ | refine JC.region ?_ | refine JC.block ?_ | refine JC.ret ?_ | refine JC.skip ?_ | refine thenK.nn ?_ | refine thenK.r ?_ | refine blockK.nn ?_ | refine blockK.r ?_ | refine JC.condT rfl ?_ | refine JC.condF rfl ?_ | (refine JC.cond rfl (fun hc => ?_) (fun hc => ?_) <;> ((try simp only [decide_eq_true_eq, decide_eq_false_iff_not, beq_iff_eq, beq_eq_false_iff_ne, bne_iff_ne, bne_eq_false_iff_eq, Bool.not_eq_true', Bool.not_eq_false', Bool.not_eq_true, Bool.not_eq_false] at hc) <;> first | (first | (exact absurd rfl hc) | (exfalso; omega) | (exact absurd (hc.symm.trans (by assumption : _ = false)) (by decide)) | (exact absurd (hc.symm.trans (by assumption : _ = true)) (by decide))) | skip)) | refine drawK.nn ?_)
        | (fail)
        | fail
      all_goals first | (exfalso; omega) | skip
      refine ret1f rfl rfl rfl (fun w1 hw => ⟨_, _, rfl, hw.drop, s, m, hD, y, rfl, rfl, mp, xo, hpy, ⟨so, Ext.refl _, by omega, hy⟩, hfy⟩)
    | none =>
      refine calls_in Tryz.func58 Tryz.ntmps58 rfl rfl (hw) ?_
      unfold stO
      repeat' first
        | (refine J.isJ ?_; first | (first | (refine J.o 7 ?_; refine J.al hΓ (fun b7 => ?_)) | (refine J.o 4 ?_; first | refine J.lR hΓ ?_ (hr := r1'.tl.tl.tl.tl.tl) | refine J.lR hΓ ?_ (hr := r2'.tl.tl.tl.tl.tl.tl) | refine J.lR hΓ ?_ (hr := r3'.tl.tl.tl.tl.tl.tl) | refine J.lR hΓ ?_ (hr := r4'.tl.tl.tl.tl.tl.tl) | refine J.lR hΓ ?_ (hr := Rd.hd) | (refine J.lT default hΓ ?_ (hs := hsl) (hr := RdH.hd.tl))) | (refine J.o 5 ?_; first | (refine J.perm br3 ?_; refine J.t0 hΓ ?_) | (refine J.perm br4 ?_; refine J.t0 hΓ ?_) | (refine J.perm br5 ?_; refine J.t0 hΓ ?_) | (refine J.perm br6 ?_; refine J.t0 hΓ ?_) | (refine J.perm br7 ?_; refine J.t0 hΓ ?_)) | (refine J.o 9 ?_; refine J.lk (a := (b : Int)) keyedI ekI_inj mp (by first | exact RdH.hd | exact RdH.hd.tl | exact RdH.hd.tl.tl | exact RdH.hd.tl.tl.tl | exact RdH.hd.tl.tl.tl.tl | exact RdH.hd.tl.tl.tl.tl.tl | exact RdH.hd.tl.tl.tl.tl.tl.tl | exact RdH.hd.tl.tl.tl.tl.tl.tl.tl | exact RdH.old (fun _ hh => hh) | assumption) hkey hΓ ?_; rw [hget])) | (first | (refine J.o 0 ?_; refine J.ev' hΓ ?_) | refine J.nil ?_ | (refine J.o 4 ?_; first | refine J.lT default hΓ ?_ | refine J.lR hΓ ?_) | (refine J.o 3 ?_; first | refine J.iJ hΓ ?_ | refine J.ev' hΓ ?_) | (refine J.o 5 ?_; first | refine J.t0 hΓ ?_) | (refine J.o 7 ?_; refine J.al hΓ (fun _ => ?_)) | (refine J.o 10 ?_; refine J.ev' hΓ ?_) | (refine J.o 11 ?_; refine J.ev' hΓ ?_)))
        | (first | refine JC.seq ?_ | refine JC.region ?_ | refine JC.block ?_ | refine JC.ret ?_ | refine JC.skip ?_ | refine thenK.nn ?_ | refine thenK.r ?_ | refine blockK.nn ?_ | refine blockK.r ?_ | refine JC.condT rfl ?_ | refine JC.condF rfl ?_ | (refine JC.cond rfl (fun hc => ?_) (fun hc => ?_) <;> ((try simp only [decide_eq_true_eq, decide_eq_false_iff_not, beq_iff_eq, beq_eq_false_iff_ne, bne_iff_ne, bne_eq_false_iff_eq, Bool.not_eq_true', Bool.not_eq_false', Bool.not_eq_true, Bool.not_eq_false] at hc) <;> first | (first | (exact absurd rfl hc) | (exfalso; omega) | (exact absurd (hc.symm.trans (by assumption : _ = false)) (by decide)) | (exact absurd (hc.symm.trans (by assumption : _ = true)) (by decide))) | skip)) | refine drawK.nn ?_)
        | (fail)
        | fail
      all_goals first | (exfalso; omega) | skip
      refine J.isJ ?_
      refine J.o 9 ?_
      refine J.callvx eExC rfl rfl rfl (fun w hw => ih (d - 1) (by omega) (nd s.ns b).l s m hD (by omega) so hll (by omega) mp xo (L := [(b7, Obj.cells ⟨[.int .i64 ((nd s.ns b).p : Int), .int .i64 ((nd s.ns b).l : Int), .int .i64 ((nd s.ns b).h : Int)]⟩ 74 (0, 0))] :: L) (H.sel (l := [_, _, _, _, _, _]) (M := L) hw [1, 2, 3, 4, 5, 0]) r1.tl r2.tl r3.tl r4.tl) ?_
      rintro _ _ ⟨s1, m1, hD1, y1, rfl, rfl, mp1, xo1, pl1, ad1, f1⟩
      have l1 := ad1.le
      have hph := ad1.ext.at_ _ hhl
      unfold sF stO
      simp only [List.cons_append, List.nil_append]
      repeat' first
        | (refine J.isJ ?_; first | (fail) | (first | (refine J.o 0 ?_; refine J.ev' hΓ ?_) | refine J.nil ?_ | (refine J.o 4 ?_; first | refine J.lT default hΓ ?_ | refine J.lR hΓ ?_) | (refine J.o 3 ?_; first | refine J.iJ hΓ ?_ | refine J.ev' hΓ ?_) | (refine J.o 5 ?_; first | refine J.t0 hΓ ?_) | (refine J.o 7 ?_; refine J.al hΓ (fun _ => ?_)) | (refine J.o 10 ?_; refine J.ev' hΓ ?_) | (refine J.o 11 ?_; refine J.ev' hΓ ?_)))
        | (first | refine JC.seq ?_ | refine JC.region ?_ | refine JC.block ?_ | refine JC.ret ?_ | refine JC.skip ?_ | refine thenK.nn ?_ | refine thenK.r ?_ | refine blockK.nn ?_ | refine blockK.r ?_ | refine JC.condT rfl ?_ | refine JC.condF rfl ?_ | (refine JC.cond rfl (fun hc => ?_) (fun hc => ?_) <;> ((try simp only [decide_eq_true_eq, decide_eq_false_iff_not, beq_iff_eq, beq_eq_false_iff_ne, bne_iff_ne, bne_eq_false_iff_eq, Bool.not_eq_true', Bool.not_eq_false', Bool.not_eq_true, Bool.not_eq_false] at hc) <;> first | (first | (exact absurd rfl hc) | (exfalso; omega) | (exact absurd (hc.symm.trans (by assumption : _ = false)) (by decide)) | (exact absurd (hc.symm.trans (by assumption : _ = true)) (by decide))) | skip)) | refine drawK.nn ?_)
        | (fail)
        | fail
      refine JC.drawD ([(b7, Obj.cells ⟨[.int .i64 ((nd s.ns b).p : Int), .int .i64 ((nd s.ns b).l : Int), .int .i64 ((nd s.ns b).h : Int)]⟩ 74 (0, 0))] :: L) [(4, 0), (0, 1), (4, 2), (0, 3), (4, 4), (0, 5), (4, 6), (3, 7), (0, 8), (2, 9), (0, 10)] (by kernel_rfl) (by kernel_rfl) ?_
      refine JD.ld hΓ (fun w hw => H.sel (l := [_, _, _, _, _, _]) (M := L) hw [5]) r1'.tl ?_
      refine JD.ev hΓ ?_
      refine JD.ld hΓ (fun w hw => H.sel (l := [_, _, _, _, _, _]) (M := L) hw [5]) Rd.hd ?_
      refine JD.ev hΓ ?_
      refine JD.ld hΓ (fun w hw => H.sel (l := [_, _, _, _, _, _]) (M := L) hw [5]) r4'.tl ?_
      refine JD.ev hΓ ?_
      refine JD.ld hΓ (fun w hw => H.sel (l := [_, _, _, _, _, _]) (M := L) hw [5]) Rd.hd ?_
      refine JD.callvd eExC rfl rfl rfl (fun w hw => ih (d - 1) (by omega) (nd s.ns b).h s1 m1 hD1 (by rw [hph]; omega) ad1.ok (ad1.old hhl) (by omega) mp1 xo1 (L := [(b7, Obj.cells ⟨[.int .i64 ((nd s.ns b).p : Int), .int .i64 ((nd s.ns b).l : Int), .int .i64 ((nd s.ns b).h : Int)]⟩ 74 (0, 0))] :: L) hw r1.tl r2.tl r3.tl r4.tl) ?_
      rintro _ _ ⟨s2, m2, hD2, y2, rfl, rfl, mp2, xo2, pl2, ad2, f2⟩
      have l2 := ad2.le
      rw [hph] at pl2
      have hpy1 := ad2.ext.at_ _ ad1.lt
      refine ⟨fun w hw => H.sel (l := [_, _, _, _, _, _]) (M := L) hw [5], ?_⟩
      refine JD.bd hΓ ?_
      refine JD.callvx eAdd rfl rfl rfl (fun w hw => add_any ad2.ok ⟨(nd s.ns b).p, y1, y2⟩ (by show (nd s.ns b).p < n; omega) (ad2.old ad1.lt) ad2.lt (by show (nd s.ns b).p < (nd s2.ns y1).p; rw [hpy1]; omega) (by show (nd s.ns b).p < (nd s2.ns y2).p; omega) (by omega) hw) ?_
      rintro _ _ ⟨s3, y3, rfl, rfl, ad3, f3⟩
      dsimp only at f3
      have l3 := ad3.le
      have e12 := ad1.ext.trans ad2.ext
      have e13 := e12.trans ad3.ext
      have hp1 : (nd s3.ns y1).p = (nd s1.ns y1).p := by rw [(ad2.ext.trans ad3.ext).at_ _ ad1.lt]
      have hp2 : (nd s3.ns y2).p = (nd s2.ns y2).p := by rw [ad3.ext.at_ _ ad2.lt]
      have hp3 : (nd s.ns b).p ≤ (nd s3.ns y3).p := from_dep ad3.ok.wf ad3.lt (by omega) fun a j c hj => by
        rw [f3, f3, up_ne a c (by omega), fn_up ad3.ok.wf a c (ad3.old ad2.lt) (by omega), fn_up ad3.ok.wf a c (ad3.old (ad2.old ad1.lt)) (by omega)]
      have hf3 : ∀ α, fn n s3.ns y3 α = exF k (fn n s.ns b) α := fun α => by
        rw [f3, exF_lt wf h2 hb hlt, fn_ext ad2.ok.wf ad3.ext ad2.lt, fn_ext ad1.ok.wf (ad2.ext.trans ad3.ext) ad1.lt, f1, f2, exF_congr (fun β => fn_ext wf ad1.ext hhl β)]
      have hbp : nd s3.ns b = nd s.ns b := e13.at_ b hb
      have xo3 := (xo2.ext ad2.ok.wf ad3.ext).put (b := b) (y := y3) (Nat.lt_of_lt_of_le hb e13.le) ad3.lt (by rw [hbp]; exact hp3) (fun α => by rw [hf3]; exact (exF_congr (fun β => fn_ext wf e13 hb β) α).symm)
      refine JD.ev hΓ ?_
      refine JD.nil ?_
      unfold sF stO
      simp only [List.cons_append, List.nil_append]
      repeat' first
        | (refine J.isJ ?_; first | (first | (refine J.o 4 ?_; refine J.lR hΓ ?_ (hr := r3'.tl.tl.tl.tl.tl.tl)) | (refine J.o 9 ?_; refine J.perm br4 ?_; refine J.mup (a := (b : Int)) (ev := evI) y3 keyedI ekI_inj mp2 hkey hΓ (fun h4 mt4 => ?_))) | (first | (refine J.o 0 ?_; refine J.ev' hΓ ?_) | refine J.nil ?_ | (refine J.o 4 ?_; first | refine J.lT default hΓ ?_ | refine J.lR hΓ ?_) | (refine J.o 3 ?_; first | refine J.iJ hΓ ?_ | refine J.ev' hΓ ?_) | (refine J.o 5 ?_; first | refine J.t0 hΓ ?_) | (refine J.o 7 ?_; refine J.al hΓ (fun _ => ?_)) | (refine J.o 10 ?_; refine J.ev' hΓ ?_) | (refine J.o 11 ?_; refine J.ev' hΓ ?_)))
        | (first | refine JC.seq ?_ | refine JC.region ?_ | refine JC.block ?_ | refine JC.ret ?_ | refine JC.skip ?_ | refine thenK.nn ?_ | refine thenK.r ?_ | refine blockK.nn ?_ | refine blockK.r ?_ | refine JC.condT rfl ?_ | refine JC.condF rfl ?_ | (refine JC.cond rfl (fun hc => ?_) (fun hc => ?_) <;> ((try simp only [decide_eq_true_eq, decide_eq_false_iff_not, beq_iff_eq, beq_eq_false_iff_ne, bne_iff_ne, bne_eq_false_iff_eq, Bool.not_eq_true', Bool.not_eq_false', Bool.not_eq_true, Bool.not_eq_false] at hc) <;> first | (first | (exact absurd rfl hc) | (exfalso; omega) | (exact absurd (hc.symm.trans (by assumption : _ = false)) (by decide)) | (exact absurd (hc.symm.trans (by assumption : _ = true)) (by decide))) | skip)) | refine drawK.nn ?_)
        | (fail)
        | fail
      all_goals first | (exfalso; omega) | skip
      refine ret1f rfl rfl rfl (fun w1 hw => ⟨_, _, rfl, H.sel (l := [_, _, _, _, _, _]) (M := L) hw [1, 2, 3, 4, 0], s3, _, h4, y3, rfl, rfl, mt4, xo3, hp3, ((ad1.trans ad2).trans ad3).mono (by omega), hf3⟩)
  · have h2 := wf.nonconst (show (nd s.ns b).p < n by omega)
    have hll := wf.ll b h2 hb
    have hhl := wf.hl b h2 hb
    have hlp := wf.lp b h2 hb
    have hhp := wf.hp b h2 hb
    refine calls_in Tryz.func58 Tryz.ntmps58 rfl rfl (hw) ?_
    unfold stO
    repeat' first
      | (refine J.isJ ?_; first | (first | (refine J.o 7 ?_; refine J.al hΓ (fun b7 => ?_)) | (refine J.o 4 ?_; first | refine J.lR hΓ ?_ (hr := r1'.tl.tl.tl.tl.tl) | refine J.lR hΓ ?_ (hr := r1'.tl.tl.tl.tl.tl.tl) | refine J.lR hΓ ?_ (hr := r2'.tl.tl.tl.tl.tl.tl) | refine J.lR hΓ ?_ (hr := Rd.hd) | (refine J.lT default hΓ ?_ (hs := hsl) (hr := RdH.hd.tl))) | (refine J.o 5 ?_; first | (refine J.perm br3 ?_; refine J.t0 hΓ ?_) | (refine J.perm br4 ?_; refine J.t0 hΓ ?_) | (refine J.perm br5 ?_; refine J.t0 hΓ ?_) | (refine J.perm br6 ?_; refine J.t0 hΓ ?_) | (refine J.perm br7 ?_; refine J.t0 hΓ ?_)) | (refine J.fc 51 ?_; refine J.callx eCh rfl rfl (fun w hw => choose_any so ⟨(nd s.ns b).l, 1, (nd s.ns b).h⟩ ⟨hll, (show 1 < s.ns.length by omega), hhl⟩ (by omega) (L := hD :: [(b7, Obj.cells ⟨[.int .i64 ((nd s.ns b).p : Int), .int .i64 ((nd s.ns b).l : Int), .int .i64 ((nd s.ns b).h : Int)]⟩ 74 (0, 0))] :: L) (H.sel (l := [_, _, _, _, _, _]) (M := L) hw [1, 2, 3, 4, 5, 0])) ?_; rintro _ _ ⟨s1, y1, rfl, rfl, ad1, it1⟩)) | (first | (refine J.o 0 ?_; refine J.ev' hΓ ?_) | refine J.nil ?_ | (refine J.o 4 ?_; first | refine J.lT default hΓ ?_ | refine J.lR hΓ ?_) | (refine J.o 3 ?_; first | refine J.iJ hΓ ?_ | refine J.ev' hΓ ?_) | (refine J.o 5 ?_; first | refine J.t0 hΓ ?_) | (refine J.o 7 ?_; refine J.al hΓ (fun _ => ?_)) | (refine J.o 10 ?_; refine J.ev' hΓ ?_) | (refine J.o 11 ?_; refine J.ev' hΓ ?_)))
      | (first | refine JC.seq ?_ | refine JC.region ?_ | refine JC.block ?_ | refine JC.ret ?_ | refine JC.skip ?_ | refine thenK.nn ?_ | refine thenK.r ?_ | refine blockK.nn ?_ | refine blockK.r ?_ | refine JC.condT rfl ?_ | refine JC.condF rfl ?_ | (refine JC.cond rfl (fun hc => ?_) (fun hc => ?_) <;> ((try simp only [decide_eq_true_eq, decide_eq_false_iff_not, beq_iff_eq, beq_eq_false_iff_ne, bne_iff_ne, bne_eq_false_iff_eq, Bool.not_eq_true', Bool.not_eq_false', Bool.not_eq_true, Bool.not_eq_false] at hc) <;> first | (first | (exact absurd rfl hc) | (exfalso; omega) | (exact absurd (hc.symm.trans (by assumption : _ = false)) (by decide)) | (exact absurd (hc.symm.trans (by assumption : _ = true)) (by decide))) | skip)) | refine drawK.nn ?_)
      | (fail)
      | fail
    all_goals first | (exfalso; omega) | skip
    refine ret1f rfl rfl rfl (fun w1 hw => ⟨_, _, rfl, H.sel (l := [_, _, _, _, _, _]) (M := L) hw [0, 1, 2, 3, 4], s1, m, hD, y1, rfl, rfl, mp, xo.ext wf ad1.ext, ?_, ad1.mono (by omega), fun α => ?_⟩)
    · rw [heq]
      have hx : T3.lt ⟨(nd s.ns b).l, 1, (nd s.ns b).h⟩ s.ns.length := ⟨hll, (show 1 < s.ns.length by omega), hhl⟩
      have hx2 : T3.from s.ns ⟨(nd s.ns b).l, 1, (nd s.ns b).h⟩ k := ⟨by show k ≤ (nd s.ns (nd s.ns b).l).p; omega, by show k ≤ (nd s.ns 1).p; rw [wf.c1]; show k ≤ n; omega, by show k ≤ (nd s.ns (nd s.ns b).h).p; omega⟩
      exact it1.from ad1.ok.wf (hx.ext ad1.ext) (hx2.ext ad1.ext hx)
    · have he := it1.eq α
      dsimp only at he
      rw [he, exF_eq wf h2 hb heq, fn_1 ad1.ok.wf, fn_ext wf ad1.ext hll, fn_ext wf ad1.ext hhl]
      cases fn n s.ns (nd s.ns b).l α <;> rfl
  ·
    refine calls_in Tryz.func58 Tryz.ntmps58 rfl rfl (hw) ?_
    unfold stO
    repeat' first
      | (refine J.isJ ?_; first | (first | (refine J.o 7 ?_; refine J.al hΓ (fun b7 => ?_)) | (refine J.o 4 ?_; first | refine J.lR hΓ ?_ (hr := r1'.tl.tl.tl.tl.tl) | refine J.lR hΓ ?_ (hr := r2'.tl.tl.tl.tl.tl.tl) | refine J.lR hΓ ?_ (hr := Rd.hd) | (refine J.lT default hΓ ?_ (hs := hsl) (hr := RdH.hd.tl))) | (refine J.o 5 ?_; first | (refine J.perm br3 ?_; refine J.t0 hΓ ?_) | (refine J.perm br4 ?_; refine J.t0 hΓ ?_) | (refine J.perm br5 ?_; refine J.t0 hΓ ?_) | (refine J.perm br6 ?_; refine J.t0 hΓ ?_) | (refine J.perm br7 ?_; refine J.t0 hΓ ?_))) | (first | (refine J.o 0 ?_; refine J.ev' hΓ ?_) | refine J.nil ?_ | (refine J.o 4 ?_; first | refine J.lT default hΓ ?_ | refine J.lR hΓ ?_) | (refine J.o 3 ?_; first | refine J.iJ hΓ ?_ | refine J.ev' hΓ ?_) | (refine J.o 5 ?_; first | refine J.t0 hΓ ?_) | (refine J.o 7 ?_; refine J.al hΓ (fun _ => ?_)) | (refine J.o 10 ?_; refine J.ev' hΓ ?_) | (refine J.o 11 ?_; refine J.ev' hΓ ?_)))
      | (first | refine JC.seq ?_ | refine JC.region ?_ | refine JC.block ?_ | refine JC.ret ?_ | refine JC.skip ?_ | refine thenK.nn ?_ | refine thenK.r ?_ | refine blockK.nn ?_ | refine blockK.r ?_ | refine JC.condT rfl ?_ | refine JC.condF rfl ?_ | (refine JC.cond rfl (fun hc => ?_) (fun hc => ?_) <;> ((try simp only [decide_eq_true_eq, decide_eq_false_iff_not, beq_iff_eq, beq_eq_false_iff_ne, bne_iff_ne, bne_eq_false_iff_eq, Bool.not_eq_true', Bool.not_eq_false', Bool.not_eq_true, Bool.not_eq_false] at hc) <;> first | (first | (exact absurd rfl hc) | (exfalso; omega) | (exact absurd (hc.symm.trans (by assumption : _ = false)) (by decide)) | (exact absurd (hc.symm.trans (by assumption : _ = true)) (by decide))) | skip)) | refine drawK.nn ?_)
      | (fail)
      | fail
    all_goals first | (exfalso; omega) | skip
    all_goals (refine ret1f rfl rfl rfl (fun w1 hw => ⟨_, _, rfl, hw.drop, s, m, hD, b, rfl, rfl, mp, xo, Nat.le_refl _, ⟨so, Ext.refl _, by omega, hb⟩, fun α => (exF_gt wf hb hgt α).symm⟩))
theorem eExD : Entr Tryz.prog 57 := Entr.of Tryz.func57 rfl rfl
theorem eExists : Entr Tryz.prog 26 := Entr.of Tryz.func26 rfl rfl
theorem exD_any {n : Nat} {K : KS} {s : SS} (so : SOk n K s) (k : Nat) (hk : k < n) (a : Nat) (ha : a < s.ns.length) (hfull : s.ns.length + (2 ^ k * 2 ^ n - 1) ≤ 1048576) {w0 w : World} {R : Heap} {L : List Heap} {b0 c1 d1 da : Nat} (r1 : Rd R L c1 (ptrS b0)) (r2 : Rd R L d1 (intO k)) (ra : Rd R L da (intO a)) (hw : H w0 R (sF K b0 s ++ L) w) :
    Calls Tryz.prog 57 #[.pointer (some ⟨c1, 0, none⟩), .pointer (some ⟨d1, 0, none⟩), .pointer (some ⟨da, 0, none⟩)] w fun e w' => ∃ v L', e = .returned v ∧ H w0 R L' w' ∧ ∃ s' y, v = .int .i64 ((y : Nat) : Int) ∧ L' = sF K b0 s' ++ L ∧ Res n K s s' (2 ^ k * 2 ^ n - 1) y (exF k (fn n s.ns a)) := by
  have ra' := ra
  unfold intO at ra'
  unfold sF at hw
  simp only [List.cons_append, List.nil_append] at hw
  refine calls_in Tryz.func57 Tryz.ntmps57 rfl rfl (hw) ?_
  repeat' first
    | (refine J.isJ ?_; first | (first | (refine J.o 9 ?_; refine J.mkm (fun bd => ?_)) | (refine J.o 7 ?_; first | refine J.al (t := 76) hΓ (fun c3 => ?_) | refine J.al (t := 89) hΓ (fun c4 => ?_)) | (refine J.o 14 ?_; refine J.mfV [.pointer (some ⟨c1, 0, none⟩), .pointer (some ⟨d1, 0, none⟩), .pointer (some ⟨c3, 0, none⟩), .pointer (some ⟨c4, 0, none⟩)] hΓ ?_) | (refine J.o 4 ?_; first | refine J.lR hΓ ?_ (hr := Rd.hd) | refine J.lR hΓ ?_ (hr := ra'.tl.tl.tl.tl.tl.tl.tl)) | (refine J.o 9 ?_; refine J.callvx eExC rfl rfl rfl (fun w hw => exC_any k hk b0 c1 d1 c3 c4 bd k a s [] _ (by omega) so ha hfull (MapT.nil _) ⟨fun b y hm => by cases hm⟩ (L := [(c4, fnE c1 d1 c3 c4)] :: [(c3, mapD bd)] :: L) (H.sel (l := [_, _, _, _, _, _, _]) (M := L) hw [3, 4, 5, 6, 2, 0, 1]) r1.tl.tl r2.tl.tl Rd.hd.tl Rd.hd) ?_; rintro _ _ ⟨s1, m1, hD1, y1, rfl, rfl, mp1, xo1, pl1, rs1⟩)) | (first | (refine J.o 0 ?_; refine J.ev' hΓ ?_) | refine J.nil ?_ | (refine J.o 4 ?_; first | refine J.lR hΓ ?_) | (refine J.o 3 ?_; first | refine J.ev' hΓ ?_) | (refine J.o 5 ?_; first | refine J.t0 hΓ ?_) | (refine J.o 7 ?_; refine J.al hΓ (fun _ => ?_)) | (refine J.o 10 ?_; refine J.ev' hΓ ?_) | (refine J.o 11 ?_; refine J.ev' hΓ ?_)))
    | (first | refine JC.seq ?_ | refine JC.region ?_ | refine JC.ret ?_ | refine thenK.nn ?_)
    | (fail)
    | fail
  all_goals first | (exfalso; omega) | skip
  refine ret1f rfl rfl rfl (fun w1 hw => ⟨_, _, rfl, H.sel (l := [_, _, _, _, _, _, _]) (M := L) hw [0, 1, 2, 3], s1, y1, rfl, rfl, rs1⟩)
theorem Exists_any {n : Nat} {K : KS} {s : SS} (so : SOk n K s) {order : List Int} {hO hP : Heap} (po : POk K order hO hP) (a : Nat) (ha : a < s.ns.length) (v : Int) (hv : -9223372036854775808 ≤ v ∧ v ≤ 9223372036854775807) (k : Nat) (hk : rk order v 0 = some k) (hfull : s.ns.length + (2 ^ k * 2 ^ n - 1) ≤ 1048576) {w0 w : World} {R : Heap} {L : List Heap} {b0 : Nat} (hw : H w0 R (sF K b0 s ++ (hO :: hP :: L)) w) :
    Calls Tryz.prog 26 #[.pointer (some ⟨b0, 0, none⟩), .int .i64 (a : Int), .int .i64 v] w fun e w' => ∃ v L', e = .returned v ∧ H w0 R L' w' ∧ ∃ s' y, v = .tuple #[.int .i64 ((y : Nat) : Int), .int .i64 0] ∧ L' = sF K b0 s' ++ (hO :: hP :: L) ∧ Res n K s s' (2 ^ k * 2 ^ n - 1) y (exF k (fn n s.ns a)) := by
  have hkn : k < n := by
    obtain ⟨_, h2, _⟩ := rk_some hk
    have := po.len; have := so.no; omega
  have two := so.wf.two
  have pm := po.pm
  have hkey := keyI v hv
  have cChk : ∀ L1 w1 b1, H w0 R L1 w1 → Rd R L1 b0 (stO K s.an s.ns.length s.cn) → Rd R L1 b1 (intO a) → Calls Tryz.prog 44 #[.pointer (some ⟨b0, 0, none⟩), .slice (some ⟨b1, 0, none⟩) 1 1] w1 fun e w' => e = .returned (.int .i64 0) ∧ Below w1.heap.size w1 w' := fun L1 w1 b1 hw hb hr => by
    have hc := chk_ok (m := s.ns.length) (l := [a]) (by simp only [List.mem_cons, List.not_mem_nil, or_false, forall_eq]; exact ha)
    have := check_any K b0 s.an s.cn s.ns.length two [(b0, stO K s.an s.ns.length s.cn), (b1, intO a)] List.mem_cons_self [(a : Int)] (some ⟨b1, 0, none⟩) 1 ((slArg b1 [(a : Int)] 3).sub fun y hy => List.mem_cons_of_mem _ hy) (by show 1 ≤ 1000; omega) w1 (holds2 (hw.rd hb) (holds2 (hw.rd hr) (Holds.nil _)))
    rw [show chkP s.ns.length [(a : Int)] = true from hc, if_pos rfl] at this
    exact this
  unfold sF at hw
  simp only [List.cons_append, List.nil_append] at hw
  have hget : mget (order.zipIdx 0) v = some k := by rw [mget_zip, hk]
  refine calls_in Tryz.func26 Tryz.ntmps26 rfl rfl (hw) ?_
  refine JC.seq ?_
  refine JC.region ?_
  refine J.isJ ?_
  refine J.o 6 ?_
  refine J.bx (fun c1 => ?_)
  refine J.isJ ?_
  refine J.o 6 ?_
  refine J.bx (fun da => ?_)
  repeat' first
    | (refine J.isJ ?_; first | (first | (refine J.o 4 ?_; first | refine J.lR hΓ ?_ (hr := Rd.hd) | refine J.lR hΓ ?_ (hr := Rd.hd.tl)) | (refine J.o 9 ?_; refine J.bl hΓ (fun b1 => ?_)) | (refine J.fc 44 ?_; refine J.call0 eCheck rfl rfl (fun w hw => cChk _ w _ hw Rd.hd.tl.tl.tl Rd.hd) ?_)) | (first | (refine J.o 0 ?_; refine J.ev' hΓ ?_) | refine J.nil ?_ | (refine J.o 4 ?_; first | refine J.lR hΓ ?_) | (refine J.o 3 ?_; first | refine J.ev' hΓ ?_) | (refine J.o 5 ?_; first | refine J.t0 hΓ ?_) | (refine J.o 6 ?_; refine J.bx (fun _ => ?_)) | (refine J.o 7 ?_; refine J.al hΓ (fun _ => ?_)) | (refine J.o 9 ?_; refine J.bl hΓ (fun _ => ?_)) | (refine J.o 10 ?_; refine J.ev' hΓ ?_) | (refine J.o 11 ?_; refine J.ev' hΓ ?_)))
    | (first | refine JC.seq ?_ | refine JC.region ?_ | refine JC.ret ?_ | refine JC.skip ?_ | refine thenK.nn ?_ | refine JC.condF rfl ?_)
    | (fail)
    | fail
  all_goals first | (exfalso; omega) | skip
  unfold stO
  repeat' first
    | (refine J.isJ ?_; first | (first | (refine J.o 4 ?_; first | refine J.e3 hΓ ?_) | (refine J.o 9 ?_; refine J.lk (a := v) keyedI ekI_inj pm (by first | exact RdH.hd.tl.tl.tl.tl.tl.tl.tl | exact RdH.hd.tl.tl.tl.tl.tl.tl.tl.tl) hkey hΓ ?_; rw [hget]) | (refine J.o 7 ?_; refine J.al hΓ (fun d1 => ?_)) | (refine J.o 14 ?_; refine J.mfV [.pointer (some ⟨c1, 0, none⟩), .pointer (some ⟨d1, 0, none⟩), .pointer (some ⟨da, 0, none⟩)] hΓ ?_) | (refine J.fc 45 ?_; refine J.callx eTry rfl rfl (fun w hw => try_any so (Q := fun s' y => Res n K s s' (2 ^ k * 2 ^ n - 1) y (exF k (fn n s.ns a))) eExD [] none 0 [] (slNil _) (by show 0 ≤ 1000; omega) (L := [(d1, intO k)] :: [(b1, intO a)] :: [(da, intO a)] :: [(c1, ptrS b0)] :: hO :: hP :: L) (fun x hx => by cases hx) rfl (fun Lx w hw => exD_any so k hkn a ha hfull (Rd.app Lx Rd.hd.tl.tl.tl) (Rd.app Lx Rd.hd) (Rd.app Lx Rd.hd.tl.tl) hw) (H.sel (l := [_, _, _, _, _, _, _, _, _, _]) (M := L) hw [4, 5, 6, 7, 0, 1, 2, 3, 8, 9])) ?_; rintro _ _ ⟨s1, y1, rfl, rfl, hq⟩)) | (first | (refine J.o 0 ?_; refine J.ev' hΓ ?_) | refine J.nil ?_ | (refine J.o 4 ?_; first | refine J.lR hΓ ?_) | (refine J.o 3 ?_; first | refine J.ev' hΓ ?_) | (refine J.o 5 ?_; first | refine J.t0 hΓ ?_) | (refine J.o 6 ?_; refine J.bx (fun _ => ?_)) | (refine J.o 7 ?_; refine J.al hΓ (fun _ => ?_)) | (refine J.o 9 ?_; refine J.bl hΓ (fun _ => ?_)) | (refine J.o 10 ?_; refine J.ev' hΓ ?_) | (refine J.o 11 ?_; refine J.ev' hΓ ?_)))
    | (first | refine JC.seq ?_ | refine JC.region ?_ | refine JC.ret ?_ | refine JC.skip ?_ | refine thenK.nn ?_ | refine JC.condF rfl ?_)
    | (fail)
    | fail
  all_goals first | (exfalso; omega) | skip
  refine ret2f rfl rfl rfl rfl rfl (fun w1 hw => ⟨_, _, rfl, H.sel (l := [_, _, _, _, _, _, _, _, _, _]) (M := L) hw [0, 1, 2, 3, 8, 9], s1, y1, rfl, rfl, hq⟩)
end Go.Proofs.YthnhijdfcmcnhaaGreat
namespace Go.Proofs.YthnhijdfcmcnhaaGreat
open Go Go.Cx Go.RowKit
set_option linter.unusedVariables false
set_option linter.unusedSimpArgs false
set_option maxHeartbeats 4000000
attribute [local irreducible] J JC thenK blockK loopK drawK retK QW Qt pel List.set Calls
open Go.Maps Go.Lib
set_option maxRecDepth 8000
attribute [local irreducible] JE Br eK0 eK3 brK pc
abbrev BF := (Nat → Bool) → Bool
structure Kn (n : Nat) (K : KS) (s : SS) (ks : List (Nat × BF)) : Prop where
  so : SOk n K s
  at_ : ∀ y g, (y, g) ∈ ks → y < s.ns.length ∧ ∀ α, fn n s.ns y α = g α
theorem Kn.start {n : Nat} {K : KS} {s : SS} (so : SOk n K s) : Kn n K s [(0, fun _ => false), (1, fun _ => true)] := by
  have two := so.wf.two
  refine ⟨so, fun y g h => ?_⟩
  rcases List.mem_cons.1 h with h | h
  · injection h with h1 h2; subst h1; subst h2; exact ⟨by omega, fun α => fn_0 so.wf α⟩
  · have h := List.mem_singleton.1 h
    injection h with h1 h2; subst h1; subst h2; exact ⟨by omega, fun α => fn_1 so.wf α⟩
theorem Kn.put {n : Nat} {K : KS} {s s' : SS} {ks : List (Nat × BF)} {m y : Nat} {g g' : BF} (k : Kn n K s ks) (r : Res n K s s' m y g') (e : ∀ α, g' α = g α) : Kn n K s' ((y, g) :: ks) := by
  obtain ⟨ad, hf⟩ := r
  refine ⟨ad.ok, fun y' h' hm => ?_⟩
  rcases List.mem_cons.1 hm with h | h
  · injection h with h1 h2; subst h1; subst h2; exact ⟨ad.lt, fun α => by rw [hf, e]⟩
  · obtain ⟨h1, h2⟩ := k.at_ y' h' h
    exact ⟨ad.old h1, fun α => by rw [fn_ext k.so.wf ad.ext h1, h2]⟩
section
variable {P : Program} {n : Nat} {w0 : World} {R : Heap} {l0 : List Oper} {K : Exit → Fr → List Heap → Prop} {f : Fr} {L : List Heap} {rest : List (Nat × Oper)} {κ : Nat}
variable {d : Nat} {ty : TypeId} {pos : String} {aft : Array Edge} {g : Option (Nat × Bool)} {t u : TypeId} {x y : Operand}
theorem J.neF {Γ : List (Nat × TI)} {a b : Nat} (hΓ : Fits P Γ) (h : a = b) (k : J P n w0 R l0 K rest (upd f d (.bool false)) L) (hg : wantB n f l0 ⟨some d, .binOp .neq t x y u, ty, pos, aft, g⟩ = true := by exact rfl) (hx : Cx.ev n f x = .int .i64 (a : Int) := by exact rfl) (hy : Cx.ev n f y = .int .i64 (b : Int) := by exact rfl) (hv : pureEv Γ (Cx.ev n f) (.binOp .neq t x y u) = some (.bool ((a : Int) != (b : Int))) := by exact rfl) : J P n w0 R l0 K ((κ, ⟨some d, .binOp .neq t x y u, ty, pos, aft, g⟩) :: rest) f L := by
  subst h
  have e : ((a : Int) != (a : Int)) = false := by simp
  rw [e] at hv
  exact J.ev hΓ hg hv k
end
theorem kNot_any {n : Nat} {K : KS} {s : SS} {ks : List (Nat × BF)} (k : Kn n K s ks) (h8 : n ≤ 8) {a : Nat} {g : BF} (ha : (a, g) ∈ ks) (hfull : s.ns.length + 255 ≤ 1048576) {w0 w : World} {R : Heap} {L : List Heap} {b0 : Nat} (hw : H w0 R (sF K b0 s ++ L) w) :
    Calls Tryz.prog 16 #[.pointer (some ⟨b0, 0, none⟩), .int .i64 (a : Int)] w fun e w' => ∃ v L', e = .returned v ∧ H w0 R L' w' ∧ ∃ s' y, v = .tuple #[.int .i64 ((y : Nat) : Int), .int .i64 0] ∧ L' = sF K b0 s' ++ L ∧ Kn n K s' ((y, fun α => !g α) :: ks) ∧ s'.ns.length ≤ s.ns.length + 255 := by
  have h2n := pow8 h8
  have ka := k.at_ a g ha
  refine (Not_any k.so a ka.1 (by omega) hw).mono ?_
  rintro e w' ⟨v, L', h1, h2, s1, y1, h3, h4, r⟩
  have := r.1.le
  exact ⟨v, L', h1, h2, s1, y1, h3, h4, k.put r (fun α => by rw [ka.2]), by omega⟩
theorem kAnd_any {n : Nat} {K : KS} {s : SS} {ks : List (Nat × BF)} (k : Kn n K s ks) (h8 : n ≤ 8) {a b : Nat} {g h : BF} (ha : (a, g) ∈ ks) (hb : (b, h) ∈ ks) (hfull : s.ns.length + 255 ≤ 1048576) {w0 w : World} {R : Heap} {L : List Heap} {b0 : Nat} (hw : H w0 R (sF K b0 s ++ L) w) :
    Calls Tryz.prog 18 #[.pointer (some ⟨b0, 0, none⟩), .int .i64 (a : Int), .int .i64 (b : Int)] w fun e w' => ∃ v L', e = .returned v ∧ H w0 R L' w' ∧ ∃ s' y, v = .tuple #[.int .i64 ((y : Nat) : Int), .int .i64 0] ∧ L' = sF K b0 s' ++ L ∧ Kn n K s' ((y, fun α => (g α && h α)) :: ks) ∧ s'.ns.length ≤ s.ns.length + 255 := by
  have h2n := pow8 h8
  have ka := k.at_ a g ha
  have kb := k.at_ b h hb
  refine (And_any k.so a ka.1 b kb.1 (by omega) hw).mono ?_
  rintro e w' ⟨v, L', h1, h2, s1, y1, h3, h4, r⟩
  have := r.1.le
  exact ⟨v, L', h1, h2, s1, y1, h3, h4, k.put r (fun α => by rw [ka.2, kb.2]), by omega⟩
theorem kOr_any {n : Nat} {K : KS} {s : SS} {ks : List (Nat × BF)} (k : Kn n K s ks) (h8 : n ≤ 8) {a b : Nat} {g h : BF} (ha : (a, g) ∈ ks) (hb : (b, h) ∈ ks) (hfull : s.ns.length + 255 ≤ 1048576) {w0 w : World} {R : Heap} {L : List Heap} {b0 : Nat} (hw : H w0 R (sF K b0 s ++ L) w) :
    Calls Tryz.prog 20 #[.pointer (some ⟨b0, 0, none⟩), .int .i64 (a : Int), .int .i64 (b : Int)] w fun e w' => ∃ v L', e = .returned v ∧ H w0 R L' w' ∧ ∃ s' y, v = .tuple #[.int .i64 ((y : Nat) : Int), .int .i64 0] ∧ L' = sF K b0 s' ++ L ∧ Kn n K s' ((y, fun α => Bool.or (g α) (h α)) :: ks) ∧ s'.ns.length ≤ s.ns.length + 255 := by
  have h2n := pow8 h8
  have ka := k.at_ a g ha
  have kb := k.at_ b h hb
  refine (Or_any k.so a ka.1 b kb.1 (by omega) hw).mono ?_
  rintro e w' ⟨v, L', h1, h2, s1, y1, h3, h4, r⟩
  have := r.1.le
  exact ⟨v, L', h1, h2, s1, y1, h3, h4, k.put r (fun α => by rw [ka.2, kb.2]), by omega⟩
theorem kXor_any {n : Nat} {K : KS} {s : SS} {ks : List (Nat × BF)} (k : Kn n K s ks) (h8 : n ≤ 8) {a b : Nat} {g h : BF} (ha : (a, g) ∈ ks) (hb : (b, h) ∈ ks) (hfull : s.ns.length + 510 ≤ 1048576) {w0 w : World} {R : Heap} {L : List Heap} {b0 : Nat} (hw : H w0 R (sF K b0 s ++ L) w) :
    Calls Tryz.prog 22 #[.pointer (some ⟨b0, 0, none⟩), .int .i64 (a : Int), .int .i64 (b : Int)] w fun e w' => ∃ v L', e = .returned v ∧ H w0 R L' w' ∧ ∃ s' y, v = .tuple #[.int .i64 ((y : Nat) : Int), .int .i64 0] ∧ L' = sF K b0 s' ++ L ∧ Kn n K s' ((y, fun α => (g α != h α)) :: ks) ∧ s'.ns.length ≤ s.ns.length + 510 := by
  have h2n := pow8 h8
  have ka := k.at_ a g ha
  have kb := k.at_ b h hb
  refine (Xor_any k.so a ka.1 b kb.1 (by omega) hw).mono ?_
  rintro e w' ⟨v, L', h1, h2, s1, y1, h3, h4, r⟩
  have := r.1.le
  exact ⟨v, L', h1, h2, s1, y1, h3, h4, k.put r (fun α => by rw [ka.2, kb.2]), by omega⟩
theorem kIf_any {n : Nat} {K : KS} {s : SS} {ks : List (Nat × BF)} (k : Kn n K s ks) (h8 : n ≤ 8) {a b c : Nat} {g h i : BF} (ha : (a, g) ∈ ks) (hb : (b, h) ∈ ks) (hc : (c, i) ∈ ks) (hfull : s.ns.length + 255 ≤ 1048576) {w0 w : World} {R : Heap} {L : List Heap} {b0 : Nat} (hw : H w0 R (sF K b0 s ++ L) w) :
    Calls Tryz.prog 24 #[.pointer (some ⟨b0, 0, none⟩), .int .i64 (a : Int), .int .i64 (b : Int), .int .i64 (c : Int)] w fun e w' => ∃ v L', e = .returned v ∧ H w0 R L' w' ∧ ∃ s' y, v = .tuple #[.int .i64 ((y : Nat) : Int), .int .i64 0] ∧ L' = sF K b0 s' ++ L ∧ Kn n K s' ((y, fun α => (if g α then h α else i α)) :: ks) ∧ s'.ns.length ≤ s.ns.length + 255 := by
  have h2n := pow8 h8
  have ka := k.at_ a g ha
  have kb := k.at_ b h hb
  have kc := k.at_ c i hc
  refine (If_any k.so a ka.1 b kb.1 c kc.1 (by omega) hw).mono ?_
  rintro e w' ⟨v, L', h1, h2, s1, y1, h3, h4, r⟩
  have := r.1.le
  exact ⟨v, L', h1, h2, s1, y1, h3, h4, k.put r (fun α => by rw [ka.2, kb.2, kc.2]), by omega⟩
def cntF (n : Nat) (g : BF) : Nat := ((List.range (2 ^ n)).map fun r => g (asg n r)).count true
theorem tab_cnt {n : Nat} {K : KS} {s : SS} {ks : List (Nat × BF)} (k : Kn n K s ks) {a : Nat} {g : BF} (ha : (a, g) ∈ ks) : 2 ^ (nd s.ns a).p * cN n s.ns a = cntF n g := by
  have ka := k.at_ a g ha
  rw [tab_count k.so.wf ka.1]
  unfold tab blk cntF
  congr 1
  exact List.map_congr_left fun r _ => ka.2 _
theorem count_map_not (l : List (Nat → Bool)) (g : BF) : (l.map g).count true + (l.map fun a => !g a).count true = l.length := by
  induction l with
  | nil => rfl
  | cons x l ih =>
    simp only [List.map_cons, List.count_cons, List.length_cons]
    cases g x <;> simp <;> omega
theorem cntF_map (n : Nat) (g : BF) : cntF n g = (((List.range (2 ^ n)).map (asg n)).map g).count true := by unfold cntF; rw [List.map_map]; rfl
theorem cntF_not (n : Nat) (g : BF) : cntF n g + cntF n (fun α => !g α) = 2 ^ n := by
  rw [cntF_map, cntF_map, count_map_not, List.length_map, List.length_range]
theorem cntF_le (n : Nat) (g : BF) : cntF n g ≤ 2 ^ n := by have := cntF_not n g; omega
end Go.Proofs.YthnhijdfcmcnhaaGreat
namespace Go.Proofs.YthnhijdfcmcnhaaGreat
open Go Go.Cx Go.RowKit
set_option linter.unusedVariables false
set_option linter.unusedSimpArgs false
set_option maxHeartbeats 4000000
attribute [local irreducible] J JC thenK blockK loopK drawK retK QW Qt pel List.set Calls
open Go.Maps Go.Lib
set_option maxRecDepth 8000
attribute [local irreducible] JE Br eK0 eK3 brK pc
theorem natI_len (l : List Nat) : (natI l).length = l.length := List.length_map _
theorem natI_get (l : List Nat) {k : Nat} (h : k < l.length) : (natI l).getD k default = ((l.getD k 0 : Nat) : Int) := by
  unfold natI
  rw [List.getD_eq_getElem?_getD, List.getD_eq_getElem?_getD, List.getElem?_map, List.getElem?_eq_getElem h]; rfl
theorem rk_hit : ∀ {l : List Int} {v : Int} {s q : Nat}, q < l.length → (∀ j, j < q → l.getD j default ≠ v) → l.getD q default = v → rk l v s = some (s + q)
  | [], _, _, _, h, _, _ => absurd h (Nat.not_lt_zero _)
  | x :: l, v, s, 0, _, _, e => by rw [rk, if_pos (show x = v from e)]; rfl
  | x :: l, v, s, q + 1, h, g, e => by
    rw [rk, if_neg (show ¬ x = v from g 0 (Nat.zero_lt_succ _)), rk_hit (s := s + 1) (q := q) (by simpa using h) (fun j hj => g (j + 1) (by omega)) e]
    congr 1; omega
theorem rk_miss {l : List Int} {v : Int} (h : ∀ j, j < l.length → l.getD j default ≠ v) : v ∉ l := fun hm => by
  obtain ⟨k, hk, e⟩ := List.mem_iff_getElem.1 hm
  refine h k hk ?_
  rw [List.getD_eq_getElem?_getD, List.getElem?_eq_getElem hk]; exact e
def rkI (l : List Int) (v : Int) : Int := match rk l v 0 with
  | some k => (k : Int)
  | none => -1
theorem rkI_some {l : List Int} {v : Int} {k : Nat} (h : rk l v 0 = some k) : rkI l v = (k : Int) := by unfold rkI; rw [h]
theorem rkI_none {l : List Int} {v : Int} (h : v ∉ l) : rkI l v = -1 := by unfold rkI; rw [rk_none.2 h]
theorem eRank : Entr Tryz.prog 48 := Entr.of Tryz.func48 rfl rfl
theorem Rank_any (l : List Int) (a : Option Addr) (c : Nat) (h : Heap) (hs : SlT encI 1 a l h) (hl : l.length ≤ 1000000000) (v : Int) (w : World) (hw : Holds h w) :
    Calls Tryz.prog 48 #[.slice a l.length c, .int .i64 v] w fun e w' => e = .returned (.int .i64 (rkI l v)) ∧ Below w.heap.size w w' := by
  have q0 : ∀ L, RdH h L h := fun L => RdH.old fun _ hh => hh
  refine calls_of_JC (R := h) Tryz.func48 Tryz.ntmps48 rfl rfl (hw) ?_
  repeat' first
    | (refine J.isJ ?_; first | (fail) | (first | (refine J.o 0 ?_; refine J.ev' hΓ ?_) | refine J.nil ?_ | (refine J.o 4 ?_; first | refine J.lT default hΓ ?_) | (refine J.o 3 ?_; first | refine J.iJ hΓ ?_ | refine J.ev' hΓ ?_) | (refine J.o 1 ?_; first | refine J.ad ?_) | (refine J.o 10 ?_; refine J.ev' hΓ ?_) | (refine J.o 11 ?_; refine J.ev' hΓ ?_)))
    | (first | refine JC.seq ?_ | refine JC.region ?_ | refine JC.block ?_ | refine JC.ret ?_ | refine JC.exit ?_ | refine JC.skip ?_ | refine thenK.nn ?_ | refine thenK.r ?_ | refine thenK.x ?_ | refine blockK.nn ?_ | refine blockK.r ?_ | refine blockK.hit rfl ?_ | (refine JC.cond rfl (fun hc => ?_) (fun hc => ?_) <;> ((try simp only [decide_eq_true_eq, decide_eq_false_iff_not, beq_iff_eq, beq_eq_false_iff_ne, bne_iff_ne, bne_eq_false_iff_eq, Bool.not_eq_true', Bool.not_eq_false', Bool.not_eq_true, Bool.not_eq_false] at hc) <;> first | (first | (exact absurd rfl hc) | (exfalso; omega) | (exact absurd (hc.symm.trans (by assumption : _ = false)) (by decide)) | (exact absurd (hc.symm.trans (by assumption : _ = true)) (by decide))) | skip)) | refine loopK.r ?_ | refine loopK.x ?_)
    | (fail)
    | fail
  refine JC.loop (fun i => i == 5 || Nat.ble 6 i) (fun m g L' => ∃ q, g 5 = .int .i64 ((q : Nat) : Int) ∧ q + m = l.length ∧ (∀ j, j < q → l.getD j default ≠ v) ∧ L' = []) l.length ⟨0, rfl, by omega, fun j hj => absurd hj (Nat.not_lt_zero j), rfl⟩ ?_
  rintro m g L' ⟨q, e5, hq, hne, rfl⟩
  refine JC.pin 5 e5 ?_
  rcases Nat.lt_or_ge q l.length with hlt | hge
  ·
    by_cases heq : l.getD q default = v
    ·
      repeat' first
        | (refine J.isJ ?_; first | ((refine J.o 4 ?_; refine J.lT default hΓ ?_ (hs := hs) (hr := q0 _))) | (first | (refine J.o 0 ?_; refine J.ev' hΓ ?_) | refine J.nil ?_ | (refine J.o 4 ?_; first | refine J.lT default hΓ ?_) | (refine J.o 3 ?_; first | refine J.iJ hΓ ?_ | refine J.ev' hΓ ?_) | (refine J.o 1 ?_; first | refine J.ad ?_) | (refine J.o 10 ?_; refine J.ev' hΓ ?_) | (refine J.o 11 ?_; refine J.ev' hΓ ?_)))
        | (first | refine JC.seq ?_ | refine JC.region ?_ | refine JC.block ?_ | refine JC.ret ?_ | refine JC.exit ?_ | refine JC.skip ?_ | refine thenK.nn ?_ | refine thenK.r ?_ | refine thenK.x ?_ | refine blockK.nn ?_ | refine blockK.r ?_ | refine blockK.hit rfl ?_ | (refine JC.cond rfl (fun hc => ?_) (fun hc => ?_) <;> ((try simp only [decide_eq_true_eq, decide_eq_false_iff_not, beq_iff_eq, beq_eq_false_iff_ne, bne_iff_ne, bne_eq_false_iff_eq, Bool.not_eq_true', Bool.not_eq_false', Bool.not_eq_true, Bool.not_eq_false] at hc) <;> first | (first | (exact absurd rfl hc) | (exfalso; omega) | (exact absurd (hc.symm.trans (by assumption : _ = false)) (by decide)) | (exact absurd (hc.symm.trans (by assumption : _ = true)) (by decide))) | skip)) | refine loopK.r ?_ | refine loopK.x ?_)
        | (fail)
        | fail
      all_goals first | (exfalso; omega) | skip
      refine ret1f rfl rfl rfl (fun w1 hw => ⟨?_, hw.below⟩)
      rw [rkI_some (rk_hit hlt hne heq), Nat.zero_add]
    ·
      repeat' first
        | (refine J.isJ ?_; first | ((refine J.o 4 ?_; refine J.lT default hΓ ?_ (hs := hs) (hr := q0 _))) | (first | (refine J.o 0 ?_; refine J.ev' hΓ ?_) | refine J.nil ?_ | (refine J.o 4 ?_; first | refine J.lT default hΓ ?_) | (refine J.o 3 ?_; first | refine J.iJ hΓ ?_ | refine J.ev' hΓ ?_) | (refine J.o 1 ?_; first | refine J.ad ?_) | (refine J.o 10 ?_; refine J.ev' hΓ ?_) | (refine J.o 11 ?_; refine J.ev' hΓ ?_)))
        | (first | refine JC.seq ?_ | refine JC.region ?_ | refine JC.block ?_ | refine JC.ret ?_ | refine JC.exit ?_ | refine JC.skip ?_ | refine thenK.nn ?_ | refine thenK.r ?_ | refine thenK.x ?_ | refine blockK.nn ?_ | refine blockK.r ?_ | refine blockK.hit rfl ?_ | (refine JC.cond rfl (fun hc => ?_) (fun hc => ?_) <;> ((try simp only [decide_eq_true_eq, decide_eq_false_iff_not, beq_iff_eq, beq_eq_false_iff_ne, bne_iff_ne, bne_eq_false_iff_eq, Bool.not_eq_true', Bool.not_eq_false', Bool.not_eq_true, Bool.not_eq_false] at hc) <;> first | (first | (exact absurd rfl hc) | (exfalso; omega) | (exact absurd (hc.symm.trans (by assumption : _ = false)) (by decide)) | (exact absurd (hc.symm.trans (by assumption : _ = true)) (by decide))) | skip)) | refine loopK.r ?_ | refine loopK.x ?_)
        | (fail)
        | fail
      all_goals first | (exfalso; omega) | skip
      refine loopK.nn (m - 1) (by omega) (by repeat (first | refine Ag.upd rfl ?_ | exact Ag.hv)) ⟨q + 1, ?_, by omega, fun j hj => ?_, rfl⟩
      · show Value.int .i64 _ = _; congr 1
      · rcases Nat.lt_or_ge j q with h | h
        · exact hne j h
        · obtain rfl : j = q := by omega
          exact heq
  ·
    repeat' first
      | (refine J.isJ ?_; first | (fail) | (first | (refine J.o 0 ?_; refine J.ev' hΓ ?_) | refine J.nil ?_ | (refine J.o 4 ?_; first | refine J.lT default hΓ ?_) | (refine J.o 3 ?_; first | refine J.iJ hΓ ?_ | refine J.ev' hΓ ?_) | (refine J.o 1 ?_; first | refine J.ad ?_) | (refine J.o 10 ?_; refine J.ev' hΓ ?_) | (refine J.o 11 ?_; refine J.ev' hΓ ?_)))
      | (first | refine JC.seq ?_ | refine JC.region ?_ | refine JC.block ?_ | refine JC.ret ?_ | refine JC.exit ?_ | refine JC.skip ?_ | refine thenK.nn ?_ | refine thenK.r ?_ | refine thenK.x ?_ | refine blockK.nn ?_ | refine blockK.r ?_ | refine blockK.hit rfl ?_ | (refine JC.cond rfl (fun hc => ?_) (fun hc => ?_) <;> ((try simp only [decide_eq_true_eq, decide_eq_false_iff_not, beq_iff_eq, beq_eq_false_iff_ne, bne_iff_ne, bne_eq_false_iff_eq, Bool.not_eq_true', Bool.not_eq_false', Bool.not_eq_true, Bool.not_eq_false] at hc) <;> first | (first | (exact absurd rfl hc) | (exfalso; omega) | (exact absurd (hc.symm.trans (by assumption : _ = false)) (by decide)) | (exact absurd (hc.symm.trans (by assumption : _ = true)) (by decide))) | skip)) | refine loopK.r ?_ | refine loopK.x ?_)
      | (fail)
      | fail
    all_goals first | (exfalso; omega) | skip
    refine ret1f rfl rfl rfl (fun w1 hw => ⟨?_, hw.below⟩)
    rw [rkI_none (rk_miss fun j hj => hne j (by omega))]
theorem Parts_const {n : Nat} {K : KS} {s : SS} (so : SOk n K s) (b a : Nat) (h2 : a < 2) (hO : Heap) (w : World) (hw : Holds (stR K b s hO) w) :
    Calls Tryz.prog 28 #[.pointer (some ⟨b, 0, none⟩), .int .i64 (a : Int)] w fun e w' => e = .returned (.tuple #[.int .i64 0, .int .i64 0, .int .i64 0, .int .i64 3]) ∧ Below w.heap.size w w' := by
  have two := so.wf.two
  have rb : ∀ L, Rd (stR K b s hO) L b (stO K s.an s.ns.length s.cn) := fun L => Rd.old List.mem_cons_self
  have cChk : ∀ L1 w1 b1, H w (stR K b s hO) L1 w1 → Rd (stR K b s hO) L1 b1 (intO a) → Calls Tryz.prog 44 #[.pointer (some ⟨b, 0, none⟩), .slice (some ⟨b1, 0, none⟩) 1 1] w1 fun e w' => e = .returned (.int .i64 0) ∧ Below w1.heap.size w1 w' := fun L1 w1 b1 hw hr => by
    have hc := chk_ok (m := s.ns.length) (l := [a]) (by simp only [List.mem_cons, List.not_mem_nil, or_false, forall_eq]; omega)
    have := check_any K b s.an s.cn s.ns.length so.wf.two [(b, stO K s.an s.ns.length s.cn), (b1, intO a)] List.mem_cons_self [(a : Int)] (some ⟨b1, 0, none⟩) 1 ((slArg b1 [(a : Int)] 3).sub fun y hy => List.mem_cons_of_mem _ hy) (by show 1 ≤ 1000; omega) w1 (holds2 (hw.rd (rb _)) (holds2 (hw.rd hr) (Holds.nil _)))
    rw [show chkP s.ns.length [(a : Int)] = true from hc, if_pos rfl] at this
    exact this
  refine calls_of_JC (R := (stR K b s hO)) Tryz.func28 Tryz.ntmps28 rfl rfl (hw) ?_
  repeat' first
    | (refine J.isJ ?_; first | (first | (refine J.o 9 ?_; refine J.bl hΓ (fun b1 => ?_)) | (refine J.fc 44 ?_; refine J.call0 eCheck rfl rfl (fun w hw => cChk _ w _ hw Rd.hd) ?_)) | (first | (refine J.o 0 ?_; refine J.ev' hΓ ?_) | refine J.nil ?_ | (refine J.o 3 ?_; first | refine J.ev' hΓ ?_) | (refine J.o 9 ?_; refine J.bl hΓ (fun _ => ?_)) | (refine J.o 10 ?_; refine J.ev' hΓ ?_) | (refine J.o 11 ?_; refine J.ev' hΓ ?_)))
    | (first | refine JC.seq ?_ | refine JC.region ?_ | refine JC.ret ?_ | refine JC.skip ?_ | refine thenK.nn ?_ | refine thenK.r ?_ | refine JC.condF rfl ?_ | (refine JC.cond rfl (fun hc => ?_) (fun hc => ?_) <;> ((try simp only [decide_eq_true_eq, decide_eq_false_iff_not, beq_iff_eq, beq_eq_false_iff_ne, bne_iff_ne, bne_eq_false_iff_eq, Bool.not_eq_true', Bool.not_eq_false', Bool.not_eq_true, Bool.not_eq_false] at hc) <;> first | (first | (exact absurd rfl hc) | (exfalso; omega) | (exact absurd (hc.symm.trans (by assumption : _ = false)) (by decide)) | (exact absurd (hc.symm.trans (by assumption : _ = true)) (by decide))) | skip)))
    | (fail)
    | fail
  all_goals first | (exfalso; omega) | skip
  refine ret4f rfl rfl rfl rfl rfl rfl rfl rfl rfl (fun w1 hw => ⟨rfl, hw.below⟩)
end Go.Proofs.YthnhijdfcmcnhaaGreat
namespace Go.Proofs.YthnhijdfcmcnhaaGreat
open Go Go.Cx Go.RowKit
set_option linter.unusedVariables false
set_option linter.unusedSimpArgs false
set_option maxHeartbeats 4000000
attribute [local irreducible] J JC thenK blockK loopK drawK retK QW Qt pel List.set Calls
open Go.Maps Go.Lib
set_option maxRecDepth 8000
attribute [local irreducible] JE Br eK0 eK3 brK pc
def fillL (T : Nat → Bool) (N q : Nat) : List Bool := (List.range q).map T ++ List.replicate (N - q) false
theorem fill_0 (T : Nat → Bool) (N : Nat) : fillL T N 0 = List.replicate N false := by simp [fillL]
theorem fill_n (T : Nat → Bool) (N : Nat) : fillL T N N = (List.range N).map T := by simp [fillL]
theorem fill_len (T : Nat → Bool) {N q : Nat} (h : q ≤ N) : (fillL T N q).length = N := by simp [fillL]; omega
theorem fill_s (T : Nat → Bool) {N q : Nat} (h : q < N) : (fillL T N q).set q (T q) = fillL T N (q + 1) := by
  unfold fillL
  have e : N - q = (N - (q + 1)) + 1 := by omega
  rw [e, List.replicate_succ, List.set_append_right _ _ (by simp), List.range_succ, List.map_append]
  simp
def tabF (n : Nat) (g : BF) : List Bool := (List.range (2 ^ n)).map fun r => g (asg n r)
theorem tabF_len (n : Nat) (g : BF) : (tabF n g).length = 2 ^ n := by simp [tabF]
theorem tabF_get (n : Nat) (g : BF) {r : Nat} (h : r < 2 ^ n) : (tabF n g).getD r default = g (asg n r) := by
  unfold tabF
  rw [List.getD_eq_getElem?_getD, List.getElem?_map, List.getElem?_range h]; rfl
def ifL (f g h : List Bool) : List Bool := (List.range f.length).map fun i => if f.getD i default then g.getD i default else h.getD i default
theorem ifL_tab (n : Nat) (f g h : BF) : ifL (tabF n f) (tabF n g) (tabF n h) = tabF n (fun α => if f α then g α else h α) := by
  unfold ifL
  rw [tabF_len]
  refine List.map_congr_left fun r hr => ?_
  rw [List.mem_range] at hr
  rw [tabF_get n f hr, tabF_get n g hr, tabF_get n h hr]
theorem tabF_const (n : Nat) (b : Bool) : List.replicate (2 ^ n) b = tabF n (fun _ => b) := by
  unfold tabF; rw [List.map_const', List.length_range]
theorem eConst : Entr Tryz.prog 12 := Entr.of Tryz.func12 rfl rfl
theorem eBit : Entr Tryz.prog 49 := Entr.of Tryz.func49 rfl rfl
theorem eIf30 : Entr Tryz.prog 25 := Entr.of Tryz.func25 rfl rfl
theorem eAll30 : Entr Tryz.prog 52 := Entr.of Tryz.func52 rfl rfl
theorem bit_any (a : Option Addr) (c n k : Nat) (hk : k < n) (hn : n ≤ 8) (w : World) : Calls Tryz.prog 49 #[.slice a n c, .int .i64 (k : Int)] w fun e w' => e = .returned (.int .i64 ((2 ^ (n - 1 - k) : Nat) : Int)) ∧ Below w.heap.size w w' := by
  have h2 : 2 ^ (n - 1 - k) ≤ 2 ^ 8 := Nat.pow_le_pow_right (by omega) (by omega)
  refine calls_of_JC (R := []) Tryz.func49 Tryz.ntmps49 rfl rfl (Holds.nil _) ?_
  repeat' first
    | (refine J.isJ ?_; first | ((refine J.o 1 ?_; first | refine J.gsub (b := 1) ?_ | refine J.gsub ?_ | refine J.gshl (a := 1) (j := n - 1 - k) ?_ (hj := (by show n - 1 - k ≤ 64; omega)) (hw := wI64 (by omega)))) | (first | (refine J.o 0 ?_; refine J.ev' hΓ ?_) | refine J.nil ?_ | (refine J.o 3 ?_; first | refine J.ev' hΓ ?_) | (refine J.o 10 ?_; refine J.ev' hΓ ?_) | (refine J.o 11 ?_; refine J.ev' hΓ ?_)))
    | (first | refine JC.seq ?_ | refine JC.region ?_ | refine JC.ret ?_ | refine thenK.nn ?_)
    | (fail)
    | fail
  all_goals first | (exfalso; omega) | skip
  all_goals (refine ret1f rfl rfl rfl (fun w1 hw => ⟨?_, hw.below⟩))
  rw [Nat.one_mul]
theorem const_any (n : Nat) (hn : n ≤ 8) (v : Bool) (w : World) : Calls Tryz.prog 12 #[.int .i64 (n : Int), .bool v] w (Gives (Sls encBo 1 4 (List.replicate (2 ^ n) v)) w) := by
  have h2 : 2 ^ n ≤ 2 ^ 8 := Nat.pow_le_pow_right (by omega) (by omega)
  refine calls_of_JC (R := []) Tryz.func12 Tryz.ntmps12 rfl rfl (Holds.nil _) ?_
  repeat' first
    | (refine J.isJ ?_; first | (first | (refine J.o 1 ?_; refine J.gshl (a := 1) (j := n) ?_ (hj := (by show n ≤ 64; omega)) (hw := wI64 (by omega))) | (refine J.o 9 ?_; refine J.make (enc := encBo) (m := 1 * 2 ^ n) false hΓ rfl rfl rfl rfl rfl rfl (fun _ => rfl) (by omega) (by omega) (fun bp hp0 op0 => ?_))) | (first | (refine J.o 0 ?_; refine J.ev' hΓ ?_) | refine J.nil ?_ | (refine J.o 3 ?_; first | refine J.iJ hΓ ?_ | refine J.ev' hΓ ?_) | (refine J.o 1 ?_; first | refine J.ad ?_) | (refine J.o 5 ?_; first | refine J.tT _ default hΓ (fun _ _ => ?_)) | (refine J.o 10 ?_; refine J.ev' hΓ ?_) | (refine J.o 11 ?_; refine J.ev' hΓ ?_)))
    | (first | refine JC.seq ?_ | refine JC.region ?_ | refine JC.block ?_ | refine JC.ret ?_ | refine JC.exit ?_ | refine JC.skip ?_ | refine thenK.nn ?_ | refine thenK.x ?_ | refine blockK.nn ?_ | refine blockK.hit rfl ?_ | (refine JC.cond rfl (fun hc => ?_) (fun hc => ?_) <;> ((try simp only [decide_eq_true_eq, decide_eq_false_iff_not, beq_iff_eq, beq_eq_false_iff_ne, bne_iff_ne, bne_eq_false_iff_eq, Bool.not_eq_true', Bool.not_eq_false', Bool.not_eq_true, Bool.not_eq_false] at hc) <;> first | (first | (exact absurd rfl hc) | (exfalso; omega) | (exact absurd (hc.symm.trans (by assumption : _ = false)) (by decide)) | (exact absurd (hc.symm.trans (by assumption : _ = true)) (by decide))) | skip)) | refine loopK.x ?_)
    | (fail)
    | fail
  all_goals first | (exfalso; omega) | skip
  have hl : (List.replicate (1 * 2 ^ n) false).length = 1 * 2 ^ n := by simp
  refine JC.loop (fun i => i == 6 || Nat.ble 10 i) (fun m g L' => ∃ q h', g 6 = .int .i64 ((q : Nat) : Int) ∧ q + m = 1 * 2 ^ n ∧ OwT encBo 1 4 (some ⟨bp, 0, none⟩) (1 * 2 ^ n) (fillL (fun _ => v) (1 * 2 ^ n) q) h' ∧ L' = [h']) (1 * 2 ^ n) ⟨0, _, rfl, by omega, by rw [fill_0]; exact op0, rfl⟩ ?_
  rintro m g L' ⟨q, h', e6, hq, o4, rfl⟩
  refine JC.pin 6 e6 ?_
  have hfl := fill_len (fun _ => v) (N := 1 * 2 ^ n) (q := q) (by omega)
  rcases Nat.lt_or_ge q (1 * 2 ^ n) with hlt | hge
  ·
    repeat' first
      | (refine J.isJ ?_; first | ((refine J.o 5 ?_; refine J.tT (enc := encBo) v default hΓ (fun h5 o5 => ?_) (ho := o4))) | (first | (refine J.o 0 ?_; refine J.ev' hΓ ?_) | refine J.nil ?_ | (refine J.o 3 ?_; first | refine J.iJ hΓ ?_ | refine J.ev' hΓ ?_) | (refine J.o 1 ?_; first | refine J.ad ?_) | (refine J.o 5 ?_; first | refine J.tT _ default hΓ (fun _ _ => ?_)) | (refine J.o 10 ?_; refine J.ev' hΓ ?_) | (refine J.o 11 ?_; refine J.ev' hΓ ?_)))
      | (first | refine JC.seq ?_ | refine JC.region ?_ | refine JC.block ?_ | refine JC.ret ?_ | refine JC.exit ?_ | refine JC.skip ?_ | refine thenK.nn ?_ | refine thenK.x ?_ | refine blockK.nn ?_ | refine blockK.hit rfl ?_ | (refine JC.cond rfl (fun hc => ?_) (fun hc => ?_) <;> ((try simp only [decide_eq_true_eq, decide_eq_false_iff_not, beq_iff_eq, beq_eq_false_iff_ne, bne_iff_ne, bne_eq_false_iff_eq, Bool.not_eq_true', Bool.not_eq_false', Bool.not_eq_true, Bool.not_eq_false] at hc) <;> first | (first | (exact absurd rfl hc) | (exfalso; omega) | (exact absurd (hc.symm.trans (by assumption : _ = false)) (by decide)) | (exact absurd (hc.symm.trans (by assumption : _ = true)) (by decide))) | skip)) | refine loopK.x ?_)
      | (fail)
      | fail
    all_goals first | (exfalso; omega) | skip
    rw [fill_s (fun _ => v) hlt] at o5
    refine loopK.nn (m - 1) (by omega) (by repeat (first | refine Ag.upd rfl ?_ | exact Ag.hv)) ⟨q + 1, h5, ?_, by omega, o5, rfl⟩
    show Value.int .i64 _ = _; congr 1
  ·
    repeat' first
      | (refine J.isJ ?_; first | (fail) | (first | (refine J.o 0 ?_; refine J.ev' hΓ ?_) | refine J.nil ?_ | (refine J.o 3 ?_; first | refine J.iJ hΓ ?_ | refine J.ev' hΓ ?_) | (refine J.o 1 ?_; first | refine J.ad ?_) | (refine J.o 5 ?_; first | refine J.tT _ default hΓ (fun _ _ => ?_)) | (refine J.o 10 ?_; refine J.ev' hΓ ?_) | (refine J.o 11 ?_; refine J.ev' hΓ ?_)))
      | (first | refine JC.seq ?_ | refine JC.region ?_ | refine JC.block ?_ | refine JC.ret ?_ | refine JC.exit ?_ | refine JC.skip ?_ | refine thenK.nn ?_ | refine thenK.x ?_ | refine blockK.nn ?_ | refine blockK.hit rfl ?_ | (refine JC.cond rfl (fun hc => ?_) (fun hc => ?_) <;> ((try simp only [decide_eq_true_eq, decide_eq_false_iff_not, beq_iff_eq, beq_eq_false_iff_ne, bne_iff_ne, bne_eq_false_iff_eq, Bool.not_eq_true', Bool.not_eq_false', Bool.not_eq_true, Bool.not_eq_false] at hc) <;> first | (first | (exact absurd rfl hc) | (exfalso; omega) | (exact absurd (hc.symm.trans (by assumption : _ = false)) (by decide)) | (exact absurd (hc.symm.trans (by assumption : _ = true)) (by decide))) | skip)) | refine loopK.x ?_)
      | (fail)
      | fail
    all_goals first | (exfalso; omega) | skip
    obtain rfl : q = 1 * 2 ^ n := by omega
    rw [fill_n] at o4
    have e : (List.range (1 * 2 ^ n)).map (fun _ => v) = List.replicate (2 ^ n) v := by rw [Nat.one_mul, List.map_const', List.length_range]
    rw [e] at o4
    exact ret1f rfl rfl rfl (fun w1 hw => Gives.of hw ⟨_, _, by simp, o4⟩)
theorem all30_any (t : List Bool) (a : Option Addr) (c : Nat) (hl : t.length ≤ 256) (w : World) : Calls Tryz.prog 52 #[.slice a t.length c] w (Gives (Sls encBo 1 4 (List.replicate t.length true)) w) := by
  refine calls_of_JC (R := []) Tryz.func52 Tryz.ntmps52 rfl rfl (Holds.nil _) ?_
  repeat' first
    | (refine J.isJ ?_; first | ((refine J.o 9 ?_; refine J.make (enc := encBo) (m := t.length) false hΓ rfl rfl rfl rfl rfl rfl (fun _ => rfl) (by omega) (by omega) (fun bp hp0 op0 => ?_))) | (first | (refine J.o 0 ?_; refine J.ev' hΓ ?_) | refine J.nil ?_ | (refine J.o 3 ?_; first | refine J.iJ hΓ ?_ | refine J.ev' hΓ ?_) | (refine J.o 1 ?_; first | refine J.ad ?_) | (refine J.o 5 ?_; first | refine J.tT _ default hΓ (fun _ _ => ?_)) | (refine J.o 10 ?_; refine J.ev' hΓ ?_) | (refine J.o 11 ?_; refine J.ev' hΓ ?_)))
    | (first | refine JC.seq ?_ | refine JC.region ?_ | refine JC.block ?_ | refine JC.ret ?_ | refine JC.exit ?_ | refine JC.skip ?_ | refine thenK.nn ?_ | refine thenK.x ?_ | refine blockK.nn ?_ | refine blockK.hit rfl ?_ | (refine JC.cond rfl (fun hc => ?_) (fun hc => ?_) <;> ((try simp only [decide_eq_true_eq, decide_eq_false_iff_not, beq_iff_eq, beq_eq_false_iff_ne, bne_iff_ne, bne_eq_false_iff_eq, Bool.not_eq_true', Bool.not_eq_false', Bool.not_eq_true, Bool.not_eq_false] at hc) <;> first | (first | (exact absurd rfl hc) | (exfalso; omega) | (exact absurd (hc.symm.trans (by assumption : _ = false)) (by decide)) | (exact absurd (hc.symm.trans (by assumption : _ = true)) (by decide))) | skip)) | refine loopK.x ?_)
    | (fail)
    | fail
  all_goals first | (exfalso; omega) | skip
  refine JC.loop (fun i => i == 4 || Nat.ble 8 i) (fun m g L' => ∃ q h', g 4 = .int .i64 ((q : Nat) : Int) ∧ q + m = t.length ∧ OwT encBo 1 4 (some ⟨bp, 0, none⟩) t.length (fillL (fun _ => true) t.length q) h' ∧ L' = [h']) t.length ⟨0, _, rfl, by omega, by rw [fill_0]; exact op0, rfl⟩ ?_
  rintro m g L' ⟨q, h', e6, hq, o4, rfl⟩
  refine JC.pin 4 e6 ?_
  have hfl := fill_len (fun _ => true) (N := t.length) (q := q) (by omega)
  rcases Nat.lt_or_ge q t.length with hlt | hge
  ·
    repeat' first
      | (refine J.isJ ?_; first | ((refine J.o 5 ?_; refine J.tT (enc := encBo) true default hΓ (fun h5 o5 => ?_) (ho := o4))) | (first | (refine J.o 0 ?_; refine J.ev' hΓ ?_) | refine J.nil ?_ | (refine J.o 3 ?_; first | refine J.iJ hΓ ?_ | refine J.ev' hΓ ?_) | (refine J.o 1 ?_; first | refine J.ad ?_) | (refine J.o 5 ?_; first | refine J.tT _ default hΓ (fun _ _ => ?_)) | (refine J.o 10 ?_; refine J.ev' hΓ ?_) | (refine J.o 11 ?_; refine J.ev' hΓ ?_)))
      | (first | refine JC.seq ?_ | refine JC.region ?_ | refine JC.block ?_ | refine JC.ret ?_ | refine JC.exit ?_ | refine JC.skip ?_ | refine thenK.nn ?_ | refine thenK.x ?_ | refine blockK.nn ?_ | refine blockK.hit rfl ?_ | (refine JC.cond rfl (fun hc => ?_) (fun hc => ?_) <;> ((try simp only [decide_eq_true_eq, decide_eq_false_iff_not, beq_iff_eq, beq_eq_false_iff_ne, bne_iff_ne, bne_eq_false_iff_eq, Bool.not_eq_true', Bool.not_eq_false', Bool.not_eq_true, Bool.not_eq_false] at hc) <;> first | (first | (exact absurd rfl hc) | (exfalso; omega) | (exact absurd (hc.symm.trans (by assumption : _ = false)) (by decide)) | (exact absurd (hc.symm.trans (by assumption : _ = true)) (by decide))) | skip)) | refine loopK.x ?_)
      | (fail)
      | fail
    all_goals first | (exfalso; omega) | skip
    rw [fill_s (fun _ => true) hlt] at o5
    refine loopK.nn (m - 1) (by omega) (by repeat (first | refine Ag.upd rfl ?_ | exact Ag.hv)) ⟨q + 1, h5, ?_, by omega, o5, rfl⟩
    show Value.int .i64 _ = _; congr 1
  ·
    repeat' first
      | (refine J.isJ ?_; first | (fail) | (first | (refine J.o 0 ?_; refine J.ev' hΓ ?_) | refine J.nil ?_ | (refine J.o 3 ?_; first | refine J.iJ hΓ ?_ | refine J.ev' hΓ ?_) | (refine J.o 1 ?_; first | refine J.ad ?_) | (refine J.o 5 ?_; first | refine J.tT _ default hΓ (fun _ _ => ?_)) | (refine J.o 10 ?_; refine J.ev' hΓ ?_) | (refine J.o 11 ?_; refine J.ev' hΓ ?_)))
      | (first | refine JC.seq ?_ | refine JC.region ?_ | refine JC.block ?_ | refine JC.ret ?_ | refine JC.exit ?_ | refine JC.skip ?_ | refine thenK.nn ?_ | refine thenK.x ?_ | refine blockK.nn ?_ | refine blockK.hit rfl ?_ | (refine JC.cond rfl (fun hc => ?_) (fun hc => ?_) <;> ((try simp only [decide_eq_true_eq, decide_eq_false_iff_not, beq_iff_eq, beq_eq_false_iff_ne, bne_iff_ne, bne_eq_false_iff_eq, Bool.not_eq_true', Bool.not_eq_false', Bool.not_eq_true, Bool.not_eq_false] at hc) <;> first | (first | (exact absurd rfl hc) | (exfalso; omega) | (exact absurd (hc.symm.trans (by assumption : _ = false)) (by decide)) | (exact absurd (hc.symm.trans (by assumption : _ = true)) (by decide))) | skip)) | refine loopK.x ?_)
      | (fail)
      | fail
    all_goals first | (exfalso; omega) | skip
    obtain rfl : q = t.length := by omega
    rw [fill_n, List.map_const', List.length_range] at o4
    exact ret1f rfl rfl rfl (fun w1 hw => Gives.of hw ⟨_, _, by simp, o4⟩)
theorem if30_any (f g h : List Bool) (af ag ah : Option Addr) (cf cg ch : Nat) (hf hg hh : Heap) (sf : SlT encBo 1 af f hf) (sg : SlT encBo 1 ag g hg) (sh : SlT encBo 1 ah h hh) (hl : f.length ≤ 256) (hgl : g.length = f.length) (hhl : h.length = f.length) (w : World) (hw : Holds (hf ++ (hg ++ hh)) w) :
    Calls Tryz.prog 25 #[.slice af f.length cf, .slice ag f.length cg, .slice ah f.length ch] w (Gives (Sls encBo 1 4 (ifL f g h)) w) := by
  have q0 : ∀ L, RdH (hf ++ (hg ++ hh)) L hf := fun L => RdH.old fun _ hh => List.mem_append_left _ hh
  have q1 : ∀ L, RdH (hf ++ (hg ++ hh)) L hg := fun L => RdH.old fun _ hh => List.mem_append_right _ (List.mem_append_left _ hh)
  have q2 : ∀ L, RdH (hf ++ (hg ++ hh)) L hh := fun L => RdH.old fun _ hh => List.mem_append_right _ (List.mem_append_right _ hh)
  obtain ⟨T, hT⟩ : ∃ T : Nat → Bool, T = fun i => if f.getD i default then g.getD i default else h.getD i default := ⟨_, rfl⟩
  refine calls_of_JC (R := (hf ++ (hg ++ hh))) Tryz.func25 Tryz.ntmps25 rfl rfl (hw) ?_
  repeat' first
    | (refine J.isJ ?_; first | ((refine J.o 9 ?_; refine J.make (enc := encBo) (m := f.length) false hΓ rfl rfl rfl rfl rfl rfl (fun _ => rfl) (by omega) (by omega) (fun bp hp0 op0 => ?_))) | (first | (refine J.o 0 ?_; refine J.ev' hΓ ?_) | refine J.nil ?_ | (refine J.o 4 ?_; first | refine J.lT default hΓ ?_) | (refine J.o 3 ?_; first | refine J.iJ hΓ ?_ | refine J.ev' hΓ ?_) | (refine J.o 1 ?_; first | refine J.ad ?_) | (refine J.o 5 ?_; first | refine J.tT _ default hΓ (fun _ _ => ?_)) | (refine J.o 10 ?_; refine J.ev' hΓ ?_) | (refine J.o 11 ?_; refine J.ev' hΓ ?_)))
    | (first | refine JC.seq ?_ | refine JC.region ?_ | refine JC.block ?_ | refine JC.ret ?_ | refine JC.exit ?_ | refine JC.skip ?_ | refine thenK.nn ?_ | refine thenK.x ?_ | refine blockK.nn ?_ | refine blockK.hit rfl ?_ | refine JC.condT rfl ?_ | refine JC.condF rfl ?_ | (refine JC.cond rfl (fun hc => ?_) (fun hc => ?_) <;> ((try simp only [decide_eq_true_eq, decide_eq_false_iff_not, beq_iff_eq, beq_eq_false_iff_ne, bne_iff_ne, bne_eq_false_iff_eq, Bool.not_eq_true', Bool.not_eq_false', Bool.not_eq_true, Bool.not_eq_false] at hc) <;> first | (first | (exact absurd rfl hc) | (exfalso; omega) | (exact absurd (hc.symm.trans (by assumption : _ = false)) (by decide)) | (exact absurd (hc.symm.trans (by assumption : _ = true)) (by decide))) | skip)) | refine loopK.x ?_)
    | (fail)
    | fail
  all_goals first | (exfalso; omega) | skip
  refine JC.loop (fun i => i == 8 || Nat.ble 12 i) (fun m g L' => ∃ q h', g 8 = .int .i64 ((q : Nat) : Int) ∧ q + m = f.length ∧ OwT encBo 1 4 (some ⟨bp, 0, none⟩) f.length (fillL T f.length q) h' ∧ L' = [h']) f.length ⟨0, _, rfl, by omega, by rw [fill_0]; exact op0, rfl⟩ ?_
  rintro m gg L' ⟨q, h', e6, hq, o4, rfl⟩
  refine JC.pin 8 e6 ?_
  have hfl := fill_len T (N := f.length) (q := q) (by omega)
  rcases Nat.lt_or_ge q f.length with hlt | hge
  ·
    cases hfq : f.getD q default with
    | true =>
      have hTq : T q = g.getD q default := by rw [hT]; show (if f.getD q default then _ else _) = _; rw [hfq]; rfl
      repeat' first
        | (refine J.isJ ?_; first | (first | (refine J.o 3 ?_; first | refine J.iJ hΓ ?_ (hs := o4.sl) | refine J.iJ hΓ ?_ (hs := sf) | refine J.iJ hΓ ?_ (hs := sg) | refine J.iJ hΓ ?_ (hs := sh)) | (refine J.o 4 ?_; first | (refine J.lT default hΓ ?_ (hs := sf) (hr := q0 _); rw [hfq]) | (refine J.lT default hΓ ?_ (hs := sg) (hr := q1 _)) | (refine J.lT default hΓ ?_ (hs := sh) (hr := q2 _))) | (refine J.o 5 ?_; refine J.tT (enc := encBo) (g.getD q default) default hΓ (fun h5 o5 => ?_) (ho := o4))) | (first | (refine J.o 0 ?_; refine J.ev' hΓ ?_) | refine J.nil ?_ | (refine J.o 4 ?_; first | refine J.lT default hΓ ?_) | (refine J.o 3 ?_; first | refine J.iJ hΓ ?_ | refine J.ev' hΓ ?_) | (refine J.o 1 ?_; first | refine J.ad ?_) | (refine J.o 5 ?_; first | refine J.tT _ default hΓ (fun _ _ => ?_)) | (refine J.o 10 ?_; refine J.ev' hΓ ?_) | (refine J.o 11 ?_; refine J.ev' hΓ ?_)))
        | (first | refine JC.seq ?_ | refine JC.region ?_ | refine JC.block ?_ | refine JC.ret ?_ | refine JC.exit ?_ | refine JC.skip ?_ | refine thenK.nn ?_ | refine thenK.x ?_ | refine blockK.nn ?_ | refine blockK.hit rfl ?_ | refine JC.condT rfl ?_ | refine JC.condF rfl ?_ | (refine JC.cond rfl (fun hc => ?_) (fun hc => ?_) <;> ((try simp only [decide_eq_true_eq, decide_eq_false_iff_not, beq_iff_eq, beq_eq_false_iff_ne, bne_iff_ne, bne_eq_false_iff_eq, Bool.not_eq_true', Bool.not_eq_false', Bool.not_eq_true, Bool.not_eq_false] at hc) <;> first | (first | (exact absurd rfl hc) | (exfalso; omega) | (exact absurd (hc.symm.trans (by assumption : _ = false)) (by decide)) | (exact absurd (hc.symm.trans (by assumption : _ = true)) (by decide))) | skip)) | refine loopK.x ?_)
        | (fail)
        | fail
      all_goals first | (exfalso; omega) | skip
      rw [← hTq, fill_s T hlt] at o5
      refine loopK.nn (m - 1) (by omega) (by repeat (first | refine Ag.upd rfl ?_ | exact Ag.hv)) ⟨q + 1, h5, ?_, by omega, o5, rfl⟩
      show Value.int .i64 _ = _; congr 1
    | false =>
      have hTq : T q = h.getD q default := by rw [hT]; show (if f.getD q default then _ else _) = _; rw [hfq]; rfl
      repeat' first
        | (refine J.isJ ?_; first | (first | (refine J.o 3 ?_; first | refine J.iJ hΓ ?_ (hs := o4.sl) | refine J.iJ hΓ ?_ (hs := sf) | refine J.iJ hΓ ?_ (hs := sg) | refine J.iJ hΓ ?_ (hs := sh)) | (refine J.o 4 ?_; first | (refine J.lT default hΓ ?_ (hs := sf) (hr := q0 _); rw [hfq]) | (refine J.lT default hΓ ?_ (hs := sg) (hr := q1 _)) | (refine J.lT default hΓ ?_ (hs := sh) (hr := q2 _))) | (refine J.o 5 ?_; refine J.tT (enc := encBo) (h.getD q default) default hΓ (fun h5 o5 => ?_) (ho := o4))) | (first | (refine J.o 0 ?_; refine J.ev' hΓ ?_) | refine J.nil ?_ | (refine J.o 4 ?_; first | refine J.lT default hΓ ?_) | (refine J.o 3 ?_; first | refine J.iJ hΓ ?_ | refine J.ev' hΓ ?_) | (refine J.o 1 ?_; first | refine J.ad ?_) | (refine J.o 5 ?_; first | refine J.tT _ default hΓ (fun _ _ => ?_)) | (refine J.o 10 ?_; refine J.ev' hΓ ?_) | (refine J.o 11 ?_; refine J.ev' hΓ ?_)))
        | (first | refine JC.seq ?_ | refine JC.region ?_ | refine JC.block ?_ | refine JC.ret ?_ | refine JC.exit ?_ | refine JC.skip ?_ | refine thenK.nn ?_ | refine thenK.x ?_ | refine blockK.nn ?_ | refine blockK.hit rfl ?_ | refine JC.condT rfl ?_ | refine JC.condF rfl ?_ | (refine JC.cond rfl (fun hc => ?_) (fun hc => ?_) <;> ((try simp only [decide_eq_true_eq, decide_eq_false_iff_not, beq_iff_eq, beq_eq_false_iff_ne, bne_iff_ne, bne_eq_false_iff_eq, Bool.not_eq_true', Bool.not_eq_false', Bool.not_eq_true, Bool.not_eq_false] at hc) <;> first | (first | (exact absurd rfl hc) | (exfalso; omega) | (exact absurd (hc.symm.trans (by assumption : _ = false)) (by decide)) | (exact absurd (hc.symm.trans (by assumption : _ = true)) (by decide))) | skip)) | refine loopK.x ?_)
        | (fail)
        | fail
      all_goals first | (exfalso; omega) | skip
      rw [← hTq, fill_s T hlt] at o5
      refine loopK.nn (m - 1) (by omega) (by repeat (first | refine Ag.upd rfl ?_ | exact Ag.hv)) ⟨q + 1, h5, ?_, by omega, o5, rfl⟩
      show Value.int .i64 _ = _; congr 1
  ·
    repeat' first
      | (refine J.isJ ?_; first | (fail) | (first | (refine J.o 0 ?_; refine J.ev' hΓ ?_) | refine J.nil ?_ | (refine J.o 4 ?_; first | refine J.lT default hΓ ?_) | (refine J.o 3 ?_; first | refine J.iJ hΓ ?_ | refine J.ev' hΓ ?_) | (refine J.o 1 ?_; first | refine J.ad ?_) | (refine J.o 5 ?_; first | refine J.tT _ default hΓ (fun _ _ => ?_)) | (refine J.o 10 ?_; refine J.ev' hΓ ?_) | (refine J.o 11 ?_; refine J.ev' hΓ ?_)))
      | (first | refine JC.seq ?_ | refine JC.region ?_ | refine JC.block ?_ | refine JC.ret ?_ | refine JC.exit ?_ | refine JC.skip ?_ | refine thenK.nn ?_ | refine thenK.x ?_ | refine blockK.nn ?_ | refine blockK.hit rfl ?_ | refine JC.condT rfl ?_ | refine JC.condF rfl ?_ | (refine JC.cond rfl (fun hc => ?_) (fun hc => ?_) <;> ((try simp only [decide_eq_true_eq, decide_eq_false_iff_not, beq_iff_eq, beq_eq_false_iff_ne, bne_iff_ne, bne_eq_false_iff_eq, Bool.not_eq_true', Bool.not_eq_false', Bool.not_eq_true, Bool.not_eq_false] at hc) <;> first | (first | (exact absurd rfl hc) | (exfalso; omega) | (exact absurd (hc.symm.trans (by assumption : _ = false)) (by decide)) | (exact absurd (hc.symm.trans (by assumption : _ = true)) (by decide))) | skip)) | refine loopK.x ?_)
      | (fail)
      | fail
    all_goals first | (exfalso; omega) | skip
    obtain rfl : q = f.length := by omega
    rw [fill_n] at o4
    have e : (List.range f.length).map T = ifL f g h := by rw [hT]; rfl
    rw [e] at o4
    have e2 : (ifL f g h).length = f.length := by simp [ifL]
    exact ret1f rfl rfl rfl (fun w1 hw => Gives.of hw ⟨_, _, by rw [e2], o4⟩)
end Go.Proofs.YthnhijdfcmcnhaaGreat
namespace Go.Proofs.YthnhijdfcmcnhaaGreat
open Go Go.Cx Go.RowKit
set_option linter.unusedVariables false
set_option linter.unusedSimpArgs false
set_option maxHeartbeats 4000000
attribute [local irreducible] J JC thenK blockK loopK drawK retK QW Qt pel List.set Calls
open Go.Maps Go.Lib
set_option maxRecDepth 8000
attribute [local irreducible] JE Br eK0 eK3 brK pc
theorem and_pw (q m : Nat) : q &&& 2 ^ m = (q / 2 ^ m % 2) * 2 ^ m := by
  apply Nat.eq_of_testBit_eq
  intro i
  rw [Nat.testBit_and, Nat.testBit_two_pow, Nat.mul_comm, show 2 ^ m * (q / 2 ^ m % 2) = 2 ^ m * (q / 2 ^ m % 2) + 0 from rfl, Nat.testBit_two_pow_mul_add _ (Nat.two_pow_pos m)]
  rcases Nat.lt_trichotomy i m with h | h | h
  · simp [h]; omega
  · subst h; simp [Nat.testBit_eq_decide_div_mod_eq]
  · rw [if_neg (by omega)]
    have : m ≠ i := by omega
    simp [this]
    have h2 : q / 2 ^ m % 2 < 2 := Nat.mod_lt _ (by decide)
    apply Nat.testBit_lt_two_pow
    exact Nat.lt_of_lt_of_le h2 (by rw [show 2 = 2 ^ 1 from rfl]; exact Nat.pow_le_pow_right (by decide) (by omega))
def gi (m : Nat) (b : Bool) (q : Nat) : Nat := q - (q &&& 2 ^ m) + (if b then 2 ^ m else 0)
theorem and_le (q m : Nat) : q &&& 2 ^ m ≤ q := Nat.and_le_left
theorem q_split (q m : Nat) : q = 2 ^ m * (2 * (q / 2 ^ (m + 1)) + q / 2 ^ m % 2) + q % 2 ^ m := by
  have h1 := Nat.div_add_mod q (2 ^ m)
  have h2 := Nat.div_add_mod (q / 2 ^ m) 2
  have h3 : q / 2 ^ m / 2 = q / 2 ^ (m + 1) := by rw [Nat.div_div_eq_div_mul, Nat.pow_succ]
  rw [h3] at h2
  rw [h2, h1]
theorem gi_eq (m : Nat) (b : Bool) (q : Nat) : gi m b q = 2 ^ m * (2 * (q / 2 ^ (m + 1)) + (if b then 1 else 0)) + q % 2 ^ m := by
  have h := q_split q m
  unfold gi
  rw [and_pw]
  have e : q - q / 2 ^ m % 2 * 2 ^ m = 2 ^ m * (2 * (q / 2 ^ (m + 1))) + q % 2 ^ m := by
    rw [Nat.mul_add] at h
    have : q / 2 ^ m % 2 * 2 ^ m = 2 ^ m * (q / 2 ^ m % 2) := Nat.mul_comm _ _
    omega
  rw [e]
  cases b
  · simp
  · simp only [if_true]; rw [Nat.mul_add]; omega
theorem gi_bit (m : Nat) (b : Bool) (q j : Nat) : (gi m b q).testBit j = if j = m then b else q.testBit j := by
  have hlo : q % 2 ^ m < 2 ^ m := Nat.mod_lt _ (Nat.two_pow_pos m)
  rw [gi_eq, Nat.testBit_two_pow_mul_add _ hlo]
  have hq : q.testBit j = (2 ^ m * (2 * (q / 2 ^ (m + 1)) + q / 2 ^ m % 2) + q % 2 ^ m).testBit j := by rw [← q_split]
  rw [hq, Nat.testBit_two_pow_mul_add _ hlo]
  by_cases h : j < m
  · rw [if_pos h, if_pos h, if_neg (by omega)]
  · rw [if_neg h, if_neg h]
    by_cases he : j = m
    · subst he
      rw [if_pos rfl, Nat.sub_self, Nat.testBit_zero]
      cases b <;> simp <;> omega
    · rw [if_neg he]
      obtain ⟨i, hi⟩ : ∃ i, j - m = i + 1 := ⟨j - m - 1, by omega⟩
      rw [hi, Nat.testBit_succ, Nat.testBit_succ]
      congr 1
      cases b <;> simp <;> omega
theorem gi_lt {n m : Nat} (hm : m < n) (b : Bool) {q : Nat} (hq : q < 2 ^ n) : gi m b q < 2 ^ n := by
  apply Nat.lt_pow_two_of_testBit
  intro i hi
  rw [gi_bit, if_neg (by omega)]
  exact Nat.testBit_lt_two_pow (Nat.lt_of_lt_of_le hq (Nat.pow_le_pow_right (by decide) hi))
theorem asg_gi {n k : Nat} (hk : k < n) (b : Bool) (q : Nat) : asg n (gi (n - 1 - k) b q) = up (asg n q) k b := by
  funext j
  unfold asg up
  rw [gi_bit]
  by_cases h : j = k
  · subst h; rw [if_pos rfl, if_pos rfl, decide_eq_true hk]; rfl
  · rw [if_neg h]
    by_cases hj : j < n
    · rw [if_neg (by omega)]
    · simp [hj]
theorem giv_tab {n k : Nat} (hk : k < n) (b : Bool) (g : BF) : ((List.range (2 ^ n)).map fun i => (tabF n g).getD (gi (n - 1 - k) b i) default) = tabF n (fun α => g (up α k b)) := by
  unfold tabF
  refine List.map_congr_left fun r hr => ?_
  rw [List.mem_range] at hr
  have := tabF_get n g (gi_lt (show n - 1 - k < n by omega) b hr)
  unfold tabF at this
  rw [this, asg_gi hk]
def TabV (n : Nat) (g : BF) (v : Value) (h : Heap) : Prop := ∃ a cap, v = .slice a (2 ^ n) cap ∧ OwT encBo 1 4 a cap (tabF n g) h
theorem TabV.of {n : Nat} {g : BF} {l : List Bool} {v : Value} {h : Heap} (s : Sls encBo 1 4 l v h) (e : l = tabF n g) : TabV n g v h := by
  obtain ⟨a, c, e1, e2⟩ := s
  subst e
  rw [tabF_len] at e1
  exact ⟨a, c, e1, e2⟩
theorem gives_weak {Φ Ψ : Value → Heap → Prop} {w w' : World} {e : Ending} (g : Gives Φ w e w') (h : ∀ v x, Φ v x → Ψ v x) : Gives Ψ w e w' := by
  obtain ⟨v, x, h1, h2, h3, h4, h5, h6⟩ := g
  exact ⟨v, x, h1, h2, h3, h4, h5, h v x h6⟩
theorem ifT_any (n : Nat) (h8 : n ≤ 8) (f g h : BF) (af ag ah : Option Addr) (cf cg ch : Nat) (hf hg hh : Heap) (sf : SlT encBo 1 af (tabF n f) hf) (sg : SlT encBo 1 ag (tabF n g) hg) (sh : SlT encBo 1 ah (tabF n h) hh) (w : World) (hw : Holds (hf ++ (hg ++ hh)) w) :
    Calls Tryz.prog 25 #[.slice af (2 ^ n) cf, .slice ag (2 ^ n) cg, .slice ah (2 ^ n) ch] w (Gives (TabV n (fun α => if f α then g α else h α)) w) := by
  have h2n := pow8 h8
  have := if30_any (tabF n f) (tabF n g) (tabF n h) af ag ah cf cg ch hf hg hh sf sg sh (by rw [tabF_len]; omega) (by rw [tabF_len, tabF_len]) (by rw [tabF_len, tabF_len]) w hw
  rw [tabF_len] at this
  exact this.mono fun e w' gg => gives_weak gg fun v x hs => TabV.of hs (ifL_tab n f g h)
theorem allT_any (n : Nat) (h8 : n ≤ 8) (a : Option Addr) (c : Nat) (w : World) : Calls Tryz.prog 52 #[.slice a (2 ^ n) c] w (Gives (TabV n (fun _ => true)) w) := by
  have h2n := pow8 h8
  have := all30_any (tabF n (fun _ => true)) a c (by rw [tabF_len]; omega) w
  rw [tabF_len] at this
  exact this.mono fun e w' g => gives_weak g fun v x hs => TabV.of hs (tabF_const n true)
theorem constT_any (n : Nat) (h8 : n ≤ 8) (b : Bool) (w : World) : Calls Tryz.prog 12 #[.int .i64 (n : Int), .bool b] w (Gives (TabV n (fun _ => b)) w) :=
  (const_any n h8 b w).mono fun e w' g => gives_weak g fun v x hs => TabV.of hs (tabF_const n b)
theorem TabV.congr {n : Nat} {g g' : BF} (e : ∀ α, g α = g' α) {v : Value} {h : Heap} (t : TabV n g v h) : TabV n g' v h := by
  have : g = g' := funext e
  rwa [← this]
theorem eNot30 : Entr Tryz.prog 17 := Entr.of Tryz.func17 rfl rfl
theorem eAnd30 : Entr Tryz.prog 19 := Entr.of Tryz.func19 rfl rfl
theorem eOr30 : Entr Tryz.prog 21 := Entr.of Tryz.func21 rfl rfl
theorem eXor30 : Entr Tryz.prog 23 := Entr.of Tryz.func23 rfl rfl
theorem eGiven : Entr Tryz.prog 36 := Entr.of Tryz.func36 rfl rfl
theorem eExists30 : Entr Tryz.prog 27 := Entr.of Tryz.func27 rfl rfl
theorem andT_any (n : Nat) (h8 : n ≤ 8) (f g : BF) (af ag : Option Addr) (cf cg : Nat) (hf hg : Heap) (sf : SlT encBo 1 af (tabF n f) hf) (sg : SlT encBo 1 ag (tabF n g) hg) (w : World) (hw : Holds (hf ++ hg) w) :
    Calls Tryz.prog 19 #[.slice af (2 ^ n) cf, .slice ag (2 ^ n) cg] w (Gives (TabV n (fun α => (f α && g α))) w) := by
  have h2n := pow8 h8
  have q0 : ∀ L, RdH (hf ++ hg) L hf := fun L => RdH.old fun _ hh => List.mem_append_left _ hh
  have q1 : ∀ L, RdH (hf ++ hg) L hg := fun L => RdH.old fun _ hh => List.mem_append_right _ hh
  refine calls_of_JC (R := (hf ++ hg)) Tryz.func19 Tryz.ntmps19 rfl rfl (hw) ?_
  repeat' first
    | (refine J.isJ ?_; first | (first | (refine J.o 9 ?_; refine J.make (enc := encBo) (m := 2 ^ n) false hΓ rfl rfl rfl rfl rfl rfl (fun _ => rfl) (by omega) (by omega) (fun bp hp0 op0 => ?_); rw [tabF_const] at op0) | (refine J.fc 25 ?_; refine J.call1 eIf30 rfl rfl (fun w hw => ifT_any n h8 f g (fun _ => false) af ag (some ⟨bp, 0, none⟩) cf cg (2 ^ n) hf hg hp0 sf sg op0.sl w ((hw.rdH (q0 _)).append ((hw.rdH (q1 _)).append (hw.rdH RdH.hd)))) ?_; rintro _ hx ⟨ax, cx, rfl, ox⟩)) | (first | (refine J.o 0 ?_; refine J.ev' hΓ ?_) | refine J.nil ?_ | (refine J.o 3 ?_; first | refine J.ev' hΓ ?_) | (refine J.o 10 ?_; refine J.ev' hΓ ?_) | (refine J.o 11 ?_; refine J.ev' hΓ ?_)))
    | (first | refine JC.seq ?_ | refine JC.region ?_ | refine JC.ret ?_ | refine thenK.nn ?_)
    | (fail)
    | fail
  all_goals first | (exfalso; omega) | skip
  all_goals exact ret1f rfl rfl rfl (fun w1 hw => Gives.of hw (TabV.congr (fun α => by cases f α <;> rfl) ⟨ax, cx, rfl, ox⟩))
theorem orT_any (n : Nat) (h8 : n ≤ 8) (f g : BF) (af ag : Option Addr) (cf cg : Nat) (hf hg : Heap) (sf : SlT encBo 1 af (tabF n f) hf) (sg : SlT encBo 1 ag (tabF n g) hg) (w : World) (hw : Holds (hf ++ hg) w) :
    Calls Tryz.prog 21 #[.slice af (2 ^ n) cf, .slice ag (2 ^ n) cg] w (Gives (TabV n (fun α => Bool.or (f α) (g α))) w) := by
  have h2n := pow8 h8
  have q0 : ∀ L, RdH (hf ++ hg) L hf := fun L => RdH.old fun _ hh => List.mem_append_left _ hh
  have q1 : ∀ L, RdH (hf ++ hg) L hg := fun L => RdH.old fun _ hh => List.mem_append_right _ hh
  refine calls_of_JC (R := (hf ++ hg)) Tryz.func21 Tryz.ntmps21 rfl rfl (hw) ?_
  repeat' first
    | (refine J.isJ ?_; first | (first | (refine J.fc 52 ?_; refine J.call1 eAll30 rfl rfl (fun w hw => allT_any n h8 af cf w) ?_; rintro _ hp0 ⟨ap, cp, rfl, op0⟩) | (refine J.fc 25 ?_; refine J.call1 eIf30 rfl rfl (fun w hw => ifT_any n h8 f (fun _ => true) g af ap ag cf cp cg hf hp0 hg sf op0.sl sg w ((hw.rdH (q0 _)).append ((hw.rdH RdH.hd).append (hw.rdH (q1 _))))) ?_; rintro _ hx ⟨ax, cx, rfl, ox⟩)) | (first | (refine J.o 0 ?_; refine J.ev' hΓ ?_) | refine J.nil ?_ | (refine J.o 3 ?_; first | refine J.ev' hΓ ?_) | (refine J.o 10 ?_; refine J.ev' hΓ ?_) | (refine J.o 11 ?_; refine J.ev' hΓ ?_)))
    | (first | refine JC.seq ?_ | refine JC.region ?_ | refine JC.ret ?_ | refine thenK.nn ?_)
    | (fail)
    | fail
  all_goals first | (exfalso; omega) | skip
  all_goals exact ret1f rfl rfl rfl (fun w1 hw => Gives.of hw (TabV.congr (fun α => by cases f α <;> rfl) ⟨ax, cx, rfl, ox⟩))
theorem notT_any (n : Nat) (h8 : n ≤ 8) (f : BF) (af : Option Addr) (cf : Nat) (hf : Heap) (sf : SlT encBo 1 af (tabF n f) hf) (w : World) (hw : Holds hf w) :
    Calls Tryz.prog 17 #[.slice af (2 ^ n) cf] w (Gives (TabV n (fun α => !f α)) w) := by
  have h2n := pow8 h8
  have q0 : ∀ L, RdH hf L hf := fun L => RdH.old fun _ hh => hh
  refine calls_of_JC (R := hf) Tryz.func17 Tryz.ntmps17 rfl rfl (hw) ?_
  repeat' first
    | (refine J.isJ ?_; first | (fail) | (first | (refine J.o 0 ?_; refine J.ev' hΓ ?_) | refine J.nil ?_ | (refine J.o 3 ?_; first | refine J.ev' hΓ ?_) | (refine J.o 10 ?_; refine J.ev' hΓ ?_) | (refine J.o 11 ?_; refine J.ev' hΓ ?_)))
    | (first | refine JC.seq ?_ | refine JC.region ?_ | refine JC.ret ?_ | refine thenK.nn ?_)
    | (fail)
    | fail
  refine JC.drawE [] [3, 5, 6] [3, 5, 6] [(0,0),(0,1),(0,2),(0,4)] 4 _ (by kernel_rfl) (by kernel_rfl) rfl ?_
  repeat' first
    | (refine J.isJ ?_; first | (fail) | (first | (refine J.o 0 ?_; refine J.ev' hΓ ?_) | refine J.nil ?_ | (refine J.o 3 ?_; first | refine J.ev' hΓ ?_) | (refine J.o 10 ?_; refine J.ev' hΓ ?_) | (refine J.o 11 ?_; refine J.ev' hΓ ?_)))
    | (first | (refine JE.is ?_; first | refine JE.s0 ?_ | refine JE.s3 ?_ | refine JE.nil ?_) | refine eK0.nn ?_ | (refine eK3.is ?_; refine eK3.nn (fun w hw => hw.subl (by repeat (first | exact List.nil_sublist _ | exact List.Sublist.refl _ | refine List.Sublist.cons_cons _ ?_ | refine List.Sublist.cons _ ?_))) ?_) | refine brK.nn ?_)
    | (first | refine JC.seq ?_ | refine JC.region ?_ | refine JC.ret ?_ | refine thenK.nn ?_)
    | (fail)
    | fail
  refine Br.two (c1 := 1) (c2 := 1) (m1 := 0) (m2 := 0) 3 5 [(3,5),(3,6),(0,7)] [(3,3),(3,6),(0,7)] (by decide +kernel) rfl rfl (by decide +kernel) rfl (by decide +kernel) rfl ?_ ?_
  ·
    repeat' first
      | (refine J.isJ ?_; first | (first | (refine J.o 9 ?_; refine J.make (enc := encBo) (m := 2 ^ n) false hΓ rfl rfl rfl rfl rfl rfl (fun _ => rfl) (by omega) (by omega) (fun bp hp0 op0 => ?_); rw [tabF_const] at op0) | (refine J.fc 52 ?_; refine J.call1 eAll30 rfl rfl (fun w hw => allT_any n h8 af cf w) ?_; rintro _ ht ⟨at_, ct, rfl, ot⟩) | (refine J.fc 25 ?_; refine J.call1 eIf30 rfl rfl (fun w hw => ifT_any n h8 f (fun _ => false) (fun _ => true) af (some ⟨bp, 0, none⟩) at_ cf (2 ^ n) ct hf hp0 ht sf op0.sl ot.sl w ((hw.rdH (q0 _)).append ((hw.rdH (by first | exact RdH.hd | exact RdH.hd.tl)).append (hw.rdH (by first | exact RdH.hd | exact RdH.hd.tl))))) ?_; rintro _ hx ⟨ax, cx, rfl, ox⟩)) | (first | (refine J.o 0 ?_; refine J.ev' hΓ ?_) | refine J.nil ?_ | (refine J.o 3 ?_; first | refine J.ev' hΓ ?_) | (refine J.o 10 ?_; refine J.ev' hΓ ?_) | (refine J.o 11 ?_; refine J.ev' hΓ ?_)))
      | (first | (refine JE.is ?_; first | refine JE.s0 ?_ | refine JE.s3 ?_ | refine JE.nil ?_) | refine eK0.nn ?_ | (refine eK3.is ?_; refine eK3.nn (fun w hw => hw.subl (by repeat (first | exact List.nil_sublist _ | exact List.Sublist.refl _ | refine List.Sublist.cons_cons _ ?_ | refine List.Sublist.cons _ ?_))) ?_) | refine brK.nn ?_)
      | (first | refine JC.seq ?_ | refine JC.region ?_ | refine JC.ret ?_ | refine thenK.nn ?_)
      | (fail)
      | fail
    refine Br.done (by kernel_rfl) ?_
    repeat' first
      | (refine J.isJ ?_; first | (fail) | (first | (refine J.o 0 ?_; refine J.ev' hΓ ?_) | refine J.nil ?_ | (refine J.o 3 ?_; first | refine J.ev' hΓ ?_) | (refine J.o 10 ?_; refine J.ev' hΓ ?_) | (refine J.o 11 ?_; refine J.ev' hΓ ?_)))
      | (first | refine JC.seq ?_ | refine JC.region ?_ | refine JC.ret ?_ | refine thenK.nn ?_)
      | (fail)
      | fail
    all_goals exact ret1f rfl rfl rfl (fun w1 hw => Gives.of hw (TabV.congr (fun α => by cases f α <;> rfl) ⟨ax, cx, rfl, ox⟩))
  ·
    repeat' first
      | (refine J.isJ ?_; first | (first | (refine J.o 9 ?_; refine J.make (enc := encBo) (m := 2 ^ n) false hΓ rfl rfl rfl rfl rfl rfl (fun _ => rfl) (by omega) (by omega) (fun bp hp0 op0 => ?_); rw [tabF_const] at op0) | (refine J.fc 52 ?_; refine J.call1 eAll30 rfl rfl (fun w hw => allT_any n h8 af cf w) ?_; rintro _ ht ⟨at_, ct, rfl, ot⟩) | (refine J.fc 25 ?_; refine J.call1 eIf30 rfl rfl (fun w hw => ifT_any n h8 f (fun _ => false) (fun _ => true) af (some ⟨bp, 0, none⟩) at_ cf (2 ^ n) ct hf hp0 ht sf op0.sl ot.sl w ((hw.rdH (q0 _)).append ((hw.rdH (by first | exact RdH.hd | exact RdH.hd.tl)).append (hw.rdH (by first | exact RdH.hd.tl | exact RdH.hd))))) ?_; rintro _ hx ⟨ax, cx, rfl, ox⟩)) | (first | (refine J.o 0 ?_; refine J.ev' hΓ ?_) | refine J.nil ?_ | (refine J.o 3 ?_; first | refine J.ev' hΓ ?_) | (refine J.o 10 ?_; refine J.ev' hΓ ?_) | (refine J.o 11 ?_; refine J.ev' hΓ ?_)))
      | (first | (refine JE.is ?_; first | refine JE.s0 ?_ | refine JE.s3 ?_ | refine JE.nil ?_) | refine eK0.nn ?_ | (refine eK3.is ?_; refine eK3.nn (fun w hw => hw.subl (by repeat (first | exact List.nil_sublist _ | exact List.Sublist.refl _ | refine List.Sublist.cons_cons _ ?_ | refine List.Sublist.cons _ ?_))) ?_) | refine brK.nn ?_)
      | (first | refine JC.seq ?_ | refine JC.region ?_ | refine JC.ret ?_ | refine thenK.nn ?_)
      | (fail)
      | fail
    refine Br.done (by kernel_rfl) ?_
    repeat' first
      | (refine J.isJ ?_; first | (fail) | (first | (refine J.o 0 ?_; refine J.ev' hΓ ?_) | refine J.nil ?_ | (refine J.o 3 ?_; first | refine J.ev' hΓ ?_) | (refine J.o 10 ?_; refine J.ev' hΓ ?_) | (refine J.o 11 ?_; refine J.ev' hΓ ?_)))
      | (first | refine JC.seq ?_ | refine JC.region ?_ | refine JC.ret ?_ | refine thenK.nn ?_)
      | (fail)
      | fail
    all_goals exact ret1f rfl rfl rfl (fun w1 hw => Gives.of hw (TabV.congr (fun α => by cases f α <;> rfl) ⟨ax, cx, rfl, ox⟩))
theorem xorT_any (n : Nat) (h8 : n ≤ 8) (f g : BF) (af ag : Option Addr) (cf cg : Nat) (hf hg : Heap) (sf : SlT encBo 1 af (tabF n f) hf) (sg : SlT encBo 1 ag (tabF n g) hg) (w : World) (hw : Holds (hf ++ hg) w) :
    Calls Tryz.prog 23 #[.slice af (2 ^ n) cf, .slice ag (2 ^ n) cg] w (Gives (TabV n (fun α => (f α != g α))) w) := by
  have h2n := pow8 h8
  have q0 : ∀ L, RdH (hf ++ hg) L hf := fun L => RdH.old fun _ hh => List.mem_append_left _ hh
  have q1 : ∀ L, RdH (hf ++ hg) L hg := fun L => RdH.old fun _ hh => List.mem_append_right _ hh
  refine calls_of_JC (R := (hf ++ hg)) Tryz.func23 Tryz.ntmps23 rfl rfl (hw) ?_
  repeat' first
    | (refine J.isJ ?_; first | (first | (refine J.fc 17 ?_; refine J.call1 eNot30 rfl rfl (fun w hw => notT_any n h8 g ag cg hg sg w (hw.rdH (q1 _))) ?_; rintro _ hp0 ⟨ap, cp, rfl, op0⟩) | (refine J.fc 25 ?_; refine J.call1 eIf30 rfl rfl (fun w hw => ifT_any n h8 f (fun α => !g α) g af ap ag cf cp cg hf hp0 hg sf op0.sl sg w ((hw.rdH (q0 _)).append ((hw.rdH RdH.hd).append (hw.rdH (q1 _))))) ?_; rintro _ hx ⟨ax, cx, rfl, ox⟩)) | (first | (refine J.o 0 ?_; refine J.ev' hΓ ?_) | refine J.nil ?_ | (refine J.o 3 ?_; first | refine J.ev' hΓ ?_) | (refine J.o 10 ?_; refine J.ev' hΓ ?_) | (refine J.o 11 ?_; refine J.ev' hΓ ?_)))
    | (first | refine JC.seq ?_ | refine JC.region ?_ | refine JC.ret ?_ | refine thenK.nn ?_)
    | (fail)
    | fail
  all_goals first | (exfalso; omega) | skip
  all_goals exact ret1f rfl rfl rfl (fun w1 hw => Gives.of hw (TabV.congr (fun α => by cases f α <;> cases g α <;> rfl) ⟨ax, cx, rfl, ox⟩))
end Go.Proofs.YthnhijdfcmcnhaaGreat
namespace Go.Proofs.YthnhijdfcmcnhaaGreat
open Go Go.Cx Go.RowKit
set_option linter.unusedVariables false
set_option linter.unusedSimpArgs false
set_option maxHeartbeats 4000000
attribute [local irreducible] J JC thenK blockK loopK drawK retK QW Qt pel List.set Calls
open Go.Maps Go.Lib
set_option maxRecDepth 8000
attribute [local irreducible] JE Br eK0 eK3 brK pc
theorem givF_any (n : Nat) (h8 : n ≤ 8) (ao : Option Addr) (co k : Nat) (hk : k < n) (f : BF) (af : Option Addr) (cf : Nat) (hf : Heap) (sf : SlT encBo 1 af (tabF n f) hf) (w : World) (hw : Holds hf w) :
    Calls Tryz.prog 36 #[.slice ao n co, .slice af (2 ^ n) cf, .int .i64 (k : Int), .bool false] w (Gives (TabV n (fun α => f (up α k false))) w) := by
  have h2n := pow8 h8
  have hb2 : 2 ^ (n - 1 - k) ≤ 2 ^ 8 := Nat.pow_le_pow_right (by omega) (by omega)
  have q0 : ∀ L, RdH hf L hf := fun L => RdH.old fun _ hh => hh
  have cB := fun w => bit_any ao co n k hk h8 w
  have hl := tabF_len n f
  obtain ⟨T, hT⟩ : ∃ T : Nat → Bool, T = fun i => (tabF n f).getD (gi (n - 1 - k) false i) default := ⟨_, rfl⟩
  refine calls_of_JC (R := hf) Tryz.func36 Tryz.ntmps36 rfl rfl (hw) ?_
  repeat' first
    | (refine J.isJ ?_; first | ((refine J.o 9 ?_; refine J.make (enc := encBo) (m := 2 ^ n) false hΓ rfl rfl rfl rfl rfl rfl (fun _ => rfl) (by omega) (by omega) (fun bp hp0 op0 => ?_))) | (first | (refine J.o 0 ?_; refine J.ev' hΓ ?_) | refine J.nil ?_ | (refine J.o 4 ?_; first | refine J.lT default hΓ ?_) | (refine J.o 3 ?_; first | refine J.iJ hΓ ?_ | refine J.ev' hΓ ?_) | (refine J.o 1 ?_; first | refine J.ad ?_) | (refine J.o 5 ?_; first | refine J.tT _ default hΓ (fun _ _ => ?_)) | (refine J.o 10 ?_; refine J.ev' hΓ ?_) | (refine J.o 11 ?_; refine J.ev' hΓ ?_)))
    | (first | refine JC.seq ?_ | refine JC.region ?_ | refine JC.block ?_ | refine JC.ret ?_ | refine JC.exit ?_ | refine JC.skip ?_ | refine thenK.nn ?_ | refine thenK.x ?_ | refine blockK.nn ?_ | refine blockK.hit rfl ?_ | refine JC.condF rfl ?_ | (refine JC.cond rfl (fun hc => ?_) (fun hc => ?_) <;> ((try simp only [decide_eq_true_eq, decide_eq_false_iff_not, beq_iff_eq, beq_eq_false_iff_ne, bne_iff_ne, bne_eq_false_iff_eq, Bool.not_eq_true', Bool.not_eq_false', Bool.not_eq_true, Bool.not_eq_false] at hc) <;> first | (first | (exact absurd rfl hc) | (exfalso; omega) | (exact absurd (hc.symm.trans (by assumption : _ = false)) (by decide)) | (exact absurd (hc.symm.trans (by assumption : _ = true)) (by decide))) | skip)) | refine loopK.x ?_)
    | (fail)
    | fail
  all_goals first | (exfalso; omega) | skip
  refine JC.loop (fun i => i == 10 || i == 11 || Nat.ble 15 i) (fun m g L' => ∃ q h', g 10 = .int .i64 ((q : Nat) : Int) ∧ q + m = 2 ^ n ∧ OwT encBo 1 4 (some ⟨bp, 0, none⟩) (2 ^ n) (fillL T (2 ^ n) q) h' ∧ L' = [h']) (2 ^ n) ⟨0, _, rfl, by omega, by rw [fill_0]; exact op0, rfl⟩ ?_
  rintro m gg L' ⟨q, h', e6, hq, o4, rfl⟩
  refine JC.pin 10 e6 ?_
  have hfl := fill_len T (N := 2 ^ n) (q := q) (by omega)
  rcases Nat.lt_or_ge q (2 ^ n) with hlt | hge
  ·
    have hal := and_le q (n - 1 - k)
    have hgl := gi_lt (show n - 1 - k < n by omega) false hlt
    have hTq : T q = (tabF n f).getD (gi (n - 1 - k) false q) default := by rw [hT]
    have hg0 : q - (q &&& 2 ^ (n - 1 - k)) = gi (n - 1 - k) false q := by unfold gi; rfl
    have hg1 : gi (n - 1 - k) false q + 2 ^ (n - 1 - k) = gi (n - 1 - k) true q := by unfold gi; rfl
    have hgf := gi_lt (show n - 1 - k < n by omega) false hlt
    have ha : q < 2 ^ IntKind.i64.bits := by show q < 18446744073709551616; omega
    have hb : 2 ^ (n - 1 - k) < 2 ^ IntKind.i64.bits := by show _ < 18446744073709551616; omega
    repeat' first
      | (refine J.isJ ?_; first | (first | (refine J.o 1 ?_; first | (refine J.gsub ?_; rw [hg0]) | refine J.gand ?_ (ha := ha) (hb := hb) (hw := wI64 (by omega))) | (refine J.fc 49 ?_; refine J.call0 eBit rfl rfl (fun w hw => cB w) ?_) | (refine J.o 3 ?_; first | refine J.iJ hΓ ?_ (hs := o4.sl) | refine J.iJ hΓ ?_ (hs := sf)) | (refine J.o 4 ?_; refine J.lT default hΓ ?_ (hs := sf) (hr := q0 _); rw [← hTq]) | (refine J.o 5 ?_; refine J.tT (enc := encBo) (T q) default hΓ (fun h5 o5 => ?_) (ho := o4))) | (first | (refine J.o 0 ?_; refine J.ev' hΓ ?_) | refine J.nil ?_ | (refine J.o 4 ?_; first | refine J.lT default hΓ ?_) | (refine J.o 3 ?_; first | refine J.iJ hΓ ?_ | refine J.ev' hΓ ?_) | (refine J.o 1 ?_; first | refine J.ad ?_) | (refine J.o 5 ?_; first | refine J.tT _ default hΓ (fun _ _ => ?_)) | (refine J.o 10 ?_; refine J.ev' hΓ ?_) | (refine J.o 11 ?_; refine J.ev' hΓ ?_)))
      | (first | refine JC.seq ?_ | refine JC.region ?_ | refine JC.block ?_ | refine JC.ret ?_ | refine JC.exit ?_ | refine JC.skip ?_ | refine thenK.nn ?_ | refine thenK.x ?_ | refine blockK.nn ?_ | refine blockK.hit rfl ?_ | refine JC.condF rfl ?_ | (refine JC.cond rfl (fun hc => ?_) (fun hc => ?_) <;> ((try simp only [decide_eq_true_eq, decide_eq_false_iff_not, beq_iff_eq, beq_eq_false_iff_ne, bne_iff_ne, bne_eq_false_iff_eq, Bool.not_eq_true', Bool.not_eq_false', Bool.not_eq_true, Bool.not_eq_false] at hc) <;> first | (first | (exact absurd rfl hc) | (exfalso; omega) | (exact absurd (hc.symm.trans (by assumption : _ = false)) (by decide)) | (exact absurd (hc.symm.trans (by assumption : _ = true)) (by decide))) | skip)) | refine loopK.x ?_)
      | (fail)
      | fail
    all_goals first | (exfalso; omega) | skip
    rw [fill_s T hlt] at o5
    refine loopK.nn (m - 1) (by omega) (by repeat (first | refine Ag.upd rfl ?_ | exact Ag.hv)) ⟨q + 1, h5, ?_, by omega, o5, rfl⟩
    show Value.int .i64 _ = _; congr 1
  ·
    repeat' first
      | (refine J.isJ ?_; first | (fail) | (first | (refine J.o 0 ?_; refine J.ev' hΓ ?_) | refine J.nil ?_ | (refine J.o 4 ?_; first | refine J.lT default hΓ ?_) | (refine J.o 3 ?_; first | refine J.iJ hΓ ?_ | refine J.ev' hΓ ?_) | (refine J.o 1 ?_; first | refine J.ad ?_) | (refine J.o 5 ?_; first | refine J.tT _ default hΓ (fun _ _ => ?_)) | (refine J.o 10 ?_; refine J.ev' hΓ ?_) | (refine J.o 11 ?_; refine J.ev' hΓ ?_)))
      | (first | refine JC.seq ?_ | refine JC.region ?_ | refine JC.block ?_ | refine JC.ret ?_ | refine JC.exit ?_ | refine JC.skip ?_ | refine thenK.nn ?_ | refine thenK.x ?_ | refine blockK.nn ?_ | refine blockK.hit rfl ?_ | refine JC.condF rfl ?_ | (refine JC.cond rfl (fun hc => ?_) (fun hc => ?_) <;> ((try simp only [decide_eq_true_eq, decide_eq_false_iff_not, beq_iff_eq, beq_eq_false_iff_ne, bne_iff_ne, bne_eq_false_iff_eq, Bool.not_eq_true', Bool.not_eq_false', Bool.not_eq_true, Bool.not_eq_false] at hc) <;> first | (first | (exact absurd rfl hc) | (exfalso; omega) | (exact absurd (hc.symm.trans (by assumption : _ = false)) (by decide)) | (exact absurd (hc.symm.trans (by assumption : _ = true)) (by decide))) | skip)) | refine loopK.x ?_)
      | (fail)
      | fail
    all_goals first | (exfalso; omega) | skip
    obtain rfl : q = 2 ^ n := by omega
    rw [fill_n, hT, giv_tab hk] at o4
    exact ret1f rfl rfl rfl (fun w1 hw => Gives.of hw ⟨_, _, rfl, o4⟩)
theorem givT_any (n : Nat) (h8 : n ≤ 8) (ao : Option Addr) (co k : Nat) (hk : k < n) (f : BF) (af : Option Addr) (cf : Nat) (hf : Heap) (sf : SlT encBo 1 af (tabF n f) hf) (w : World) (hw : Holds hf w) :
    Calls Tryz.prog 36 #[.slice ao n co, .slice af (2 ^ n) cf, .int .i64 (k : Int), .bool true] w (Gives (TabV n (fun α => f (up α k true))) w) := by
  have h2n := pow8 h8
  have hb2 : 2 ^ (n - 1 - k) ≤ 2 ^ 8 := Nat.pow_le_pow_right (by omega) (by omega)
  have q0 : ∀ L, RdH hf L hf := fun L => RdH.old fun _ hh => hh
  have cB := fun w => bit_any ao co n k hk h8 w
  have hl := tabF_len n f
  obtain ⟨T, hT⟩ : ∃ T : Nat → Bool, T = fun i => (tabF n f).getD (gi (n - 1 - k) true i) default := ⟨_, rfl⟩
  refine calls_of_JC (R := hf) Tryz.func36 Tryz.ntmps36 rfl rfl (hw) ?_
  repeat' first
    | (refine J.isJ ?_; first | ((refine J.o 9 ?_; refine J.make (enc := encBo) (m := 2 ^ n) false hΓ rfl rfl rfl rfl rfl rfl (fun _ => rfl) (by omega) (by omega) (fun bp hp0 op0 => ?_))) | (first | (refine J.o 0 ?_; refine J.ev' hΓ ?_) | refine J.nil ?_ | (refine J.o 4 ?_; first | refine J.lT default hΓ ?_) | (refine J.o 3 ?_; first | refine J.iJ hΓ ?_ | refine J.ev' hΓ ?_) | (refine J.o 1 ?_; first | refine J.ad ?_) | (refine J.o 5 ?_; first | refine J.tT _ default hΓ (fun _ _ => ?_)) | (refine J.o 10 ?_; refine J.ev' hΓ ?_) | (refine J.o 11 ?_; refine J.ev' hΓ ?_)))
    | (first | refine JC.seq ?_ | refine JC.region ?_ | refine JC.block ?_ | refine JC.ret ?_ | refine JC.exit ?_ | refine JC.skip ?_ | refine thenK.nn ?_ | refine thenK.x ?_ | refine blockK.nn ?_ | refine blockK.hit rfl ?_ | refine JC.condT rfl ?_ | (refine JC.cond rfl (fun hc => ?_) (fun hc => ?_) <;> ((try simp only [decide_eq_true_eq, decide_eq_false_iff_not, beq_iff_eq, beq_eq_false_iff_ne, bne_iff_ne, bne_eq_false_iff_eq, Bool.not_eq_true', Bool.not_eq_false', Bool.not_eq_true, Bool.not_eq_false] at hc) <;> first | (first | (exact absurd rfl hc) | (exfalso; omega) | (exact absurd (hc.symm.trans (by assumption : _ = false)) (by decide)) | (exact absurd (hc.symm.trans (by assumption : _ = true)) (by decide))) | skip)) | refine loopK.x ?_)
    | (fail)
    | fail
  all_goals first | (exfalso; omega) | skip
  refine JC.loop (fun i => i == 10 || i == 11 || Nat.ble 15 i) (fun m g L' => ∃ q h', g 10 = .int .i64 ((q : Nat) : Int) ∧ q + m = 2 ^ n ∧ OwT encBo 1 4 (some ⟨bp, 0, none⟩) (2 ^ n) (fillL T (2 ^ n) q) h' ∧ L' = [h']) (2 ^ n) ⟨0, _, rfl, by omega, by rw [fill_0]; exact op0, rfl⟩ ?_
  rintro m gg L' ⟨q, h', e6, hq, o4, rfl⟩
  refine JC.pin 10 e6 ?_
  have hfl := fill_len T (N := 2 ^ n) (q := q) (by omega)
  rcases Nat.lt_or_ge q (2 ^ n) with hlt | hge
  ·
    have hal := and_le q (n - 1 - k)
    have hgl := gi_lt (show n - 1 - k < n by omega) true hlt
    have hTq : T q = (tabF n f).getD (gi (n - 1 - k) true q) default := by rw [hT]
    have hg0 : q - (q &&& 2 ^ (n - 1 - k)) = gi (n - 1 - k) false q := by unfold gi; rfl
    have hg1 : gi (n - 1 - k) false q + 2 ^ (n - 1 - k) = gi (n - 1 - k) true q := by unfold gi; rfl
    have hgf := gi_lt (show n - 1 - k < n by omega) false hlt
    have ha : q < 2 ^ IntKind.i64.bits := by show q < 18446744073709551616; omega
    have hb : 2 ^ (n - 1 - k) < 2 ^ IntKind.i64.bits := by show _ < 18446744073709551616; omega
    repeat' first
      | (refine J.isJ ?_; first | (first | (refine J.o 1 ?_; first | (refine J.gsub ?_; rw [hg0]) | (refine J.gadd (b := 2 ^ (n - 1 - k)) ?_ (hw := wI64 (by omega)); rw [hg1]) | refine J.gand ?_ (ha := ha) (hb := hb) (hw := wI64 (by omega))) | (refine J.fc 49 ?_; refine J.call0 eBit rfl rfl (fun w hw => cB w) ?_) | (refine J.o 3 ?_; first | refine J.iJ hΓ ?_ (hs := o4.sl) | refine J.iJ hΓ ?_ (hs := sf)) | (refine J.o 4 ?_; refine J.lT default hΓ ?_ (hs := sf) (hr := q0 _); rw [← hTq]) | (refine J.o 5 ?_; refine J.tT (enc := encBo) (T q) default hΓ (fun h5 o5 => ?_) (ho := o4))) | (first | (refine J.o 0 ?_; refine J.ev' hΓ ?_) | refine J.nil ?_ | (refine J.o 4 ?_; first | refine J.lT default hΓ ?_) | (refine J.o 3 ?_; first | refine J.iJ hΓ ?_ | refine J.ev' hΓ ?_) | (refine J.o 1 ?_; first | refine J.ad ?_) | (refine J.o 5 ?_; first | refine J.tT _ default hΓ (fun _ _ => ?_)) | (refine J.o 10 ?_; refine J.ev' hΓ ?_) | (refine J.o 11 ?_; refine J.ev' hΓ ?_)))
      | (first | refine JC.seq ?_ | refine JC.region ?_ | refine JC.block ?_ | refine JC.ret ?_ | refine JC.exit ?_ | refine JC.skip ?_ | refine thenK.nn ?_ | refine thenK.x ?_ | refine blockK.nn ?_ | refine blockK.hit rfl ?_ | refine JC.condT rfl ?_ | (refine JC.cond rfl (fun hc => ?_) (fun hc => ?_) <;> ((try simp only [decide_eq_true_eq, decide_eq_false_iff_not, beq_iff_eq, beq_eq_false_iff_ne, bne_iff_ne, bne_eq_false_iff_eq, Bool.not_eq_true', Bool.not_eq_false', Bool.not_eq_true, Bool.not_eq_false] at hc) <;> first | (first | (exact absurd rfl hc) | (exfalso; omega) | (exact absurd (hc.symm.trans (by assumption : _ = false)) (by decide)) | (exact absurd (hc.symm.trans (by assumption : _ = true)) (by decide))) | skip)) | refine loopK.x ?_)
      | (fail)
      | fail
    all_goals first | (exfalso; omega) | skip
    rw [fill_s T hlt] at o5
    refine loopK.nn (m - 1) (by omega) (by repeat (first | refine Ag.upd rfl ?_ | exact Ag.hv)) ⟨q + 1, h5, ?_, by omega, o5, rfl⟩
    show Value.int .i64 _ = _; congr 1
  ·
    repeat' first
      | (refine J.isJ ?_; first | (fail) | (first | (refine J.o 0 ?_; refine J.ev' hΓ ?_) | refine J.nil ?_ | (refine J.o 4 ?_; first | refine J.lT default hΓ ?_) | (refine J.o 3 ?_; first | refine J.iJ hΓ ?_ | refine J.ev' hΓ ?_) | (refine J.o 1 ?_; first | refine J.ad ?_) | (refine J.o 5 ?_; first | refine J.tT _ default hΓ (fun _ _ => ?_)) | (refine J.o 10 ?_; refine J.ev' hΓ ?_) | (refine J.o 11 ?_; refine J.ev' hΓ ?_)))
      | (first | refine JC.seq ?_ | refine JC.region ?_ | refine JC.block ?_ | refine JC.ret ?_ | refine JC.exit ?_ | refine JC.skip ?_ | refine thenK.nn ?_ | refine thenK.x ?_ | refine blockK.nn ?_ | refine blockK.hit rfl ?_ | refine JC.condT rfl ?_ | (refine JC.cond rfl (fun hc => ?_) (fun hc => ?_) <;> ((try simp only [decide_eq_true_eq, decide_eq_false_iff_not, beq_iff_eq, beq_eq_false_iff_ne, bne_iff_ne, bne_eq_false_iff_eq, Bool.not_eq_true', Bool.not_eq_false', Bool.not_eq_true, Bool.not_eq_false] at hc) <;> first | (first | (exact absurd rfl hc) | (exfalso; omega) | (exact absurd (hc.symm.trans (by assumption : _ = false)) (by decide)) | (exact absurd (hc.symm.trans (by assumption : _ = true)) (by decide))) | skip)) | refine loopK.x ?_)
      | (fail)
      | fail
    all_goals first | (exfalso; omega) | skip
    obtain rfl : q = 2 ^ n := by omega
    rw [fill_n, hT, giv_tab hk] at o4
    exact ret1f rfl rfl rfl (fun w1 hw => Gives.of hw ⟨_, _, rfl, o4⟩)
theorem exT_any (n : Nat) (h8 : n ≤ 8) (ao : Option Addr) (co k : Nat) (hk : k < n) (f : BF) (af : Option Addr) (cf : Nat) (hf : Heap) (sf : SlT encBo 1 af (tabF n f) hf) (w : World) (hw : Holds hf w) :
    Calls Tryz.prog 27 #[.slice ao n co, .slice af (2 ^ n) cf, .int .i64 (k : Int)] w (Gives (TabV n (exF k f)) w) := by
  have q0 : ∀ L, RdH hf L hf := fun L => RdH.old fun _ hh => hh
  refine calls_of_JC (R := hf) Tryz.func27 Tryz.ntmps27 rfl rfl (hw) ?_
  repeat' first
    | (refine J.isJ ?_; first | (first | (refine J.fc 36 ?_; refine J.call1 eGiven rfl rfl (fun w hw => givF_any n h8 ao co k hk f af cf hf sf w (hw.rdH (q0 _))) ?_; rintro _ h1 ⟨a1, c1, rfl, o1⟩) | (refine J.fc 36 ?_; refine J.call1 eGiven rfl rfl (fun w hw => givT_any n h8 ao co k hk f af cf hf sf w (hw.rdH (q0 _))) ?_; rintro _ h2 ⟨a2, c2, rfl, o2⟩) | (refine J.fc 21 ?_; refine J.call1 eOr30 rfl rfl (fun w hw => orT_any n h8 (fun α => f (up α k false)) (fun α => f (up α k true)) a1 a2 c1 c2 h1 h2 o1.sl o2.sl w ((hw.rdH RdH.hd.tl).append (hw.rdH RdH.hd))) ?_; rintro _ hx ⟨ax, cx, rfl, ox⟩)) | (first | (refine J.o 0 ?_; refine J.ev' hΓ ?_) | refine J.nil ?_ | (refine J.o 3 ?_; first | refine J.ev' hΓ ?_) | (refine J.o 10 ?_; refine J.ev' hΓ ?_) | (refine J.o 11 ?_; refine J.ev' hΓ ?_)))
    | (first | refine JC.seq ?_ | refine JC.region ?_ | refine JC.ret ?_ | refine thenK.nn ?_)
    | (fail)
    | fail
  all_goals first | (exfalso; omega) | skip
  all_goals exact ret1f rfl rfl rfl (fun w1 hw => Gives.of hw ⟨ax, cx, rfl, ox⟩)
theorem eVar30 : Entr Tryz.prog 15 := Entr.of Tryz.func15 rfl rfl
theorem and_bit (q m : Nat) : decide (q &&& 2 ^ m = 0) = !(q.testBit m) := by
  rw [and_pw, Nat.testBit_eq_decide_div_mod_eq]
  have h2 : q / 2 ^ m % 2 < 2 := Nat.mod_lt _ (by decide)
  have hp := Nat.two_pow_pos m
  rcases (show q / 2 ^ m % 2 = 0 ∨ q / 2 ^ m % 2 = 1 by omega) with h | h
  · rw [h]; simp
  · rw [h]; simp
theorem varT_any (n : Nat) (h8 : n ≤ 8) (l : List Int) (hn : l.length = n) (a : Option Addr) (c : Nat) (h : Heap) (hs : SlT encI 1 a l h) (v : Int) (k : Nat) (hk : rk l v 0 = some k) (w : World) (hw : Holds h w) :
    Calls Tryz.prog 15 #[.slice a n c, .int .i64 v] w (Gives (fun x hx => ∃ y, x = .tuple #[y, .bool true] ∧ TabV n (fun α => α k) y hx) w) := by
  have h2n := pow8 h8
  have hkn : k < n := by obtain ⟨_, h2, _⟩ := rk_some hk; omega
  have hb2 : 2 ^ (n - 1 - k) ≤ 2 ^ 8 := Nat.pow_le_pow_right (by omega) (by omega)
  have q0 : ∀ L, RdH h L h := fun L => RdH.old fun _ hh => hh
  have cB := fun w => bit_any a c n k hkn h8 w
  have cR := fun w hw => Rank_any l a c h hs (by omega) v w hw
  rw [rkI_some hk, hn] at cR
  have hfalse : List.replicate (2 ^ n) false = fillL (fun i => i.testBit (n - 1 - k)) (2 ^ n) 0 := (fill_0 _ _).symm
  refine calls_of_JC (R := h) Tryz.func15 Tryz.ntmps15 rfl rfl (hw) ?_
  repeat' first
    | (refine J.isJ ?_; first | (first | (refine J.fc 48 ?_; refine J.call0 eRank rfl rfl (fun w hw => cR w (hw.rdH (q0 _))) ?_) | (refine J.fc 12 ?_; refine J.call1 eConst rfl rfl (fun w hw => const_any n h8 false w) ?_; rintro _ hp0 ⟨ap, cp, rfl, op0⟩)) | (first | (refine J.o 0 ?_; refine J.ev' hΓ ?_) | refine J.nil ?_ | (refine J.o 3 ?_; first | refine J.iJ hΓ ?_ | refine J.ev' hΓ ?_) | (refine J.o 1 ?_; first | refine J.ad ?_) | (refine J.o 5 ?_; first | refine J.tT _ default hΓ (fun _ _ => ?_)) | (refine J.o 10 ?_; refine J.ev' hΓ ?_) | (refine J.o 11 ?_; refine J.ev' hΓ ?_)))
    | (first | refine JC.seq ?_ | refine JC.region ?_ | refine JC.block ?_ | refine JC.ret ?_ | refine JC.exit ?_ | refine JC.skip ?_ | refine thenK.nn ?_ | refine thenK.x ?_ | refine blockK.nn ?_ | refine blockK.hit rfl ?_ | refine JC.condF rfl ?_ | (refine JC.cond rfl (fun hc => ?_) (fun hc => ?_) <;> ((try simp only [decide_eq_true_eq, decide_eq_false_iff_not, beq_iff_eq, beq_eq_false_iff_ne, bne_iff_ne, bne_eq_false_iff_eq, Bool.not_eq_true', Bool.not_eq_false', Bool.not_eq_true, Bool.not_eq_false] at hc) <;> first | (first | (exact absurd rfl hc) | (exfalso; omega) | (exact absurd (hc.symm.trans (by assumption : _ = false)) (by decide)) | (exact absurd (hc.symm.trans (by assumption : _ = true)) (by decide))) | skip)) | refine loopK.x ?_)
    | (fail)
    | fail
  all_goals first | (exfalso; omega) | skip
  rw [hfalse] at op0
  have hll : (List.replicate (2 ^ n) false).length = 2 ^ n := by simp
  refine JC.loop (fun i => i == 8 || Nat.ble 17 i) (fun m g L' => ∃ q h', g 8 = .int .i64 ((q : Nat) : Int) ∧ q + m = 2 ^ n ∧ OwT encBo 1 4 ap cp (fillL (fun i => i.testBit (n - 1 - k)) (2 ^ n) q) h' ∧ L' = [h']) (2 ^ n) ⟨0, _, rfl, by omega, op0, rfl⟩ ?_
  rintro m gg L' ⟨q, h', e6, hq, o4, rfl⟩
  refine JC.pin 8 e6 ?_
  have hfl := fill_len (fun i => i.testBit (n - 1 - k)) (N := 2 ^ n) (q := q) (by omega)
  rcases Nat.lt_or_ge q (2 ^ n) with hlt | hge
  ·
    have ha : q < 2 ^ IntKind.i64.bits := by show q < 18446744073709551616; omega
    have hb : 2 ^ (n - 1 - k) < 2 ^ IntKind.i64.bits := by show _ < 18446744073709551616; omega
    have hal := and_le q (n - 1 - k)
    have hne : (((q &&& 2 ^ (n - 1 - k) : Nat) : Int) != 0) = q.testBit (n - 1 - k) := by
      have := and_bit q (n - 1 - k)
      cases hq2 : q.testBit (n - 1 - k) <;> rw [hq2] at this <;> simp at this ⊢ <;> exact this
    repeat' first
      | (refine J.isJ ?_; first | (first | (refine J.o 1 ?_; refine J.gand ?_ (ha := ha) (hb := hb) (hw := wI64 (by omega))) | (refine J.fc 49 ?_; refine J.call0 eBit rfl rfl (fun w hw => cB w) ?_) | (refine J.o 11 ?_; refine J.ev' hΓ ?_; rw [hne]) | (refine J.o 3 ?_; refine J.iJ hΓ ?_ (hs := o4.sl)) | (refine J.o 5 ?_; refine J.tT (enc := encBo) (q.testBit (n - 1 - k)) default hΓ (fun h5 o5 => ?_) (ho := o4))) | (first | (refine J.o 0 ?_; refine J.ev' hΓ ?_) | refine J.nil ?_ | (refine J.o 3 ?_; first | refine J.iJ hΓ ?_ | refine J.ev' hΓ ?_) | (refine J.o 1 ?_; first | refine J.ad ?_) | (refine J.o 5 ?_; first | refine J.tT _ default hΓ (fun _ _ => ?_)) | (refine J.o 10 ?_; refine J.ev' hΓ ?_) | (refine J.o 11 ?_; refine J.ev' hΓ ?_)))
      | (first | refine JC.seq ?_ | refine JC.region ?_ | refine JC.block ?_ | refine JC.ret ?_ | refine JC.exit ?_ | refine JC.skip ?_ | refine thenK.nn ?_ | refine thenK.x ?_ | refine blockK.nn ?_ | refine blockK.hit rfl ?_ | refine JC.condF rfl ?_ | (refine JC.cond rfl (fun hc => ?_) (fun hc => ?_) <;> ((try simp only [decide_eq_true_eq, decide_eq_false_iff_not, beq_iff_eq, beq_eq_false_iff_ne, bne_iff_ne, bne_eq_false_iff_eq, Bool.not_eq_true', Bool.not_eq_false', Bool.not_eq_true, Bool.not_eq_false] at hc) <;> first | (first | (exact absurd rfl hc) | (exfalso; omega) | (exact absurd (hc.symm.trans (by assumption : _ = false)) (by decide)) | (exact absurd (hc.symm.trans (by assumption : _ = true)) (by decide))) | skip)) | refine loopK.x ?_)
      | (fail)
      | fail
    all_goals first | (exfalso; omega) | skip
    rw [fill_s (fun i => i.testBit (n - 1 - k)) hlt] at o5
    refine loopK.nn (m - 1) (by omega) (by repeat (first | refine Ag.upd rfl ?_ | exact Ag.hv)) ⟨q + 1, h5, ?_, by omega, o5, rfl⟩
    show Value.int .i64 _ = _; congr 1
  ·
    repeat' first
      | (refine J.isJ ?_; first | (fail) | (first | (refine J.o 0 ?_; refine J.ev' hΓ ?_) | refine J.nil ?_ | (refine J.o 3 ?_; first | refine J.iJ hΓ ?_ | refine J.ev' hΓ ?_) | (refine J.o 1 ?_; first | refine J.ad ?_) | (refine J.o 5 ?_; first | refine J.tT _ default hΓ (fun _ _ => ?_)) | (refine J.o 10 ?_; refine J.ev' hΓ ?_) | (refine J.o 11 ?_; refine J.ev' hΓ ?_)))
      | (first | refine JC.seq ?_ | refine JC.region ?_ | refine JC.block ?_ | refine JC.ret ?_ | refine JC.exit ?_ | refine JC.skip ?_ | refine thenK.nn ?_ | refine thenK.x ?_ | refine blockK.nn ?_ | refine blockK.hit rfl ?_ | refine JC.condF rfl ?_ | (refine JC.cond rfl (fun hc => ?_) (fun hc => ?_) <;> ((try simp only [decide_eq_true_eq, decide_eq_false_iff_not, beq_iff_eq, beq_eq_false_iff_ne, bne_iff_ne, bne_eq_false_iff_eq, Bool.not_eq_true', Bool.not_eq_false', Bool.not_eq_true, Bool.not_eq_false] at hc) <;> first | (first | (exact absurd rfl hc) | (exfalso; omega) | (exact absurd (hc.symm.trans (by assumption : _ = false)) (by decide)) | (exact absurd (hc.symm.trans (by assumption : _ = true)) (by decide))) | skip)) | refine loopK.x ?_)
      | (fail)
      | fail
    all_goals first | (exfalso; omega) | skip
    obtain rfl : q = 2 ^ n := by omega
    have e : (List.range (2 ^ n)).map (fun i => i.testBit (n - 1 - k)) = tabF n (fun α => α k) := by
      unfold tabF
      refine List.map_congr_left fun r _ => ?_
      show _ = (decide (k < n) && r.testBit (n - 1 - k))
      rw [decide_eq_true hkn]; rfl
    rw [fill_n, e] at o4
    exact ret2f rfl rfl rfl rfl rfl (fun w1 hw => Gives.of hw ⟨_, by rw [hll], _, _, rfl, o4⟩)
theorem varN_any (l : List Int) (n : Nat) (hn : l.length = n) (a : Option Addr) (c : Nat) (h : Heap) (hs : SlT encI 1 a l h) (hl : l.length ≤ 1000) (v : Int) (hk : rk l v 0 = none) (w : World) (hw : Holds h w) :
    Calls Tryz.prog 15 #[.slice a n c, .int .i64 v] w fun e w' => e = .returned (.tuple #[.slice none 0 0, .bool false]) ∧ Below w.heap.size w w' := by
  have q0 : ∀ L, RdH h L h := fun L => RdH.old fun _ hh => hh
  have cR := fun w hw => Rank_any l a c h hs (by omega) v w hw
  rw [rkI_none (rk_none.1 hk), hn] at cR
  refine calls_of_JC (R := h) Tryz.func15 Tryz.ntmps15 rfl rfl (hw) ?_
  repeat' first
    | (refine J.isJ ?_; first | ((refine J.fc 48 ?_; refine J.call0 eRank rfl rfl (fun w hw => cR w (hw.rdH (q0 _))) ?_)) | (first | (refine J.o 0 ?_; refine J.ev' hΓ ?_) | refine J.nil ?_ | (refine J.o 3 ?_; first | refine J.ev' hΓ ?_) | (refine J.o 10 ?_; refine J.ev' hΓ ?_) | (refine J.o 11 ?_; refine J.ev' hΓ ?_)))
    | (first | refine JC.seq ?_ | refine JC.region ?_ | refine JC.ret ?_ | refine thenK.nn ?_ | refine thenK.r ?_ | refine JC.condT rfl ?_)
    | (fail)
    | fail
  all_goals first | (exfalso; omega) | skip
  all_goals (refine ret2f rfl rfl rfl rfl rfl (fun w1 hw => ⟨rfl, hw.below⟩))
end Go.Proofs.YthnhijdfcmcnhaaGreat
namespace Go.Proofs.YthnhijdfcmcnhaaGreat
open Go Go.Cx Go.RowKit
set_option linter.unusedVariables false
set_option linter.unusedSimpArgs false
set_option maxHeartbeats 4000000
attribute [local irreducible] J JC thenK blockK loopK drawK retK QW Qt pel List.set Calls
open Go.Maps Go.Lib
set_option maxRecDepth 8000
attribute [local irreducible] JE Br eK0 eK3 brK pc
theorem Var_out {K : KS} {s : SS} (h2 : 2 ≤ s.ns.length) {order : List Int} {hO hP : Heap} (po : POk K order hO hP) (v : Int) (hv : -9223372036854775808 ≤ v ∧ v ≤ 9223372036854775807) (hk : rk order v 0 = none) (b : Nat) (w : World) (hw : Holds ((b, stO K s.an s.ns.length s.cn) :: hP) w) :
    Calls Tryz.prog 14 #[.pointer (some ⟨b, 0, none⟩), .int .i64 v] w fun e w' => e = .returned (.tuple #[.int .i64 0, .int .i64 1]) ∧ Below w.heap.size w w' := by
  have q0 : ∀ L, RdH ((b, stO K s.an s.ns.length s.cn) :: hP) L ((b, stO K s.an s.ns.length s.cn) :: hP) := fun L => RdH.old fun _ hh => hh
  have qP : ∀ L, RdH ((b, stO K s.an s.ns.length s.cn) :: hP) L hP := fun L => RdH.old fun _ hh => List.mem_cons_of_mem _ hh
  have rb : ∀ L, Rd ((b, stO K s.an s.ns.length s.cn) :: hP) L b (stO K s.an s.ns.length s.cn) := fun L => Rd.old List.mem_cons_self
  have cChk : ∀ w, Holds ((b, stO K s.an s.ns.length s.cn) :: hP) w → Calls Tryz.prog 44 #[.pointer (some ⟨b, 0, none⟩), .slice none 0 0] w fun e w' => e = .returned (.int .i64 0) ∧ Below w.heap.size w w' := fun w hw =>
    check_any K b s.an s.cn s.ns.length h2 ((b, stO K s.an s.ns.length s.cn) :: hP) List.mem_cons_self [] none 0 (slNil _) (by show 0 ≤ 1000; omega) w hw
  have pm := po.pm
  have hkey := keyI v hv
  have hget : mget (order.zipIdx 0) v = none := by rw [mget_zip, hk]
  unfold stO at rb
  refine calls_of_JC (R := ((b, stO K s.an s.ns.length s.cn) :: hP)) Tryz.func14 Tryz.ntmps14 rfl rfl (hw) ?_
  repeat' first
    | (refine J.isJ ?_; first | (first | (refine J.o 4 ?_; refine J.lR hΓ ?_ (hr := rb _)) | (refine J.o 9 ?_; refine J.lk (a := v) keyedI ekI_inj pm (qP _) hkey hΓ ?_; rw [hget]) | (refine J.fc 44 ?_; refine J.call0 eCheck rfl rfl (fun w hw => cChk w (hw.rdH (q0 _))) ?_)) | (first | (refine J.o 0 ?_; refine J.ev' hΓ ?_) | refine J.nil ?_ | (refine J.o 4 ?_; first | refine J.lR hΓ ?_) | (refine J.o 3 ?_; first | refine J.ev' hΓ ?_) | (refine J.o 5 ?_; first | refine J.t0 hΓ ?_) | (refine J.o 6 ?_; refine J.bx (fun _ => ?_)) | (refine J.o 7 ?_; refine J.al hΓ (fun _ => ?_)) | (refine J.o 10 ?_; refine J.ev' hΓ ?_) | (refine J.o 11 ?_; refine J.ev' hΓ ?_)))
    | (first | refine JC.seq ?_ | refine JC.region ?_ | refine JC.ret ?_ | refine JC.skip ?_ | refine thenK.nn ?_ | refine thenK.r ?_ | refine JC.condT rfl ?_ | refine JC.condF rfl ?_)
    | (fail)
    | fail
  all_goals first | (exfalso; omega) | skip
  all_goals (refine ret2f rfl rfl rfl rfl rfl (fun w1 hw => ⟨rfl, hw.below⟩))
theorem stP_of {K : KS} {b : Nat} {s : SS} {hO hP : Heap} {M : List Heap} {w0 w : World} {R : Heap} (hw : H w0 R (sF K b s ++ (hO :: hP :: M)) w) : Holds ((b, stO K s.an s.ns.length s.cn) :: hP) w := by
  unfold sF at hw
  exact holds2 (hw.rd Rd.hd) (hw.rdH RdH.hd.tl.tl.tl.tl.tl)
end Go.Proofs.YthnhijdfcmcnhaaGreat
namespace Go.Proofs.YthnhijdfcmcnhaaGreat
open Go Go.Cx Go.RowKit
set_option linter.unusedVariables false
set_option linter.unusedSimpArgs false
set_option maxHeartbeats 4000000
attribute [local irreducible] J JC thenK blockK loopK drawK retK QW Qt pel List.set Calls
open Go.Maps Go.Lib
set_option maxRecDepth 8000
attribute [local irreducible] JE Br eK0 eK3 brK pc
section
variable {P : Program} {n : Nat} {w0 : World} {R : Heap} {l0 : List Oper} {K : Exit → Fr → List Heap → Prop} {f : Fr} {L : List Heap} {rest : List (Nat × Oper)} {κ : Nat}
variable {d : Nat} {ty : TypeId} {pos : String} {aft : Array Edge} {g : Option (Nat × Bool)} {t u : TypeId} {x y : Operand} {a b : Int} {k : IntKind}
theorem J.tmd (kk : J P n w0 R l0 K rest (upd f d (.int k (a.tmod b))) L) (hg : wantB n f l0 ⟨some d, .binOp .rem t x y u, ty, pos, aft, g⟩ = true := by exact rfl) (hx : Cx.ev n f x = .int k a := by exact rfl) (hy : Cx.ev n f y = .int k b := by exact rfl) (hb : b ≠ 0 := by omega) : J P n w0 R l0 K ((κ, ⟨some d, .binOp .rem t x y u, ty, pos, aft, g⟩) :: rest) f L :=
  J.p hg (bin_run hx hy (fun w => by
    simp [binOp, Op.intDiv, hb, go_sem])) kk
end
def modN (a : Int) (n : Nat) : Nat := ((a.tmod n + n).tmod n).toNat
theorem modN_lt (a : Int) {n : Nat} (h : 0 < n) : modN a n < n ∧ (((a.tmod n + n).tmod n) : Int) = (modN a n : Int) := by
  have h1 := Int.lt_tmod_of_pos a (show (0 : Int) < n by omega)
  have h2 := Int.tmod_lt_of_pos a (show (0 : Int) < n by omega)
  have h3 : 0 ≤ a.tmod n + n := by omega
  have h4 := Int.tmod_lt_of_pos (a.tmod n + n) (show (0 : Int) < n by omega)
  have h5 := Int.tmod_nonneg (n : Int) h3
  unfold modN
  omega
theorem eMod : Entr Tryz.prog 13 := Entr.of Tryz.func13 rfl rfl
theorem mod_any (a : Int) (n : Nat) (h : 0 < n) (h2 : n ≤ 1000) (w : World) : Calls Tryz.prog 13 #[.int .i64 a, .int .i64 (n : Int)] w fun e w' => e = .returned (.int .i64 (modN a n : Int)) ∧ Below w.heap.size w w' := by
  have h1 := Int.lt_tmod_of_pos a (show (0 : Int) < n by omega)
  have h3 := Int.tmod_lt_of_pos a (show (0 : Int) < n by omega)
  have hm := (modN_lt a h).2
  refine calls_of_JC (R := []) Tryz.func13 Tryz.ntmps13 rfl rfl (Holds.nil _) ?_
  repeat' first
    | (refine J.isJ ?_; first | ((refine J.o 1 ?_; refine J.tmd ?_)) | (first | (refine J.o 0 ?_; refine J.ev' hΓ ?_) | refine J.nil ?_ | (refine J.o 3 ?_; first | refine J.ev' hΓ ?_) | (refine J.o 1 ?_; first | refine J.ad ?_) | (refine J.o 10 ?_; refine J.ev' hΓ ?_) | (refine J.o 11 ?_; refine J.ev' hΓ ?_)))
    | (first | refine JC.seq ?_ | refine JC.region ?_ | refine JC.ret ?_ | refine thenK.nn ?_)
    | (fail)
    | fail
  all_goals first | (exfalso; omega) | skip
  all_goals (refine ret1f rfl rfl rfl (fun w1 hw => ⟨?_, hw.below⟩))
  rw [hm]
structure TV where
  a : Option Addr
  c : Nat
  g : BF
instance : Inhabited TV := ⟨⟨none, 0, fun _ => false⟩⟩
def encTV (n : Nat) (v : TV) : List Value := [.slice v.a (2 ^ n) v.c]
def zipK2 (A : List Nat) (vs : List TV) : List (Nat × BF) := A.zip (vs.map (·.g))
structure RunS (n : Nat) (K : KS) (s : SS) (A : List Nat) (vs : List TV) (aA aF : Option Addr) (cA cF : Nat) (hA hF hI : Heap) : Prop where
  len : A.length = vs.length
  two : 2 ≤ A.length
  kn : Kn n K s (zipK2 A vs)
  oA : OwT encI 1 3 aA cA (natI A) hA
  oF : OwT (encTV n) 1 41 aF cF vs hF
  i : ∀ v ∈ vs, SlT encBo 1 v.a (tabF n v.g) hI
  c : ∀ v ∈ vs, 2 ^ n ≤ v.c
theorem own_le {α : Type} {enc : α → List Value} {size : Nat} {e : TypeId} {a : Option Addr} {cap : Nat} {ts : List α} {h : Heap} (o : OwT enc size e a cap ts h) : ts.length ≤ cap := by
  rcases o.row with ⟨_, rfl, rfl, _⟩ | ⟨_, _, _, _, _, h, _⟩
  · exact Nat.le_refl _
  · exact h
theorem zipK2_mem {A : List Nat} {vs : List TV} (h : A.length = vs.length) {j : Nat} (hj : j < A.length) : (A.getD j 0, (vs.getD j default).g) ∈ zipK2 A vs := by
  unfold zipK2
  rw [List.mem_iff_getElem]
  refine ⟨j, by simp; omega, ?_⟩
  rw [List.getElem_zip, List.getElem_map, List.getD_eq_getElem?_getD, List.getD_eq_getElem?_getD, List.getElem?_eq_getElem hj, List.getElem?_eq_getElem (by omega)]
  rfl
theorem zipK2_app {A : List Nat} {vs : List TV} (h : A.length = vs.length) (y : Nat) (v : TV) : zipK2 (A ++ [y]) (vs ++ [v]) = zipK2 A vs ++ [(y, v.g)] := by
  unfold zipK2
  rw [List.map_append, List.zip_append (by simp [h])]; rfl
theorem Kn.perm {n : Nat} {K : KS} {s : SS} {ks ks' : List (Nat × BF)} (k : Kn n K s ks) (h : ∀ x, x ∈ ks' → x ∈ ks) : Kn n K s ks' := ⟨k.so, fun y g hm => k.at_ y g (h _ hm)⟩
theorem brC (K : KS) (b : Nat) (s : SS) (x y z hO hP : Heap) (M : List Heap) : (x :: y :: z :: (sF K b s ++ (hO :: hP :: M))).Perm (sF K b s ++ (hO :: hP :: x :: y :: z :: M)) := by
  refine List.Perm.trans ?_ ((brA K b s hO hP x (y :: z :: M)).symm)
  refine List.Perm.cons _ ?_
  refine List.Perm.trans ?_ ((brA K b s hO hP y (z :: M)).symm)
  exact List.Perm.cons _ (brA K b s hO hP z M).symm
end Go.Proofs.YthnhijdfcmcnhaaGreat
