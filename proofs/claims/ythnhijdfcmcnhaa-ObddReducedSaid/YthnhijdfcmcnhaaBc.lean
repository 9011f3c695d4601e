/- Keys of the store's maps; the store's memory. -/
import Derived.Test.YthnhijdfcmcnhaaBb
import Derived.Test.YthnhijdfcmcnhaaCxQ
import Derived.Test.YthnhijdfcmcnhaaCxY
import Derived.WideKeyEntry
import Derived.DeepKeys4
namespace Go.Proofs.Ythnhijdfcmcnhaa
open Go Go.Cx Go.RowKit
set_option linter.unusedVariables false
set_option linter.unusedSimpArgs false
set_option maxHeartbeats 4000000
attribute [local irreducible] J JC thenK blockK loopK roundK drawK retK QW Qt pel List.set Calls
open Go.Maps
attribute [local irreducible] JE Br eK0 eK2 eK3 brK
def encI (k : Int) : List Value := [.int .i64 k]
def enc3 (x : N3) : List Value := [.int .i64 (x.p : Int), .int .i64 (x.l : Int), .int .i64 (x.h : Int)]
def ek3 (x : N3) : Value := .agg ⟨enc3 x⟩
def ekT (x : T3) : Value := .agg ⟨[.int .i64 (x.a : Int), .int .i64 (x.b : Int), .int .i64 (x.c : Int)]⟩
def evI (k : Nat) : Value := .int .i64 (k : Int)
theorem laidOutM : laidOutB Try.prog = true := by kernel_rfl
theorem k3 : Keyed Try.prog 101 := Keyed.of_law (deep_law_laid laidOutM (m := 3) (by omega) (by decide +kernel) (by kernel_rfl) (by rw [Try.underlying101]))
theorem kT : Keyed Try.prog 166 := Keyed.of_law (deep_law_laid laidOutM (m := 3) (by omega) (by decide +kernel) (by kernel_rfl) (by rw [Try.underlying166]))
theorem ek3_inj (a b : N3) (h : ek3 a = ek3 b) : a = b := by
  unfold ek3 enc3 at h
  injection h with h
  injection h with h
  injection h with h1 h2
  injection h2 with h3 h4
  injection h4 with h5 h6
  injection h1 with _ g1
  injection h3 with _ g2
  injection h5 with _ g3
  cases a; cases b
  simp only at g1 g2 g3
  rw [Int.ofNat_inj.1 g1, Int.ofNat_inj.1 g2, Int.ofNat_inj.1 g3]
theorem ekT_inj (a b : T3) (h : ekT a = ekT b) : a = b := by
  unfold ekT at h
  injection h with h
  injection h with h
  injection h with h1 h2
  injection h2 with h3 h4
  injection h4 with h5 h6
  injection h1 with _ g1
  injection h3 with _ g2
  injection h5 with _ g3
  cases a; cases b
  simp only at g1 g2 g3
  rw [Int.ofNat_inj.1 g1, Int.ofNat_inj.1 g2, Int.ofNat_inj.1 g3]
theorem kT_key (x : T3) (h : x.a ≤ 2000000000 ∧ x.b ≤ 2000000000 ∧ x.c ≤ 2000000000) : ∃ l, keyOf Try.prog 166 (ekT x) = some l := by
  obtain ⟨h1, h2, h3⟩ := h
  have u := Try.underlying166
  have u2 : Try.prog.underlying 3 = some (.int .i64) := Try.underlying3
  have hk : Try.prog.keyType 166 = true := by kernel_rfl
  have hf : (ekT x).formed Try.prog 166 = true := by
    unfold Value.formed ekT
    rw [u]
    kernel_rfl
  have hc : Try.prog.cellsOf 166 = 3 := by kernel_rfl
  have hc2 : Try.prog.cellsOf 3 = 1 := by kernel_rfl
  obtain ⟨d, hd⟩ : ∃ d, Try.prog.types.size = d + 1 := ⟨Try.prog.types.size - 1, by kernel_rfl⟩
  have wf : ∀ k : Nat, k ≤ 2000000000 → (Lit.int .i64 (k : Int)).wf = true := fun k hk => by
    simp only [Lit.wf, Bool.and_eq_true, decide_eq_true_eq]
    have e1 : IntKind.i64.min = -9223372036854775808 := rfl
    have e2 : IntKind.i64.max = 9223372036854775807 := rfl
    omega
  have g : ∀ x : Nat, x ≤ 2000000000 → Try.prog.keyLits (d + 1) 3 [.int .i64 (x : Int)] = some [.int .i64 (x : Int)] := fun x hx => by
    unfold Program.keyLits
    rw [u2]
    exact if_pos ⟨rfl, wf x hx⟩
  have g1 := g _ h1
  have g2 := g _ h2
  have g3 := g _ h3
  have hl : Try.prog.keyLits (Try.prog.types.size + 1) 166 (ekT x).cells.toList = some [.int .i64 (x.a : Int), .int .i64 (x.b : Int), .int .i64 (x.c : Int)] := by
    rw [hd]
    unfold Program.keyLits
    rw [u]
    have hcl : (ekT x).cells.toList = [.int .i64 (x.a : Int), .int .i64 (x.b : Int), .int .i64 (x.c : Int)] := rfl
    rw [hcl]
    dsimp only
    rw [if_pos (by rw [hc]; rfl)]
    rw [hc2, show List.range 3 = [0, 1, 2] from rfl]
    simp [List.mapM_cons, hc2, g1, g2, g3]
  unfold keyOf
  rw [u]
  refine ⟨.string (keyBytes [.int .i64 (x.a : Int), .int .i64 (x.b : Int), .int .i64 (x.c : Int)]), ?_⟩
  show (if (Try.prog.keyType 166 && (ekT x).formed Try.prog 166) = true then _ else none) = _
  rw [hk, hf, if_pos (by rfl), hl]
  rfl
theorem k3_key (x : N3) (h : x.p ≤ 2000000000 ∧ x.l ≤ 2000000000 ∧ x.h ≤ 2000000000) : ∃ l, keyOf Try.prog 101 (ek3 x) = some l := by
  obtain ⟨h1, h2, h3⟩ := h
  have u := Try.underlying101
  have u2 : Try.prog.underlying 3 = some (.int .i64) := Try.underlying3
  have hk : Try.prog.keyType 101 = true := by kernel_rfl
  have hf : (ek3 x).formed Try.prog 101 = true := by
    unfold Value.formed ek3
    rw [u]
    kernel_rfl
  have hc : Try.prog.cellsOf 101 = 3 := by kernel_rfl
  have hc2 : Try.prog.cellsOf 3 = 1 := by kernel_rfl
  obtain ⟨d, hd⟩ : ∃ d, Try.prog.types.size = d + 1 := ⟨Try.prog.types.size - 1, by kernel_rfl⟩
  have wf : ∀ k : Nat, k ≤ 2000000000 → (Lit.int .i64 (k : Int)).wf = true := fun k hk => by
    simp only [Lit.wf, Bool.and_eq_true, decide_eq_true_eq]
    have e1 : IntKind.i64.min = -9223372036854775808 := rfl
    have e2 : IntKind.i64.max = 9223372036854775807 := rfl
    omega
  have g : ∀ x : Nat, x ≤ 2000000000 → Try.prog.keyLits (d + 1) 3 [.int .i64 (x : Int)] = some [.int .i64 (x : Int)] := fun x hx => by
    unfold Program.keyLits
    rw [u2]
    exact if_pos ⟨rfl, wf x hx⟩
  have g1 := g _ h1
  have g2 := g _ h2
  have g3 := g _ h3
  have hl : Try.prog.keyLits (Try.prog.types.size + 1) 101 (ek3 x).cells.toList = some [.int .i64 (x.p : Int), .int .i64 (x.l : Int), .int .i64 (x.h : Int)] := by
    rw [hd]
    unfold Program.keyLits
    rw [u]
    have hcl : (ek3 x).cells.toList = [.int .i64 (x.p : Int), .int .i64 (x.l : Int), .int .i64 (x.h : Int)] := rfl
    rw [hcl]
    dsimp only
    rw [if_pos (by exact ⟨by rw [hc]; rfl, by decide +kernel⟩)]
    
    simp [List.mapM_cons, hc2, g1, g2, g3]
  unfold keyOf
  rw [u]
  refine ⟨.string (keyBytes [.int .i64 (x.p : Int), .int .i64 (x.l : Int), .int .i64 (x.h : Int)]), ?_⟩
  show (if (Try.prog.keyType 101 && (ek3 x).formed Try.prog 101) = true then _ else none) = _
  rw [hk, hf, if_pos (by rfl), hl]
  rfl
end Go.Proofs.Ythnhijdfcmcnhaa
