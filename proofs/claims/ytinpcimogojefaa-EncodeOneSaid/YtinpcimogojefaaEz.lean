/- What both sides of encode need: lists of lists, theories as values. -/
import Derived.Test.YtinpcimogojefaaEi
import Derived.Test.YtinpcimogojefaaCxP
namespace Go.Proofs.Ytinpcimogojefaa
open Go Go.Cx Go.RowKit
set_option linter.unusedVariables false
set_option linter.unusedSimpArgs false
set_option maxHeartbeats 4000000
attribute [local irreducible] J JC thenK blockK loopK roundK drawK retK QW Qt pel List.set Calls
/-- a slice of ints as an element -/
structure HV where
  a : Option Addr
  c : Nat
  l : List Int
instance : Inhabited HV := ⟨⟨none, 0, []⟩⟩
def encHV (v : HV) : List Value := [.slice v.a v.l.length v.c]
/-- a list of lists that lies in a fragment -/
structure LLR (a : Option Addr) (vs : List HV) (h : Heap) : Prop where
  o : SlT encHV 1 a vs h
  i : ∀ v, v ∈ vs → SlT encI 1 v.a v.l h
theorem one_own (b : Nat) (t : TypeId) (x : Int) : OwT encI 1 t (some ⟨b, 0, none⟩) 1 [x] [(b, .cells ⟨[.int .i64 x]⟩ t (0, 0))] := ⟨fun _ => rfl, .inr ⟨b, _, rfl, rfl, rfl, Nat.le_refl _, rfl⟩⟩
/-- a theory as a value -/
def ThV (N : Int) (T : List (List Int)) (v : Value) (ho hi : Heap) : Prop := ∃ aa ka vs, v = .agg ⟨[.int .i64 N, .slice aa vs.length ka]⟩ ∧ OwT encHV 1 22 aa ka vs ho ∧ (∀ v, v ∈ vs → SlT encI 1 v.a v.l hi) ∧ vs.map (·.l) = T
theorem rowsF_ok (least : Int) : ∀ (cs now : List Int), (∀ c, c ∈ cs → 0 ≤ c) → asc now → (∀ p, p ∈ now → 0 ≤ p) → ∀ r, r ∈ rowsF least cs now → asc r ∧ ∀ x, x ∈ r → 0 ≤ x ∧ x < least
  | [], _, _, _, _, r, hr => by simp [rowsF] at hr
  | c :: cs, now, hc, ha, hp, r, hr => by
    have hu : ∀ x, x ∈ undec least (sumI (c :: cs)) now → 0 ≤ x ∧ x < least := fun x hx => by
      have := (undec_mem _ _ _ _).1 hx
      exact ⟨hp x this.1, this.2.1⟩
    rcases List.mem_cons.1 hr with rfl | hr
    · exact ⟨undec_asc _ _ _ ha, hu⟩
    · refine rowsF_ok least cs _ (fun x hx => hc x (List.mem_cons_of_mem _ hx)) (nextF_asc _ _) (fun p hp => ?_) r hr
      obtain ⟨q, hq, h⟩ := (nextF_mem _ _ _).1 hp
      have := hu q hq
      have := hc c List.mem_cons_self
      rcases h with rfl | rfl <;> omega
theorem totF_mem (r : List Int) : ∀ l : List (List Int), r ∈ l → r.length ≤ totF l
  | [], h => by cases h
  | x :: l, h => by
    rw [totF_cons]
    rcases List.mem_cons.1 h with rfl | h
    · omega
    · have := totF_mem r l h; omega
end Go.Proofs.Ytinpcimogojefaa
