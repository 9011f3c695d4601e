/- maps.Keys, slices.Sorted, maps.DeleteFunc at this program. -/
import Derived.Test.YtinpcimogojefaaShelf
import Derived.Test.YtinpcimogojefaaEa
import Derived.Test.YtinpcimogojefaaCxO
import Derived.Test.YtinpcimogojefaaCxZ
namespace Go.Proofs.Ytinpcimogojefaa
open Go Go.Cx Go.RowKit
set_option linter.unusedVariables false
set_option linter.unusedSimpArgs false
set_option maxHeartbeats 4000000
attribute [local irreducible] J JC thenK blockK loopK roundK drawK retK QW Qt pel List.set Calls
open Go.Maps Go.Sort Go.Shelf
theorem sortsA (m : Nat) : AnyZI.SortsIn Try.prog Try.sortedA_ren Fence.wide m :=
  ⟨fun blk off cap ss W hH hblk hsz => callsIn_wide.2 (AnyM.slices_Sort_int Try.sortA blk off cap ss W hH hblk hsz),
   fun p cap W => callsIn_wide.2 (AnyM.slices_Sort_int_none Try.sortA p cap W)⟩
theorem keyedI : Keyed Try.prog 3 := int_keyed Try.underlying3
def evB (b : Bool) : Value := .bool b
def ekI (x : Int) : Value := .int .i64 x
def dlB (b : Bool) : DataW Unit := .lit (.bool b)
theorem hRB (y : Bool) : plainElem (H := Unit) Try.prog 4 (evB y) = some (dlB y, []) := plainElem_bool Try.underlying4 y
set_option maxRecDepth 20000 in
theorem hRiB (v : Value) (d : DataW Unit) (ps : List MemPlace) (h : plainElem (H := Unit) Try.prog 4 v = some (d, ps)) : ∃ y, v = evB y ∧ d = dlB y := by
  unfold plainElem at h
  rw [Try.underlying4] at h
  cases v <;> simp at h
  rename_i b
  exact ⟨b, rfl, h.1.symm⟩
theorem hkiI (v : Value) (l : Lit) (h : keyOf Try.prog 3 v = some l) : ∃ x, v = ekI x := by
  obtain ⟨x, hx, _⟩ := Maps.keyOf_i64 Try.underlying3 h
  exact ⟨x, hx⟩
theorem keys_any (b : Nat) (w : World) : Calls Try.prog 56 #[.map (some b)] w (Gives (fun v g => ∃ B, v = .func (.func 76) ⟨[]⟩ ⟨[.pointer (some ⟨B, 0, none⟩)]⟩ ∧ g = [(B, .cells ⟨[.map (some b)]⟩ 84 (0, 0))]) w) := by
  have cK := (callsIn_wide (n := 5)).1 (AnyZI.keys_in Try.keysA Fence.wide 5 trivial rfl (some b) w)
  refine cK.mono ?_
  rintro e w' ⟨rfl, rfl⟩
  refine ⟨_, _, rfl, (Below.refl _ _).alloc (Nat.le_refl _) _, ?_, ?_, ?_, w.heap.size, rfl, rfl⟩
  · intro x hx
    rw [List.mem_singleton.1 hx]
    show (w.heap.push _)[w.heap.size]? = some _
    simp
    rfl
  · intro x hx
    rw [List.mem_singleton.1 hx]
    exact Nat.le_refl _
  · simp

theorem leI_eq : (fun x y : Int => decide (x ≤ y)) = leI := rfl
set_option maxRecDepth 100000 in
theorem intKeys_of (m : List (Int × Bool)) (hk : ∀ p, p ∈ m → ∃ l, keyOf Try.prog 3 (ekI p.1) = some l) : (intKeys (DataW.map ((m.map (toD Try.prog 3 ekI dlB)).foldr DataW.insert []))).Perm (m.map (·.1)) := by
  have h1 := (Go.WideShapes.sorted_perm (m.map (toD Try.prog 3 ekI dlB))).map (fun p => Go.intOf p.1)
  refine h1.trans (List.Perm.of_eq ?_)
  rw [List.map_map]
  apply List.map_congr_left
  intro p hp
  obtain ⟨l, hl⟩ := hk p hp
  obtain ⟨x, hx, rfl, _⟩ := Maps.keyOf_i64 Try.underlying3 hl
  have : p.1 = x := by simpa [ekI, encZ] using hx
  show Go.intOf ((keyOf Try.prog 3 (ekI p.1)).getD (.bool false)) = p.1
  simp only [hl, Option.getD_some]
  exact this.symm

set_option maxHeartbeats 1000000 in
theorem sorted_any (m : List (Int × Bool)) (b B : Nat) (h : Heap) (mt : MapT Try.prog 3 ekI evB m b h) (hl : m.length ≤ 1000000) (w : World) (hw : Holds h w) (hB : Holds [(B, .cells ⟨[.map (some b)]⟩ 84 (0, 0))] w) :
    Calls Try.prog 55 #[.func (.func 76) ⟨[]⟩ ⟨[.pointer (some ⟨B, 0, none⟩)]⟩] w (Gives (fun v g => ∃ a cap, v = .slice a ((m.map (·.1)).mergeSort leI).length cap ∧ OwT encI 1 3 a cap ((m.map (·.1)).mergeSort leI) g) w) := by
  have hml : m.length ≤ maxLen := by unfold maxLen; omega
  have hown := mt.owns hRB hw hml
  have hsz : Maps.size (DataW.map ((m.map (toD Try.prog 3 ekI dlB)).foldr DataW.insert [])) = m.length := by
    show ((m.map (toD Try.prog 3 ekI dlB)).foldr DataW.insert []).length = m.length
    rw [(Go.WideShapes.sorted_perm _).length_eq, List.length_map]
  have hb : w.heap[B]? = some (.cells ⟨[.map (some b)]⟩ 84 (0, 0)) := hB (B, _) (by simp)
  have hcell : w.cell? ⟨B, 0, none⟩ = some (.map (some b)) := by simp [World.cell?, hb]
  have hseq : SeqGives Fence.wide 2 Try.prog 76 #[.pointer (some ⟨B, 0, none⟩)] encZ (fun ss => ss.Perm (intKeys (DataW.map ((m.map (toD Try.prog 3 ekI dlB)).foldr DataW.insert [])))) (Maps.size (DataW.map ((m.map (toD Try.prog 3 ekI dlB)).foldr DataW.insert []))) w :=
    AnyZI.keys_gives (ρ := Try.keysA_ren) { Try.keysA with } Fence.wide _ trivial rfl (by omega) B b m.length _ _ (Array.getElem?_eq_some_iff.1 hb).1 hcell hown
  have cS := AnyZI.sorted_in Try.sortedA Fence.wide 5 trivial trivial trivial trivial rfl (by omega) (sortsA _) (enters_of Try.func75 (by kernel_rfl) rfl) 76 #[.pointer (some ⟨B, 0, none⟩)] trivial (enters_of Try.func76 (by kernel_rfl) rfl) _ _ (by rw [hsz]; exact hml) (by rw [hsz]; omega) _ hseq
  refine ((callsIn_wide (n := 5)).1 cS).mono ?_
  rintro e w' ⟨v, ss, rfl, hS, hrow, hnil, hbel⟩
  have hss : ss.mergeSort leI = (m.map (·.1)).mergeSort leI := mergeSort_of_perm_i (hS.trans (intKeys_of m mt.keys))
  have hlen : ss.length = ((m.map (·.1)).mergeSort leI).length := by rw [← hss, List.length_mergeSort]
  rcases hrow.2 with ⟨rfl, hz⟩ | ⟨g, cap, cur, rfl, hbase, hg, r1, r2, r3, r4⟩
  · refine ⟨_, [], rfl, hbel, Holds.nil _, fun x hx => (by cases hx), List.nodup_nil, none, 0, ?_, ?_⟩
    · rw [← hlen, hz]
    · have : (m.map (·.1)).mergeSort leI = [] := List.eq_nil_of_length_eq_zero (by rw [← hlen, hz])
      rw [this]
      exact OwT.nil (fun _ => rfl)
  · refine ⟨_, [(g, .cells cur 3 (0, 0))], rfl, hbel, ?_, ?_, by simp, some ⟨g, 0, none⟩, cap, ?_, fun _ => rfl, .inr ⟨g, cur.toList, rfl, rfl, ?_, ?_, ?_⟩⟩
    · intro x hx
      rw [List.mem_singleton.1 hx]
      exact hg
    · intro x hx
      rw [List.mem_singleton.1 hx]
      exact hbase
    · rw [← hlen]
    · simpa using r3
    · rw [← hlen]; exact r1
    · rw [← hlen, r4, leI_eq, hss]
      clear hss hrow r4
      generalize (m.map (·.1)).mergeSort leI = l
      induction l with
      | nil => rfl
      | cons x l ih => rw [List.map_cons, List.flatMap_cons, ih]; rfl

/-- maps.DeleteFunc at this program -/
theorem deleteFunc_any {q : Int → Bool → Bool} (g : Nat) (eg : Entr Try.prog g) (cb : List Value) {m : List (Int × Bool)} {b : Nat} {h : Heap} (mt : MapT Try.prog 3 ekI evB m b h) (hl : m.length ≤ 1000000) {w0 w : World} {R0 : Heap} {L : List Heap} (hw : H w0 R0 (h :: L) w)
    (hdel : ∀ x y W, (∃ l, keyOf Try.prog 3 (ekI x) = some l) → H w0 R0 L W → Calls Try.prog g ⟨[ekI x, evB y] ++ cb⟩ W fun e w' => e = .returned (.bool (q x y)) ∧ Below W.heap.size W w') :
    Calls Try.prog 53 ⟨[.map (some b), .func (.func g) ⟨[]⟩ ⟨cb⟩]⟩ w fun e w' => ∃ v L', e = .returned v ∧ H w0 R0 L' w' ∧ (v = .tuple #[] ∧ ∃ m' h', L' = h' :: L ∧ MapT Try.prog 3 ekI evB m' b h' ∧ m'.Perm (m.filter fun p => !q p.1 p.2)) :=
  deleteFunc_T Try.delA keyedI hRB hRiB hkiI (fun x y e => by simpa [ekI] using e) (fun y y' e => by simpa [dlB] using e) g eg cb mt (by unfold maxLen; omega) hw hdel
end Go.Proofs.Ytinpcimogojefaa
