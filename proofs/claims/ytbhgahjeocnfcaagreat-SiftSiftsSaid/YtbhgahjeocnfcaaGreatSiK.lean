/- SiftSifts: sifting leads to the order of the document: the law returns true. -/
import Derived.Test.YtbhgahjeocnfcaaGreatSiJ
namespace Go.Proofs.YtbhgahjeocnfcaaGreat
open Go Go.Cx Go.RowKit
set_option linter.unusedVariables false
set_option linter.unusedSimpArgs false
set_option maxHeartbeats 4000000
attribute [local irreducible] J JC thenK blockK loopK roundK drawK retK QW Qt pel List.set Calls
open Go.ChangeShapes Go.WideShapes
set_option maxRecDepth 100000 in
theorem siftSifts_lifted (os : Os) (started : os.Started) (T : Type) (enc : TypeId × Value → T) :
    ReturnsInHanded {} Tryz.checked os 3 .any (Rows.siftSiftsSpec.pre6 enc Tryz.prog Tryz.f3 [] false)
      (Rows.siftSiftsSpec.post enc Tryz.prog Tryz.f3 false true false false) := by
  refine returnsInHanded_of_change_sized (C := Tryz.checked) own started (by kernel_rfl) Tryz.func3
    (ChangeSpec.witness6 (enc := enc) (C := Tryz.checked) false ⟨#[], #[.agg #[.int .i64 0, .slice none 0 0], .slice none 0 0], []⟩ 8 (by kernel_rfl) (by kernel_rfl) (by kernel_rfl) (by kernel_rfl)) ?_
  intro W base args ds gs before hval0 hW _ hwt _
  have hval : ∀ (j : Nat) t v, Tryz.f3.params[j]? = some t → args[j]? = some v → Value.okWide Tryz.prog W .any base t v := hval0
  have hW' := hW
  obtain ⟨p, q, hA0, hV, rfl, hfz, hnd⟩ := hW
  have hA : DataW.TrodAll enc Tryz.prog W 0 (fun _ => true) true Tryz.f3.params.toList args.toList ds p := hA0
  rw [Tryz.params3] at hA hval
  obtain ⟨v0, vs0, d0, ds0, p0, q0, hargs, rfl, rfl, h0, r0⟩ := trodAll_cons hA
  obtain ⟨v1, vs1, d1, ds1, p1, q1, rfl, rfl, rfl, h1, r1⟩ := trodAll_cons r0
  obtain ⟨rfl, rfl, rfl⟩ := trodAll_nil r1
  obtain rfl : args = #[v0, v1] := by cases args; simp_all
  obtain ⟨a0, rfl, g0⟩ := arg_agg (let ⟨cs, h, _⟩ := okWide_struct Tryz.underlying24 (hval 0 _ v0 rfl rfl); ⟨cs, h⟩) (reads_th W) h0
  obtain ⟨a1, rfl, g1⟩ := arg_slice Tryz.underlying25 (reads_u8s W) (hval 1 _ v1 rfl rfl) h1
  refine (sifts31_any a0.n a0.a a0.c a0.vs (heapOf W) g0.l a1.ts a1.a a1.cap (heapOf W) g1.sl (by have := g1.cap; unfold maxLen at this; omega) g1.all W ((heapOf_holds W).append (heapOf_holds W))).mono fun e W' ⟨he, bel⟩ => ?_
  refine law_post laidOut Tryz.underlying4 rfl (by kernel_rfl) rfl ?_ hW' he bel
  intro ds hds
  match ds, hds with
  | [_, _], _ => rfl
theorem siftSifts_holds : Rows.SiftSiftsSaid :=
  OpenClaim.holds_of_wide 3 Tryz.f3 rfl rfl rfl rfl rfl rfl rfl ⟨rfl, rfl, rfl, rfl, rfl⟩ rfl rfl rfl rfl rfl (by kernel_rfl) Tryz.func3 (by kernel_rfl)
    (of_decide_eq_true (by kernel_rfl)) (by unfold Func.isWrapper; first | (rw [if_pos (by decide +kernel)]; kernel_rfl) | (rw [if_neg (by decide +kernel)]; exact ⟨rfl, rfl⟩))
    (fun os started T enc _ => siftSifts_lifted os started T enc)
#print axioms siftSifts_holds
end Go.Proofs.YtbhgahjeocnfcaaGreat
