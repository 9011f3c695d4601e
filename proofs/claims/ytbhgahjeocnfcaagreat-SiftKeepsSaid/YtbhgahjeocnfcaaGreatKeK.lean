/- SiftKeeps: the function and its count stay the same when two places are exchanged and when it is sifted, and sifting makes nothing greater: the law returns true. -/
import Derived.Test.YtbhgahjeocnfcaaGreatKeJ
namespace Go.Proofs.YtbhgahjeocnfcaaGreat
open Go Go.Cx Go.RowKit
set_option linter.unusedVariables false
set_option linter.unusedSimpArgs false
set_option maxHeartbeats 4000000
attribute [local irreducible] J JC thenK blockK loopK roundK drawK retK QW Qt pel List.set Calls
open Go.ChangeShapes Go.WideShapes
set_option maxRecDepth 100000 in
theorem siftKeeps_lifted (os : Os) (started : os.Started) (T : Type) (enc : TypeId × Value → T) :
    ReturnsInHanded {} Tryz.checked os 4 .any (Rows.siftKeepsSpec.pre6 enc Tryz.prog Tryz.f4 [] false)
      (Rows.siftKeepsSpec.post enc Tryz.prog Tryz.f4 false true false false) := by
  refine returnsInHanded_of_change_sized (C := Tryz.checked) own started (by kernel_rfl) Tryz.func4
    (ChangeSpec.witness6 (enc := enc) (C := Tryz.checked) false ⟨#[], #[.agg #[.int .i64 0, .slice none 0 0], .slice none 0 0, .int .u8 0, .agg #[.int .u64 0, .int .u64 0]], []⟩ 8 (by kernel_rfl) (by kernel_rfl) (by kernel_rfl) (by kernel_rfl)) ?_
  intro W base args ds gs before hval0 hW _ hwt _
  have hval : ∀ (j : Nat) t v, Tryz.f4.params[j]? = some t → args[j]? = some v → Value.okWide Tryz.prog W .any base t v := hval0
  have hW' := hW
  obtain ⟨p, q, hA0, hV, rfl, hfz, hnd⟩ := hW
  have hA : DataW.TrodAll enc Tryz.prog W 0 (fun _ => true) true Tryz.f4.params.toList args.toList ds p := hA0
  rw [Tryz.params4] at hA hval
  obtain ⟨v0, vs0, d0, ds0, p0, q0, hargs, rfl, rfl, h0, r0⟩ := trodAll_cons hA
  obtain ⟨v1, vs1, d1, ds1, p1, q1, rfl, rfl, rfl, h1, r1⟩ := trodAll_cons r0
  obtain ⟨v2, vs2, d2, ds2, p2, q2, rfl, rfl, rfl, h2, r2⟩ := trodAll_cons r1
  obtain ⟨v3, vs3, d3, ds3, p3, q3, rfl, rfl, rfl, h3, r3⟩ := trodAll_cons r2
  obtain ⟨rfl, rfl, rfl⟩ := trodAll_nil r3
  obtain rfl : args = #[v0, v1, v2, v3] := by cases args; simp_all
  obtain ⟨a0, rfl, g0⟩ := arg_agg (let ⟨cs, h, _⟩ := okWide_struct Tryz.underlying24 (hval 0 _ v0 rfl rfl); ⟨cs, h⟩) (reads_th W) h0
  obtain ⟨a1, rfl, g1⟩ := arg_slice Tryz.underlying25 (reads_u8s W) (hval 1 _ v1 rfl rfl) h1
  obtain ⟨a2, rfl, rfl, rfl, g2⟩ := open_int Tryz.underlying5 (hval 2 _ v2 rfl rfl) h2
  obtain ⟨k2, rfl, hk2⟩ := u8_wf g2
  obtain ⟨a3, rfl, g3⟩ := arg_agg (okWide_arr Tryz.underlying44 (hval 3 _ v3 rfl rfl)) (reads_set W) h3
  refine (keeps31_any a0.n a0.a a0.c a0.vs (heapOf W) g0.l a1.ts a1.a a1.cap (heapOf W) g1.sl (by have := g1.cap; unfold maxLen at this; omega) g1.all k2 hk2 a3 g3 W ((heapOf_holds W).append (heapOf_holds W))).mono fun e W' ⟨he, bel⟩ => ?_
  refine law_post laidOut Tryz.underlying4 rfl (by kernel_rfl) rfl ?_ hW' he bel
  intro ds hds
  match ds, hds with
  | [_, _, _, _], _ => rfl
theorem siftKeeps_holds : Rows.SiftKeepsSaid :=
  OpenClaim.holds_of_wide 4 Tryz.f4 rfl rfl rfl rfl rfl rfl rfl ⟨rfl, rfl, rfl, rfl, rfl⟩ rfl rfl rfl rfl rfl (by kernel_rfl) Tryz.func4 (by kernel_rfl)
    (of_decide_eq_true (by kernel_rfl)) (by unfold Func.isWrapper; first | (rw [if_pos (by decide +kernel)]; kernel_rfl) | (rw [if_neg (by decide +kernel)]; exact ⟨rfl, rfl⟩))
    (fun os started T enc _ => siftKeeps_lifted os started T enc)
#print axioms siftKeeps_holds
end Go.Proofs.YtbhgahjeocnfcaaGreat
