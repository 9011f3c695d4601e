/- NodeBuilds: its row. -/
import Derived.Test.YtncnpmgohhgmfaaDoorNr
import Derived.Test.YtncnpmgohhgmfaaDoorOf
namespace Go.Proofs.YtncnpmgohhgmfaaDoor
open Go Go.Cx Go.RowKit
set_option linter.unusedVariables false
set_option linter.unusedSimpArgs false
set_option maxHeartbeats 4000000
attribute [local irreducible] J JC thenK blockK loopK roundK drawK retK QW Qt pel List.set Calls
open Go.ChangeShapes Go.WideShapes
set_option maxRecDepth 100000 in
theorem nodeBuilds_lifted (os : Os) (started : os.Started) (T : Type) (enc : TypeId × Value → T) :
    ReturnsInHanded {} Tryd.checked os 5 .any (fun w args => (Rows.nodeBuildsSpec.pre enc Tryd.prog Tryd.f5 [] false w args ∧ laidMetH Tryd.prog Rows.nodeBuildsRow.laid w) ∧ sizedMet enc Tryd.prog Tryd.f5 (OpenSpec.ofChange Rows.nodeBuildsSpec) false w args)
      (Rows.nodeBuildsSpec.post enc Tryd.prog Tryd.f5 false true false false) := by
  refine returnsInHanded_of_change_and (C := Tryd.checked) (X := fun w _ => laidMetH Tryd.prog Rows.nodeBuildsRow.laid w) (fun _ _ _ hh h => h.of_heap hh) own started (by kernel_rfl) Tryd.func5
    (ChangeSpec.witness_shaped (enc := enc) (C := Tryd.checked) (os := os) (X := fun w _ => laidMetH Tryd.prog Rows.nodeBuildsRow.laid w) false (World.doorLaid Tryd.prog 400 os) #[.int .i64 0, .slice none 0 0, .slice none 0 0] 8 rfl (World.shaped_of_RefB (by kernel_rfl) (by kernel_rfl)) (by kernel_rfl) (by kernel_rfl) (by kernel_rfl) (door_met os _)) ?_
  intro W base args ds gs before hval0 hW _ hwt hL _
  have hval : ∀ (j : Nat) t v, Tryd.f5.params[j]? = some t → args[j]? = some v → Value.okWide Tryd.prog W .any base t v := hval0
  have hW' := hW
  obtain ⟨p, q, hA0, hV, rfl, hfz, hnd⟩ := hW
  have hA : DataW.TrodAll enc Tryd.prog W 0 (fun _ => true) true Tryd.f5.params.toList args.toList ds p := hA0
  rw [Tryd.params5] at hA hval hwt
  obtain ⟨v0, vs0, d0, ds0, p0, q0, hargs, rfl, rfl, h0, r0⟩ := trodAll_cons hA
  obtain ⟨v1, vs1, d1, ds1, p1, q1, rfl, rfl, rfl, h1, r1⟩ := trodAll_cons r0
  obtain ⟨v2, vs2, d2, ds2, p2, q2, rfl, rfl, rfl, h2, r2⟩ := trodAll_cons r1
  obtain ⟨rfl, rfl, rfl⟩ := trodAll_nil r2
  obtain rfl : args = #[v0, v1, v2] := by cases args; simp_all
  obtain ⟨a0, rfl, rfl, rfl, g0⟩ := open_int Tryd.underlying3 (hval 0 _ v0 rfl rfl) h0
  obtain ⟨a1, rfl, g1⟩ := arg_sliceS Tryd.underlying22 (reads_nds W) (hval 1 _ v1 rfl rfl) h1 (fun q hq => of_decide_eq_true (List.all_eq_true.1 hwt q (List.mem_append_right _ (List.mem_append_left _ hq))))
  obtain ⟨a2, rfl, g2⟩ := arg_sliceS Tryd.underlying38 (reads_ints W) (hval 2 _ v2 rfl rfl) h2 (fun q hq => of_decide_eq_true (List.all_eq_true.1 hwt q (List.mem_append_right _ (List.mem_append_right _ (List.mem_append_left _ hq)))))
  refine (nodeBuilds_walk a0 a1.a a1.cap a1.ts a2.a a2.cap a2.ts W g1.1.sl g1.1.all (by have := g1.1.cap; unfold maxLen at this; omega) g2.sl (tab_of_laid hL)).mono fun e W' ⟨he, bel⟩ => ?_
  refine law_post laidOut Tryd.underlying4 rfl (by kernel_rfl) rfl ?_ hW' he bel
  intro ds hds
  match ds, hds with
  | [_, _, _], _ => rfl

theorem nodeBuilds_holds : Rows.NodeBuildsSaid :=
  OpenClaim.holds_of_wide 5 Tryd.f5 rfl rfl rfl rfl rfl rfl rfl ⟨rfl, rfl, rfl, rfl, rfl⟩ rfl rfl rfl rfl rfl (by kernel_rfl) Tryd.func5 (by kernel_rfl)
    (of_decide_eq_true (by kernel_rfl)) (by unfold Func.isWrapper; first | (rw [if_pos (by decide +kernel)]; kernel_rfl) | (rw [if_neg (by decide +kernel)]; exact ⟨rfl, rfl⟩))
    (fun os started T enc _ => nodeBuilds_lifted os started T enc)

theorem nodeBuilds_card : Rows.NodeBuildsCardSaid :=
  Claim7.holds_tied_plain_at .later [] Rows.nodeBuildsCard.laidKinds true Rows.nodeBuildsCard.stood.harness false
    nodeBuilds_holds (fun _ h => by cases h) (by kernel_rfl) (fun _ h => by cases h) nodeBuilds_row_tie rfl ⟨rfl, rfl⟩ (by kernel_rfl) rfl
    (fun f fn hf hfn => by
      obtain rfl : f = 5 := Option.some.inj ((show Tryd.prog.funcNamed Rows.nodeBuildsRow.func = some 5 by kernel_rfl).symm.trans hf) |>.symm
      obtain rfl : fn = Tryd.f5 := (Option.some.inj (Tryd.func5.symm.trans hfn)).symm
      refine ⟨by kernel_rfl, fun j t ht => ?_⟩
      rw [Tryd.params5] at ht
      match j, ht with
      | 0, ht => obtain rfl := Option.some.inj ht; exact (show Tryd.prog.wantsStandIn 3 = false by kernel_rfl)
      | 1, ht => obtain rfl := Option.some.inj ht; exact (show Tryd.prog.wantsStandIn 22 = false by kernel_rfl)
      | 2, ht => obtain rfl := Option.some.inj ht; exact (show Tryd.prog.wantsStandIn 38 = false by kernel_rfl)
      | j + 3, ht => simp at ht)
    (by kernel_rfl)
#print axioms nodeBuilds_card
end Go.Proofs.YtncnpmgohhgmfaaDoor
