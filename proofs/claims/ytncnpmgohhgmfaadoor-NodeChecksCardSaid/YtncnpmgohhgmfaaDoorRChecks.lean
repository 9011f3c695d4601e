/- NodeChecks: its row. -/
import Derived.Test.YtncnpmgohhgmfaaDoorNr
import Derived.Test.YtncnpmgohhgmfaaDoorNy
namespace Go.Proofs.YtncnpmgohhgmfaaDoor
open Go Go.Cx Go.RowKit
set_option linter.unusedVariables false
set_option linter.unusedSimpArgs false
set_option maxHeartbeats 4000000
attribute [local irreducible] J JC thenK blockK loopK roundK drawK retK QW Qt pel List.set Calls
open Go.ChangeShapes Go.WideShapes
set_option maxRecDepth 100000 in
theorem nodeChecks_lifted (os : Os) (started : os.Started) (T : Type) (enc : TypeId × Value → T) :
    ReturnsInHanded {} Tryd.checked os 11 .any (fun w args => (Rows.nodeChecksSpec.pre enc Tryd.prog Tryd.f11 [] false w args ∧ laidMetH Tryd.prog Rows.nodeChecksRow.laid w) ∧ sizedMet enc Tryd.prog Tryd.f11 (OpenSpec.ofChange Rows.nodeChecksSpec) false w args)
      (Rows.nodeChecksSpec.post enc Tryd.prog Tryd.f11 false true false false) := by
  refine returnsInHanded_of_change_and (C := Tryd.checked) (X := fun w _ => laidMetH Tryd.prog Rows.nodeChecksRow.laid w) (fun _ _ _ hh h => h.of_heap hh) own started (by kernel_rfl) Tryd.func11
    (ChangeSpec.witness_shaped (enc := enc) (C := Tryd.checked) (os := os) (X := fun w _ => laidMetH Tryd.prog Rows.nodeChecksRow.laid w) false (World.doorLaid Tryd.prog 400 os) #[.agg ⟨[.int .i64 0, .slice none 0 0]⟩, .agg ⟨[.int .i64 0, .slice none 0 0]⟩] 8 rfl (World.shaped_of_RefB (by kernel_rfl) (by kernel_rfl)) (by kernel_rfl) (by kernel_rfl) (by kernel_rfl) (door_met os _)) ?_
  intro W base args ds gs before hval0 hW _ hwt hL _
  have hval : ∀ (j : Nat) t v, Tryd.f11.params[j]? = some t → args[j]? = some v → Value.okWide Tryd.prog W .any base t v := hval0
  have hW' := hW
  obtain ⟨p, q, hA0, hV, rfl, hfz, hnd⟩ := hW
  have hA : DataW.TrodAll enc Tryd.prog W 0 (fun _ => true) true Tryd.f11.params.toList args.toList ds p := hA0
  rw [Tryd.params11] at hA hval hwt
  obtain ⟨v0, vs0, d0, ds0, p0, q0, hargs, rfl, rfl, h0, r0⟩ := trodAll_cons hA
  obtain ⟨v1, vs1, d1, ds1, p1, q1, rfl, rfl, rfl, h1, r1⟩ := trodAll_cons r0
  obtain ⟨rfl, rfl, rfl⟩ := trodAll_nil r1
  obtain rfl : args = #[v0, v1] := by cases args; simp_all
  obtain ⟨a0, rfl, g0⟩ := arg_aggS (let ⟨cs, h, _⟩ := okWide_struct Tryd.underlying24 (hval 0 _ v0 rfl rfl); ⟨cs, h⟩) (reads_net W) h0 (fun q hq => of_decide_eq_true (List.all_eq_true.1 hwt q (List.mem_append_left _ hq)))
  obtain ⟨a1, rfl, g1⟩ := arg_aggS (let ⟨cs, h, _⟩ := okWide_struct Tryd.underlying24 (hval 1 _ v1 rfl rfl); ⟨cs, h⟩) (reads_net W) h1 (fun q hq => of_decide_eq_true (List.all_eq_true.1 hwt q (List.mem_append_right _ (List.mem_append_left _ hq))))
  refine (nodeChecks_walk a0 a1 W g0 g1 (tab_of_laid hL)).mono fun e W' ⟨he, bel⟩ => ?_
  refine law_post laidOut Tryd.underlying4 rfl (by kernel_rfl) rfl ?_ hW' he bel
  intro ds hds
  match ds, hds with
  | [_, _], _ => rfl

theorem nodeChecks_holds : Rows.NodeChecksSaid :=
  OpenClaim.holds_of_wide 11 Tryd.f11 rfl rfl rfl rfl rfl rfl rfl ⟨rfl, rfl, rfl, rfl, rfl⟩ rfl rfl rfl rfl rfl (by kernel_rfl) Tryd.func11 (by kernel_rfl)
    (of_decide_eq_true (by kernel_rfl)) (by unfold Func.isWrapper; first | (rw [if_pos (by decide +kernel)]; kernel_rfl) | (rw [if_neg (by decide +kernel)]; exact ⟨rfl, rfl⟩))
    (fun os started T enc _ => nodeChecks_lifted os started T enc)

theorem nodeChecks_card : Rows.NodeChecksCardSaid :=
  Claim7.holds_tied_plain_at .later [] Rows.nodeChecksCard.laidKinds true Rows.nodeChecksCard.stood.harness false
    nodeChecks_holds (fun _ h => by cases h) (by kernel_rfl) (fun _ h => by cases h) nodeChecks_row_tie rfl ⟨rfl, rfl⟩ (by kernel_rfl) rfl
    (fun f fn hf hfn => by
      obtain rfl : f = 11 := Option.some.inj ((show Tryd.prog.funcNamed Rows.nodeChecksRow.func = some 11 by kernel_rfl).symm.trans hf) |>.symm
      obtain rfl : fn = Tryd.f11 := (Option.some.inj (Tryd.func11.symm.trans hfn)).symm
      refine ⟨by kernel_rfl, fun j t ht => ?_⟩
      rw [Tryd.params11] at ht
      match j, ht with
      | 0, ht => obtain rfl := Option.some.inj ht; exact (show Tryd.prog.wantsStandIn 24 = false by kernel_rfl)
      | 1, ht => obtain rfl := Option.some.inj ht; exact (show Tryd.prog.wantsStandIn 24 = false by kernel_rfl)
      | j + 2, ht => simp at ht)
    (by kernel_rfl)
#print axioms nodeChecks_card
end Go.Proofs.YtncnpmgohhgmfaaDoor
