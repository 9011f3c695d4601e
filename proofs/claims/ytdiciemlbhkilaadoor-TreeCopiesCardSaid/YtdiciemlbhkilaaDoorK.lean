/- works: the chapter's first example. -/
import Derived.Test.YtdiciemlbhkilaaDoorJ
namespace Go.Proofs.YtdiciemlbhkilaaDoor
open Go Go.Cx Go.RowKit
set_option linter.unusedVariables false
set_option linter.unusedSimpArgs false
set_option maxHeartbeats 4000000
attribute [local irreducible] J JC thenK blockK loopK roundK drawK retK QW Qt pel List.set Calls

def smallL : List Nd := [⟨1, 1, 2, false⟩, ⟨0, 0, 0, false⟩, ⟨2, 3, 4, false⟩, ⟨0, 0, 0, true⟩, ⟨0, 0, 0, false⟩]
def smallT : List UInt8 := [40, 49, 32, 45, 32, 40, 50, 32, 43, 32, 45, 41, 41]
theorem w_check : checkT smallL 128 = 0 := by kernel_rfl
theorem w_check1 : checkT smallL 1 = 1 := by kernel_rfl
theorem w_parse : parseP smallT = (0, smallL) := by kernel_rfl
theorem w_print : printP smallL = (0, smallT) := by kernel_rfl
theorem w_class1 : classT smallL (1, 0) = true := by kernel_rfl
theorem w_class3 : classT smallL (3, 0) = false := by kernel_rfl
theorem w_same : sameN smallL smallL = true := sameN_refl _

theorem _root_.Go.Cx.SlT.mono {α : Type} {enc : α → List Value} {size : Nat} {a : Option Addr} {ts : List α} {h h' : Heap} (hs : SlT enc size a ts h) (hh : ∀ x, x ∈ h → x ∈ h') : SlT enc size a ts h' :=
  ⟨hs.len, fun i hi => let ⟨b, off, cs, e, fr, h1, h2, h3, h4⟩ := hs.at_ i hi; ⟨b, off, cs, e, fr, h1, hh _ h2, h3, h4⟩⟩
theorem parse_small (w : World) : Calls Tryd.prog 14 #[.string (S smallT)] w (Gives (fun v h => ∃ a cap, v = .tuple #[.slice a 5 cap, .int .i64 0] ∧ OwT encN 4 35 a cap smallL h) w) := by
  have := parse_any smallT w
  rw [w_parse] at this
  exact this
theorem itoa_sm (w : World) : ItoaAt smallL w := by
  intro j hj hv
  have : j = 0 ∨ j = 1 ∨ j = 2 ∨ j = 3 ∨ j = 4 := by have : smallL.length = 5 := rfl; omega
  rcases this with rfl | rfl | rfl | rfl | rfl
  · exact ⟨Nat.le_of_ble_eq_true (by kernel_rfl), fun w' _ => itoa_small 1 (by decide) w'⟩
  · exact absurd rfl hv
  · exact ⟨Nat.le_of_ble_eq_true (by kernel_rfl), fun w' _ => itoa_small 2 (by decide) w'⟩
  · exact absurd rfl hv
  · exact absurd rfl hv
theorem short_sm : ShortS smallL := by
  intro j h0 h1
  have : j = 0 ∨ j = 1 ∨ j = 2 ∨ j = 3 ∨ j = 4 := by have : smallL.length = 5 := rfl; omega
  rcases this with rfl | rfl | rfl | rfl | rfl <;> exact Nat.le_of_ble_eq_true (by kernel_rfl)
theorem print_small (a : Option Addr) (cap : Nat) (h : Heap) (hs : SlT encN 4 a smallL h) (w : World) (hw : Holds h w) :
    Calls Tryd.prog 15 #[.slice a 5 cap] w fun e w' => e = .returned (.tuple #[.string (S smallT), .int .i64 0]) ∧ Below w.heap.size w w' := by
  have := print_any a cap smallL h hs w hw (fun _ => itoa_sm w) (fun _ => short_sm)
  rw [w_print] at this
  exact this

theorem classify_small1 (a : Option Addr) (cap : Nat) (h : Heap) (hs : SlT encN 4 a smallL h) (w : World) (hw : Holds h w) :
    Calls Tryd.prog 8 #[.slice a 5 cap, .agg ⟨[.int .u64 1, .int .u64 0]⟩] w fun e w' => e = .returned (.bool true) ∧ Below w.heap.size w w' := by
  have := classify_any a cap smallL (1, 0) (by constructor <;> decide) h hs w hw
  rw [w_class1] at this
  exact this
theorem classify_small3 (a : Option Addr) (cap : Nat) (h : Heap) (hs : SlT encN 4 a smallL h) (w : World) (hw : Holds h w) :
    Calls Tryd.prog 8 #[.slice a 5 cap, .agg ⟨[.int .u64 3, .int .u64 0]⟩] w fun e w' => e = .returned (.bool false) ∧ Below w.heap.size w w' := by
  have := classify_any a cap smallL (3, 0) (by constructor <;> decide) h hs w hw
  rw [w_class3] at this
  exact this
theorem check_small1 (a : Option Addr) (cap : Nat) (h : Heap) (hs : SlT encN 4 a smallL h) (w : World) (hw : Holds h w) :
    Calls Tryd.prog 18 #[.slice a 5 cap, .int .i64 1] w fun e w' => e = .returned (.int .i64 1) ∧ Below w.heap.size w w' := by
  have := check_any a cap smallL 1 h hs w hw
  rw [w_check1] at this
  exact this
theorem vote_small (b : Nat) (a : Option Addr) (cap : Nat) (h : Heap) (hs : SlT encN 4 a smallL h) (w : World) (hw : Holds ([(b, .cells ⟨[.slice a 5 cap]⟩ 23 (0, 0))] ++ h) w) :
    Calls Tryd.prog 9 #[.slice (some ⟨b, 0, none⟩) 1 1, .agg ⟨[.int .u64 1, .int .u64 0]⟩] w fun e w' => e = .returned (.bool true) ∧ Below w.heap.size w w' := by
  have ho : OwT encTV 1 23 (some ⟨b, 0, none⟩) 1 [(⟨a, cap, smallL⟩ : TV)] [(b, .cells ⟨[.slice a 5 cap]⟩ 23 (0, 0))] := ⟨fun _ => rfl, .inr ⟨b, _, rfl, rfl, rfl, Nat.le_refl _, rfl⟩⟩
  have := vote_any (some ⟨b, 0, none⟩) 1 [(⟨a, cap, smallL⟩ : TV)] (1, 0) (by constructor <;> decide) _ (ho.sl.mono (fun x hx => List.mem_append_left h hx)) (fun t ht => by
    obtain rfl : t = ⟨a, cap, smallL⟩ := by simpa using ht
    exact hs.mono (fun x hx => List.mem_append_right _ hx)) (Nat.le_of_ble_eq_true rfl) w hw
  rw [votesOf, votesOf, w_class1] at this
  exact this

theorem eParse : Entr Tryd.prog 14 := Entr.of Tryd.func14 rfl rfl
theorem ePrint : Entr Tryd.prog 15 := Entr.of Tryd.func15 rfl rfl
theorem eSmall : Entr Tryd.prog 16 := Entr.of Tryd.func16 rfl rfl
theorem eGiven : Entr Tryd.prog 13 := Entr.of Tryd.func13 rfl rfl
theorem eSame : Entr Tryd.prog 17 := Entr.of Tryd.func17 rfl rfl
theorem eVote : Entr Tryd.prog 9 := Entr.of Tryd.func9 rfl rfl

theorem works_any (w : World) : Calls Tryd.prog 5 #[] w fun e w' => e = .returned (.bool true) ∧ Below w.heap.size w w' := by
  refine calls_of_JC (R := []) Tryd.func5 Tryd.ntmps5 rfl rfl (Holds.nil _) ?_
  repeat' first
    | (refine J.isJ ?_; first | (first | (first | (refine J.o 0 ?_; refine J.ev' hΓ ?_) | refine J.nil ?_ | refine J.kd ?_ | (refine J.o 4 ?_; first | refine J.e0 hΓ ?_ | refine J.lT default hΓ ?_ | refine J.e1 hΓ ?_ | refine J.e2 hΓ ?_ | refine J.lR hΓ ?_) | (refine J.o 3 ?_; first | refine J.iA hΓ ?_ | refine J.iJ hΓ ?_ | refine J.fP hΓ ?_ | refine J.iC hΓ ?_ | refine J.ev' hΓ ?_) | (refine J.o 1 ?_; first | refine J.ad ?_ | refine J.ct ?_ | refine J.sb ?_ | refine J.mu ?_ | refine J.ng ?_ | refine J.qu ?_ | refine J.rm ?_ | refine J.s1 ?_ | refine J.sr ?_ | refine J.aW ?_ | refine J.oW ?_ | refine J.nW ?_) | (refine J.o 2 ?_; refine J.cv _ hΓ ?_) | (refine J.o 5 ?_; first | refine J.t0 hΓ ?_ | refine J.t1 hΓ ?_ | refine J.t2 hΓ ?_ | refine J.tT _ default hΓ (fun _ _ => ?_) | refine J.tT1 _ default hΓ (fun _ _ => ?_) | refine J.tT2 _ default hΓ (fun _ _ => ?_) | refine J.tT3 _ default hΓ (fun _ _ => ?_)) | (refine J.o 6 ?_; refine J.bx (fun _ => ?_)) | (refine J.o 7 ?_; refine J.al hΓ (fun _ => ?_)) | (refine J.o 8 ?_; refine J.bd hΓ ?_) | (refine J.o 9 ?_; refine J.bl hΓ (fun _ => ?_)) | (refine J.o 10 ?_; first | refine J.ls hΓ ?_ | refine J.ev' hΓ ?_) | (refine J.o 11 ?_; first | refine J.eS ?_ | refine J.xS ?_ | refine J.ev' hΓ ?_ | refine J.nT hΓ ?_) | (refine J.o 12 ?_; refine J.ix hΓ ?_) | (refine J.o 13 ?_; first | refine J.sL hΓ ?_ | refine J.sH hΓ ?_) | (refine J.o 14 ?_; refine J.mf hΓ ?_) | refine J.kn ?_) | ((fail_if_success refine J.wt ?_); refine J.gc rfl rfl (fun hc => ?_) (fun hc => ?_) <;> ((try simp only [decide_eq_true_eq, decide_eq_false_iff_not, beq_iff_eq, beq_eq_false_iff_ne, bne_iff_ne, bne_eq_false_iff_eq, Bool.not_eq_true', Bool.not_eq_false', Bool.not_eq_true, Bool.not_eq_false] at hc) <;> first | (first | (exact absurd rfl hc) | (exfalso; omega) | (exact absurd (hc.symm.trans (by assumption : _ = false)) (by decide)) | (exact absurd (hc.symm.trans (by assumption : _ = true)) (by decide))) | skip))) | (refine J.fn 14 rfl ?_; refine J.call1 eParse rfl rfl (fun w hw => parse_small w) ?_; rintro _ hp ⟨ap, cp, rfl, op⟩) | (refine J.fn 16 rfl ?_; refine J.call1 eSmall rfl rfl (fun w hw => small_any w) ?_; rintro _ hq ⟨aq, cq, rfl, oq⟩) | (refine J.fn 15 rfl ?_; refine J.call0 ePrint rfl rfl (fun w hw => print_small aq cq hq oq.sl w (hw.rdH RdH.hd)) ?_) | (refine J.fn 13 rfl ?_; refine J.call1 eGiven rfl rfl (fun w hw => given_any _ _ smallL _ (by first | assumption | exact OwT.sl (by assumption)) (by decide) w (hw.rdH ((by first | exact RdH.hd | exact RdH.hd.tl | exact RdH.hd.tl.tl | exact RdH.hd.tl.tl.tl | exact RdH.hd.tl.tl.tl.tl | exact RdH.hd.tl.tl.tl.tl.tl | exact RdH.hd.tl.tl.tl.tl.tl.tl | exact RdH.hd.tl.tl.tl.tl.tl.tl.tl | exact RdH.old (fun _ hh => hh) | assumption)))) ?_; rintro _ hg ⟨ag, cg, rfl, og⟩) | (refine J.fn 17 rfl ?_; refine J.call0 eSame rfl rfl (fun w hw => w_same ▸ same_any _ _ _ _ smallL smallL _ _ (by first | assumption | exact OwT.sl (by assumption)) (by first | assumption | exact OwT.sl (by assumption)) w (hw.rdH ((by first | exact RdH.hd | exact RdH.hd.tl | exact RdH.hd.tl.tl | exact RdH.hd.tl.tl.tl | exact RdH.hd.tl.tl.tl.tl | exact RdH.hd.tl.tl.tl.tl.tl | exact RdH.hd.tl.tl.tl.tl.tl.tl | exact RdH.hd.tl.tl.tl.tl.tl.tl.tl | exact RdH.old (fun _ hh => hh) | assumption))) (hw.rdH ((by first | exact RdH.hd | exact RdH.hd.tl | exact RdH.hd.tl.tl | exact RdH.hd.tl.tl.tl | exact RdH.hd.tl.tl.tl.tl | exact RdH.hd.tl.tl.tl.tl.tl | exact RdH.hd.tl.tl.tl.tl.tl.tl | exact RdH.hd.tl.tl.tl.tl.tl.tl.tl | exact RdH.old (fun _ hh => hh) | assumption))) (by decide) (by decide)) ?_) | (refine J.fn 8 rfl ?_; first | refine J.call0 eClassify rfl rfl (fun w hw => classify_small1 _ _ _ op.sl w (hw.rdH ((by first | exact RdH.hd | exact RdH.hd.tl | exact RdH.hd.tl.tl | exact RdH.hd.tl.tl.tl | exact RdH.hd.tl.tl.tl.tl | exact RdH.hd.tl.tl.tl.tl.tl | exact RdH.hd.tl.tl.tl.tl.tl.tl | exact RdH.hd.tl.tl.tl.tl.tl.tl.tl | exact RdH.old (fun _ hh => hh) | assumption)))) ?_ | refine J.call0 eClassify rfl rfl (fun w hw => classify_small3 _ _ _ op.sl w (hw.rdH ((by first | exact RdH.hd | exact RdH.hd.tl | exact RdH.hd.tl.tl | exact RdH.hd.tl.tl.tl | exact RdH.hd.tl.tl.tl.tl | exact RdH.hd.tl.tl.tl.tl.tl | exact RdH.hd.tl.tl.tl.tl.tl.tl | exact RdH.hd.tl.tl.tl.tl.tl.tl.tl | exact RdH.old (fun _ hh => hh) | assumption)))) ?_) | (refine J.fn 18 rfl ?_; refine J.call0 eCheck rfl rfl (fun w hw => check_small1 _ _ _ op.sl w (hw.rdH ((by first | exact RdH.hd | exact RdH.hd.tl | exact RdH.hd.tl.tl | exact RdH.hd.tl.tl.tl | exact RdH.hd.tl.tl.tl.tl | exact RdH.hd.tl.tl.tl.tl.tl | exact RdH.hd.tl.tl.tl.tl.tl.tl | exact RdH.hd.tl.tl.tl.tl.tl.tl.tl | exact RdH.old (fun _ hh => hh) | assumption)))) ?_) | (refine J.fn 9 rfl ?_; refine J.call0 eVote rfl rfl (fun w hw => vote_small _ _ _ hp op.sl w (hw.rdH (RdH.append RdH.hd ((by first | exact RdH.hd | exact RdH.hd.tl | exact RdH.hd.tl.tl | exact RdH.hd.tl.tl.tl | exact RdH.hd.tl.tl.tl.tl | exact RdH.hd.tl.tl.tl.tl.tl | exact RdH.hd.tl.tl.tl.tl.tl.tl | exact RdH.hd.tl.tl.tl.tl.tl.tl.tl | exact RdH.old (fun _ hh => hh) | assumption))))) ?_))
    | (first | refine JC.seq ?_ | refine JC.region ?_ | refine JC.block ?_ | refine JC.ret ?_ | refine JC.exit ?_ | refine JC.skip ?_ | refine thenK.nn ?_ | refine thenK.r ?_ | refine thenK.x ?_ | refine blockK.nn ?_ | refine blockK.r ?_ | refine blockK.hit rfl ?_ | refine blockK.miss rfl ?_ | refine JC.condT rfl ?_ | refine JC.condF rfl ?_ | (refine JC.cond rfl (fun hc => ?_) (fun hc => ?_) <;> ((try simp only [decide_eq_true_eq, decide_eq_false_iff_not, beq_iff_eq, beq_eq_false_iff_ne, bne_iff_ne, bne_eq_false_iff_eq, Bool.not_eq_true', Bool.not_eq_false', Bool.not_eq_true, Bool.not_eq_false] at hc) <;> first | (first | (exact absurd rfl hc) | (exfalso; omega) | (exact absurd (hc.symm.trans (by assumption : _ = false)) (by decide)) | (exact absurd (hc.symm.trans (by assumption : _ = true)) (by decide))) | skip)) | (refine JC.drawA [] (by kernel_rfl) (by kernel_rfl) ?_) | refine drawK.nn ?_ | refine roundK.nn ?_ | refine roundK.r ?_ | refine roundK.x ?_ | refine loopK.r ?_ | refine loopK.x ?_)
    | fail
  all_goals exact ret1f rfl rfl rfl (fun w1 hw => ⟨rfl, hw.below⟩)
end Go.Proofs.YtdiciemlbhkilaaDoor
