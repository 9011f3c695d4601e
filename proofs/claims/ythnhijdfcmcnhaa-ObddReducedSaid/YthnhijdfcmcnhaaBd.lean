/- The store's memory; part, add. -/
import Derived.Test.YthnhijdfcmcnhaaBc
import Derived.Test.YthnhijdfcmcnhaaCxO
namespace Go.Proofs.Ythnhijdfcmcnhaa
open Go Go.Cx Go.RowKit
set_option linter.unusedVariables false
set_option linter.unusedSimpArgs false
set_option maxHeartbeats 4000000
attribute [local irreducible] J JC thenK blockK loopK roundK drawK retK QW Qt pel List.set Calls
open Go.Maps
attribute [local irreducible] JE Br eK0 eK2 eK3 brK
/-- what of a store does not turn -/
structure KS where
  ao : Option Addr
  no : Nat
  co : Nat
  bp : Nat
  bu : Nat
  bi : Nat
def stO (K : KS) (an : Option Addr) (len cn : Nat) : Obj := .cells ⟨[.slice K.ao K.no K.co, .map (some K.bp), .slice an len cn, .map (some K.bu), .map (some K.bi)]⟩ 108 (0, 0)
theorem ePart : Entr Try.prog 83 := Entr.of Try.func83 rfl rfl
theorem eAdd : Entr Try.prog 74 := Entr.of Try.func74 rfl rfl
theorem part_any (K : KS) (b : Nat) (an : Option Addr) (cn : Nat) (ns : List N3) (h : Heap) (hs : SlT enc3 3 an ns h) (hb : (b, stO K an ns.length cn) ∈ h) (a k : Nat) (hi : Bool) (ha : a < ns.length) (w : World) (hw : Holds h w) :
    Calls Try.prog 83 #[.pointer (some ⟨b, 0, none⟩), .int .i64 (a : Int), .int .i64 (k : Int), .bool hi] w fun e w' => e = .returned (.int .i64 (partN ns a k hi : Int)) ∧ Below w.heap.size w w' := by
  have q0 : ∀ L, RdH h L h := fun L => RdH.old fun _ hh => hh
  have rb : ∀ L, Rd h L b (stO K an ns.length cn) := fun L => Rd.old hb
  unfold stO at rb
  have hnd : ns.getD a default = nd ns a := rfl
  cases hi
  all_goals
    refine calls_of_JC (R := h) Try.func83 Try.ntmps83 rfl rfl (hw) ?_
    repeat' first
      | (refine J.isJ ?_; first | (first | (refine J.o 4 ?_; first | refine J.lR hΓ ?_ (hr := rb _) | (refine J.lT default hΓ ?_ (hs := hs) (hr := q0 _)))) | (first | (refine J.o 0 ?_; refine J.ev' hΓ ?_) | refine J.nil ?_ | refine J.kd ?_ | (refine J.o 4 ?_; first | refine J.lT default hΓ ?_ | refine J.lR hΓ ?_) | (refine J.o 3 ?_; first | refine J.iA hΓ ?_ | refine J.iJ hΓ ?_ | refine J.fP hΓ ?_ | refine J.iC hΓ ?_ | refine J.ev' hΓ ?_) | (refine J.o 1 ?_; first | refine J.ad ?_ | refine J.sb ?_ | refine J.ng ?_ | refine J.mu ?_) | (refine J.o 5 ?_; first | refine J.t0 hΓ ?_ | refine J.t1 hΓ ?_ | refine J.t2 hΓ ?_ | refine J.tT _ default hΓ (fun _ _ => ?_) | refine J.tT1 _ default hΓ (fun _ _ => ?_) | refine J.tT2 _ default hΓ (fun _ _ => ?_)) | (refine J.o 6 ?_; refine J.bx (fun _ => ?_)) | (refine J.o 7 ?_; refine J.al hΓ (fun _ => ?_)) | (refine J.o 8 ?_; refine J.bd hΓ ?_) | (refine J.o 9 ?_; refine J.bl hΓ (fun _ => ?_)) | (refine J.o 10 ?_; refine J.ev' hΓ ?_) | (refine J.o 11 ?_; refine J.ev' hΓ ?_) | (refine J.o 14 ?_; refine J.mf hΓ ?_) | refine J.kn ?_) | ((fail_if_success refine J.wt ?_); refine J.gc rfl rfl (fun hc => ?_) (fun hc => ?_) <;> ((try simp only [decide_eq_true_eq, decide_eq_false_iff_not, beq_iff_eq, beq_eq_false_iff_ne, bne_iff_ne, bne_eq_false_iff_eq, Bool.not_eq_true', Bool.not_eq_false', Bool.not_eq_true, Bool.not_eq_false] at hc) <;> first | (first | (exact absurd rfl hc) | (exfalso; omega) | (exact absurd (hc.symm.trans (by assumption : _ = false)) (by decide)) | (exact absurd (hc.symm.trans (by assumption : _ = true)) (by decide))) | skip)))
      | (first | refine JC.seq ?_ | refine JC.region ?_ | refine JC.block ?_ | refine JC.ret ?_ | refine JC.exit ?_ | refine JC.skip ?_ | refine thenK.nn ?_ | refine thenK.r ?_ | refine thenK.x ?_ | refine blockK.nn ?_ | refine blockK.r ?_ | refine blockK.hit rfl ?_ | refine blockK.miss rfl ?_ | refine JC.condT rfl ?_ | refine JC.condF rfl ?_ | (refine JC.cond rfl (fun hc => ?_) (fun hc => ?_) <;> ((try simp only [decide_eq_true_eq, decide_eq_false_iff_not, beq_iff_eq, beq_eq_false_iff_ne, bne_iff_ne, bne_eq_false_iff_eq, Bool.not_eq_true', Bool.not_eq_false', Bool.not_eq_true, Bool.not_eq_false] at hc) <;> first | (first | (exact absurd rfl hc) | (exfalso; omega) | (exact absurd (hc.symm.trans (by assumption : _ = false)) (by decide)) | (exact absurd (hc.symm.trans (by assumption : _ = true)) (by decide))) | skip)) | (refine JC.drawA [] (by kernel_rfl) (by kernel_rfl) ?_) | refine drawK.nn ?_ | refine roundK.nn ?_ | refine roundK.r ?_ | refine roundK.x ?_ | refine loopK.r ?_ | refine loopK.x ?_)
      | ((refine JC.drawN [] [] (by kernel_rfl) (by kernel_rfl) ?_))
      | fail
    all_goals first | (exfalso; omega) | skip
    all_goals (refine ret1f rfl rfl rfl (fun w1 hw => ⟨retI ?_, hw.below⟩))
    all_goals (clear hw; unfold partN; rw [← hnd])
    all_goals first | (rw [if_pos (by omega)]; done) | (rw [if_neg (by omega)]; rfl) | skip
/-- a store: its nodes and its two maps -/
structure SS where
  an : Option Addr
  cn : Nat
  ns : List N3
  hN : Heap
  u : List (N3 × Nat)
  hU : Heap
  m : List (T3 × Nat)
  hM : Heap
structure SOk (n : Nat) (K : KS) (s : SS) : Prop where
  n8 : n ≤ 128
  no : K.no = n
  wf : WF n s.ns
  sm : s.ns.length ≤ 1048576
  ow : OwT enc3 3 101 s.an s.cn s.ns s.hN
  um : MapT Try.prog 101 ek3 evI s.u K.bu s.hU
  uk : UOk s.ns s.u
  mm : MapT Try.prog 166 ekT evI s.m K.bi s.hM
  mo : MOk n s.ns s.m
def sF (K : KS) (b : Nat) (s : SS) : List Heap := [[(b, stO K s.an s.ns.length s.cn)], s.hN, s.hU, s.hM]
theorem mget_mem {κ β : Type} [DecidableEq κ] {m : List (κ × β)} {x : κ} {y : β} (h : mget m x = some y) : (x, y) ∈ m := by
  unfold mget at h
  cases hf : m.find? (fun p => decide (p.1 = x)) with
  | none => rw [hf] at h; cases h
  | some p =>
    rw [hf] at h
    have h1 := List.find?_some hf
    have h2 := List.mem_of_find?_eq_some hf
    obtain ⟨a, b⟩ := p
    injection h with h
    simp only [decide_eq_true_eq] at h1
    subst h1; subst h
    exact h2
theorem mget_out {κ β : Type} [DecidableEq κ] {m : List (κ × β)} {x : κ} (h : mget m x = none) : ∀ y, (x, y) ∉ m := fun y hy => by
  unfold mget at h
  rw [Option.map_eq_none_iff, List.find?_eq_none] at h
  have := h _ hy
  simp at this
theorem mput_new {κ β : Type} [DecidableEq κ] {m : List (κ × β)} {x : κ} (y : β) (h : ∀ y, (x, y) ∉ m) : mput m x y = m ++ [(x, y)] := by
  unfold mput
  rw [if_neg]
  intro hc
  rw [List.contains_iff_mem, List.mem_map] at hc
  obtain ⟨p, hp, rfl⟩ := hc
  exact h p.2 hp
/-- what an operation that adds to a store leaves behind -/
structure Adds (n : Nat) (K : KS) (s s' : SS) (more y : Nat) : Prop where
  ok : SOk n K s'
  ext : Ext s.ns s'.ns
  le : s'.ns.length ≤ s.ns.length + more
  lt : y < s'.ns.length
theorem add_any {n : Nat} {K : KS} {s : SS} (so : SOk n K s) (x : N3) (hp : x.p < n) (hl : x.l < s.ns.length) (hh : x.h < s.ns.length) (hlp : x.p < (nd s.ns x.l).p) (hhp : x.p < (nd s.ns x.h).p) (hfull : s.ns.length < 1048576)
    {w0 w : World} {R : Heap} {L : List Heap} {b : Nat} (hw : H w0 R (sF K b s ++ L) w) :
    Calls Try.prog 74 #[.pointer (some ⟨b, 0, none⟩), ek3 x] w fun e w' => ∃ v L', e = .returned v ∧ H w0 R L' w' ∧ ∃ s' y, v = .int .i64 ((y : Nat) : Int) ∧ L' = sF K b s' ++ L ∧ Adds n K s s' 1 y ∧ ∀ a, fn n s'.ns y a = if a x.p then fn n s'.ns x.h a else fn n s'.ns x.l a := by
  have hkey := k3_key x ⟨by have := so.n8; omega, by omega, by omega⟩
  unfold sF at hw ⊢
  simp only [List.cons_append, List.nil_append] at hw
  by_cases hlh : x.l = x.h
  ·
    refine calls_in Try.func74 Try.ntmps74 rfl rfl (hw) ?_
    unfold stO ek3 enc3
    repeat' first
      | (refine J.isJ ?_; first | (first | (refine J.o 4 ?_; first | refine J.e3 hΓ ?_ | refine J.e4 hΓ ?_)) | (first | (refine J.o 0 ?_; refine J.ev' hΓ ?_) | refine J.nil ?_ | refine J.kd ?_ | (refine J.o 4 ?_; first | refine J.lT default hΓ ?_ | refine J.lR hΓ ?_) | (refine J.o 3 ?_; first | refine J.iA hΓ ?_ | refine J.iJ hΓ ?_ | refine J.fP hΓ ?_ | refine J.iC hΓ ?_ | refine J.ev' hΓ ?_) | (refine J.o 1 ?_; first | refine J.ad ?_ | refine J.sb ?_ | refine J.ng ?_ | refine J.mu ?_) | (refine J.o 5 ?_; first | refine J.t0 hΓ ?_ | refine J.t1 hΓ ?_ | refine J.t2 hΓ ?_ | refine J.tT _ default hΓ (fun _ _ => ?_) | refine J.tT1 _ default hΓ (fun _ _ => ?_) | refine J.tT2 _ default hΓ (fun _ _ => ?_)) | (refine J.o 6 ?_; refine J.bx (fun _ => ?_)) | (refine J.o 7 ?_; refine J.al hΓ (fun _ => ?_)) | (refine J.o 8 ?_; refine J.bd hΓ ?_) | (refine J.o 9 ?_; refine J.bl hΓ (fun _ => ?_)) | (refine J.o 10 ?_; refine J.ev' hΓ ?_) | (refine J.o 11 ?_; refine J.ev' hΓ ?_) | (refine J.o 14 ?_; refine J.mf hΓ ?_) | refine J.kn ?_) | ((fail_if_success refine J.wt ?_); refine J.gc rfl rfl (fun hc => ?_) (fun hc => ?_) <;> ((try simp only [decide_eq_true_eq, decide_eq_false_iff_not, beq_iff_eq, beq_eq_false_iff_ne, bne_iff_ne, bne_eq_false_iff_eq, Bool.not_eq_true', Bool.not_eq_false', Bool.not_eq_true, Bool.not_eq_false] at hc) <;> first | (first | (exact absurd rfl hc) | (exfalso; omega) | (exact absurd (hc.symm.trans (by assumption : _ = false)) (by decide)) | (exact absurd (hc.symm.trans (by assumption : _ = true)) (by decide))) | skip)))
      | (first | refine JC.seq ?_ | refine JC.region ?_ | refine JC.block ?_ | refine JC.ret ?_ | refine JC.exit ?_ | refine JC.skip ?_ | refine thenK.nn ?_ | refine thenK.r ?_ | refine thenK.x ?_ | refine blockK.nn ?_ | refine blockK.r ?_ | refine blockK.hit rfl ?_ | refine blockK.miss rfl ?_ | refine JC.condT rfl ?_ | refine JC.condF rfl ?_ | (refine JC.cond rfl (fun hc => ?_) (fun hc => ?_) <;> ((try simp only [decide_eq_true_eq, decide_eq_false_iff_not, beq_iff_eq, beq_eq_false_iff_ne, bne_iff_ne, bne_eq_false_iff_eq, Bool.not_eq_true', Bool.not_eq_false', Bool.not_eq_true, Bool.not_eq_false] at hc) <;> first | (first | (exact absurd rfl hc) | (exfalso; omega) | (exact absurd (hc.symm.trans (by assumption : _ = false)) (by decide)) | (exact absurd (hc.symm.trans (by assumption : _ = true)) (by decide))) | skip)) | (refine JC.drawA [] (by kernel_rfl) (by kernel_rfl) ?_) | refine drawK.nn ?_ | refine roundK.nn ?_ | refine roundK.r ?_ | refine roundK.x ?_ | refine loopK.r ?_ | refine loopK.x ?_)
      | (fail)
      | fail
    all_goals first | (exfalso; omega) | skip
    all_goals (refine ret1f rfl rfl rfl (fun w1 hw => ⟨_, _, rfl, hw.drop, s, x.l, rfl, rfl, ⟨so, Ext.refl _, by omega, hl⟩, fun a => by rw [← hlh]; split <;> rfl⟩))
  have hne : ¬ ((x.l : Int) = (x.h : Int)) := by omega
  cases hget : mget s.u x with
  | some i =>
    obtain ⟨h2, hi, hx⟩ := so.uk.only x i (mget_mem hget)
    have um := so.um
    refine calls_in Try.func74 Try.ntmps74 rfl rfl (hw) ?_
    unfold stO ek3 enc3
    repeat' first
      | (refine J.isJ ?_; first | (first | (refine J.o 4 ?_; first | refine J.e3 hΓ ?_ | refine J.e4 hΓ ?_) | (refine J.o 9 ?_; refine J.lk (a := x) k3 ek3_inj um (by first | exact RdH.hd | exact RdH.hd.tl | exact RdH.hd.tl.tl | exact RdH.hd.tl.tl.tl | exact RdH.hd.tl.tl.tl.tl | exact RdH.hd.tl.tl.tl.tl.tl | exact RdH.hd.tl.tl.tl.tl.tl.tl | exact RdH.hd.tl.tl.tl.tl.tl.tl.tl | exact RdH.old (fun _ hh => hh) | assumption) hkey hΓ ?_; rw [hget])) | (first | (refine J.o 0 ?_; refine J.ev' hΓ ?_) | refine J.nil ?_ | refine J.kd ?_ | (refine J.o 4 ?_; first | refine J.lT default hΓ ?_ | refine J.lR hΓ ?_) | (refine J.o 3 ?_; first | refine J.iA hΓ ?_ | refine J.iJ hΓ ?_ | refine J.fP hΓ ?_ | refine J.iC hΓ ?_ | refine J.ev' hΓ ?_) | (refine J.o 1 ?_; first | refine J.ad ?_ | refine J.sb ?_ | refine J.ng ?_ | refine J.mu ?_) | (refine J.o 5 ?_; first | refine J.t0 hΓ ?_ | refine J.t1 hΓ ?_ | refine J.t2 hΓ ?_ | refine J.tT _ default hΓ (fun _ _ => ?_) | refine J.tT1 _ default hΓ (fun _ _ => ?_) | refine J.tT2 _ default hΓ (fun _ _ => ?_)) | (refine J.o 6 ?_; refine J.bx (fun _ => ?_)) | (refine J.o 7 ?_; refine J.al hΓ (fun _ => ?_)) | (refine J.o 8 ?_; refine J.bd hΓ ?_) | (refine J.o 9 ?_; refine J.bl hΓ (fun _ => ?_)) | (refine J.o 10 ?_; refine J.ev' hΓ ?_) | (refine J.o 11 ?_; refine J.ev' hΓ ?_) | (refine J.o 14 ?_; refine J.mf hΓ ?_) | refine J.kn ?_) | ((fail_if_success refine J.wt ?_); refine J.gc rfl rfl (fun hc => ?_) (fun hc => ?_) <;> ((try simp only [decide_eq_true_eq, decide_eq_false_iff_not, beq_iff_eq, beq_eq_false_iff_ne, bne_iff_ne, bne_eq_false_iff_eq, Bool.not_eq_true', Bool.not_eq_false', Bool.not_eq_true, Bool.not_eq_false] at hc) <;> first | (first | (exact absurd rfl hc) | (exfalso; omega) | (exact absurd (hc.symm.trans (by assumption : _ = false)) (by decide)) | (exact absurd (hc.symm.trans (by assumption : _ = true)) (by decide))) | skip)))
      | (first | refine JC.seq ?_ | refine JC.region ?_ | refine JC.block ?_ | refine JC.ret ?_ | refine JC.exit ?_ | refine JC.skip ?_ | refine thenK.nn ?_ | refine thenK.r ?_ | refine thenK.x ?_ | refine blockK.nn ?_ | refine blockK.r ?_ | refine blockK.hit rfl ?_ | refine blockK.miss rfl ?_ | refine JC.condT rfl ?_ | refine JC.condF rfl ?_ | (refine JC.cond rfl (fun hc => ?_) (fun hc => ?_) <;> ((try simp only [decide_eq_true_eq, decide_eq_false_iff_not, beq_iff_eq, beq_eq_false_iff_ne, bne_iff_ne, bne_eq_false_iff_eq, Bool.not_eq_true', Bool.not_eq_false', Bool.not_eq_true, Bool.not_eq_false] at hc) <;> first | (first | (exact absurd rfl hc) | (exfalso; omega) | (exact absurd (hc.symm.trans (by assumption : _ = false)) (by decide)) | (exact absurd (hc.symm.trans (by assumption : _ = true)) (by decide))) | skip)) | refine drawK.nn ?_ | refine roundK.nn ?_ | refine roundK.r ?_ | refine roundK.x ?_ | refine loopK.r ?_ | refine loopK.x ?_)
      | ((refine JC.drawO [(0,0),(0,1),(0,2),(1,3),(1,4),(1,5),(0,6),(0,7),(0,8),(0,9),(0,10)] (by kernel_rfl) (by kernel_rfl) ?_))
      | fail
    all_goals first | (exfalso; omega) | skip
    all_goals (refine ret1f rfl rfl rfl (fun w1 hw => ⟨_, _, rfl, hw.drop, s, i, rfl, rfl, ⟨so, Ext.refl _, by omega, hi⟩, fun a => by rw [fn_node so.wf a h2 hi, hx]⟩))
  | none =>
    have um := so.um
    have ow := so.ow
    have hout := mget_out hget
    have hl2 : (s.ns ++ [x]).length = s.ns.length + 1 := by simp
    have vq : Value.int .i64 (((s.ns.length + 1 : Nat) : Int) - 1) = evI s.ns.length := congrArg (Value.int .i64) (by omega)
    refine calls_in Try.func74 Try.ntmps74 rfl rfl (hw) ?_
    unfold stO ek3 enc3
    repeat' first
      | (refine J.isJ ?_; first | (first | (refine J.o 4 ?_; first | refine J.e3 hΓ ?_ | refine J.e4 hΓ ?_) | (refine J.o 9 ?_; refine J.lk (a := x) k3 ek3_inj um (by first | exact RdH.hd | exact RdH.hd.tl | exact RdH.hd.tl.tl | exact RdH.hd.tl.tl.tl | exact RdH.hd.tl.tl.tl.tl | exact RdH.hd.tl.tl.tl.tl.tl | exact RdH.hd.tl.tl.tl.tl.tl.tl | exact RdH.hd.tl.tl.tl.tl.tl.tl.tl | exact RdH.old (fun _ hh => hh) | assumption) hkey hΓ ?_; rw [hget]) | ((refine J.o 9 ?_; first | (first | (refine J.ap1 (enc := enc3) [x] hΓ (fun a2 c2 h2 o2 => ?_)) | (refine J.perm (br1.cons _) ?_; refine J.ap1 (enc := enc3) [x] hΓ (fun a2 c2 h2 o2 => ?_)) | (refine J.perm (br2.cons _) ?_; refine J.ap1 (enc := enc3) [x] hΓ (fun a2 c2 h2 o2 => ?_)) | (refine J.perm (br3.cons _) ?_; refine J.ap1 (enc := enc3) [x] hΓ (fun a2 c2 h2 o2 => ?_)) | (refine J.perm (br4.cons _) ?_; refine J.ap1 (enc := enc3) [x] hΓ (fun a2 c2 h2 o2 => ?_)) | (refine J.perm (br5.cons _) ?_; refine J.ap1 (enc := enc3) [x] hΓ (fun a2 c2 h2 o2 => ?_))) | (refine J.perm br1 ?_; first | (refine J.ap1 (enc := enc3) [x] hΓ (fun a2 c2 h2 o2 => ?_)) | (refine J.perm (br1.cons _) ?_; refine J.ap1 (enc := enc3) [x] hΓ (fun a2 c2 h2 o2 => ?_)) | (refine J.perm (br2.cons _) ?_; refine J.ap1 (enc := enc3) [x] hΓ (fun a2 c2 h2 o2 => ?_)) | (refine J.perm (br3.cons _) ?_; refine J.ap1 (enc := enc3) [x] hΓ (fun a2 c2 h2 o2 => ?_)) | (refine J.perm (br4.cons _) ?_; refine J.ap1 (enc := enc3) [x] hΓ (fun a2 c2 h2 o2 => ?_)) | (refine J.perm (br5.cons _) ?_; refine J.ap1 (enc := enc3) [x] hΓ (fun a2 c2 h2 o2 => ?_))) | (refine J.perm br2 ?_; first | (refine J.ap1 (enc := enc3) [x] hΓ (fun a2 c2 h2 o2 => ?_)) | (refine J.perm (br1.cons _) ?_; refine J.ap1 (enc := enc3) [x] hΓ (fun a2 c2 h2 o2 => ?_)) | (refine J.perm (br2.cons _) ?_; refine J.ap1 (enc := enc3) [x] hΓ (fun a2 c2 h2 o2 => ?_)) | (refine J.perm (br3.cons _) ?_; refine J.ap1 (enc := enc3) [x] hΓ (fun a2 c2 h2 o2 => ?_)) | (refine J.perm (br4.cons _) ?_; refine J.ap1 (enc := enc3) [x] hΓ (fun a2 c2 h2 o2 => ?_)) | (refine J.perm (br5.cons _) ?_; refine J.ap1 (enc := enc3) [x] hΓ (fun a2 c2 h2 o2 => ?_)))); rw [hl2]) | (refine J.o 5 ?_; first | (refine J.perm br3 ?_; refine J.t0 hΓ ?_) | (refine J.perm br4 ?_; refine J.t0 hΓ ?_) | (refine J.perm br5 ?_; refine J.t0 hΓ ?_) | (refine J.perm br6 ?_; refine J.t0 hΓ ?_) | (refine J.perm br7 ?_; refine J.t0 hΓ ?_)) | (refine J.o 9 ?_; refine J.perm br3 ?_; refine J.mup (a := x) (ev := evI) s.ns.length k3 ek3_inj um hkey hΓ (fun h3 mt3 => ?_) (hv := vq))) | (first | (refine J.o 0 ?_; refine J.ev' hΓ ?_) | refine J.nil ?_ | refine J.kd ?_ | (refine J.o 4 ?_; first | refine J.lT default hΓ ?_ | refine J.lR hΓ ?_) | (refine J.o 3 ?_; first | refine J.iA hΓ ?_ | refine J.iJ hΓ ?_ | refine J.fP hΓ ?_ | refine J.iC hΓ ?_ | refine J.ev' hΓ ?_) | (refine J.o 1 ?_; first | refine J.ad ?_ | refine J.sb ?_ | refine J.ng ?_ | refine J.mu ?_) | (refine J.o 5 ?_; first | refine J.t0 hΓ ?_ | refine J.t1 hΓ ?_ | refine J.t2 hΓ ?_ | refine J.tT _ default hΓ (fun _ _ => ?_) | refine J.tT1 _ default hΓ (fun _ _ => ?_) | refine J.tT2 _ default hΓ (fun _ _ => ?_)) | (refine J.o 6 ?_; refine J.bx (fun _ => ?_)) | (refine J.o 7 ?_; refine J.al hΓ (fun _ => ?_)) | (refine J.o 8 ?_; refine J.bd hΓ ?_) | (refine J.o 9 ?_; refine J.bl hΓ (fun _ => ?_)) | (refine J.o 10 ?_; refine J.ev' hΓ ?_) | (refine J.o 11 ?_; refine J.ev' hΓ ?_) | (refine J.o 14 ?_; refine J.mf hΓ ?_) | refine J.kn ?_) | ((fail_if_success refine J.wt ?_); refine J.gc rfl rfl (fun hc => ?_) (fun hc => ?_) <;> ((try simp only [decide_eq_true_eq, decide_eq_false_iff_not, beq_iff_eq, beq_eq_false_iff_ne, bne_iff_ne, bne_eq_false_iff_eq, Bool.not_eq_true', Bool.not_eq_false', Bool.not_eq_true, Bool.not_eq_false] at hc) <;> first | (first | (exact absurd rfl hc) | (exfalso; omega) | (exact absurd (hc.symm.trans (by assumption : _ = false)) (by decide)) | (exact absurd (hc.symm.trans (by assumption : _ = true)) (by decide))) | skip)))
      | (first | refine JC.seq ?_ | refine JC.region ?_ | refine JC.block ?_ | refine JC.ret ?_ | refine JC.exit ?_ | refine JC.skip ?_ | refine thenK.nn ?_ | refine thenK.r ?_ | refine thenK.x ?_ | refine blockK.nn ?_ | refine blockK.r ?_ | refine blockK.hit rfl ?_ | refine blockK.miss rfl ?_ | refine JC.condT rfl ?_ | refine JC.condF rfl ?_ | (refine JC.cond rfl (fun hc => ?_) (fun hc => ?_) <;> ((try simp only [decide_eq_true_eq, decide_eq_false_iff_not, beq_iff_eq, beq_eq_false_iff_ne, bne_iff_ne, bne_eq_false_iff_eq, Bool.not_eq_true', Bool.not_eq_false', Bool.not_eq_true, Bool.not_eq_false] at hc) <;> first | (first | (exact absurd rfl hc) | (exfalso; omega) | (exact absurd (hc.symm.trans (by assumption : _ = false)) (by decide)) | (exact absurd (hc.symm.trans (by assumption : _ = true)) (by decide))) | skip)) | refine drawK.nn ?_ | refine roundK.nn ?_ | refine roundK.r ?_ | refine roundK.x ?_ | refine loopK.r ?_ | refine loopK.x ?_)
      | ((first | refine JC.drawO [(0,0),(0,1),(0,2),(0,3),(1,4),(1,5),(3,6),(2,7),(0,8),(0,9),(2,10)] (by decide +kernel) (by decide +kernel) ?_ | refine JC.drawO [(0,0),(0,1),(0,2),(1,3),(1,4),(0,5),(0,6),(0,7),(1,8),(0,9),(0,10),(2,11)] (by decide +kernel) (by decide +kernel) ?_ | refine JC.drawO [(0,0),(0,1),(0,2),(1,3),(1,4),(1,5),(0,6),(0,7),(0,8),(0,9),(0,10)] (by decide +kernel) (by decide +kernel) ?_))
      | fail
    all_goals first | (exfalso; omega) | skip
    have hwf := so.wf.add hp hl hh hlp hhp (fun e => hlh e) (fun i h2 hi he => hout i (he ▸ so.uk.all i h2 hi))
    have hext := Ext.app s.ns x
    all_goals (refine ret1f rfl rfl rfl (fun w1 hw => ⟨_, _, rfl, H.sel (l := [_, _, _, _, _]) (M := L) hw [3, 1, 0, 4], ⟨a2, c2, s.ns ++ [x], h2, s.u ++ [(x, s.ns.length)], h3, s.m, s.hM⟩, s.ns.length, vq, ?_, ⟨⟨so.n8, so.no, hwf, by show (s.ns ++ [x]).length ≤ _; omega, o2, mput_new (s.ns.length) hout ▸ mt3, ?_, so.mm, so.mo.ext so.wf hext⟩, hext, by show (s.ns ++ [x]).length ≤ _; omega, by show _ < (s.ns ++ [x]).length; omega⟩, fun a => ?_⟩))
    · simp only [hl2]; rfl
    · show UOk (s.ns ++ [x]) (s.u ++ [(x, s.ns.length)])
      refine ⟨fun i h2 hi => ?_, fun y i hy => ?_⟩
      · rcases Nat.lt_or_ge i s.ns.length with h | h
        · rw [nd_app s.ns x h]; exact List.mem_append_left _ (so.uk.all i h2 h)
        · obtain rfl : i = s.ns.length := by omega
          rw [nd_last]; exact List.mem_append_right _ List.mem_cons_self
      · rcases List.mem_append.1 hy with hy | hy
        · obtain ⟨h1, h2, h3⟩ := so.uk.only y i hy
          exact ⟨h1, by omega, by rw [nd_app s.ns x h2, h3]⟩
        · obtain ⟨rfl, rfl⟩ := Prod.mk.inj (List.mem_singleton.1 hy)
          exact ⟨so.wf.two, by omega, nd_last _ _⟩
    · have := fn_node hwf a (i := s.ns.length) so.wf.two (by omega)
      rw [nd_last] at this
      exact this
end Go.Proofs.Ythnhijdfcmcnhaa
