/- ObddNets: part 8. -/
import Derived.Test.YtbhgahjeocnfcaaNtG
namespace Go.Proofs.Ytbhgahjeocnfcaa
open Go Go.Cx Go.RowKit
set_option linter.unusedVariables false
set_option linter.unusedSimpArgs false
set_option maxHeartbeats 4000000
attribute [local irreducible] J JC thenK blockK loopK drawK retK QW Qt pel List.set Calls
open Go.Maps Go.Lib
set_option maxRecDepth 8000
attribute [local irreducible] JE Br eK0 eK2 eK3 brK pc
abbrev PN := Int × Int × List Int
structure NV where
  kind : Int
  lit : Int
  a : Option Addr
  c : Nat
  l : List Int
instance : Inhabited NV := ⟨⟨0, 0, none, 0, []⟩⟩
def encNV (v : NV) : List Value := [.int .i64 v.kind, .int .i64 v.lit, .slice v.a v.l.length v.c]
def pnV (v : NV) : PN := (v.kind, v.lit, v.l)
def idxB (p : Int → Bool) : List Int → Int → Int
  | [], _ => -1
  | x :: l, k => if p x = true then k else idxB p l (k + 1)
theorem idxB_nn (p : Int → Bool) : ∀ (l : List Int) (k : Int), 0 ≤ k → decide (0 ≤ idxB p l k) = l.any p
  | [], k, _ => rfl
  | y :: l, k, h => by
    rw [idxB, List.any_cons]
    cases hy : p y with
    | true => rw [if_pos rfl]; simp [h]
    | false => rw [if_neg (by decide), idxB_nn p l (k + 1) (by omega)]; rfl
theorem idxG_any {fid : FuncId} (E : Entr Try.prog fid) (cp : List Value) (p : Int → Bool) (a : Option Addr) (cap : Nat) (l : List Int) (h hh : Heap) (hs : SlT encI 1 a l h) (hsub : ∀ x, x ∈ h → x ∈ hh) (hl : l.length ≤ 1000000) (hc : ∀ x, x ∈ l → ∀ w, Holds hh w → Calls Try.prog fid ⟨.int .i64 x :: cp⟩ w fun e w' => e = .returned (.bool (p x)) ∧ Below w.heap.size w w') (w : World) (hw : Holds hh w) :
    Calls Try.prog 140 #[.slice a l.length cap, .func (.func fid) ⟨[]⟩ ⟨cp⟩] w fun e w' => e = .returned (.int .i64 (idxB p l 0)) ∧ Below w.heap.size w w' := by
  have q0 : ∀ L, RdH hh L h := fun L => RdH.old hsub
  have qb : ∀ L, RdH hh L hh := fun L => RdH.old fun x hx => hx
  refine calls_of_JC (R := hh) Try.func140 Try.ntmps140 rfl rfl (hw) ?_
  repeat' first
    | (refine J.isJ ?_; (first | (first | (refine J.o 0 ?_; refine J.ev' hΓ ?_) | refine J.nil ?_ | (refine J.o 4 ?_; first | refine J.lT default hΓ ?_) | (refine J.o 3 ?_; first | refine J.iJ hΓ ?_ | refine J.ev' hΓ ?_) | (refine J.o 1 ?_; first | refine J.ad ?_) | (refine J.o 10 ?_; refine J.ev' hΓ ?_) | (refine J.o 11 ?_; refine J.ev' hΓ ?_))))
    | (first | refine JC.seq ?_ | refine JC.region ?_ | refine JC.block ?_ | refine JC.ret ?_ | refine JC.exit ?_ | refine JC.skip ?_ | refine thenK.nn ?_ | refine thenK.r ?_ | refine thenK.x ?_ | refine blockK.nn ?_ | refine blockK.r ?_ | refine blockK.hit rfl ?_ | refine JC.condT rfl ?_ | refine JC.condF rfl ?_ | (refine JC.cond rfl (fun hc => ?_) (fun hc => ?_) <;> ((try simp only [decide_eq_true_eq, decide_eq_false_iff_not, beq_iff_eq, beq_eq_false_iff_ne, bne_iff_ne, bne_eq_false_iff_eq, Bool.not_eq_true', Bool.not_eq_false', Bool.not_eq_true, Bool.not_eq_false] at hc) <;> first | (first | (exact absurd rfl hc) | (exfalso; omega) | (exact absurd (hc.symm.trans (by assumption : _ = false)) (by decide)) | (exact absurd (hc.symm.trans (by assumption : _ = true)) (by decide))) | skip)) | refine loopK.r ?_ | refine loopK.x ?_)
    | fail
  all_goals first | (exfalso; omega) | skip
  refine JC.loop (fun i => i == 4 || i == 5 || Nat.ble 8 i) (fun m g L => ∃ (k : Nat), g 8 = .int .i64 (k : Int) ∧ k + m = l.length ∧ idxB p l 0 = idxB p (l.drop k) k ∧ L = _) l.length ⟨0, rfl, by omega, rfl, rfl⟩ ?_
  rintro m g L ⟨k, e8, hkm, hi, rfl⟩
  refine JC.pin 8 e8 ?_
  clear e8
  rcases Nat.lt_or_ge k l.length with hk | hk
  case inr =>
    rw [List.drop_eq_nil_of_le hk] at hi
    repeat' first
      | (refine J.isJ ?_; (first | (first | (refine J.o 0 ?_; refine J.ev' hΓ ?_) | refine J.nil ?_ | (refine J.o 4 ?_; first | refine J.lT default hΓ ?_) | (refine J.o 3 ?_; first | refine J.iJ hΓ ?_ | refine J.ev' hΓ ?_) | (refine J.o 1 ?_; first | refine J.ad ?_) | (refine J.o 10 ?_; refine J.ev' hΓ ?_) | (refine J.o 11 ?_; refine J.ev' hΓ ?_))))
      | (first | refine JC.seq ?_ | refine JC.region ?_ | refine JC.block ?_ | refine JC.ret ?_ | refine JC.exit ?_ | refine JC.skip ?_ | refine thenK.nn ?_ | refine thenK.r ?_ | refine thenK.x ?_ | refine blockK.nn ?_ | refine blockK.r ?_ | refine blockK.hit rfl ?_ | refine JC.condT rfl ?_ | refine JC.condF rfl ?_ | (refine JC.cond rfl (fun hc => ?_) (fun hc => ?_) <;> ((try simp only [decide_eq_true_eq, decide_eq_false_iff_not, beq_iff_eq, beq_eq_false_iff_ne, bne_iff_ne, bne_eq_false_iff_eq, Bool.not_eq_true', Bool.not_eq_false', Bool.not_eq_true, Bool.not_eq_false] at hc) <;> first | (first | (exact absurd rfl hc) | (exfalso; omega) | (exact absurd (hc.symm.trans (by assumption : _ = false)) (by decide)) | (exact absurd (hc.symm.trans (by assumption : _ = true)) (by decide))) | skip)) | refine loopK.r ?_ | refine loopK.x ?_)
      | fail
    all_goals first | (exfalso; omega) | exact ret1f rfl rfl rfl (fun w1 hw => ⟨retI hi.symm, hw.below⟩)
  have cA := fun w hw => hc _ (mem_g l k hk) w hw
  rw [drop_g l k hk, idxB] at hi
  cases hb : p (l.getD k default) with
  | true =>
    rw [hb] at cA
    rw [if_pos hb] at hi
    repeat' first
      | (refine J.isJ ?_; first | (first | (refine J.o 4 ?_; refine J.lT default hΓ ?_ (hs := hs) (hr := q0 _)) | (refine J.o 9 ?_; refine J.callv0 E rfl rfl rfl (fun w hw => cA w (hw.rdH (qb _))) ?_)) | (first | (refine J.o 0 ?_; refine J.ev' hΓ ?_) | refine J.nil ?_ | (refine J.o 4 ?_; first | refine J.lT default hΓ ?_) | (refine J.o 3 ?_; first | refine J.iJ hΓ ?_ | refine J.ev' hΓ ?_) | (refine J.o 1 ?_; first | refine J.ad ?_) | (refine J.o 10 ?_; refine J.ev' hΓ ?_) | (refine J.o 11 ?_; refine J.ev' hΓ ?_)))
      | (first | refine JC.seq ?_ | refine JC.region ?_ | refine JC.block ?_ | refine JC.ret ?_ | refine JC.exit ?_ | refine JC.skip ?_ | refine thenK.nn ?_ | refine thenK.r ?_ | refine thenK.x ?_ | refine blockK.nn ?_ | refine blockK.r ?_ | refine blockK.hit rfl ?_ | refine JC.condT rfl ?_ | refine JC.condF rfl ?_ | (refine JC.cond rfl (fun hc => ?_) (fun hc => ?_) <;> ((try simp only [decide_eq_true_eq, decide_eq_false_iff_not, beq_iff_eq, beq_eq_false_iff_ne, bne_iff_ne, bne_eq_false_iff_eq, Bool.not_eq_true', Bool.not_eq_false', Bool.not_eq_true, Bool.not_eq_false] at hc) <;> first | (first | (exact absurd rfl hc) | (exfalso; omega) | (exact absurd (hc.symm.trans (by assumption : _ = false)) (by decide)) | (exact absurd (hc.symm.trans (by assumption : _ = true)) (by decide))) | skip)) | refine loopK.r ?_ | refine loopK.x ?_)
      | (fail)
      | fail
    all_goals first | (exfalso; omega) | exact ret1f rfl rfl rfl (fun w1 hw => ⟨retI hi.symm, hw.below⟩)
  | false =>
    rw [hb] at cA
    rw [if_neg (by rw [hb]; decide)] at hi
    repeat' first
      | (refine J.isJ ?_; first | (first | (refine J.o 4 ?_; refine J.lT default hΓ ?_ (hs := hs) (hr := q0 _)) | (refine J.o 9 ?_; refine J.callv0 E rfl rfl rfl (fun w hw => cA w (hw.rdH (qb _))) ?_)) | (first | (refine J.o 0 ?_; refine J.ev' hΓ ?_) | refine J.nil ?_ | (refine J.o 4 ?_; first | refine J.lT default hΓ ?_) | (refine J.o 3 ?_; first | refine J.iJ hΓ ?_ | refine J.ev' hΓ ?_) | (refine J.o 1 ?_; first | refine J.ad ?_) | (refine J.o 10 ?_; refine J.ev' hΓ ?_) | (refine J.o 11 ?_; refine J.ev' hΓ ?_)))
      | (first | refine JC.seq ?_ | refine JC.region ?_ | refine JC.block ?_ | refine JC.ret ?_ | refine JC.exit ?_ | refine JC.skip ?_ | refine thenK.nn ?_ | refine thenK.r ?_ | refine thenK.x ?_ | refine blockK.nn ?_ | refine blockK.r ?_ | refine blockK.hit rfl ?_ | refine JC.condT rfl ?_ | refine JC.condF rfl ?_ | (refine JC.cond rfl (fun hc => ?_) (fun hc => ?_) <;> ((try simp only [decide_eq_true_eq, decide_eq_false_iff_not, beq_iff_eq, beq_eq_false_iff_ne, bne_iff_ne, bne_eq_false_iff_eq, Bool.not_eq_true', Bool.not_eq_false', Bool.not_eq_true, Bool.not_eq_false] at hc) <;> first | (first | (exact absurd rfl hc) | (exfalso; omega) | (exact absurd (hc.symm.trans (by assumption : _ = false)) (by decide)) | (exact absurd (hc.symm.trans (by assumption : _ = true)) (by decide))) | skip)) | refine loopK.r ?_ | refine loopK.x ?_)
      | (fail)
      | fail
    all_goals first | (exfalso; omega) | skip
    all_goals refine loopK.nn (m - 1) (by omega) (by repeat (first | refine Ag.upd rfl ?_ | exact Ag.hv)) ⟨k + 1, ?_, by omega, hi, rfl⟩
    all_goals (show Value.int .i64 _ = _; congr 1)
theorem conG_any {fid : FuncId} (E : Entr Try.prog fid) (cp : List Value) (p : Int → Bool) (a : Option Addr) (cap : Nat) (l : List Int) (h hh : Heap) (hs : SlT encI 1 a l h) (hsub : ∀ x, x ∈ h → x ∈ hh) (hl : l.length ≤ 1000000) (hc : ∀ x, x ∈ l → ∀ w, Holds hh w → Calls Try.prog fid ⟨.int .i64 x :: cp⟩ w fun e w' => e = .returned (.bool (p x)) ∧ Below w.heap.size w w') (w : World) (hw : Holds hh w) :
    Calls Try.prog 105 #[.slice a l.length cap, .func (.func fid) ⟨[]⟩ ⟨cp⟩] w fun e w' => e = .returned (.bool (l.any p)) ∧ Below w.heap.size w w' := by
  have hn := idxB_nn p l 0 (by omega)
  refine calls_of_JC (R := hh) Try.func105 Try.ntmps105 rfl rfl (hw) ?_
  repeat' first
    | (refine J.isJ ?_; first | (first | (refine J.o 0 ?_; refine J.ev' hΓ ?_) | refine J.nil ?_ | (refine J.o 3 ?_; first | refine J.ev' hΓ ?_) | (refine J.o 10 ?_; refine J.ev' hΓ ?_) | (refine J.o 11 ?_; refine J.ev' hΓ ?_)) | ((refine J.fc 140 ?_; refine J.call0 eIdxF rfl rfl (fun w hw => idxG_any E cp p a cap l h hh hs hsub hl hc w (hw.rdH (RdH.old fun _ hh => hh))) ?_)))
    | (first | refine JC.seq ?_ | refine JC.region ?_ | refine JC.ret ?_ | refine thenK.nn ?_)
    | fail
  all_goals first | (exfalso; omega) | exact ret1f rfl rfl rfl (fun w1 hw => ⟨retB hn, hw.below⟩)
theorem rdc {R : Heap} {L : List Heap} {n1 : Nat} {o : Obj} {g : Heap} (r1 : Rd R L n1 o) (rg : RdH R L g) : RdH R L ((n1, o) :: g) := fun x hx => by
  rcases List.mem_cons.1 hx with rfl | hx
  · exact r1
  · exact rg x hx
def badI (bf i : Int) : Bool := decide (i < 0) || decide (bf ≤ i)
def formedP (x : PN) (n bf : Int) : Bool := !(x.2.2.any (badI bf)) &&
  (if x.1 = 0 ∨ x.1 = 1 then decide (x.2.1 = 0) && decide (x.2.2.length = 0) else if x.1 = 2 then validB x.2.1 n && decide (x.2.2.length = 0) else if x.1 = 3 ∨ x.1 = 4 then decide (x.2.1 = 0) else false)
def intN (i : Int) : Obj := .cells ⟨[.int .i64 i]⟩ 3 (0, 0)
theorem eForm1 : Entr Try.prog 138 := Entr.of Try.func138 rfl rfl
theorem eForm : Entr Try.prog 98 := Entr.of Try.func98 rfl rfl
theorem form1_any (bf i : Int) (b : Nat) (w : World) (hw : Holds [(b, intN bf)] w) :
    Calls Try.prog 138 #[.int .i64 i, .pointer (some ⟨b, 0, none⟩)] w fun e w' => e = .returned (.bool (badI bf i)) ∧ Below w.heap.size w w' := by
  have rb : ∀ L, Rd [(b, intN bf)] L b (intN bf) := fun L => Rd.old List.mem_cons_self
  unfold intN at rb
  refine calls_of_JC (R := [(b, intN bf)]) Try.func138 Try.ntmps138 rfl rfl (hw) ?_
  repeat' first
    | (refine J.isJ ?_; first | (first | (refine J.o 4 ?_; refine J.lR hΓ ?_ (hr := rb _))) | (first | (refine J.o 0 ?_; refine J.ev' hΓ ?_) | refine J.nil ?_ | refine J.kd ?_ | (refine J.o 4 ?_; first | refine J.lR hΓ ?_) | (refine J.o 3 ?_; first | refine J.ev' hΓ ?_) | (refine J.o 10 ?_; refine J.ev' hΓ ?_) | (refine J.o 11 ?_; refine J.ev' hΓ ?_)) | ((fail_if_success refine J.wt ?_); refine J.gc rfl rfl (fun hc => ?_) (fun hc => ?_) <;> ((try simp only [decide_eq_true_eq, decide_eq_false_iff_not, beq_iff_eq, beq_eq_false_iff_ne, bne_iff_ne, bne_eq_false_iff_eq, Bool.not_eq_true', Bool.not_eq_false', Bool.not_eq_true, Bool.not_eq_false] at hc) <;> first | (first | (exact absurd rfl hc) | (exfalso; omega) | (exact absurd (hc.symm.trans (by assumption : _ = false)) (by decide)) | (exact absurd (hc.symm.trans (by assumption : _ = true)) (by decide))) | skip)))
    | (first | refine JC.seq ?_ | refine JC.region ?_ | refine JC.ret ?_ | refine thenK.nn ?_)
    | (fail)
    | fail
  all_goals first | (exfalso; omega) | skip
  all_goals (refine ret1f rfl rfl rfl (fun w1 hw => ⟨retB ?_, hw.below⟩))
  all_goals (clear hw; unfold badI; grind)
theorem formed_any (v : NV) (h : Heap) (hs : SlT encI 1 v.a v.l h) (hl : v.l.length ≤ 1000000) (n bf : Int) (hn : 0 ≤ n ∧ n ≤ 128) (w : World) (hw : Holds h w) :
    Calls Try.prog 98 #[.agg ⟨encNV v⟩, .int .i64 n, .int .i64 bf] w fun e w' => e = .returned (.bool (formedP (pnV v) n bf)) ∧ Below w.heap.size w w' := by
  have q0 : ∀ L, RdH h L h := fun L => RdH.old fun _ hh => hh
  have cV := fun w => valid_any v.lit n hn w
  have hz : ((v.l.length : Int) == 0) = decide (v.l.length = 0) := by rw [Bool.eq_iff_iff]; simp
  have hF : formedP (pnV v) n bf = (!(v.l.any (badI bf)) &&
    (if v.kind = 0 ∨ v.kind = 1 then decide (v.lit = 0) && decide (v.l.length = 0) else if v.kind = 2 then validB v.lit n && decide (v.l.length = 0) else if v.kind = 3 ∨ v.kind = 4 then decide (v.lit = 0) else false)) := rfl
  refine calls_of_JC (R := h) Try.func98 Try.ntmps98 rfl rfl (hw) ?_
  repeat' first
    | (refine J.isJ ?_; first | (first | (refine J.o 14 ?_; refine J.mf hΓ ?_) | (refine J.fc 105 ?_; refine J.call0 eConF rfl rfl (fun w hw => conG_any eForm1 _ (badI bf) v.a v.c v.l h ((_, intN bf) :: h) hs (fun x hx => List.mem_cons_of_mem _ hx) hl (fun x hx w hw => form1_any bf x _ w (fun y hy => hw y (by rw [List.mem_singleton.1 hy]; exact List.mem_cons_self))) w (fun x hx => hw.rd (rdc Rd.hd (RdH.old fun _ hh => hh) x hx))) ?_) | (refine J.fc 113 ?_; refine J.call0 eValid rfl rfl (fun w hw => cV w) ?_)) | (first | (refine J.o 0 ?_; refine J.ev' hΓ ?_) | refine J.nil ?_ | refine J.kd ?_ | (refine J.o 4 ?_; first | refine J.lR hΓ ?_) | (refine J.o 3 ?_; first | refine J.ev' hΓ ?_) | (refine J.o 6 ?_; refine J.bx (fun _ => ?_)) | (refine J.o 10 ?_; refine J.ev' hΓ ?_) | (refine J.o 11 ?_; refine J.ev' hΓ ?_) | (refine J.o 14 ?_; refine J.mf hΓ ?_)) | ((fail_if_success refine J.wt ?_); refine J.gc rfl rfl (fun hc => ?_) (fun hc => ?_) <;> ((try simp only [decide_eq_true_eq, decide_eq_false_iff_not, beq_iff_eq, beq_eq_false_iff_ne, bne_iff_ne, bne_eq_false_iff_eq, Bool.not_eq_true', Bool.not_eq_false', Bool.not_eq_true, Bool.not_eq_false] at hc) <;> first | (first | (exact absurd rfl hc) | (exfalso; omega) | (exact absurd (hc.symm.trans (by assumption : _ = false)) (by decide)) | (exact absurd (hc.symm.trans (by assumption : _ = true)) (by decide))) | skip)))
    | (first | refine JC.seq ?_ | refine JC.region ?_ | refine JC.block ?_ | refine JC.ret ?_ | refine JC.skip ?_ | refine thenK.nn ?_ | refine thenK.r ?_ | refine blockK.nn ?_ | refine blockK.r ?_ | (refine JC.cond rfl (fun hc => ?_) (fun hc => ?_) <;> ((try simp only [decide_eq_true_eq, decide_eq_false_iff_not, beq_iff_eq, beq_eq_false_iff_ne, bne_iff_ne, bne_eq_false_iff_eq, Bool.not_eq_true', Bool.not_eq_false', Bool.not_eq_true, Bool.not_eq_false] at hc) <;> first | (first | (exact absurd rfl hc) | (exfalso; omega) | (exact absurd (hc.symm.trans (by assumption : _ = false)) (by decide)) | (exact absurd (hc.symm.trans (by assumption : _ = true)) (by decide))) | skip)))
    | (fail)
    | fail
  all_goals first | (exfalso; omega) | skip
  all_goals (refine ret1f rfl rfl rfl (fun w1 hw => ⟨retB ?_, hw.below⟩))
  all_goals (rw [hF]; clear hw)
  all_goals (try rw [hz]); all_goals (generalize v.l.any (badI bf) = b1 at *; generalize validB v.lit n = b2 at *; cases b1 <;> cases b2 <;> grind)
def formAll (n : Int) : List PN → Int → Bool
  | [], _ => true
  | x :: B, k => formedP x n k && formAll n B (k + 1)
def checkP (N : Int) (B : List PN) : Bool := decide (0 ≤ N ∧ N ≤ 128) && (decide (1 ≤ B.length ∧ B.length ≤ 65536) && formAll N B 0)
structure NetIn (a : Option Addr) (vs : List NV) (h : Heap) : Prop where
  so : SlT encNV 3 a vs h
  si : ∀ v, v ∈ vs → SlT encI 1 v.a v.l h
  sl : ∀ v, v ∈ vs → v.l.length ≤ 1000000
  hl : vs.length ≤ 1000000
theorem eCheckN : Entr Try.prog 45 := Entr.of Try.func45 rfl rfl
theorem getD_map (vs : List NV) (k : Nat) : (vs.map pnV).getD k default = pnV (vs.getD k default) := by
  rw [List.getD_eq_getElem?_getD, List.getD_eq_getElem?_getD, List.getElem?_map]
  cases vs[k]? with
  | none => rfl
  | some v => rfl
theorem form_drop (N : Int) (vs : List NV) (k : Nat) (hk : k < vs.length) : formAll N ((vs.drop k).map pnV) k = (formedP (pnV (vs.getD k default)) N k && formAll N ((vs.drop (k + 1)).map pnV) ((k + 1 : Nat) : Int)) := by
  rw [drop_g vs k hk]; rfl
set_option maxRecDepth 20000 in
theorem checkN_any (N : Int) (a : Option Addr) (cap : Nat) (vs : List NV) (h : Heap) (hr : NetIn a vs h) (w : World) (hw : Holds h w) :
    Calls Try.prog 45 #[.agg ⟨[.int .i64 N, .slice a vs.length cap]⟩] w fun e w' => e = .returned (.int .i64 (if checkP N (vs.map pnV) = true then 0 else 1)) ∧ Below w.heap.size w w' := by
  have q0 : ∀ L, RdH h L h := fun L => RdH.old fun _ hh => hh
  obtain ⟨so, si, sl, hl⟩ := hr
  have hC : checkP N (vs.map pnV) = (decide (0 ≤ N ∧ N ≤ 128) && (decide (1 ≤ vs.length ∧ vs.length ≤ 65536) && formAll N (vs.map pnV) 0)) := by unfold checkP; rw [List.length_map]
  by_cases hN : 0 ≤ N ∧ N ≤ 128
  case neg =>
    rw [decide_eq_false hN, Bool.false_and] at hC
    rw [hC]
    refine calls_of_JC (R := h) Try.func45 Try.ntmps45 rfl rfl (hw) ?_
    repeat' first
      | (refine J.isJ ?_; (first | (first | (refine J.o 0 ?_; refine J.ev' hΓ ?_) | refine J.nil ?_ | refine J.kd ?_ | (refine J.o 4 ?_; first | refine J.lT default hΓ ?_ | refine J.lR hΓ ?_) | (refine J.o 3 ?_; first | refine J.iJ hΓ ?_ | refine J.ev' hΓ ?_) | (refine J.o 1 ?_; first | refine J.ad ?_) | (refine J.o 5 ?_; first | refine J.t0 hΓ ?_) | (refine J.o 6 ?_; refine J.bx (fun _ => ?_)) | (refine J.o 7 ?_; refine J.al hΓ (fun _ => ?_)) | (refine J.o 10 ?_; refine J.ev' hΓ ?_) | (refine J.o 11 ?_; refine J.ev' hΓ ?_)) | ((fail_if_success refine J.wt ?_); refine J.gc rfl rfl (fun hc => ?_) (fun hc => ?_) <;> ((try simp only [decide_eq_true_eq, decide_eq_false_iff_not, beq_iff_eq, beq_eq_false_iff_ne, bne_iff_ne, bne_eq_false_iff_eq, Bool.not_eq_true', Bool.not_eq_false', Bool.not_eq_true, Bool.not_eq_false] at hc) <;> first | (first | (exact absurd rfl hc) | (exfalso; omega) | (exact absurd (hc.symm.trans (by assumption : _ = false)) (by decide)) | (exact absurd (hc.symm.trans (by assumption : _ = true)) (by decide))) | skip))))
      | (first | refine JC.seq ?_ | refine JC.region ?_ | refine JC.block ?_ | refine JC.ret ?_ | refine JC.exit ?_ | refine JC.skip ?_ | refine thenK.nn ?_ | refine thenK.r ?_ | refine thenK.x ?_ | refine blockK.nn ?_ | refine blockK.r ?_ | refine blockK.hit rfl ?_ | refine JC.condT rfl ?_ | refine JC.condF rfl ?_ | (refine JC.cond rfl (fun hc => ?_) (fun hc => ?_) <;> ((try simp only [decide_eq_true_eq, decide_eq_false_iff_not, beq_iff_eq, beq_eq_false_iff_ne, bne_iff_ne, bne_eq_false_iff_eq, Bool.not_eq_true', Bool.not_eq_false', Bool.not_eq_true, Bool.not_eq_false] at hc) <;> first | (first | (exact absurd rfl hc) | (exfalso; omega) | (exact absurd (hc.symm.trans (by assumption : _ = false)) (by decide)) | (exact absurd (hc.symm.trans (by assumption : _ = true)) (by decide))) | skip)) | refine loopK.r ?_ | refine loopK.x ?_)
      | fail
    all_goals first | (exfalso; omega) | exact ret1f rfl rfl rfl (fun w1 hw => ⟨rfl, hw.below⟩)
  by_cases hM : 1 ≤ vs.length ∧ vs.length ≤ 65536
  case neg =>
    rw [decide_eq_false hM, Bool.false_and, Bool.and_false] at hC
    rw [hC]
    refine calls_of_JC (R := h) Try.func45 Try.ntmps45 rfl rfl (hw) ?_
    repeat' first
      | (refine J.isJ ?_; (first | (first | (refine J.o 0 ?_; refine J.ev' hΓ ?_) | refine J.nil ?_ | refine J.kd ?_ | (refine J.o 4 ?_; first | refine J.lT default hΓ ?_ | refine J.lR hΓ ?_) | (refine J.o 3 ?_; first | refine J.iJ hΓ ?_ | refine J.ev' hΓ ?_) | (refine J.o 1 ?_; first | refine J.ad ?_) | (refine J.o 5 ?_; first | refine J.t0 hΓ ?_) | (refine J.o 6 ?_; refine J.bx (fun _ => ?_)) | (refine J.o 7 ?_; refine J.al hΓ (fun _ => ?_)) | (refine J.o 10 ?_; refine J.ev' hΓ ?_) | (refine J.o 11 ?_; refine J.ev' hΓ ?_)) | ((fail_if_success refine J.wt ?_); refine J.gc rfl rfl (fun hc => ?_) (fun hc => ?_) <;> ((try simp only [decide_eq_true_eq, decide_eq_false_iff_not, beq_iff_eq, beq_eq_false_iff_ne, bne_iff_ne, bne_eq_false_iff_eq, Bool.not_eq_true', Bool.not_eq_false', Bool.not_eq_true, Bool.not_eq_false] at hc) <;> first | (first | (exact absurd rfl hc) | (exfalso; omega) | (exact absurd (hc.symm.trans (by assumption : _ = false)) (by decide)) | (exact absurd (hc.symm.trans (by assumption : _ = true)) (by decide))) | skip))))
      | (first | refine JC.seq ?_ | refine JC.region ?_ | refine JC.block ?_ | refine JC.ret ?_ | refine JC.exit ?_ | refine JC.skip ?_ | refine thenK.nn ?_ | refine thenK.r ?_ | refine thenK.x ?_ | refine blockK.nn ?_ | refine blockK.r ?_ | refine blockK.hit rfl ?_ | refine JC.condT rfl ?_ | refine JC.condF rfl ?_ | (refine JC.cond rfl (fun hc => ?_) (fun hc => ?_) <;> ((try simp only [decide_eq_true_eq, decide_eq_false_iff_not, beq_iff_eq, beq_eq_false_iff_ne, bne_iff_ne, bne_eq_false_iff_eq, Bool.not_eq_true', Bool.not_eq_false', Bool.not_eq_true, Bool.not_eq_false] at hc) <;> first | (first | (exact absurd rfl hc) | (exfalso; omega) | (exact absurd (hc.symm.trans (by assumption : _ = false)) (by decide)) | (exact absurd (hc.symm.trans (by assumption : _ = true)) (by decide))) | skip)) | refine loopK.r ?_ | refine loopK.x ?_)
      | fail
    all_goals first | (exfalso; omega) | exact ret1f rfl rfl rfl (fun w1 hw => ⟨rfl, hw.below⟩)
  rw [decide_eq_true hN, decide_eq_true hM, Bool.true_and, Bool.true_and] at hC
  rw [hC]
  refine calls_of_JC (R := h) Try.func45 Try.ntmps45 rfl rfl (hw) ?_
  repeat' first
    | (refine J.isJ ?_; (first | (first | (refine J.o 0 ?_; refine J.ev' hΓ ?_) | refine J.nil ?_ | refine J.kd ?_ | (refine J.o 4 ?_; first | refine J.lT default hΓ ?_ | refine J.lR hΓ ?_) | (refine J.o 3 ?_; first | refine J.iJ hΓ ?_ | refine J.ev' hΓ ?_) | (refine J.o 1 ?_; first | refine J.ad ?_) | (refine J.o 5 ?_; first | refine J.t0 hΓ ?_) | (refine J.o 6 ?_; refine J.bx (fun _ => ?_)) | (refine J.o 7 ?_; refine J.al hΓ (fun _ => ?_)) | (refine J.o 10 ?_; refine J.ev' hΓ ?_) | (refine J.o 11 ?_; refine J.ev' hΓ ?_)) | ((fail_if_success refine J.wt ?_); refine J.gc rfl rfl (fun hc => ?_) (fun hc => ?_) <;> ((try simp only [decide_eq_true_eq, decide_eq_false_iff_not, beq_iff_eq, beq_eq_false_iff_ne, bne_iff_ne, bne_eq_false_iff_eq, Bool.not_eq_true', Bool.not_eq_false', Bool.not_eq_true, Bool.not_eq_false] at hc) <;> first | (first | (exact absurd rfl hc) | (exfalso; omega) | (exact absurd (hc.symm.trans (by assumption : _ = false)) (by decide)) | (exact absurd (hc.symm.trans (by assumption : _ = true)) (by decide))) | skip))))
    | (first | refine JC.seq ?_ | refine JC.region ?_ | refine JC.block ?_ | refine JC.ret ?_ | refine JC.exit ?_ | refine JC.skip ?_ | refine thenK.nn ?_ | refine thenK.r ?_ | refine thenK.x ?_ | refine blockK.nn ?_ | refine blockK.r ?_ | refine blockK.hit rfl ?_ | refine JC.condT rfl ?_ | refine JC.condF rfl ?_ | (refine JC.cond rfl (fun hc => ?_) (fun hc => ?_) <;> ((try simp only [decide_eq_true_eq, decide_eq_false_iff_not, beq_iff_eq, beq_eq_false_iff_ne, bne_iff_ne, bne_eq_false_iff_eq, Bool.not_eq_true', Bool.not_eq_false', Bool.not_eq_true, Bool.not_eq_false] at hc) <;> first | (first | (exact absurd rfl hc) | (exfalso; omega) | (exact absurd (hc.symm.trans (by assumption : _ = false)) (by decide)) | (exact absurd (hc.symm.trans (by assumption : _ = true)) (by decide))) | skip)) | refine loopK.r ?_ | refine loopK.x ?_)
    | fail
  all_goals first | (exfalso; omega) | skip
  rename_i b1 _ _ _
  refine JC.gen [(1, .pointer (some ⟨b1, 0, none⟩)), (26, .slice a vs.length cap), (27, .int .i64 vs.length), (28, .int .i64 0)] ⟨rfl, rfl, rfl, rfl, trivial⟩ (fun F => ?_)
  refine JC.loopG (fun i => i == 2 || i == 3 || i == 4 || Nat.ble 28 i) (fun m g L => ∃ (k : Nat), g 28 = .int .i64 (k : Int) ∧ k + m = vs.length ∧ formAll N (vs.map pnV) 0 = formAll N ((vs.drop k).map pnV) k ∧ L = [[(b1, .cells ⟨[.int .i64 N, .slice a vs.length cap]⟩ 81 (0, 0))]]) vs.length ⟨0, rfl, by omega, rfl, rfl⟩ ?_
  rintro m g L ⟨k, e28, hkm, hi, rfl⟩
  refine JC.pin 28 e28 ?_
  clear e28
  rcases Nat.lt_or_ge k vs.length with hk | hk
  case inr =>
    rw [List.drop_eq_nil_of_le hk] at hi
    repeat' first
      | (refine J.isJ ?_; (first | (first | (refine J.o 0 ?_; refine J.ev' hΓ ?_) | refine J.nil ?_ | refine J.kd ?_ | (refine J.o 4 ?_; first | refine J.lT default hΓ ?_ | refine J.lR hΓ ?_) | (refine J.o 3 ?_; first | refine J.iJ hΓ ?_ | refine J.ev' hΓ ?_) | (refine J.o 1 ?_; first | refine J.ad ?_) | (refine J.o 5 ?_; first | refine J.t0 hΓ ?_) | (refine J.o 6 ?_; refine J.bx (fun _ => ?_)) | (refine J.o 7 ?_; refine J.al hΓ (fun _ => ?_)) | (refine J.o 10 ?_; refine J.ev' hΓ ?_) | (refine J.o 11 ?_; refine J.ev' hΓ ?_)) | ((fail_if_success refine J.wt ?_); refine J.gc rfl rfl (fun hc => ?_) (fun hc => ?_) <;> ((try simp only [decide_eq_true_eq, decide_eq_false_iff_not, beq_iff_eq, beq_eq_false_iff_ne, bne_iff_ne, bne_eq_false_iff_eq, Bool.not_eq_true', Bool.not_eq_false', Bool.not_eq_true, Bool.not_eq_false] at hc) <;> first | (first | (exact absurd rfl hc) | (exfalso; omega) | (exact absurd (hc.symm.trans (by assumption : _ = false)) (by decide)) | (exact absurd (hc.symm.trans (by assumption : _ = true)) (by decide))) | skip))))
      | (first | refine JC.seq ?_ | refine JC.region ?_ | refine JC.block ?_ | refine JC.ret ?_ | refine JC.exit ?_ | refine JC.skip ?_ | refine thenK.nn ?_ | refine thenK.r ?_ | refine thenK.x ?_ | refine blockK.nn ?_ | refine blockK.r ?_ | refine blockK.hit rfl ?_ | refine JC.condT rfl ?_ | refine JC.condF rfl ?_ | (refine JC.cond rfl (fun hc => ?_) (fun hc => ?_) <;> ((try simp only [decide_eq_true_eq, decide_eq_false_iff_not, beq_iff_eq, beq_eq_false_iff_ne, bne_iff_ne, bne_eq_false_iff_eq, Bool.not_eq_true', Bool.not_eq_false', Bool.not_eq_true, Bool.not_eq_false] at hc) <;> first | (first | (exact absurd rfl hc) | (exfalso; omega) | (exact absurd (hc.symm.trans (by assumption : _ = false)) (by decide)) | (exact absurd (hc.symm.trans (by assumption : _ = true)) (by decide))) | skip)) | refine loopK.r ?_ | refine loopK.x ?_)
      | fail
    all_goals first | (exfalso; omega) | exact ret1f rfl rfl rfl (fun w1 hw => ⟨by rw [hi]; rfl, hw.below⟩)
  have hmm := mem_g vs k hk
  have cF := fun w hw => formed_any (vs.getD k default) h (si _ hmm) (sl _ hmm) N k hN w hw
  rw [form_drop N vs k hk] at hi
  cases hb : formedP (pnV (vs.getD k default)) N k with
  | false =>
    rw [hb] at cF hi
    repeat' first
      | (refine J.isJ ?_; first | (first | (refine J.o 4 ?_; refine J.lT default hΓ ?_ (hs := so) (hr := q0 _)) | (refine J.fc 98 ?_; refine J.call0 eForm rfl rfl (fun w hw => cF w (hw.rdH (q0 _))) ?_)) | (first | (refine J.o 0 ?_; refine J.ev' hΓ ?_) | refine J.nil ?_ | refine J.kd ?_ | (refine J.o 4 ?_; first | refine J.lT default hΓ ?_ | refine J.lR hΓ ?_) | (refine J.o 3 ?_; first | refine J.iJ hΓ ?_ | refine J.ev' hΓ ?_) | (refine J.o 1 ?_; first | refine J.ad ?_) | (refine J.o 5 ?_; first | refine J.t0 hΓ ?_) | (refine J.o 6 ?_; refine J.bx (fun _ => ?_)) | (refine J.o 7 ?_; refine J.al hΓ (fun _ => ?_)) | (refine J.o 10 ?_; refine J.ev' hΓ ?_) | (refine J.o 11 ?_; refine J.ev' hΓ ?_)) | ((fail_if_success refine J.wt ?_); refine J.gc rfl rfl (fun hc => ?_) (fun hc => ?_) <;> ((try simp only [decide_eq_true_eq, decide_eq_false_iff_not, beq_iff_eq, beq_eq_false_iff_ne, bne_iff_ne, bne_eq_false_iff_eq, Bool.not_eq_true', Bool.not_eq_false', Bool.not_eq_true, Bool.not_eq_false] at hc) <;> first | (first | (exact absurd rfl hc) | (exfalso; omega) | (exact absurd (hc.symm.trans (by assumption : _ = false)) (by decide)) | (exact absurd (hc.symm.trans (by assumption : _ = true)) (by decide))) | skip)))
      | (first | refine JC.seq ?_ | refine JC.region ?_ | refine JC.block ?_ | refine JC.ret ?_ | refine JC.exit ?_ | refine JC.skip ?_ | refine thenK.nn ?_ | refine thenK.r ?_ | refine thenK.x ?_ | refine blockK.nn ?_ | refine blockK.r ?_ | refine blockK.hit rfl ?_ | refine JC.condT rfl ?_ | refine JC.condF rfl ?_ | (refine JC.cond rfl (fun hc => ?_) (fun hc => ?_) <;> ((try simp only [decide_eq_true_eq, decide_eq_false_iff_not, beq_iff_eq, beq_eq_false_iff_ne, bne_iff_ne, bne_eq_false_iff_eq, Bool.not_eq_true', Bool.not_eq_false', Bool.not_eq_true, Bool.not_eq_false] at hc) <;> first | (first | (exact absurd rfl hc) | (exfalso; omega) | (exact absurd (hc.symm.trans (by assumption : _ = false)) (by decide)) | (exact absurd (hc.symm.trans (by assumption : _ = true)) (by decide))) | skip)) | refine loopK.r ?_ | refine loopK.x ?_)
      | (fail)
      | fail
    all_goals first | (exfalso; omega) | exact ret1f rfl rfl rfl (fun w1 hw => ⟨by rw [hi]; rfl, hw.below⟩)
  | true =>
    rw [hb] at cF hi
    repeat' first
      | (refine J.isJ ?_; first | (first | (refine J.o 4 ?_; refine J.lT default hΓ ?_ (hs := so) (hr := q0 _)) | (refine J.fc 98 ?_; refine J.call0 eForm rfl rfl (fun w hw => cF w (hw.rdH (q0 _))) ?_)) | (first | (refine J.o 0 ?_; refine J.ev' hΓ ?_) | refine J.nil ?_ | refine J.kd ?_ | (refine J.o 4 ?_; first | refine J.lT default hΓ ?_ | refine J.lR hΓ ?_) | (refine J.o 3 ?_; first | refine J.iJ hΓ ?_ | refine J.ev' hΓ ?_) | (refine J.o 1 ?_; first | refine J.ad ?_) | (refine J.o 5 ?_; first | refine J.t0 hΓ ?_) | (refine J.o 6 ?_; refine J.bx (fun _ => ?_)) | (refine J.o 7 ?_; refine J.al hΓ (fun _ => ?_)) | (refine J.o 10 ?_; refine J.ev' hΓ ?_) | (refine J.o 11 ?_; refine J.ev' hΓ ?_)) | ((fail_if_success refine J.wt ?_); refine J.gc rfl rfl (fun hc => ?_) (fun hc => ?_) <;> ((try simp only [decide_eq_true_eq, decide_eq_false_iff_not, beq_iff_eq, beq_eq_false_iff_ne, bne_iff_ne, bne_eq_false_iff_eq, Bool.not_eq_true', Bool.not_eq_false', Bool.not_eq_true, Bool.not_eq_false] at hc) <;> first | (first | (exact absurd rfl hc) | (exfalso; omega) | (exact absurd (hc.symm.trans (by assumption : _ = false)) (by decide)) | (exact absurd (hc.symm.trans (by assumption : _ = true)) (by decide))) | skip)))
      | (first | refine JC.seq ?_ | refine JC.region ?_ | refine JC.block ?_ | refine JC.ret ?_ | refine JC.exit ?_ | refine JC.skip ?_ | refine thenK.nn ?_ | refine thenK.r ?_ | refine thenK.x ?_ | refine blockK.nn ?_ | refine blockK.r ?_ | refine blockK.hit rfl ?_ | refine JC.condT rfl ?_ | refine JC.condF rfl ?_ | (refine JC.cond rfl (fun hc => ?_) (fun hc => ?_) <;> ((try simp only [decide_eq_true_eq, decide_eq_false_iff_not, beq_iff_eq, beq_eq_false_iff_ne, bne_iff_ne, bne_eq_false_iff_eq, Bool.not_eq_true', Bool.not_eq_false', Bool.not_eq_true, Bool.not_eq_false] at hc) <;> first | (first | (exact absurd rfl hc) | (exfalso; omega) | (exact absurd (hc.symm.trans (by assumption : _ = false)) (by decide)) | (exact absurd (hc.symm.trans (by assumption : _ = true)) (by decide))) | skip)) | refine loopK.r ?_ | refine loopK.x ?_)
      | (fail)
      | fail
    all_goals first | (exfalso; omega) | skip
    all_goals refine loopK.nn (m - 1) (by omega) (by repeat (first | refine Ag.upd rfl ?_ | exact Ag.hv)) ⟨[[(b1, .cells ⟨[.int .i64 N, .slice a vs.length cap]⟩ 81 (0, 0))]], ⟨k + 1, ?_, by omega, hi, rfl⟩, fun w hw => H.sel (l := [_, _]) (M := []) hw [1]⟩
    all_goals (show Value.int .i64 _ = _; congr 1)
theorem formed_rng {x : PN} {N m : Int} (hf : formedP x N m = true) : ∀ i, i ∈ x.2.2 → 0 ≤ i ∧ i < m := fun i hi => by
  unfold formedP at hf
  simp only [Bool.and_eq_true, Bool.not_eq_true'] at hf
  have := List.any_eq_false.1 hf.1 i hi
  unfold badI at this
  simp only [Bool.or_eq_true, decide_eq_true_eq] at this
  omega
theorem formAll_at (N : Int) : ∀ (B : List PN) (k : Int), formAll N B k = true → ∀ j, j < B.length → formedP (B.getD j default) N (k + j) = true
  | [], k, _, j, hj => absurd hj (Nat.not_lt_zero _)
  | x :: B, k, h, j, hj => by
    unfold formAll at h
    rw [Bool.and_eq_true] at h
    cases j with
    | zero => rw [Int.natCast_zero, Int.add_zero]; exact h.1
    | succ j =>
      have := formAll_at N B (k + 1) h.2 j (by rw [List.length_cons] at hj; omega)
      rw [show k + ((j + 1 : Nat) : Int) = k + 1 + (j : Int) by omega]
      exact this
theorem check_facts {N : Int} {X : List PN} (h : checkP N X = true) : (0 ≤ N ∧ N ≤ 128) ∧ (1 ≤ X.length ∧ X.length ≤ 65536) ∧ formAll N X 0 = true := by
  unfold checkP at h
  simp only [Bool.and_eq_true, decide_eq_true_eq] at h
  exact ⟨h.1, h.2.1, h.2.2⟩
def netOb (N : Int) (a : Option Addr) (len c : Nat) : Obj := .cells ⟨[.int .i64 N, .slice a len c]⟩ 81 (0, 0)
def truS (s : Nat × Nat) (T : List Bool) (x : PN) : Bool := if x.1 = 1 then true else if x.1 = 2 then litT (hasB s) x.2.1 else if x.1 = 3 then !(x.2.2.any fun k => !(T.getD k.toNat default)) else if x.1 = 4 then x.2.2.any fun k => T.getD k.toNat default else false
def truT (s : Nat × Nat) (X : List PN) : List Bool := X.foldl (fun T x => T ++ [truS s T x]) []
def evalN (s : Nat × Nat) (N : Int) (X : List PN) : Bool := checkP N X && (truT s X).getD (X.length - 1) default
theorem truT_snoc (s : Nat × Nat) (X : List PN) (x : PN) : truT s (X ++ [x]) = truT s X ++ [truS s (truT s X) x] := by
  unfold truT; rw [List.foldl_append]; rfl
theorem truT_len (s : Nat × Nat) (X : List PN) : (truT s X).length = X.length := by
  have h : ∀ (X : List PN) (T : List Bool), (X.foldl (fun T x => T ++ [truS s T x]) T).length = T.length + X.length := fun X => by
    induction X with
    | nil => intro T; rfl
    | cons x X ih => intro T; rw [List.foldl_cons, ih]; simp only [List.length_append, List.length_cons, List.length_nil]; omega
  have := h X []
  rw [List.length_nil, Nat.zero_add] at this
  exact this
theorem eEvalN1 : Entr Try.prog 106 := Entr.of Try.func106 rfl rfl
theorem eEvalN2 : Entr Try.prog 107 := Entr.of Try.func107 rfl rfl
theorem eEvalN : Entr Try.prog 48 := Entr.of Try.func48 rfl rfl
def slBO (a : Option Addr) (len cap : Nat) : Obj := .cells ⟨[.slice a len cap]⟩ 43 (0, 0)
theorem e1_any (i : Int) (b : Nat) (a : Option Addr) (cap : Nat) (T : List Bool) (hB : Heap) (hs : SlT encBo 1 a T hB) (hi : 0 ≤ i ∧ i < T.length) (hl : T.length ≤ 1000000) (w : World) (hw : Holds ((b, slBO a T.length cap) :: hB) w) :
    Calls Try.prog 106 #[.int .i64 i, .pointer (some ⟨b, 0, none⟩)] w fun e w' => e = .returned (.bool (!(T.getD i.toNat default))) ∧ Below w.heap.size w w' := by
  have rb : ∀ L, Rd ((b, slBO a T.length cap) :: hB) L b (slBO a T.length cap) := fun L => Rd.old List.mem_cons_self
  have q0 : ∀ L, RdH ((b, slBO a T.length cap) :: hB) L hB := fun L => RdH.old fun _ hh => List.mem_cons_of_mem _ hh
  unfold slBO at rb
  refine calls_of_JC (R := ((b, slBO a T.length cap) :: hB)) Try.func106 Try.ntmps106 rfl rfl (hw) ?_
  repeat' first
    | (refine J.isJ ?_; first | ((refine J.o 4 ?_; first | refine J.lR hΓ ?_ (hr := rb _) | refine J.lT default hΓ ?_ (hs := hs) (hr := q0 _))) | (first | (refine J.o 0 ?_; refine J.ev' hΓ ?_) | refine J.nil ?_ | (refine J.o 4 ?_; first | refine J.lT default hΓ ?_ | refine J.lR hΓ ?_) | (refine J.o 3 ?_; first | refine J.iJ hΓ ?_ | refine J.ev' hΓ ?_) | (refine J.o 10 ?_; refine J.ev' hΓ ?_) | (refine J.o 11 ?_; refine J.ev' hΓ ?_)))
    | (first | refine JC.seq ?_ | refine JC.region ?_ | refine JC.ret ?_ | refine thenK.nn ?_)
    | (fail)
    | fail
  all_goals first | (exfalso; omega) | exact ret1f rfl rfl rfl (fun w1 hw => ⟨rfl, hw.below⟩)
theorem e2_any (i : Int) (b : Nat) (a : Option Addr) (cap : Nat) (T : List Bool) (hB : Heap) (hs : SlT encBo 1 a T hB) (hi : 0 ≤ i ∧ i < T.length) (hl : T.length ≤ 1000000) (w : World) (hw : Holds ((b, slBO a T.length cap) :: hB) w) :
    Calls Try.prog 107 #[.int .i64 i, .pointer (some ⟨b, 0, none⟩)] w fun e w' => e = .returned (.bool (T.getD i.toNat default)) ∧ Below w.heap.size w w' := by
  have rb : ∀ L, Rd ((b, slBO a T.length cap) :: hB) L b (slBO a T.length cap) := fun L => Rd.old List.mem_cons_self
  have q0 : ∀ L, RdH ((b, slBO a T.length cap) :: hB) L hB := fun L => RdH.old fun _ hh => List.mem_cons_of_mem _ hh
  unfold slBO at rb
  refine calls_of_JC (R := ((b, slBO a T.length cap) :: hB)) Try.func107 Try.ntmps107 rfl rfl (hw) ?_
  repeat' first
    | (refine J.isJ ?_; first | ((refine J.o 4 ?_; first | refine J.lR hΓ ?_ (hr := rb _) | refine J.lT default hΓ ?_ (hs := hs) (hr := q0 _))) | (first | (refine J.o 0 ?_; refine J.ev' hΓ ?_) | refine J.nil ?_ | (refine J.o 4 ?_; first | refine J.lT default hΓ ?_ | refine J.lR hΓ ?_) | (refine J.o 3 ?_; first | refine J.iJ hΓ ?_ | refine J.ev' hΓ ?_) | (refine J.o 10 ?_; refine J.ev' hΓ ?_) | (refine J.o 11 ?_; refine J.ev' hΓ ?_)))
    | (first | refine JC.seq ?_ | refine JC.region ?_ | refine JC.ret ?_ | refine thenK.nn ?_)
    | (fail)
    | fail
  all_goals first | (exfalso; omega) | exact ret1f rfl rfl rfl (fun w1 hw => ⟨rfl, hw.below⟩)
theorem app_repB (s : List Bool) (n j : Nat) (h : j < s.length) : (s ++ List.replicate n false).getD j default = s.getD j default := by
  rw [List.getD_eq_getElem?_getD, List.getElem?_append_left h, ← List.getD_eq_getElem?_getD]
theorem app_setB (s : List Bool) (n : Nat) (x : Bool) : (s ++ List.replicate (n + 1) false).set s.length x = (s ++ [x]) ++ List.replicate n false := by
  rw [List.set_append_right _ _ (Nat.le_refl _), Nat.sub_self, List.replicate_succ, List.set_cons_zero, List.append_assoc]; rfl
theorem app_idB (s : List Bool) (n : Nat) : s ++ List.replicate (n + 1) false = (s ++ [false]) ++ List.replicate n false := by
  rw [List.append_assoc]; rfl
theorem formed_kinds {x : PN} {N bf : Int} (hf : formedP x N bf = true) : x.1 = 0 ∨ x.1 = 1 ∨ (x.1 = 2 ∧ x.2.1 ≠ 0 ∧ -N ≤ x.2.1 ∧ x.2.1 ≤ N) ∨ x.1 = 3 ∨ x.1 = 4 := by
  unfold formedP at hf
  rw [Bool.and_eq_true] at hf
  have h2 := hf.2
  split at h2
  · rename_i h; rcases h with h | h
    · exact .inl h
    · exact .inr (.inl h)
  · split at h2
    · rename_i h
      rw [Bool.and_eq_true] at h2
      have := h2.1
      unfold validB at this
      exact .inr (.inr (.inl ⟨h, by simpa using this⟩))
    · split at h2
      · rename_i h; rcases h with h | h
        · exact .inr (.inr (.inr (.inl h)))
        · exact .inr (.inr (.inr (.inr h)))
      · cases h2
set_option maxHeartbeats 16000000 in
theorem evalN_any (s : Nat × Nat) (hs : okS s) (N : Int) (a : Option Addr) (cap : Nat) (vs : List NV) (h : Heap) (hr : NetIn a vs h) (w : World) (hw : Holds h w) :
    Calls Try.prog 48 #[.agg ⟨[.int .i64 N, .slice a vs.length cap]⟩, sv s] w fun e w' => e = .returned (.bool (evalN s N (vs.map pnV))) ∧ Below w.heap.size w w' := by
  have q0 : ∀ L, RdH h L h := fun L => RdH.old fun _ hh => hh
  have cC := fun w hw => checkN_any N a cap vs h hr w hw
  obtain ⟨so, si, sl, hl⟩ := hr
  unfold evalN
  cases hC : checkP N (vs.map pnV) with
  | false =>
    rw [hC, if_neg (by decide)] at cC
    rw [Bool.false_and]
    refine calls_of_JC (R := h) Try.func48 Try.ntmps48 rfl rfl (hw) ?_
    repeat' first
      | (refine J.isJ ?_; first | (first | (refine J.o 0 ?_; refine J.ev' hΓ ?_) | refine J.nil ?_ | (refine J.o 4 ?_; first | refine J.lT default hΓ ?_ | refine J.lR hΓ ?_) | (refine J.o 3 ?_; first | refine J.iJ hΓ ?_ | refine J.ev' hΓ ?_) | (refine J.o 1 ?_; first | refine J.ad ?_ | refine J.sb ?_) | (refine J.o 5 ?_; first | refine J.t0 hΓ ?_ | refine J.tT2 _ default hΓ (fun _ _ => ?_)) | (refine J.o 6 ?_; refine J.bx (fun _ => ?_)) | (refine J.o 7 ?_; refine J.al hΓ (fun _ => ?_)) | (refine J.o 10 ?_; refine J.ev' hΓ ?_) | (refine J.o 11 ?_; refine J.ev' hΓ ?_) | (refine J.o 14 ?_; refine J.mf hΓ ?_)) | ((refine J.fc 45 ?_; refine J.call0 eCheckN rfl rfl (fun w hw => cC w (hw.rdH (q0 _))) ?_)))
      | (first | refine JC.seq ?_ | refine JC.region ?_ | refine JC.block ?_ | refine JC.ret ?_ | refine JC.exit ?_ | refine JC.skip ?_ | refine thenK.nn ?_ | refine thenK.r ?_ | refine thenK.x ?_ | refine blockK.nn ?_ | refine blockK.hit rfl ?_ | refine JC.condT rfl ?_ | refine JC.condF rfl ?_ | (refine JC.cond rfl (fun hc => ?_) (fun hc => ?_) <;> ((try simp only [decide_eq_true_eq, decide_eq_false_iff_not, beq_iff_eq, beq_eq_false_iff_ne, bne_iff_ne, bne_eq_false_iff_eq, Bool.not_eq_true', Bool.not_eq_false', Bool.not_eq_true, Bool.not_eq_false] at hc) <;> first | (first | (exact absurd rfl hc) | (exfalso; omega) | (exact absurd (hc.symm.trans (by assumption : _ = false)) (by decide)) | (exact absurd (hc.symm.trans (by assumption : _ = true)) (by decide))) | skip)) | refine drawK.nn ?_ | refine loopK.x ?_)
      | fail
    all_goals first | (exfalso; omega) | exact ret1f rfl rfl rfl (fun w1 hw => ⟨rfl, hw.below⟩)
  | true =>
    rw [hC, if_pos rfl] at cC
    rw [Bool.true_and]
    obtain ⟨hN, hM, hFA⟩ := check_facts hC
    have hX : (vs.map pnV).length = vs.length := List.length_map ..
    rw [hX] at hM
    refine calls_of_JC (R := h) Try.func48 Try.ntmps48 rfl rfl (hw) ?_
    repeat' first
      | (refine J.isJ ?_; first | (first | (refine J.fc 45 ?_; refine J.call0 eCheckN rfl rfl (fun w hw => cC w (hw.rdH (q0 _))) ?_) | (refine J.o 9 ?_; refine J.make (enc := encBo) (m := vs.length) false hΓ rfl rfl rfl rfl rfl rfl (fun _ => rfl) (by omega) (by omega) (fun bA hA oA => ?_); generalize (some (⟨bA, 0, none⟩ : Addr)) = aA at oA ⊢) | (refine J.o 4 ?_; first | refine J.e3 hΓ ?_)) | (first | (refine J.o 0 ?_; refine J.ev' hΓ ?_) | refine J.nil ?_ | (refine J.o 4 ?_; first | refine J.lT default hΓ ?_ | refine J.lR hΓ ?_) | (refine J.o 3 ?_; first | refine J.iJ hΓ ?_ | refine J.ev' hΓ ?_) | (refine J.o 1 ?_; first | refine J.ad ?_ | refine J.sb ?_) | (refine J.o 5 ?_; first | refine J.t0 hΓ ?_ | refine J.tT2 _ default hΓ (fun _ _ => ?_)) | (refine J.o 6 ?_; refine J.bx (fun _ => ?_)) | (refine J.o 7 ?_; refine J.al hΓ (fun _ => ?_)) | (refine J.o 10 ?_; refine J.ev' hΓ ?_) | (refine J.o 11 ?_; refine J.ev' hΓ ?_) | (refine J.o 14 ?_; refine J.mf hΓ ?_)))
      | (first | refine JC.seq ?_ | refine JC.region ?_ | refine JC.block ?_ | refine JC.ret ?_ | refine JC.exit ?_ | refine JC.skip ?_ | refine thenK.nn ?_ | refine thenK.r ?_ | refine thenK.x ?_ | refine blockK.nn ?_ | refine blockK.hit rfl ?_ | refine JC.condT rfl ?_ | refine JC.condF rfl ?_ | (refine JC.cond rfl (fun hc => ?_) (fun hc => ?_) <;> ((try simp only [decide_eq_true_eq, decide_eq_false_iff_not, beq_iff_eq, beq_eq_false_iff_ne, bne_iff_ne, bne_eq_false_iff_eq, Bool.not_eq_true', Bool.not_eq_false', Bool.not_eq_true, Bool.not_eq_false] at hc) <;> first | (first | (exact absurd rfl hc) | (exfalso; omega) | (exact absurd (hc.symm.trans (by assumption : _ = false)) (by decide)) | (exact absurd (hc.symm.trans (by assumption : _ = true)) (by decide))) | skip)) | refine drawK.nn ?_ | refine loopK.x ?_)
      | (fail)
      | fail
    all_goals first | (exfalso; omega) | skip
    rename_i n2 n3 n5
    refine JC.gen [(3, .pointer (some ⟨n3, 0, none⟩)), (5, .pointer (some ⟨n5, 0, none⟩)), (16, .slice a vs.length cap), (17, .int .i64 vs.length), (18, .int .i64 0)] ⟨rfl, rfl, rfl, rfl, rfl, trivial⟩ (fun F1 => ?_)
    refine JC.loopG (fun i => i == 4 || i == 6 || i == 7 || Nat.ble 18 i) (fun m g L' => ∃ (k : Nat) (hA : Heap), g 18 = .int .i64 (k : Int) ∧ k + m = vs.length ∧ OwT encBo 1 4 aA vs.length ((truT s ((vs.map pnV).take k)) ++ List.replicate m false) hA ∧ L' = [[(n5, slBO aA vs.length vs.length)], hA, [(n3, .cells ⟨[.int .u64 (s.1 : Int), .int .u64 (s.2 : Int)]⟩ 53 (0, 0))], [(n2, netOb N a vs.length cap)]]) vs.length ⟨0, hA, rfl, by omega, oA, rfl⟩ ?_
    clear oA
    rintro m g L' ⟨k, hA, e18, hkm, oA, rfl⟩
    refine JC.pin 18 e18 ?_
    clear e18
    unfold netOb
    have hst := truT_len s ((vs.map pnV).take k)
    rw [List.length_take, hX] at hst
    have hlT : ((truT s ((vs.map pnV).take k)) ++ List.replicate m false).length = vs.length := by rw [List.length_append, List.length_replicate]; omega
    rcases Nat.lt_or_ge k vs.length with hk | hk
    case inr =>
      have hm0 : m = 0 := by omega
      subst hm0
      have htk : (vs.map pnV).take k = vs.map pnV := List.take_of_length_le (by omega)
      rw [htk] at oA hlT
      rw [List.replicate_zero, List.append_nil] at oA hlT
      have hx1 : ((vs.length : Int) - 1).toNat = vs.length - 1 := by omega
      rw [hX]
      unfold slBO
      repeat' first
        | (refine J.isJ ?_; first | ((refine J.o 4 ?_; refine J.lT default hΓ ?_ (hs := oA.sl) (hr := RdH.hd.tl); rw [hx1])) | (first | (refine J.o 0 ?_; refine J.ev' hΓ ?_) | refine J.nil ?_ | (refine J.o 4 ?_; first | refine J.lT default hΓ ?_ | refine J.lR hΓ ?_) | (refine J.o 3 ?_; first | refine J.iJ hΓ ?_ | refine J.ev' hΓ ?_) | (refine J.o 1 ?_; first | refine J.ad ?_ | refine J.sb ?_) | (refine J.o 5 ?_; first | refine J.t0 hΓ ?_ | refine J.tT2 _ default hΓ (fun _ _ => ?_)) | (refine J.o 6 ?_; refine J.bx (fun _ => ?_)) | (refine J.o 7 ?_; refine J.al hΓ (fun _ => ?_)) | (refine J.o 10 ?_; refine J.ev' hΓ ?_) | (refine J.o 11 ?_; refine J.ev' hΓ ?_) | (refine J.o 14 ?_; refine J.mf hΓ ?_)))
        | (first | refine JC.seq ?_ | refine JC.region ?_ | refine JC.block ?_ | refine JC.ret ?_ | refine JC.exit ?_ | refine JC.skip ?_ | refine thenK.nn ?_ | refine thenK.r ?_ | refine thenK.x ?_ | refine blockK.nn ?_ | refine blockK.hit rfl ?_ | refine JC.condT rfl ?_ | refine JC.condF rfl ?_ | (refine JC.cond rfl (fun hc => ?_) (fun hc => ?_) <;> ((try simp only [decide_eq_true_eq, decide_eq_false_iff_not, beq_iff_eq, beq_eq_false_iff_ne, bne_iff_ne, bne_eq_false_iff_eq, Bool.not_eq_true', Bool.not_eq_false', Bool.not_eq_true, Bool.not_eq_false] at hc) <;> first | (first | (exact absurd rfl hc) | (exfalso; omega) | (exact absurd (hc.symm.trans (by assumption : _ = false)) (by decide)) | (exact absurd (hc.symm.trans (by assumption : _ = true)) (by decide))) | skip)) | refine drawK.nn ?_ | refine loopK.x ?_)
        | (fail)
        | fail
      all_goals first | (exfalso; omega) | exact ret1f rfl rfl rfl (fun w1 hw => ⟨rfl, hw.below⟩)
    have hkX : k < (vs.map pnV).length := by omega
    have hmk := mem_g vs k hk
    have hVl := sl _ hmk
    have hVs := si _ hmk
    have hfk : formedP (pnV (vs.getD k default)) N k = true := by
      have := formAll_at N (vs.map pnV) 0 hFA k hkX
      rw [Int.zero_add, getD_map] at this
      exact this
    have hVo : ∀ i, i ∈ (vs.getD k default).l → 0 ≤ i ∧ i < k := formed_rng hfk
    have hnext : truT s ((vs.map pnV).take (k + 1)) = (truT s ((vs.map pnV).take k)) ++ [truS s (truT s ((vs.map pnV).take k)) (pnV (vs.getD k default))] := by
      rw [take_g _ k hkX, truT_snoc, getD_map]
    obtain ⟨m', rfl⟩ : ∃ m', m = m' + 1 := ⟨m - 1, by omega⟩
    have hset := app_setB (truT s ((vs.map pnV).take k)) m'
    rw [show (truT s ((vs.map pnV).take k)).length = k by omega] at hset
    have hTs : ∀ i, i ∈ (vs.getD k default).l → ((truT s ((vs.map pnV).take k)) ++ List.replicate (m' + 1) false).getD i.toNat default = (truT s ((vs.map pnV).take k)).getD i.toNat default := fun i hi => app_repB _ _ _ (by have := hVo i hi; omega)
    have cE1 : ∀ x, x ∈ (vs.getD k default).l → ∀ w, Holds ((n5, slBO aA vs.length vs.length) :: (hA ++ h)) w → Calls Try.prog 106 #[.int .i64 x, .pointer (some ⟨n5, 0, none⟩)] w fun e w' => e = .returned (.bool (!((truT s ((vs.map pnV).take k)).getD x.toNat default))) ∧ Below w.heap.size w w' := fun x hx w hw => by
      have hxr := hVo x hx
      have := e1_any x n5 aA vs.length ((truT s ((vs.map pnV).take k)) ++ List.replicate (m' + 1) false) hA oA.sl (by omega) (by omega) w (fun y hy => hw y (by rw [hlT] at hy; rcases List.mem_cons.1 hy with rfl | hy; exact List.mem_cons_self; exact List.mem_cons_of_mem _ (List.mem_append_left _ hy)))
      rw [hTs x hx] at this
      exact this
    have cE2 : ∀ x, x ∈ (vs.getD k default).l → ∀ w, Holds ((n5, slBO aA vs.length vs.length) :: (hA ++ h)) w → Calls Try.prog 107 #[.int .i64 x, .pointer (some ⟨n5, 0, none⟩)] w fun e w' => e = .returned (.bool ((truT s ((vs.map pnV).take k)).getD x.toNat default)) ∧ Below w.heap.size w w' := fun x hx w hw => by
      have hxr := hVo x hx
      have := e2_any x n5 aA vs.length ((truT s ((vs.map pnV).take k)) ++ List.replicate (m' + 1) false) hA oA.sl (by omega) (by omega) w (fun y hy => hw y (by rw [hlT] at hy; rcases List.mem_cons.1 hy with rfl | hy; exact List.mem_cons_self; exact List.mem_cons_of_mem _ (List.mem_append_left _ hy)))
      rw [hTs x hx] at this
      exact this
    rcases formed_kinds hfk with hkd | hkd | ⟨hkd, hz, hlo, hhi⟩ | hkd | hkd
    · have hkd : (vs.getD k default).kind = 0 := hkd
      have htr : truS s (truT s ((vs.map pnV).take k)) (pnV (vs.getD k default)) = false := by
        show truS s (truT s ((vs.map pnV).take k)) ((vs.getD k default).kind, (vs.getD k default).lit, (vs.getD k default).l) = _
        rw [hkd]; rfl
      unfold slBO
      repeat' first
        | (refine J.isJ ?_; first | (first | (refine J.o 4 ?_; refine J.lT default hΓ ?_ (hs := so) (hr := q0 _)) | (refine J.o 4 ?_; first | refine J.e3 hΓ ?_)) | (first | (refine J.o 0 ?_; refine J.ev' hΓ ?_) | refine J.nil ?_ | (refine J.o 4 ?_; first | refine J.lT default hΓ ?_ | refine J.lR hΓ ?_) | (refine J.o 3 ?_; first | refine J.iJ hΓ ?_ | refine J.ev' hΓ ?_) | (refine J.o 1 ?_; first | refine J.ad ?_ | refine J.sb ?_) | (refine J.o 5 ?_; first | refine J.t0 hΓ ?_ | refine J.tT2 _ default hΓ (fun _ _ => ?_)) | (refine J.o 6 ?_; refine J.bx (fun _ => ?_)) | (refine J.o 7 ?_; refine J.al hΓ (fun _ => ?_)) | (refine J.o 10 ?_; refine J.ev' hΓ ?_) | (refine J.o 11 ?_; refine J.ev' hΓ ?_) | (refine J.o 14 ?_; refine J.mf hΓ ?_)))
        | (first | refine JC.seq ?_ | refine JC.region ?_ | refine JC.block ?_ | refine JC.ret ?_ | refine JC.exit ?_ | refine JC.skip ?_ | refine thenK.nn ?_ | refine thenK.r ?_ | refine thenK.x ?_ | refine blockK.nn ?_ | refine blockK.hit rfl ?_ | refine JC.condT rfl ?_ | refine JC.condF rfl ?_ | (refine JC.cond rfl (fun hc => ?_) (fun hc => ?_) <;> ((try simp only [decide_eq_true_eq, decide_eq_false_iff_not, beq_iff_eq, beq_eq_false_iff_ne, bne_iff_ne, bne_eq_false_iff_eq, Bool.not_eq_true', Bool.not_eq_false', Bool.not_eq_true, Bool.not_eq_false] at hc) <;> first | (first | (exact absurd rfl hc) | (exfalso; omega) | (exact absurd (hc.symm.trans (by assumption : _ = false)) (by decide)) | (exact absurd (hc.symm.trans (by assumption : _ = true)) (by decide))) | skip)) | refine drawK.nn ?_ | refine loopK.x ?_)
        | ((refine JC.drawN [] [] (by kernel_rfl) (by kernel_rfl) ?_))
        | fail
      all_goals first | (exfalso; omega) | skip
      have hn2 := hnext
      rw [htr] at hn2
      rw [app_idB, ← hn2] at oA
      refine loopK.nn m' (by omega) (by repeat (first | refine Ag.upd rfl ?_ | exact Ag.hv)) ⟨_, ⟨k + 1, hA, ?_, by omega, oA, rfl⟩, fun w hw => hw.drop⟩
      show Value.int .i64 _ = _; congr 1
    · have hkd : (vs.getD k default).kind = 1 := hkd
      have htr : truS s (truT s ((vs.map pnV).take k)) (pnV (vs.getD k default)) = true := by
        show truS s (truT s ((vs.map pnV).take k)) ((vs.getD k default).kind, (vs.getD k default).lit, (vs.getD k default).l) = _
        rw [hkd]; rfl
      have hset1 := hset true
      rw [← htr, ← hnext] at hset1
      unfold slBO
      repeat' first
        | (refine J.isJ ?_; first | (first | (refine J.o 4 ?_; refine J.lT default hΓ ?_ (hs := so) (hr := q0 _)) | (refine J.o 4 ?_; first | refine J.e3 hΓ ?_)) | (first | (refine J.o 0 ?_; refine J.ev' hΓ ?_) | refine J.nil ?_ | (refine J.o 4 ?_; first | refine J.lT default hΓ ?_ | refine J.lR hΓ ?_) | (refine J.o 3 ?_; first | refine J.iJ hΓ ?_ | refine J.ev' hΓ ?_) | (refine J.o 1 ?_; first | refine J.ad ?_ | refine J.sb ?_) | (refine J.o 5 ?_; first | refine J.t0 hΓ ?_ | refine J.tT2 _ default hΓ (fun _ _ => ?_)) | (refine J.o 6 ?_; refine J.bx (fun _ => ?_)) | (refine J.o 7 ?_; refine J.al hΓ (fun _ => ?_)) | (refine J.o 10 ?_; refine J.ev' hΓ ?_) | (refine J.o 11 ?_; refine J.ev' hΓ ?_) | (refine J.o 14 ?_; refine J.mf hΓ ?_)))
        | (first | refine JC.seq ?_ | refine JC.region ?_ | refine JC.block ?_ | refine JC.ret ?_ | refine JC.exit ?_ | refine JC.skip ?_ | refine thenK.nn ?_ | refine thenK.r ?_ | refine thenK.x ?_ | refine blockK.nn ?_ | refine blockK.hit rfl ?_ | refine JC.condT rfl ?_ | refine JC.condF rfl ?_ | (refine JC.cond rfl (fun hc => ?_) (fun hc => ?_) <;> ((try simp only [decide_eq_true_eq, decide_eq_false_iff_not, beq_iff_eq, beq_eq_false_iff_ne, bne_iff_ne, bne_eq_false_iff_eq, Bool.not_eq_true', Bool.not_eq_false', Bool.not_eq_true, Bool.not_eq_false] at hc) <;> first | (first | (exact absurd rfl hc) | (exfalso; omega) | (exact absurd (hc.symm.trans (by assumption : _ = false)) (by decide)) | (exact absurd (hc.symm.trans (by assumption : _ = true)) (by decide))) | skip)) | refine drawK.nn ?_ | refine loopK.x ?_)
        | ((refine JC.drawN [] [] (by kernel_rfl) (by kernel_rfl) ?_))
        | fail
      all_goals first | (exfalso; omega) | skip
      have oA2 := ‹OwT encBo 1 4 aA vs.length ((truT s ((vs.map pnV).take k) ++ List.replicate (m' + 1) false).set k _) _›
      have oA3 : OwT encBo 1 4 aA vs.length (truT s ((vs.map pnV).take (k + 1)) ++ List.replicate m' false) _ := hset1 ▸ htr ▸ oA2
      refine loopK.nn m' (by omega) (by repeat (first | refine Ag.upd rfl ?_ | exact Ag.hv)) ⟨_, ⟨k + 1, _, ?_, by omega, oA3, rfl⟩, fun w hw => H.sel (l := [_, _, _, _, _]) (M := []) hw [1, 2, 3, 4]⟩
      show Value.int .i64 _ = _; congr 1
    · have hkd : (vs.getD k default).kind = 2 := hkd
      have hz : (vs.getD k default).lit ≠ 0 := hz
      have hlo' : -128 ≤ (vs.getD k default).lit := by have : -N ≤ (vs.getD k default).lit := hlo; omega
      have hhi' : (vs.getD k default).lit ≤ 128 := by have : (vs.getD k default).lit ≤ N := hhi; omega
      have htr : truS s (truT s ((vs.map pnV).take k)) (pnV (vs.getD k default)) = (litT (hasB s) (vs.getD k default).lit) := by
        show truS s (truT s ((vs.map pnV).take k)) ((vs.getD k default).kind, (vs.getD k default).lit, (vs.getD k default).l) = _
        rw [hkd]; rfl
      have hset1 := hset (litT (hasB s) (vs.getD k default).lit)
      rw [← htr, ← hnext] at hset1
      unfold slBO
      repeat' first
        | (refine J.isJ ?_; first | (first | (refine J.o 4 ?_; refine J.lT default hΓ ?_ (hs := so) (hr := q0 _)) | (refine J.o 4 ?_; first | refine J.e3 hΓ ?_) | (refine J.fc 104 ?_; refine J.call0 eHoldsL rfl rfl (fun w hw => holdsL_any s hs (vs.getD k default).lit ⟨hz, hlo', hhi'⟩ w) ?_)) | (first | (refine J.o 0 ?_; refine J.ev' hΓ ?_) | refine J.nil ?_ | (refine J.o 4 ?_; first | refine J.lT default hΓ ?_ | refine J.lR hΓ ?_) | (refine J.o 3 ?_; first | refine J.iJ hΓ ?_ | refine J.ev' hΓ ?_) | (refine J.o 1 ?_; first | refine J.ad ?_ | refine J.sb ?_) | (refine J.o 5 ?_; first | refine J.t0 hΓ ?_ | refine J.tT2 _ default hΓ (fun _ _ => ?_)) | (refine J.o 6 ?_; refine J.bx (fun _ => ?_)) | (refine J.o 7 ?_; refine J.al hΓ (fun _ => ?_)) | (refine J.o 10 ?_; refine J.ev' hΓ ?_) | (refine J.o 11 ?_; refine J.ev' hΓ ?_) | (refine J.o 14 ?_; refine J.mf hΓ ?_)))
        | (first | refine JC.seq ?_ | refine JC.region ?_ | refine JC.block ?_ | refine JC.ret ?_ | refine JC.exit ?_ | refine JC.skip ?_ | refine thenK.nn ?_ | refine thenK.r ?_ | refine thenK.x ?_ | refine blockK.nn ?_ | refine blockK.hit rfl ?_ | refine JC.condT rfl ?_ | refine JC.condF rfl ?_ | (refine JC.cond rfl (fun hc => ?_) (fun hc => ?_) <;> ((try simp only [decide_eq_true_eq, decide_eq_false_iff_not, beq_iff_eq, beq_eq_false_iff_ne, bne_iff_ne, bne_eq_false_iff_eq, Bool.not_eq_true', Bool.not_eq_false', Bool.not_eq_true, Bool.not_eq_false] at hc) <;> first | (first | (exact absurd rfl hc) | (exfalso; omega) | (exact absurd (hc.symm.trans (by assumption : _ = false)) (by decide)) | (exact absurd (hc.symm.trans (by assumption : _ = true)) (by decide))) | skip)) | refine drawK.nn ?_ | refine loopK.x ?_)
        | ((refine JC.drawO [(1,0),(0,1),(1,2),(0,3),(1,4),(1,5),(0,6),(2,7)] (by kernel_rfl) (by kernel_rfl) ?_))
        | fail
      all_goals first | (exfalso; omega) | skip
      have oA2 := ‹OwT encBo 1 4 aA vs.length ((truT s ((vs.map pnV).take k) ++ List.replicate (m' + 1) false).set k _) _›
      have oA3 : OwT encBo 1 4 aA vs.length (truT s ((vs.map pnV).take (k + 1)) ++ List.replicate m' false) _ := hset1 ▸ htr ▸ oA2
      refine loopK.nn m' (by omega) (by repeat (first | refine Ag.upd rfl ?_ | exact Ag.hv)) ⟨_, ⟨k + 1, _, ?_, by omega, oA3, rfl⟩, fun w hw => H.sel (l := [_, _, _, _, _]) (M := []) hw [1, 2, 3, 4]⟩
      show Value.int .i64 _ = _; congr 1
    · have hkd : (vs.getD k default).kind = 3 := hkd
      have htr : truS s (truT s ((vs.map pnV).take k)) (pnV (vs.getD k default)) = (!((vs.getD k default).l.any fun i => !((truT s ((vs.map pnV).take k)).getD i.toNat default))) := by
        show truS s (truT s ((vs.map pnV).take k)) ((vs.getD k default).kind, (vs.getD k default).lit, (vs.getD k default).l) = _
        rw [hkd]; rfl
      have hset1 := hset (!((vs.getD k default).l.any fun i => !((truT s ((vs.map pnV).take k)).getD i.toNat default)))
      rw [← htr, ← hnext] at hset1
      unfold slBO
      repeat' first
        | (refine J.isJ ?_; first | (first | (refine J.o 4 ?_; refine J.lT default hΓ ?_ (hs := so) (hr := q0 _)) | (refine J.o 4 ?_; first | refine J.e3 hΓ ?_) | (refine J.o 14 ?_; refine J.mf hΓ ?_) | (refine J.fc 105 ?_; refine J.call0 eConF rfl rfl (fun w hw => conG_any eEvalN1 [.pointer (some ⟨n5, 0, none⟩)] (fun i => !((truT s ((vs.map pnV).take k)).getD i.toNat default)) (vs.getD k default).a (vs.getD k default).c (vs.getD k default).l h ((n5, slBO aA vs.length vs.length) :: (hA ++ h)) hVs (fun x hx => List.mem_cons_of_mem _ (List.mem_append_right _ hx)) hVl cE1 w (fun x hx => hw.rd (rdc Rd.hd.tl (RdH.append RdH.hd.tl.tl (q0 _)) x hx))) ?_)) | (first | (refine J.o 0 ?_; refine J.ev' hΓ ?_) | refine J.nil ?_ | (refine J.o 4 ?_; first | refine J.lT default hΓ ?_ | refine J.lR hΓ ?_) | (refine J.o 3 ?_; first | refine J.iJ hΓ ?_ | refine J.ev' hΓ ?_) | (refine J.o 1 ?_; first | refine J.ad ?_ | refine J.sb ?_) | (refine J.o 5 ?_; first | refine J.t0 hΓ ?_ | refine J.tT2 _ default hΓ (fun _ _ => ?_)) | (refine J.o 6 ?_; refine J.bx (fun _ => ?_)) | (refine J.o 7 ?_; refine J.al hΓ (fun _ => ?_)) | (refine J.o 10 ?_; refine J.ev' hΓ ?_) | (refine J.o 11 ?_; refine J.ev' hΓ ?_) | (refine J.o 14 ?_; refine J.mf hΓ ?_)))
        | (first | refine JC.seq ?_ | refine JC.region ?_ | refine JC.block ?_ | refine JC.ret ?_ | refine JC.exit ?_ | refine JC.skip ?_ | refine thenK.nn ?_ | refine thenK.r ?_ | refine thenK.x ?_ | refine blockK.nn ?_ | refine blockK.hit rfl ?_ | refine JC.condT rfl ?_ | refine JC.condF rfl ?_ | (refine JC.cond rfl (fun hc => ?_) (fun hc => ?_) <;> ((try simp only [decide_eq_true_eq, decide_eq_false_iff_not, beq_iff_eq, beq_eq_false_iff_ne, bne_iff_ne, bne_eq_false_iff_eq, Bool.not_eq_true', Bool.not_eq_false', Bool.not_eq_true, Bool.not_eq_false] at hc) <;> first | (first | (exact absurd rfl hc) | (exfalso; omega) | (exact absurd (hc.symm.trans (by assumption : _ = false)) (by decide)) | (exact absurd (hc.symm.trans (by assumption : _ = true)) (by decide))) | skip)) | refine drawK.nn ?_ | refine loopK.x ?_)
        | ((refine JC.drawO [(1,0),(0,1),(0,2),(1,3),(0,4),(1,5),(0,6),(0,7),(2,8)] (by kernel_rfl) (by kernel_rfl) ?_))
        | fail
      all_goals first | (exfalso; omega) | skip
      have oA2 := ‹OwT encBo 1 4 aA vs.length ((truT s ((vs.map pnV).take k) ++ List.replicate (m' + 1) false).set k _) _›
      have oA3 : OwT encBo 1 4 aA vs.length (truT s ((vs.map pnV).take (k + 1)) ++ List.replicate m' false) _ := hset1 ▸ htr ▸ oA2
      refine loopK.nn m' (by omega) (by repeat (first | refine Ag.upd rfl ?_ | exact Ag.hv)) ⟨_, ⟨k + 1, _, ?_, by omega, oA3, rfl⟩, fun w hw => H.sel (l := [_, _, _, _, _]) (M := []) hw [1, 2, 3, 4]⟩
      show Value.int .i64 _ = _; congr 1
    · have hkd : (vs.getD k default).kind = 4 := hkd
      have htr : truS s (truT s ((vs.map pnV).take k)) (pnV (vs.getD k default)) = ((vs.getD k default).l.any fun i => (truT s ((vs.map pnV).take k)).getD i.toNat default) := by
        show truS s (truT s ((vs.map pnV).take k)) ((vs.getD k default).kind, (vs.getD k default).lit, (vs.getD k default).l) = _
        rw [hkd]; rfl
      have hset1 := hset ((vs.getD k default).l.any fun i => (truT s ((vs.map pnV).take k)).getD i.toNat default)
      rw [← htr, ← hnext] at hset1
      unfold slBO
      repeat' first
        | (refine J.isJ ?_; first | (first | (refine J.o 4 ?_; refine J.lT default hΓ ?_ (hs := so) (hr := q0 _)) | (refine J.o 4 ?_; first | refine J.e3 hΓ ?_) | (refine J.o 14 ?_; refine J.mf hΓ ?_) | (refine J.fc 105 ?_; refine J.call0 eConF rfl rfl (fun w hw => conG_any eEvalN2 [.pointer (some ⟨n5, 0, none⟩)] (fun i => (truT s ((vs.map pnV).take k)).getD i.toNat default) (vs.getD k default).a (vs.getD k default).c (vs.getD k default).l h ((n5, slBO aA vs.length vs.length) :: (hA ++ h)) hVs (fun x hx => List.mem_cons_of_mem _ (List.mem_append_right _ hx)) hVl cE2 w (fun x hx => hw.rd (rdc Rd.hd.tl (RdH.append RdH.hd.tl.tl (q0 _)) x hx))) ?_)) | (first | (refine J.o 0 ?_; refine J.ev' hΓ ?_) | refine J.nil ?_ | (refine J.o 4 ?_; first | refine J.lT default hΓ ?_ | refine J.lR hΓ ?_) | (refine J.o 3 ?_; first | refine J.iJ hΓ ?_ | refine J.ev' hΓ ?_) | (refine J.o 1 ?_; first | refine J.ad ?_ | refine J.sb ?_) | (refine J.o 5 ?_; first | refine J.t0 hΓ ?_ | refine J.tT2 _ default hΓ (fun _ _ => ?_)) | (refine J.o 6 ?_; refine J.bx (fun _ => ?_)) | (refine J.o 7 ?_; refine J.al hΓ (fun _ => ?_)) | (refine J.o 10 ?_; refine J.ev' hΓ ?_) | (refine J.o 11 ?_; refine J.ev' hΓ ?_) | (refine J.o 14 ?_; refine J.mf hΓ ?_)))
        | (first | refine JC.seq ?_ | refine JC.region ?_ | refine JC.block ?_ | refine JC.ret ?_ | refine JC.exit ?_ | refine JC.skip ?_ | refine thenK.nn ?_ | refine thenK.r ?_ | refine thenK.x ?_ | refine blockK.nn ?_ | refine blockK.hit rfl ?_ | refine JC.condT rfl ?_ | refine JC.condF rfl ?_ | (refine JC.cond rfl (fun hc => ?_) (fun hc => ?_) <;> ((try simp only [decide_eq_true_eq, decide_eq_false_iff_not, beq_iff_eq, beq_eq_false_iff_ne, bne_iff_ne, bne_eq_false_iff_eq, Bool.not_eq_true', Bool.not_eq_false', Bool.not_eq_true, Bool.not_eq_false] at hc) <;> first | (first | (exact absurd rfl hc) | (exfalso; omega) | (exact absurd (hc.symm.trans (by assumption : _ = false)) (by decide)) | (exact absurd (hc.symm.trans (by assumption : _ = true)) (by decide))) | skip)) | refine drawK.nn ?_ | refine loopK.x ?_)
        | ((refine JC.drawO [(1,0),(0,1),(0,2),(1,3),(0,4),(1,5),(0,6),(2,7)] (by kernel_rfl) (by kernel_rfl) ?_))
        | fail
      all_goals first | (exfalso; omega) | skip
      have oA2 := ‹OwT encBo 1 4 aA vs.length ((truT s ((vs.map pnV).take k) ++ List.replicate (m' + 1) false).set k _) _›
      have oA3 : OwT encBo 1 4 aA vs.length (truT s ((vs.map pnV).take (k + 1)) ++ List.replicate m' false) _ := hset1 ▸ htr ▸ oA2
      refine loopK.nn m' (by omega) (by repeat (first | refine Ag.upd rfl ?_ | exact Ag.hv)) ⟨_, ⟨k + 1, _, ?_, by omega, oA3, rfl⟩, fun w hw => H.sel (l := [_, _, _, _, _]) (M := []) hw [1, 2, 3, 4]⟩
      show Value.int .i64 _ = _; congr 1
end Go.Proofs.Ytbhgahjeocnfcaa
namespace Go.Proofs.Ytbhgahjeocnfcaa
open Go Go.Cx Go.RowKit
set_option linter.unusedVariables false
set_option linter.unusedSimpArgs false
set_option maxHeartbeats 4000000
attribute [local irreducible] J JC thenK blockK loopK drawK retK QW Qt pel List.set Calls
set_option maxRecDepth 8000
attribute [local irreducible] JE Br eK0 eK2 eK3 brK pc
def encS (s : Nat × Nat) : List Value := [.int .u64 (s.1 : Int), .int .u64 (s.2 : Int)]
attribute [local irreducible] mark
end Go.Proofs.Ytbhgahjeocnfcaa
namespace Go.Proofs.Ytbhgahjeocnfcaa
open Go Go.Cx Go.RowKit
set_option linter.unusedVariables false
set_option linter.unusedSimpArgs false
set_option maxHeartbeats 4000000
attribute [local irreducible] J JC thenK blockK loopK drawK retK QW Qt pel List.set Calls
open Go.Maps Go.Lib
set_option maxRecDepth 8000
attribute [local irreducible] JE Br eK0 eK2 eK3 brK pc
def uniS (s t : Nat × Nat) : Nat × Nat := (s.1 ||| t.1, s.2 ||| t.2)
theorem okS_uni {s t : Nat × Nat} (hs : okS s) (ht : okS t) : okS (uniS s t) := ⟨Nat.or_lt_two_pow hs.1 ht.1, Nat.or_lt_two_pow hs.2 ht.2⟩
theorem has_uni (s t : Nat × Nat) (u : Int) : hasB (uniS s t) u = (hasB s u || hasB t u) := by
  unfold hasB uniS
  split
  · exact Nat.testBit_or _ _ _
  · split
    · exact Nat.testBit_or _ _ _
    · rfl
theorem eUnionV : Entr Try.prog 101 := Entr.of Try.func101 rfl rfl
theorem eVarsN : Entr Try.prog 99 := Entr.of Try.func99 rfl rfl
theorem of1_any (v : Int) (b : Nat) (w : World) (hw : Holds [(b, .cells ⟨[.int .i64 v]⟩ 3 (0, 0))] w) : Calls Try.prog 54 #[.slice (some ⟨b, 0, none⟩) 1 1] w fun e w' => e = .returned (sv (withS (0, 0) v)) ∧ Below w.heap.size w w' :=
  of_any (some ⟨b, 0, none⟩) 1 [v] _ (slArg b [v] 3) (by show 1 ≤ 1000000; decide) w hw
theorem unionV_any (s t : Nat × Nat) (hs : okS s) (ht : okS t) (w : World) : Calls Try.prog 101 #[sv s, sv t] w fun e w' => e = .returned (sv (uniS s t)) ∧ Below w.heap.size w w' := by
  obtain ⟨h1, h2⟩ := hs
  obtain ⟨h3, h4⟩ := ht
  refine calls_of_JC (R := []) Try.func101 Try.ntmps101 rfl rfl (Holds.nil _) ?_
  repeat' first
    | (refine J.isJ ?_; first | (first | refine J.nil ?_ | (refine J.o 4 ?_; first | refine J.lR hΓ ?_) | (refine J.o 3 ?_; first | refine J.iA hΓ ?_) | (refine J.o 5 ?_; first | refine J.t0 hΓ ?_) | (refine J.o 6 ?_; refine J.bx (fun _ => ?_)) | (refine J.o 7 ?_; refine J.al hΓ (fun _ => ?_)) | (refine J.o 8 ?_; refine J.bd hΓ ?_)) | ((refine J.o 1 ?_; refine J.oW ?_)))
    | (first | refine JC.seq ?_ | refine JC.region ?_ | refine JC.ret ?_ | refine thenK.nn ?_)
    | fail
  all_goals first | (exfalso; omega) | skip
  all_goals (refine retC hΓ rfl rfl rfl Rd.hd rfl (fun w1 hw => ⟨rfl, hw.below⟩))
def varS (T : List (Nat × Nat)) (x : PN) : Nat × Nat := x.2.2.foldl (fun s k => uniS s (T.getD k.toNat default)) (withS (0, 0) (varI x.2.1))
def varT (X : List PN) : List (Nat × Nat) := X.foldl (fun T x => T ++ [varS T x]) []
theorem varT_snoc (X : List PN) (x : PN) : varT (X ++ [x]) = varT X ++ [varS (varT X) x] := by
  unfold varT; rw [List.foldl_append]; rfl
theorem varT_len : ∀ (X : List PN), (varT X).length = X.length := fun X => by
  have h : ∀ (X : List PN) (T : List (Nat × Nat)), (X.foldl (fun T x => T ++ [varS T x]) T).length = T.length + X.length := fun X => by
    induction X with
    | nil => intro T; rfl
    | cons x X ih => intro T; rw [List.foldl_cons, ih]; simp only [List.length_append, List.length_cons, List.length_nil]; omega
  have := h X []
  rw [List.length_nil, Nat.zero_add] at this
  exact this
theorem okS_d (T : List (Nat × Nat)) (hT : ∀ s, s ∈ T → okS s) (k : Nat) : okS (T.getD k default) := by
  by_cases h : k < T.length
  · exact hT _ (mem_g T k h)
  · rw [List.getD_eq_getElem?_getD, List.getElem?_eq_none (by omega)]; exact okS_zero
theorem okS_fold (T : List (Nat × Nat)) (hT : ∀ s, s ∈ T → okS s) : ∀ (l : List Int) (s : Nat × Nat), okS s → okS (l.foldl (fun s (k : Int) => uniS s (T.getD k.toNat default)) s)
  | [], s, h => h
  | x :: l, s, h => by rw [List.foldl_cons]; exact okS_fold T hT l _ (okS_uni h (okS_d T hT _))
theorem okS_varS (T : List (Nat × Nat)) (hT : ∀ s, s ∈ T → okS s) (x : PN) : okS (varS T x) := okS_fold T hT _ _ (okS_with okS_zero _)
theorem okS_varT : ∀ (X : List PN) (s : Nat × Nat), s ∈ varT X → okS s := fun X => by
  have h : ∀ (X : List PN) (T : List (Nat × Nat)), (∀ s, s ∈ T → okS s) → ∀ s, s ∈ (X.foldl (fun T x => T ++ [varS T x]) T) → okS s := fun X => by
    induction X with
    | nil => intro T hT; exact hT
    | cons x X ih =>
      intro T hT
      rw [List.foldl_cons]
      refine ih _ fun s hs => ?_
      rcases List.mem_append.1 hs with hs | hs
      · exact hT s hs
      · rw [List.mem_singleton.1 hs]; exact okS_varS T hT x
  exact h X [] fun s hs => absurd hs List.not_mem_nil
theorem app_getD {α : Type} [Inhabited α] (s t : List α) (j : Nat) (h : j < s.length) : (s ++ t).getD j default = s.getD j default := by
  rw [List.getD_eq_getElem?_getD, List.getElem?_append_left h, ← List.getD_eq_getElem?_getD]
theorem app_at {α : Type} [Inhabited α] (s : List α) (x : α) (t : List α) : (s ++ x :: t).getD s.length default = x := by
  rw [List.getD_eq_getElem?_getD, List.getElem?_append_right (Nat.le_refl _), Nat.sub_self]; rfl
theorem app_st {α : Type} (s : List α) (x y : α) (t : List α) : (s ++ x :: t).set s.length y = s ++ y :: t := by
  rw [List.set_append_right _ _ (Nat.le_refl _), Nat.sub_self, List.set_cons_zero]
def parV (T : List (Nat × Nat)) (x : PN) (q : Nat) : Nat × Nat := (x.2.2.take q).foldl (fun s k => uniS s (T.getD k.toNat default)) (withS (0, 0) (varI x.2.1))
theorem parV_all (T : List (Nat × Nat)) (x : PN) (q : Nat) (h : x.2.2.length ≤ q) : parV T x q = varS T x := by
  unfold parV varS; rw [List.take_of_length_le h]
theorem parV_step (T : List (Nat × Nat)) (x : PN) (q : Nat) (h : q < x.2.2.length) : parV T x (q + 1) = uniS (parV T x q) (T.getD (x.2.2.getD q default).toNat default) := by
  unfold parV; rw [take_g _ q h, List.foldl_append]; rfl
theorem okS_par (T : List (Nat × Nat)) (hT : ∀ s, s ∈ T → okS s) (x : PN) (q : Nat) : okS (parV T x q) := okS_fold T hT _ _ (okS_with okS_zero _)
set_option maxHeartbeats 16000000 in
theorem vars_any (N : Int) (a : Option Addr) (cap : Nat) (vs : List NV) (h : Heap) (hr : NetIn a vs h) (w : World) (hw : Holds h w) :
    Calls Try.prog 99 #[.agg ⟨[.int .i64 N, .slice a vs.length cap]⟩] w (Gives (fun v g => ∃ a' c', v = .slice a' (if checkP N (vs.map pnV) = true then varT (vs.map pnV) else []).length c' ∧ SlT encS 2 a' (if checkP N (vs.map pnV) = true then varT (vs.map pnV) else []) g) w) := by
  have q0 : ∀ L, RdH h L h := fun L => RdH.old fun _ hh => hh
  have cC := fun w hw => checkN_any N a cap vs h hr w hw
  obtain ⟨so, si, sl, hl⟩ := hr
  have hX : (vs.map pnV).length = vs.length := List.length_map ..
  cases hC : checkP N (vs.map pnV) with
  | false =>
    rw [hC, if_neg (by decide)] at cC
    rw [if_neg (by decide)]
    refine calls_of_JC (R := h) Try.func99 Try.ntmps99 rfl rfl (hw) ?_
    repeat' first
      | (refine J.isJ ?_; first | (first | (refine J.o 0 ?_; refine J.ev' hΓ ?_) | refine J.nil ?_ | (refine J.o 4 ?_; first | refine J.lT default hΓ ?_ | refine J.lR hΓ ?_) | (refine J.o 3 ?_; first | refine J.iJ hΓ ?_ | refine J.ev' hΓ ?_) | (refine J.o 1 ?_; first | refine J.ad ?_) | (refine J.o 5 ?_; first | refine J.t0 hΓ ?_ | refine J.tT _ default hΓ (fun _ _ => ?_)) | (refine J.o 6 ?_; refine J.bx (fun _ => ?_)) | (refine J.o 7 ?_; refine J.al hΓ (fun _ => ?_)) | (refine J.o 9 ?_; refine J.bl hΓ (fun _ => ?_)) | (refine J.o 10 ?_; refine J.ev' hΓ ?_) | (refine J.o 11 ?_; refine J.ev' hΓ ?_)) | ((refine J.fc 45 ?_; refine J.call0 eCheckN rfl rfl (fun w hw => cC w (hw.rdH (q0 _))) ?_)))
      | (first | refine JC.seq ?_ | refine JC.region ?_ | refine JC.block ?_ | refine JC.ret ?_ | refine JC.exit ?_ | refine JC.skip ?_ | refine thenK.nn ?_ | refine thenK.r ?_ | refine thenK.x ?_ | refine blockK.nn ?_ | refine blockK.hit rfl ?_ | refine JC.condT rfl ?_ | refine JC.condF rfl ?_ | (refine JC.cond rfl (fun hc => ?_) (fun hc => ?_) <;> ((try simp only [decide_eq_true_eq, decide_eq_false_iff_not, beq_iff_eq, beq_eq_false_iff_ne, bne_iff_ne, bne_eq_false_iff_eq, Bool.not_eq_true', Bool.not_eq_false', Bool.not_eq_true, Bool.not_eq_false] at hc) <;> first | (first | (exact absurd rfl hc) | (exfalso; omega) | (exact absurd (hc.symm.trans (by assumption : _ = false)) (by decide)) | (exact absurd (hc.symm.trans (by assumption : _ = true)) (by decide))) | skip)) | refine drawK.nn ?_ | refine loopK.x ?_)
      | fail
    all_goals first | (exfalso; omega) | skip
    exact ret1f rfl rfl rfl (fun w1 hw => Gives.of (H.sel (l := [_]) (M := []) hw [0]) ⟨none, 0, rfl, ⟨fun _ => rfl, fun i hi => absurd hi (Nat.not_lt_zero _)⟩⟩)
  | true =>
    rw [hC, if_pos rfl] at cC
    rw [if_pos rfl, varT_len, hX]
    obtain ⟨hN, hM, hFA⟩ := check_facts hC
    rw [hX] at hM
    refine calls_of_JC (R := h) Try.func99 Try.ntmps99 rfl rfl (hw) ?_
    repeat' first
      | (refine J.isJ ?_; first | (first | (refine J.fc 45 ?_; refine J.call0 eCheckN rfl rfl (fun w hw => cC w (hw.rdH (q0 _))) ?_) | (refine J.o 9 ?_; refine J.make (enc := encS) (m := vs.length) ((0, 0) : Nat × Nat) hΓ rfl rfl rfl rfl rfl rfl (fun _ => rfl) (by omega) (by omega) (fun bA hA oA => ?_); generalize (some (⟨bA, 0, none⟩ : Addr)) = aA at oA ⊢)) | (first | (refine J.o 0 ?_; refine J.ev' hΓ ?_) | refine J.nil ?_ | (refine J.o 4 ?_; first | refine J.lT default hΓ ?_ | refine J.lR hΓ ?_) | (refine J.o 3 ?_; first | refine J.iJ hΓ ?_ | refine J.ev' hΓ ?_) | (refine J.o 1 ?_; first | refine J.ad ?_) | (refine J.o 5 ?_; first | refine J.t0 hΓ ?_ | refine J.tT _ default hΓ (fun _ _ => ?_)) | (refine J.o 6 ?_; refine J.bx (fun _ => ?_)) | (refine J.o 7 ?_; refine J.al hΓ (fun _ => ?_)) | (refine J.o 9 ?_; refine J.bl hΓ (fun _ => ?_)) | (refine J.o 10 ?_; refine J.ev' hΓ ?_) | (refine J.o 11 ?_; refine J.ev' hΓ ?_)))
      | (first | refine JC.seq ?_ | refine JC.region ?_ | refine JC.block ?_ | refine JC.ret ?_ | refine JC.exit ?_ | refine JC.skip ?_ | refine thenK.nn ?_ | refine thenK.r ?_ | refine thenK.x ?_ | refine blockK.nn ?_ | refine blockK.hit rfl ?_ | refine JC.condT rfl ?_ | refine JC.condF rfl ?_ | (refine JC.cond rfl (fun hc => ?_) (fun hc => ?_) <;> ((try simp only [decide_eq_true_eq, decide_eq_false_iff_not, beq_iff_eq, beq_eq_false_iff_ne, bne_iff_ne, bne_eq_false_iff_eq, Bool.not_eq_true', Bool.not_eq_false', Bool.not_eq_true, Bool.not_eq_false] at hc) <;> first | (first | (exact absurd rfl hc) | (exfalso; omega) | (exact absurd (hc.symm.trans (by assumption : _ = false)) (by decide)) | (exact absurd (hc.symm.trans (by assumption : _ = true)) (by decide))) | skip)) | refine drawK.nn ?_ | refine loopK.x ?_)
      | (fail)
      | fail
    all_goals first | (exfalso; omega) | skip
    rename_i n1
    refine JC.weak (L' := [hA]) (fun w hw => H.sel (l := [_, _]) (M := []) hw [0]) ?_
    refine JC.gen [(3, .slice aA vs.length vs.length), (16, .slice a vs.length cap), (17, .int .i64 vs.length), (18, .int .i64 0)] ⟨rfl, rfl, rfl, rfl, trivial⟩ (fun F1 => ?_)
    refine JC.loopG (fun i => i == 4 || i == 5 || i == 7 || Nat.ble 18 i) (fun m g L' => ∃ (k : Nat) (hA : Heap), g 18 = .int .i64 (k : Int) ∧ k + m = vs.length ∧ OwT encS 2 53 aA vs.length (varT ((vs.map pnV).take k) ++ List.replicate m (0, 0)) hA ∧ L' = [hA]) vs.length ⟨0, hA, rfl, by omega, oA, rfl⟩ ?_
    clear oA
    rintro m g L' ⟨k, hA, e18, hkm, oA, rfl⟩
    refine JC.pin 18 e18 ?_
    clear e18
    have hst := varT_len ((vs.map pnV).take k)
    rw [List.length_take, hX] at hst
    have hlT : (varT ((vs.map pnV).take k) ++ List.replicate m ((0, 0) : Nat × Nat)).length = vs.length := by rw [List.length_append, List.length_replicate]; omega
    rcases Nat.lt_or_ge k vs.length with hk | hk
    case inr =>
      have hm0 : m = 0 := by omega
      subst hm0
      rw [List.take_of_length_le (by omega), List.replicate_zero, List.append_nil] at oA
      repeat' first
        | (refine J.isJ ?_; first | (fail) | (first | (refine J.o 0 ?_; refine J.ev' hΓ ?_) | refine J.nil ?_ | (refine J.o 4 ?_; first | refine J.lT default hΓ ?_ | refine J.lR hΓ ?_) | (refine J.o 3 ?_; first | refine J.iJ hΓ ?_ | refine J.ev' hΓ ?_) | (refine J.o 1 ?_; first | refine J.ad ?_) | (refine J.o 5 ?_; first | refine J.t0 hΓ ?_ | refine J.tT _ default hΓ (fun _ _ => ?_)) | (refine J.o 6 ?_; refine J.bx (fun _ => ?_)) | (refine J.o 7 ?_; refine J.al hΓ (fun _ => ?_)) | (refine J.o 9 ?_; refine J.bl hΓ (fun _ => ?_)) | (refine J.o 10 ?_; refine J.ev' hΓ ?_) | (refine J.o 11 ?_; refine J.ev' hΓ ?_)))
        | (first | refine JC.seq ?_ | refine JC.region ?_ | refine JC.block ?_ | refine JC.ret ?_ | refine JC.exit ?_ | refine JC.skip ?_ | refine thenK.nn ?_ | refine thenK.r ?_ | refine thenK.x ?_ | refine blockK.nn ?_ | refine blockK.hit rfl ?_ | refine JC.condT rfl ?_ | refine JC.condF rfl ?_ | (refine JC.cond rfl (fun hc => ?_) (fun hc => ?_) <;> ((try simp only [decide_eq_true_eq, decide_eq_false_iff_not, beq_iff_eq, beq_eq_false_iff_ne, bne_iff_ne, bne_eq_false_iff_eq, Bool.not_eq_true', Bool.not_eq_false', Bool.not_eq_true, Bool.not_eq_false] at hc) <;> first | (first | (exact absurd rfl hc) | (exfalso; omega) | (exact absurd (hc.symm.trans (by assumption : _ = false)) (by decide)) | (exact absurd (hc.symm.trans (by assumption : _ = true)) (by decide))) | skip)) | refine drawK.nn ?_ | refine loopK.x ?_)
        | (fail)
        | fail
      all_goals first | (exfalso; omega) | exact ret1f rfl rfl rfl (fun w1 hw => Gives.of hw ⟨aA, vs.length, rfl, oA.sl⟩)
    have hkX : k < (vs.map pnV).length := by omega
    have hmk := mem_g vs k hk
    have hVl := sl _ hmk
    have hVs := si _ hmk
    have hfk : formedP (pnV (vs.getD k default)) N k = true := by
      have := formAll_at N (vs.map pnV) 0 hFA k hkX
      rw [Int.zero_add, getD_map] at this
      exact this
    have hVo : ∀ i, i ∈ (vs.getD k default).l → 0 ≤ i ∧ i < k := formed_rng hfk
    have hnext : varT ((vs.map pnV).take (k + 1)) = varT ((vs.map pnV).take k) ++ [varS (varT ((vs.map pnV).take k)) (pnV (vs.getD k default))] := by
      rw [take_g _ k hkX, varT_snoc, getD_map]
    obtain ⟨m', rfl⟩ : ∃ m', m = m' + 1 := ⟨m - 1, by omega⟩
    have hokT := okS_varT ((vs.map pnV).take k)
    have hlk : (varT ((vs.map pnV).take k)).length = k := by omega
    generalize varT ((vs.map pnV).take k) = T at *
    have hset : (T ++ List.replicate (m' + 1) ((0, 0) : Nat × Nat)).set k (parV T (pnV (vs.getD k default)) 0) = T ++ parV T (pnV (vs.getD k default)) 0 :: List.replicate m' (0, 0) := by
      have := app_st T (0, 0) (parV T (pnV (vs.getD k default)) 0) (List.replicate m' ((0, 0) : Nat × Nat))
      rw [hlk] at this
      rw [List.replicate_succ]; exact this
    repeat' first
      | (refine J.isJ ?_; first | (first | (refine J.o 4 ?_; refine J.lT default hΓ ?_ (hs := so) (hr := q0 _)) | (refine J.fc 59 ?_; refine J.call0 eVarL rfl rfl (fun w hw => varL_any (vs.getD k default).lit w) ?_) | (refine J.fc 54 ?_; refine J.call0 eOf rfl rfl (fun w hw => of1_any (varI (vs.getD k default).lit) _ w (hw.rdH RdH.hd)) ?_) | (refine J.o 5 ?_; refine J.perm br2 ?_; refine J.tT (parV T (pnV (vs.getD k default)) 0) default hΓ (fun hA2 oA2 => ?_))) | (first | (refine J.o 0 ?_; refine J.ev' hΓ ?_) | refine J.nil ?_ | (refine J.o 4 ?_; first | refine J.lT default hΓ ?_ | refine J.lR hΓ ?_) | (refine J.o 3 ?_; first | refine J.iJ hΓ ?_ | refine J.ev' hΓ ?_) | (refine J.o 1 ?_; first | refine J.ad ?_) | (refine J.o 5 ?_; first | refine J.t0 hΓ ?_ | refine J.tT _ default hΓ (fun _ _ => ?_)) | (refine J.o 6 ?_; refine J.bx (fun _ => ?_)) | (refine J.o 7 ?_; refine J.al hΓ (fun _ => ?_)) | (refine J.o 9 ?_; refine J.bl hΓ (fun _ => ?_)) | (refine J.o 10 ?_; refine J.ev' hΓ ?_) | (refine J.o 11 ?_; refine J.ev' hΓ ?_)))
      | (first | refine JC.seq ?_ | refine JC.region ?_ | refine JC.block ?_ | refine JC.ret ?_ | refine JC.exit ?_ | refine JC.skip ?_ | refine thenK.nn ?_ | refine thenK.r ?_ | refine thenK.x ?_ | refine blockK.nn ?_ | refine blockK.hit rfl ?_ | refine JC.condT rfl ?_ | refine JC.condF rfl ?_ | (refine JC.cond rfl (fun hc => ?_) (fun hc => ?_) <;> ((try simp only [decide_eq_true_eq, decide_eq_false_iff_not, beq_iff_eq, beq_eq_false_iff_ne, bne_iff_ne, bne_eq_false_iff_eq, Bool.not_eq_true', Bool.not_eq_false', Bool.not_eq_true, Bool.not_eq_false] at hc) <;> first | (first | (exact absurd rfl hc) | (exfalso; omega) | (exact absurd (hc.symm.trans (by assumption : _ = false)) (by decide)) | (exact absurd (hc.symm.trans (by assumption : _ = true)) (by decide))) | skip)) | refine drawK.nn ?_ | refine loopK.x ?_)
      | ((refine JC.drawN [] [] (by kernel_rfl) (by kernel_rfl) ?_))
      | fail
    all_goals first | (exfalso; omega) | skip
    rename_i oA2
    rw [hset] at oA2
    refine JC.loopG (fun i => i == 7 || Nat.ble 34 i) (fun m2 g L' => ∃ (q : Nat) (hA : Heap), g 34 = .int .i64 (q : Int) ∧ q + m2 = (vs.getD k default).l.length ∧ OwT encS 2 53 aA vs.length (T ++ parV T (pnV (vs.getD k default)) q :: List.replicate m' (0, 0)) hA ∧ L' = hA :: _) (vs.getD k default).l.length ⟨0, _, rfl, by omega, oA2, rfl⟩ ?_
    clear oA oA2
    rintro m2 g2 L' ⟨q, hA, e34, hqm, oA, rfl⟩
    refine JC.pin 34 e34 ?_
    clear e34
    rcases Nat.lt_or_ge q (vs.getD k default).l.length with hq | hq
    case inr =>
      rw [parV_all _ _ _ hq] at oA
      repeat' first
        | (refine J.isJ ?_; first | (fail) | (first | (refine J.o 0 ?_; refine J.ev' hΓ ?_) | refine J.nil ?_ | (refine J.o 4 ?_; first | refine J.lT default hΓ ?_ | refine J.lR hΓ ?_) | (refine J.o 3 ?_; first | refine J.iJ hΓ ?_ | refine J.ev' hΓ ?_) | (refine J.o 1 ?_; first | refine J.ad ?_) | (refine J.o 5 ?_; first | refine J.t0 hΓ ?_ | refine J.tT _ default hΓ (fun _ _ => ?_)) | (refine J.o 6 ?_; refine J.bx (fun _ => ?_)) | (refine J.o 7 ?_; refine J.al hΓ (fun _ => ?_)) | (refine J.o 9 ?_; refine J.bl hΓ (fun _ => ?_)) | (refine J.o 10 ?_; refine J.ev' hΓ ?_) | (refine J.o 11 ?_; refine J.ev' hΓ ?_)))
        | (first | refine JC.seq ?_ | refine JC.region ?_ | refine JC.block ?_ | refine JC.ret ?_ | refine JC.exit ?_ | refine JC.skip ?_ | refine thenK.nn ?_ | refine thenK.r ?_ | refine thenK.x ?_ | refine blockK.nn ?_ | refine blockK.hit rfl ?_ | refine JC.condT rfl ?_ | refine JC.condF rfl ?_ | (refine JC.cond rfl (fun hc => ?_) (fun hc => ?_) <;> ((try simp only [decide_eq_true_eq, decide_eq_false_iff_not, beq_iff_eq, beq_eq_false_iff_ne, bne_iff_ne, bne_eq_false_iff_eq, Bool.not_eq_true', Bool.not_eq_false', Bool.not_eq_true, Bool.not_eq_false] at hc) <;> first | (first | (exact absurd rfl hc) | (exfalso; omega) | (exact absurd (hc.symm.trans (by assumption : _ = false)) (by decide)) | (exact absurd (hc.symm.trans (by assumption : _ = true)) (by decide))) | skip)) | refine drawK.nn ?_ | refine loopK.x ?_)
        | (fail)
        | fail
      all_goals first | (exfalso; omega) | skip
      have e : T ++ varS T (pnV (vs.getD k default)) :: List.replicate m' ((0, 0) : Nat × Nat) = varT ((vs.map pnV).take (k + 1)) ++ List.replicate m' (0, 0) := by rw [hnext, List.append_assoc]; rfl
      rw [e] at oA
      refine loopK.nn m' (by omega) (by repeat (first | refine Ag.upd rfl ?_ | exact Ag.hv | refine Ag.hv2 (fun i hi => by simp at hi ⊢; omega) ?_)) ⟨_, ⟨k + 1, hA, ?_, by omega, oA, rfl⟩, fun w hw => H.sel (l := [_, _, _]) (M := []) hw [0]⟩
      show Value.int .i64 _ = _; congr 1
    have hxq := hVo _ (mem_g (vs.getD k default).l q hq)
    have g1 := app_at T (parV T (pnV (vs.getD k default)) q) (List.replicate m' (0, 0))
    rw [hlk] at g1
    have g2 : (T ++ parV T (pnV (vs.getD k default)) q :: List.replicate m' (0, 0)).getD ((vs.getD k default).l.getD q default).toNat default = T.getD ((vs.getD k default).l.getD q default).toNat default := app_getD _ _ _ (by omega)
    have hl5 : (T ++ parV T (pnV (vs.getD k default)) q :: List.replicate m' ((0, 0) : Nat × Nat)).length = vs.length := by rw [List.length_append, List.length_cons, List.length_replicate]; omega
    have cU := fun w => unionV_any (parV T (pnV (vs.getD k default)) q) (T.getD ((vs.getD k default).l.getD q default).toNat default) (okS_par T hokT _ _) (okS_d T hokT _) w
    have hstp := parV_step T (pnV (vs.getD k default)) q hq
    have hstp : parV T (pnV (vs.getD k default)) (q + 1) = uniS (parV T (pnV (vs.getD k default)) q) (T.getD ((vs.getD k default).l.getD q default).toNat default) := hstp
    rw [← hstp] at cU
    have hset2 := app_st T (parV T (pnV (vs.getD k default)) q) (parV T (pnV (vs.getD k default)) (q + 1)) (List.replicate m' ((0, 0) : Nat × Nat))
    rw [hlk] at hset2
    have hVs2 := hVs
    repeat' first
      | (refine J.isJ ?_; first | (first | (refine J.o 4 ?_; first | refine J.lT default hΓ ?_ (hs := hVs2) (hr := q0 _) | (refine J.lT default hΓ ?_ (hs := oA.sl) (hr := RdH.hd); first | rw [g1] | rw [g2])) | (refine J.fc 101 ?_; refine J.call0 eUnionV rfl rfl (fun w hw => cU w) ?_) | (refine J.o 5 ?_; refine J.tT (parV T (pnV (vs.getD k default)) (q + 1)) default hΓ (fun hA2 oA2 => ?_))) | (first | (refine J.o 0 ?_; refine J.ev' hΓ ?_) | refine J.nil ?_ | (refine J.o 4 ?_; first | refine J.lT default hΓ ?_ | refine J.lR hΓ ?_) | (refine J.o 3 ?_; first | refine J.iJ hΓ ?_ | refine J.ev' hΓ ?_) | (refine J.o 1 ?_; first | refine J.ad ?_) | (refine J.o 5 ?_; first | refine J.t0 hΓ ?_ | refine J.tT _ default hΓ (fun _ _ => ?_)) | (refine J.o 6 ?_; refine J.bx (fun _ => ?_)) | (refine J.o 7 ?_; refine J.al hΓ (fun _ => ?_)) | (refine J.o 9 ?_; refine J.bl hΓ (fun _ => ?_)) | (refine J.o 10 ?_; refine J.ev' hΓ ?_) | (refine J.o 11 ?_; refine J.ev' hΓ ?_)))
      | (first | refine JC.seq ?_ | refine JC.region ?_ | refine JC.block ?_ | refine JC.ret ?_ | refine JC.exit ?_ | refine JC.skip ?_ | refine thenK.nn ?_ | refine thenK.r ?_ | refine thenK.x ?_ | refine blockK.nn ?_ | refine blockK.hit rfl ?_ | refine JC.condT rfl ?_ | refine JC.condF rfl ?_ | (refine JC.cond rfl (fun hc => ?_) (fun hc => ?_) <;> ((try simp only [decide_eq_true_eq, decide_eq_false_iff_not, beq_iff_eq, beq_eq_false_iff_ne, bne_iff_ne, bne_eq_false_iff_eq, Bool.not_eq_true', Bool.not_eq_false', Bool.not_eq_true, Bool.not_eq_false] at hc) <;> first | (first | (exact absurd rfl hc) | (exfalso; omega) | (exact absurd (hc.symm.trans (by assumption : _ = false)) (by decide)) | (exact absurd (hc.symm.trans (by assumption : _ = true)) (by decide))) | skip)) | refine drawK.nn ?_ | refine loopK.x ?_)
      | ((refine JC.drawO [(0,0),(0,1),(0,2),(0,3),(0,4),(1,5),(0,6),(0,7),(0,8),(1,9),(1,10),(0,11),(2,12)] (by kernel_rfl) (by kernel_rfl) ?_))
      | fail
    all_goals first | (exfalso; omega) | skip
    rename_i oA2
    rw [hset2] at oA2
    refine loopK.nn (m2 - 1) (by omega) (by repeat (first | refine Ag.upd rfl ?_ | exact Ag.hv)) ⟨_, ⟨q + 1, _, ?_, by omega, oA2, rfl⟩, fun w hw => hw⟩
    show Value.int .i64 _ = _; congr 1
end Go.Proofs.Ytbhgahjeocnfcaa
namespace Go.Proofs.Ytbhgahjeocnfcaa
open Go Go.Cx Go.RowKit
set_option linter.unusedVariables false
set_option linter.unusedSimpArgs false
set_option maxHeartbeats 4000000
attribute [local irreducible] J JC thenK blockK loopK drawK retK QW Qt pel List.set Calls
open Go.Maps Go.Lib
set_option maxRecDepth 8000
attribute [local irreducible] JE Br eK0 eK2 eK3 brK pc
theorem eOpp1 : Entr Try.prog 139 := Entr.of Try.func139 rfl rfl
theorem eOpp : Entr Try.prog 102 := Entr.of Try.func102 rfl rfl
theorem eHeads : Entr Try.prog 103 := Entr.of Try.func103 rfl rfl
theorem eDecomp : Entr Try.prog 46 := Entr.of Try.func46 rfl rfl
theorem eDecis : Entr Try.prog 47 := Entr.of Try.func47 rfl rfl
def oppT (a : List Int) (T : List Bool) : List Bool := a.foldl (fun T (x : Int) => T.set (128 + x).toNat true) T
theorem oppT_len : ∀ (a : List Int) (T : List Bool), (oppT a T).length = T.length
  | [], _ => rfl
  | x :: a, T => by
    show (oppT a (T.set _ true)).length = _
    rw [oppT_len a, List.length_set]
theorem oppT_get : ∀ (a : List Int) (T : List Bool) (j : Nat), j < T.length → (oppT a T).getD j default = (T.getD j default || a.any fun x => decide ((128 + x).toNat = j))
  | [], T, j, _ => by simp [oppT]
  | x :: a, T, j, h => by
    show (oppT a (T.set _ true)).getD j default = _
    rw [oppT_get a _ j (by rw [List.length_set]; exact h), List.any_cons, List.getD_eq_getElem?_getD, List.getElem?_set]
    by_cases e : (128 + x).toNat = j
    · rw [if_pos e, if_pos (by omega), decide_eq_true e]
      simp
    · rw [if_neg e, decide_eq_false e, Bool.false_or, List.getD_eq_getElem?_getD]
theorem oppT_snoc (a : List Int) (x : Int) (T : List Bool) : oppT (a ++ [x]) T = (oppT a T).set (128 + x).toNat true := by
  unfold oppT; rw [List.foldl_append]; rfl
def oppP (a b : List Int) : Bool := b.any fun l => (oppT a (List.replicate 257 false)).getD (128 - l).toNat default
theorem oppP_true {a b : List Int} {l : Int} (ha : -l ∈ a) (hb : l ∈ b) (h : -128 ≤ l ∧ l ≤ 128) : oppP a b = true := by
  unfold oppP
  refine List.any_eq_true.2 ⟨l, hb, ?_⟩
  rw [oppT_get a _ _ (by rw [List.length_replicate]; omega)]
  have : a.any (fun x => decide ((128 + x).toNat = (128 - l).toNat)) = true := List.any_eq_true.2 ⟨-l, ha, decide_eq_true (by omega)⟩
  rw [this, Bool.or_true]
def R128 (a : List Int) : Prop := ∀ l ∈ a, -128 ≤ l ∧ l ≤ 128
theorem opp1_any (l : Int) (hl : -128 ≤ l ∧ l ≤ 128) (b : Nat) (T : List Bool) (hT : Heap) (hs : SlT encBo 1 (some ⟨b, 0, none⟩) T hT) (h257 : T.length = 257) (w : World) (hw : Holds hT w) :
    Calls Try.prog 139 #[.int .i64 l, .pointer (some ⟨b, 0, none⟩)] w fun e w' => e = .returned (.bool (T.getD (128 - l).toNat default)) ∧ Below w.heap.size w w' := by
  have q0 : ∀ L, RdH hT L hT := fun L => RdH.old fun _ hh => hh
  refine calls_of_JC (R := hT) Try.func139 Try.ntmps139 rfl rfl (hw) ?_
  repeat' first
    | (refine J.isJ ?_; first | (first | (refine J.o 3 ?_; refine J.iP (t := 177) hΓ ?_) | (refine J.o 4 ?_; refine J.lT default hΓ ?_ (hs := hs) (hr := q0 _))) | (first | (refine J.o 0 ?_; refine J.ev' hΓ ?_) | refine J.nil ?_ | (refine J.o 4 ?_; first | refine J.lT default hΓ ?_) | (refine J.o 3 ?_; first | refine J.ev' hΓ ?_) | (refine J.o 1 ?_; first | refine J.sb ?_) | (refine J.o 10 ?_; refine J.ev' hΓ ?_) | (refine J.o 11 ?_; refine J.ev' hΓ ?_)))
    | (first | refine JC.seq ?_ | refine JC.region ?_ | refine JC.ret ?_ | refine thenK.nn ?_)
    | (fail)
    | fail
  all_goals first | (exfalso; omega) | skip
  exact ret1f rfl rfl rfl (fun w1 hw => ⟨rfl, hw.below⟩)
theorem opp_any (a b : List Int) (ha : R128 a) (hb : R128 b) (hal : a.length ≤ 1000000) (hbl : b.length ≤ 1000000) (aa ab : Option Addr) (ca cb : Nat) (h : Heap) (sa : SlT encI 1 aa a h) (sb : SlT encI 1 ab b h) (w : World) (hw : Holds h w) :
    Calls Try.prog 102 #[.slice aa a.length ca, .slice ab b.length cb] w fun e w' => e = .returned (.bool (oppP a b)) ∧ Below w.heap.size w w' := by
  have q0 : ∀ L, RdH h L h := fun L => RdH.old fun _ hh => hh
  refine calls_of_JC (R := h) Try.func102 Try.ntmps102 rfl rfl (hw) ?_
  repeat' first
    | (refine J.isJ ?_; first | ((refine J.o 7 ?_; refine J.alA (t := 177) encBo 1 257 false (fun _ => rfl) hΓ (fun bp hp op => ?_))) | (first | (refine J.o 0 ?_; refine J.ev' hΓ ?_) | refine J.nil ?_ | (refine J.o 4 ?_; first | refine J.lT default hΓ ?_) | (refine J.o 3 ?_; first | refine J.iJ hΓ ?_ | refine J.ev' hΓ ?_) | (refine J.o 1 ?_; first | refine J.ad ?_) | (refine J.o 5 ?_; first | refine J.tT _ default hΓ (fun _ _ => ?_)) | (refine J.o 10 ?_; refine J.ev' hΓ ?_) | (refine J.o 11 ?_; refine J.ev' hΓ ?_) | (refine J.o 14 ?_; refine J.mf hΓ ?_)))
    | (first | refine JC.seq ?_ | refine JC.region ?_ | refine JC.block ?_ | refine JC.ret ?_ | refine JC.exit ?_ | refine JC.skip ?_ | refine thenK.nn ?_ | refine thenK.x ?_ | refine blockK.nn ?_ | refine blockK.hit rfl ?_ | (refine JC.cond rfl (fun hc => ?_) (fun hc => ?_) <;> ((try simp only [decide_eq_true_eq, decide_eq_false_iff_not, beq_iff_eq, beq_eq_false_iff_ne, bne_iff_ne, bne_eq_false_iff_eq, Bool.not_eq_true', Bool.not_eq_false', Bool.not_eq_true, Bool.not_eq_false] at hc) <;> first | (first | (exact absurd rfl hc) | (exfalso; omega) | (exact absurd (hc.symm.trans (by assumption : _ = false)) (by decide)) | (exact absurd (hc.symm.trans (by assumption : _ = true)) (by decide))) | skip)) | refine loopK.x ?_)
    | (fail)
    | fail
  all_goals first | (exfalso; omega) | skip
  refine JC.loop (fun i => i == 7 || Nat.ble 10 i) (fun m g L' => ∃ (k : Nat) (hT : Heap), g 10 = .int .i64 (k : Int) ∧ k + m = a.length ∧ OwT encBo 1 177 (some ⟨bp, 0, none⟩) 257 (oppT (a.take k) (List.replicate 257 false)) hT ∧ L' = [hT]) a.length ⟨0, hp, rfl, by omega, op, rfl⟩ ?_
  clear op hp
  rintro m g L' ⟨k, hT, e10, hkm, oT, rfl⟩
  refine JC.pin 10 e10 ?_
  clear e10
  have hTl : (oppT (a.take k) (List.replicate 257 false)).length = 257 := by rw [oppT_len, List.length_replicate]
  rcases Nat.lt_or_ge k a.length with hk | hk
  case inr =>
    rw [List.take_of_length_le hk] at oT hTl
    have cC := fun w hw => conG_any eOpp1 [.pointer (some ⟨bp, 0, none⟩)] (fun l => (oppT a (List.replicate 257 false)).getD (128 - l).toNat default) ab cb b h (hT ++ h) sb (fun x hx => List.mem_append_right _ hx) (by omega) (fun x hx w hw => opp1_any x (hb x hx) bp _ hT oT.sl hTl w (fun y hy => hw y (List.mem_append_left _ hy))) w hw
    repeat' first
      | (refine J.isJ ?_; first | (first | (refine J.o 14 ?_; refine J.mf hΓ ?_) | (refine J.fc 105 ?_; refine J.call0 eConF rfl rfl (fun w hw => cC w ((hw.rdH RdH.hd).append (hw.rdH (q0 _)))) ?_)) | (first | (refine J.o 0 ?_; refine J.ev' hΓ ?_) | refine J.nil ?_ | (refine J.o 4 ?_; first | refine J.lT default hΓ ?_) | (refine J.o 3 ?_; first | refine J.iJ hΓ ?_ | refine J.ev' hΓ ?_) | (refine J.o 1 ?_; first | refine J.ad ?_) | (refine J.o 5 ?_; first | refine J.tT _ default hΓ (fun _ _ => ?_)) | (refine J.o 10 ?_; refine J.ev' hΓ ?_) | (refine J.o 11 ?_; refine J.ev' hΓ ?_) | (refine J.o 14 ?_; refine J.mf hΓ ?_)))
      | (first | refine JC.seq ?_ | refine JC.region ?_ | refine JC.block ?_ | refine JC.ret ?_ | refine JC.exit ?_ | refine JC.skip ?_ | refine thenK.nn ?_ | refine thenK.x ?_ | refine blockK.nn ?_ | refine blockK.hit rfl ?_ | (refine JC.cond rfl (fun hc => ?_) (fun hc => ?_) <;> ((try simp only [decide_eq_true_eq, decide_eq_false_iff_not, beq_iff_eq, beq_eq_false_iff_ne, bne_iff_ne, bne_eq_false_iff_eq, Bool.not_eq_true', Bool.not_eq_false', Bool.not_eq_true, Bool.not_eq_false] at hc) <;> first | (first | (exact absurd rfl hc) | (exfalso; omega) | (exact absurd (hc.symm.trans (by assumption : _ = false)) (by decide)) | (exact absurd (hc.symm.trans (by assumption : _ = true)) (by decide))) | skip)) | refine loopK.x ?_)
      | (fail)
      | fail
    all_goals first | (exfalso; omega) | skip
    exact ret1f rfl rfl rfl (fun w1 hw => ⟨rfl, hw.below⟩)
  have hx := ha _ (mem_g a k hk)
  have hsn := oppT_snoc (a.take k) (a.getD k default) (List.replicate 257 false)
  rw [← take_g a k hk] at hsn
  repeat' first
    | (refine J.isJ ?_; first | (first | (refine J.o 3 ?_; first | refine J.iP (t := 177) hΓ ?_ | refine J.iJ hΓ ?_ (hs := sa)) | (refine J.o 4 ?_; refine J.lT default hΓ ?_ (hs := sa) (hr := q0 _)) | (refine J.o 5 ?_; refine J.tT true default hΓ (fun h5 o5 => ?_))) | (first | (refine J.o 0 ?_; refine J.ev' hΓ ?_) | refine J.nil ?_ | (refine J.o 4 ?_; first | refine J.lT default hΓ ?_) | (refine J.o 3 ?_; first | refine J.iJ hΓ ?_ | refine J.ev' hΓ ?_) | (refine J.o 1 ?_; first | refine J.ad ?_) | (refine J.o 5 ?_; first | refine J.tT _ default hΓ (fun _ _ => ?_)) | (refine J.o 10 ?_; refine J.ev' hΓ ?_) | (refine J.o 11 ?_; refine J.ev' hΓ ?_) | (refine J.o 14 ?_; refine J.mf hΓ ?_)))
    | (first | refine JC.seq ?_ | refine JC.region ?_ | refine JC.block ?_ | refine JC.ret ?_ | refine JC.exit ?_ | refine JC.skip ?_ | refine thenK.nn ?_ | refine thenK.x ?_ | refine blockK.nn ?_ | refine blockK.hit rfl ?_ | (refine JC.cond rfl (fun hc => ?_) (fun hc => ?_) <;> ((try simp only [decide_eq_true_eq, decide_eq_false_iff_not, beq_iff_eq, beq_eq_false_iff_ne, bne_iff_ne, bne_eq_false_iff_eq, Bool.not_eq_true', Bool.not_eq_false', Bool.not_eq_true, Bool.not_eq_false] at hc) <;> first | (first | (exact absurd rfl hc) | (exfalso; omega) | (exact absurd (hc.symm.trans (by assumption : _ = false)) (by decide)) | (exact absurd (hc.symm.trans (by assumption : _ = true)) (by decide))) | skip)) | refine loopK.x ?_)
    | (fail)
    | fail
  all_goals first | (exfalso; omega) | skip
  rw [← hsn] at o5
  refine loopK.nn (m - 1) (by omega) (by repeat (first | refine Ag.upd rfl ?_ | exact Ag.hv)) ⟨k + 1, h5, ?_, by omega, o5, rfl⟩
  show Value.int .i64 _ = _; congr 1
def hdL (X : List PN) (l : List Int) : List Int := (l.filter fun k => decide ((X.getD k.toNat default).1 = 2)).map fun k => (X.getD k.toNat default).2.1
def hdP (X : List PN) (i : Nat) : List Int := if (X.getD i default).1 = 2 then [(X.getD i default).2.1] else if (X.getD i default).1 = 3 then hdL X (X.getD i default).2.2 else []
theorem hdL_snoc (X : List PN) (l : List Int) (k : Int) : hdL X (l ++ [k]) = hdL X l ++ if (X.getD k.toNat default).1 = 2 then [(X.getD k.toNat default).2.1] else [] := by
  unfold hdL
  rw [List.filter_append, List.map_append, List.filter_cons]
  split
  · rename_i h; rw [if_pos (of_decide_eq_true h)]; rfl
  · rename_i h; rw [if_neg (fun e => h (decide_eq_true e))]; rfl
theorem hdL_len (X : List PN) (l : List Int) : (hdL X l).length ≤ l.length := by
  unfold hdL
  rw [List.length_map]
  exact List.length_filter_le _ _
theorem heads_any (N : Int) (a : Option Addr) (cap : Nat) (vs : List NV) (h : Heap) (hr : NetIn a vs h) (i : Nat) (hi : i < vs.length) (hin : ∀ k ∈ (vs.getD i default).l, 0 ≤ k ∧ k < vs.length) (w : World) (hw : Holds h w) :
    Calls Try.prog 103 #[.agg ⟨[.int .i64 N, .slice a vs.length cap]⟩, .int .i64 (i : Int)] w (Gives (fun v g => ∃ a' c', v = .slice a' (hdP (vs.map pnV) i).length c' ∧ SlT encI 1 a' (hdP (vs.map pnV) i) g) w) := by
  have q0 : ∀ L, RdH h L h := fun L => RdH.old fun _ hh => hh
  obtain ⟨so, si, sl, hl⟩ := hr
  have hmi := mem_g vs i hi
  have hVl := sl _ hmi
  have hVs := si _ hmi
  have hx : (vs.map pnV).getD i default = pnV (vs.getD i default) := getD_map vs i
  have hP : hdP (vs.map pnV) i = if (vs.getD i default).kind = 2 then [(vs.getD i default).lit] else if (vs.getD i default).kind = 3 then hdL (vs.map pnV) (vs.getD i default).l else [] := by
    unfold hdP
    rw [hx]
    rfl
  obtain ⟨v, hv⟩ : ∃ v, vs.getD i default = v := ⟨_, rfl⟩
  rw [hv] at hP hVl hVs hin
  rw [hP]
  by_cases h2 : v.kind = 2
  · rw [if_pos h2]
    refine calls_of_JC (R := h) Try.func103 Try.ntmps103 rfl rfl (hw) ?_
    repeat' first
      | (refine J.isJ ?_; first | (first | (refine J.o 3 ?_; refine J.iJ hΓ ?_ (hs := so)) | (refine J.o 4 ?_; refine J.lT default hΓ ?_ (hs := so) (hr := q0 _); rw [hv])) | (first | (refine J.o 0 ?_; refine J.ev' hΓ ?_) | refine J.nil ?_ | (refine J.o 4 ?_; first | refine J.lT default hΓ ?_ | refine J.lR hΓ ?_) | (refine J.o 3 ?_; first | refine J.iJ hΓ ?_ | refine J.fP hΓ ?_ | refine J.ev' hΓ ?_) | (refine J.o 1 ?_; first | refine J.ad ?_) | (refine J.o 5 ?_; first | refine J.t0 hΓ ?_) | (refine J.o 6 ?_; refine J.bx (fun _ => ?_)) | (refine J.o 7 ?_; refine J.al hΓ (fun _ => ?_)) | (refine J.o 9 ?_; refine J.bl hΓ (fun _ => ?_)) | (refine J.o 10 ?_; refine J.ev' hΓ ?_) | (refine J.o 11 ?_; refine J.ev' hΓ ?_)))
      | (first | refine JC.seq ?_ | refine JC.region ?_ | refine JC.block ?_ | refine JC.ret ?_ | refine JC.exit ?_ | refine JC.skip ?_ | refine thenK.nn ?_ | refine thenK.r ?_ | refine thenK.x ?_ | refine blockK.nn ?_ | refine blockK.hit rfl ?_ | (refine JC.cond rfl (fun hc => ?_) (fun hc => ?_) <;> ((try simp only [decide_eq_true_eq, decide_eq_false_iff_not, beq_iff_eq, beq_eq_false_iff_ne, bne_iff_ne, bne_eq_false_iff_eq, Bool.not_eq_true', Bool.not_eq_false', Bool.not_eq_true, Bool.not_eq_false] at hc) <;> first | (first | (exact absurd rfl hc) | (exfalso; omega) | (exact absurd (hc.symm.trans (by assumption : _ = false)) (by decide)) | (exact absurd (hc.symm.trans (by assumption : _ = true)) (by decide))) | skip)) | refine loopK.x ?_)
      | (fail)
      | fail
    all_goals first | (exfalso; omega) | skip
    exact ret1f rfl rfl rfl (fun w1 hw => Gives.of (H.sel (l := [_, _, _]) (M := []) hw [0]) ⟨_, 1, rfl, slArg _ [v.lit] 3⟩)
  rw [if_neg h2]
  by_cases h3 : v.kind = 3
  case neg =>
    rw [if_neg h3]
    refine calls_of_JC (R := h) Try.func103 Try.ntmps103 rfl rfl (hw) ?_
    repeat' first
      | (refine J.isJ ?_; first | (first | (refine J.o 3 ?_; refine J.iJ hΓ ?_ (hs := so)) | (refine J.o 4 ?_; refine J.lT default hΓ ?_ (hs := so) (hr := q0 _); rw [hv])) | (first | (refine J.o 0 ?_; refine J.ev' hΓ ?_) | refine J.nil ?_ | (refine J.o 4 ?_; first | refine J.lT default hΓ ?_ | refine J.lR hΓ ?_) | (refine J.o 3 ?_; first | refine J.iJ hΓ ?_ | refine J.fP hΓ ?_ | refine J.ev' hΓ ?_) | (refine J.o 1 ?_; first | refine J.ad ?_) | (refine J.o 5 ?_; first | refine J.t0 hΓ ?_) | (refine J.o 6 ?_; refine J.bx (fun _ => ?_)) | (refine J.o 7 ?_; refine J.al hΓ (fun _ => ?_)) | (refine J.o 9 ?_; refine J.bl hΓ (fun _ => ?_)) | (refine J.o 10 ?_; refine J.ev' hΓ ?_) | (refine J.o 11 ?_; refine J.ev' hΓ ?_)))
      | (first | refine JC.seq ?_ | refine JC.region ?_ | refine JC.block ?_ | refine JC.ret ?_ | refine JC.exit ?_ | refine JC.skip ?_ | refine thenK.nn ?_ | refine thenK.r ?_ | refine thenK.x ?_ | refine blockK.nn ?_ | refine blockK.hit rfl ?_ | (refine JC.cond rfl (fun hc => ?_) (fun hc => ?_) <;> ((try simp only [decide_eq_true_eq, decide_eq_false_iff_not, beq_iff_eq, beq_eq_false_iff_ne, bne_iff_ne, bne_eq_false_iff_eq, Bool.not_eq_true', Bool.not_eq_false', Bool.not_eq_true, Bool.not_eq_false] at hc) <;> first | (first | (exact absurd rfl hc) | (exfalso; omega) | (exact absurd (hc.symm.trans (by assumption : _ = false)) (by decide)) | (exact absurd (hc.symm.trans (by assumption : _ = true)) (by decide))) | skip)) | refine loopK.x ?_)
      | (fail)
      | fail
    all_goals first | (exfalso; omega) | skip
    exact ret1f rfl rfl rfl (fun w1 hw => Gives.of (H.sel (l := [_, _]) (M := []) hw [0]) ⟨none, 0, rfl, ⟨fun _ => rfl, fun i hi => absurd hi (Nat.not_lt_zero _)⟩⟩)
  rw [if_pos h3]
  refine calls_of_JC (R := h) Try.func103 Try.ntmps103 rfl rfl (hw) ?_
  repeat' first
    | (refine J.isJ ?_; first | (first | (refine J.o 3 ?_; refine J.iJ hΓ ?_ (hs := so)) | (refine J.o 4 ?_; refine J.lT default hΓ ?_ (hs := so) (hr := q0 _); rw [hv])) | (first | (refine J.o 0 ?_; refine J.ev' hΓ ?_) | refine J.nil ?_ | (refine J.o 4 ?_; first | refine J.lT default hΓ ?_ | refine J.lR hΓ ?_) | (refine J.o 3 ?_; first | refine J.iJ hΓ ?_ | refine J.fP hΓ ?_ | refine J.ev' hΓ ?_) | (refine J.o 1 ?_; first | refine J.ad ?_) | (refine J.o 5 ?_; first | refine J.t0 hΓ ?_) | (refine J.o 6 ?_; refine J.bx (fun _ => ?_)) | (refine J.o 7 ?_; refine J.al hΓ (fun _ => ?_)) | (refine J.o 9 ?_; refine J.bl hΓ (fun _ => ?_)) | (refine J.o 10 ?_; refine J.ev' hΓ ?_) | (refine J.o 11 ?_; refine J.ev' hΓ ?_)))
    | (first | refine JC.seq ?_ | refine JC.region ?_ | refine JC.block ?_ | refine JC.ret ?_ | refine JC.exit ?_ | refine JC.skip ?_ | refine thenK.nn ?_ | refine thenK.r ?_ | refine thenK.x ?_ | refine blockK.nn ?_ | refine blockK.hit rfl ?_ | (refine JC.cond rfl (fun hc => ?_) (fun hc => ?_) <;> ((try simp only [decide_eq_true_eq, decide_eq_false_iff_not, beq_iff_eq, beq_eq_false_iff_ne, bne_iff_ne, bne_eq_false_iff_eq, Bool.not_eq_true', Bool.not_eq_false', Bool.not_eq_true, Bool.not_eq_false] at hc) <;> first | (first | (exact absurd rfl hc) | (exfalso; omega) | (exact absurd (hc.symm.trans (by assumption : _ = false)) (by decide)) | (exact absurd (hc.symm.trans (by assumption : _ = true)) (by decide))) | skip)) | refine loopK.x ?_)
    | (fail)
    | fail
  all_goals first | (exfalso; omega) | skip
  refine JC.nilF ?_
  refine JC.loopG (fun i => i == 6 || i == 8 || Nat.ble 26 i) (fun m g L' => ∃ (q : Nat) (aR : Option Addr) (cR : Nat) (hR : Heap), g 26 = .int .i64 (q : Int) ∧ q + m = v.l.length ∧ g 6 = .slice aR (hdL (vs.map pnV) (v.l.take q)).length cR ∧ OwT encI 1 3 aR cR (hdL (vs.map pnV) (v.l.take q)) hR ∧ L' = [hR, [_], [_]]) v.l.length ⟨0, none, 0, [], rfl, by omega, rfl, OwT.nil (fun _ => rfl), rfl⟩ ?_
  rintro m g _ ⟨q, aR, cR, hR, e26, hqm, e6, oR, rfl⟩
  refine JC.pin 26 e26 (JC.pin 6 e6 ?_)
  clear e26 e6
  rcases Nat.lt_or_ge q v.l.length with hq | hq
  case inr =>
    rw [List.take_of_length_le hq] at oR ⊢
    repeat' first
      | (refine J.isJ ?_; first | (fail) | (first | (refine J.o 0 ?_; refine J.ev' hΓ ?_) | refine J.nil ?_ | (refine J.o 4 ?_; first | refine J.lT default hΓ ?_ | refine J.lR hΓ ?_) | (refine J.o 3 ?_; first | refine J.iJ hΓ ?_ | refine J.fP hΓ ?_ | refine J.ev' hΓ ?_) | (refine J.o 1 ?_; first | refine J.ad ?_) | (refine J.o 5 ?_; first | refine J.t0 hΓ ?_) | (refine J.o 6 ?_; refine J.bx (fun _ => ?_)) | (refine J.o 7 ?_; refine J.al hΓ (fun _ => ?_)) | (refine J.o 9 ?_; refine J.bl hΓ (fun _ => ?_)) | (refine J.o 10 ?_; refine J.ev' hΓ ?_) | (refine J.o 11 ?_; refine J.ev' hΓ ?_)))
      | (first | refine JC.seq ?_ | refine JC.region ?_ | refine JC.block ?_ | refine JC.ret ?_ | refine JC.exit ?_ | refine JC.skip ?_ | refine thenK.nn ?_ | refine thenK.r ?_ | refine thenK.x ?_ | refine blockK.nn ?_ | refine blockK.hit rfl ?_ | (refine JC.cond rfl (fun hc => ?_) (fun hc => ?_) <;> ((try simp only [decide_eq_true_eq, decide_eq_false_iff_not, beq_iff_eq, beq_eq_false_iff_ne, bne_iff_ne, bne_eq_false_iff_eq, Bool.not_eq_true', Bool.not_eq_false', Bool.not_eq_true, Bool.not_eq_false] at hc) <;> first | (first | (exact absurd rfl hc) | (exfalso; omega) | (exact absurd (hc.symm.trans (by assumption : _ = false)) (by decide)) | (exact absurd (hc.symm.trans (by assumption : _ = true)) (by decide))) | skip)) | refine loopK.x ?_)
      | (fail)
      | fail
    all_goals first | (exfalso; omega) | skip
    exact ret1f rfl rfl rfl (fun w1 hw => Gives.of (H.sel (l := [_, _, _]) (M := []) hw [0]) ⟨aR, cR, rfl, oR.sl⟩)
  obtain ⟨k, hk⟩ : ∃ k, v.l.getD q default = k := ⟨_, rfl⟩
  have hkr := hin k (hk ▸ mem_g v.l q hq)
  have hkX : (vs.map pnV).getD k.toNat default = pnV (vs.getD k.toNat default) := getD_map vs _
  have hsn := hdL_snoc (vs.map pnV) (v.l.take q) k
  rw [← hk, ← take_g v.l q hq, hk, hkX] at hsn
  have hql := hdL_len (vs.map pnV) (v.l.take q)
  rw [List.length_take] at hql
  obtain ⟨u, hu⟩ : ∃ u, vs.getD k.toNat default = u := ⟨_, rfl⟩
  rw [hu] at hsn
  by_cases hk2 : u.kind = 2
  · rw [if_pos (show (pnV u).1 = 2 from hk2)] at hsn
    repeat' first
      | (refine J.isJ ?_; first | (first | (refine J.o 3 ?_; first | refine J.iJ hΓ ?_ (hs := hVs) | refine J.iJ hΓ ?_ (hs := so)) | (refine J.o 4 ?_; first | (refine J.lT default hΓ ?_ (hs := hVs) (hr := q0 _); rw [hk]) | (refine J.lT default hΓ ?_ (hs := so) (hr := q0 _); rw [hu])) | (refine J.o 9 ?_; first | (first | (refine J.ap1 (enc := encI) [u.lit] hΓ (fun a2 c2 h2 o2 => ?_))))) | (first | (refine J.o 0 ?_; refine J.ev' hΓ ?_) | refine J.nil ?_ | (refine J.o 4 ?_; first | refine J.lT default hΓ ?_ | refine J.lR hΓ ?_) | (refine J.o 3 ?_; first | refine J.iJ hΓ ?_ | refine J.fP hΓ ?_ | refine J.ev' hΓ ?_) | (refine J.o 1 ?_; first | refine J.ad ?_) | (refine J.o 5 ?_; first | refine J.t0 hΓ ?_) | (refine J.o 6 ?_; refine J.bx (fun _ => ?_)) | (refine J.o 7 ?_; refine J.al hΓ (fun _ => ?_)) | (refine J.o 9 ?_; refine J.bl hΓ (fun _ => ?_)) | (refine J.o 10 ?_; refine J.ev' hΓ ?_) | (refine J.o 11 ?_; refine J.ev' hΓ ?_)))
      | (first | refine JC.seq ?_ | refine JC.region ?_ | refine JC.block ?_ | refine JC.ret ?_ | refine JC.exit ?_ | refine JC.skip ?_ | refine thenK.nn ?_ | refine thenK.r ?_ | refine thenK.x ?_ | refine blockK.nn ?_ | refine blockK.hit rfl ?_ | (refine JC.cond rfl (fun hc => ?_) (fun hc => ?_) <;> ((try simp only [decide_eq_true_eq, decide_eq_false_iff_not, beq_iff_eq, beq_eq_false_iff_ne, bne_iff_ne, bne_eq_false_iff_eq, Bool.not_eq_true', Bool.not_eq_false', Bool.not_eq_true, Bool.not_eq_false] at hc) <;> first | (first | (exact absurd rfl hc) | (exfalso; omega) | (exact absurd (hc.symm.trans (by assumption : _ = false)) (by decide)) | (exact absurd (hc.symm.trans (by assumption : _ = true)) (by decide))) | skip)) | refine loopK.x ?_)
      | (fail)
      | fail
    all_goals first | (exfalso; omega) | skip
    rw [show hdL (vs.map pnV) (v.l.take q) ++ [u.lit] = hdL (vs.map pnV) (v.l.take (q + 1)) from hsn.symm] at o2 ⊢
    refine loopK.nn (m - 1) (by omega) (by repeat (first | refine Ag.upd rfl ?_ | exact Ag.hv)) ⟨_, ⟨q + 1, a2, c2, h2, ?_, by omega, rfl, o2, rfl⟩, fun w hw => hw⟩
    show Value.int .i64 _ = _; congr 1
  · rw [if_neg (show ¬ (pnV u).1 = 2 from hk2), List.append_nil] at hsn
    repeat' first
      | (refine J.isJ ?_; first | (first | (refine J.o 3 ?_; first | refine J.iJ hΓ ?_ (hs := hVs) | refine J.iJ hΓ ?_ (hs := so)) | (refine J.o 4 ?_; first | (refine J.lT default hΓ ?_ (hs := hVs) (hr := q0 _); rw [hk]) | (refine J.lT default hΓ ?_ (hs := so) (hr := q0 _); rw [hu]))) | (first | (refine J.o 0 ?_; refine J.ev' hΓ ?_) | refine J.nil ?_ | (refine J.o 4 ?_; first | refine J.lT default hΓ ?_ | refine J.lR hΓ ?_) | (refine J.o 3 ?_; first | refine J.iJ hΓ ?_ | refine J.fP hΓ ?_ | refine J.ev' hΓ ?_) | (refine J.o 1 ?_; first | refine J.ad ?_) | (refine J.o 5 ?_; first | refine J.t0 hΓ ?_) | (refine J.o 6 ?_; refine J.bx (fun _ => ?_)) | (refine J.o 7 ?_; refine J.al hΓ (fun _ => ?_)) | (refine J.o 9 ?_; refine J.bl hΓ (fun _ => ?_)) | (refine J.o 10 ?_; refine J.ev' hΓ ?_) | (refine J.o 11 ?_; refine J.ev' hΓ ?_)))
      | (first | refine JC.seq ?_ | refine JC.region ?_ | refine JC.block ?_ | refine JC.ret ?_ | refine JC.exit ?_ | refine JC.skip ?_ | refine thenK.nn ?_ | refine thenK.r ?_ | refine thenK.x ?_ | refine blockK.nn ?_ | refine blockK.hit rfl ?_ | (refine JC.cond rfl (fun hc => ?_) (fun hc => ?_) <;> ((try simp only [decide_eq_true_eq, decide_eq_false_iff_not, beq_iff_eq, beq_eq_false_iff_ne, bne_iff_ne, bne_eq_false_iff_eq, Bool.not_eq_true', Bool.not_eq_false', Bool.not_eq_true, Bool.not_eq_false] at hc) <;> first | (first | (exact absurd rfl hc) | (exfalso; omega) | (exact absurd (hc.symm.trans (by assumption : _ = false)) (by decide)) | (exact absurd (hc.symm.trans (by assumption : _ = true)) (by decide))) | skip)) | refine loopK.x ?_)
      | (fail)
      | fail
    all_goals first | (exfalso; omega) | skip
    refine loopK.nn (m - 1) (by omega) (by repeat (first | refine Ag.upd rfl ?_ | exact Ag.hv)) ⟨_, ⟨q + 1, aR, cR, hR, ?_, by omega, by rw [hsn]; rfl, by rw [hsn]; exact oR, rfl⟩, fun w hw => hw⟩
    show Value.int .i64 _ = _; congr 1
end Go.Proofs.Ytbhgahjeocnfcaa
namespace Go.Proofs.Ytbhgahjeocnfcaa
open Go Go.Cx Go.RowKit
set_option linter.unusedVariables false
set_option linter.unusedSimpArgs false
set_option maxHeartbeats 4000000
attribute [local irreducible] J JC thenK blockK loopK drawK retK QW Qt pel List.set Calls
open Go.Maps Go.Lib
set_option maxRecDepth 8000
attribute [local irreducible] JE Br eK0 eK2 eK3 brK pc
def prefS (T : List (Nat × Nat)) (l : List Int) : Nat × Nat := l.foldl (fun s (k : Int) => uniS s (T.getD k.toNat default)) (0, 0)
theorem prefS_snoc (T : List (Nat × Nat)) (l : List Int) (k : Int) : prefS T (l ++ [k]) = uniS (prefS T l) (T.getD k.toNat default) := by
  unfold prefS; rw [List.foldl_append]; rfl
def DecP (X : List PN) : Prop := ∀ i, i < X.length → (X.getD i default).1 = 3 → ∀ q, q < (X.getD i default).2.2.length → cutS (prefS (varT X) ((X.getD i default).2.2.take q)) ((varT X).getD ((X.getD i default).2.2.getD q default).toNat default) = (0, 0)
def DciP (X : List PN) : Prop := ∀ i, i < X.length → (X.getD i default).1 = 4 → ∃ j k : Nat, (X.getD i default).2.2 = [(j : Int), (k : Int)] ∧ oppP (hdP X j) (hdP X k) = true
set_option maxHeartbeats 8000000 in
theorem decomp_any (N : Int) (a : Option Addr) (cap : Nat) (vs : List NV) (h : Heap) (hr : NetIn a vs h) (hC : checkP N (vs.map pnV) = true) (hD : DecP (vs.map pnV)) (w : World) (hw : Holds h w) :
    Calls Try.prog 46 #[.agg ⟨[.int .i64 N, .slice a vs.length cap]⟩] w fun e w' => e = .returned (.bool true) ∧ Below w.heap.size w w' := by
  have q0 : ∀ L, RdH h L h := fun L => RdH.old fun _ hh => hh
  have cC := fun w hw => checkN_any N a cap vs h hr w hw
  have cV := fun w hw => vars_any N a cap vs h hr w hw
  rw [hC, if_pos rfl] at cC
  rw [hC, if_pos rfl] at cV
  obtain ⟨so, si, sl, hl⟩ := hr
  have hX : (vs.map pnV).length = vs.length := List.length_map ..
  obtain ⟨hN, hM, hFA⟩ := check_facts hC
  have hTl := varT_len (vs.map pnV)
  rw [hX] at hTl hM
  have hokT := okS_varT (vs.map pnV)
  refine calls_of_JC (R := h) Try.func46 Try.ntmps46 rfl rfl (hw) ?_
  repeat' first
    | (refine J.isJ ?_; first | (first | (refine J.fc 45 ?_; refine J.call0 eCheckN rfl rfl (fun w hw => cC w (hw.rdH (q0 _))) ?_) | (refine J.fc 99 ?_; refine J.call1 eVarsN rfl rfl (fun w hw => cV w (hw.rdH (q0 _))) ?_; rintro _ hV ⟨aV, cVV, rfl, sV⟩)) | (first | (refine J.o 0 ?_; refine J.ev' hΓ ?_) | refine J.nil ?_ | (refine J.o 4 ?_; first | refine J.lT default hΓ ?_ | refine J.lR hΓ ?_) | (refine J.o 3 ?_; first | refine J.iJ hΓ ?_ | refine J.ev' hΓ ?_) | (refine J.o 1 ?_; first | refine J.ad ?_) | (refine J.o 5 ?_; first | refine J.t0 hΓ ?_) | (refine J.o 6 ?_; refine J.bx (fun _ => ?_)) | (refine J.o 7 ?_; refine J.al hΓ (fun _ => ?_)) | (refine J.o 8 ?_; refine J.bd hΓ ?_) | (refine J.o 10 ?_; refine J.ev' hΓ ?_) | (refine J.o 11 ?_; refine J.ev' hΓ ?_)))
    | (first | refine JC.seq ?_ | refine JC.region ?_ | refine JC.block ?_ | refine JC.ret ?_ | refine JC.exit ?_ | refine JC.skip ?_ | refine thenK.nn ?_ | refine thenK.x ?_ | refine blockK.nn ?_ | refine blockK.hit rfl ?_ | refine JC.condF rfl ?_ | (refine JC.cond rfl (fun hc => ?_) (fun hc => ?_) <;> ((try simp only [decide_eq_true_eq, decide_eq_false_iff_not, beq_iff_eq, beq_eq_false_iff_ne, bne_iff_ne, bne_eq_false_iff_eq, Bool.not_eq_true', Bool.not_eq_false', Bool.not_eq_true, Bool.not_eq_false] at hc) <;> first | (first | (exact absurd rfl hc) | (exfalso; omega) | (exact absurd (hc.symm.trans (by assumption : _ = false)) (by decide)) | (exact absurd (hc.symm.trans (by assumption : _ = true)) (by decide))) | skip)) | refine drawK.nn ?_ | refine loopK.x ?_)
    | (fail)
    | fail
  all_goals first | (exfalso; omega) | skip
  refine JC.loopG (fun i => i == 5 || i == 6 || i == 8 || Nat.ble 17 i) (fun m g L' => ∃ (k : Nat), g 17 = .int .i64 (k : Int) ∧ k + m = vs.length ∧ L' = [hV, [_]]) vs.length ⟨0, rfl, by omega, rfl⟩ ?_
  rintro m g _ ⟨k, e17, hkm, rfl⟩
  refine JC.pin 17 e17 ?_
  clear e17
  rcases Nat.lt_or_ge k vs.length with hk | hk
  case inr =>
    repeat' first
      | (refine J.isJ ?_; first | (fail) | (first | (refine J.o 0 ?_; refine J.ev' hΓ ?_) | refine J.nil ?_ | (refine J.o 4 ?_; first | refine J.lT default hΓ ?_ | refine J.lR hΓ ?_) | (refine J.o 3 ?_; first | refine J.iJ hΓ ?_ | refine J.ev' hΓ ?_) | (refine J.o 1 ?_; first | refine J.ad ?_) | (refine J.o 5 ?_; first | refine J.t0 hΓ ?_) | (refine J.o 6 ?_; refine J.bx (fun _ => ?_)) | (refine J.o 7 ?_; refine J.al hΓ (fun _ => ?_)) | (refine J.o 8 ?_; refine J.bd hΓ ?_) | (refine J.o 10 ?_; refine J.ev' hΓ ?_) | (refine J.o 11 ?_; refine J.ev' hΓ ?_)))
      | (first | refine JC.seq ?_ | refine JC.region ?_ | refine JC.block ?_ | refine JC.ret ?_ | refine JC.exit ?_ | refine JC.skip ?_ | refine thenK.nn ?_ | refine thenK.x ?_ | refine blockK.nn ?_ | refine blockK.hit rfl ?_ | refine JC.condF rfl ?_ | (refine JC.cond rfl (fun hc => ?_) (fun hc => ?_) <;> ((try simp only [decide_eq_true_eq, decide_eq_false_iff_not, beq_iff_eq, beq_eq_false_iff_ne, bne_iff_ne, bne_eq_false_iff_eq, Bool.not_eq_true', Bool.not_eq_false', Bool.not_eq_true, Bool.not_eq_false] at hc) <;> first | (first | (exact absurd rfl hc) | (exfalso; omega) | (exact absurd (hc.symm.trans (by assumption : _ = false)) (by decide)) | (exact absurd (hc.symm.trans (by assumption : _ = true)) (by decide))) | skip)) | refine drawK.nn ?_ | refine loopK.x ?_)
      | (fail)
      | fail
    all_goals first | (exfalso; omega) | skip
    exact ret1f rfl rfl rfl (fun w1 hw => ⟨rfl, hw.below⟩)
  have hmk := mem_g vs k hk
  have hVl := sl _ hmk
  have hVs := si _ hmk
  have hfk : formedP (pnV (vs.getD k default)) N k = true := by
    have := formAll_at N (vs.map pnV) 0 hFA k (by omega)
    rw [Int.zero_add, getD_map] at this
    exact this
  have hVo : ∀ i, i ∈ (vs.getD k default).l → 0 ≤ i ∧ i < k := formed_rng hfk
  have hDk := hD k (by omega)
  rw [getD_map] at hDk
  obtain ⟨v, hv⟩ : ∃ v, vs.getD k default = v := ⟨_, rfl⟩
  rw [hv] at hVl hVs hVo hDk
  by_cases h3 : v.kind = 3
  case neg =>
    repeat' first
      | (refine J.isJ ?_; first | (first | (refine J.o 3 ?_; refine J.iJ hΓ ?_ (hs := so)) | (refine J.o 4 ?_; refine J.lT default hΓ ?_ (hs := so) (hr := q0 _); rw [hv])) | (first | (refine J.o 0 ?_; refine J.ev' hΓ ?_) | refine J.nil ?_ | (refine J.o 4 ?_; first | refine J.lT default hΓ ?_ | refine J.lR hΓ ?_) | (refine J.o 3 ?_; first | refine J.iJ hΓ ?_ | refine J.ev' hΓ ?_) | (refine J.o 1 ?_; first | refine J.ad ?_) | (refine J.o 5 ?_; first | refine J.t0 hΓ ?_) | (refine J.o 6 ?_; refine J.bx (fun _ => ?_)) | (refine J.o 7 ?_; refine J.al hΓ (fun _ => ?_)) | (refine J.o 8 ?_; refine J.bd hΓ ?_) | (refine J.o 10 ?_; refine J.ev' hΓ ?_) | (refine J.o 11 ?_; refine J.ev' hΓ ?_)))
      | (first | refine JC.seq ?_ | refine JC.region ?_ | refine JC.block ?_ | refine JC.ret ?_ | refine JC.exit ?_ | refine JC.skip ?_ | refine thenK.nn ?_ | refine thenK.x ?_ | refine blockK.nn ?_ | refine blockK.hit rfl ?_ | refine JC.condF rfl ?_ | (refine JC.cond rfl (fun hc => ?_) (fun hc => ?_) <;> ((try simp only [decide_eq_true_eq, decide_eq_false_iff_not, beq_iff_eq, beq_eq_false_iff_ne, bne_iff_ne, bne_eq_false_iff_eq, Bool.not_eq_true', Bool.not_eq_false', Bool.not_eq_true, Bool.not_eq_false] at hc) <;> first | (first | (exact absurd rfl hc) | (exfalso; omega) | (exact absurd (hc.symm.trans (by assumption : _ = false)) (by decide)) | (exact absurd (hc.symm.trans (by assumption : _ = true)) (by decide))) | skip)) | refine drawK.nn ?_ | refine loopK.x ?_)
      | (fail)
      | fail
    all_goals first | (exfalso; omega) | skip
    refine loopK.nn (m - 1) (by omega) (by repeat (first | refine Ag.upd rfl ?_ | exact Ag.hv)) ⟨_, ⟨k + 1, ?_, by omega, rfl⟩, fun w hw => H.sel (l := [_, _, _]) (M := []) hw [1, 2]⟩
    show Value.int .i64 _ = _; congr 1
  have hDk : ∀ q, q < v.l.length → cutS (prefS (varT (vs.map pnV)) (v.l.take q)) ((varT (vs.map pnV)).getD (v.l.getD q default).toNat default) = (0, 0) := hDk h3
  repeat' first
    | (refine J.isJ ?_; first | (first | (refine J.o 3 ?_; refine J.iJ hΓ ?_ (hs := so)) | (refine J.o 4 ?_; refine J.lT default hΓ ?_ (hs := so) (hr := q0 _); rw [hv])) | (first | (refine J.o 0 ?_; refine J.ev' hΓ ?_) | refine J.nil ?_ | (refine J.o 4 ?_; first | refine J.lT default hΓ ?_ | refine J.lR hΓ ?_) | (refine J.o 3 ?_; first | refine J.iJ hΓ ?_ | refine J.ev' hΓ ?_) | (refine J.o 1 ?_; first | refine J.ad ?_) | (refine J.o 5 ?_; first | refine J.t0 hΓ ?_) | (refine J.o 6 ?_; refine J.bx (fun _ => ?_)) | (refine J.o 7 ?_; refine J.al hΓ (fun _ => ?_)) | (refine J.o 8 ?_; refine J.bd hΓ ?_) | (refine J.o 10 ?_; refine J.ev' hΓ ?_) | (refine J.o 11 ?_; refine J.ev' hΓ ?_)))
    | (first | refine JC.seq ?_ | refine JC.region ?_ | refine JC.block ?_ | refine JC.ret ?_ | refine JC.exit ?_ | refine JC.skip ?_ | refine thenK.nn ?_ | refine thenK.x ?_ | refine blockK.nn ?_ | refine blockK.hit rfl ?_ | refine JC.condF rfl ?_ | (refine JC.cond rfl (fun hc => ?_) (fun hc => ?_) <;> ((try simp only [decide_eq_true_eq, decide_eq_false_iff_not, beq_iff_eq, beq_eq_false_iff_ne, bne_iff_ne, bne_eq_false_iff_eq, Bool.not_eq_true', Bool.not_eq_false', Bool.not_eq_true, Bool.not_eq_false] at hc) <;> first | (first | (exact absurd rfl hc) | (exfalso; omega) | (exact absurd (hc.symm.trans (by assumption : _ = false)) (by decide)) | (exact absurd (hc.symm.trans (by assumption : _ = true)) (by decide))) | skip)) | refine drawK.nn ?_ | refine loopK.x ?_)
    | (fail)
    | fail
  all_goals first | (exfalso; omega) | skip
  rename_i b6
  refine JC.loopG (fun i => i == 8 || Nat.ble 27 i) (fun m g L' => ∃ (q : Nat), g 27 = .int .i64 (q : Int) ∧ q + m = v.l.length ∧ L' = [(b6, setO (prefS (varT (vs.map pnV)) (v.l.take q)))] :: [[_], hV, [_]]) v.l.length ⟨0, rfl, by omega, rfl⟩ ?_
  rintro m2 g2 _ ⟨q, e27, hqm, rfl⟩
  refine JC.pin 27 e27 ?_
  clear e27
  unfold setO
  rcases Nat.lt_or_ge q v.l.length with hq | hq
  case inr =>
    repeat' first
      | (refine J.isJ ?_; first | (fail) | (first | (refine J.o 0 ?_; refine J.ev' hΓ ?_) | refine J.nil ?_ | (refine J.o 4 ?_; first | refine J.lT default hΓ ?_ | refine J.lR hΓ ?_) | (refine J.o 3 ?_; first | refine J.iJ hΓ ?_ | refine J.ev' hΓ ?_) | (refine J.o 1 ?_; first | refine J.ad ?_) | (refine J.o 5 ?_; first | refine J.t0 hΓ ?_) | (refine J.o 6 ?_; refine J.bx (fun _ => ?_)) | (refine J.o 7 ?_; refine J.al hΓ (fun _ => ?_)) | (refine J.o 8 ?_; refine J.bd hΓ ?_) | (refine J.o 10 ?_; refine J.ev' hΓ ?_) | (refine J.o 11 ?_; refine J.ev' hΓ ?_)))
      | (first | refine JC.seq ?_ | refine JC.region ?_ | refine JC.block ?_ | refine JC.ret ?_ | refine JC.exit ?_ | refine JC.skip ?_ | refine thenK.nn ?_ | refine thenK.x ?_ | refine blockK.nn ?_ | refine blockK.hit rfl ?_ | refine JC.condF rfl ?_ | (refine JC.cond rfl (fun hc => ?_) (fun hc => ?_) <;> ((try simp only [decide_eq_true_eq, decide_eq_false_iff_not, beq_iff_eq, beq_eq_false_iff_ne, bne_iff_ne, bne_eq_false_iff_eq, Bool.not_eq_true', Bool.not_eq_false', Bool.not_eq_true, Bool.not_eq_false] at hc) <;> first | (first | (exact absurd rfl hc) | (exfalso; omega) | (exact absurd (hc.symm.trans (by assumption : _ = false)) (by decide)) | (exact absurd (hc.symm.trans (by assumption : _ = true)) (by decide))) | skip)) | refine drawK.nn ?_ | refine loopK.x ?_)
      | (fail)
      | fail
    all_goals first | (exfalso; omega) | skip
    refine loopK.nn (m - 1) (by omega) (by repeat (first | refine Ag.upd rfl ?_ | exact Ag.hv | refine Ag.hv2 (fun i hi => by simp at hi ⊢; omega) ?_)) ⟨_, ⟨k + 1, ?_, by omega, rfl⟩, fun w hw => H.sel (l := [_, _, _, _]) (M := []) hw [2, 3]⟩
    show Value.int .i64 _ = _; congr 1
  have hxr := hVo _ (mem_g v.l q hq)
  have hcut := hDk q hq
  have hsn := prefS_snoc (varT (vs.map pnV)) (v.l.take q) (v.l.getD q default)
  rw [← take_g v.l q hq] at hsn
  have hk1 : okS (prefS (varT (vs.map pnV)) (v.l.take q)) := okS_fold _ hokT _ _ okS_zero
  have hk2 := okS_d _ hokT (v.l.getD q default).toNat
  have cU := fun w => unionV_any _ _ hk1 hk2 w
  have cX := fun w => cut_any _ _ hk1 hk2 w
  rw [← hsn] at cU
  rw [hcut] at cX
  repeat' first
    | (refine J.isJ ?_; first | (first | (refine J.o 3 ?_; first | refine J.iJ hΓ ?_ (hs := hVs) | refine J.iJ hΓ ?_ (hs := sV)) | (refine J.o 4 ?_; first | refine J.lT default hΓ ?_ (hs := hVs) (hr := q0 _) | refine J.lT default hΓ ?_ (hs := sV) (hr := RdH.hd.tl.tl) | refine J.lR hΓ ?_ (hr := Rd.hd)) | (refine J.fc 101 ?_; refine J.call0 eUnionV rfl rfl (fun w hw => cU w) ?_) | (refine J.fc 100 ?_; refine J.call0 eCut rfl rfl (fun w hw => cX w) ?_) | (refine J.o 11 ?_; refine J.nA (a := (0, 0)) (b := (0, 0)) hΓ ?_; rw [decide_eq_true (rfl : ((0, 0) : Nat × Nat) = (0, 0))])) | (first | (refine J.o 0 ?_; refine J.ev' hΓ ?_) | refine J.nil ?_ | (refine J.o 4 ?_; first | refine J.lT default hΓ ?_ | refine J.lR hΓ ?_) | (refine J.o 3 ?_; first | refine J.iJ hΓ ?_ | refine J.ev' hΓ ?_) | (refine J.o 1 ?_; first | refine J.ad ?_) | (refine J.o 5 ?_; first | refine J.t0 hΓ ?_) | (refine J.o 6 ?_; refine J.bx (fun _ => ?_)) | (refine J.o 7 ?_; refine J.al hΓ (fun _ => ?_)) | (refine J.o 8 ?_; refine J.bd hΓ ?_) | (refine J.o 10 ?_; refine J.ev' hΓ ?_) | (refine J.o 11 ?_; refine J.ev' hΓ ?_)))
    | (first | refine JC.seq ?_ | refine JC.region ?_ | refine JC.block ?_ | refine JC.ret ?_ | refine JC.exit ?_ | refine JC.skip ?_ | refine thenK.nn ?_ | refine thenK.x ?_ | refine blockK.nn ?_ | refine blockK.hit rfl ?_ | refine JC.condF rfl ?_ | (refine JC.cond rfl (fun hc => ?_) (fun hc => ?_) <;> ((try simp only [decide_eq_true_eq, decide_eq_false_iff_not, beq_iff_eq, beq_eq_false_iff_ne, bne_iff_ne, bne_eq_false_iff_eq, Bool.not_eq_true', Bool.not_eq_false', Bool.not_eq_true, Bool.not_eq_false] at hc) <;> first | (first | (exact absurd rfl hc) | (exfalso; omega) | (exact absurd (hc.symm.trans (by assumption : _ = false)) (by decide)) | (exact absurd (hc.symm.trans (by assumption : _ = true)) (by decide))) | skip)) | refine drawK.nn ?_ | refine loopK.x ?_)
    | (first | (refine JC.drawO [(1,0),(0,1),(0,2),(0,3),(1,4),(1,5),(0,6),(0,7)] (by decide +kernel) (by decide +kernel) ?_) | (refine JC.drawO [(1,0),(0,1),(0,2),(0,3),(1,4),(1,5),(2,6)] (by decide +kernel) (by decide +kernel) ?_))
    | fail
  all_goals first | (exfalso; omega) | skip
  refine loopK.nn (m2 - 1) (by omega) (by repeat (first | refine Ag.upd rfl ?_ | exact Ag.hv | refine Ag.hv2 (fun i hi => by simp at hi ⊢; omega) ?_)) ⟨_, ⟨q + 1, ?_, by omega, rfl⟩, fun w hw => hw⟩
  show Value.int .i64 _ = _; congr 1
theorem formed_lit {x : PN} {N bf : Int} (hN : 0 ≤ N ∧ N ≤ 128) (hf : formedP x N bf = true) : -128 ≤ x.2.1 ∧ x.2.1 ≤ 128 := by
  unfold formedP at hf
  rw [Bool.and_eq_true] at hf
  have h2 := hf.2
  split at h2
  · rw [Bool.and_eq_true] at h2
    have := of_decide_eq_true h2.1
    omega
  · split at h2
    · rw [Bool.and_eq_true] at h2
      have := h2.1
      unfold validB at this
      have := of_decide_eq_true this
      omega
    · split at h2
      · have := of_decide_eq_true h2
        omega
      · cases h2
theorem hdP_rng {N : Int} (hN : 0 ≤ N ∧ N ≤ 128) {X : List PN} (hF : formAll N X 0 = true) (i : Nat) (hi : i < X.length) : R128 (hdP X i) := by
  have hl : ∀ j, j < X.length → -128 ≤ (X.getD j default).2.1 ∧ (X.getD j default).2.1 ≤ 128 := fun j hj => by
    have := formAll_at N X 0 hF j hj
    exact formed_lit hN this
  intro l hm
  unfold hdP at hm
  split at hm
  · rw [List.mem_singleton.1 hm]; exact hl i hi
  · split at hm
    · unfold hdL at hm
      obtain ⟨k, hk, rfl⟩ := List.mem_map.1 hm
      have hk := (List.mem_filter.1 hk).1
      have hfi := formAll_at N X 0 hF i hi
      have := formed_rng hfi k hk
      exact hl _ (by omega)
    · cases hm
theorem hdP_len (X : List PN) (i : Nat) : (hdP X i).length ≤ (X.getD i default).2.2.length + 1 := by
  unfold hdP
  split
  · show 1 ≤ _; omega
  · split
    · have := hdL_len X (X.getD i default).2.2; omega
    · exact Nat.zero_le _
set_option maxHeartbeats 8000000 in
theorem decis_any (N : Int) (a : Option Addr) (cap : Nat) (vs : List NV) (h : Heap) (hr : NetIn a vs h) (hsm : ∀ v, v ∈ vs → v.l.length ≤ 1000) (hC : checkP N (vs.map pnV) = true) (hD : DciP (vs.map pnV)) (w : World) (hw : Holds h w) :
    Calls Try.prog 47 #[.agg ⟨[.int .i64 N, .slice a vs.length cap]⟩] w fun e w' => e = .returned (.bool true) ∧ Below w.heap.size w w' := by
  have q0 : ∀ L, RdH h L h := fun L => RdH.old fun _ hh => hh
  have cC := fun w hw => checkN_any N a cap vs h hr w hw
  rw [hC, if_pos rfl] at cC
  have hr0 := hr
  obtain ⟨so, si, sl, hl⟩ := hr
  have hX : (vs.map pnV).length = vs.length := List.length_map ..
  obtain ⟨hN, hM, hFA⟩ := check_facts hC
  rw [hX] at hM
  have hrng : ∀ i, i < vs.length → ∀ k ∈ (vs.getD i default).l, 0 ≤ k ∧ k < i := fun i hi => by
    have := formAll_at N (vs.map pnV) 0 hFA i (by omega)
    rw [Int.zero_add, getD_map] at this
    exact formed_rng this
  have cH := fun i (hi : i < vs.length) w hw => heads_any N a cap vs h hr0 i hi (fun k hk => by have := hrng i hi k hk; omega) w hw
  have hHR := fun i (hi : i < vs.length) => hdP_rng hN hFA i (by omega)
  have hHL := fun i (hi : i < vs.length) => hdP_len (vs.map pnV) i
  refine calls_of_JC (R := h) Try.func47 Try.ntmps47 rfl rfl (hw) ?_
  repeat' first
    | (refine J.isJ ?_; first | ((refine J.fc 45 ?_; refine J.call0 eCheckN rfl rfl (fun w hw => cC w (hw.rdH (q0 _))) ?_)) | (first | (refine J.o 0 ?_; refine J.ev' hΓ ?_) | refine J.nil ?_ | refine J.kd ?_ | (refine J.o 4 ?_; first | refine J.lT default hΓ ?_ | refine J.lR hΓ ?_) | (refine J.o 3 ?_; first | refine J.iJ hΓ ?_ | refine J.ev' hΓ ?_) | (refine J.o 1 ?_; first | refine J.ad ?_) | (refine J.o 5 ?_; first | refine J.t0 hΓ ?_) | (refine J.o 6 ?_; refine J.bx (fun _ => ?_)) | (refine J.o 7 ?_; refine J.al hΓ (fun _ => ?_)) | (refine J.o 10 ?_; refine J.ev' hΓ ?_) | (refine J.o 11 ?_; refine J.ev' hΓ ?_)) | ((fail_if_success refine J.wt ?_); refine J.gc rfl rfl (fun hc => ?_) (fun hc => ?_) <;> ((try simp only [decide_eq_true_eq, decide_eq_false_iff_not, beq_iff_eq, beq_eq_false_iff_ne, bne_iff_ne, bne_eq_false_iff_eq, Bool.not_eq_true', Bool.not_eq_false', Bool.not_eq_true, Bool.not_eq_false] at hc) <;> first | (first | (exact absurd rfl hc) | (exfalso; omega) | (exact absurd (hc.symm.trans (by assumption : _ = false)) (by decide)) | (exact absurd (hc.symm.trans (by assumption : _ = true)) (by decide))) | skip)))
    | (first | refine JC.seq ?_ | refine JC.region ?_ | refine JC.block ?_ | refine JC.ret ?_ | refine JC.exit ?_ | refine JC.skip ?_ | refine thenK.nn ?_ | refine thenK.x ?_ | refine blockK.nn ?_ | refine blockK.hit rfl ?_ | refine JC.condF rfl ?_ | (refine JC.cond rfl (fun hc => ?_) (fun hc => ?_) <;> ((try simp only [decide_eq_true_eq, decide_eq_false_iff_not, beq_iff_eq, beq_eq_false_iff_ne, bne_iff_ne, bne_eq_false_iff_eq, Bool.not_eq_true', Bool.not_eq_false', Bool.not_eq_true, Bool.not_eq_false] at hc) <;> first | (first | (exact absurd rfl hc) | (exfalso; omega) | (exact absurd (hc.symm.trans (by assumption : _ = false)) (by decide)) | (exact absurd (hc.symm.trans (by assumption : _ = true)) (by decide))) | skip)) | refine drawK.nn ?_ | refine loopK.x ?_)
    | (fail)
    | fail
  all_goals first | (exfalso; omega) | skip
  refine JC.loopG (fun i => i == 4 || Nat.ble 11 i) (fun m g L' => ∃ (k : Nat), g 11 = .int .i64 (k : Int) ∧ k + m = vs.length ∧ L' = [[_]]) vs.length ⟨0, rfl, by omega, rfl⟩ ?_
  rintro m g _ ⟨k, e11, hkm, rfl⟩
  refine JC.pin 11 e11 ?_
  clear e11
  rcases Nat.lt_or_ge k vs.length with hk | hk
  case inr =>
    repeat' first
      | (refine J.isJ ?_; first | (fail) | (first | (refine J.o 0 ?_; refine J.ev' hΓ ?_) | refine J.nil ?_ | refine J.kd ?_ | (refine J.o 4 ?_; first | refine J.lT default hΓ ?_ | refine J.lR hΓ ?_) | (refine J.o 3 ?_; first | refine J.iJ hΓ ?_ | refine J.ev' hΓ ?_) | (refine J.o 1 ?_; first | refine J.ad ?_) | (refine J.o 5 ?_; first | refine J.t0 hΓ ?_) | (refine J.o 6 ?_; refine J.bx (fun _ => ?_)) | (refine J.o 7 ?_; refine J.al hΓ (fun _ => ?_)) | (refine J.o 10 ?_; refine J.ev' hΓ ?_) | (refine J.o 11 ?_; refine J.ev' hΓ ?_)) | ((fail_if_success refine J.wt ?_); refine J.gc rfl rfl (fun hc => ?_) (fun hc => ?_) <;> ((try simp only [decide_eq_true_eq, decide_eq_false_iff_not, beq_iff_eq, beq_eq_false_iff_ne, bne_iff_ne, bne_eq_false_iff_eq, Bool.not_eq_true', Bool.not_eq_false', Bool.not_eq_true, Bool.not_eq_false] at hc) <;> first | (first | (exact absurd rfl hc) | (exfalso; omega) | (exact absurd (hc.symm.trans (by assumption : _ = false)) (by decide)) | (exact absurd (hc.symm.trans (by assumption : _ = true)) (by decide))) | skip)))
      | (first | refine JC.seq ?_ | refine JC.region ?_ | refine JC.block ?_ | refine JC.ret ?_ | refine JC.exit ?_ | refine JC.skip ?_ | refine thenK.nn ?_ | refine thenK.x ?_ | refine blockK.nn ?_ | refine blockK.hit rfl ?_ | refine JC.condF rfl ?_ | (refine JC.cond rfl (fun hc => ?_) (fun hc => ?_) <;> ((try simp only [decide_eq_true_eq, decide_eq_false_iff_not, beq_iff_eq, beq_eq_false_iff_ne, bne_iff_ne, bne_eq_false_iff_eq, Bool.not_eq_true', Bool.not_eq_false', Bool.not_eq_true, Bool.not_eq_false] at hc) <;> first | (first | (exact absurd rfl hc) | (exfalso; omega) | (exact absurd (hc.symm.trans (by assumption : _ = false)) (by decide)) | (exact absurd (hc.symm.trans (by assumption : _ = true)) (by decide))) | skip)) | refine drawK.nn ?_ | refine loopK.x ?_)
      | (fail)
      | fail
    all_goals first | (exfalso; omega) | skip
    exact ret1f rfl rfl rfl (fun w1 hw => ⟨rfl, hw.below⟩)
  have hmk := mem_g vs k hk
  have hVs := si _ hmk
  have hVo := hrng k hk
  have hDk := hD k (by omega)
  rw [getD_map] at hDk
  obtain ⟨v, hv⟩ : ∃ v, vs.getD k default = v := ⟨_, rfl⟩
  rw [hv] at hVs hVo hDk
  by_cases h4 : v.kind = 4
  case neg =>
    repeat' first
      | (refine J.isJ ?_; first | (first | (refine J.o 3 ?_; refine J.iJ hΓ ?_ (hs := so)) | (refine J.o 4 ?_; refine J.lT default hΓ ?_ (hs := so) (hr := q0 _); rw [hv])) | (first | (refine J.o 0 ?_; refine J.ev' hΓ ?_) | refine J.nil ?_ | refine J.kd ?_ | (refine J.o 4 ?_; first | refine J.lT default hΓ ?_ | refine J.lR hΓ ?_) | (refine J.o 3 ?_; first | refine J.iJ hΓ ?_ | refine J.ev' hΓ ?_) | (refine J.o 1 ?_; first | refine J.ad ?_) | (refine J.o 5 ?_; first | refine J.t0 hΓ ?_) | (refine J.o 6 ?_; refine J.bx (fun _ => ?_)) | (refine J.o 7 ?_; refine J.al hΓ (fun _ => ?_)) | (refine J.o 10 ?_; refine J.ev' hΓ ?_) | (refine J.o 11 ?_; refine J.ev' hΓ ?_)) | ((fail_if_success refine J.wt ?_); refine J.gc rfl rfl (fun hc => ?_) (fun hc => ?_) <;> ((try simp only [decide_eq_true_eq, decide_eq_false_iff_not, beq_iff_eq, beq_eq_false_iff_ne, bne_iff_ne, bne_eq_false_iff_eq, Bool.not_eq_true', Bool.not_eq_false', Bool.not_eq_true, Bool.not_eq_false] at hc) <;> first | (first | (exact absurd rfl hc) | (exfalso; omega) | (exact absurd (hc.symm.trans (by assumption : _ = false)) (by decide)) | (exact absurd (hc.symm.trans (by assumption : _ = true)) (by decide))) | skip)))
      | (first | refine JC.seq ?_ | refine JC.region ?_ | refine JC.block ?_ | refine JC.ret ?_ | refine JC.exit ?_ | refine JC.skip ?_ | refine thenK.nn ?_ | refine thenK.x ?_ | refine blockK.nn ?_ | refine blockK.hit rfl ?_ | refine JC.condF rfl ?_ | (refine JC.cond rfl (fun hc => ?_) (fun hc => ?_) <;> ((try simp only [decide_eq_true_eq, decide_eq_false_iff_not, beq_iff_eq, beq_eq_false_iff_ne, bne_iff_ne, bne_eq_false_iff_eq, Bool.not_eq_true', Bool.not_eq_false', Bool.not_eq_true, Bool.not_eq_false] at hc) <;> first | (first | (exact absurd rfl hc) | (exfalso; omega) | (exact absurd (hc.symm.trans (by assumption : _ = false)) (by decide)) | (exact absurd (hc.symm.trans (by assumption : _ = true)) (by decide))) | skip)) | refine drawK.nn ?_ | refine loopK.x ?_)
      | ((refine JC.drawO [(0,0),(1,1),(0,2),(0,3),(0,4),(1,5),(0,6),(0,7),(0,8),(1,9),(0,10),(1,11),(0,12),(1,13),(1,15),(0,16),(1,17),(0,18),(1,19),(3,14),(3,20),(1,21),(0,22),(0,23),(0,24)] (by kernel_rfl) (by kernel_rfl) ?_))
      | fail
    all_goals first | (exfalso; omega) | skip
    refine loopK.nn (m - 1) (by omega) (by repeat (first | refine Ag.upd rfl ?_ | exact Ag.hv)) ⟨_, ⟨k + 1, ?_, by omega, rfl⟩, fun w hw => H.sel (l := [_, _]) (M := []) hw [1]⟩
    show Value.int .i64 _ = _; congr 1
  obtain ⟨i, j, hij, hop⟩ := hDk h4
  have hij : v.l = [(i : Int), (j : Int)] := hij
  have hi1 := hVo (i : Int) (by rw [hij]; exact List.mem_cons_self)
  have hj1 := hVo (j : Int) (by rw [hij]; exact List.mem_cons_of_mem _ List.mem_cons_self)
  have hil : i < vs.length := by omega
  have hjl : j < vs.length := by omega
  have hll : v.l.length = 2 := by rw [hij]; rfl
  have hg0 : v.l.getD 0 default = (i : Int) := by rw [hij]; rfl
  have hg1 : v.l.getD 1 default = (j : Int) := by rw [hij]; rfl
  have bi := hHL i hil
  have bj := hHL j hjl
  rw [getD_map] at bi bj
  have bi2 := hsm _ (mem_g vs i hil)
  have bj2 := hsm _ (mem_g vs j hjl)
  have bi3 : (pnV (vs.getD i default)).2.2.length = (vs.getD i default).l.length := rfl
  have bj3 : (pnV (vs.getD j default)).2.2.length = (vs.getD j default).l.length := rfl
  repeat' first
    | (refine J.isJ ?_; first | (first | (refine J.o 3 ?_; first | refine J.iJ hΓ ?_ (hs := so) | refine J.iJ hΓ ?_ (hs := hVs)) | (refine J.o 4 ?_; first | (refine J.lT default hΓ ?_ (hs := so) (hr := q0 _); rw [hv]) | (refine J.lT default hΓ ?_ (hs := hVs) (hr := q0 _); first | rw [hg0] | rw [hg1]) | refine J.lR hΓ ?_ (hr := Rd.hd.tl)) | (refine J.fc 103 ?_; first | (refine J.call1 eHeads rfl rfl (fun w hw => cH i hil w (hw.rdH (q0 _))) ?_; rintro _ hH1 ⟨a1, c1, rfl, s1⟩) | (refine J.call1 eHeads rfl rfl (fun w hw => cH j hjl w (hw.rdH (q0 _))) ?_; rintro _ hH2 ⟨a2, c2, rfl, s2⟩)) | (refine J.fc 102 ?_; refine J.call0 eOpp rfl rfl (fun w hw => opp_any _ _ (hHR i hil) (hHR j hjl) (by omega) (by omega) a1 a2 c1 c2 (hH2 ++ hH1) (s1.sub fun x hx => List.mem_append_right _ hx) (s2.sub fun x hx => List.mem_append_left _ hx) w ((hw.rdH RdH.hd).append (hw.rdH RdH.hd.tl))) ?_; rw [hop])) | (first | (refine J.o 0 ?_; refine J.ev' hΓ ?_) | refine J.nil ?_ | refine J.kd ?_ | (refine J.o 4 ?_; first | refine J.lT default hΓ ?_ | refine J.lR hΓ ?_) | (refine J.o 3 ?_; first | refine J.iJ hΓ ?_ | refine J.ev' hΓ ?_) | (refine J.o 1 ?_; first | refine J.ad ?_) | (refine J.o 5 ?_; first | refine J.t0 hΓ ?_) | (refine J.o 6 ?_; refine J.bx (fun _ => ?_)) | (refine J.o 7 ?_; refine J.al hΓ (fun _ => ?_)) | (refine J.o 10 ?_; refine J.ev' hΓ ?_) | (refine J.o 11 ?_; refine J.ev' hΓ ?_)) | ((fail_if_success refine J.wt ?_); refine J.gc rfl rfl (fun hc => ?_) (fun hc => ?_) <;> ((try simp only [decide_eq_true_eq, decide_eq_false_iff_not, beq_iff_eq, beq_eq_false_iff_ne, bne_iff_ne, bne_eq_false_iff_eq, Bool.not_eq_true', Bool.not_eq_false', Bool.not_eq_true, Bool.not_eq_false] at hc) <;> first | (first | (exact absurd rfl hc) | (exfalso; omega) | (exact absurd (hc.symm.trans (by assumption : _ = false)) (by decide)) | (exact absurd (hc.symm.trans (by assumption : _ = true)) (by decide))) | skip)))
    | (first | refine JC.seq ?_ | refine JC.region ?_ | refine JC.block ?_ | refine JC.ret ?_ | refine JC.exit ?_ | refine JC.skip ?_ | refine thenK.nn ?_ | refine thenK.x ?_ | refine blockK.nn ?_ | refine blockK.hit rfl ?_ | refine JC.condF rfl ?_ | (refine JC.cond rfl (fun hc => ?_) (fun hc => ?_) <;> ((try simp only [decide_eq_true_eq, decide_eq_false_iff_not, beq_iff_eq, beq_eq_false_iff_ne, bne_iff_ne, bne_eq_false_iff_eq, Bool.not_eq_true', Bool.not_eq_false', Bool.not_eq_true, Bool.not_eq_false] at hc) <;> first | (first | (exact absurd rfl hc) | (exfalso; omega) | (exact absurd (hc.symm.trans (by assumption : _ = false)) (by decide)) | (exact absurd (hc.symm.trans (by assumption : _ = true)) (by decide))) | skip)) | refine drawK.nn ?_ | refine loopK.x ?_)
    | ((refine JC.drawO [(0,0),(1,1),(0,2),(0,3),(0,4),(1,5),(0,6),(0,7),(0,8),(1,9),(0,10),(1,11),(0,12),(1,13),(1,15),(0,16),(1,17),(0,18),(1,19),(3,14),(3,20),(1,21),(0,22),(0,23),(0,24)] (by kernel_rfl) (by kernel_rfl) ?_))
    | fail
  all_goals first | (exfalso; omega) | skip
  refine loopK.nn (m - 1) (by omega) (by repeat (first | refine Ag.upd rfl ?_ | exact Ag.hv)) ⟨_, ⟨k + 1, ?_, by omega, rfl⟩, fun w hw => H.sel (l := [_, _, _, _]) (M := []) hw [3]⟩
  show Value.int .i64 _ = _; congr 1
end Go.Proofs.Ytbhgahjeocnfcaa
namespace Go.Proofs.Ytbhgahjeocnfcaa
open Go Go.Cx Go.RowKit
set_option linter.unusedVariables false
set_option linter.unusedSimpArgs false
set_option maxHeartbeats 4000000
attribute [local irreducible] J JC thenK blockK loopK drawK retK QW Qt pel List.set Calls
open Go.Maps Go.Lib
set_option maxRecDepth 8000
attribute [local irreducible] JE Br eK0 eK2 eK3 brK pc
def smallP (n : Int) (N : Int) (T : List (List Int)) : Prop := 0 ≤ N ∧ N ≤ n ∧ T.length ≤ 30 ∧ (∀ c ∈ T, c.length ≤ 10) ∧ thE N T = 0
instance (n N : Int) (T : List (List Int)) : Decidable (smallP n N T) := by unfold smallP; exact inferInstance
end Go.Proofs.Ytbhgahjeocnfcaa
namespace Go.Proofs.Ytbhgahjeocnfcaa
open Go Go.Cx Go.RowKit
set_option linter.unusedVariables false
set_option linter.unusedSimpArgs false
set_option maxHeartbeats 4000000
attribute [local irreducible] J JC thenK blockK loopK drawK retK QW Qt pel List.set Calls
open Go.Maps Go.Lib
set_option maxRecDepth 8000
attribute [local irreducible] JE Br eK0 eK2 eK3 brK pc
abbrev BF := (Nat → Bool) → Bool
end Go.Proofs.Ytbhgahjeocnfcaa
