/- TreeKnown: part 6. -/
import Derived.Test.YtdiciemlbhkilaaGreatDoorKnE
import Derived.Lib.AppendStr
import Derived.Laws.BytesArg
import Derived.Laws.Slices
import Derived.Lib.Builder
import Derived.Laws.Externs
import Derived.Maps.Keyed
import Derived.StringKeys
namespace Go.Proofs.YtdiciemlbhkilaaGreatDoor
open Go Go.Cx Go.RowKit
set_option linter.unusedVariables false
set_option linter.unusedSimpArgs false
set_option maxHeartbeats 4000000
attribute [local irreducible] J JC thenK blockK loopK roundK drawK retK QW Qt pel List.set Calls
def cF (bc : Nat) (e : TypeId) (n : Int) (aL : Option Addr) (len capL : Nat) : Heap := [(bc, .cells ⟨[.int .i64 n, .slice aL len capL]⟩ e (0, 0))]
structure St (n : Int) (gs : List Gt) (hI : Heap) : Prop where
  ok : ∀ i, i < gs.length → OkG n i (gs.getD i default)
  ins : ∀ i, i < gs.length → SlT encI 1 (gs.getD i default).a (gs.getD i default).ins hI
def val (s : Nat × Nat) (gs : List Gt) (r : Int) : Bool := (vals s gs).getD r.toNat default
theorem vals_all (s : Nat × Nat) (gs : List Gt) : (vals s gs).length = gs.length := by
  have := vals_len s gs gs.length (Nat.le_refl _)
  rwa [List.take_length] at this
theorem getD_left {α : Type} [Inhabited α] (a b : List α) (i : Nat) (h : i < a.length) : (a ++ b).getD i default = a.getD i default := by
  rw [List.getD_eq_getElem?_getD, List.getD_eq_getElem?_getD, List.getElem?_append_left h]
theorem getD_last {α : Type} [Inhabited α] (a : List α) (x : α) : (a ++ [x]).getD a.length default = x := by
  rw [List.getD_eq_getElem?_getD, List.getElem?_append_right (Nat.le_refl _)]; simp
theorem val_left (s : Nat × Nat) (gs : List Gt) (x : Gt) (r : Int) (h0 : 0 ≤ r) (h : r < gs.length) : val s (gs ++ [x]) r = val s gs r := by
  unfold val
  rw [vals_snoc, getD_left _ _ _ (by rw [vals_all]; omega)]
theorem val_last (s : Nat × Nat) (gs : List Gt) (x : Gt) : val s (gs ++ [x]) (gs.length : Int) = valueP s (vals s gs) x := by
  unfold val
  have := getD_last (vals s gs) (valueP s (vals s gs) x)
  rw [vals_all] at this
  rw [vals_snoc, Int.toNat_natCast, this]
theorem St.snoc {n : Int} {gs : List Gt} {hI hI' : Heap} (st : St n gs hI) (x : Gt) (hx : OkG n gs.length x) (hi : SlT encI 1 x.a x.ins hI') (hh : ∀ y, y ∈ hI → y ∈ hI') : St n (gs ++ [x]) hI' := by
  refine ⟨fun i hlt => ?_, fun i hlt => ?_⟩
  · rw [List.length_append, List.length_singleton] at hlt
    rcases Nat.lt_or_ge i gs.length with h | h
    · rw [getD_left _ _ _ h]; exact st.ok i h
    · obtain rfl : i = gs.length := by omega
      rw [getD_last]; exact hx
  · rw [List.length_append, List.length_singleton] at hlt
    rcases Nat.lt_or_ge i gs.length with h | h
    · rw [getD_left _ _ _ h]; exact slm (st.ins i h) hh
    · obtain rfl : i = gs.length := by omega
      rw [getD_last]; exact hi
theorem eAdd : Entr Tryz.prog 54 := Entr.of Tryz.func54 rfl rfl
theorem add_any {w0 w : World} {R hl : Heap} {L : List Heap} {bc : Nat} {e : TypeId} {n : Int} {aL : Option Addr} {capL : Nat} {gs : List Gt} (x : Gt) (ol : OwT encG 3 101 aL capL gs hl) (hlen : gs.length ≤ 4096) (hw : H w0 R (cF bc e n aL gs.length capL :: hl :: L) w) :
    Calls Tryz.prog 54 #[.agg ⟨encG x⟩, .pointer (some ⟨bc, 0, none⟩)] w fun e' w' => ∃ v L', e' = .returned v ∧ H w0 R L' w' ∧ (v = .int .i64 (gs.length : Int) ∧ ∃ aL' capL' hl', OwT encG 3 101 aL' capL' (gs ++ [x]) hl' ∧ L' = cF bc e n aL' (gs.length + 1) capL' :: hl' :: L) := by
  unfold cF at hw ⊢
  have hl1 : (gs ++ [x]).length = gs.length + 1 := by simp
  refine calls_in Tryz.func54 Tryz.ntmps54 rfl rfl (hw) ?_
  repeat' first
    | (refine J.isJ ?_; first | (first | (refine J.o 0 ?_; refine J.ev' hΓ ?_) | refine J.nil ?_ | (refine J.o 4 ?_; first | refine J.e0 hΓ ?_ | refine J.e1 hΓ ?_) | (refine J.o 3 ?_; first | refine J.ev' hΓ ?_) | (refine J.o 1 ?_; first | refine J.sb ?_) | (refine J.o 5 ?_; first | refine J.t1 hΓ ?_) | (refine J.o 6 ?_; refine J.bx (fun _ => ?_)) | (refine J.o 9 ?_; refine J.bl hΓ (fun _ => ?_)) | (refine J.o 10 ?_; first | refine J.ev' hΓ ?_) | (refine J.o 11 ?_; first | refine J.ev' hΓ ?_)) | ((refine J.app1c (enc := encG) [x] hΓ (fun _ _ _ _ => ?_))))
    | (first | refine JC.seq ?_ | refine JC.region ?_ | refine JC.ret ?_ | refine thenK.nn ?_ | (refine JC.cond rfl (fun hc => ?_) (fun hc => ?_) <;> ((try simp only [tcS] at hc) <;> first | (first | (exact absurd rfl hc) | (exfalso; omega) | (exact (tF hc (by assumption)).elim) | (exact (fT hc (by assumption)).elim)) | skip)))
    | fail
  all_goals first | (exfalso; omega) | skip
  all_goals refine ret1f rfl rfl rfl (fun w1 hw => ⟨_, _, rfl, hw.drop, ?_, _, _, _, by assumption, ?_⟩)
  · show Value.int .i64 _ = _; congr 1; omega
  · rw [hl1]
theorem _root_.Go.Cx.H.mg {w0 w : World} {R a b c d : Heap} {L : List Heap} (h : H w0 R (a :: b :: c :: d :: L) w) : H w0 R (a :: b :: (c ++ d) :: L) w := by
  have e : (a :: b :: (c ++ d) :: L).flatten = (a :: b :: c :: d :: L).flatten := by simp
  exact ⟨h.below, h.old, by rw [e]; exact h.own, by rw [e]; exact h.new, by rw [e]; exact h.nodup⟩
end Go.Proofs.YtdiciemlbhkilaaGreatDoor
namespace Go.Proofs.YtdiciemlbhkilaaGreatDoor
open Go Go.Cx Go.RowKit
set_option linter.unusedVariables false
set_option linter.unusedSimpArgs false
set_option maxHeartbeats 4000000
attribute [local irreducible] J JC thenK blockK loopK roundK drawK retK QW Qt pel List.set Calls
theorem class_fuel {ts : List Nd} (hl : Later ts) (s : Nat × Nat) : ∀ (f f' : Nat) (i : Int), 0 ≤ i → i < ts.length → ts.length - i ≤ f → ts.length - i ≤ f' → classN ts s f i = classN ts s f' i
  | 0, _, i, h0, h1, h2, _ => by omega
  | _ + 1, 0, i, h0, h1, _, h3 => by omega
  | f + 1, f' + 1, i, h0, h1, h2, h3 => by
    rw [classN, classN]
    by_cases hv : (ts.getD i.toNat default).v = 0
    · rw [if_pos hv, if_pos hv]
    · rw [if_neg hv, if_neg hv]
      obtain ⟨a, b, c, d⟩ := hl i h0 h1 hv
      rw [class_fuel hl s f f' _ (by omega) d (by omega) (by omega), class_fuel hl s f f' _ (by omega) b (by omega) (by omega)]
def clsAt (ts : List Nd) (s : Nat × Nat) (j : Nat) : Bool := classN ts s ts.length j
theorem clsAt_leaf (ts : List Nd) (s : Nat × Nat) (j : Nat) (hj : j < ts.length) (hv : (ts.getD j default).v = 0) : clsAt ts s j = (ts.getD j default).c := by
  unfold clsAt
  obtain ⟨f, hf⟩ : ∃ f, ts.length = f + 1 := ⟨ts.length - 1, by omega⟩
  rw [hf, classN, Int.toNat_natCast, if_pos hv]
theorem clsAt_q {ts : List Nd} (hl : Later ts) (s : Nat × Nat) (j : Nat) (hj : j < ts.length) (hv : (ts.getD j default).v ≠ 0) : clsAt ts s j = if hasB s (ts.getD j default).v then clsAt ts s (ts.getD j default).yes.toNat else clsAt ts s (ts.getD j default).no.toNat := by
  have hlj := hl j (by omega) (by omega)
  rw [Int.toNat_natCast] at hlj
  obtain ⟨a, b, c, d⟩ := hlj hv
  unfold clsAt
  obtain ⟨f, hf⟩ : ∃ f, ts.length = f + 1 := ⟨ts.length - 1, by omega⟩
  conv => lhs; rw [hf]
  rw [classN, Int.toNat_natCast, if_neg hv, Int.toNat_of_nonneg (by omega), Int.toNat_of_nonneg (by omega)]
  rw [class_fuel hl s f ts.length _ (by omega) d (by omega) (by omega), class_fuel hl s f ts.length _ (by omega) b (by omega) (by omega)]
attribute [local irreducible] clsAt
def Base (gs : List Gt) : Prop := 2 ≤ gs.length ∧ ∀ s, val s gs 0 = false ∧ val s gs 1 = true
theorem eFold : Entr Tryz.prog 40 := Entr.of Tryz.func40 rfl rfl
end Go.Proofs.YtdiciemlbhkilaaGreatDoor
namespace Go.Proofs.YtdiciemlbhkilaaGreatDoor
open Go Go.Cx Go.RowKit
set_option linter.unusedVariables false
set_option linter.unusedSimpArgs false
set_option maxHeartbeats 4000000
attribute [local irreducible] J JC thenK blockK loopK roundK drawK retK QW Qt pel List.set Calls
def firstE (n : Int) : List TV → Int
  | [] => if n < 0 ∨ 128 < n then 6 else 0
  | t :: l => if checkT t.ts n = 0 then firstE n l else checkT t.ts n
theorem firstE_drop (n : Int) (l : List TV) (k : Nat) (hk : k < l.length) : firstE n (l.drop k) = if checkT (l.getD k default).ts n = 0 then firstE n (l.drop (k + 1)) else checkT (l.getD k default).ts n := by
  rw [drop_one l k hk, firstE]
theorem firstE_nil (n : Int) : firstE n [] = if n < 0 ∨ 128 < n then 6 else 0 := rfl
attribute [local irreducible] firstE checkT
theorem eForest : Entr Tryz.prog 20 := Entr.of Tryz.func20 rfl rfl
set_option maxRecDepth 20000 in
theorem forest_err (a : Option Addr) (cap : Nat) (l : List TV) (n : Int) (h : Heap) (hs : SlT encTV 1 a l h) (ht : ∀ t, t ∈ l → SlT encN 4 t.a t.ts h) (hl : l.length ≤ 9) (he : firstE n l ≠ 0) (w : World) (hw : Holds h w) :
    Calls Tryz.prog 20 #[.slice a l.length cap, .int .i64 n] w fun e w' => e = .returned (.tuple #[cv 0 none 0 0, .int .i64 (firstE n l)]) ∧ Below w.heap.size w w' := by
  refine calls_of_JC (R := h) Tryz.func20 Tryz.ntmps20 rfl rfl (hw) ?_
  repeat' first
    | (refine J.isJ ?_; (first | (first | (refine J.o 0 ?_; refine J.ev' hΓ ?_) | refine J.nil ?_ | refine J.kd ?_ | (refine J.o 4 ?_; first | refine J.lT default hΓ ?_) | (refine J.o 3 ?_; first | refine J.iJ hΓ ?_ | refine J.ev' hΓ ?_) | (refine J.o 1 ?_; first | refine J.ad ?_) | (refine J.o 5 ?_; first | refine J.t0 hΓ ?_) | (refine J.o 7 ?_; refine J.al hΓ (fun _ => ?_)) | (refine J.o 8 ?_; refine J.bd hΓ ?_) | (refine J.o 10 ?_; first | refine J.ev' hΓ ?_) | (refine J.o 11 ?_; first | refine J.ev' hΓ ?_)) | ((fail_if_success refine J.wt ?_); refine J.gc rfl rfl (fun hc => ?_) (fun hc => ?_) <;> ((try simp only [tcS] at hc) <;> first | (first | (exact absurd rfl hc) | (exfalso; omega) | (exact (tF hc (by assumption)).elim) | (exact (fT hc (by assumption)).elim)) | skip))))
    | (first | refine JC.seq ?_ | refine JC.region ?_ | refine JC.block ?_ | refine JC.ret ?_ | refine JC.exit ?_ | refine JC.skip ?_ | refine thenK.nn ?_ | refine thenK.r ?_ | refine thenK.x ?_ | refine blockK.nn ?_ | refine blockK.r ?_ | refine blockK.hit rfl ?_ | refine JC.condT rfl ?_ | refine JC.condF rfl ?_ | (refine JC.cond rfl (fun hc => ?_) (fun hc => ?_) <;> ((try simp only [tcS] at hc) <;> first | (first | (exact absurd rfl hc) | (exfalso; omega) | (exact (tF hc (by assumption)).elim) | (exact (fT hc (by assumption)).elim)) | skip)) | refine loopK.r ?_ | refine loopK.x ?_)
    | fail
  refine JC.loop (fun i => i == 7 || i == 8 || Nat.ble 21 i) (fun m g L' => ∃ (k : Nat), g 21 = .int .i64 (k : Int) ∧ k + m = l.length ∧ firstE n (l.drop k) = firstE n l ∧ L' = _) l.length ⟨0, rfl, by omega, rfl, rfl⟩ ?_
  rintro m g L' ⟨k, e21, hkm, hfe, rfl⟩
  refine JC.pin 21 e21 ?_
  clear e21
  rcases Nat.lt_or_ge k l.length with hk | hk
  case inr =>
    rw [List.drop_eq_nil_of_le hk, firstE_nil] at hfe
    rw [← hfe] at he ⊢
    by_cases hn : n < 0 ∨ 128 < n
    · rw [if_pos hn]
      repeat' first
        | (refine J.isJ ?_; (first | (first | (refine J.o 0 ?_; refine J.ev' hΓ ?_) | refine J.nil ?_ | refine J.kd ?_ | (refine J.o 4 ?_; first | refine J.lT default hΓ ?_) | (refine J.o 3 ?_; first | refine J.iJ hΓ ?_ | refine J.ev' hΓ ?_) | (refine J.o 1 ?_; first | refine J.ad ?_) | (refine J.o 5 ?_; first | refine J.t0 hΓ ?_) | (refine J.o 7 ?_; refine J.al hΓ (fun _ => ?_)) | (refine J.o 8 ?_; refine J.bd hΓ ?_) | (refine J.o 10 ?_; first | refine J.ev' hΓ ?_) | (refine J.o 11 ?_; first | refine J.ev' hΓ ?_)) | ((fail_if_success refine J.wt ?_); refine J.gc rfl rfl (fun hc => ?_) (fun hc => ?_) <;> ((try simp only [tcS] at hc) <;> first | (first | (exact absurd rfl hc) | (exfalso; omega) | (exact (tF hc (by assumption)).elim) | (exact (fT hc (by assumption)).elim)) | skip))))
        | (first | refine JC.seq ?_ | refine JC.region ?_ | refine JC.block ?_ | refine JC.ret ?_ | refine JC.exit ?_ | refine JC.skip ?_ | refine thenK.nn ?_ | refine thenK.r ?_ | refine thenK.x ?_ | refine blockK.nn ?_ | refine blockK.r ?_ | refine blockK.hit rfl ?_ | refine JC.condT rfl ?_ | refine JC.condF rfl ?_ | (refine JC.cond rfl (fun hc => ?_) (fun hc => ?_) <;> ((try simp only [tcS] at hc) <;> first | (first | (exact absurd rfl hc) | (exfalso; omega) | (exact (tF hc (by assumption)).elim) | (exact (fT hc (by assumption)).elim)) | skip)) | refine loopK.r ?_ | refine loopK.x ?_)
        | fail
      all_goals first | (exfalso; omega) | exact retCS hΓ rfl rfl rfl rfl Rd.hd rfl rfl (fun w1 hw => ⟨rfl, hw.below⟩)
    · rw [if_neg hn] at he
      exact absurd rfl he
  have hmem : l.getD k default ∈ l := by
    rw [List.getD_eq_getElem?_getD, List.getElem?_eq_getElem hk]
    exact List.getElem_mem hk
  have hst := ht _ hmem
  rw [firstE_drop n l k hk] at hfe
  have cC := fun w hw => check_any (l.getD k default).a (l.getD k default).cap (l.getD k default).ts n h hst w hw
  by_cases hc0 : checkT (l.getD k default).ts n = 0
  · rw [if_pos hc0] at hfe
    rw [hc0] at cC
    repeat' first
      | (refine J.isJ ?_; first | (first | (refine J.o 0 ?_; refine J.ev' hΓ ?_) | refine J.nil ?_ | refine J.kd ?_ | (refine J.o 4 ?_; first | refine J.lT default hΓ ?_) | (refine J.o 3 ?_; first | refine J.iJ hΓ ?_ | refine J.ev' hΓ ?_) | (refine J.o 1 ?_; first | refine J.ad ?_) | (refine J.o 5 ?_; first | refine J.t0 hΓ ?_) | (refine J.o 7 ?_; refine J.al hΓ (fun _ => ?_)) | (refine J.o 8 ?_; refine J.bd hΓ ?_) | (refine J.o 10 ?_; first | refine J.ev' hΓ ?_) | (refine J.o 11 ?_; first | refine J.ev' hΓ ?_)) | ((refine J.fc 21 ?_; refine J.call0 eCheck rfl rfl (fun w hw => cC w (hw.rdH (by first | exact RdH.hd | exact RdH.hd.tl | exact RdH.hd.tl.tl | exact RdH.hd.tl.tl.tl | exact RdH.hd.tl.tl.tl.tl | exact RdH.hd.tl.tl.tl.tl.tl | exact RdH.hd.tl.tl.tl.tl.tl.tl | exact RdH.hd.tl.tl.tl.tl.tl.tl.tl | exact RdH.old (fun _ hh => hh) | assumption))) ?_)) | ((fail_if_success refine J.wt ?_); refine J.gc rfl rfl (fun hc => ?_) (fun hc => ?_) <;> ((try simp only [tcS] at hc) <;> first | (first | (exact absurd rfl hc) | (exfalso; omega) | (exact (tF hc (by assumption)).elim) | (exact (fT hc (by assumption)).elim)) | skip)))
      | (first | refine JC.seq ?_ | refine JC.region ?_ | refine JC.block ?_ | refine JC.ret ?_ | refine JC.exit ?_ | refine JC.skip ?_ | refine thenK.nn ?_ | refine thenK.r ?_ | refine thenK.x ?_ | refine blockK.nn ?_ | refine blockK.r ?_ | refine blockK.hit rfl ?_ | refine JC.condT rfl ?_ | refine JC.condF rfl ?_ | (refine JC.cond rfl (fun hc => ?_) (fun hc => ?_) <;> ((try simp only [tcS] at hc) <;> first | (first | (exact absurd rfl hc) | (exfalso; omega) | (exact (tF hc (by assumption)).elim) | (exact (fT hc (by assumption)).elim)) | skip)) | refine loopK.r ?_ | refine loopK.x ?_)
      | fail
    all_goals first | (exfalso; omega) | skip
    all_goals refine loopK.nn (m - 1) (by omega) (by repeat (first | refine Ag.upd rfl ?_ | exact Ag.hv)) ⟨k + 1, ?_, by omega, hfe, rfl⟩
    · show Value.int .i64 _ = _; congr 1
  · rw [if_neg hc0] at hfe
    rw [← hfe]
    repeat' first
      | (refine J.isJ ?_; first | (first | (refine J.o 0 ?_; refine J.ev' hΓ ?_) | refine J.nil ?_ | refine J.kd ?_ | (refine J.o 4 ?_; first | refine J.lT default hΓ ?_) | (refine J.o 3 ?_; first | refine J.iJ hΓ ?_ | refine J.ev' hΓ ?_) | (refine J.o 1 ?_; first | refine J.ad ?_) | (refine J.o 5 ?_; first | refine J.t0 hΓ ?_) | (refine J.o 7 ?_; refine J.al hΓ (fun _ => ?_)) | (refine J.o 8 ?_; refine J.bd hΓ ?_) | (refine J.o 10 ?_; first | refine J.ev' hΓ ?_) | (refine J.o 11 ?_; first | refine J.ev' hΓ ?_)) | ((refine J.fc 21 ?_; refine J.call0 eCheck rfl rfl (fun w hw => cC w (hw.rdH (by first | exact RdH.hd | exact RdH.hd.tl | exact RdH.hd.tl.tl | exact RdH.hd.tl.tl.tl | exact RdH.hd.tl.tl.tl.tl | exact RdH.hd.tl.tl.tl.tl.tl | exact RdH.hd.tl.tl.tl.tl.tl.tl | exact RdH.hd.tl.tl.tl.tl.tl.tl.tl | exact RdH.old (fun _ hh => hh) | assumption))) ?_)) | ((fail_if_success refine J.wt ?_); refine J.gc rfl rfl (fun hc => ?_) (fun hc => ?_) <;> ((try simp only [tcS] at hc) <;> first | (first | (exact absurd rfl hc) | (exfalso; omega) | (exact (tF hc (by assumption)).elim) | (exact (fT hc (by assumption)).elim)) | skip)))
      | (first | refine JC.seq ?_ | refine JC.region ?_ | refine JC.block ?_ | refine JC.ret ?_ | refine JC.exit ?_ | refine JC.skip ?_ | refine thenK.nn ?_ | refine thenK.r ?_ | refine thenK.x ?_ | refine blockK.nn ?_ | refine blockK.r ?_ | refine blockK.hit rfl ?_ | refine JC.condT rfl ?_ | refine JC.condF rfl ?_ | (refine JC.cond rfl (fun hc => ?_) (fun hc => ?_) <;> ((try simp only [tcS] at hc) <;> first | (first | (exact absurd rfl hc) | (exfalso; omega) | (exact (tF hc (by assumption)).elim) | (exact (fT hc (by assumption)).elim)) | skip)) | refine loopK.r ?_ | refine loopK.x ?_)
      | fail
    all_goals first | (exfalso; omega) | exact retCS hΓ rfl rfl rfl rfl Rd.hd rfl rfl (fun w1 hw => ⟨rfl, hw.below⟩)
end Go.Proofs.YtdiciemlbhkilaaGreatDoor
namespace Go.Proofs.YtdiciemlbhkilaaGreatDoor
open Go Go.Cx Go.RowKit
set_option linter.unusedVariables false
set_option linter.unusedSimpArgs false
set_option maxHeartbeats 4000000
attribute [local irreducible] J JC thenK blockK loopK roundK drawK retK QW Qt pel List.set Calls
theorem firstE_zero {n : Int} : ∀ {l : List TV}, firstE n l = 0 → (0 ≤ n ∧ n ≤ 128) ∧ ∀ t, t ∈ l → checkT t.ts n = 0
  | [], h => by
    rw [firstE_nil] at h
    by_cases hn : n < 0 ∨ 128 < n
    · rw [if_pos hn] at h; cases h
    · exact ⟨by omega, fun t ht => by cases ht⟩
  | t :: l, h => by
    have h' := firstE_drop n (t :: l) 0 (by simp)
    rw [List.drop_zero, h] at h'
    by_cases hc : checkT ((t :: l).getD 0 default).ts n = 0
    · rw [if_pos hc] at h'
      obtain ⟨h1, h2⟩ := firstE_zero (l := l) h'.symm
      refine ⟨h1, fun x hx => ?_⟩
      rcases List.mem_cons.1 hx with rfl | hx
      · exact hc
      · exact h2 x hx
    · rw [if_neg hc] at h'
      exact absurd h'.symm hc
def vt (s : Nat × Nat) (l : List TV) : Nat := votesOf (fun ts s => clsAt ts s 0) s l
theorem vt_le (s : Nat × Nat) (l : List TV) (k : Nat) : vt s (l.take k) ≤ k := by
  have := votes_le (fun ts s => clsAt ts s 0) s (l.take k)
  rw [List.length_take] at this
  unfold vt; omega
attribute [local irreducible] vt
theorem _root_.Go.Cx.H.mg2 {w0 w : World} {R a b : Heap} {L : List Heap} (h : H w0 R (a :: b :: L) w) : H w0 R ((a ++ b) :: L) w := by
  have e : ((a ++ b) :: L).flatten = (a :: b :: L).flatten := by simp
  exact ⟨h.below, h.old, by rw [e]; exact h.own, by rw [e]; exact h.new, by rw [e]; exact h.nodup⟩
theorem fin_cir {n : Int} {gs : List Gt} {hI hl3 : Heap} {aL : Option Addr} {capL x : Nat} {root : Int} (n0 : 0 ≤ n) (n1 : n ≤ 128) (st : St n gs hI) (hlen : gs.length + 1 ≤ 4096) (hr : 0 ≤ root ∧ root < gs.length) (ol : OwT encG 3 101 aL capL (gs ++ [(⟨4, 0, some ⟨x, 0, none⟩, 1, [root]⟩ : Gt)]) hl3) :
    Cir n aL (gs ++ [(⟨4, 0, some ⟨x, 0, none⟩, 1, [root]⟩ : Gt)]) (hl3 ++ ([(x, .cells ⟨[.int .i64 root]⟩ 3 (0, 0))] ++ hI)) := by
  have hok : OkG n gs.length (⟨4, 0, some ⟨x, 0, none⟩, 1, [root]⟩ : Gt) := ⟨.inr (.inr ⟨rfl, rfl⟩), .inr ⟨(by decide : (4 : Int) ≠ 2), rfl⟩, fun j hj => by
    match j, hj with
    | 0, _ => exact hr⟩
  have hsl : SlT encI 1 (some ⟨x, 0, none⟩) [root] [(x, .cells ⟨[.int .i64 root]⟩ 3 (0, 0))] := OwT.sl (e := 3) (cap := 1) ⟨fun _ => rfl, .inr ⟨x, _, rfl, rfl, rfl, Nat.le_refl _, rfl⟩⟩
  have st2 := st.snoc _ hok (hI' := hl3 ++ ([(x, .cells ⟨[.int .i64 root]⟩ 3 (0, 0))] ++ hI)) (slm hsl fun y hy => List.mem_append_right _ (List.mem_append_left _ hy)) (fun y hy => List.mem_append_right _ (List.mem_append_right _ hy))
  have hlx : (gs ++ [(⟨4, 0, some ⟨x, 0, none⟩, 1, [root]⟩ : Gt)]).length = gs.length + 1 := by simp
  exact ⟨n0, n1, by omega, by omega, slm ol.sl fun y hy => List.mem_append_left _ hy, st2.ins, st2.ok⟩
theorem fin_val (s : Nat × Nat) (gs : List Gt) (x : Nat) (root : Int) (b : Bool) (h : val s gs root = b) : (vals s (gs ++ [(⟨4, 0, some ⟨x, 0, none⟩, 1, [root]⟩ : Gt)])).getD ((gs ++ [(⟨4, 0, some ⟨x, 0, none⟩, 1, [root]⟩ : Gt)]).length - 1) default = b := by
  have h1 := val_last s gs (⟨4, 0, some ⟨x, 0, none⟩, 1, [root]⟩ : Gt)
  unfold val at h1
  rw [Int.toNat_natCast] at h1
  have hlx : (gs ++ [(⟨4, 0, some ⟨x, 0, none⟩, 1, [root]⟩ : Gt)]).length - 1 = gs.length := by simp
  rw [hlx, h1, ← h]
  simp [valueP, val]
theorem _root_.Go.Cx.H.fin {w0 w : World} {R a b c d e f : Heap} {L : List Heap} (h : H w0 R (a :: b :: c :: d :: e :: f :: L) w) : H w0 R ((c ++ (d ++ f)) :: a :: b :: e :: L) w :=
  ((((h.perm (bring_perm 5 _)).perm (bring_perm 4 _)).mg2).perm (bring_perm 3 _)).mg2
def g01 : List Gt := [⟨0, 0, none, 0, []⟩, ⟨1, 0, none, 0, []⟩]
theorem st01 (n : Int) : St n g01 [] := by
  refine ⟨fun i hi => ?_, fun i hi => ?_⟩
  · match i, hi with
    | 0, _ => exact ⟨.inl ⟨.inl rfl, rfl⟩, .inr ⟨(by decide : (0 : Int) ≠ 2), rfl⟩, fun j hj => by cases hj⟩
    | 1, _ => exact ⟨.inl ⟨.inr (.inl rfl), rfl⟩, .inr ⟨(by decide : (1 : Int) ≠ 2), rfl⟩, fun j hj => by cases hj⟩
  · match i, hi with
    | 0, _ => exact ⟨fun _ => rfl, fun i hi => by cases hi⟩
    | 1, _ => exact ⟨fun _ => rfl, fun i hi => by cases hi⟩
theorem base01 : Base g01 := ⟨Nat.le_refl _, fun s => by
  have e : g01 = [⟨0, 0, none, 0, []⟩] ++ [⟨1, 0, none, 0, []⟩] := rfl
  have e0 : ([⟨0, 0, none, 0, []⟩] : List Gt) = [] ++ [⟨0, 0, none, 0, []⟩] := rfl
  constructor
  · rw [e, val_left s _ _ 0 (by decide) (by decide), e0]
    have := val_last s [] ⟨0, 0, none, 0, []⟩
    rw [show (([] : List Gt).length : Int) = 0 from rfl] at this
    rw [this]; rfl
  · rw [e]
    have := val_last s [⟨0, 0, none, 0, []⟩] ⟨1, 0, none, 0, []⟩
    rw [show (([⟨0, 0, none, 0, []⟩] : List Gt).length : Int) = 1 from rfl] at this
    rw [this]; rfl⟩
end Go.Proofs.YtdiciemlbhkilaaGreatDoor
namespace Go.Proofs.YtdiciemlbhkilaaGreatDoor
open Go Go.Cx Go.RowKit
set_option linter.unusedVariables false
set_option linter.unusedSimpArgs false
set_option maxHeartbeats 4000000
attribute [local irreducible] J JC thenK blockK loopK roundK drawK retK QW Qt pel List.set Calls
attribute [local irreducible] JE Br eK0 eK3 brK
def varI (l : Int) : Int := if 1 ≤ l ∧ l ≤ 128 then l else if -128 ≤ l ∧ l ≤ -1 then -l else 0
def validB (l n : Int) : Bool := decide (l ≠ 0 ∧ -n ≤ l ∧ l ≤ n)
theorem eVar : Entr Tryz.prog 96 := Entr.of Tryz.func96 rfl rfl
theorem eValid : Entr Tryz.prog 118 := Entr.of Tryz.func118 rfl rfl
theorem var_any (l : Int) (w : World) : Calls Tryz.prog 96 #[.int .i64 l] w fun e w' => e = .returned (.int .i64 (varI l)) ∧ Below w.heap.size w w' := by
  refine calls_of_JC (R := []) Tryz.func96 Tryz.ntmps96 rfl rfl (Holds.nil _) ?_
  repeat' first
    | (refine J.isJ ?_; (first | (first | (refine J.o 0 ?_; refine J.ev' hΓ ?_) | refine J.nil ?_ | refine J.kd ?_ | (refine J.o 3 ?_; first | refine J.ev' hΓ ?_) | (refine J.o 1 ?_; first | refine J.ng ?_) | (refine J.o 10 ?_; refine J.ev' hΓ ?_) | (refine J.o 11 ?_; refine J.ev' hΓ ?_)) | ((fail_if_success refine J.wt ?_); refine J.gc rfl rfl (fun hc => ?_) (fun hc => ?_) <;> ((try simp only [tcS] at hc) <;> first | (first | (exact absurd rfl hc) | (exfalso; omega) | (exact (tF hc (by assumption)).elim) | (exact (fT hc (by assumption)).elim)) | skip))))
    | (first | refine JC.seq ?_ | refine JC.region ?_ | refine JC.block ?_ | refine JC.ret ?_ | refine JC.skip ?_ | refine thenK.nn ?_ | refine thenK.r ?_ | refine blockK.nn ?_ | refine blockK.r ?_ | refine JC.condF rfl ?_ | (refine JC.cond rfl (fun hc => ?_) (fun hc => ?_) <;> ((try simp only [tcS] at hc) <;> first | (first | (exact absurd rfl hc) | (exfalso; omega) | (exact (tF hc (by assumption)).elim) | (exact (fT hc (by assumption)).elim)) | skip)))
    | fail
  all_goals first | (exfalso; omega) | skip
  all_goals (refine ret1f rfl rfl rfl (fun w1 hw => ⟨retI ?_, hw.below⟩))
  all_goals (clear hw; unfold varI; grind)
theorem valid_any (l n : Int) (hn : 0 ≤ n ∧ n ≤ 128) (w : World) : Calls Tryz.prog 118 #[.int .i64 l, .int .i64 n] w fun e w' => e = .returned (.bool (validB l n)) ∧ Below w.heap.size w w' := by
  refine calls_of_JC (R := []) Tryz.func118 Tryz.ntmps118 rfl rfl (Holds.nil _) ?_
  repeat' first
    | (refine J.isJ ?_; first | (first | (refine J.o 0 ?_; refine J.ev' hΓ ?_) | refine J.nil ?_ | refine J.kd ?_ | (refine J.o 3 ?_; first | refine J.ev' hΓ ?_) | (refine J.o 10 ?_; refine J.ev' hΓ ?_) | (refine J.o 11 ?_; refine J.ev' hΓ ?_)) | ((refine J.fc 96 ?_; refine J.call0 eVar rfl rfl (fun w hw => var_any l w) ?_)) | ((fail_if_success refine J.wt ?_); refine J.gc rfl rfl (fun hc => ?_) (fun hc => ?_) <;> ((try simp only [tcS] at hc) <;> first | (first | (exact absurd rfl hc) | (exfalso; omega) | (exact (tF hc (by assumption)).elim) | (exact (fT hc (by assumption)).elim)) | skip)))
    | (first | refine JC.seq ?_ | refine JC.region ?_ | refine JC.ret ?_ | refine thenK.nn ?_)
    | fail
  all_goals first | (exfalso; omega) | skip
  all_goals (refine ret1f rfl rfl rfl (fun w1 hw => ⟨retB ?_, hw.below⟩))
  all_goals (clear hw; unfold varI validB at *; grind)
theorem drop_g {α : Type} [Inhabited α] (l : List α) (k : Nat) (hk : k < l.length) : l.drop k = l.getD k default :: l.drop (k + 1) := by
  rw [List.drop_eq_getElem_cons hk, List.getD_eq_getElem?_getD, List.getElem?_eq_getElem hk]; rfl
theorem mem_g {α : Type} [Inhabited α] (l : List α) (k : Nat) (hk : k < l.length) : l.getD k default ∈ l := by
  rw [List.getD_eq_getElem?_getD, List.getElem?_eq_getElem hk]
  exact List.getElem_mem hk
def idxB (p : Int → Bool) : List Int → Int → Int
  | [], _ => -1
  | x :: l, k => if p x = true then k else idxB p l (k + 1)
theorem idxB_nn (p : Int → Bool) : ∀ (l : List Int) (k : Int), 0 ≤ k → decide (0 ≤ idxB p l k) = l.any p
  | [], k, _ => rfl
  | y :: l, k, h => by
    rw [idxB, List.any_cons]
    cases hy : p y with
    | true => rw [if_pos rfl]; simp [h]
    | false => rw [if_neg (by decide), idxB_nn p l (k + 1) (by omega)]; rfl
theorem eIdxF : Entr Tryz.prog 97 := Entr.of Tryz.func97 rfl rfl
theorem eConF : Entr Tryz.prog 62 := Entr.of Tryz.func62 rfl rfl
theorem idxG_any {fid : FuncId} (E : Entr Tryz.prog fid) (cp : List Value) (p : Int → Bool) (a : Option Addr) (cap : Nat) (l : List Int) (h hh : Heap) (hs : SlT encI 1 a l h) (hsub : ∀ x, x ∈ h → x ∈ hh) (hl : l.length ≤ 1000000) (hc : ∀ x, x ∈ l → ∀ w, Holds hh w → Calls Tryz.prog fid ⟨.int .i64 x :: cp⟩ w fun e w' => e = .returned (.bool (p x)) ∧ Below w.heap.size w w') (w : World) (hw : Holds hh w) :
    Calls Tryz.prog 97 #[.slice a l.length cap, .func (.func fid) ⟨[]⟩ ⟨cp⟩] w fun e w' => e = .returned (.int .i64 (idxB p l 0)) ∧ Below w.heap.size w w' := by
  have q0 : ∀ L, RdH hh L h := fun L => RdH.old hsub
  have qb : ∀ L, RdH hh L hh := fun L => RdH.old fun x hx => hx
  refine calls_of_JC (R := hh) Tryz.func97 Tryz.ntmps97 rfl rfl (hw) ?_
  repeat' first
    | (refine J.isJ ?_; (first | (first | (refine J.o 0 ?_; refine J.ev' hΓ ?_) | refine J.nil ?_ | (refine J.o 4 ?_; first | refine J.lT default hΓ ?_) | (refine J.o 3 ?_; first | refine J.iJ hΓ ?_ | refine J.ev' hΓ ?_) | (refine J.o 1 ?_; first | refine J.ad ?_) | (refine J.o 10 ?_; refine J.ev' hΓ ?_) | (refine J.o 11 ?_; refine J.ev' hΓ ?_))))
    | (first | refine JC.seq ?_ | refine JC.region ?_ | refine JC.block ?_ | refine JC.ret ?_ | refine JC.exit ?_ | refine JC.skip ?_ | refine thenK.nn ?_ | refine thenK.r ?_ | refine thenK.x ?_ | refine blockK.nn ?_ | refine blockK.r ?_ | refine blockK.hit rfl ?_ | refine JC.condT rfl ?_ | refine JC.condF rfl ?_ | (refine JC.cond rfl (fun hc => ?_) (fun hc => ?_) <;> ((try simp only [tcS] at hc) <;> first | (first | (exact absurd rfl hc) | (exfalso; omega) | (exact (tF hc (by assumption)).elim) | (exact (fT hc (by assumption)).elim)) | skip)) | refine loopK.r ?_ | refine loopK.x ?_)
    | fail
  all_goals first | (exfalso; omega) | skip
  refine JC.loop (fun i => i == 4 || i == 5 || Nat.ble 8 i) (fun m g L => ∃ (k : Nat), g 8 = .int .i64 (k : Int) ∧ k + m = l.length ∧ idxB p l 0 = idxB p (l.drop k) k ∧ L = _) l.length ⟨0, rfl, by omega, rfl, rfl⟩ ?_
  rintro m g L ⟨k, e8, hkm, hi, rfl⟩
  refine JC.pin 8 e8 ?_
  clear e8
  rcases Nat.lt_or_ge k l.length with hk | hk
  case inr =>
    rw [List.drop_eq_nil_of_le hk] at hi
    repeat' first
      | (refine J.isJ ?_; (first | (first | (refine J.o 0 ?_; refine J.ev' hΓ ?_) | refine J.nil ?_ | (refine J.o 4 ?_; first | refine J.lT default hΓ ?_) | (refine J.o 3 ?_; first | refine J.iJ hΓ ?_ | refine J.ev' hΓ ?_) | (refine J.o 1 ?_; first | refine J.ad ?_) | (refine J.o 10 ?_; refine J.ev' hΓ ?_) | (refine J.o 11 ?_; refine J.ev' hΓ ?_))))
      | (first | refine JC.seq ?_ | refine JC.region ?_ | refine JC.block ?_ | refine JC.ret ?_ | refine JC.exit ?_ | refine JC.skip ?_ | refine thenK.nn ?_ | refine thenK.r ?_ | refine thenK.x ?_ | refine blockK.nn ?_ | refine blockK.r ?_ | refine blockK.hit rfl ?_ | refine JC.condT rfl ?_ | refine JC.condF rfl ?_ | (refine JC.cond rfl (fun hc => ?_) (fun hc => ?_) <;> ((try simp only [tcS] at hc) <;> first | (first | (exact absurd rfl hc) | (exfalso; omega) | (exact (tF hc (by assumption)).elim) | (exact (fT hc (by assumption)).elim)) | skip)) | refine loopK.r ?_ | refine loopK.x ?_)
      | fail
    all_goals first | (exfalso; omega) | exact ret1f rfl rfl rfl (fun w1 hw => ⟨retI hi.symm, hw.below⟩)
  have cA := fun w hw => hc _ (mem_g l k hk) w hw
  rw [drop_g l k hk, idxB] at hi
  cases hb : p (l.getD k default) with
  | true =>
    rw [hb] at cA
    rw [if_pos hb] at hi
    repeat' first
      | (refine J.isJ ?_; first | (first | (refine J.o 4 ?_; refine J.lT default hΓ ?_ (hs := hs) (hr := q0 _)) | (refine J.o 9 ?_; refine J.callv0 E rfl rfl rfl (fun w hw => cA w (hw.rdH (qb _))) ?_)) | (first | (refine J.o 0 ?_; refine J.ev' hΓ ?_) | refine J.nil ?_ | (refine J.o 4 ?_; first | refine J.lT default hΓ ?_) | (refine J.o 3 ?_; first | refine J.iJ hΓ ?_ | refine J.ev' hΓ ?_) | (refine J.o 1 ?_; first | refine J.ad ?_) | (refine J.o 10 ?_; refine J.ev' hΓ ?_) | (refine J.o 11 ?_; refine J.ev' hΓ ?_)))
      | (first | refine JC.seq ?_ | refine JC.region ?_ | refine JC.block ?_ | refine JC.ret ?_ | refine JC.exit ?_ | refine JC.skip ?_ | refine thenK.nn ?_ | refine thenK.r ?_ | refine thenK.x ?_ | refine blockK.nn ?_ | refine blockK.r ?_ | refine blockK.hit rfl ?_ | refine JC.condT rfl ?_ | refine JC.condF rfl ?_ | (refine JC.cond rfl (fun hc => ?_) (fun hc => ?_) <;> ((try simp only [tcS] at hc) <;> first | (first | (exact absurd rfl hc) | (exfalso; omega) | (exact (tF hc (by assumption)).elim) | (exact (fT hc (by assumption)).elim)) | skip)) | refine loopK.r ?_ | refine loopK.x ?_)
      | (fail)
      | fail
    all_goals first | (exfalso; omega) | exact ret1f rfl rfl rfl (fun w1 hw => ⟨retI hi.symm, hw.below⟩)
  | false =>
    rw [hb] at cA
    rw [if_neg (by rw [hb]; decide)] at hi
    repeat' first
      | (refine J.isJ ?_; first | (first | (refine J.o 4 ?_; refine J.lT default hΓ ?_ (hs := hs) (hr := q0 _)) | (refine J.o 9 ?_; refine J.callv0 E rfl rfl rfl (fun w hw => cA w (hw.rdH (qb _))) ?_)) | (first | (refine J.o 0 ?_; refine J.ev' hΓ ?_) | refine J.nil ?_ | (refine J.o 4 ?_; first | refine J.lT default hΓ ?_) | (refine J.o 3 ?_; first | refine J.iJ hΓ ?_ | refine J.ev' hΓ ?_) | (refine J.o 1 ?_; first | refine J.ad ?_) | (refine J.o 10 ?_; refine J.ev' hΓ ?_) | (refine J.o 11 ?_; refine J.ev' hΓ ?_)))
      | (first | refine JC.seq ?_ | refine JC.region ?_ | refine JC.block ?_ | refine JC.ret ?_ | refine JC.exit ?_ | refine JC.skip ?_ | refine thenK.nn ?_ | refine thenK.r ?_ | refine thenK.x ?_ | refine blockK.nn ?_ | refine blockK.r ?_ | refine blockK.hit rfl ?_ | refine JC.condT rfl ?_ | refine JC.condF rfl ?_ | (refine JC.cond rfl (fun hc => ?_) (fun hc => ?_) <;> ((try simp only [tcS] at hc) <;> first | (first | (exact absurd rfl hc) | (exfalso; omega) | (exact (tF hc (by assumption)).elim) | (exact (fT hc (by assumption)).elim)) | skip)) | refine loopK.r ?_ | refine loopK.x ?_)
      | (fail)
      | fail
    all_goals first | (exfalso; omega) | skip
    all_goals refine loopK.nn (m - 1) (by omega) (by repeat (first | refine Ag.upd rfl ?_ | exact Ag.hv)) ⟨k + 1, ?_, by omega, hi, rfl⟩
    all_goals (show Value.int .i64 _ = _; congr 1)
theorem conG_any {fid : FuncId} (E : Entr Tryz.prog fid) (cp : List Value) (p : Int → Bool) (a : Option Addr) (cap : Nat) (l : List Int) (h hh : Heap) (hs : SlT encI 1 a l h) (hsub : ∀ x, x ∈ h → x ∈ hh) (hl : l.length ≤ 1000000) (hc : ∀ x, x ∈ l → ∀ w, Holds hh w → Calls Tryz.prog fid ⟨.int .i64 x :: cp⟩ w fun e w' => e = .returned (.bool (p x)) ∧ Below w.heap.size w w') (w : World) (hw : Holds hh w) :
    Calls Tryz.prog 62 #[.slice a l.length cap, .func (.func fid) ⟨[]⟩ ⟨cp⟩] w fun e w' => e = .returned (.bool (l.any p)) ∧ Below w.heap.size w w' := by
  have hn := idxB_nn p l 0 (by omega)
  refine calls_of_JC (R := hh) Tryz.func62 Tryz.ntmps62 rfl rfl (hw) ?_
  repeat' first
    | (refine J.isJ ?_; first | (first | (refine J.o 0 ?_; refine J.ev' hΓ ?_) | refine J.nil ?_ | (refine J.o 3 ?_; first | refine J.ev' hΓ ?_) | (refine J.o 10 ?_; refine J.ev' hΓ ?_) | (refine J.o 11 ?_; refine J.ev' hΓ ?_)) | ((refine J.fc 97 ?_; refine J.call0 eIdxF rfl rfl (fun w hw => idxG_any E cp p a cap l h hh hs hsub hl hc w (hw.rdH (RdH.old fun _ hh => hh))) ?_)))
    | (first | refine JC.seq ?_ | refine JC.region ?_ | refine JC.ret ?_ | refine thenK.nn ?_)
    | fail
  all_goals first | (exfalso; omega) | exact ret1f rfl rfl rfl (fun w1 hw => ⟨retB hn, hw.below⟩)
theorem rdc {R : Heap} {L : List Heap} {n1 : Nat} {o : Obj} {g : Heap} (r1 : Rd R L n1 o) (rg : RdH R L g) : RdH R L ((n1, o) :: g) := fun x hx => by
  rcases List.mem_cons.1 hx with rfl | hx
  · exact r1
  · exact rg x hx
def badI (bf i : Int) : Bool := decide (i < 0) || decide (bf ≤ i)
def intO (i : Int) : Obj := .cells ⟨[.int .i64 i]⟩ 3 (0, 0)
theorem eInputs : Entr Tryz.prog 127 := Entr.of Tryz.func127 rfl rfl
theorem eGood1 : Entr Tryz.prog 128 := Entr.of Tryz.func128 rfl rfl
theorem eGoodC : Entr Tryz.prog 99 := Entr.of Tryz.func99 rfl rfl
theorem eSizeC : Entr Tryz.prog 98 := Entr.of Tryz.func98 rfl rfl
theorem eCheckC : Entr Tryz.prog 65 := Entr.of Tryz.func65 rfl rfl
theorem eHoldsL : Entr Tryz.prog 61 := Entr.of Tryz.func61 rfl rfl
theorem eValueC : Entr Tryz.prog 67 := Entr.of Tryz.func67 rfl rfl
theorem eEvalC : Entr Tryz.prog 24 := Entr.of Tryz.func24 rfl rfl
theorem inputs_ok (k : Int) (m : Nat) (h : (k = 0 ∨ k = 1 ∨ k = 2) ∧ m = 0 ∨ k = 8 ∧ m = 3 ∨ k = 4 ∧ m = 1) (w : World) :
    Calls Tryz.prog 127 #[.int .i64 k, .int .i64 (m : Int)] w fun e w' => e = .returned (.bool true) ∧ Below w.heap.size w w' := by
  rcases h with ⟨rfl | rfl | rfl, rfl⟩ | ⟨rfl, rfl⟩ | ⟨rfl, rfl⟩
  all_goals
    refine calls_of_JC (R := []) Tryz.func127 Tryz.ntmps127 rfl rfl (Holds.nil _) ?_
    repeat' first
      | (refine J.isJ ?_; (first | (first | (refine J.o 0 ?_; refine J.ev' hΓ ?_) | refine J.nil ?_ | refine J.kd ?_ | (refine J.o 3 ?_; first | refine J.ev' hΓ ?_) | (refine J.o 10 ?_; refine J.ev' hΓ ?_) | (refine J.o 11 ?_; refine J.ev' hΓ ?_))))
      | (first | refine JC.seq ?_ | refine JC.region ?_ | refine JC.block ?_ | refine JC.ret ?_ | refine JC.skip ?_ | refine thenK.nn ?_ | refine thenK.r ?_ | refine blockK.nn ?_ | refine blockK.r ?_ | refine JC.condT rfl ?_ | refine JC.condF rfl ?_)
      | fail
    all_goals first | (exfalso; omega) | exact ret1f rfl rfl rfl (fun w1 hw => ⟨rfl, hw.below⟩)
theorem good1_any (bf i : Int) (b : Nat) (w : World) (hw : Holds [(b, intO bf)] w) :
    Calls Tryz.prog 128 #[.int .i64 i, .pointer (some ⟨b, 0, none⟩)] w fun e w' => e = .returned (.bool (badI bf i)) ∧ Below w.heap.size w w' := by
  have rb : ∀ L, Rd [(b, intO bf)] L b (intO bf) := fun L => Rd.old List.mem_cons_self
  unfold intO at rb
  refine calls_of_JC (R := [(b, intO bf)]) Tryz.func128 Tryz.ntmps128 rfl rfl (hw) ?_
  repeat' first
    | (refine J.isJ ?_; first | (first | (refine J.o 4 ?_; refine J.lR hΓ ?_ (hr := rb _))) | (first | (refine J.o 0 ?_; refine J.ev' hΓ ?_) | refine J.nil ?_ | refine J.kd ?_ | (refine J.o 4 ?_; first | refine J.lR hΓ ?_) | (refine J.o 3 ?_; first | refine J.ev' hΓ ?_) | (refine J.o 10 ?_; refine J.ev' hΓ ?_) | (refine J.o 11 ?_; refine J.ev' hΓ ?_)) | ((fail_if_success refine J.wt ?_); refine J.gc rfl rfl (fun hc => ?_) (fun hc => ?_) <;> ((try simp only [tcS] at hc) <;> first | (first | (exact absurd rfl hc) | (exfalso; omega) | (exact (tF hc (by assumption)).elim) | (exact (fT hc (by assumption)).elim)) | skip)))
    | (first | refine JC.seq ?_ | refine JC.region ?_ | refine JC.ret ?_ | refine thenK.nn ?_)
    | (fail)
    | fail
  all_goals first | (exfalso; omega) | skip
  all_goals (refine ret1f rfl rfl rfl (fun w1 hw => ⟨retB ?_, hw.below⟩))
  all_goals (clear hw; unfold badI; grind)
theorem good_ok {n : Int} {a : Option Addr} {gs : List Gt} {h : Heap} (c : Cir n a gs h) (cap : Nat) (k : Nat) (hk : k < gs.length) (w : World) (hw : Holds h w) :
    Calls Tryz.prog 99 #[cv n a gs.length cap, .int .i64 (k : Int)] w fun e w' => e = .returned (.bool true) ∧ Below w.heap.size w w' := by
  have hs := c.sl
  have h1 := c.len1
  have n0 := c.n0
  have n1 := c.n1
  have hok := c.ok k hk
  have hin := c.ins k hk
  have hsm := c.small k hk
  obtain ⟨hal, hlit, hins⟩ := hok
  have q0 : ∀ L, RdH h L h := fun L => RdH.old fun _ hh => hh
  have cI := fun w => inputs_ok (gs.getD k default).kind (gs.getD k default).ins.length hal w
  have cV := fun w => valid_any (gs.getD k default).lit n ⟨n0, n1⟩ w
  have hb : (gs.getD k default).ins.any (badI k) = false := by
    rw [List.any_eq_false]
    intro x hx
    obtain ⟨j, hj, rfl⟩ := List.mem_iff_getElem.1 hx
    have := hins j hj
    rw [List.getD_eq_getElem?_getD, List.getElem?_eq_getElem hj, Option.getD_some] at this
    generalize (gs.getD k default).ins[j] = y at *
    unfold badI
    rw [decide_eq_false (by omega), decide_eq_false (by omega)]
    decide
  have hvv : (gs.getD k default).kind = 2 → validB (gs.getD k default).lit n = true := fun h2 => by unfold validB; exact decide_eq_true ⟨by omega, by omega, by omega⟩
  refine calls_of_JC (R := h) Tryz.func99 Tryz.ntmps99 rfl rfl (hw) ?_
  repeat' first
    | (refine J.isJ ?_; first | (first | (refine J.o 14 ?_; refine J.mf hΓ ?_) | (refine J.fc 127 ?_; refine J.call0 eInputs rfl rfl (fun w hw => cI w) ?_) | (refine J.fc 62 ?_; refine J.call0 eConF rfl rfl (fun w hw => conG_any eGood1 _ (badI k) (gs.getD k default).a (gs.getD k default).cap (gs.getD k default).ins h ((_, intO k) :: h) hin (fun x hx => List.mem_cons_of_mem _ hx) (by omega) (fun x hx w hw => good1_any k x _ w (fun y hy => hw y (by rw [List.mem_singleton.1 hy]; exact List.mem_cons_self))) w (fun x hx => hw.rd (rdc (by first | exact Rd.hd | exact Rd.hd.tl | exact Rd.hd.tl.tl) (RdH.old fun _ hh => hh) x hx))) ?_) | (refine J.fc 118 ?_; refine J.call0 eValid rfl rfl (fun w hw => cV w) ?_)) | (first | (refine J.o 0 ?_; refine J.ev' hΓ ?_) | refine J.nil ?_ | refine J.kd ?_ | (refine J.o 4 ?_; first | refine J.lT default hΓ ?_ | refine J.lR hΓ ?_) | (refine J.o 3 ?_; first | refine J.iJ hΓ ?_ | refine J.ev' hΓ ?_) | (refine J.o 5 ?_; first | refine J.t0 hΓ ?_) | (refine J.o 6 ?_; refine J.bx (fun _ => ?_)) | (refine J.o 7 ?_; refine J.al hΓ (fun _ => ?_)) | (refine J.o 10 ?_; refine J.ev' hΓ ?_) | (refine J.o 11 ?_; refine J.ev' hΓ ?_) | (refine J.o 14 ?_; refine J.mf hΓ ?_)) | ((fail_if_success refine J.wt ?_); refine J.gc rfl rfl (fun hc => ?_) (fun hc => ?_) <;> ((try simp only [tcS] at hc) <;> first | (first | (exact absurd rfl hc) | (exfalso; omega) | (exact (tF hc (by assumption)).elim) | (exact (fT hc (by assumption)).elim)) | skip)))
    | (first | refine JC.seq ?_ | refine JC.region ?_ | refine JC.ret ?_ | refine JC.skip ?_ | refine thenK.nn ?_ | refine thenK.r ?_ | refine JC.condT rfl ?_ | refine JC.condF rfl ?_ | (refine JC.cond rfl (fun hc => ?_) (fun hc => ?_) <;> ((try simp only [tcS] at hc) <;> first | (first | (exact absurd rfl hc) | (exfalso; omega) | (exact (tF hc (by assumption)).elim) | (exact (fT hc (by assumption)).elim)) | skip)))
    | (fail)
    | fail
  all_goals first | (exfalso; omega) | skip
  all_goals (refine ret1f rfl rfl rfl (fun w1 hw => ⟨retB ?_, hw.below⟩))
  all_goals (clear hw; grind)
theorem sizeC_any {n : Int} {a : Option Addr} {gs : List Gt} {h : Heap} (c : Cir n a gs h) (cap : Nat) (w : World) (hw : Holds h w) :
    Calls Tryz.prog 98 #[cv n a gs.length cap] w fun e w' => e = .returned (.int .i64 (sizeP gs : Int)) ∧ Below w.heap.size w w' := by
  have hs := c.sl
  have h1 := c.len1
  have hle := size_le gs c.small
  refine calls_of_JC (R := h) Tryz.func98 Tryz.ntmps98 rfl rfl (hw) ?_
  repeat' first
    | (refine J.isJ ?_; (first | (first | (refine J.o 0 ?_; refine J.ev' hΓ ?_) | refine J.nil ?_ | (refine J.o 4 ?_; first | refine J.lT default hΓ ?_ | refine J.lR hΓ ?_) | (refine J.o 3 ?_; first | refine J.iJ hΓ ?_ | refine J.ev' hΓ ?_) | (refine J.o 1 ?_; first | refine J.ad ?_) | (refine J.o 5 ?_; first | refine J.t0 hΓ ?_) | (refine J.o 6 ?_; refine J.bx (fun _ => ?_)) | (refine J.o 7 ?_; refine J.al hΓ (fun _ => ?_)) | (refine J.o 10 ?_; refine J.ev' hΓ ?_) | (refine J.o 11 ?_; refine J.ev' hΓ ?_))))
    | (first | refine JC.seq ?_ | refine JC.region ?_ | refine JC.block ?_ | refine JC.ret ?_ | refine JC.exit ?_ | refine JC.skip ?_ | refine thenK.nn ?_ | refine thenK.x ?_ | refine blockK.nn ?_ | refine blockK.hit rfl ?_ | (refine JC.cond rfl (fun hc => ?_) (fun hc => ?_) <;> ((try simp only [tcS] at hc) <;> first | (first | (exact absurd rfl hc) | (exfalso; omega) | (exact (tF hc (by assumption)).elim) | (exact (fT hc (by assumption)).elim)) | skip)) | refine loopK.x ?_)
    | fail
  refine JC.loop (fun i => i == 3 || i == 5 || Nat.ble 9 i) (fun m g L' => ∃ (k : Nat), g 9 = .int .i64 (k : Int) ∧ g 3 = .int .i64 (sizeP (gs.take k) : Int) ∧ k + m = gs.length ∧ L' = _) gs.length ⟨0, rfl, rfl, by omega, rfl⟩ ?_
  rintro m g L' ⟨k, e4, e3, hkm, rfl⟩
  refine JC.pin 9 e4 (JC.pin 3 e3 ?_)
  clear e4 e3
  have hk3 := hle k (by omega)
  rcases Nat.lt_or_ge k gs.length with hk | hk
  case inr =>
    have : gs.take k = gs := List.take_of_length_le hk
    rw [this] at hk3 ⊢
    repeat' first
      | (refine J.isJ ?_; (first | (first | (refine J.o 0 ?_; refine J.ev' hΓ ?_) | refine J.nil ?_ | (refine J.o 4 ?_; first | refine J.lT default hΓ ?_ | refine J.lR hΓ ?_) | (refine J.o 3 ?_; first | refine J.iJ hΓ ?_ | refine J.ev' hΓ ?_) | (refine J.o 1 ?_; first | refine J.ad ?_) | (refine J.o 5 ?_; first | refine J.t0 hΓ ?_) | (refine J.o 6 ?_; refine J.bx (fun _ => ?_)) | (refine J.o 7 ?_; refine J.al hΓ (fun _ => ?_)) | (refine J.o 10 ?_; refine J.ev' hΓ ?_) | (refine J.o 11 ?_; refine J.ev' hΓ ?_))))
      | (first | refine JC.seq ?_ | refine JC.region ?_ | refine JC.block ?_ | refine JC.ret ?_ | refine JC.exit ?_ | refine JC.skip ?_ | refine thenK.nn ?_ | refine thenK.x ?_ | refine blockK.nn ?_ | refine blockK.hit rfl ?_ | (refine JC.cond rfl (fun hc => ?_) (fun hc => ?_) <;> ((try simp only [tcS] at hc) <;> first | (first | (exact absurd rfl hc) | (exfalso; omega) | (exact (tF hc (by assumption)).elim) | (exact (fT hc (by assumption)).elim)) | skip)) | refine loopK.x ?_)
      | fail
    all_goals first | (exfalso; omega) | exact ret1f rfl rfl rfl (fun w1 hw => ⟨rfl, hw.below⟩)
  have hst := size_take gs k hk
  have hsm := c.small k hk
  repeat' first
    | (refine J.isJ ?_; (first | (first | (refine J.o 0 ?_; refine J.ev' hΓ ?_) | refine J.nil ?_ | (refine J.o 4 ?_; first | refine J.lT default hΓ ?_ | refine J.lR hΓ ?_) | (refine J.o 3 ?_; first | refine J.iJ hΓ ?_ | refine J.ev' hΓ ?_) | (refine J.o 1 ?_; first | refine J.ad ?_) | (refine J.o 5 ?_; first | refine J.t0 hΓ ?_) | (refine J.o 6 ?_; refine J.bx (fun _ => ?_)) | (refine J.o 7 ?_; refine J.al hΓ (fun _ => ?_)) | (refine J.o 10 ?_; refine J.ev' hΓ ?_) | (refine J.o 11 ?_; refine J.ev' hΓ ?_))))
    | (first | refine JC.seq ?_ | refine JC.region ?_ | refine JC.block ?_ | refine JC.ret ?_ | refine JC.exit ?_ | refine JC.skip ?_ | refine thenK.nn ?_ | refine thenK.x ?_ | refine blockK.nn ?_ | refine blockK.hit rfl ?_ | (refine JC.cond rfl (fun hc => ?_) (fun hc => ?_) <;> ((try simp only [tcS] at hc) <;> first | (first | (exact absurd rfl hc) | (exfalso; omega) | (exact (tF hc (by assumption)).elim) | (exact (fT hc (by assumption)).elim)) | skip)) | refine loopK.x ?_)
    | fail
  all_goals first | (exfalso; omega) | skip
  all_goals refine loopK.np (m - 1) [_] _ (by omega) (by repeat (first | refine Ag.upd rfl ?_ | exact Ag.hv)) (List.Perm.refl _) ⟨k + 1, ?_, ?_, by omega, rfl⟩
  · show Value.int .i64 _ = _; congr 1
  · show Value.int .i64 _ = _; congr 1; omega
theorem checkC_ok {n : Int} {a : Option Addr} {gs : List Gt} {h : Heap} (c : Cir n a gs h) (cap : Nat) (w : World) (hw : Holds h w) :
    Calls Tryz.prog 65 #[cv n a gs.length cap] w fun e w' => e = .returned (.int .i64 0) ∧ Below w.heap.size w w' := by
  have hl0 := c.len0
  have h1 := c.len1
  have n0 := c.n0
  have n1 := c.n1
  have hle := size_le gs c.small gs.length (Nat.le_refl _)
  rw [List.take_length] at hle
  have cS := fun w hw => sizeC_any c cap w hw
  refine calls_of_JC (R := h) Tryz.func65 Tryz.ntmps65 rfl rfl (hw) ?_
  repeat' first
    | (refine J.isJ ?_; first | (first | (refine J.o 0 ?_; refine J.ev' hΓ ?_) | refine J.nil ?_ | (refine J.o 4 ?_; first | refine J.lR hΓ ?_) | (refine J.o 3 ?_; first | refine J.ev' hΓ ?_) | (refine J.o 1 ?_; first | refine J.ad ?_) | (refine J.o 6 ?_; refine J.bx (fun _ => ?_)) | (refine J.o 10 ?_; refine J.ev' hΓ ?_) | (refine J.o 11 ?_; refine J.ev' hΓ ?_)) | ((refine J.fc 98 ?_; refine J.call0 eSizeC rfl rfl (fun w hw => cS w (hw.rdH (by first | exact RdH.hd | exact RdH.hd.tl | exact RdH.hd.tl.tl | exact RdH.hd.tl.tl.tl | exact RdH.hd.tl.tl.tl.tl | exact RdH.hd.tl.tl.tl.tl.tl | exact RdH.hd.tl.tl.tl.tl.tl.tl | exact RdH.hd.tl.tl.tl.tl.tl.tl.tl | exact RdH.old (fun _ hh => hh) | assumption))) ?_)) | ((fail_if_success refine J.wt ?_); refine J.gc rfl rfl (fun hc => ?_) (fun hc => ?_) <;> ((try simp only [tcS] at hc) <;> first | (first | (exact absurd rfl hc) | (exfalso; omega) | (exact (tF hc (by assumption)).elim) | (exact (fT hc (by assumption)).elim)) | skip)))
    | (first | refine JC.seq ?_ | refine JC.region ?_ | refine JC.block ?_ | refine JC.ret ?_ | refine JC.exit ?_ | refine JC.skip ?_ | refine thenK.nn ?_ | refine thenK.x ?_ | refine blockK.nn ?_ | refine blockK.hit rfl ?_ | refine JC.condF rfl ?_ | (refine JC.cond rfl (fun hc => ?_) (fun hc => ?_) <;> ((try simp only [tcS] at hc) <;> first | (first | (exact absurd rfl hc) | (exfalso; omega) | (exact (tF hc (by assumption)).elim) | (exact (fT hc (by assumption)).elim)) | skip)) | refine loopK.x ?_)
    | fail
  all_goals first | (exfalso; omega) | skip
  refine JC.loop (fun i => i == 3 || Nat.ble 31 i) (fun m g L' => ∃ (k : Nat), g 31 = .int .i64 (k : Int) ∧ k + m = gs.length ∧ L' = _) gs.length ⟨0, rfl, by omega, rfl⟩ ?_
  rintro m g L' ⟨k, e3, hkm, rfl⟩
  refine JC.pin 31 e3 ?_
  clear e3
  rcases Nat.lt_or_ge k gs.length with hk | hk
  case inr =>
    repeat' first
      | (refine J.isJ ?_; (first | (first | (refine J.o 0 ?_; refine J.ev' hΓ ?_) | refine J.nil ?_ | (refine J.o 4 ?_; first | refine J.lR hΓ ?_) | (refine J.o 3 ?_; first | refine J.ev' hΓ ?_) | (refine J.o 1 ?_; first | refine J.ad ?_) | (refine J.o 6 ?_; refine J.bx (fun _ => ?_)) | (refine J.o 10 ?_; refine J.ev' hΓ ?_) | (refine J.o 11 ?_; refine J.ev' hΓ ?_)) | ((fail_if_success refine J.wt ?_); refine J.gc rfl rfl (fun hc => ?_) (fun hc => ?_) <;> ((try simp only [tcS] at hc) <;> first | (first | (exact absurd rfl hc) | (exfalso; omega) | (exact (tF hc (by assumption)).elim) | (exact (fT hc (by assumption)).elim)) | skip))))
      | (first | refine JC.seq ?_ | refine JC.region ?_ | refine JC.block ?_ | refine JC.ret ?_ | refine JC.exit ?_ | refine JC.skip ?_ | refine thenK.nn ?_ | refine thenK.x ?_ | refine blockK.nn ?_ | refine blockK.hit rfl ?_ | refine JC.condF rfl ?_ | (refine JC.cond rfl (fun hc => ?_) (fun hc => ?_) <;> ((try simp only [tcS] at hc) <;> first | (first | (exact absurd rfl hc) | (exfalso; omega) | (exact (tF hc (by assumption)).elim) | (exact (fT hc (by assumption)).elim)) | skip)) | refine loopK.x ?_)
      | fail
    all_goals first | (exfalso; omega) | exact ret1f rfl rfl rfl (fun w1 hw => ⟨rfl, hw.below⟩)
  have cG := fun w hw => good_ok c cap k hk w hw
  repeat' first
    | (refine J.isJ ?_; first | (first | (refine J.o 0 ?_; refine J.ev' hΓ ?_) | refine J.nil ?_ | (refine J.o 4 ?_; first | refine J.lR hΓ ?_) | (refine J.o 3 ?_; first | refine J.ev' hΓ ?_) | (refine J.o 1 ?_; first | refine J.ad ?_) | (refine J.o 6 ?_; refine J.bx (fun _ => ?_)) | (refine J.o 10 ?_; refine J.ev' hΓ ?_) | (refine J.o 11 ?_; refine J.ev' hΓ ?_)) | (first | (refine J.fc 99 ?_; refine J.call0 eGoodC rfl rfl (fun w hw => cG w (hw.rdH (by first | exact RdH.hd | exact RdH.hd.tl | exact RdH.hd.tl.tl | exact RdH.hd.tl.tl.tl | exact RdH.hd.tl.tl.tl.tl | exact RdH.hd.tl.tl.tl.tl.tl | exact RdH.hd.tl.tl.tl.tl.tl.tl | exact RdH.hd.tl.tl.tl.tl.tl.tl.tl | exact RdH.old (fun _ hh => hh) | assumption))) ?_)) | ((fail_if_success refine J.wt ?_); refine J.gc rfl rfl (fun hc => ?_) (fun hc => ?_) <;> ((try simp only [tcS] at hc) <;> first | (first | (exact absurd rfl hc) | (exfalso; omega) | (exact (tF hc (by assumption)).elim) | (exact (fT hc (by assumption)).elim)) | skip)))
    | (first | refine JC.seq ?_ | refine JC.region ?_ | refine JC.block ?_ | refine JC.ret ?_ | refine JC.exit ?_ | refine JC.skip ?_ | refine thenK.nn ?_ | refine thenK.x ?_ | refine blockK.nn ?_ | refine blockK.hit rfl ?_ | refine JC.condF rfl ?_ | (refine JC.cond rfl (fun hc => ?_) (fun hc => ?_) <;> ((try simp only [tcS] at hc) <;> first | (first | (exact absurd rfl hc) | (exfalso; omega) | (exact (tF hc (by assumption)).elim) | (exact (fT hc (by assumption)).elim)) | skip)) | refine loopK.x ?_)
    | fail
  all_goals first | (exfalso; omega) | skip
  all_goals refine loopK.nn (m - 1) (by omega) (by repeat (first | refine Ag.upd rfl ?_ | exact Ag.hv)) ⟨k + 1, ?_, by omega, rfl⟩
  all_goals (show Value.int .i64 _ = _; congr 1)
theorem holdsL_any (s : Nat × Nat) (hs : okS s) (l : Int) (h1 : 1 ≤ l) (h2 : l ≤ 128) (w : World) : Calls Tryz.prog 61 #[sv s, .int .i64 l] w fun e w' => e = .returned (.bool (hasB s l)) ∧ Below w.heap.size w w' := by
  have hv : varI l = l := by unfold varI; omega
  have cV := fun w => var_any l w
  rw [hv] at cV
  refine calls_of_JC (R := []) Tryz.func61 Tryz.ntmps61 rfl rfl (Holds.nil _) ?_
  repeat' first
    | (refine J.isJ ?_; first | (first | (refine J.o 0 ?_; refine J.ev' hΓ ?_) | refine J.nil ?_ | (refine J.o 4 ?_; first | refine J.lR hΓ ?_) | (refine J.o 3 ?_; first | refine J.ev' hΓ ?_) | (refine J.o 6 ?_; refine J.bx (fun _ => ?_)) | (refine J.o 10 ?_; refine J.ev' hΓ ?_) | (refine J.o 11 ?_; refine J.ev' hΓ ?_)) | (first | (refine J.fc 96 ?_; refine J.call0 eVar rfl rfl (fun w hw => cV w) ?_) | (refine J.fc 59 ?_; refine J.call0 eHas rfl rfl (fun w hw => has_any s hs l w) ?_)) | ((fail_if_success refine J.wt ?_); refine J.gc rfl rfl (fun hc => ?_) (fun hc => ?_) <;> ((try simp only [tcS] at hc) <;> first | (first | (exact absurd rfl hc) | (exfalso; omega) | (exact (tF hc (by assumption)).elim) | (exact (fT hc (by assumption)).elim)) | skip)))
    | (first | refine JC.seq ?_ | refine JC.region ?_ | refine JC.ret ?_ | refine thenK.nn ?_ | (refine JC.drawA [] (by kernel_rfl) (by kernel_rfl) ?_) | refine drawK.nn ?_)
    | fail
  all_goals first | (exfalso; omega) | skip
  all_goals (refine ret1f rfl rfl rfl (fun w1 hw => ⟨retB ?_, hw.below⟩))
  all_goals (clear hw; have hp : (0 : Int) < l := by omega)
  all_goals (cases hasB s l <;> simp [hp])
theorem cnt_take (p : Int → Bool) (l : List Int) (k : Nat) (hk : k < l.length) : (l.take (k + 1)).countP p = (l.take k).countP p + (if p (l.getD k default) = true then 1 else 0) := by
  rw [← take_one l k hk, List.countP_append, List.countP_singleton]
theorem cnt_all (p : Int → Bool) (l : List Int) : decide ((l.countP p : Int) = (l.length : Int)) = l.all p := by
  rw [Bool.eq_iff_iff, decide_eq_true_iff, List.all_eq_true, ← List.countP_eq_length]
  omega
theorem valueC_any {n : Int} {i : Nat} {x : Gt} (hok : OkG n i x) (n1 : n ≤ 128) (s : Nat × Nat) (hs : okS s) (v : List Bool) (hv : i ≤ v.length) (hi : v.length ≤ 4096) (av : Option Addr) (cap : Nat) (h : Heap) (hin : SlT encI 1 x.a x.ins h) (hsv : SlT encBo 1 av v h) (w : World) (hw : Holds h w) :
    Calls Tryz.prog 67 #[.agg ⟨encG x⟩, sv s, .slice av v.length cap] w fun e w' => e = .returned (.bool (valueP s v x)) ∧ Below w.heap.size w w' := by
  obtain ⟨hal, hlit, hins⟩ := hok
  have hl3 : x.ins.length ≤ 3 := by omega
  have q0 : ∀ L, RdH h L h := fun L => RdH.old fun _ hh => hh
  have cH := fun (hk2 : x.kind = 2) w => holdsL_any s hs x.lit (by omega) (by omega) w
  refine calls_of_JC (R := h) Tryz.func67 Tryz.ntmps67 rfl rfl (hw) ?_
  repeat' first
    | (refine J.isJ ?_; (first | (first | (refine J.o 0 ?_; refine J.ev' hΓ ?_) | refine J.nil ?_ | (refine J.o 4 ?_; first | refine J.lT default hΓ ?_ | refine J.lR hΓ ?_) | (refine J.o 3 ?_; first | refine J.iJ hΓ ?_ | refine J.ev' hΓ ?_) | (refine J.o 1 ?_; first | refine J.ad ?_) | (refine J.o 6 ?_; refine J.bx (fun _ => ?_)) | (refine J.o 10 ?_; refine J.ev' hΓ ?_) | (refine J.o 11 ?_; refine J.ev' hΓ ?_))))
    | (first | refine JC.seq ?_ | refine JC.region ?_ | refine JC.block ?_ | refine JC.ret ?_ | refine JC.exit ?_ | refine JC.skip ?_ | refine thenK.nn ?_ | refine thenK.r ?_ | refine thenK.x ?_ | refine blockK.nn ?_ | refine blockK.r ?_ | refine blockK.hit rfl ?_ | (refine JC.cond rfl (fun hc => ?_) (fun hc => ?_) <;> ((try simp only [tcS] at hc) <;> first | (first | (exact absurd rfl hc) | (exfalso; omega) | (exact (tF hc (by assumption)).elim) | (exact (fT hc (by assumption)).elim)) | skip)) | refine loopK.x ?_)
    | fail
  refine JC.loop (fun i => i == 7 || i == 9 || Nat.ble 13 i) (fun m g L' => ∃ (k : Nat), g 13 = .int .i64 (k : Int) ∧ g 7 = .int .i64 ((x.ins.take k).countP (fun j => v.getD j.toNat default) : Int) ∧ k + m = x.ins.length ∧ L' = _) x.ins.length ⟨0, rfl, rfl, by omega, rfl⟩ ?_
  rintro m g L' ⟨k, e13, e7, hkm, rfl⟩
  refine JC.pin 13 e13 (JC.pin 7 e7 ?_)
  clear e13 e7
  have hcl := List.countP_le_length (p := fun j : Int => v.getD j.toNat default) (l := x.ins.take k)
  rw [List.length_take] at hcl
  rcases Nat.lt_or_ge k x.ins.length with hk | hk
  case inl =>
    obtain ⟨hi0, hi1⟩ := hins k hk
    have hct := cnt_take (fun j => v.getD j.toNat default) x.ins k hk
    repeat' first
      | (refine J.isJ ?_; first | (first | (refine J.o 4 ?_; first | refine J.lT default hΓ ?_ (hs := hin) (hr := q0 _) | refine J.lT default hΓ ?_ (hs := hsv) (hr := q0 _))) | (first | (refine J.o 0 ?_; refine J.ev' hΓ ?_) | refine J.nil ?_ | (refine J.o 4 ?_; first | refine J.lT default hΓ ?_ | refine J.lR hΓ ?_) | (refine J.o 3 ?_; first | refine J.iJ hΓ ?_ | refine J.ev' hΓ ?_) | (refine J.o 1 ?_; first | refine J.ad ?_) | (refine J.o 6 ?_; refine J.bx (fun _ => ?_)) | (refine J.o 10 ?_; refine J.ev' hΓ ?_) | (refine J.o 11 ?_; refine J.ev' hΓ ?_)))
      | (first | refine JC.seq ?_ | refine JC.region ?_ | refine JC.block ?_ | refine JC.ret ?_ | refine JC.exit ?_ | refine JC.skip ?_ | refine thenK.nn ?_ | refine thenK.r ?_ | refine thenK.x ?_ | refine blockK.nn ?_ | refine blockK.r ?_ | refine blockK.hit rfl ?_ | (refine JC.cond rfl (fun hc => ?_) (fun hc => ?_) <;> ((try simp only [tcS] at hc) <;> first | (first | (exact absurd rfl hc) | (exfalso; omega) | (exact (tF hc (by assumption)).elim) | (exact (fT hc (by assumption)).elim)) | skip)) | refine loopK.x ?_)
      | (fail)
      | fail
    all_goals first | (exfalso; omega) | skip
    all_goals refine loopK.nn (m - 1) (by omega) (by repeat (first | refine Ag.upd rfl ?_ | exact Ag.hv)) ⟨k + 1, ?_, ?_, by omega, rfl⟩
    all_goals first | (show Value.int .i64 _ = Value.int .i64 ((k + 1 : Nat) : Int); congr 1; done) | skip
    all_goals (show Value.int .i64 _ = Value.int .i64 _; congr 1; rw [hct]; simp only [*, if_true, Bool.false_eq_true, if_false]; omega)
  case inr =>
    have : x.ins.take k = x.ins := List.take_of_length_le hk
    rw [this] at hcl ⊢
    have hall := cnt_all (fun j => v.getD j.toNat default) x.ins
    have hV : ∀ (kd : Int), x.kind = kd → valueP s v x = if kd = 1 then true else if kd = 2 then hasB s x.lit else if kd = 4 then x.ins.all (fun j => v.getD j.toNat default)
      else if kd = 8 then (if v.getD (x.ins.getD 0 default).toNat default then v.getD (x.ins.getD 1 default).toNat default else v.getD (x.ins.getD 2 default).toNat default) else false := fun kd h => by rw [← h]; rfl
    rcases hal with ⟨hkd | hkd | hkd, h0⟩ | ⟨h8, h3⟩ | ⟨h4, h1⟩
    · rw [hV _ hkd]
      repeat' first
        | (refine J.isJ ?_; (first | (first | (refine J.o 0 ?_; refine J.ev' hΓ ?_) | refine J.nil ?_ | (refine J.o 4 ?_; first | refine J.lT default hΓ ?_ | refine J.lR hΓ ?_) | (refine J.o 3 ?_; first | refine J.iJ hΓ ?_ | refine J.ev' hΓ ?_) | (refine J.o 1 ?_; first | refine J.ad ?_) | (refine J.o 6 ?_; refine J.bx (fun _ => ?_)) | (refine J.o 10 ?_; refine J.ev' hΓ ?_) | (refine J.o 11 ?_; refine J.ev' hΓ ?_))))
        | (first | refine JC.seq ?_ | refine JC.region ?_ | refine JC.block ?_ | refine JC.ret ?_ | refine JC.exit ?_ | refine JC.skip ?_ | refine thenK.nn ?_ | refine thenK.r ?_ | refine thenK.x ?_ | refine blockK.nn ?_ | refine blockK.r ?_ | refine blockK.hit rfl ?_ | (refine JC.cond rfl (fun hc => ?_) (fun hc => ?_) <;> ((try simp only [tcS] at hc) <;> first | (first | (exact absurd rfl hc) | (exfalso; omega) | (exact (tF hc (by assumption)).elim) | (exact (fT hc (by assumption)).elim)) | skip)) | refine loopK.x ?_)
        | fail
      all_goals first | (exfalso; omega) | exact ret1f rfl rfl rfl (fun w1 hw => ⟨rfl, hw.below⟩)
    · rw [hV _ hkd]
      repeat' first
        | (refine J.isJ ?_; (first | (first | (refine J.o 0 ?_; refine J.ev' hΓ ?_) | refine J.nil ?_ | (refine J.o 4 ?_; first | refine J.lT default hΓ ?_ | refine J.lR hΓ ?_) | (refine J.o 3 ?_; first | refine J.iJ hΓ ?_ | refine J.ev' hΓ ?_) | (refine J.o 1 ?_; first | refine J.ad ?_) | (refine J.o 6 ?_; refine J.bx (fun _ => ?_)) | (refine J.o 10 ?_; refine J.ev' hΓ ?_) | (refine J.o 11 ?_; refine J.ev' hΓ ?_))))
        | (first | refine JC.seq ?_ | refine JC.region ?_ | refine JC.block ?_ | refine JC.ret ?_ | refine JC.exit ?_ | refine JC.skip ?_ | refine thenK.nn ?_ | refine thenK.r ?_ | refine thenK.x ?_ | refine blockK.nn ?_ | refine blockK.r ?_ | refine blockK.hit rfl ?_ | (refine JC.cond rfl (fun hc => ?_) (fun hc => ?_) <;> ((try simp only [tcS] at hc) <;> first | (first | (exact absurd rfl hc) | (exfalso; omega) | (exact (tF hc (by assumption)).elim) | (exact (fT hc (by assumption)).elim)) | skip)) | refine loopK.x ?_)
        | fail
      all_goals first | (exfalso; omega) | exact ret1f rfl rfl rfl (fun w1 hw => ⟨rfl, hw.below⟩)
    · rw [hV _ hkd]
      repeat' first
        | (refine J.isJ ?_; first | (first | (refine J.o 0 ?_; refine J.ev' hΓ ?_) | refine J.nil ?_ | (refine J.o 4 ?_; first | refine J.lT default hΓ ?_ | refine J.lR hΓ ?_) | (refine J.o 3 ?_; first | refine J.iJ hΓ ?_ | refine J.ev' hΓ ?_) | (refine J.o 1 ?_; first | refine J.ad ?_) | (refine J.o 6 ?_; refine J.bx (fun _ => ?_)) | (refine J.o 10 ?_; refine J.ev' hΓ ?_) | (refine J.o 11 ?_; refine J.ev' hΓ ?_)) | ((refine J.fc 61 ?_; refine J.call0 eHoldsL rfl rfl (fun w hw => cH hkd w) ?_)))
        | (first | refine JC.seq ?_ | refine JC.region ?_ | refine JC.block ?_ | refine JC.ret ?_ | refine JC.exit ?_ | refine JC.skip ?_ | refine thenK.nn ?_ | refine thenK.r ?_ | refine thenK.x ?_ | refine blockK.nn ?_ | refine blockK.r ?_ | refine blockK.hit rfl ?_ | (refine JC.cond rfl (fun hc => ?_) (fun hc => ?_) <;> ((try simp only [tcS] at hc) <;> first | (first | (exact absurd rfl hc) | (exfalso; omega) | (exact (tF hc (by assumption)).elim) | (exact (fT hc (by assumption)).elim)) | skip)) | refine loopK.x ?_)
        | fail
      all_goals first | (exfalso; omega) | exact ret1f rfl rfl rfl (fun w1 hw => ⟨rfl, hw.below⟩)
    · rw [hV _ h8]
      have i0 := hins 0 (by omega)
      have i1 := hins 1 (by omega)
      have i2 : 0 ≤ x.ins.getD (Int.toNat 2) default ∧ x.ins.getD (Int.toNat 2) default < (i : Int) := hins 2 (by omega)
      repeat' first
        | (refine J.isJ ?_; first | (first | (refine J.o 4 ?_; first | refine J.lT default hΓ ?_ (hs := hin) (hr := q0 _) | refine J.lT default hΓ ?_ (hs := hsv) (hr := q0 _))) | (first | (refine J.o 0 ?_; refine J.ev' hΓ ?_) | refine J.nil ?_ | (refine J.o 4 ?_; first | refine J.lT default hΓ ?_ | refine J.lR hΓ ?_) | (refine J.o 3 ?_; first | refine J.iJ hΓ ?_ | refine J.ev' hΓ ?_) | (refine J.o 1 ?_; first | refine J.ad ?_) | (refine J.o 6 ?_; refine J.bx (fun _ => ?_)) | (refine J.o 10 ?_; refine J.ev' hΓ ?_) | (refine J.o 11 ?_; refine J.ev' hΓ ?_)))
        | (first | refine JC.seq ?_ | refine JC.region ?_ | refine JC.block ?_ | refine JC.ret ?_ | refine JC.exit ?_ | refine JC.skip ?_ | refine thenK.nn ?_ | refine thenK.r ?_ | refine thenK.x ?_ | refine blockK.nn ?_ | refine blockK.r ?_ | refine blockK.hit rfl ?_ | (refine JC.cond rfl (fun hc => ?_) (fun hc => ?_) <;> ((try simp only [tcS] at hc) <;> first | (first | (exact absurd rfl hc) | (exfalso; omega) | (exact (tF hc (by assumption)).elim) | (exact (fT hc (by assumption)).elim)) | skip)) | refine loopK.x ?_)
        | (fail)
        | fail
      all_goals first | (exfalso; omega) | skip
      all_goals (refine ret1f rfl rfl rfl (fun w1 hw => ⟨retB ?_, hw.below⟩))
      all_goals (rw [if_neg (by decide), if_neg (by decide), if_neg (by decide), if_pos rfl])
      all_goals first | (have hb : v.getD (x.ins.getD 0 default).toNat default = true := by assumption
                         rw [hb]; rfl) | (have hb : v.getD (x.ins.getD 0 default).toNat default = false := by first | assumption | exact Bool.eq_false_iff.2 (by assumption)
                                          rw [hb]; rfl)
    · rw [hV _ h4]
      repeat' first
        | (refine J.isJ ?_; (first | (first | (refine J.o 0 ?_; refine J.ev' hΓ ?_) | refine J.nil ?_ | (refine J.o 4 ?_; first | refine J.lT default hΓ ?_ | refine J.lR hΓ ?_) | (refine J.o 3 ?_; first | refine J.iJ hΓ ?_ | refine J.ev' hΓ ?_) | (refine J.o 1 ?_; first | refine J.ad ?_) | (refine J.o 6 ?_; refine J.bx (fun _ => ?_)) | (refine J.o 10 ?_; refine J.ev' hΓ ?_) | (refine J.o 11 ?_; refine J.ev' hΓ ?_))))
        | (first | refine JC.seq ?_ | refine JC.region ?_ | refine JC.block ?_ | refine JC.ret ?_ | refine JC.exit ?_ | refine JC.skip ?_ | refine thenK.nn ?_ | refine thenK.r ?_ | refine thenK.x ?_ | refine blockK.nn ?_ | refine blockK.r ?_ | refine blockK.hit rfl ?_ | (refine JC.cond rfl (fun hc => ?_) (fun hc => ?_) <;> ((try simp only [tcS] at hc) <;> first | (first | (exact absurd rfl hc) | (exfalso; omega) | (exact (tF hc (by assumption)).elim) | (exact (fT hc (by assumption)).elim)) | skip)) | refine loopK.x ?_)
        | fail
      all_goals first | (exfalso; omega) | exact ret1f rfl rfl rfl (fun w1 hw => ⟨retB hall, hw.below⟩)
end Go.Proofs.YtdiciemlbhkilaaGreatDoor
namespace Go.Proofs.YtdiciemlbhkilaaGreatDoor
open Go Go.Cx Go.RowKit
set_option linter.unusedVariables false
set_option linter.unusedSimpArgs false
set_option maxHeartbeats 4000000
attribute [local irreducible] J JC thenK blockK loopK roundK drawK retK QW Qt pel List.set Calls
attribute [local irreducible] JE Br eK0 eK3 brK vals
theorem app_repB (s : List Bool) (n j : Nat) (h : j < s.length) : (s ++ List.replicate n false).getD j default = s.getD j default := by
  rw [List.getD_eq_getElem?_getD, List.getElem?_append_left h, ← List.getD_eq_getElem?_getD]
theorem app_setB (s : List Bool) (n : Nat) (x : Bool) : (s ++ List.replicate (n + 1) false).set s.length x = (s ++ [x]) ++ List.replicate n false := by
  rw [List.set_append_right _ _ (Nat.le_refl _), Nat.sub_self, List.replicate_succ, List.set_cons_zero, List.append_assoc]; rfl
theorem all_congr {l : List Int} {p q : Int → Bool} (h : ∀ x, x ∈ l → p x = q x) : l.all p = l.all q := by
  induction l with
  | nil => rfl
  | cons x l ih => rw [List.all_cons, List.all_cons, h x List.mem_cons_self, ih fun y hy => h y (List.mem_cons_of_mem _ hy)]
theorem valueP_ext {n : Int} {i : Nat} {x : Gt} (hok : OkG n i x) (s : Nat × Nat) (v : List Bool) (hv : v.length = i) (m : Nat) : valueP s (v ++ List.replicate m false) x = valueP s v x := by
  obtain ⟨hal, hlit, hins⟩ := hok
  unfold valueP
  have h8 : ∀ j, j < x.ins.length → (v ++ List.replicate m false).getD (x.ins.getD j default).toNat default = v.getD (x.ins.getD j default).toNat default := fun j hj => app_repB _ _ _ (by have := hins j hj; omega)
  rw [all_congr (q := fun j => v.getD j.toNat default) fun y hy => by
    obtain ⟨j, hj, rfl⟩ := List.mem_iff_getElem.1 hy
    have := h8 j hj
    rwa [List.getD_eq_getElem?_getD (l := x.ins), List.getElem?_eq_getElem hj, Option.getD_some] at this]
  by_cases hk : x.kind = 8
  · rw [h8 0 (by omega), h8 1 (by omega), h8 2 (by omega)]
  · rw [if_neg hk, if_neg hk]
theorem evalC_any {n : Int} {a : Option Addr} {gs : List Gt} {h : Heap} (c : Cir n a gs h) (cap : Nat) (s : Nat × Nat) (hok : okS s) (hsub : ∀ u, hasB s u = true → hasB (allS n.toNat) u = true) (w : World) (hw : Holds h w) :
    Calls Tryz.prog 24 #[cv n a gs.length cap, sv s] w fun e w' => e = .returned (.bool ((vals s gs).getD (gs.length - 1) default)) ∧ Below w.heap.size w w' := by
  have hs := c.sl
  have hl0 := c.len0
  have hl1 := c.len1
  have n0 := c.n0
  have n1 := c.n1
  have q0 : ∀ L, RdH h L h := fun L => RdH.old fun _ hh => hh
  have cC := fun w hw => checkC_ok c cap w hw
  have cA := fun w => all_any n.toNat (by omega) w
  rw [show ((n.toNat : Nat) : Int) = n by omega] at cA
  have cS := fun w => sub_any s (allS n.toNat) hok (okS_all _) hsub w
  refine calls_of_JC (R := h) Tryz.func24 Tryz.ntmps24 rfl rfl (hw) ?_
  repeat' first
    | (refine J.isJ ?_; first | (first | (refine J.fc 65 ?_; refine J.call0 eCheckC rfl rfl (fun w hw => cC w (hw.rdH (q0 _))) ?_) | (refine J.fc 18 ?_; refine J.call0 eAll rfl rfl (fun w hw => cA w) ?_) | (refine J.fc 66 ?_; refine J.call0 eSub rfl rfl (fun w hw => cS w) ?_) | (refine J.o 9 ?_; refine J.make (enc := encBo) (m := gs.length) false hΓ rfl rfl rfl rfl rfl rfl (fun _ => rfl) (by omega) (by omega) (fun bA hA oA => ?_); generalize (some (⟨bA, 0, none⟩ : Addr)) = aA at oA ⊢)) | (first | (refine J.o 0 ?_; refine J.ev' hΓ ?_) | refine J.nil ?_ | (refine J.o 4 ?_; first | refine J.lT default hΓ ?_ | refine J.lR hΓ ?_) | (refine J.o 3 ?_; first | refine J.iJ hΓ ?_ | refine J.ev' hΓ ?_) | (refine J.o 1 ?_; first | refine J.ad ?_ | refine J.sb ?_) | (refine J.o 5 ?_; first | refine J.t0 hΓ ?_ | refine J.tT1 _ default hΓ (fun _ _ => ?_)) | (refine J.o 6 ?_; refine J.bx (fun _ => ?_)) | (refine J.o 7 ?_; refine J.al hΓ (fun _ => ?_)) | (refine J.o 10 ?_; refine J.ev' hΓ ?_) | (refine J.o 11 ?_; refine J.ev' hΓ ?_)))
    | (first | refine JC.seq ?_ | refine JC.region ?_ | refine JC.block ?_ | refine JC.ret ?_ | refine JC.exit ?_ | refine JC.skip ?_ | refine thenK.nn ?_ | refine thenK.x ?_ | refine blockK.nn ?_ | refine blockK.hit rfl ?_ | refine JC.condF rfl ?_ | (refine JC.cond rfl (fun hc => ?_) (fun hc => ?_) <;> ((try simp only [tcS] at hc) <;> first | (first | (exact absurd rfl hc) | (exfalso; omega) | (exact (tF hc (by assumption)).elim) | (exact (fT hc (by assumption)).elim)) | skip)) | (refine JC.drawA [] (by kernel_rfl) (by kernel_rfl) ?_) | refine drawK.nn ?_ | refine loopK.x ?_)
    | (fail)
    | fail
  all_goals first | (exfalso; omega) | skip
  rename_i n2 n3
  refine JC.loopG (fun i => i == 6 || i == 7 || Nat.ble 26 i) (fun m g L' => ∃ (k : Nat) (hA : Heap), g 26 = .int .i64 (k : Int) ∧ k + m = gs.length ∧ OwT encBo 1 4 aA gs.length (vals s (gs.take k) ++ List.replicate m false) hA ∧ L' = [hA, _, _]) gs.length ⟨0, hA, rfl, by omega, by rw [vals_nil]; exact oA, rfl⟩ ?_
  clear oA
  rintro m g L' ⟨k, hA, e26, hkm, oA, rfl⟩
  refine JC.pin 26 e26 ?_
  clear e26
  have hvl := vals_len s gs k (by omega)
  have hlT : (vals s (gs.take k) ++ List.replicate m false).length = gs.length := by rw [List.length_append, List.length_replicate]; omega
  rcases Nat.lt_or_ge k gs.length with hk | hk
  case inr =>
    obtain rfl : k = gs.length := by omega
    obtain rfl : m = 0 := by omega
    rw [List.replicate_zero, List.append_nil, List.take_length] at oA
    rw [List.take_length] at hvl
    have hx1 : ((gs.length : Int) - 1).toNat = gs.length - 1 := by omega
    repeat' first
      | (refine J.isJ ?_; first | ((refine J.o 4 ?_; refine J.lT default hΓ ?_ (hs := oA.sl) (hr := RdH.hd); rw [hx1])) | (first | (refine J.o 0 ?_; refine J.ev' hΓ ?_) | refine J.nil ?_ | (refine J.o 4 ?_; first | refine J.lT default hΓ ?_ | refine J.lR hΓ ?_) | (refine J.o 3 ?_; first | refine J.iJ hΓ ?_ | refine J.ev' hΓ ?_) | (refine J.o 1 ?_; first | refine J.ad ?_ | refine J.sb ?_) | (refine J.o 5 ?_; first | refine J.t0 hΓ ?_ | refine J.tT1 _ default hΓ (fun _ _ => ?_)) | (refine J.o 6 ?_; refine J.bx (fun _ => ?_)) | (refine J.o 7 ?_; refine J.al hΓ (fun _ => ?_)) | (refine J.o 10 ?_; refine J.ev' hΓ ?_) | (refine J.o 11 ?_; refine J.ev' hΓ ?_)))
      | (first | refine JC.seq ?_ | refine JC.region ?_ | refine JC.block ?_ | refine JC.ret ?_ | refine JC.exit ?_ | refine JC.skip ?_ | refine thenK.nn ?_ | refine thenK.x ?_ | refine blockK.nn ?_ | refine blockK.hit rfl ?_ | refine JC.condF rfl ?_ | (refine JC.cond rfl (fun hc => ?_) (fun hc => ?_) <;> ((try simp only [tcS] at hc) <;> first | (first | (exact absurd rfl hc) | (exfalso; omega) | (exact (tF hc (by assumption)).elim) | (exact (fT hc (by assumption)).elim)) | skip)) | refine drawK.nn ?_ | refine loopK.x ?_)
      | (fail)
      | fail
    all_goals first | (exfalso; omega) | exact ret1f rfl rfl rfl (fun w1 hw => ⟨rfl, hw.below⟩)
  obtain ⟨m', rfl⟩ : ∃ m', m = m' + 1 := ⟨m - 1, by omega⟩
  have hvt := vals_take s gs k hk
  have hgo := c.ok k hk
  have hgi := c.ins k hk
  have hset := app_setB (vals s (gs.take k)) m' (valueP s (vals s (gs.take k)) (gs.getD k default))
  rw [hvl, ← hvt] at hset
  have cV := fun w hw => valueC_any hgo n1 s hok (vals s (gs.take k) ++ List.replicate (m' + 1) false) (by omega) (by omega) aA gs.length (hA ++ h) (slm hgi fun x hx => List.mem_append_right _ hx) (slm oA.sl fun x hx => List.mem_append_left _ hx) w hw
  rw [valueP_ext hgo s _ hvl, hlT] at cV
  repeat' first
    | (refine J.isJ ?_; first | (first | (refine J.o 4 ?_; refine J.lT default hΓ ?_ (hs := hs) (hr := q0 _)) | (refine J.fc 67 ?_; refine J.call0 eValueC rfl rfl (fun w hw => cV w (hw.rdH (RdH.append RdH.hd.tl (q0 _)))) ?_)) | (first | (refine J.o 0 ?_; refine J.ev' hΓ ?_) | refine J.nil ?_ | (refine J.o 4 ?_; first | refine J.lT default hΓ ?_ | refine J.lR hΓ ?_) | (refine J.o 3 ?_; first | refine J.iJ hΓ ?_ | refine J.ev' hΓ ?_) | (refine J.o 1 ?_; first | refine J.ad ?_ | refine J.sb ?_) | (refine J.o 5 ?_; first | refine J.t0 hΓ ?_ | refine J.tT1 _ default hΓ (fun _ _ => ?_)) | (refine J.o 6 ?_; refine J.bx (fun _ => ?_)) | (refine J.o 7 ?_; refine J.al hΓ (fun _ => ?_)) | (refine J.o 10 ?_; refine J.ev' hΓ ?_) | (refine J.o 11 ?_; refine J.ev' hΓ ?_)))
    | (first | refine JC.seq ?_ | refine JC.region ?_ | refine JC.block ?_ | refine JC.ret ?_ | refine JC.exit ?_ | refine JC.skip ?_ | refine thenK.nn ?_ | refine thenK.x ?_ | refine blockK.nn ?_ | refine blockK.hit rfl ?_ | refine JC.condF rfl ?_ | (refine JC.cond rfl (fun hc => ?_) (fun hc => ?_) <;> ((try simp only [tcS] at hc) <;> first | (first | (exact absurd rfl hc) | (exfalso; omega) | (exact (tF hc (by assumption)).elim) | (exact (fT hc (by assumption)).elim)) | skip)) | refine drawK.nn ?_ | refine loopK.x ?_)
    | (fail)
    | fail
  all_goals first | (exfalso; omega) | skip
  rename_i oA2
  have oA3 : OwT encBo 1 4 aA gs.length (vals s (gs.take (k + 1)) ++ List.replicate m' false) _ := hset ▸ oA2
  refine loopK.nn m' (by omega) (by repeat (first | refine Ag.upd rfl ?_ | exact Ag.hv)) ⟨_, ⟨k + 1, _, ?_, by omega, oA3, rfl⟩, fun w hw => H.sel (l := [_, _, _, _]) (M := []) hw [1, 2, 3]⟩
  show Value.int .i64 _ = _; congr 1
end Go.Proofs.YtdiciemlbhkilaaGreatDoor
namespace Go.Proofs.YtdiciemlbhkilaaGreatDoor
open Go Go.Cx Go.RowKit
set_option linter.unusedVariables false
set_option linter.unusedSimpArgs false
set_option maxHeartbeats 4000000
attribute [local irreducible] J JC thenK blockK loopK roundK drawK retK QW Qt pel List.set Calls
theorem take_g {α : Type} [Inhabited α] (l : List α) (k : Nat) (hk : k < l.length) : l.take (k + 1) = l.take k ++ [l.getD k default] := by
  rw [List.take_add_one, List.getD_eq_getElem?_getD, List.getElem?_eq_getElem hk]; rfl
def absI (x : Int) : Int := max x (-x)
theorem absI_neg (x : Int) : absI (-x) = absI x := by unfold absI; omega
theorem absI_pos {x : Int} (h : 0 ≤ x) : absI x = x := by unfold absI; omega
attribute [local irreducible] JE Br eK0 eK3 brK
end Go.Proofs.YtdiciemlbhkilaaGreatDoor
namespace Go.Proofs.YtdiciemlbhkilaaGreatDoor
open Go Go.Cx Go.RowKit
set_option linter.unusedVariables false
set_option linter.unusedSimpArgs false
set_option maxHeartbeats 4000000
attribute [local irreducible] J JC thenK blockK loopK roundK drawK retK QW Qt pel List.set Calls
abbrev PN := Int × Int × List Int
def idxP : List PN → PN → Int → Int
  | [], _, _ => -1
  | y :: B, x, k => if y = x then k else idxP B x (k + 1)
theorem idxP_bd (x : PN) : ∀ (B : List PN) (k : Int), x ∈ B → k ≤ idxP B x k ∧ idxP B x k < k + B.length
  | [], k, h => by cases h
  | y :: B, k, h => by
    unfold idxP
    simp only [List.length_cons]
    by_cases e : y = x
    · rw [if_pos e]; omega
    · rw [if_neg e]
      have := idxP_bd x B (k + 1) (by rcases List.mem_cons.1 h with h | h; exact absurd h.symm e; exact h)
      omega
theorem idxP_at (x : PN) : ∀ (B : List PN) (k : Int), x ∈ B → B.getD (idxP B x k - k).toNat default = x
  | [], k, h => by cases h
  | y :: B, k, h => by
    unfold idxP
    by_cases e : y = x
    · rw [if_pos e, Int.sub_self]; exact e
    · rw [if_neg e]
      have hm : x ∈ B := by rcases List.mem_cons.1 h with h | h; exact absurd h.symm e; exact h
      have hb := idxP_bd x B (k + 1) hm
      have ih := idxP_at x B (k + 1) hm
      rw [show (idxP B x (k + 1) - k).toNat = (idxP B x (k + 1) - (k + 1)).toNat + 1 by omega]
      exact ih
def putP (B : List PN) (x : PN) : Int × List PN := if x ∈ B then (idxP B x 0, B) else ((B.length : Int), B ++ [x])
def kindP (B : List PN) (i : Int) : Int := (B.getD i.toNat default).1
def litP (B : List PN) (i : Int) : Int := (B.getD i.toNat default).2.1
def inP (B : List PN) (i : Int) : List Int := (B.getD i.toNat default).2.2
def flatP (B : List PN) (kind : Int) (l : List Int) : List Int := l.flatMap fun i => if kindP B i = kind then inP B i else [i]
structure StN where
  out : List Int
  lits : List Int
  open_ : Bool
def addS (B : List PN) (drop end_ : Int) (s : StN) (i : Int) : StN :=
  let bad := decide (kindP B i = end_) || (decide (kindP B i = 2) && s.lits.contains (-(litP B i)))
  ⟨if bad = false ∧ kindP B i ≠ drop ∧ i ∉ s.out then s.out ++ [i] else s.out, if kindP B i = 2 then litP B i :: s.lits else s.lits, s.open_ && !bad⟩
def dedS (B : List PN) (drop : Int) (out : List Int) (i : Int) : List Int := if kindP B i ≠ drop ∧ i ∉ out then out ++ [i] else out
def inputsR (B : List PN) (kind drop : Int) (l : List Int) : List Int := (flatP B kind l).foldl (dedS B drop) []
def decR (B : List PN) (l : List Int) (end_ : Int) : Bool := l.any fun i => decide (kindP B i = end_) || l.any fun k => decide (kindP B i = 2) && decide (kindP B k = 2) && decide (litP B i = -(litP B k))
theorem dec_iff (B : List PN) (l : List Int) (e : Int) : decR B l e = true ↔ ∃ i, i ∈ l ∧ (kindP B i = e ∨ ∃ k, k ∈ l ∧ kindP B i = 2 ∧ kindP B k = 2 ∧ litP B i = -(litP B k)) := by
  unfold decR
  simp only [List.any_eq_true, Bool.or_eq_true, Bool.and_eq_true, decide_eq_true_eq]
  constructor
  · rintro ⟨i, hi, h⟩
    refine ⟨i, hi, ?_⟩
    rcases h with h | ⟨k, hk, ⟨h1, h2⟩, h3⟩
    · exact .inl h
    · exact .inr ⟨k, hk, h1, h2, h3⟩
  · rintro ⟨i, hi, h⟩
    refine ⟨i, hi, ?_⟩
    rcases h with h | ⟨k, hk, h1, h2, h3⟩
    · exact .inl h
    · exact .inr ⟨k, hk, ⟨h1, h2⟩, h3⟩
theorem ded_mem {B : List PN} {drop : Int} {out : List Int} {i x : Int} : x ∈ dedS B drop out i ↔ x ∈ out ∨ (x = i ∧ kindP B i ≠ drop) := by
  unfold dedS
  by_cases h : kindP B i ≠ drop ∧ i ∉ out
  · rw [if_pos h, List.mem_append, List.mem_singleton]
    constructor
    · rintro (h1 | h1)
      · exact .inl h1
      · exact .inr ⟨h1, h.1⟩
    · rintro (h1 | h1)
      · exact .inl h1
      · exact .inr h1.1
  · rw [if_neg h]
    refine ⟨.inl, ?_⟩
    rintro (h1 | ⟨rfl, h2⟩)
    · exact h1
    · exact Decidable.byContradiction fun h3 => h ⟨h2, h3⟩
theorem ded_nodup {B : List PN} {drop : Int} {out : List Int} {i : Int} (h : out.Nodup) : (dedS B drop out i).Nodup := by
  unfold dedS
  split
  · rename_i hc
    rw [List.nodup_append]
    exact ⟨h, by simp, fun a ha b hb => by rw [List.mem_singleton.1 hb]; exact fun e => hc.2 (e ▸ ha)⟩
  · exact h
structure Agree (B : List PN) (drop end_ : Int) (fl : List Int) (s : StN) (out : List Int) : Prop where
  op : s.open_ = !decR B out end_
  eq : s.open_ = true → s.out = out
  lits : ∀ x, x ∈ s.lits ↔ ∃ i, i ∈ fl ∧ kindP B i = 2 ∧ litP B i = x
  mem : ∀ x, x ∈ out ↔ x ∈ fl ∧ kindP B x ≠ drop
  nd : out.Nodup
theorem Agree.nil (B : List PN) (drop end_ : Int) : Agree B drop end_ [] ⟨[], [], true⟩ [] := ⟨rfl, fun _ => rfl, by simp, by simp, List.nodup_nil⟩
theorem Agree.step {B : List PN} {drop end_ : Int} (hde : drop ≠ end_) (hd2 : drop ≠ 2) (hl : ∀ i, kindP B i = 2 → litP B i ≠ 0) {fl : List Int} {s : StN} {out : List Int} (h : Agree B drop end_ fl s out) (i : Int) : Agree B drop end_ (fl ++ [i]) (addS B drop end_ s i) (dedS B drop out i) := by
  obtain ⟨h1, h2, h3, h4, h5⟩ := h
  have hmem : ∀ x, x ∈ dedS B drop out i ↔ x ∈ fl ++ [i] ∧ kindP B x ≠ drop := fun x => by
    rw [ded_mem, h4, List.mem_append, List.mem_singleton]
    constructor
    · rintro (⟨a, b⟩ | ⟨rfl, b⟩)
      · exact ⟨.inl a, b⟩
      · exact ⟨.inr rfl, b⟩
    · rintro ⟨a | rfl, b⟩
      · exact .inl ⟨a, b⟩
      · exact .inr ⟨rfl, b⟩
  have hlits : ∀ x, x ∈ (addS B drop end_ s i).lits ↔ ∃ j, j ∈ fl ++ [i] ∧ kindP B j = 2 ∧ litP B j = x := fun x => by
    show x ∈ (if kindP B i = 2 then litP B i :: s.lits else s.lits) ↔ _
    by_cases hk : kindP B i = 2
    · rw [if_pos hk, List.mem_cons, h3]
      constructor
      · rintro (rfl | ⟨j, a, b, c⟩)
        · exact ⟨i, by simp, hk, rfl⟩
        · exact ⟨j, List.mem_append_left _ a, b, c⟩
      · rintro ⟨j, a, b, c⟩
        rcases List.mem_append.1 a with a | a
        · exact .inr ⟨j, a, b, c⟩
        · rw [List.mem_singleton.1 a] at c; exact .inl c.symm
    · rw [if_neg hk, h3]
      constructor
      · rintro ⟨j, a, b, c⟩; exact ⟨j, List.mem_append_left _ a, b, c⟩
      · rintro ⟨j, a, b, c⟩
        rcases List.mem_append.1 a with a | a
        · exact ⟨j, a, b, c⟩
        · rw [List.mem_singleton.1 a] at b; exact absurd b hk
  have hbad : (decide (kindP B i = end_) || (decide (kindP B i = 2) && s.lits.contains (-(litP B i)))) = true ↔ kindP B i = end_ ∨ (kindP B i = 2 ∧ ∃ j, j ∈ fl ∧ kindP B j = 2 ∧ litP B j = -(litP B i)) := by
    simp only [Bool.or_eq_true, Bool.and_eq_true, decide_eq_true_eq, List.contains_iff_mem, h3]
  have hdec : decR B (dedS B drop out i) end_ = true ↔ decR B out end_ = true ∨ kindP B i = end_ ∨ (kindP B i = 2 ∧ ∃ j, j ∈ fl ∧ kindP B j = 2 ∧ litP B j = -(litP B i)) := by
    rw [dec_iff, dec_iff]
    constructor
    · rintro ⟨a, ha, hx⟩
      rw [ded_mem] at ha
      rcases hx with hx | ⟨k, hk, k1, k2, k3⟩
      · rcases ha with ha | ⟨rfl, _⟩
        · exact .inl ⟨a, ha, .inl hx⟩
        · exact .inr (.inl hx)
      · rw [ded_mem] at hk
        rcases ha with ha | ⟨rfl, _⟩
        · rcases hk with hk | ⟨rfl, _⟩
          · exact .inl ⟨a, ha, .inr ⟨k, hk, k1, k2, k3⟩⟩
          · exact .inr (.inr ⟨k2, a, ((h4 a).1 ha).1, k1, k3⟩)
        · rcases hk with hk | ⟨rfl, _⟩
          · exact .inr (.inr ⟨k1, k, ((h4 k).1 hk).1, k2, by omega⟩)
          · have := hl _ k1; omega
    · rintro (⟨a, ha, hx⟩ | hx | ⟨hk, j, hj, j1, j2⟩)
      · refine ⟨a, ded_mem.2 (.inl ha), ?_⟩
        rcases hx with hx | ⟨k, hk, k1, k2, k3⟩
        · exact .inl hx
        · exact .inr ⟨k, ded_mem.2 (.inl hk), k1, k2, k3⟩
      · exact ⟨i, ded_mem.2 (.inr ⟨rfl, by rw [hx]; exact fun e => hde e.symm⟩), .inl hx⟩
      · exact ⟨i, ded_mem.2 (.inr ⟨rfl, by rw [hk]; exact fun e => hd2 e.symm⟩), .inr ⟨j, ded_mem.2 (.inl ((h4 j).2 ⟨hj, by rw [j1]; exact fun e => hd2 e.symm⟩)), hk, j1, by omega⟩⟩
  have hop : (addS B drop end_ s i).open_ = (s.open_ && !(decide (kindP B i = end_) || (decide (kindP B i = 2) && s.lits.contains (-(litP B i))))) := rfl
  have hout : (addS B drop end_ s i).out = if (decide (kindP B i = end_) || (decide (kindP B i = 2) && s.lits.contains (-(litP B i)))) = false ∧ kindP B i ≠ drop ∧ i ∉ s.out then s.out ++ [i] else s.out := rfl
  generalize (decide (kindP B i = end_) || (decide (kindP B i = 2) && s.lits.contains (-(litP B i)))) = bad at *
  refine ⟨?_, fun ho => ?_, hlits, hmem, ded_nodup h5⟩
  · rw [hop, h1]
    cases hd : decR B (dedS B drop out i) end_ with
    | true =>
      rcases hdec.1 hd with h6 | h6
      · rw [h6]; rfl
      · rw [hbad.2 h6]; cases decR B out end_ <;> rfl
    | false =>
      have h6 : decR B out end_ = false := by
        cases h7 : decR B out end_ with
        | false => rfl
        | true => rw [hdec.2 (.inl h7)] at hd; cases hd
      have h7 : bad = false := by
        cases h8 : bad with
        | false => rfl
        | true => rw [hdec.2 (.inr (hbad.1 h8))] at hd; cases hd
      rw [h6, h7]; rfl
  · rw [hop, Bool.and_eq_true] at ho
    have hb : bad = false := by simpa using ho.2
    rw [hout, h2 ho.1]
    unfold dedS
    by_cases hc : kindP B i ≠ drop ∧ i ∉ out
    · rw [if_pos ⟨hb, hc⟩, if_pos hc]
    · rw [if_neg (fun h => hc h.2), if_neg hc]
theorem agree_all {B : List PN} {drop end_ : Int} (hde : drop ≠ end_) (hd2 : drop ≠ 2) (hl : ∀ i, kindP B i = 2 → litP B i ≠ 0) (fl : List Int) : Agree B drop end_ fl (fl.foldl (addS B drop end_) ⟨[], [], true⟩) (fl.foldl (dedS B drop) []) := by
  have key : ∀ (e d : List Int) (s : StN) (out : List Int), Agree B drop end_ d s out → Agree B drop end_ (d ++ e) (e.foldl (addS B drop end_) s) (e.foldl (dedS B drop) out) := fun e => by
    induction e with
    | nil => intro d s out h; simpa using h
    | cons x e ih =>
      intro d s out h
      have := ih (d ++ [x]) _ _ (h.step hde hd2 hl x)
      rw [List.append_assoc] at this
      exact this
  exact key fl [] _ _ (Agree.nil B drop end_)
def insS : List Int → Int → List Int
  | [], x => [x]
  | y :: l, x => if x < y then x :: y :: l else y :: insS l x
def sortS (l : List Int) : List Int := l.foldl insS []
def addP (B : List PN) (x : PN) : Int × List PN :=
  if x.1 ≠ 3 ∧ x.1 ≠ 4 then putP B (x.1, x.2.1, [])
  else
    let drop : Int := if x.1 = 4 then 0 else 1
    let end_ : Int := if x.1 = 4 then 1 else 0
    let l := inputsR B x.1 drop x.2.2
    if decR B l end_ = true then putP B (end_, 0, [])
    else match l with
      | [] => putP B (drop, 0, [])
      | [y] => (y, B)
      | _ => putP B (x.1, 0, sortS l)
end Go.Proofs.YtdiciemlbhkilaaGreatDoor
namespace Go.Cx
open Go Go.RowKit Go.Lib
set_option linter.unusedVariables false
set_option linter.unusedSimpArgs false
def encB (c : UInt8) : List Value := [.int .u8 (c.toNat : Int)]
theorem encB_flat (l : List UInt8) : l.flatMap encB = l.map (fun c => Value.int .u8 (c.toNat : Int)) := by
  induction l with
  | nil => rfl
  | cons c l ih => rw [List.flatMap_cons, ih]; rfl
theorem strCells_S (l : List UInt8) : strCells (S l) = l.flatMap encB := by
  rw [encB_flat]
  simp [strCells, S]
section
variable {P : Program} {n : Nat} {w0 : World} {R : Heap} {l0 : List Oper} {K : Exit → Fr → List Heap → Prop} {f : Fr} {L : List Heap} {rest : List (Nat × Oper)} {κ : Nat}
variable {Γ : List (Nat × TI)} {d : Nat} {op : Op} {ty : TypeId} {pos : String} {aft : Array Edge} {g : Option (Nat × Bool)} {t u e : TypeId} {x y z : Operand} {bs l : List UInt8} {a : Option Addr} {len cap : Nat} {h : Heap}
theorem J.cvS {s1 b1 s3 b3 : Nat} {z1 z3 : Option Value} (hΓ : Fits P Γ)
    (k : J P n w0 R l0 K rest (upd f d (.string (S bs))) L)
    (hg : wantB n f l0 ⟨some d, .convert t u x, ty, pos, aft, g⟩ = true := by exact rfl) (hx : Cx.ev n f x = .slice a len cap := by exact rfl)
    (ht : look Γ t = some ⟨.slice e, s1, z1, b1⟩ := by exact rfl) (he : look Γ e = some ⟨.int .u8, 1, some (.int .u8 0), 1⟩ := by exact rfl) (hu : look Γ u = some ⟨.string, s3, z3, b3⟩ := by exact rfl)
    (hs : SlT encB 1 a bs h := by first | assumption | exact OwT.sl (by assumption)) (hr : RdH R L h := by first | exact RdH.hd | exact RdH.hd.tl | exact RdH.hd.tl.tl | exact RdH.hd.tl.tl.tl) (hlen : bs.length = len := by first | rfl | assumption | omega) :
    J P n w0 R l0 K ((κ + 1, ⟨some d, .convert t u x, ty, pos, aft, g⟩) :: rest) f L := by
  subst hlen
  refine J.q hg (fun w hw => ?_) k
  have htu := (hΓ t _ ht).1
  have huu := (hΓ u _ hu).1
  have heu := (hΓ e _ he).1
  have hH := hw.rdH hr
  have hcv : (convert t u (.slice a bs.length cap)).run P w = .ok (.string (S bs)) w := by
    cases a with
    | none =>
      have hb : bs = [] := by
        cases bs with
        | nil => rfl
        | cons c cs => obtain ⟨b, off, cs', e', fr, h1, _⟩ := hs.at_ 0 (by simp); cases h1
      subst hb
      exact run_convert_bytes_nil (P := P) w t e htu heu 0 cap u huu
    | some ad =>
      by_cases hb : bs = []
      · subst hb
        obtain ⟨b, off, sp⟩ := ad
        rw [run_convert_bytes_string w t u e _ _ cap htu heu huu]
        have hl : (loadCells (⟨b, off, sp⟩ : Addr) 0).run P w = .ok (([] : List Int).map (Value.int .u8)).toArray w := by
          have := run_loadCells_list (P := P) w (⟨b, off, sp⟩ : Addr) [] (fun j v hj => by simp at hj)
          simpa using this
        exact run_bytesToString w _ 0 cap [] hl
      · have hpos : 0 < bs.length := List.length_pos_iff.2 hb
        obtain ⟨b, off, cs0, e0, fr0, h1, h2, h3, h4⟩ := hs.at_ 0 hpos
        obtain rfl := Option.some.inj h1
        have hcell : ∀ i, i < bs.length → w.cell? ⟨b, off + i, none⟩ = some (.int .u8 ((bs.map fun c => (c.toNat : Int)).getD i 0)) := fun i hi => by
          obtain ⟨b', off', cs', e', fr', k1, k2, k3, k4⟩ := hs.at_ i hi
          simp only [Option.some.injEq, Addr.mk.injEq] at k1
          obtain ⟨rfl, rfl, _⟩ := k1
          have hrow := hH _ k2
          rw [cell_of_row w b (off + i) ⟨cs'⟩ e' fr' hrow]
          have k5 := congrArg (·[0]?) k4
          simp only [List.getElem?_take, List.getElem?_drop, Nat.mul_one, Nat.add_zero] at k5
          rw [List.getD_eq_getElem?_getD, List.getElem?_map, List.getElem?_eq_getElem hi]
          simpa [encB] using k5
        have := run_convert_bytes_arg (P := P) w t e htu heu b off bs.length cap (bs.map fun c => (c.toNat : Int)) (by simp) hcell u huu
        rw [this]
        have hS : strOfNums (bs.map fun c => (c.toNat : Int)) = S bs := by
          unfold strOfNums S
          congr 1
          apply Array.ext'
          simp only [List.map_map]
          have : ((fun n : Int => UInt8.ofNat n.toNat) ∘ fun c : UInt8 => (c.toNat : Int)) = id := funext fun c => by simp
          simp [this]
        rw [hS]
  simp only [execOp, hx, Sem.run_bind]
  rw [hcv]
  rfl
end
section
variable {P : Program} {n : Nat} {w0 : World} {R : Heap} {l0 : List Oper} {K : Exit → Fr → List Heap → Prop} {f : Fr} {L : List Heap} {rest : List (Nat × Oper)} {κ : Nat}
variable {Γ : List (Nat × TI)} {d : Nat} {op : Op} {ty : TypeId} {pos : String} {aft : Array Edge} {g : Option (Nat × Bool)} {t u e : TypeId} {x y z : Operand} {a : Option Addr} {len cap : Nat} {h : Heap}
theorem _root_.Go.Cx.OwT.take {α : Type} {enc : α → List Value} {size : Nat} {ts : List α} (ho : OwT enc size e a cap ts h) (k : Nat) : OwT enc size e a cap (ts.take k) h := by
  refine ⟨ho.len, ?_⟩
  rcases ho.row with ⟨h1, h2, h3, h4⟩ | ⟨gb, cs, h1, h2, h3, h4, h5⟩
  · exact .inl ⟨h1, h2, by rw [h3]; simp, h4⟩
  · refine .inr ⟨gb, cs, h1, h2, h3, by rw [List.length_take]; omega, ?_⟩
    have hf : (ts.take k).flatMap enc = (ts.flatMap enc).take ((ts.take k).length * size) := by
      have e2 : ts.flatMap enc = (ts.take k).flatMap enc ++ (ts.drop k).flatMap enc := by rw [← List.flatMap_append, List.take_append_drop]
      rw [e2, List.take_append_of_le_length (by rw [flat_len ho.len]; exact Nat.le_refl _)]
      exact (List.take_of_length_le (by rw [flat_len ho.len]; exact Nat.le_refl _)).symm
    rw [hf, ← h5, List.take_take]
    congr 1
    have : (ts.take k).length * size ≤ ts.length * size := Nat.mul_le_mul_right _ (by rw [List.length_take]; omega)
    omega
theorem J.slF {ki : IntKind} {j : Int} {m s1 b1 : Nat} {z1 : Option Value} {te : TI} (hΓ : Fits P Γ)
    (k : J P n w0 R l0 K rest (upd f d (.slice a m cap)) L)
    (hg : wantB n f l0 ⟨some d, .slice t x none (some y) none, ty, pos, aft, g⟩ = true := by exact rfl) (hx : Cx.ev n f x = .slice a len cap := by exact rfl) (hy : Cx.ev n f y = .int ki j := by exact rfl) (ht : look Γ t = some ⟨.slice e, s1, z1, b1⟩ := by exact rfl) (hte : look Γ e = some te := by exact rfl) (hm : j = (m : Int) := by omega) (h1 : m ≤ cap := by omega) :
    J P n w0 R l0 K ((κ, ⟨some d, .slice t x none (some y) none, ty, pos, aft, g⟩) :: rest) f L :=
  J.p hg (fun w => by
    subst hm
    have hu : P.underlying t = some (.slice e) := (hΓ t _ ht).1
    have he : P.elem t = e := by unfold Program.elem; rw [hu]
    have hu' : P.underlying t = some (.slice (P.elem t)) := by rw [he]; exact hu
    have : (Instr.sliceAt t (.slice a len cap) none (some (.int ki (m : Int))) none).run P w = .ok (.slice a m cap) w := by
      rw [run_sliceAt_slice w t _ _ _ _ hu', run_slice_h w t a len cap hu' ki (m : Int) (by omega) (by omega), he, sizeOf_run hΓ hte w]
      cases a <;> simp [sliced, Result.andThen, Addr.add]
    simp only [execOp, hx, hy, Sem.run_bind, Option.map_some, Option.map_none]
    rw [this]
    rfl) k
end
end Go.Cx
namespace Go.Proofs.YtdiciemlbhkilaaGreatDoor
open Go Go.Cx Go.RowKit Go.Lib
set_option linter.unusedVariables false
set_option linter.unusedSimpArgs false
set_option maxHeartbeats 4000000
section
variable {P : Program} {n : Nat} {w0 : World} {R : Heap} {l0 : List Oper} {K : Exit → Fr → List Heap → Prop} {f : Fr} {L : List Heap} {rest : List (Nat × Oper)} {κ : Nat}
variable {Γ : List (Nat × Go.Cx.TI)} {d : Nat} {ty : TypeId} {pos : String} {aft : Array Edge} {g : Option (Nat × Bool)} {t u te : TypeId} {x y : Operand}
theorem J.pN {p : Option Addr} {s1 b1 : Nat} {z1 : Option Value} (hΓ : Fits P Γ) (k : J P n w0 R l0 K rest (upd f d (.bool p.isNone)) L) (hg : wantB n f l0 ⟨some d, .binOp .eql t x y u, ty, pos, aft, g⟩ = true := by exact rfl) (hx : Cx.ev n f x = .pointer p := by exact rfl) (hy : Cx.ev n f y = .pointer none := by exact rfl) (ht : Go.Cx.look Γ t = some ⟨.pointer te, s1, z1, b1⟩ := by exact rfl) : J P n w0 R l0 K ((κ, ⟨some d, .binOp .eql t x y u, ty, pos, aft, g⟩) :: rest) f L :=
  J.p hg (fun w => by
    have hu := (hΓ t _ ht).1
    have h : ∀ d : Nat, (Op.equalIn (d + 1) t (.pointer p) (.pointer none)).run P w = .ok p.isNone w := fun d => by
      cases p <;> simp [Op.equalIn, run_underlying hu]
    have h2 : (binOp .eql t (.pointer p) (.pointer none)).run P w = .ok (.bool p.isNone) w := by
      simp only [binOp]
      simp [Op.equal, Op.maxDepth, h 9999]
    have h3 : (eqGuard .eql t x y (.pointer p) (.pointer none)).run P w = .ok () w := by simp [eqGuard]
    simp only [execOp, hx, hy, Sem.run_bind, h3, Result.andThen_ok, h2]
    rfl) k
theorem J.pS {a : Addr} {s1 b1 s2 b2 : Nat} {z1 z2 : Option Value} {de : TypeDesc} (hΓ : Fits P Γ) (k : J P n w0 R l0 K rest (upd f d (.bool false)) L) (hg : wantB n f l0 ⟨some d, .binOp .neq t x y u, ty, pos, aft, g⟩ = true := by exact rfl) (hx : Cx.ev n f x = .pointer (some a) := by exact rfl) (hy : Cx.ev n f y = .pointer (some a) := by exact rfl) (ht : Go.Cx.look Γ t = some ⟨.pointer te, s1, z1, b1⟩ := by exact rfl) (he : Go.Cx.look Γ te = some ⟨de, s2, z2, b2⟩ := by exact rfl) : J P n w0 R l0 K ((κ, ⟨some d, .binOp .neq t x y u, ty, pos, aft, g⟩) :: rest) f L :=
  J.p hg (fun w => by
    obtain ⟨_, ie, hie, _⟩ := hΓ te _ he
    have h2 := Lib.run_neq_ptr_same (P := P) w a (hΓ t _ ht).1 hie
    have h3 : (eqGuard .neq t x y (.pointer (some a)) (.pointer (some a))).run P w = .ok () w := by simp [eqGuard]
    simp only [execOp, hx, hy, Sem.run_bind, h3, Result.andThen_ok, h2]
    rfl) k
theorem J.cU {t2 : TypeId} {b : Nat} {cs : List Value} {e : TypeId} {fr : Nat × Nat} {s1 b1 s3 b3 : Nat} {z1 z3 : Option Value} {de : TypeDesc} (hΓ : Fits P Γ) (hu2 : P.underlying t2 = some .unsafePointer) (hr : Rd R L b (.cells ⟨cs⟩ e fr)) (k : J P n w0 R l0 K rest (upd f d (.pointer (some ⟨b, 0, none⟩))) L) (hg : wantB n f l0 ⟨some d, .convert t t2 x, ty, pos, aft, g⟩ = true := by exact rfl) (hx : Cx.ev n f x = .pointer (some ⟨b, 0, none⟩) := by exact rfl) (ht : Go.Cx.look Γ t = some ⟨.pointer te, s1, z1, b1⟩ := by exact rfl) (he : Go.Cx.look Γ te = some ⟨de, s3, z3, b3⟩ := by exact rfl) (hs : Nat.ble 1 s3 = true := by exact rfl) (hl : Nat.ble 1 cs.length = true := by exact rfl) : J P n w0 R l0 K ((κ + 1, ⟨some d, .convert t t2 x, ty, pos, aft, g⟩) :: rest) f L :=
  J.q hg (fun w hw => by
    obtain ⟨_, ie, hie, hse, _⟩ := hΓ te _ he
    have hb := hw.rd hr
    have hsh : w.shape? b = some (e, cs.length) := by simp [World.shape?, hb]
    have h2 := Lib.run_to_unsafe (P := P) w ⟨b, 0, none⟩ (hΓ t _ ht).1 hu2 hie (by have := Nat.le_of_ble_eq_true hs; rw [hse]; show s3 ≠ 0; omega) hsh (Nat.le_of_ble_eq_true hl)
    simp only [execOp, hx, Sem.run_bind, h2, Result.andThen_ok]
    rfl) k
theorem J.cP {t2 : TypeId} {b : Nat} {cs : List Value} {e : TypeId} {fr : Nat × Nat} {s1 b1 s3 b3 : Nat} {z1 z3 : Option Value} {de : TypeDesc} (hΓ : Fits P Γ) (hu2 : P.underlying t2 = some .unsafePointer) (hr : Rd R L b (.cells ⟨cs⟩ e fr)) (k : J P n w0 R l0 K rest (upd f d (.pointer (some ⟨b, 0, none⟩))) L) (hlies : liesAt P P.depth e (cs.length / P.cellsOf e) 0 te 1 = true := by kernel_rfl) (hg : wantB n f l0 ⟨some d, .convert t2 t x, ty, pos, aft, g⟩ = true := by exact rfl) (hx : Cx.ev n f x = .pointer (some ⟨b, 0, none⟩) := by exact rfl) (ht : Go.Cx.look Γ t = some ⟨.pointer te, s1, z1, b1⟩ := by exact rfl) (he : Go.Cx.look Γ te = some ⟨de, s3, z3, b3⟩ := by exact rfl) : J P n w0 R l0 K ((κ + 1, ⟨some d, .convert t2 t x, ty, pos, aft, g⟩) :: rest) f L :=
  J.q hg (fun w hw => by
    obtain ⟨_, ie, hie, hse, _⟩ := hΓ te _ he
    have hb := hw.rd hr
    have hsh : w.shape? b = some (e, cs.length) := by simp [World.shape?, hb]
    have h2 := Lib.run_from_unsafe (P := P) w ⟨b, 0, none⟩ hu2 (hΓ t _ ht).1 hie hsh hlies
    simp only [execOp, hx, Sem.run_bind, h2, Result.andThen_ok]
    rfl) k
theorem J.nE {fid : FuncId} {fn : Func} {xs : List Operand} {ats : Array TypeId} {v : Value} (hf : P.funcs[fid]? = some fn) (hn : (fn.name == "runtime.NumGoroutine") = false) (hb : fn.body.isNone = true) (hnx : Extern.findNext fn = none) (hfi : Extern.find fn = some Extern.AbiNoEscape.same) (hg : wantB n f l0 ⟨some d, .call ⟨.value (.func fid), ⟨xs⟩, ats⟩, ty, pos, aft, g⟩ = true) (ha : argsEv (Cx.ev n f) xs = some [v]) (k : J P n w0 R l0 K rest (upd f d v) L) : J P n w0 R l0 K ((κ, ⟨some d, .call ⟨.value (.func fid), ⟨xs⟩, ats⟩, ty, pos, aft, g⟩) :: rest) f L :=
  J.p hg (fun w => by
    have h1 : (⟨xs⟩ : Array Operand).map (Cx.ev n f) = ⟨[v]⟩ := by rw [← argsEv_eq ha]; simp
    have h2 := run_callFunc_extern hf hn hb hnx hfi #[v] w
    rw [Lib.run_noEscape] at h2
    simp only [Result.andThen_ok] at h2
    simp only [execOp, resolve, h1, Cx.ev, Deferred.ofValue, Sem.run_bind, Sem.run_pure, Result.andThen_ok, invoke]
    simpa using h2) k
end
section
variable {P : Program} {Γ : List (Nat × Go.Cx.TI)} {w0 : World} {R : Heap} {L : List Heap}
theorem appStr_runC (hΓ : Fits P Γ) {t u ty' e : TypeId} {s1 b1 s3 b3 cap : Nat} {z1 z3 : Option Value} {a : Option Addr} {bs : List UInt8} {h : Heap} {l : List UInt8} (ht : Go.Cx.look Γ t = some ⟨.slice e, s1, z1, b1⟩) (he : Go.Cx.look Γ e = some ⟨.int .u8, 1, some (.int .u8 0), 1⟩) (hu : Go.Cx.look Γ u = some ⟨.string, s3, z3, b3⟩)
    {w : World} (hw : H w0 R (h :: L) w) (ho : OwT encB 1 e a cap bs h) (hm : 0 < l.length) (hb : bs.length + l.length ≤ 140737488355328) (hcap : cap ≤ maxLen) :
    ∃ a' cap' h' w', (Builtin.append_ #[t, u] ty' #[.slice a bs.length cap, .string (S l)]).run P w = .ok (.slice a' (bs.length + l.length) cap') w' ∧ H w0 R (h' :: L) w' ∧ OwT encB 1 e a' cap' (bs ++ l) h' ∧ cap' ≤ maxLen := by
  have htu := (hΓ t _ ht).1
  have huu := (hΓ u _ hu).1
  obtain ⟨hue, ie, hie, hse, hze, hbe⟩ := hΓ e _ he
  have hsz : ie.size = 1 := hse
  have hbz : ie.bytes = 1 := hbe
  have hS : (S l).size = l.length := rfl
  rcases ho.row with ⟨rfl, rfl, rfl, rfl⟩ | ⟨gb, cs, rfl, rfl, hc1, hc2, hc3⟩
  · have hrun := run_append_nil_string (P := P) (w := w) t u ty' e ie (.int .u8 0) htu huu hie hze (S l) hm (by rw [hS]; omega) (by rw [hS, hbz]; omega)
    have hge := grownCap_ge w l.length 0 e
    refine ⟨some ⟨w.heap.size, 0, none⟩, grownCap w l.length 0 e, _, _, ?_, (hw.drop.drew (w.drawn + 1)).alloc (.cells ((S l).data.map (fun b => Value.int .u8 b.toNat) ++ Builtin.zeroCells (Value.int .u8 0).cells (grownCap w l.length 0 e - l.length)) e), ?_, grownCap_le_maxLen w l.length 0 e (by unfold maxLen; omega)⟩
    · simp only [List.length_nil, Nat.zero_add]
      exact hrun
    · refine ⟨ho.len, .inr ⟨w.heap.size, l.flatMap encB ++ (Builtin.zeroCells (Value.int .u8 0).cells (grownCap w l.length 0 e - l.length)).toList, rfl, ?_, ?_, ?_, ?_⟩⟩
      · have : ((S l).data.map (fun b => Value.int .u8 b.toNat) ++ Builtin.zeroCells (Value.int .u8 0).cells (grownCap w l.length 0 e - l.length)) = ⟨l.flatMap encB ++ (Builtin.zeroCells (Value.int .u8 0).cells (grownCap w l.length 0 e - l.length)).toList⟩ := by
          apply Array.ext'
          rw [encB_flat]
          simp [S]
        rw [this]
      · simp only [List.length_append, Array.length_toList, size_zeroCells, Go.Cx.flat_len ho.len]
        simp [Value.cells]
        omega
      · simpa using hge
      · simp only [List.nil_append]
        rw [List.take_append_of_le_length (by rw [Go.Cx.flat_len ho.len]; exact Nat.le_refl _), List.take_of_length_le (by rw [Go.Cx.flat_len ho.len]; exact Nat.le_refl _)]
  · have hg : w.heap[gb]? = some (.cells cs.toArray e (0, 0)) := hw.own (gb, _) (by simp)
    by_cases hroom : bs.length + l.length ≤ cap
    · have hrun := run_append_room_string (P := P) (w := w) t u ty' e ie htu huu hie hsz gb bs.length cap cs.toArray hg (S l) (by rw [hS]; exact hroom) (by rw [hS, List.size_toArray, hc1]; omega)
      rw [hS, strCells_S] at hrun
      refine ⟨_, _, [(gb, .cells ⟨bs.flatMap encB ++ l.flatMap encB ++ cs.drop (bs.length + l.length)⟩ e (0, 0))], _, hrun, ?_, ?_, hcap⟩
      · refine hw.write rfl rfl rfl (by simp) ?_ (fun k hk => setRow_other _ _ _ _ hk)
        rw [setRow_heap w gb _ _ e _ hg]
        have : cs.toArray.toList.take bs.length = bs.flatMap encB := by rw [← hc3, Nat.mul_one]
        rw [this]
      · refine ⟨ho.len, .inr ⟨gb, _, rfl, rfl, ?_, ?_, ?_⟩⟩
        · simp only [List.length_append, List.length_drop, Go.Cx.flat_len ho.len, hc1]
          omega
        · simpa using hroom
        · rw [List.flatMap_append, List.take_append_of_le_length (by rw [List.length_append, List.length_append, Go.Cx.flat_len ho.len, Go.Cx.flat_len ho.len, Nat.add_mul]; exact Nat.le_refl _)]
          rw [List.take_of_length_le (by rw [List.length_append, List.length_append, Go.Cx.flat_len ho.len, Go.Cx.flat_len ho.len, Nat.add_mul]; exact Nat.le_refl _)]
    · have hlt : cap < bs.length + l.length := by omega
      have hadd : ∀ j, (⟨gb, 0, none⟩ : Addr).add j = ⟨gb, j, none⟩ := fun j => by unfold Addr.add; split <;> simp_all
      have hfit : Builtin.nextslicecap (bs.length + (S l).size) cap * ie.bytes ≤ 281474976710656 := by
        have h2 := nextslicecap_le hlt
        rw [hS, hbz, Nat.mul_one]
        omega
      have hrun := run_append_grow_string (P := P) (w := w) t u ty' e ie (.int .u8 0) htu huu hie hze ⟨gb, 0, none⟩ bs.length cap (bs.flatMap encB) (by rw [Go.Cx.flat_len ho.len, hsz]) (fun j v hj => by
          rw [hadd, cell_of_row w gb j cs.toArray e (0, 0) hg]
          rw [← hc3, List.getElem?_take] at hj
          split at hj
          · simpa using hj
          · cases hj) (S l) (by rw [hS]; exact hlt) (by rw [hS]; omega) hfit
      rw [hS, strCells_S] at hrun
      have hge := grownCap_ge w (bs.length + l.length) cap e
      refine ⟨_, _, _, _, hrun, (hw.drop.drew (w.drawn + 1)).alloc _, ?_, grownCap_le_maxLen w (bs.length + l.length) cap e (by unfold maxLen; omega)⟩
      refine ⟨ho.len, .inr ⟨w.heap.size, bs.flatMap encB ++ l.flatMap encB ++ (Builtin.zeroCells (Value.int .u8 0).cells (grownCap w (bs.length + l.length) cap e - (bs.length + l.length))).toList, rfl, ?_, ?_, ?_, ?_⟩⟩
      · simp
      · simp only [List.length_append, Array.length_toList, size_zeroCells, Go.Cx.flat_len ho.len]
        simp [Value.cells]
        omega
      · simpa using hge
      · rw [List.flatMap_append, List.take_append_of_le_length (by rw [List.length_append, List.length_append, Go.Cx.flat_len ho.len, Go.Cx.flat_len ho.len, Nat.add_mul]; exact Nat.le_refl _)]
        rw [List.take_of_length_le (by rw [List.length_append, List.length_append, Go.Cx.flat_len ho.len, Go.Cx.flat_len ho.len, Nat.add_mul]; exact Nat.le_refl _)]
end
section
variable {P : Program} {n : Nat} {w0 : World} {R : Heap} {l0 : List Oper} {K : Exit → Fr → List Heap → Prop} {f : Fr} {L : List Heap} {rest : List (Nat × Oper)} {κ : Nat}
variable {Γ : List (Nat × Go.Cx.TI)} {d : Nat} {op : Op} {ty : TypeId} {pos : String} {aft : Array Edge} {g : Option (Nat × Bool)} {t u e : TypeId} {x y z : Operand} {bs l : List UInt8} {a : Option Addr} {len cap : Nat} {h : Heap}
theorem J.apSc {s1 b1 s3 b3 : Nat} {z1 z3 : Option Value} (hΓ : Fits P Γ) (hcap : cap ≤ maxLen)
    (k : ∀ a' cap' h', OwT encB 1 e a' cap' (bs ++ l) h' → cap' ≤ maxLen → J P n w0 R l0 K rest (upd f d (.slice a' (bs ++ l).length cap')) (h' :: L))
    (hg : wantB n f l0 ⟨some d, .call ⟨.builtin .append, ⟨[x, y]⟩, ⟨[t, u]⟩⟩, ty, pos, aft, g⟩ = true := by exact rfl) (hx : Cx.ev n f x = .slice a len cap := by exact rfl) (hy : Cx.ev n f y = .string (S l) := by exact rfl)
    (ht : Go.Cx.look Γ t = some ⟨.slice e, s1, z1, b1⟩ := by exact rfl) (he : Go.Cx.look Γ e = some ⟨.int .u8, 1, some (.int .u8 0), 1⟩ := by exact rfl) (hu : Go.Cx.look Γ u = some ⟨.string, s3, z3, b3⟩ := by exact rfl)
    (ho : OwT encB 1 e a cap bs h := by assumption) (hlen : bs.length = len := by first | rfl | assumption | omega) (hm : 0 < l.length := by first | omega | exact Nat.lt_of_lt_of_le (by decide) (Nat.le_refl _)) (hb : bs.length + l.length ≤ 140737488355328 := by first | omega | (simp only [List.length_append, List.length_cons, List.length_nil]; omega)) :
    J P n w0 R l0 K ((2, ⟨some d, .call ⟨.builtin .append, ⟨[x, y]⟩, ⟨[t, u]⟩⟩, ty, pos, aft, g⟩) :: rest) f (h :: L) := by
  subst hlen
  have hll : (bs ++ l).length = bs.length + l.length := List.length_append
  rw [hll] at k
  refine J.v (Φ := fun v L' => ∃ a' cap' h', v = .slice a' (bs.length + l.length) cap' ∧ L' = h' :: L ∧ OwT encB 1 e a' cap' (bs ++ l) h' ∧ cap' ≤ maxLen) hg (fun w hw => ?_) (fun v L' ⟨a', cap', h', h1, h2, h3, h4⟩ => by subst h1; subst h2; exact k a' cap' h' h3 h4)
  obtain ⟨a', cap', h', w', hr, hw', ho', hc'⟩ := appStr_runC (P := P) (ty' := ty) hΓ ht he hu hw ho hm hb hcap
  refine ⟨_, _, w', ?_, hw', a', cap', h', rfl, rfl, ho', hc'⟩
  simp only [execOp, resolve, invoke, builtin, List.map_toArray, List.map_cons, List.map_nil, hx, hy, Sem.run_bind, Sem.run_pure, Result.andThen_ok]
  rw [hr]
  rfl
end
attribute [local irreducible] J JC thenK blockK loopK roundK drawK retK QW Qt pel List.set Calls
theorem eCopyC : Entr Tryz.prog 115 := Entr.of Tryz.func115 rfl rfl
theorem eWStr : Entr Tryz.prog 139 := Entr.of Tryz.func139 rfl rfl
theorem eBStr : Entr Tryz.prog 76 := Entr.of Tryz.func76 rfl rfl
def bldO (p : Option Addr) (v : Value) : Obj := .cells ⟨[.pointer p, v]⟩ 128 (0, 0)
set_option maxRecDepth 100000 in
theorem copyC_any {w0 w : World} {R : Heap} {L : List Heap} {b : Nat} {p : Option Addr} {v : Value} (hp : p = none ∨ p = some ⟨b, 0, none⟩) (hw : H w0 R ([(b, bldO p v)] :: L) w) :
    Calls Tryz.prog 115 #[.pointer (some ⟨b, 0, none⟩)] w fun e w' => ∃ v' L', e = .returned v' ∧ H w0 R L' w' ∧ (v' = .tuple #[] ∧ L' = [(b, bldO (some ⟨b, 0, none⟩) v)] :: L) := by
  rcases hp with rfl | rfl
  ·
    refine calls_in Tryz.func115 Tryz.ntmps115 rfl rfl (hw) ?_
    unfold bldO
    repeat' first
      | (refine J.isJ ?_; first | (first | (refine J.o 11 ?_; refine J.pN hΓ ?_) | (refine J.o 2 ?_; first | refine J.cU hΓ Tryz.underlying173 Rd.hd ?_ | refine J.cP hΓ Tryz.underlying173 Rd.hd ?_) | (refine J.fc 136 ?_; refine J.nE Tryz.func136 (by kernel_rfl) (by kernel_rfl) (by kernel_rfl) (by kernel_rfl) rfl rfl ?_) | (refine J.o 11 ?_; refine J.pS hΓ ?_)) | (first | (refine J.o 0 ?_; refine J.ev' hΓ ?_) | refine J.nil ?_ | (refine J.o 4 ?_; first | refine J.e0 hΓ ?_) | (refine J.o 3 ?_; first | refine J.ev' hΓ ?_) | (refine J.o 5 ?_; first | refine J.t0 hΓ ?_) | (refine J.o 10 ?_; first | refine J.ev' hΓ ?_) | (refine J.o 11 ?_; first | refine J.ev' hΓ ?_)))
      | (first | refine JC.seq ?_ | refine JC.region ?_ | refine JC.skip ?_ | refine thenK.nn ?_ | refine JC.condT rfl ?_ | refine JC.condF rfl ?_)
      | (fail)
      | fail
    all_goals first | (exact absurd rfl hc) | skip
    all_goals exact ret0n rfl (fun w1 hw => ⟨_, _, rfl, hw, rfl, rfl⟩)
  ·
    refine calls_in Tryz.func115 Tryz.ntmps115 rfl rfl (hw) ?_
    unfold bldO
    repeat' first
      | (refine J.isJ ?_; first | (first | (refine J.o 11 ?_; refine J.pN hΓ ?_) | (refine J.o 11 ?_; refine J.pS hΓ ?_)) | (first | (refine J.o 0 ?_; refine J.ev' hΓ ?_) | refine J.nil ?_ | (refine J.o 4 ?_; first | refine J.e0 hΓ ?_) | (refine J.o 3 ?_; first | refine J.ev' hΓ ?_) | (refine J.o 5 ?_; first | refine J.t0 hΓ ?_) | (refine J.o 10 ?_; first | refine J.ev' hΓ ?_) | (refine J.o 11 ?_; first | refine J.ev' hΓ ?_)))
      | (first | refine JC.seq ?_ | refine JC.region ?_ | refine JC.skip ?_ | refine thenK.nn ?_ | refine JC.condT rfl ?_ | refine JC.condF rfl ?_)
      | (fail)
      | fail
    all_goals first | (exact absurd rfl hc) | skip
    all_goals exact ret0n rfl (fun w1 hw => ⟨_, _, rfl, hw, rfl, rfl⟩)
theorem wStr_any {w0 w : World} {R : Heap} {L : List Heap} {b : Nat} {p a : Option Addr} {cap : Nat} {bs l : List UInt8} {hb : Heap} (hp : p = none ∨ p = some ⟨b, 0, none⟩) (ob : OwT encB 1 5 a cap bs hb) (hcap : cap ≤ maxLen) (h0 : 0 < l.length) (hlen : bs.length + l.length ≤ 140737488355328) (hw : H w0 R ([(b, bldO p (.slice a bs.length cap))] :: hb :: L) w) :
    Calls Tryz.prog 139 #[.pointer (some ⟨b, 0, none⟩), .string (S l)] w fun e w' => ∃ v' L', e = .returned v' ∧ H w0 R L' w' ∧ ∃ a' cap' h', L' = [(b, bldO (some ⟨b, 0, none⟩) (.slice a' (bs ++ l).length cap'))] :: h' :: L ∧ OwT encB 1 5 a' cap' (bs ++ l) h' ∧ cap' ≤ maxLen := by
  refine calls_in Tryz.func139 Tryz.ntmps139 rfl rfl (hw) ?_
  repeat' first
    | (refine J.isJ ?_; first | (first | (refine J.fc 115 ?_; refine J.callx eCopyC rfl rfl (fun w hw => copyC_any hp hw) ?_; rintro _ _ ⟨rfl, rfl⟩; unfold bldO) | (refine J.o 9 ?_; refine J.perm br1 ?_; refine J.apSc hΓ hcap (fun a2 c2 h2 o2 hc2 => ?_)) | (refine J.o 5 ?_; refine J.t1 hΓ ?_)) | (first | (refine J.o 0 ?_; refine J.ev' hΓ ?_) | refine J.nil ?_ | (refine J.o 4 ?_; first | refine J.e0 hΓ ?_) | (refine J.o 3 ?_; first | refine J.ev' hΓ ?_) | (refine J.o 5 ?_; first | refine J.t1 hΓ ?_) | (refine J.o 10 ?_; first | refine J.ls hΓ ?_ | refine J.ev' hΓ ?_) | (refine J.o 11 ?_; first | refine J.ev' hΓ ?_)))
    | (first | refine JC.seq ?_ | refine JC.region ?_ | refine JC.ret ?_ | refine thenK.nn ?_)
    | (fail)
    | fail
  all_goals first | (exfalso; omega) | skip
  all_goals exact ret2f rfl rfl rfl rfl rfl (fun w1 hw => ⟨_, _, rfl, hw.perm br1, _, _, _, rfl, o2, hc2⟩)
def numK (k : Int) : List UInt8 := Lib.itoa k ++ [32]
theorem eKey1 : Entr Tryz.prog 138 := Entr.of Tryz.func138 rfl rfl
theorem eKey : Entr Tryz.prog 119 := Entr.of Tryz.func119 rfl rfl
theorem key1_any (k : Int) (hk : -9223372036854775808 ≤ k ∧ k ≤ 9223372036854775807) {w0 w : World} {R : Heap} {L : List Heap} {b : Nat} {p a : Option Addr} {cap : Nat} {bs : List UInt8} {hb : Heap} (hT : Tab w0) (hp : p = none ∨ p = some ⟨b, 0, none⟩) (ob : OwT encB 1 5 a cap bs hb) (hcap : cap ≤ maxLen) (hlen : bs.length ≤ 1000000000000) (hw : H w0 R ([(b, bldO p (.slice a bs.length cap))] :: hb :: L) w) :
    Calls Tryz.prog 138 #[.int .i64 k, .pointer (some ⟨b, 0, none⟩)] w fun e w' => ∃ v' L', e = .returned v' ∧ H w0 R L' w' ∧ ∃ a' cap' h', v' = .tuple #[] ∧ L' = [(b, bldO (some ⟨b, 0, none⟩) (.slice a' (bs ++ numK k).length cap'))] :: h' :: L ∧ OwT encB 1 5 a' cap' (bs ++ numK k) h' ∧ cap' ≤ maxLen := by
  have hil := Lib.itoa_length_le k hk.1 hk.2
  refine calls_in Tryz.func138 Tryz.ntmps138 rfl rfl (hw) ?_
  repeat' first
    | (refine J.isJ ?_; first | (first | (refine J.fc 80 ?_; refine J.call0 eItoa rfl rfl (fun w hw => itoa_tab k hk.1 hk.2 w (hT.below hw.below)) ?_) | (refine J.fc 139 ?_; refine J.callx eWStr rfl rfl (fun w hw => wStr_any (l := numK k) hp ob hcap (by unfold numK; rw [List.length_append, List.length_singleton]; omega) (by unfold numK; rw [List.length_append, List.length_singleton]; omega) hw) ?_; rintro _ _ ⟨a2, c2, h2, rfl, o2, hc2⟩)) | (first | (refine J.o 0 ?_; refine J.ev' hΓ ?_) | refine J.nil ?_ | (refine J.o 3 ?_; first | refine J.ev' hΓ ?_) | (refine J.o 1 ?_; first | refine J.ct ?_) | (refine J.o 10 ?_; first | refine J.ev' hΓ ?_) | (refine J.o 11 ?_; first | refine J.ev' hΓ ?_)))
    | (first | refine JC.region ?_)
    | (fail)
    | fail
  all_goals exact ret0n rfl (fun w1 hw => ⟨_, _, rfl, hw, _, _, _, rfl, rfl, o2, hc2⟩)
theorem bytes_flat : ∀ bs : List UInt8, bs.flatMap encB = Lib.byteCells bs
  | [] => rfl
  | x :: bs => by
    have ih := bytes_flat bs
    unfold Lib.byteCells at ih ⊢
    rw [List.flatMap_cons, List.map_cons, ih]
    rfl
theorem bStr_any {w0 w : World} {R : Heap} {L : List Heap} {b : Nat} {p a : Option Addr} {cap : Nat} {bs : List UInt8} {hb : Heap} (hp : p = none ∨ p = some ⟨b, 0, none⟩) (ob : OwT encB 1 5 a cap bs hb) (hcap : cap ≤ maxLen) (hw : H w0 R ([(b, bldO p (.slice a bs.length cap))] :: hb :: L) w) :
    Calls Tryz.prog 76 #[.pointer (some ⟨b, 0, none⟩)] w fun e w' => ∃ v' L', e = .returned v' ∧ H w0 R L' w' ∧ (v' = .string (S bs) ∧ L' = []) := by
  have hbk : w.heap[b]? = some (bldO p (.slice a bs.length cap)) := hw.rd (Rd.fr (by simp))
  have hbn : w0.heap.size ≤ b := hw.new (b, bldO p (.slice a bs.length cap)) (by simp)
  have hfl := bytes_flat bs
  have hown : w.ownsRow w0.heap.size 5 1 (.slice a bs.length cap) (Lib.byteCells bs).length (Lib.byteCells bs) ∧ (Value.slice a bs.length cap).ownBlock ≠ some b := by
    rw [Lib.byteCells_length]
    rcases ob.row with ⟨rfl, rfl, rfl, rfl⟩ | ⟨g, cs, rfl, rfl, h1, h2, h3⟩
    · exact ⟨⟨by simp [Lib.byteCells], .inl ⟨rfl, rfl⟩⟩, by simp [Value.ownBlock]⟩
    · have hg : w.heap[g]? = some (.cells ⟨cs⟩ 5 (0, 0)) := hw.own (g, _) (by simp)
      have hgn : w0.heap.size ≤ g := hw.new (g, .cells ⟨cs⟩ 5 (0, 0)) (by simp)
      refine ⟨⟨by rw [Lib.byteCells_length]; omega, .inr ⟨g, cap, ⟨cs⟩, rfl, hgn, hg, h2, hcap, by simpa using h1, ?_⟩⟩, ?_⟩
      · rw [← hfl]; exact h3
      · have hnd := hw.nodup
        simp only [List.flatten_cons, List.map_append, List.map_cons, List.map_nil, List.cons_append, List.nil_append] at hnd
        rw [List.nodup_cons] at hnd
        intro e
        simp only [Value.ownBlock, Option.some.injEq] at e
        exact hnd.1 (by rw [← e]; simp)
  have hB : Lib.IsBuilder 128 5 w0.heap.size b (Lib.byteCells bs) w := by
    rcases hp with rfl | rfl
    · exact .inl ⟨hbn, _, hbk, hown.1, hown.2⟩
    · exact .inr ⟨hbn, _, hbk, hown.1, hown.2⟩
  refine (Tryz.Builder_String_any w0.heap.size b bs w hB hw.below.size).mono ?_
  rintro e w' ⟨rfl, hbel⟩
  exact ⟨_, [], rfl, ⟨hw.below.trans hbel, hw.old, fun x hx => by simp at hx, fun x hx => by simp at hx, by simp⟩, rfl, rfl⟩
structure NV where
  kind : Int
  lit : Int
  a : Option Addr
  c : Nat
  l : List Int
instance : Inhabited NV := ⟨⟨0, 0, none, 0, []⟩⟩
def encNV (v : NV) : List Value := [.int .i64 v.kind, .int .i64 v.lit, .slice v.a v.l.length v.c]
def pnV (v : NV) : PN := (v.kind, v.lit, v.l)
def keyS (x : PN) : List UInt8 := numK x.1 ++ numK x.2.1 ++ x.2.2.flatMap numK
def i64B (k : Int) : Prop := -9223372036854775808 ≤ k ∧ k ≤ 9223372036854775807
theorem numS_len {k : Int} (h : i64B k) : (numK k).length ≤ 22 := by
  have := Lib.itoa_length_le k h.1 h.2
  unfold numK
  rw [List.length_append, List.length_singleton]
  omega
theorem nums_len : ∀ (l : List Int), (∀ k, k ∈ l → i64B k) → (l.flatMap numK).length ≤ 22 * l.length
  | [], _ => by simp
  | k :: l, h => by
    have h1 := numS_len (h k List.mem_cons_self)
    have h2 := nums_len l fun x hx => h x (List.mem_cons_of_mem _ hx)
    rw [List.flatMap_cons, List.length_append, List.length_cons]
    omega
set_option maxHeartbeats 16000000 in
theorem key_any (v : NV) (h : Heap) (hs : SlT encI 1 v.a v.l h) (hl : v.l.length ≤ 1000000) (h1 : i64B v.kind) (h2 : i64B v.lit) (h3 : ∀ k, k ∈ v.l → i64B k) (w : World) (hT : Tab w) (hw : Holds h w) :
    Calls Tryz.prog 119 #[.agg ⟨encNV v⟩] w fun e w' => e = .returned (.string (S (keyS (pnV v)))) ∧ Below w.heap.size w w' := by
  have q0 : ∀ L, RdH h L h := fun L => RdH.old fun _ hh => hh
  have l1 := numS_len h1
  have l2 := numS_len h2
  refine calls_of_JC (R := h) Tryz.func119 Tryz.ntmps119 rfl rfl (hw) ?_
  repeat' first
    | (refine J.isJ ?_; first | (first | (refine J.o 14 ?_; refine J.mf hΓ ?_) | (refine J.o 9 ?_; refine J.callvx eKey1 rfl rfl rfl (fun w hw => key1_any v.kind h1 hT (.inl rfl) (OwT.nil (fun _ => rfl)) (Nat.zero_le _) (Nat.zero_le _) (hw.nilF.perm br1)) ?_; rintro _ _ ⟨a1, c1, b1, rfl, rfl, o1, hc1⟩) | (refine J.o 9 ?_; refine J.callvx eKey1 rfl rfl rfl (fun w hw => key1_any v.lit h2 hT (.inr rfl) o1 hc1 (by rw [List.length_append, List.length_nil]; omega) hw) ?_; rintro _ _ ⟨a2, c2, b2, rfl, rfl, o2, hc2⟩)) | (first | (refine J.o 0 ?_; refine J.ev' hΓ ?_) | refine J.nil ?_ | (refine J.o 4 ?_; first | refine J.lT default hΓ ?_ | refine J.e1 hΓ ?_ | refine J.e2 hΓ ?_) | (refine J.o 3 ?_; first | refine J.iJ hΓ ?_ | refine J.ev' hΓ ?_) | (refine J.o 1 ?_; first | refine J.ad ?_) | (refine J.o 6 ?_; refine J.bx (fun _ => ?_)) | (refine J.o 7 ?_; refine J.al hΓ (fun _ => ?_)) | (refine J.o 10 ?_; first | refine J.ev' hΓ ?_) | (refine J.o 11 ?_; first | refine J.ev' hΓ ?_) | (refine J.o 14 ?_; refine J.mf hΓ ?_)))
    | (first | refine JC.seq ?_ | refine JC.region ?_ | refine JC.block ?_ | refine JC.ret ?_ | refine JC.exit ?_ | refine JC.skip ?_ | refine thenK.nn ?_ | refine thenK.x ?_ | refine blockK.nn ?_ | refine blockK.hit rfl ?_ | (refine JC.cond rfl (fun hc => ?_) (fun hc => ?_) <;> ((try simp only [tcS] at hc) <;> first | (first | (exact absurd rfl hc) | (exfalso; omega) | (exact (tF hc (by assumption)).elim) | (exact (fT hc (by assumption)).elim)) | skip)) | refine loopK.x ?_)
    | (fail)
    | fail
  all_goals first | (exfalso; omega) | skip
  rename_i n1 n3
  rw [List.nil_append] at o2 ⊢
  refine JC.gen [(1, .pointer (some ⟨n1, 0, none⟩)), (3, .pointer (some ⟨n3, 0, none⟩)), (4, .func (.func 138) ⟨[]⟩ ⟨[.pointer (some ⟨n3, 0, none⟩)]⟩), (17, .slice v.a v.l.length v.c), (18, .int .i64 v.l.length), (19, .int .i64 0)] ⟨rfl, rfl, rfl, rfl, rfl, rfl, trivial⟩ (fun F => ?_)
  refine JC.loopG (fun i => i == 2 || i == 6 || Nat.ble 19 i) (fun m g L => ∃ (k : Nat) (ab : Option Addr) (cb : Nat) (hb : Heap), g 19 = .int .i64 (k : Int) ∧ k + m = v.l.length ∧ OwT encB 1 5 ab cb (numK v.kind ++ numK v.lit ++ (v.l.take k).flatMap numK) hb ∧ cb ≤ maxLen ∧ L = [[(n3, bldO (some ⟨n3, 0, none⟩) (.slice ab (numK v.kind ++ numK v.lit ++ (v.l.take k).flatMap numK).length cb))], hb, [(n1, .cells ⟨encNV v⟩ 82 (0, 0))]]) v.l.length
    ⟨0, a2, c2, b2, rfl, by omega, by rw [List.take_zero, List.flatMap_nil, List.append_nil]; exact o2, hc2, by rw [List.take_zero, List.flatMap_nil, List.append_nil]⟩ ?_
  rintro m g L ⟨k, ab, cb, hb, e19, hkm, ob, hcb, rfl⟩
  refine JC.pin 19 e19 ?_
  clear e19
  rcases Nat.lt_or_ge k v.l.length with hk | hk
  case inr =>
    rw [List.take_of_length_le hk] at ob ⊢
    repeat' first
      | (refine J.isJ ?_; first | ((refine J.fc 76 ?_; refine J.callx eBStr rfl rfl (fun w hw => bStr_any (.inr rfl) ob hcb hw) ?_; rintro _ _ ⟨rfl, rfl⟩)) | (first | (refine J.o 0 ?_; refine J.ev' hΓ ?_) | refine J.nil ?_ | (refine J.o 4 ?_; first | refine J.lT default hΓ ?_ | refine J.e1 hΓ ?_ | refine J.e2 hΓ ?_) | (refine J.o 3 ?_; first | refine J.iJ hΓ ?_ | refine J.ev' hΓ ?_) | (refine J.o 1 ?_; first | refine J.ad ?_) | (refine J.o 6 ?_; refine J.bx (fun _ => ?_)) | (refine J.o 7 ?_; refine J.al hΓ (fun _ => ?_)) | (refine J.o 10 ?_; first | refine J.ev' hΓ ?_) | (refine J.o 11 ?_; first | refine J.ev' hΓ ?_) | (refine J.o 14 ?_; refine J.mf hΓ ?_)))
      | (first | refine JC.seq ?_ | refine JC.region ?_ | refine JC.block ?_ | refine JC.ret ?_ | refine JC.exit ?_ | refine JC.skip ?_ | refine thenK.nn ?_ | refine thenK.x ?_ | refine blockK.nn ?_ | refine blockK.hit rfl ?_ | (refine JC.cond rfl (fun hc => ?_) (fun hc => ?_) <;> ((try simp only [tcS] at hc) <;> first | (first | (exact absurd rfl hc) | (exfalso; omega) | (exact (tF hc (by assumption)).elim) | (exact (fT hc (by assumption)).elim)) | skip)) | refine loopK.x ?_)
      | (fail)
      | fail
    all_goals first | (exfalso; omega) | exact ret1f rfl rfl rfl (fun w1 hw => ⟨rfl, hw.below⟩)
  have hkk := h3 _ (mem_g v.l k hk)
  have hlen := nums_len (v.l.take k) fun x hx => h3 x (List.mem_of_mem_take hx)
  rw [List.length_take] at hlen
  have hstep : numK v.kind ++ numK v.lit ++ (v.l.take (k + 1)).flatMap numK = numK v.kind ++ numK v.lit ++ (v.l.take k).flatMap numK ++ numK (v.l.getD k default) := by
    rw [take_g v.l k hk, List.flatMap_append, List.flatMap_cons, List.flatMap_nil, List.append_nil]
    simp only [List.append_assoc]
  have hsl := hs
  repeat' first
    | (refine J.isJ ?_; first | (first | (refine J.o 4 ?_; refine J.lT default hΓ ?_ (hs := hsl) (hr := q0 _)) | (refine J.o 9 ?_; refine J.callvx eKey1 rfl rfl rfl (fun w hw => key1_any (v.l.getD k default) hkk hT (.inr rfl) ob hcb (by rw [List.length_append, List.length_append]; omega) hw) ?_; rintro _ _ ⟨a4, c4, b4, rfl, rfl, o4, hc4⟩)) | (first | (refine J.o 0 ?_; refine J.ev' hΓ ?_) | refine J.nil ?_ | (refine J.o 4 ?_; first | refine J.lT default hΓ ?_ | refine J.e1 hΓ ?_ | refine J.e2 hΓ ?_) | (refine J.o 3 ?_; first | refine J.iJ hΓ ?_ | refine J.ev' hΓ ?_) | (refine J.o 1 ?_; first | refine J.ad ?_) | (refine J.o 6 ?_; refine J.bx (fun _ => ?_)) | (refine J.o 7 ?_; refine J.al hΓ (fun _ => ?_)) | (refine J.o 10 ?_; first | refine J.ev' hΓ ?_) | (refine J.o 11 ?_; first | refine J.ev' hΓ ?_) | (refine J.o 14 ?_; refine J.mf hΓ ?_)))
    | (first | refine JC.seq ?_ | refine JC.region ?_ | refine JC.block ?_ | refine JC.ret ?_ | refine JC.exit ?_ | refine JC.skip ?_ | refine thenK.nn ?_ | refine thenK.x ?_ | refine blockK.nn ?_ | refine blockK.hit rfl ?_ | (refine JC.cond rfl (fun hc => ?_) (fun hc => ?_) <;> ((try simp only [tcS] at hc) <;> first | (first | (exact absurd rfl hc) | (exfalso; omega) | (exact (tF hc (by assumption)).elim) | (exact (fT hc (by assumption)).elim)) | skip)) | refine loopK.x ?_)
    | (fail)
    | fail
  all_goals first | (exfalso; omega) | skip
  rw [← hstep] at o4 ⊢
  refine loopK.nn (m - 1) (by omega) (by repeat (first | refine Ag.upd rfl ?_ | exact Ag.hv)) ⟨_, ⟨k + 1, a4, c4, b4, ?_, by omega, o4, hc4, rfl⟩, fun w hw => hw⟩
  show Value.int .i64 _ = _; congr 1
end Go.Proofs.YtdiciemlbhkilaaGreatDoor
namespace Go.Proofs.YtdiciemlbhkilaaGreatDoor
open Go Go.Cx Go.RowKit
set_option linter.unusedVariables false
set_option linter.unusedSimpArgs false
set_option maxHeartbeats 4000000
attribute [local irreducible] J JC thenK blockK loopK roundK drawK retK QW Qt pel List.set Calls
open Go.Lib
theorem u8_48 {i : Nat} (h : i < 10) : (UInt8.ofNat (48 + i)).toNat = 48 + i := by
  rw [UInt8.toNat_ofNat', Nat.mod_eq_of_lt (by omega)]
theorem dec_byte : ∀ (u : Nat) (b : UInt8), b ∈ decDigits u → 48 ≤ b.toNat := fun u => by
  induction u using Nat.strongRecOn with
  | _ u ih =>
    intro b hb
    rw [decDigits] at hb
    by_cases h : u < 10
    · rw [dif_pos h, List.mem_singleton] at hb; rw [hb, u8_48 h]; omega
    · rw [dif_neg h, List.mem_append] at hb
      rcases hb with hb | hb
      · exact ih _ (by omega) b hb
      · rw [List.mem_singleton] at hb; rw [hb, u8_48 (by omega)]; omega
def valK (l : List UInt8) : Nat := l.foldl (fun a b => 10 * a + (b.toNat - 48)) 0
theorem val_dec : ∀ u : Nat, valK (decDigits u) = u := fun u => by
  induction u using Nat.strongRecOn with
  | _ u ih =>
    rw [decDigits]
    by_cases h : u < 10
    · rw [dif_pos h]; unfold valK; rw [List.foldl_cons, List.foldl_nil, u8_48 h]; omega
    · rw [dif_neg h]
      have := ih (u / 10) (by omega)
      unfold valK at this ⊢
      rw [List.foldl_append, List.foldl_cons, List.foldl_nil, this, u8_48 (by omega)]; omega
theorem itoa_byte (n : Int) (b : UInt8) (h : b ∈ itoa n) : b.toNat ≠ 32 := by
  unfold itoa at h
  split at h
  · rcases List.mem_cons.1 h with rfl | h
    · decide
    · have := dec_byte _ _ h; omega
  · have := dec_byte _ _ h; omega
theorem itoa_inj {a b : Int} (h : itoa a = itoa b) : a = b := by
  have hd : ∀ u, ∀ l, decDigits u ≠ 45 :: l := fun u l e => by
    have := dec_byte u 45 (by rw [e]; exact List.mem_cons_self)
    exact absurd this (by decide)
  unfold itoa at h
  by_cases ha : a < 0 <;> by_cases hb : b < 0
  · rw [if_pos ha, if_pos hb] at h
    have := congrArg valK (List.cons.inj h).2
    rw [val_dec, val_dec] at this; omega
  · rw [if_pos ha, if_neg hb] at h; exact absurd h.symm (hd _ _)
  · rw [if_neg ha, if_pos hb] at h; exact absurd h (hd _ _)
  · rw [if_neg ha, if_neg hb] at h
    have := congrArg valK h
    rw [val_dec, val_dec] at this; omega
theorem word_inj : ∀ (a b r s : List UInt8), (∀ x, x ∈ a → x.toNat ≠ 32) → (∀ x, x ∈ b → x.toNat ≠ 32) → a ++ 32 :: r = b ++ 32 :: s → a = b ∧ r = s
  | [], [], r, s, _, _, h => ⟨rfl, (List.cons.inj h).2⟩
  | [], y :: b, r, s, _, h2, h => absurd (congrArg UInt8.toNat (List.cons.inj h).1).symm (h2 y List.mem_cons_self)
  | x :: a, [], r, s, h1, _, h => absurd (congrArg UInt8.toNat (List.cons.inj h).1) (h1 x List.mem_cons_self)
  | x :: a, y :: b, r, s, h1, h2, h => by
    have h3 := List.cons.inj h
    have := word_inj a b r s (fun z hz => h1 z (List.mem_cons_of_mem _ hz)) (fun z hz => h2 z (List.mem_cons_of_mem _ hz)) h3.2
    exact ⟨by rw [h3.1, this.1], this.2⟩
theorem numS_inj {a b : Int} {r s : List UInt8} (h : numK a ++ r = numK b ++ s) : a = b ∧ r = s := by
  unfold numK at h
  rw [List.append_assoc, List.append_assoc] at h
  have := word_inj _ _ r s (itoa_byte a) (itoa_byte b) h
  exact ⟨itoa_inj this.1, this.2⟩
theorem nums_inj : ∀ (a b : List Int), a.flatMap numK = b.flatMap numK → a = b
  | [], [], _ => rfl
  | [], y :: b, h => by
    rw [List.flatMap_nil, List.flatMap_cons] at h
    unfold numK at h
    simp at h
  | x :: a, [], h => by
    rw [List.flatMap_nil, List.flatMap_cons] at h
    unfold numK at h
    simp at h
  | x :: a, y :: b, h => by
    rw [List.flatMap_cons, List.flatMap_cons] at h
    have h1 := numS_inj h
    rw [h1.1, nums_inj a b h1.2]
theorem keyS_inj {x y : PN} (h : keyS x = keyS y) : x = y := by
  obtain ⟨k, l, i⟩ := x
  obtain ⟨k', l', i'⟩ := y
  unfold keyS at h
  simp only [List.append_assoc] at h
  have h1 := numS_inj h
  have h2 := numS_inj h1.2
  rw [h1.1, h2.1, nums_inj _ _ h2.2]
def ekN (x : PN) : Value := .string (S (keyS x))
def evN (i : Nat) : Value := .int .i64 (i : Int)
theorem ekN_inj (x y : PN) (h : ekN x = ekN y) : x = y := by
  unfold ekN S at h
  simp only [Value.string.injEq, ByteArray.mk.injEq, Array.mk.injEq] at h
  exact keyS_inj h
theorem sk : Go.Maps.Keyed Tryz.prog 9 := Go.Maps.string_keyed Tryz.underlying9
theorem ekN_key (x : PN) (h1 : i64B x.1) (h2 : i64B x.2.1) (h3 : ∀ k, k ∈ x.2.2 → i64B k) (hl : x.2.2.length ≤ 1000000) : ∃ l, keyOf Tryz.prog 9 (ekN x) = some l := by
  have l1 := numS_len h1
  have l2 := numS_len h2
  have l3 := nums_len x.2.2 h3
  have : (S (keyS x)).size ≤ maxLen := by
    have hm : 30000000 ≤ maxLen := by decide +kernel
    refine Nat.le_trans ?_ hm
    show (keyS x).length ≤ 30000000
    unfold keyS
    rw [List.length_append, List.length_append]
    omega
  exact ⟨_, Go.WideMaps.keyOf_string_mk Tryz.underlying9 this⟩
def keysM : List PN → Nat → List (PN × Nat)
  | [], _ => []
  | x :: B, k => (x, k) :: keysM B (k + 1)
theorem keysM_keys : ∀ (B : List PN) (k : Nat), (keysM B k).map (·.1) = B
  | [], _ => rfl
  | x :: B, k => by show x :: _ = _; rw [keysM_keys B (k + 1)]
theorem keysM_snoc : ∀ (B : List PN) (x : PN) (k : Nat), keysM (B ++ [x]) k = keysM B k ++ [(x, k + B.length)]
  | [], x, k => rfl
  | y :: B, x, k => by
    show (y, k) :: keysM (B ++ [x]) (k + 1) = _
    rw [keysM_snoc B x (k + 1), List.length_cons, show k + 1 + B.length = k + (B.length + 1) by omega]; rfl
theorem mget_keys (x : PN) : ∀ (B : List PN) (k : Nat), mget (keysM B k) x = if x ∈ B then some (idxP B x k).toNat else none
  | [], k => rfl
  | y :: B, k => by
    have ih := mget_keys x B (k + 1)
    unfold mget at ih ⊢
    show Option.map _ (List.find? _ ((y, k) :: keysM B (k + 1))) = _
    rw [List.find?_cons]
    by_cases h : y = x
    · subst h
      rw [if_pos List.mem_cons_self]
      simp [idxP]
    · rw [show decide ((y, k).1 = x) = false from decide_eq_false h]
      show Option.map _ (List.find? _ (keysM B (k + 1))) = _
      rw [ih]
      by_cases h2 : x ∈ B
      · rw [if_pos h2, if_pos (List.mem_cons_of_mem _ h2)]
        rw [idxP, if_neg h]; rfl
      · rw [if_neg h2, if_neg (fun hm => (List.mem_cons.1 hm).elim (fun e => h e.symm) h2)]
theorem mput_keys2 (B : List PN) (x : PN) (h : x ∉ B) : mput (keysM B 0) x B.length = keysM (B ++ [x]) 0 := by
  unfold mput
  rw [keysM_keys, if_neg (by simpa using h), keysM_snoc, Nat.zero_add]
def kindsN (lc lw : List Nat) : Nat → List Oper → List Nat
  | _, [] => []
  | i, o :: l => (match o.op with | .nilCheck _ => 0 | op => kd lc lw i op) :: kindsN lc lw (i + 1) l
theorem JC.drawN {P : Program} {n : Nat} {w0 : World} {R : Heap} {K : Exit → Fr → List Heap → Prop} {f : Fr} {L : List Heap} {id : Nat} {l : List Oper} (lc lw : List Nat) (hm : P.follows .mixedOrders = true) (hB : drawB (kindsN lc lw 0 l) l.toArray = true)
    (h : J P n w0 R l (drawK K) (zipK (kindsN lc lw 0 l) l) f L) : JC P n w0 R (.region id l.toArray true) K f L := JC.draw _ hm hB h
structure BS (vs : List NV) (a : Option Addr) (cap : Nat) (bm : Nat) (ho hi hm : Heap) : Prop where
  ow : OwT encNV 3 82 a cap vs ho
  ins : ∀ v, v ∈ vs → SlT encI 1 v.a v.l hi
  mp : MapT Tryz.prog 9 ekN evN (keysM (vs.map pnV) 0) bm hm
def bO (n : Int) (a : Option Addr) (len cap bm : Nat) : Obj := .cells ⟨[.int .i64 n, .slice a len cap, .map (some bm)]⟩ 138 (0, 0)
def bL (n : Int) (b : Nat) (a : Option Addr) (vs : List NV) (cap bm : Nat) (ho hi hm : Heap) : List Heap := [[(b, bO n a vs.length cap bm)], ho, hi, hm]
structure OkV (v : NV) : Prop where
  k : 0 ≤ v.kind ∧ v.kind ≤ 4
  t : -128 ≤ v.lit ∧ v.lit ≤ 128
  n : v.l.length ≤ 1000000
  i : ∀ k, k ∈ v.l → 0 ≤ k ∧ k ≤ 1000000
theorem ePut : Entr Tryz.prog 82 := Entr.of Tryz.func82 rfl rfl
theorem idx_nat (B : List PN) (x : PN) (h : x ∈ B) : 0 ≤ idxP B x 0 ∧ idxP B x 0 < B.length := by
  have := idxP_bd x B 0 h; omega
theorem put_any (v : NV) (ov : OkV v) {w0 w : World} {R : Heap} {L : List Heap} {n : Int} {b cap bm : Nat} {a : Option Addr} {vs : List NV} {ho hi hm hv : Heap} (hT : Tab w0) (bs : BS vs a cap bm ho hi hm) (hs : SlT encI 1 v.a v.l hv) (hvl : vs.length < 65536) (hw : H w0 R (hv :: (bL n b a vs cap bm ho hi hm ++ L)) w) :
    Calls Tryz.prog 82 #[.pointer (some ⟨b, 0, none⟩), .agg ⟨encNV v⟩] w fun e w' => ∃ v' L', e = .returned v' ∧ H w0 R L' w' ∧ ∃ a' cap' ho' hi' hm' vs', v' = .tuple #[.int .i64 (putP (vs.map pnV) (pnV v)).1, .int .i64 0] ∧ L' = bL n b a' vs' cap' bm ho' hi' hm' ++ L ∧ BS vs' a' cap' bm ho' hi' hm' ∧ vs'.map pnV = (putP (vs.map pnV) (pnV v)).2 ∧ (vs' = vs ∨ vs' = vs ++ [v]) := by
  obtain ⟨ow, ins, mp⟩ := bs
  obtain ⟨⟨k0, k1⟩, ⟨t0, t1⟩, on, oi⟩ := ov
  have h1 : i64B v.kind := ⟨by omega, by omega⟩
  have h2 : i64B v.lit := ⟨by omega, by omega⟩
  have h3 : ∀ k, k ∈ v.l → i64B k := fun k hk => by have := oi k hk; exact ⟨by omega, by omega⟩
  have hkey := ekN_key (pnV v) h1 h2 h3 on
  unfold bL at hw ⊢
  simp only [List.cons_append, List.nil_append] at hw
  by_cases hx : pnV v ∈ vs.map pnV
  · have hget := mget_keys (pnV v) (vs.map pnV) 0
    rw [if_pos hx] at hget
    have hix := idx_nat _ _ hx
    have hp : putP (vs.map pnV) (pnV v) = (idxP (vs.map pnV) (pnV v) 0, vs.map pnV) := if_pos hx
    refine calls_in Tryz.func82 Tryz.ntmps82 rfl rfl (hw) ?_
    unfold bO
    repeat' first
      | (refine J.isJ ?_; first | (first | (refine J.fc 119 ?_; refine J.call0 eKey rfl rfl (fun w hw => key_any v hv hs on h1 h2 h3 w (hT.below hw.below) (hw.rdH RdH.hd.tl)) ?_) | (refine J.lk sk ekN_inj mp (by first | exact RdH.hd | exact RdH.hd.tl | exact RdH.hd.tl.tl | exact RdH.hd.tl.tl.tl | exact RdH.hd.tl.tl.tl.tl | exact RdH.hd.tl.tl.tl.tl.tl | exact RdH.hd.tl.tl.tl.tl.tl.tl | exact RdH.hd.tl.tl.tl.tl.tl.tl.tl | exact RdH.old (fun _ hh => hh) | assumption) hkey hΓ ?_; rw [hget])) | (first | (refine J.o 0 ?_; refine J.ev' hΓ ?_) | refine J.nil ?_ | (refine J.o 4 ?_; first | refine J.e0 hΓ ?_ | refine J.e1 hΓ ?_ | refine J.e2 hΓ ?_) | (refine J.o 3 ?_; first | refine J.ev' hΓ ?_) | (refine J.o 1 ?_; first | refine J.sb ?_) | (refine J.o 5 ?_; first | refine J.t0 hΓ ?_) | (refine J.o 6 ?_; refine J.bx (fun _ => ?_)) | (refine J.o 9 ?_; refine J.bl hΓ (fun _ => ?_)) | (refine J.o 10 ?_; refine J.ev' hΓ ?_) | (refine J.o 11 ?_; refine J.ev' hΓ ?_)))
      | (first | refine JC.seq ?_ | refine JC.region ?_ | refine JC.ret ?_ | refine JC.skip ?_ | refine thenK.nn ?_ | refine thenK.r ?_ | refine JC.condT rfl ?_ | refine JC.condF rfl ?_ | (refine JC.cond rfl (fun hc => ?_) (fun hc => ?_) <;> ((try simp only [tcS] at hc) <;> first | (first | (exact absurd rfl hc) | (exfalso; omega) | (exact (tF hc (by assumption)).elim) | (exact (fT hc (by assumption)).elim)) | skip)) | refine drawK.nn ?_)
      | (fail)
      | fail
    all_goals first | (exfalso; omega) | skip
    refine ret2f rfl rfl rfl rfl rfl (fun w1 hw => ⟨_, _, rfl, H.sel (l := [_, _, _, _, _, _]) (M := L) hw [2, 3, 4, 5], ?_⟩)
    exact ⟨a, cap, ho, hi, hm, vs, by rw [hp]; congr 3; exact congrArg (Value.int .i64) (Int.toNat_of_nonneg hix.1), rfl, ⟨ow, ins, mp⟩, by rw [hp], .inl rfl⟩
  · have hget := mget_keys (pnV v) (vs.map pnV) 0
    rw [if_neg hx] at hget
    have hp : putP (vs.map pnV) (pnV v) = (((vs.map pnV).length : Int), vs.map pnV ++ [pnV v]) := if_neg hx
    have hms := mput_keys2 (vs.map pnV) (pnV v) hx
    rw [List.length_map] at hms
    have vq : Value.int .i64 (((vs.length + 1 : Nat) : Int) - 1) = evN vs.length := congrArg (Value.int .i64) (by omega)
    have hl2 : (vs ++ [v]).length = vs.length + 1 := by rw [List.length_append]; rfl
    refine calls_in Tryz.func82 Tryz.ntmps82 rfl rfl (hw) ?_
    unfold bO
    repeat' first
      | (refine J.isJ ?_; first | (first | (refine J.fc 119 ?_; refine J.call0 eKey rfl rfl (fun w hw => key_any v hv hs on h1 h2 h3 w (hT.below hw.below) (hw.rdH RdH.hd.tl)) ?_) | (refine J.o 9 ?_; refine J.lk sk ekN_inj mp (by first | exact RdH.hd | exact RdH.hd.tl | exact RdH.hd.tl.tl | exact RdH.hd.tl.tl.tl | exact RdH.hd.tl.tl.tl.tl | exact RdH.hd.tl.tl.tl.tl.tl | exact RdH.hd.tl.tl.tl.tl.tl.tl | exact RdH.hd.tl.tl.tl.tl.tl.tl.tl | exact RdH.old (fun _ hh => hh) | assumption) hkey hΓ ?_; rw [hget]) | ((refine J.o 9 ?_; first | (first | (refine J.ap1 (enc := encNV) [v] hΓ (fun a2 c2 h2 o2 => ?_)) | (refine J.perm (br1.cons _) ?_; refine J.ap1 (enc := encNV) [v] hΓ (fun a2 c2 h2 o2 => ?_)) | (refine J.perm (br2.cons _) ?_; refine J.ap1 (enc := encNV) [v] hΓ (fun a2 c2 h2 o2 => ?_)) | (refine J.perm (br3.cons _) ?_; refine J.ap1 (enc := encNV) [v] hΓ (fun a2 c2 h2 o2 => ?_)) | (refine J.perm (br4.cons _) ?_; refine J.ap1 (enc := encNV) [v] hΓ (fun a2 c2 h2 o2 => ?_)) | (refine J.perm (br5.cons _) ?_; refine J.ap1 (enc := encNV) [v] hΓ (fun a2 c2 h2 o2 => ?_))) | (refine J.perm br1 ?_; first | (refine J.ap1 (enc := encNV) [v] hΓ (fun a2 c2 h2 o2 => ?_)) | (refine J.perm (br1.cons _) ?_; refine J.ap1 (enc := encNV) [v] hΓ (fun a2 c2 h2 o2 => ?_)) | (refine J.perm (br2.cons _) ?_; refine J.ap1 (enc := encNV) [v] hΓ (fun a2 c2 h2 o2 => ?_)) | (refine J.perm (br3.cons _) ?_; refine J.ap1 (enc := encNV) [v] hΓ (fun a2 c2 h2 o2 => ?_)) | (refine J.perm (br4.cons _) ?_; refine J.ap1 (enc := encNV) [v] hΓ (fun a2 c2 h2 o2 => ?_)) | (refine J.perm (br5.cons _) ?_; refine J.ap1 (enc := encNV) [v] hΓ (fun a2 c2 h2 o2 => ?_))) | (refine J.perm br2 ?_; first | (refine J.ap1 (enc := encNV) [v] hΓ (fun a2 c2 h2 o2 => ?_)) | (refine J.perm (br1.cons _) ?_; refine J.ap1 (enc := encNV) [v] hΓ (fun a2 c2 h2 o2 => ?_)) | (refine J.perm (br2.cons _) ?_; refine J.ap1 (enc := encNV) [v] hΓ (fun a2 c2 h2 o2 => ?_)) | (refine J.perm (br3.cons _) ?_; refine J.ap1 (enc := encNV) [v] hΓ (fun a2 c2 h2 o2 => ?_)) | (refine J.perm (br4.cons _) ?_; refine J.ap1 (enc := encNV) [v] hΓ (fun a2 c2 h2 o2 => ?_)) | (refine J.perm (br5.cons _) ?_; refine J.ap1 (enc := encNV) [v] hΓ (fun a2 c2 h2 o2 => ?_)))); rw [hl2]) | (refine J.o 5 ?_; first | (refine J.perm br3 ?_; refine J.t0 hΓ ?_) | (refine J.perm br4 ?_; refine J.t0 hΓ ?_) | (refine J.perm br5 ?_; refine J.t0 hΓ ?_) | (refine J.perm br6 ?_; refine J.t0 hΓ ?_) | (refine J.perm br7 ?_; refine J.t0 hΓ ?_)) | (refine J.o 9 ?_; refine J.perm br5 ?_; refine J.mup (ev := evN) vs.length sk ekN_inj mp hkey hΓ (fun h3 mt3 => ?_) (hv := vq))) | (first | (refine J.o 0 ?_; refine J.ev' hΓ ?_) | refine J.nil ?_ | (refine J.o 4 ?_; first | refine J.e0 hΓ ?_ | refine J.e1 hΓ ?_ | refine J.e2 hΓ ?_) | (refine J.o 3 ?_; first | refine J.ev' hΓ ?_) | (refine J.o 1 ?_; first | refine J.sb ?_) | (refine J.o 5 ?_; first | refine J.t0 hΓ ?_) | (refine J.o 6 ?_; refine J.bx (fun _ => ?_)) | (refine J.o 9 ?_; refine J.bl hΓ (fun _ => ?_)) | (refine J.o 10 ?_; refine J.ev' hΓ ?_) | (refine J.o 11 ?_; refine J.ev' hΓ ?_)))
      | (first | refine JC.seq ?_ | refine JC.region ?_ | refine JC.ret ?_ | refine JC.skip ?_ | refine thenK.nn ?_ | refine thenK.r ?_ | refine JC.condT rfl ?_ | refine JC.condF rfl ?_ | (refine JC.cond rfl (fun hc => ?_) (fun hc => ?_) <;> ((try simp only [tcS] at hc) <;> first | (first | (exact absurd rfl hc) | (exfalso; omega) | (exact (tF hc (by assumption)).elim) | (exact (fT hc (by assumption)).elim)) | skip)) | refine drawK.nn ?_)
      | ((refine JC.drawN [] [] (by kernel_rfl) (by kernel_rfl) ?_))
      | fail
    all_goals first | (exfalso; omega) | skip
    refine ret2f rfl rfl rfl rfl rfl (fun w1 hw => ⟨_, _, rfl, H.sel (l := [_, _, _, _]) (M := L) (H.sel (l := [_, _, _, _, _, _]) (M := L) hw [5, 4, 1, 2, 0]).mg1 [1, 2, 0, 3], ?_⟩)
    rw [hms] at mt3
    refine ⟨a2, c2, h2, hi ++ hv, h3, vs ++ [v], ?_, ?_, ⟨o2, fun x hx => ?_, ?_⟩, ?_, .inr rfl⟩
    · rw [hp, List.length_map]; exact congrArg (fun t => Value.tuple #[t, .int .i64 0]) vq
    · rw [hl2]; rfl
    · rcases List.mem_append.1 hx with hx | hx
      · exact (ins x hx).sub fun y hy => List.mem_append_left _ hy
      · rw [List.mem_singleton.1 hx]; exact hs.sub fun y hy => List.mem_append_right _ hy
    · rw [List.map_append]; exact mt3
    · rw [hp, List.map_append]; rfl
end Go.Proofs.YtdiciemlbhkilaaGreatDoor
