/- encoder.sum: oneF. -/
import Derived.Test.YtinpcimogojefaaEm
namespace Go.Proofs.Ytinpcimogojefaa
open Go Go.Cx Go.RowKit
set_option linter.unusedVariables false
set_option linter.unusedSimpArgs false
set_option maxHeartbeats 4000000
attribute [local irreducible] J JC thenK blockK loopK roundK drawK retK QW Qt pel List.set Calls
open Go.Maps
attribute [local irreducible] JE Br eK0 eK2 eK3 brK
theorem br8 {β : Type} {a b c d e f g h i : β} {L : List β} : (a :: b :: c :: d :: e :: f :: g :: h :: i :: L).Perm (i :: a :: b :: c :: d :: e :: f :: g :: h :: L) := (br7.cons _).trans br1
theorem clF_le {T : List (List Int)} {n : Nat} (l : List Int) (h : T.length ≤ n) : (clF T l).length ≤ n + 1 := by
  unfold clF
  split
  · omega
  · simp; omega
/-- the four clauses of a partial sum -/
def stepP (T : List (List Int)) (v d h low : Int) : List (List Int) := clF (clF (clF (clF T [-v, -d, h]) [v, -d, low]) [-v, d, -h]) [v, d, -low]
theorem stepP_le {T : List (List Int)} {n : Nat} (v d h low : Int) (hT : T.length ≤ n) : (stepP T v d h low).length ≤ n + 4 := clF_le _ (clF_le _ (clF_le _ (clF_le _ hT)))
def rowF (least v c : Int) (nx : Int → Option Int) : List Int → Int → List (List Int) → List (List Int)
  | [], _, T => T
  | p :: row, d, T => rowF least v c nx row (d + 1) (stepP T v d (becF least nx (p + c)) (becF least nx p))
/-- what the next row's partial sums are -/
def nxF : List (List Int) → Int → Int → Option Int
  | [], _ => fun _ => none
  | r :: _, d => plc r d
def sumsF (least : Int) : List Int → List Int → List (List Int) → Int → List (List Int) → List (List Int)
  | c :: cs, l :: ls, row :: rows, d, T => sumsF least cs ls rows (d + row.length) (rowF least l c (nxF rows (d + row.length)) row d T)
  | _, _, _, _, T => T
/-- the clauses of a sum in normal form, whose variables begin at d -/
def oneF (T : List (List Int)) (cs ls : List Int) (least : Int) (rows : List (List Int)) (d : Int) : List (List Int) :=
  if cs.length = 0 then (if 0 < least then T ++ [[]] else T) else sumsF least cs ls rows d (T ++ [[d]])
theorem clF_one (T : List (List Int)) (d : Int) (h : 1 ≤ d ∧ d ≤ 129) : clF T [d] = T ++ [[d]] := by
  have h1 : ¬ (1048576 : Int) = d := by omega
  have h2 : ¬ d = -1048576 := by omega
  simp [clF, keepF, h1, h2]
theorem becF_bd (least : Int) (nx : Int → Option Int) (p : Int) (h : ∀ d, nx p = some d → 0 ≤ d ∧ d ≤ 1000) : -1048576 ≤ becF least nx p ∧ becF least nx p ≤ 1048576 := by
  unfold becF
  cases hn : nx p with
  | some d => have := h d hn; simp only; omega
  | none => simp only; split <;> omega
theorem drop_g {α : Type} [Inhabited α] (l : List α) (k : Nat) (hk : k < l.length) : l.drop k = l.getD k default :: l.drop (k + 1) := by
  rw [List.drop_eq_getElem_cons hk, List.getD_eq_getElem?_getD, List.getElem?_eq_getElem hk]; rfl
theorem take_g {α : Type} [Inhabited α] (l : List α) (k : Nat) (hk : k < l.length) : l.take (k + 1) = l.take k ++ [l.getD k default] := by
  rw [List.take_add_one, List.getD_eq_getElem?_getD, List.getElem?_eq_getElem hk]; rfl
theorem mem_g {α : Type} [Inhabited α] (l : List α) (k : Nat) (hk : k < l.length) : l.getD k default ∈ l := by
  rw [List.getD_eq_getElem?_getD, List.getElem?_eq_getElem hk]
  exact List.getElem_mem hk
theorem totF_take (vs : List (List Int)) (k : Nat) : totF (vs.take k) ≤ totF vs := by
  have := totF_app (vs.take k) (vs.drop k)
  rw [List.take_append_drop] at this
  omega
set_option maxHeartbeats 16000000 in
theorem sum_any (bx : Nat) (N : Int) (T : List (List Int)) (s : SV) (ar : Option Addr) (kr : Nat) (vs : List HV) (d : Int) {w0 w : World} {R : Heap} {L : List Heap} {xb ho hi hsv hrw : Heap} (th : ThH bx N T xb ho hi) (hs : SIn s hsv) (hr : LLR ar vs hrw) (hvl : vs.length = s.cs.length)
    (hrow : ∀ r, r ∈ vs.map (·.l) → asc r ∧ ∀ x, x ∈ r → 0 ≤ x ∧ x ≤ 900000000000) (hlen : s.cs.length = s.ls.length) (hcb : ∀ c, c ∈ s.cs → 0 ≤ c ∧ c ≤ 1000000000) (hlb : ∀ c, c ∈ s.ls → -128 ≤ c ∧ c ≤ 128) (hcl : s.cs.length ≤ 129) (hd : 1 ≤ d ∧ d + totF (vs.map (·.l)) ≤ 129) (hT : T.length ≤ 800000)
    (hw : H w0 R (xb :: ho :: hi :: hsv :: hrw :: L) w) :
    Calls Try.prog 40 #[.pointer (some ⟨bx, 0, none⟩), .agg ⟨encSV s⟩, .slice ar vs.length kr, .int .i64 d] w fun e w' => ∃ v L', e = .returned v ∧ H w0 R L' w' ∧ (v = .tuple #[] ∧ ∃ xb' ho' hi', ThH bx N (oneF T s.cs s.ls s.least (vs.map (·.l)) d) xb' ho' hi' ∧ L' = xb' :: ho' :: hi' :: hsv :: hrw :: L) := by
  obtain ⟨hsc, hsl⟩ := hs
  obtain ⟨hro, hri⟩ := hr
  obtain ⟨ca, cc, cs, la, lc, ls, least⟩ := s
  simp only [encSV] at hsc hsl hvl hlen hcb hlb hcl ⊢
  refine calls_in Try.func40 Try.ntmps40 rfl rfl (hw) ?_
  unfold oneF
  by_cases h0 : cs.length = 0
  · rw [if_pos h0]
    by_cases h1 : 0 < least
    · rw [if_pos h1]
      repeat' first
        | (refine J.isJ ?_; first | (first | (refine J.o 0 ?_; refine J.ev' hΓ ?_) | refine J.nil ?_ | refine J.kd ?_ | (refine J.o 4 ?_; first | refine J.e0 hΓ ?_ | refine J.lT default hΓ ?_ | refine J.e1 hΓ ?_ | refine J.e2 hΓ ?_ | refine J.lR hΓ ?_) | (refine J.o 3 ?_; first | refine J.iA hΓ ?_ | refine J.iJ hΓ ?_ | refine J.fP hΓ ?_ | refine J.iC hΓ ?_ | refine J.ev' hΓ ?_) | (refine J.o 1 ?_; first | refine J.ad ?_ | refine J.sb ?_ | refine J.ng ?_ | refine J.mu ?_) | (refine J.o 5 ?_; first | refine J.t0 hΓ ?_ | refine J.t1 hΓ ?_ | refine J.t2 hΓ ?_) | (refine J.o 6 ?_; refine J.bx (fun _ => ?_)) | (refine J.o 7 ?_; refine J.al hΓ (fun _ => ?_)) | (refine J.o 8 ?_; refine J.bd hΓ ?_) | (refine J.o 9 ?_; refine J.bl hΓ (fun _ => ?_)) | (refine J.o 10 ?_; first | refine J.ls hΓ ?_ | refine J.ev' hΓ ?_) | (refine J.o 11 ?_; refine J.ev' hΓ ?_) | refine J.kn ?_) | (first | (refine J.fc 59 ?_; refine J.perm (br3.symm) (J.callx eClause rfl rfl (fun w hw => clause_nil bx N T (by omega) th hw) ?_); rintro _ _ ⟨rfl, xb2, ho2, hi2, th2, rfl⟩)) | ((fail_if_success refine J.wt ?_); refine J.gc rfl rfl (fun hc => ?_) (fun hc => ?_) <;> ((try simp only [decide_eq_true_eq, decide_eq_false_iff_not, beq_iff_eq, beq_eq_false_iff_ne, bne_iff_ne, bne_eq_false_iff_eq, Bool.not_eq_true', Bool.not_eq_false', Bool.not_eq_true, Bool.not_eq_false] at hc) <;> first | (first | (exact absurd rfl hc) | (exfalso; omega) | (exact absurd (hc.symm.trans (by assumption : _ = false)) (by decide)) | (exact absurd (hc.symm.trans (by assumption : _ = true)) (by decide))) | skip)))
        | (first | refine JC.seq ?_ | refine JC.region ?_ | refine JC.block ?_ | refine JC.ret ?_ | refine JC.exit ?_ | refine JC.skip ?_ | refine thenK.nn ?_ | refine thenK.r ?_ | refine thenK.x ?_ | refine blockK.nn ?_ | refine blockK.r ?_ | refine blockK.hit rfl ?_ | refine blockK.miss rfl ?_ | refine JC.condT rfl ?_ | refine JC.condF rfl ?_ | (refine JC.cond rfl (fun hc => ?_) (fun hc => ?_) <;> ((try simp only [decide_eq_true_eq, decide_eq_false_iff_not, beq_iff_eq, beq_eq_false_iff_ne, bne_iff_ne, bne_eq_false_iff_eq, Bool.not_eq_true', Bool.not_eq_false', Bool.not_eq_true, Bool.not_eq_false] at hc) <;> first | (first | (exact absurd rfl hc) | (exfalso; omega) | (exact absurd (hc.symm.trans (by assumption : _ = false)) (by decide)) | (exact absurd (hc.symm.trans (by assumption : _ = true)) (by decide))) | skip)) | refine drawK.nn ?_ | refine roundK.nn ?_ | refine roundK.r ?_ | refine roundK.x ?_ | refine loopK.r ?_ | refine loopK.x ?_)
        | (fail)
        | fail
      all_goals first | (exfalso; omega) | skip
      all_goals first | refine ret0 rfl (fun w1 hw => ?_) | refine ret0n rfl (fun w1 hw => ?_)
      all_goals exact ⟨_, _, rfl, hw.subl (by repeat (first | exact List.nil_sublist _ | exact List.Sublist.refl _ | refine List.Sublist.cons_cons _ ?_ | refine List.Sublist.cons _ ?_)), rfl, _, _, _, th2, rfl⟩
    · rw [if_neg h1]
      repeat' first
        | (refine J.isJ ?_; (first | (first | (refine J.o 0 ?_; refine J.ev' hΓ ?_) | refine J.nil ?_ | refine J.kd ?_ | (refine J.o 4 ?_; first | refine J.e0 hΓ ?_ | refine J.lT default hΓ ?_ | refine J.e1 hΓ ?_ | refine J.e2 hΓ ?_ | refine J.lR hΓ ?_) | (refine J.o 3 ?_; first | refine J.iA hΓ ?_ | refine J.iJ hΓ ?_ | refine J.fP hΓ ?_ | refine J.iC hΓ ?_ | refine J.ev' hΓ ?_) | (refine J.o 1 ?_; first | refine J.ad ?_ | refine J.sb ?_ | refine J.ng ?_ | refine J.mu ?_) | (refine J.o 5 ?_; first | refine J.t0 hΓ ?_ | refine J.t1 hΓ ?_ | refine J.t2 hΓ ?_) | (refine J.o 6 ?_; refine J.bx (fun _ => ?_)) | (refine J.o 7 ?_; refine J.al hΓ (fun _ => ?_)) | (refine J.o 8 ?_; refine J.bd hΓ ?_) | (refine J.o 9 ?_; refine J.bl hΓ (fun _ => ?_)) | (refine J.o 10 ?_; first | refine J.ls hΓ ?_ | refine J.ev' hΓ ?_) | (refine J.o 11 ?_; refine J.ev' hΓ ?_) | refine J.kn ?_) | ((fail_if_success refine J.wt ?_); refine J.gc rfl rfl (fun hc => ?_) (fun hc => ?_) <;> ((try simp only [decide_eq_true_eq, decide_eq_false_iff_not, beq_iff_eq, beq_eq_false_iff_ne, bne_iff_ne, bne_eq_false_iff_eq, Bool.not_eq_true', Bool.not_eq_false', Bool.not_eq_true, Bool.not_eq_false] at hc) <;> first | (first | (exact absurd rfl hc) | (exfalso; omega) | (exact absurd (hc.symm.trans (by assumption : _ = false)) (by decide)) | (exact absurd (hc.symm.trans (by assumption : _ = true)) (by decide))) | skip))))
        | (first | refine JC.seq ?_ | refine JC.region ?_ | refine JC.block ?_ | refine JC.ret ?_ | refine JC.exit ?_ | refine JC.skip ?_ | refine thenK.nn ?_ | refine thenK.r ?_ | refine thenK.x ?_ | refine blockK.nn ?_ | refine blockK.r ?_ | refine blockK.hit rfl ?_ | refine blockK.miss rfl ?_ | refine JC.condT rfl ?_ | refine JC.condF rfl ?_ | (refine JC.cond rfl (fun hc => ?_) (fun hc => ?_) <;> ((try simp only [decide_eq_true_eq, decide_eq_false_iff_not, beq_iff_eq, beq_eq_false_iff_ne, bne_iff_ne, bne_eq_false_iff_eq, Bool.not_eq_true', Bool.not_eq_false', Bool.not_eq_true, Bool.not_eq_false] at hc) <;> first | (first | (exact absurd rfl hc) | (exfalso; omega) | (exact absurd (hc.symm.trans (by assumption : _ = false)) (by decide)) | (exact absurd (hc.symm.trans (by assumption : _ = true)) (by decide))) | skip)) | (refine JC.drawA [] (by kernel_rfl) (by kernel_rfl) ?_) | refine drawK.nn ?_ | refine roundK.nn ?_ | refine roundK.r ?_ | refine roundK.x ?_ | refine loopK.r ?_ | refine loopK.x ?_)
        | fail
      all_goals first | (exfalso; omega) | skip
      all_goals first | refine ret0 rfl (fun w1 hw => ?_) | refine ret0n rfl (fun w1 hw => ?_)
      all_goals exact ⟨_, _, rfl, hw.subl (by repeat (first | exact List.nil_sublist _ | exact List.Sublist.refl _ | refine List.Sublist.cons_cons _ ?_ | refine List.Sublist.cons _ ?_)), rfl, _, _, _, th, rfl⟩
  rw [if_neg h0]
  have hcl1 := clF_one T d (by omega)
  rw [← hcl1]
  have hv0 : 0 < vs.length := by omega
  have hr0 := hrow (vs.getD 0 default).l (List.mem_map_of_mem (mem_g vs 0 hv0))
  have hri0 := hri _ (mem_g vs 0 hv0)
  have hlv : ∀ k, k < vs.length → (vs.getD k default).l.length ≤ totF (vs.map (·.l)) := fun k hk => by
    have h1 := totF_take (vs.map (·.l)) (k + 1)
    rw [← List.map_take, take_g vs k hk, List.map_append, totF_app, List.map_singleton, totF_one] at h1
    omega
  have hl0 := hlv 0 hv0
  repeat' first
    | (refine J.isJ ?_; first | (first | (refine J.o 0 ?_; refine J.ev' hΓ ?_) | refine J.nil ?_ | refine J.kd ?_ | (refine J.o 4 ?_; first | refine J.e0 hΓ ?_ | refine J.lT default hΓ ?_ | refine J.e1 hΓ ?_ | refine J.e2 hΓ ?_ | refine J.lR hΓ ?_) | (refine J.o 3 ?_; first | refine J.iA hΓ ?_ | refine J.iJ hΓ ?_ | refine J.fP hΓ ?_ | refine J.iC hΓ ?_ | refine J.ev' hΓ ?_) | (refine J.o 1 ?_; first | refine J.ad ?_ | refine J.sb ?_ | refine J.ng ?_ | refine J.mu ?_) | (refine J.o 5 ?_; first | refine J.t0 hΓ ?_ | refine J.t1 hΓ ?_ | refine J.t2 hΓ ?_) | (refine J.o 6 ?_; refine J.bx (fun _ => ?_)) | (refine J.o 7 ?_; refine J.al hΓ (fun _ => ?_)) | (refine J.o 8 ?_; refine J.bd hΓ ?_) | (refine J.o 9 ?_; refine J.bl hΓ (fun _ => ?_)) | (refine J.o 10 ?_; first | refine J.ls hΓ ?_ | refine J.ev' hΓ ?_) | (refine J.o 11 ?_; refine J.ev' hΓ ?_) | refine J.kn ?_) | (first | (refine J.fc 59 ?_; refine J.perm (br3.symm.cons _) (J.callx eClause rfl rfl (fun w hw => clause_any bx _ N T [d] (by simp) (by omega) th hw) ?_); rintro _ _ ⟨rfl, xb2, ho2, hi2, th2, rfl⟩) | (refine J.o 4 ?_; refine J.lT default hΓ ?_ (hr := (by first | exact RdH.hd | exact RdH.hd.tl | exact RdH.hd.tl.tl | exact RdH.hd.tl.tl.tl | exact RdH.hd.tl.tl.tl.tl | exact RdH.hd.tl.tl.tl.tl.tl | exact RdH.hd.tl.tl.tl.tl.tl.tl | exact RdH.hd.tl.tl.tl.tl.tl.tl.tl | exact RdH.old (fun _ hh => hh) | assumption))) | (refine J.fc 60 ?_; refine J.call1 ePlaces rfl rfl (fun w hw => places_any _ _ _ d _ hri0 (by omega) (by omega) hr0.1 (fun x hx => by have := hr0.2 x hx; omega) w (hw.rdH (by first | exact RdH.hd | exact RdH.hd.tl | exact RdH.hd.tl.tl | exact RdH.hd.tl.tl.tl | exact RdH.hd.tl.tl.tl.tl | exact RdH.hd.tl.tl.tl.tl.tl | exact RdH.hd.tl.tl.tl.tl.tl.tl | exact RdH.hd.tl.tl.tl.tl.tl.tl.tl | exact RdH.old (fun _ hh => hh) | assumption))) ?_; rintro _ hm ⟨bm, mm, rfl, mt, hmg⟩)) | ((fail_if_success refine J.wt ?_); refine J.gc rfl rfl (fun hc => ?_) (fun hc => ?_) <;> ((try simp only [decide_eq_true_eq, decide_eq_false_iff_not, beq_iff_eq, beq_eq_false_iff_ne, bne_iff_ne, bne_eq_false_iff_eq, Bool.not_eq_true', Bool.not_eq_false', Bool.not_eq_true, Bool.not_eq_false] at hc) <;> first | (first | (exact absurd rfl hc) | (exfalso; omega) | (exact absurd (hc.symm.trans (by assumption : _ = false)) (by decide)) | (exact absurd (hc.symm.trans (by assumption : _ = true)) (by decide))) | skip)))
    | (first | refine JC.seq ?_ | refine JC.region ?_ | refine JC.block ?_ | refine JC.ret ?_ | refine JC.exit ?_ | refine JC.skip ?_ | refine thenK.nn ?_ | refine thenK.r ?_ | refine thenK.x ?_ | refine blockK.nn ?_ | refine blockK.r ?_ | refine blockK.hit rfl ?_ | refine blockK.miss rfl ?_ | refine JC.condT rfl ?_ | refine JC.condF rfl ?_ | (refine JC.cond rfl (fun hc => ?_) (fun hc => ?_) <;> ((try simp only [decide_eq_true_eq, decide_eq_false_iff_not, beq_iff_eq, beq_eq_false_iff_ne, bne_iff_ne, bne_eq_false_iff_eq, Bool.not_eq_true', Bool.not_eq_false', Bool.not_eq_true, Bool.not_eq_false] at hc) <;> first | (first | (exact absurd rfl hc) | (exfalso; omega) | (exact absurd (hc.symm.trans (by assumption : _ = false)) (by decide)) | (exact absurd (hc.symm.trans (by assumption : _ = true)) (by decide))) | skip)) | refine drawK.nn ?_ | refine roundK.nn ?_ | refine roundK.r ?_ | refine roundK.x ?_ | refine loopK.r ?_ | refine loopK.x ?_)
    | (fail)
    | fail
  all_goals first | (exfalso; omega) | skip
  rename_i bs lx
  refine JC.perm br6.symm ?_
  refine JC.gen [(0, .pointer (some ⟨bx, 0, none⟩)), (2, .slice ar vs.length kr), (3, .int .i64 d), (5, .pointer (some ⟨bs, 0, none⟩)), (8, .map (some bm)), (37, .slice ar vs.length kr), (38, .int .i64 (vs.length : Int)), (39, .int .i64 0)] ⟨rfl, rfl, rfl, rfl, rfl, rfl, rfl, rfl, trivial⟩ (fun F => ?_)
  have hT1 : (clF T [d]).length ≤ 800001 := clF_le _ hT
  clear hcl1 hc lx th hw hT
  have hN0 : NextIn (.map (some bm)) hm (nxF (vs.map (·.l)) d) := by
    refine .inr ⟨bm, mm, rfl, mt, fun x => ?_⟩
    rw [hmg]
    cases vs with
    | nil => simp at hv0
    | cons v vs => rfl
  generalize clF T [d] = T1 at *
  have htot0 : d + ((totF ((vs.map (·.l)).take 0) : Nat) : Int) = d := by simp [totF]
  refine JC.loopG (fun i => i == 3 || (Nat.ble 8 i && Nat.ble i 18) || Nat.ble 39 i) (fun m g L' => ∃ (k : Nat) (Tk : List (List Int)) (v8 : Value) (hm xb ho hi : Heap), g 39 = .int .i64 (k : Int) ∧ g 3 = .int .i64 (d + totF ((vs.map (·.l)).take k)) ∧ g 8 = v8 ∧ k + m = vs.length ∧ ThH bx N Tk xb ho hi ∧ NextIn v8 hm (nxF ((vs.map (·.l)).drop k) (d + totF ((vs.map (·.l)).take k))) ∧ sumsF least (cs.drop k) (ls.drop k) ((vs.map (·.l)).drop k) (d + totF ((vs.map (·.l)).take k)) Tk = sumsF least cs ls (vs.map (·.l)) d T1 ∧ Tk.length ≤ T1.length + 4 * totF ((vs.map (·.l)).take k) ∧
      L' = xb :: ho :: hi :: [(bs, .cells ⟨[.slice ca cs.length cc, .slice la ls.length lc, .int .i64 least]⟩ 24 (0, 0))] :: hsv :: hrw :: hm :: L) vs.length
    ⟨0, T1, .map (some bm), hm, xb2, ho2, hi2, rfl, by rw [htot0]; rfl, rfl, by omega, th2, by rw [htot0]; exact hN0, by rw [htot0]; rfl, by omega, rfl⟩ ?_
  clear th2 hN0 mt hmg hr0 hri0 hl0
  rintro m g L' ⟨k, Tk, v8, hm, xb, ho, hi, e39, e3, e8, hkm, th, hnow, hsf, hTk, rfl⟩
  refine JC.pin 39 e39 (JC.pin 3 e3 (JC.pin 8 e8 ?_))
  clear e39 e3 e8
  have htt := totF_take (vs.map (·.l)) k
  rcases Nat.lt_or_ge k vs.length with hk | hk
  case inr =>
    rw [List.drop_eq_nil_of_le (by omega), sumsF] at hsf
    · subst hsf
      repeat' first
        | (refine J.isJ ?_; (first | (first | (refine J.o 0 ?_; refine J.ev' hΓ ?_) | refine J.nil ?_ | refine J.kd ?_ | (refine J.o 4 ?_; first | refine J.e0 hΓ ?_ | refine J.lT default hΓ ?_ | refine J.e1 hΓ ?_ | refine J.e2 hΓ ?_ | refine J.lR hΓ ?_) | (refine J.o 3 ?_; first | refine J.iA hΓ ?_ | refine J.iJ hΓ ?_ | refine J.fP hΓ ?_ | refine J.iC hΓ ?_ | refine J.ev' hΓ ?_) | (refine J.o 1 ?_; first | refine J.ad ?_ | refine J.sb ?_ | refine J.ng ?_ | refine J.mu ?_) | (refine J.o 5 ?_; first | refine J.t0 hΓ ?_ | refine J.t1 hΓ ?_ | refine J.t2 hΓ ?_) | (refine J.o 6 ?_; refine J.bx (fun _ => ?_)) | (refine J.o 7 ?_; refine J.al hΓ (fun _ => ?_)) | (refine J.o 8 ?_; refine J.bd hΓ ?_) | (refine J.o 9 ?_; refine J.bl hΓ (fun _ => ?_)) | (refine J.o 10 ?_; first | refine J.ls hΓ ?_ | refine J.ev' hΓ ?_) | (refine J.o 11 ?_; refine J.ev' hΓ ?_) | refine J.kn ?_) | ((fail_if_success refine J.wt ?_); refine J.gc rfl rfl (fun hc => ?_) (fun hc => ?_) <;> ((try simp only [decide_eq_true_eq, decide_eq_false_iff_not, beq_iff_eq, beq_eq_false_iff_ne, bne_iff_ne, bne_eq_false_iff_eq, Bool.not_eq_true', Bool.not_eq_false', Bool.not_eq_true, Bool.not_eq_false] at hc) <;> first | (first | (exact absurd rfl hc) | (exfalso; omega) | (exact absurd (hc.symm.trans (by assumption : _ = false)) (by decide)) | (exact absurd (hc.symm.trans (by assumption : _ = true)) (by decide))) | skip))))
        | (first | refine JC.seq ?_ | refine JC.region ?_ | refine JC.block ?_ | refine JC.ret ?_ | refine JC.exit ?_ | refine JC.skip ?_ | refine thenK.nn ?_ | refine thenK.r ?_ | refine thenK.x ?_ | refine blockK.nn ?_ | refine blockK.r ?_ | refine blockK.hit rfl ?_ | refine blockK.miss rfl ?_ | refine JC.condT rfl ?_ | refine JC.condF rfl ?_ | (refine JC.cond rfl (fun hc => ?_) (fun hc => ?_) <;> ((try simp only [decide_eq_true_eq, decide_eq_false_iff_not, beq_iff_eq, beq_eq_false_iff_ne, bne_iff_ne, bne_eq_false_iff_eq, Bool.not_eq_true', Bool.not_eq_false', Bool.not_eq_true, Bool.not_eq_false] at hc) <;> first | (first | (exact absurd rfl hc) | (exfalso; omega) | (exact absurd (hc.symm.trans (by assumption : _ = false)) (by decide)) | (exact absurd (hc.symm.trans (by assumption : _ = true)) (by decide))) | skip)) | (refine JC.drawA [] (by kernel_rfl) (by kernel_rfl) ?_) | refine drawK.nn ?_ | refine roundK.nn ?_ | refine roundK.r ?_ | refine roundK.x ?_ | refine loopK.r ?_ | refine loopK.x ?_)
        | fail
      all_goals first | (exfalso; omega) | skip
      all_goals first | refine ret0 rfl (fun w1 hw => ?_) | refine ret0n rfl (fun w1 hw => ?_)
      all_goals exact ⟨_, _, rfl, hw.subl (by repeat (first | exact List.nil_sublist _ | exact List.Sublist.refl _ | refine List.Sublist.cons_cons _ ?_ | refine List.Sublist.cons _ ?_)), rfl, _, _, _, th, rfl⟩
    · intros; contradiction
  have hkl : (k : Int) ≤ 128 := by omega
  have hlk := hlv k hk
  have hrik := hri _ (mem_g vs k hk)
  have hrk := hrow (vs.getD k default).l (List.mem_map_of_mem (mem_g vs k hk))
  have hdrop : (vs.map (·.l)).drop k = (vs.getD k default).l :: (vs.map (·.l)).drop (k + 1) := by
    rw [← List.map_drop, drop_g vs k hk, List.map_cons, List.map_drop]
  have htake : totF ((vs.map (·.l)).take (k + 1)) = totF ((vs.map (·.l)).take k) + (vs.getD k default).l.length := by
    rw [← List.map_take, take_g vs k hk, List.map_append, totF_app, List.map_take, List.map_singleton, totF_one]
  have htt1 := totF_take (vs.map (·.l)) (k + 1)
  have hck := hcb _ (getD_mem cs k (by omega))
  have hvk := hlb _ (getD_mem ls k (by omega))
  have hnod : (vs.getD k default).l.Nodup := List.Pairwise.imp (fun h => by omega) hrk.1
  have hB : ∀ p, -1048576 ≤ becF least (nxF ((vs.map (·.l)).drop (k + 1)) (d + totF ((vs.map (·.l)).take k) + (vs.getD k default).l.length)) p ∧ becF least (nxF ((vs.map (·.l)).drop (k + 1)) (d + totF ((vs.map (·.l)).take k) + (vs.getD k default).l.length)) p ≤ 1048576 := fun p => becF_bd _ _ _ (fun d' h => by
    rcases Nat.lt_or_ge (k + 1) vs.length with hk1 | hk1
    · have hd2 : (vs.map (·.l)).drop (k + 1) = (vs.getD (k + 1) default).l :: (vs.map (·.l)).drop (k + 1 + 1) := by
        rw [← List.map_drop, drop_g vs (k + 1) hk1, List.map_cons, List.map_drop]
      rw [hd2] at h
      have h3 := plc_bd _ _ _ _ h
      have h4 := hlv (k + 1) hk1
      omega
    · rw [List.drop_eq_nil_of_le (by simp; omega)] at h
      cases h)
  rcases Nat.lt_or_ge (k + 1) vs.length with hk1 | hk1
  · have hri1 := hri _ (mem_g vs (k + 1) hk1)
    have hrk1 := hrow (vs.getD (k + 1) default).l (List.mem_map_of_mem (mem_g vs (k + 1) hk1))
    have hlk1 := hlv (k + 1) hk1
    have hd2 : (vs.map (·.l)).drop (k + 1) = (vs.getD (k + 1) default).l :: (vs.map (·.l)).drop (k + 1 + 1) := by
      rw [← List.map_drop, drop_g vs (k + 1) hk1, List.map_cons, List.map_drop]
    have cP := fun w hw => places_any (vs.getD (k + 1) default).a (vs.getD (k + 1) default).c (vs.getD (k + 1) default).l (d + totF ((vs.map (·.l)).take k) + (vs.getD k default).l.length) hrw hri1 (by omega) (by omega) hrk1.1 (fun x hx => by have := hrk1.2 x hx; omega) w hw
    repeat' first
      | (refine J.isJ ?_; first | (first | (refine J.o 14 ?_; refine J.mfV [.pointer (some ⟨_, 0, none⟩), .pointer (some ⟨bs, 0, none⟩)] hΓ ?_) | (refine J.fc 60 ?_; refine J.call1 ePlaces rfl rfl (fun w hw => cP w (hw.rdH (by first | exact RdH.hd | exact RdH.hd.tl | exact RdH.hd.tl.tl | exact RdH.hd.tl.tl.tl | exact RdH.hd.tl.tl.tl.tl | exact RdH.hd.tl.tl.tl.tl.tl | exact RdH.hd.tl.tl.tl.tl.tl.tl | exact RdH.hd.tl.tl.tl.tl.tl.tl.tl | exact RdH.old (fun _ hh => hh) | assumption))) ?_; rintro _ hnx ⟨bx2, mx2, rfl, mt2, hmx2⟩) | (refine J.o 4 ?_; refine J.lT default hΓ ?_ (hr := (by first | exact RdH.hd | exact RdH.hd.tl | exact RdH.hd.tl.tl | exact RdH.hd.tl.tl.tl | exact RdH.hd.tl.tl.tl.tl | exact RdH.hd.tl.tl.tl.tl.tl | exact RdH.hd.tl.tl.tl.tl.tl.tl | exact RdH.hd.tl.tl.tl.tl.tl.tl.tl | exact RdH.old (fun _ hh => hh) | assumption)))) | (first | (refine J.o 0 ?_; refine J.ev' hΓ ?_) | refine J.nil ?_ | refine J.kd ?_ | (refine J.o 4 ?_; first | refine J.e0 hΓ ?_ | refine J.lT default hΓ ?_ | refine J.e1 hΓ ?_ | refine J.e2 hΓ ?_ | refine J.lR hΓ ?_) | (refine J.o 3 ?_; first | refine J.iA hΓ ?_ | refine J.iJ hΓ ?_ | refine J.fP hΓ ?_ | refine J.iC hΓ ?_ | refine J.ev' hΓ ?_) | (refine J.o 1 ?_; first | refine J.ad ?_ | refine J.sb ?_ | refine J.ng ?_ | refine J.mu ?_) | (refine J.o 5 ?_; first | refine J.t0 hΓ ?_ | refine J.t1 hΓ ?_ | refine J.t2 hΓ ?_) | (refine J.o 6 ?_; refine J.bx (fun _ => ?_)) | (refine J.o 7 ?_; refine J.al hΓ (fun _ => ?_)) | (refine J.o 8 ?_; refine J.bd hΓ ?_) | (refine J.o 9 ?_; refine J.bl hΓ (fun _ => ?_)) | (refine J.o 10 ?_; first | refine J.ls hΓ ?_ | refine J.ev' hΓ ?_) | (refine J.o 11 ?_; refine J.ev' hΓ ?_) | refine J.kn ?_) | ((fail_if_success refine J.wt ?_); refine J.gc rfl rfl (fun hc => ?_) (fun hc => ?_) <;> ((try simp only [decide_eq_true_eq, decide_eq_false_iff_not, beq_iff_eq, beq_eq_false_iff_ne, bne_iff_ne, bne_eq_false_iff_eq, Bool.not_eq_true', Bool.not_eq_false', Bool.not_eq_true, Bool.not_eq_false] at hc) <;> first | (first | (exact absurd rfl hc) | (exfalso; omega) | (exact absurd (hc.symm.trans (by assumption : _ = false)) (by decide)) | (exact absurd (hc.symm.trans (by assumption : _ = true)) (by decide))) | skip)))
      | (first | refine JC.seq ?_ | refine JC.region ?_ | refine JC.block ?_ | refine JC.ret ?_ | refine JC.exit ?_ | refine JC.skip ?_ | refine thenK.nn ?_ | refine thenK.r ?_ | refine thenK.x ?_ | refine blockK.nn ?_ | refine blockK.r ?_ | refine blockK.hit rfl ?_ | refine blockK.miss rfl ?_ | refine JC.condT rfl ?_ | refine JC.condF rfl ?_ | (refine JC.cond rfl (fun hc => ?_) (fun hc => ?_) <;> ((try simp only [decide_eq_true_eq, decide_eq_false_iff_not, beq_iff_eq, beq_eq_false_iff_ne, bne_iff_ne, bne_eq_false_iff_eq, Bool.not_eq_true', Bool.not_eq_false', Bool.not_eq_true, Bool.not_eq_false] at hc) <;> first | (first | (exact absurd rfl hc) | (exfalso; omega) | (exact absurd (hc.symm.trans (by assumption : _ = false)) (by decide)) | (exact absurd (hc.symm.trans (by assumption : _ = true)) (by decide))) | skip)) | refine drawK.nn ?_ | refine roundK.nn ?_ | refine roundK.r ?_ | refine roundK.x ?_ | refine loopK.r ?_ | refine loopK.x ?_)
      | (fail)
      | fail
    all_goals first | (exfalso; omega) | skip
    rename_i bn
    refine JC.weak (L' := xb :: ho :: hi :: [(bn, .cells ⟨[.map (some bx2)]⟩ 94 (0, 0))] :: [(bs, .cells ⟨[.slice ca cs.length cc, .slice la ls.length lc, .int .i64 least]⟩ 24 (0, 0))] :: hsv :: hrw :: hm :: hnx :: L) (fun w hw => hw.perm (br8.symm.trans br3.symm)) ?_
    have hN : NextIn (.map (some bx2)) hnx (nxF ((vs.map (·.l)).drop (k + 1)) (d + totF ((vs.map (·.l)).take k) + (vs.getD k default).l.length)) := by
      rw [hd2]
      exact .inr ⟨bx2, mx2, rfl, mt2, hmx2⟩
    clear mt2 hmx2 hd2 hrk1 hri1 cP hlk1
    generalize hnq : nxF ((vs.map (·.l)).drop (k + 1)) (d + totF ((vs.map (·.l)).take k) + (vs.getD k default).l.length) = nxP at *
    generalize hrw' : (vs.getD k default).l = row at *

    refine JC.loop (fun i => (Nat.ble 14 i && Nat.ble i 18) || (Nat.ble 63 i && Nat.ble i 117)) (fun m g L' => ∃ (j : Nat) (Tj : List (List Int)) (xb ho hi : Heap), g 63 = .int .i64 (j : Int) ∧ j + m = row.length ∧ ThH bx N Tj xb ho hi ∧ rowF least (ls.getD k default) (cs.getD k default) nxP (row.drop j) (d + totF ((vs.map (·.l)).take k) + (j : Int)) Tj = rowF least (ls.getD k default) (cs.getD k default) nxP row (d + totF ((vs.map (·.l)).take k)) Tk ∧ Tj.length ≤ Tk.length + 4 * j ∧
        L' = xb :: ho :: hi :: [(bn, .cells ⟨[.map (some bx2)]⟩ 94 (0, 0))] :: [(bs, .cells ⟨[.slice ca cs.length cc, .slice la ls.length lc, .int .i64 least]⟩ 24 (0, 0))] :: hsv :: hrw :: hm :: hnx :: L) row.length
      ⟨0, Tk, xb, ho, hi, rfl, by omega, th, by simp, by omega, rfl⟩ ?_
    clear th
    rintro m3 g3 L3 ⟨j, Tj, xb, ho, hi, e63, hjm, th0, hrf, hTj, rfl⟩
    refine JC.pin 63 e63 ?_
    clear e63
    rcases Nat.lt_or_ge j row.length with hj | hj
    case inl =>
      have hp := hrk.2 _ (getD_mem row j hj)
      have hnp : nxF ((vs.map (·.l)).drop k) (d + totF ((vs.map (·.l)).take k)) (row.getD j default) = some (d + totF ((vs.map (·.l)).take k) + (j : Int)) := by
        rw [hdrop]
        exact plc_at row _ j hj hnod
      rw [drop_one row j hj, rowF] at hrf
      rcases hnow with ⟨rfl, hno⟩ | ⟨bm, mm, rfl, mt, hmg⟩
      · rw [hno] at hnp; cases hnp
      have hmp := (hmg (row.getD j default)).trans hnp
      have hT0 : Tj.length ≤ 1000000 := by omega
      have hT1 : ∀ a, (clF Tj a).length ≤ 1000000 := fun a => Nat.le_trans (clF_le a (Nat.le_refl _)) (by omega)
      have hT2 : ∀ a b, (clF (clF Tj a) b).length ≤ 1000000 := fun a b => Nat.le_trans (clF_le b (clF_le a (Nat.le_refl _))) (by omega)
      have hT3 : ∀ a b c, (clF (clF (clF Tj a) b) c).length ≤ 1000000 := fun a b c => Nat.le_trans (clF_le c (clF_le b (clF_le a (Nat.le_refl _)))) (by omega)
      have hB1 := hB (row.getD j default + cs.getD k default)
      have hB2 := hB (row.getD j default)
      repeat' first
        | (refine J.isJ ?_; first | (first | (refine J.o 4 ?_; first | refine J.e4 hΓ ?_ | refine J.lT default hΓ ?_ (hs := hsl) (hr := RdH.hd.tl.tl.tl.tl.tl) | refine J.lT default hΓ ?_ (hs := hsc) (hr := RdH.hd.tl.tl.tl.tl.tl) | refine J.lT default hΓ ?_ (hs := hrik) (hr := RdH.hd.tl.tl.tl.tl.tl.tl)) | (refine J.o 9 ?_; first | (refine J.lk keyedI ekI_inj mt RdH.hd.tl.tl.tl.tl.tl.tl.tl (keyI (row.getD j default) (by omega)) hΓ ?_; rw [hmp]) | refine J.callv0 eSum1 rfl rfl rfl (fun w hw => sum1_any _ bn bs _ _ _ least _ nxP hN (by omega) w (hw.rdH (RdH.hd.tl.tl.tl.tl.tl.tl.tl.tl)) (holds2 (hw.rd Rd.hd.tl.tl.tl) (hw.rd Rd.hd.tl.tl.tl.tl))) ?_)) | (first | (refine J.o 0 ?_; refine J.ev' hΓ ?_) | refine J.nil ?_ | refine J.kd ?_ | (refine J.o 4 ?_; first | refine J.e0 hΓ ?_ | refine J.lT default hΓ ?_ | refine J.e1 hΓ ?_ | refine J.e2 hΓ ?_ | refine J.lR hΓ ?_) | (refine J.o 3 ?_; first | refine J.iA hΓ ?_ | refine J.iJ hΓ ?_ | refine J.fP hΓ ?_ | refine J.iC hΓ ?_ | refine J.ev' hΓ ?_) | (refine J.o 1 ?_; first | refine J.ad ?_ | refine J.sb ?_ | refine J.ng ?_ | refine J.mu ?_) | (refine J.o 5 ?_; first | refine J.t0 hΓ ?_ | refine J.t1 hΓ ?_ | refine J.t2 hΓ ?_) | (refine J.o 6 ?_; refine J.bx (fun _ => ?_)) | (refine J.o 7 ?_; refine J.al hΓ (fun _ => ?_)) | (refine J.o 8 ?_; refine J.bd hΓ ?_) | (refine J.o 9 ?_; refine J.bl hΓ (fun _ => ?_)) | (refine J.o 10 ?_; first | refine J.ls hΓ ?_ | refine J.ev' hΓ ?_) | (refine J.o 11 ?_; refine J.ev' hΓ ?_) | refine J.kn ?_) | ((fail_if_success refine J.wt ?_); refine J.gc rfl rfl (fun hc => ?_) (fun hc => ?_) <;> ((try simp only [decide_eq_true_eq, decide_eq_false_iff_not, beq_iff_eq, beq_eq_false_iff_ne, bne_iff_ne, bne_eq_false_iff_eq, Bool.not_eq_true', Bool.not_eq_false', Bool.not_eq_true, Bool.not_eq_false] at hc) <;> first | (first | (exact absurd rfl hc) | (exfalso; omega) | (exact absurd (hc.symm.trans (by assumption : _ = false)) (by decide)) | (exact absurd (hc.symm.trans (by assumption : _ = true)) (by decide))) | skip)))
        | (first | refine JC.seq ?_ | refine JC.region ?_ | refine JC.block ?_ | refine JC.ret ?_ | refine JC.exit ?_ | refine JC.skip ?_ | refine thenK.nn ?_ | refine thenK.r ?_ | refine thenK.x ?_ | refine blockK.nn ?_ | refine blockK.r ?_ | refine blockK.hit rfl ?_ | refine blockK.miss rfl ?_ | refine JC.condT rfl ?_ | refine JC.condF rfl ?_ | (refine JC.cond rfl (fun hc => ?_) (fun hc => ?_) <;> ((try simp only [decide_eq_true_eq, decide_eq_false_iff_not, beq_iff_eq, beq_eq_false_iff_ne, bne_iff_ne, bne_eq_false_iff_eq, Bool.not_eq_true', Bool.not_eq_false', Bool.not_eq_true, Bool.not_eq_false] at hc) <;> first | (first | (exact absurd rfl hc) | (exfalso; omega) | (exact absurd (hc.symm.trans (by assumption : _ = false)) (by decide)) | (exact absurd (hc.symm.trans (by assumption : _ = true)) (by decide))) | skip)) | refine drawK.nn ?_ | refine roundK.nn ?_ | refine roundK.r ?_ | refine roundK.x ?_ | refine loopK.r ?_ | refine loopK.x ?_)
        | (fail)
        | fail
      refine JC.drawA [] (by kernel_rfl) (by kernel_rfl) ?_
      repeat' first
        | (refine J.isJ ?_; first | (first | (refine J.o 4 ?_; first | refine J.e4 hΓ ?_ | refine J.lT default hΓ ?_ (hs := hsl) (hr := RdH.hd.tl.tl.tl.tl.tl) | refine J.lT default hΓ ?_ (hs := hsc) (hr := RdH.hd.tl.tl.tl.tl.tl) | refine J.lT default hΓ ?_ (hs := hrik) (hr := RdH.hd.tl.tl.tl.tl.tl.tl)) | (refine J.o 9 ?_; first | (refine J.lk keyedI ekI_inj mt RdH.hd.tl.tl.tl.tl.tl.tl.tl (keyI (row.getD j default) (by omega)) hΓ ?_; rw [hmp]) | refine J.callv0 eSum1 rfl rfl rfl (fun w hw => sum1_any (row.getD j default + cs.getD k default) bn bs _ _ _ least _ nxP hN (by omega) w (hw.rdH (RdH.hd.tl.tl.tl.tl.tl.tl.tl.tl)) (holds2 (hw.rd Rd.hd.tl.tl.tl) (hw.rd Rd.hd.tl.tl.tl.tl))) ?_ | refine J.callv0 eSum1 rfl rfl rfl (fun w hw => sum1_any (row.getD j default) bn bs _ _ _ least _ nxP hN (by omega) w (hw.rdH (RdH.hd.tl.tl.tl.tl.tl.tl.tl.tl)) (holds2 (hw.rd Rd.hd.tl.tl.tl) (hw.rd Rd.hd.tl.tl.tl.tl))) ?_)) | (first | (refine J.o 0 ?_; refine J.ev' hΓ ?_) | refine J.nil ?_ | refine J.kd ?_ | (refine J.o 4 ?_; first | refine J.e0 hΓ ?_ | refine J.lT default hΓ ?_ | refine J.e1 hΓ ?_ | refine J.e2 hΓ ?_ | refine J.lR hΓ ?_) | (refine J.o 3 ?_; first | refine J.iA hΓ ?_ | refine J.iJ hΓ ?_ | refine J.fP hΓ ?_ | refine J.iC hΓ ?_ | refine J.ev' hΓ ?_) | (refine J.o 1 ?_; first | refine J.ad ?_ | refine J.sb ?_ | refine J.ng ?_ | refine J.mu ?_) | (refine J.o 5 ?_; first | refine J.t0 hΓ ?_ | refine J.t1 hΓ ?_ | refine J.t2 hΓ ?_) | (refine J.o 6 ?_; refine J.bx (fun _ => ?_)) | (refine J.o 7 ?_; refine J.al hΓ (fun _ => ?_)) | (refine J.o 8 ?_; refine J.bd hΓ ?_) | (refine J.o 9 ?_; refine J.bl hΓ (fun _ => ?_)) | (refine J.o 10 ?_; first | refine J.ls hΓ ?_ | refine J.ev' hΓ ?_) | (refine J.o 11 ?_; refine J.ev' hΓ ?_) | refine J.kn ?_) | ((fail_if_success refine J.wt ?_); refine J.gc rfl rfl (fun hc => ?_) (fun hc => ?_) <;> ((try simp only [decide_eq_true_eq, decide_eq_false_iff_not, beq_iff_eq, beq_eq_false_iff_ne, bne_iff_ne, bne_eq_false_iff_eq, Bool.not_eq_true', Bool.not_eq_false', Bool.not_eq_true, Bool.not_eq_false] at hc) <;> first | (first | (exact absurd rfl hc) | (exfalso; omega) | (exact absurd (hc.symm.trans (by assumption : _ = false)) (by decide)) | (exact absurd (hc.symm.trans (by assumption : _ = true)) (by decide))) | skip)))
        | (first | refine JC.seq ?_ | refine JC.region ?_ | refine JC.block ?_ | refine JC.ret ?_ | refine JC.exit ?_ | refine JC.skip ?_ | refine thenK.nn ?_ | refine thenK.r ?_ | refine thenK.x ?_ | refine blockK.nn ?_ | refine blockK.r ?_ | refine blockK.hit rfl ?_ | refine blockK.miss rfl ?_ | refine JC.condT rfl ?_ | refine JC.condF rfl ?_ | (refine JC.cond rfl (fun hc => ?_) (fun hc => ?_) <;> ((try simp only [decide_eq_true_eq, decide_eq_false_iff_not, beq_iff_eq, beq_eq_false_iff_ne, bne_iff_ne, bne_eq_false_iff_eq, Bool.not_eq_true', Bool.not_eq_false', Bool.not_eq_true, Bool.not_eq_false] at hc) <;> first | (first | (exact absurd rfl hc) | (exfalso; omega) | (exact absurd (hc.symm.trans (by assumption : _ = false)) (by decide)) | (exact absurd (hc.symm.trans (by assumption : _ = true)) (by decide))) | skip)) | refine drawK.nn ?_ | refine roundK.nn ?_ | refine roundK.r ?_ | refine roundK.x ?_ | refine loopK.r ?_ | refine loopK.x ?_)
        | (fail)
        | fail
      have hD : d + totF ((vs.map (·.l)).take k) + (j : Int) + 1 = d + totF ((vs.map (·.l)).take k) + ((j + 1 : Nat) : Int) := by omega
      rw [hD] at hrf
      repeat' first
        | (refine J.isJ ?_; first | (first | (refine J.fc 59 ?_; refine J.callx eClause rfl rfl (fun w hw => clause_any bx _ N _ [(ls.getD k default), (d + totF ((vs.map (·.l)).take k) + (j : Int)), -(becF least nxP (row.getD j default))] (by simp) (hT3 _ _ _ ) th3 hw) ?_; rintro _ _ ⟨rfl, xc4, hc4, hd4, th4, rfl⟩) | (refine J.fc 59 ?_; refine J.callx eClause rfl rfl (fun w hw => clause_any bx _ N _ [-(ls.getD k default), (d + totF ((vs.map (·.l)).take k) + (j : Int)), -(becF least nxP (row.getD j default + cs.getD k default))] (by simp) (hT2 _ _ ) th2 hw) ?_; rintro _ _ ⟨rfl, xc3, hc3, hd3, th3, rfl⟩) | (refine J.fc 59 ?_; refine J.callx eClause rfl rfl (fun w hw => clause_any bx _ N _ [(ls.getD k default), -(d + totF ((vs.map (·.l)).take k) + (j : Int)), (becF least nxP (row.getD j default))] (by simp) (hT1 _ ) th1 hw) ?_; rintro _ _ ⟨rfl, xc2, hc2, hd2, th2, rfl⟩) | (refine J.fc 59 ?_; refine J.callx eClause rfl rfl (fun w hw => clause_any bx _ N _ [-(ls.getD k default), -(d + totF ((vs.map (·.l)).take k) + (j : Int)), (becF least nxP (row.getD j default + cs.getD k default))] (by simp) (hT0 ) th0 hw) ?_; rintro _ _ ⟨rfl, xc1, hc1, hd1, th1, rfl⟩)) | (first | (refine J.o 0 ?_; refine J.ev' hΓ ?_) | refine J.nil ?_ | refine J.kd ?_ | (refine J.o 4 ?_; first | refine J.e0 hΓ ?_ | refine J.lT default hΓ ?_ | refine J.e1 hΓ ?_ | refine J.e2 hΓ ?_ | refine J.lR hΓ ?_) | (refine J.o 3 ?_; first | refine J.iA hΓ ?_ | refine J.iJ hΓ ?_ | refine J.fP hΓ ?_ | refine J.iC hΓ ?_ | refine J.ev' hΓ ?_) | (refine J.o 1 ?_; first | refine J.ad ?_ | refine J.sb ?_ | refine J.ng ?_ | refine J.mu ?_) | (refine J.o 5 ?_; first | refine J.t0 hΓ ?_ | refine J.t1 hΓ ?_ | refine J.t2 hΓ ?_) | (refine J.o 6 ?_; refine J.bx (fun _ => ?_)) | (refine J.o 7 ?_; refine J.al hΓ (fun _ => ?_)) | (refine J.o 8 ?_; refine J.bd hΓ ?_) | (refine J.o 9 ?_; refine J.bl hΓ (fun _ => ?_)) | (refine J.o 10 ?_; first | refine J.ls hΓ ?_ | refine J.ev' hΓ ?_) | (refine J.o 11 ?_; refine J.ev' hΓ ?_) | refine J.kn ?_) | ((fail_if_success refine J.wt ?_); refine J.gc rfl rfl (fun hc => ?_) (fun hc => ?_) <;> ((try simp only [decide_eq_true_eq, decide_eq_false_iff_not, beq_iff_eq, beq_eq_false_iff_ne, bne_iff_ne, bne_eq_false_iff_eq, Bool.not_eq_true', Bool.not_eq_false', Bool.not_eq_true, Bool.not_eq_false] at hc) <;> first | (first | (exact absurd rfl hc) | (exfalso; omega) | (exact absurd (hc.symm.trans (by assumption : _ = false)) (by decide)) | (exact absurd (hc.symm.trans (by assumption : _ = true)) (by decide))) | skip)))
        | (first | refine JC.seq ?_ | refine JC.region ?_ | refine JC.block ?_ | refine JC.ret ?_ | refine JC.exit ?_ | refine JC.skip ?_ | refine thenK.nn ?_ | refine thenK.r ?_ | refine thenK.x ?_ | refine blockK.nn ?_ | refine blockK.r ?_ | refine blockK.hit rfl ?_ | refine blockK.miss rfl ?_ | refine JC.condT rfl ?_ | refine JC.condF rfl ?_ | (refine JC.cond rfl (fun hc => ?_) (fun hc => ?_) <;> ((try simp only [decide_eq_true_eq, decide_eq_false_iff_not, beq_iff_eq, beq_eq_false_iff_ne, bne_iff_ne, bne_eq_false_iff_eq, Bool.not_eq_true', Bool.not_eq_false', Bool.not_eq_true, Bool.not_eq_false] at hc) <;> first | (first | (exact absurd rfl hc) | (exfalso; omega) | (exact absurd (hc.symm.trans (by assumption : _ = false)) (by decide)) | (exact absurd (hc.symm.trans (by assumption : _ = true)) (by decide))) | skip)) | refine drawK.nn ?_ | refine roundK.nn ?_ | refine roundK.r ?_ | refine roundK.x ?_ | refine loopK.r ?_ | refine loopK.x ?_)
        | (fail)
        | fail
      all_goals first | (exfalso; omega) | skip
      refine loopK.nn (m3 - 1) (by omega) (by repeat (first | refine Ag.upd rfl ?_ | exact Ag.hv)) ⟨j + 1, _, _, _, _, ?_, by omega, th4, hrf, ?_, rfl⟩
      · show Value.int .i64 _ = _; congr 1
      · have := stepP_le (ls.getD k default) (d + totF ((vs.map (·.l)).take k) + (j : Int)) (becF least nxP (row.getD j default + cs.getD k default)) (becF least nxP (row.getD j default)) (Nat.le_refl Tj.length)
        unfold stepP at this
        omega
    rw [List.drop_eq_nil_of_le hj, rowF] at hrf
    have hsf2 : sumsF least (cs.drop (k + 1)) (ls.drop (k + 1)) ((vs.map (·.l)).drop (k + 1)) (d + totF ((vs.map (·.l)).take (k + 1))) Tj = sumsF least cs ls (vs.map (·.l)) d T1 := by
      rw [← hsf, drop_one cs k (by omega), drop_one ls k (by omega), hdrop, sumsF, hrf, hnq, htake]
      congr 1
      omega
    repeat' first
      | (refine J.isJ ?_; first | ((refine J.o 4 ?_; refine J.e3 hΓ ?_)) | (first | (refine J.o 0 ?_; refine J.ev' hΓ ?_) | refine J.nil ?_ | refine J.kd ?_ | (refine J.o 4 ?_; first | refine J.e0 hΓ ?_ | refine J.lT default hΓ ?_ | refine J.e1 hΓ ?_ | refine J.e2 hΓ ?_ | refine J.lR hΓ ?_) | (refine J.o 3 ?_; first | refine J.iA hΓ ?_ | refine J.iJ hΓ ?_ | refine J.fP hΓ ?_ | refine J.iC hΓ ?_ | refine J.ev' hΓ ?_) | (refine J.o 1 ?_; first | refine J.ad ?_ | refine J.sb ?_ | refine J.ng ?_ | refine J.mu ?_) | (refine J.o 5 ?_; first | refine J.t0 hΓ ?_ | refine J.t1 hΓ ?_ | refine J.t2 hΓ ?_) | (refine J.o 6 ?_; refine J.bx (fun _ => ?_)) | (refine J.o 7 ?_; refine J.al hΓ (fun _ => ?_)) | (refine J.o 8 ?_; refine J.bd hΓ ?_) | (refine J.o 9 ?_; refine J.bl hΓ (fun _ => ?_)) | (refine J.o 10 ?_; first | refine J.ls hΓ ?_ | refine J.ev' hΓ ?_) | (refine J.o 11 ?_; refine J.ev' hΓ ?_) | refine J.kn ?_) | ((fail_if_success refine J.wt ?_); refine J.gc rfl rfl (fun hc => ?_) (fun hc => ?_) <;> ((try simp only [decide_eq_true_eq, decide_eq_false_iff_not, beq_iff_eq, beq_eq_false_iff_ne, bne_iff_ne, bne_eq_false_iff_eq, Bool.not_eq_true', Bool.not_eq_false', Bool.not_eq_true, Bool.not_eq_false] at hc) <;> first | (first | (exact absurd rfl hc) | (exfalso; omega) | (exact absurd (hc.symm.trans (by assumption : _ = false)) (by decide)) | (exact absurd (hc.symm.trans (by assumption : _ = true)) (by decide))) | skip)))
      | (first | refine JC.seq ?_ | refine JC.region ?_ | refine JC.block ?_ | refine JC.ret ?_ | refine JC.exit ?_ | refine JC.skip ?_ | refine thenK.nn ?_ | refine thenK.r ?_ | refine thenK.x ?_ | refine blockK.nn ?_ | refine blockK.r ?_ | refine blockK.hit rfl ?_ | refine blockK.miss rfl ?_ | refine JC.condT rfl ?_ | refine JC.condF rfl ?_ | (refine JC.cond rfl (fun hc => ?_) (fun hc => ?_) <;> ((try simp only [decide_eq_true_eq, decide_eq_false_iff_not, beq_iff_eq, beq_eq_false_iff_ne, bne_iff_ne, bne_eq_false_iff_eq, Bool.not_eq_true', Bool.not_eq_false', Bool.not_eq_true, Bool.not_eq_false] at hc) <;> first | (first | (exact absurd rfl hc) | (exfalso; omega) | (exact absurd (hc.symm.trans (by assumption : _ = false)) (by decide)) | (exact absurd (hc.symm.trans (by assumption : _ = true)) (by decide))) | skip)) | refine drawK.nn ?_ | refine roundK.nn ?_ | refine roundK.r ?_ | refine roundK.x ?_ | refine loopK.r ?_ | refine loopK.x ?_)
      | (fail)
      | fail
    all_goals first | (exfalso; omega) | skip
    refine loopK.nn (m - 1) (by omega) (by repeat (first | refine Ag.upd rfl ?_ | exact Ag.hv | refine Ag.hv2 (fun i hi => by simp at hi ⊢; omega) ?_)) ⟨xb :: ho :: hi :: [(bs, .cells ⟨[.slice ca cs.length cc, .slice la ls.length lc, .int .i64 least]⟩ 24 (0, 0))] :: hsv :: hrw :: hnx :: L, ⟨k + 1, Tj, _, hnx, xb, ho, hi, ?_, ?_, rfl, by omega, th0, ?_, hsf2, by omega, rfl⟩, fun w hw => hw.subl (by repeat (first | exact List.nil_sublist _ | exact List.Sublist.refl _ | refine List.Sublist.cons_cons _ ?_ | refine List.Sublist.cons _ ?_))⟩
    · show Value.int .i64 _ = _; congr 1
    · show Value.int .i64 _ = _; congr 1; omega
    · rw [htake]
      have e : d + ((totF ((vs.map (·.l)).take k) + row.length : Nat) : Int) = d + totF ((vs.map (·.l)).take k) + row.length := by omega
      rw [e, hnq]
      exact hN
  ·
    repeat' first
      | (refine J.isJ ?_; first | (first | (refine J.o 14 ?_; refine J.mfV [.pointer (some ⟨_, 0, none⟩), .pointer (some ⟨bs, 0, none⟩)] hΓ ?_) | (refine J.o 4 ?_; refine J.lT default hΓ ?_ (hr := (by first | exact RdH.hd | exact RdH.hd.tl | exact RdH.hd.tl.tl | exact RdH.hd.tl.tl.tl | exact RdH.hd.tl.tl.tl.tl | exact RdH.hd.tl.tl.tl.tl.tl | exact RdH.hd.tl.tl.tl.tl.tl.tl | exact RdH.hd.tl.tl.tl.tl.tl.tl.tl | exact RdH.old (fun _ hh => hh) | assumption)))) | (first | (refine J.o 0 ?_; refine J.ev' hΓ ?_) | refine J.nil ?_ | refine J.kd ?_ | (refine J.o 4 ?_; first | refine J.e0 hΓ ?_ | refine J.lT default hΓ ?_ | refine J.e1 hΓ ?_ | refine J.e2 hΓ ?_ | refine J.lR hΓ ?_) | (refine J.o 3 ?_; first | refine J.iA hΓ ?_ | refine J.iJ hΓ ?_ | refine J.fP hΓ ?_ | refine J.iC hΓ ?_ | refine J.ev' hΓ ?_) | (refine J.o 1 ?_; first | refine J.ad ?_ | refine J.sb ?_ | refine J.ng ?_ | refine J.mu ?_) | (refine J.o 5 ?_; first | refine J.t0 hΓ ?_ | refine J.t1 hΓ ?_ | refine J.t2 hΓ ?_) | (refine J.o 6 ?_; refine J.bx (fun _ => ?_)) | (refine J.o 7 ?_; refine J.al hΓ (fun _ => ?_)) | (refine J.o 8 ?_; refine J.bd hΓ ?_) | (refine J.o 9 ?_; refine J.bl hΓ (fun _ => ?_)) | (refine J.o 10 ?_; first | refine J.ls hΓ ?_ | refine J.ev' hΓ ?_) | (refine J.o 11 ?_; refine J.ev' hΓ ?_) | refine J.kn ?_) | ((fail_if_success refine J.wt ?_); refine J.gc rfl rfl (fun hc => ?_) (fun hc => ?_) <;> ((try simp only [decide_eq_true_eq, decide_eq_false_iff_not, beq_iff_eq, beq_eq_false_iff_ne, bne_iff_ne, bne_eq_false_iff_eq, Bool.not_eq_true', Bool.not_eq_false', Bool.not_eq_true, Bool.not_eq_false] at hc) <;> first | (first | (exact absurd rfl hc) | (exfalso; omega) | (exact absurd (hc.symm.trans (by assumption : _ = false)) (by decide)) | (exact absurd (hc.symm.trans (by assumption : _ = true)) (by decide))) | skip)))
      | (first | refine JC.seq ?_ | refine JC.region ?_ | refine JC.block ?_ | refine JC.ret ?_ | refine JC.exit ?_ | refine JC.skip ?_ | refine thenK.nn ?_ | refine thenK.r ?_ | refine thenK.x ?_ | refine blockK.nn ?_ | refine blockK.r ?_ | refine blockK.hit rfl ?_ | refine blockK.miss rfl ?_ | refine JC.condT rfl ?_ | refine JC.condF rfl ?_ | (refine JC.cond rfl (fun hc => ?_) (fun hc => ?_) <;> ((try simp only [decide_eq_true_eq, decide_eq_false_iff_not, beq_iff_eq, beq_eq_false_iff_ne, bne_iff_ne, bne_eq_false_iff_eq, Bool.not_eq_true', Bool.not_eq_false', Bool.not_eq_true, Bool.not_eq_false] at hc) <;> first | (first | (exact absurd rfl hc) | (exfalso; omega) | (exact absurd (hc.symm.trans (by assumption : _ = false)) (by decide)) | (exact absurd (hc.symm.trans (by assumption : _ = true)) (by decide))) | skip)) | refine drawK.nn ?_ | refine roundK.nn ?_ | refine roundK.r ?_ | refine roundK.x ?_ | refine loopK.r ?_ | refine loopK.x ?_)
      | (fail)
      | fail
    all_goals first | (exfalso; omega) | skip
    rename_i bn
    refine JC.nilF ?_
    refine JC.weak (L' := xb :: ho :: hi :: [(bn, .cells ⟨[.map none]⟩ 94 (0, 0))] :: [(bs, .cells ⟨[.slice ca cs.length cc, .slice la ls.length lc, .int .i64 least]⟩ 24 (0, 0))] :: hsv :: hrw :: hm :: [] :: L) (fun w hw => hw.perm (br8.symm.trans br3.symm)) ?_
    have hN : NextIn (.map none) [] (nxF ((vs.map (·.l)).drop (k + 1)) (d + totF ((vs.map (·.l)).take k) + (vs.getD k default).l.length)) := by
      rw [List.drop_eq_nil_of_le (by simp; omega)]
      exact .inl ⟨rfl, fun x => rfl⟩
    generalize hnq : nxF ((vs.map (·.l)).drop (k + 1)) (d + totF ((vs.map (·.l)).take k) + (vs.getD k default).l.length) = nxP at *
    generalize hrw' : (vs.getD k default).l = row at *

    refine JC.loop (fun i => (Nat.ble 14 i && Nat.ble i 18) || (Nat.ble 63 i && Nat.ble i 117)) (fun m g L' => ∃ (j : Nat) (Tj : List (List Int)) (xb ho hi : Heap), g 63 = .int .i64 (j : Int) ∧ j + m = row.length ∧ ThH bx N Tj xb ho hi ∧ rowF least (ls.getD k default) (cs.getD k default) nxP (row.drop j) (d + totF ((vs.map (·.l)).take k) + (j : Int)) Tj = rowF least (ls.getD k default) (cs.getD k default) nxP row (d + totF ((vs.map (·.l)).take k)) Tk ∧ Tj.length ≤ Tk.length + 4 * j ∧
        L' = xb :: ho :: hi :: [(bn, .cells ⟨[.map none]⟩ 94 (0, 0))] :: [(bs, .cells ⟨[.slice ca cs.length cc, .slice la ls.length lc, .int .i64 least]⟩ 24 (0, 0))] :: hsv :: hrw :: hm :: [] :: L) row.length
      ⟨0, Tk, xb, ho, hi, rfl, by omega, th, by simp, by omega, rfl⟩ ?_
    clear th
    rintro m3 g3 L3 ⟨j, Tj, xb, ho, hi, e63, hjm, th0, hrf, hTj, rfl⟩
    refine JC.pin 63 e63 ?_
    clear e63
    rcases Nat.lt_or_ge j row.length with hj | hj
    case inl =>
      have hp := hrk.2 _ (getD_mem row j hj)
      have hnp : nxF ((vs.map (·.l)).drop k) (d + totF ((vs.map (·.l)).take k)) (row.getD j default) = some (d + totF ((vs.map (·.l)).take k) + (j : Int)) := by
        rw [hdrop]
        exact plc_at row _ j hj hnod
      rw [drop_one row j hj, rowF] at hrf
      rcases hnow with ⟨rfl, hno⟩ | ⟨bm, mm, rfl, mt, hmg⟩
      · rw [hno] at hnp; cases hnp
      have hmp := (hmg (row.getD j default)).trans hnp
      have hT0 : Tj.length ≤ 1000000 := by omega
      have hT1 : ∀ a, (clF Tj a).length ≤ 1000000 := fun a => Nat.le_trans (clF_le a (Nat.le_refl _)) (by omega)
      have hT2 : ∀ a b, (clF (clF Tj a) b).length ≤ 1000000 := fun a b => Nat.le_trans (clF_le b (clF_le a (Nat.le_refl _))) (by omega)
      have hT3 : ∀ a b c, (clF (clF (clF Tj a) b) c).length ≤ 1000000 := fun a b c => Nat.le_trans (clF_le c (clF_le b (clF_le a (Nat.le_refl _)))) (by omega)
      have hB1 := hB (row.getD j default + cs.getD k default)
      have hB2 := hB (row.getD j default)
      repeat' first
        | (refine J.isJ ?_; first | (first | (refine J.o 4 ?_; first | refine J.e4 hΓ ?_ | refine J.lT default hΓ ?_ (hs := hsl) (hr := RdH.hd.tl.tl.tl.tl.tl) | refine J.lT default hΓ ?_ (hs := hsc) (hr := RdH.hd.tl.tl.tl.tl.tl) | refine J.lT default hΓ ?_ (hs := hrik) (hr := RdH.hd.tl.tl.tl.tl.tl.tl)) | (refine J.o 9 ?_; first | (refine J.lk keyedI ekI_inj mt RdH.hd.tl.tl.tl.tl.tl.tl.tl (keyI (row.getD j default) (by omega)) hΓ ?_; rw [hmp]) | refine J.callv0 eSum1 rfl rfl rfl (fun w hw => sum1_any _ bn bs _ _ _ least _ nxP hN (by omega) w (hw.rdH (RdH.hd.tl.tl.tl.tl.tl.tl.tl.tl)) (holds2 (hw.rd Rd.hd.tl.tl.tl) (hw.rd Rd.hd.tl.tl.tl.tl))) ?_)) | (first | (refine J.o 0 ?_; refine J.ev' hΓ ?_) | refine J.nil ?_ | refine J.kd ?_ | (refine J.o 4 ?_; first | refine J.e0 hΓ ?_ | refine J.lT default hΓ ?_ | refine J.e1 hΓ ?_ | refine J.e2 hΓ ?_ | refine J.lR hΓ ?_) | (refine J.o 3 ?_; first | refine J.iA hΓ ?_ | refine J.iJ hΓ ?_ | refine J.fP hΓ ?_ | refine J.iC hΓ ?_ | refine J.ev' hΓ ?_) | (refine J.o 1 ?_; first | refine J.ad ?_ | refine J.sb ?_ | refine J.ng ?_ | refine J.mu ?_) | (refine J.o 5 ?_; first | refine J.t0 hΓ ?_ | refine J.t1 hΓ ?_ | refine J.t2 hΓ ?_) | (refine J.o 6 ?_; refine J.bx (fun _ => ?_)) | (refine J.o 7 ?_; refine J.al hΓ (fun _ => ?_)) | (refine J.o 8 ?_; refine J.bd hΓ ?_) | (refine J.o 9 ?_; refine J.bl hΓ (fun _ => ?_)) | (refine J.o 10 ?_; first | refine J.ls hΓ ?_ | refine J.ev' hΓ ?_) | (refine J.o 11 ?_; refine J.ev' hΓ ?_) | refine J.kn ?_) | ((fail_if_success refine J.wt ?_); refine J.gc rfl rfl (fun hc => ?_) (fun hc => ?_) <;> ((try simp only [decide_eq_true_eq, decide_eq_false_iff_not, beq_iff_eq, beq_eq_false_iff_ne, bne_iff_ne, bne_eq_false_iff_eq, Bool.not_eq_true', Bool.not_eq_false', Bool.not_eq_true, Bool.not_eq_false] at hc) <;> first | (first | (exact absurd rfl hc) | (exfalso; omega) | (exact absurd (hc.symm.trans (by assumption : _ = false)) (by decide)) | (exact absurd (hc.symm.trans (by assumption : _ = true)) (by decide))) | skip)))
        | (first | refine JC.seq ?_ | refine JC.region ?_ | refine JC.block ?_ | refine JC.ret ?_ | refine JC.exit ?_ | refine JC.skip ?_ | refine thenK.nn ?_ | refine thenK.r ?_ | refine thenK.x ?_ | refine blockK.nn ?_ | refine blockK.r ?_ | refine blockK.hit rfl ?_ | refine blockK.miss rfl ?_ | refine JC.condT rfl ?_ | refine JC.condF rfl ?_ | (refine JC.cond rfl (fun hc => ?_) (fun hc => ?_) <;> ((try simp only [decide_eq_true_eq, decide_eq_false_iff_not, beq_iff_eq, beq_eq_false_iff_ne, bne_iff_ne, bne_eq_false_iff_eq, Bool.not_eq_true', Bool.not_eq_false', Bool.not_eq_true, Bool.not_eq_false] at hc) <;> first | (first | (exact absurd rfl hc) | (exfalso; omega) | (exact absurd (hc.symm.trans (by assumption : _ = false)) (by decide)) | (exact absurd (hc.symm.trans (by assumption : _ = true)) (by decide))) | skip)) | refine drawK.nn ?_ | refine roundK.nn ?_ | refine roundK.r ?_ | refine roundK.x ?_ | refine loopK.r ?_ | refine loopK.x ?_)
        | (fail)
        | fail
      refine JC.drawA [] (by kernel_rfl) (by kernel_rfl) ?_
      repeat' first
        | (refine J.isJ ?_; first | (first | (refine J.o 4 ?_; first | refine J.e4 hΓ ?_ | refine J.lT default hΓ ?_ (hs := hsl) (hr := RdH.hd.tl.tl.tl.tl.tl) | refine J.lT default hΓ ?_ (hs := hsc) (hr := RdH.hd.tl.tl.tl.tl.tl) | refine J.lT default hΓ ?_ (hs := hrik) (hr := RdH.hd.tl.tl.tl.tl.tl.tl)) | (refine J.o 9 ?_; first | (refine J.lk keyedI ekI_inj mt RdH.hd.tl.tl.tl.tl.tl.tl.tl (keyI (row.getD j default) (by omega)) hΓ ?_; rw [hmp]) | refine J.callv0 eSum1 rfl rfl rfl (fun w hw => sum1_any (row.getD j default + cs.getD k default) bn bs _ _ _ least _ nxP hN (by omega) w (hw.rdH (RdH.hd.tl.tl.tl.tl.tl.tl.tl.tl)) (holds2 (hw.rd Rd.hd.tl.tl.tl) (hw.rd Rd.hd.tl.tl.tl.tl))) ?_ | refine J.callv0 eSum1 rfl rfl rfl (fun w hw => sum1_any (row.getD j default) bn bs _ _ _ least _ nxP hN (by omega) w (hw.rdH (RdH.hd.tl.tl.tl.tl.tl.tl.tl.tl)) (holds2 (hw.rd Rd.hd.tl.tl.tl) (hw.rd Rd.hd.tl.tl.tl.tl))) ?_)) | (first | (refine J.o 0 ?_; refine J.ev' hΓ ?_) | refine J.nil ?_ | refine J.kd ?_ | (refine J.o 4 ?_; first | refine J.e0 hΓ ?_ | refine J.lT default hΓ ?_ | refine J.e1 hΓ ?_ | refine J.e2 hΓ ?_ | refine J.lR hΓ ?_) | (refine J.o 3 ?_; first | refine J.iA hΓ ?_ | refine J.iJ hΓ ?_ | refine J.fP hΓ ?_ | refine J.iC hΓ ?_ | refine J.ev' hΓ ?_) | (refine J.o 1 ?_; first | refine J.ad ?_ | refine J.sb ?_ | refine J.ng ?_ | refine J.mu ?_) | (refine J.o 5 ?_; first | refine J.t0 hΓ ?_ | refine J.t1 hΓ ?_ | refine J.t2 hΓ ?_) | (refine J.o 6 ?_; refine J.bx (fun _ => ?_)) | (refine J.o 7 ?_; refine J.al hΓ (fun _ => ?_)) | (refine J.o 8 ?_; refine J.bd hΓ ?_) | (refine J.o 9 ?_; refine J.bl hΓ (fun _ => ?_)) | (refine J.o 10 ?_; first | refine J.ls hΓ ?_ | refine J.ev' hΓ ?_) | (refine J.o 11 ?_; refine J.ev' hΓ ?_) | refine J.kn ?_) | ((fail_if_success refine J.wt ?_); refine J.gc rfl rfl (fun hc => ?_) (fun hc => ?_) <;> ((try simp only [decide_eq_true_eq, decide_eq_false_iff_not, beq_iff_eq, beq_eq_false_iff_ne, bne_iff_ne, bne_eq_false_iff_eq, Bool.not_eq_true', Bool.not_eq_false', Bool.not_eq_true, Bool.not_eq_false] at hc) <;> first | (first | (exact absurd rfl hc) | (exfalso; omega) | (exact absurd (hc.symm.trans (by assumption : _ = false)) (by decide)) | (exact absurd (hc.symm.trans (by assumption : _ = true)) (by decide))) | skip)))
        | (first | refine JC.seq ?_ | refine JC.region ?_ | refine JC.block ?_ | refine JC.ret ?_ | refine JC.exit ?_ | refine JC.skip ?_ | refine thenK.nn ?_ | refine thenK.r ?_ | refine thenK.x ?_ | refine blockK.nn ?_ | refine blockK.r ?_ | refine blockK.hit rfl ?_ | refine blockK.miss rfl ?_ | refine JC.condT rfl ?_ | refine JC.condF rfl ?_ | (refine JC.cond rfl (fun hc => ?_) (fun hc => ?_) <;> ((try simp only [decide_eq_true_eq, decide_eq_false_iff_not, beq_iff_eq, beq_eq_false_iff_ne, bne_iff_ne, bne_eq_false_iff_eq, Bool.not_eq_true', Bool.not_eq_false', Bool.not_eq_true, Bool.not_eq_false] at hc) <;> first | (first | (exact absurd rfl hc) | (exfalso; omega) | (exact absurd (hc.symm.trans (by assumption : _ = false)) (by decide)) | (exact absurd (hc.symm.trans (by assumption : _ = true)) (by decide))) | skip)) | refine drawK.nn ?_ | refine roundK.nn ?_ | refine roundK.r ?_ | refine roundK.x ?_ | refine loopK.r ?_ | refine loopK.x ?_)
        | (fail)
        | fail
      have hD : d + totF ((vs.map (·.l)).take k) + (j : Int) + 1 = d + totF ((vs.map (·.l)).take k) + ((j + 1 : Nat) : Int) := by omega
      rw [hD] at hrf
      repeat' first
        | (refine J.isJ ?_; first | (first | (refine J.fc 59 ?_; refine J.callx eClause rfl rfl (fun w hw => clause_any bx _ N _ [(ls.getD k default), (d + totF ((vs.map (·.l)).take k) + (j : Int)), -(becF least nxP (row.getD j default))] (by simp) (hT3 _ _ _ ) th3 hw) ?_; rintro _ _ ⟨rfl, xc4, hc4, hd4, th4, rfl⟩) | (refine J.fc 59 ?_; refine J.callx eClause rfl rfl (fun w hw => clause_any bx _ N _ [-(ls.getD k default), (d + totF ((vs.map (·.l)).take k) + (j : Int)), -(becF least nxP (row.getD j default + cs.getD k default))] (by simp) (hT2 _ _ ) th2 hw) ?_; rintro _ _ ⟨rfl, xc3, hc3, hd3, th3, rfl⟩) | (refine J.fc 59 ?_; refine J.callx eClause rfl rfl (fun w hw => clause_any bx _ N _ [(ls.getD k default), -(d + totF ((vs.map (·.l)).take k) + (j : Int)), (becF least nxP (row.getD j default))] (by simp) (hT1 _ ) th1 hw) ?_; rintro _ _ ⟨rfl, xc2, hc2, hd2, th2, rfl⟩) | (refine J.fc 59 ?_; refine J.callx eClause rfl rfl (fun w hw => clause_any bx _ N _ [-(ls.getD k default), -(d + totF ((vs.map (·.l)).take k) + (j : Int)), (becF least nxP (row.getD j default + cs.getD k default))] (by simp) (hT0 ) th0 hw) ?_; rintro _ _ ⟨rfl, xc1, hc1, hd1, th1, rfl⟩)) | (first | (refine J.o 0 ?_; refine J.ev' hΓ ?_) | refine J.nil ?_ | refine J.kd ?_ | (refine J.o 4 ?_; first | refine J.e0 hΓ ?_ | refine J.lT default hΓ ?_ | refine J.e1 hΓ ?_ | refine J.e2 hΓ ?_ | refine J.lR hΓ ?_) | (refine J.o 3 ?_; first | refine J.iA hΓ ?_ | refine J.iJ hΓ ?_ | refine J.fP hΓ ?_ | refine J.iC hΓ ?_ | refine J.ev' hΓ ?_) | (refine J.o 1 ?_; first | refine J.ad ?_ | refine J.sb ?_ | refine J.ng ?_ | refine J.mu ?_) | (refine J.o 5 ?_; first | refine J.t0 hΓ ?_ | refine J.t1 hΓ ?_ | refine J.t2 hΓ ?_) | (refine J.o 6 ?_; refine J.bx (fun _ => ?_)) | (refine J.o 7 ?_; refine J.al hΓ (fun _ => ?_)) | (refine J.o 8 ?_; refine J.bd hΓ ?_) | (refine J.o 9 ?_; refine J.bl hΓ (fun _ => ?_)) | (refine J.o 10 ?_; first | refine J.ls hΓ ?_ | refine J.ev' hΓ ?_) | (refine J.o 11 ?_; refine J.ev' hΓ ?_) | refine J.kn ?_) | ((fail_if_success refine J.wt ?_); refine J.gc rfl rfl (fun hc => ?_) (fun hc => ?_) <;> ((try simp only [decide_eq_true_eq, decide_eq_false_iff_not, beq_iff_eq, beq_eq_false_iff_ne, bne_iff_ne, bne_eq_false_iff_eq, Bool.not_eq_true', Bool.not_eq_false', Bool.not_eq_true, Bool.not_eq_false] at hc) <;> first | (first | (exact absurd rfl hc) | (exfalso; omega) | (exact absurd (hc.symm.trans (by assumption : _ = false)) (by decide)) | (exact absurd (hc.symm.trans (by assumption : _ = true)) (by decide))) | skip)))
        | (first | refine JC.seq ?_ | refine JC.region ?_ | refine JC.block ?_ | refine JC.ret ?_ | refine JC.exit ?_ | refine JC.skip ?_ | refine thenK.nn ?_ | refine thenK.r ?_ | refine thenK.x ?_ | refine blockK.nn ?_ | refine blockK.r ?_ | refine blockK.hit rfl ?_ | refine blockK.miss rfl ?_ | refine JC.condT rfl ?_ | refine JC.condF rfl ?_ | (refine JC.cond rfl (fun hc => ?_) (fun hc => ?_) <;> ((try simp only [decide_eq_true_eq, decide_eq_false_iff_not, beq_iff_eq, beq_eq_false_iff_ne, bne_iff_ne, bne_eq_false_iff_eq, Bool.not_eq_true', Bool.not_eq_false', Bool.not_eq_true, Bool.not_eq_false] at hc) <;> first | (first | (exact absurd rfl hc) | (exfalso; omega) | (exact absurd (hc.symm.trans (by assumption : _ = false)) (by decide)) | (exact absurd (hc.symm.trans (by assumption : _ = true)) (by decide))) | skip)) | refine drawK.nn ?_ | refine roundK.nn ?_ | refine roundK.r ?_ | refine roundK.x ?_ | refine loopK.r ?_ | refine loopK.x ?_)
        | (fail)
        | fail
      all_goals first | (exfalso; omega) | skip
      refine loopK.nn (m3 - 1) (by omega) (by repeat (first | refine Ag.upd rfl ?_ | exact Ag.hv)) ⟨j + 1, _, _, _, _, ?_, by omega, th4, hrf, ?_, rfl⟩
      · show Value.int .i64 _ = _; congr 1
      · have := stepP_le (ls.getD k default) (d + totF ((vs.map (·.l)).take k) + (j : Int)) (becF least nxP (row.getD j default + cs.getD k default)) (becF least nxP (row.getD j default)) (Nat.le_refl Tj.length)
        unfold stepP at this
        omega
    rw [List.drop_eq_nil_of_le hj, rowF] at hrf
    have hsf2 : sumsF least (cs.drop (k + 1)) (ls.drop (k + 1)) ((vs.map (·.l)).drop (k + 1)) (d + totF ((vs.map (·.l)).take (k + 1))) Tj = sumsF least cs ls (vs.map (·.l)) d T1 := by
      rw [← hsf, drop_one cs k (by omega), drop_one ls k (by omega), hdrop, sumsF, hrf, hnq, htake]
      congr 1
      omega
    repeat' first
      | (refine J.isJ ?_; first | ((refine J.o 4 ?_; refine J.e3 hΓ ?_)) | (first | (refine J.o 0 ?_; refine J.ev' hΓ ?_) | refine J.nil ?_ | refine J.kd ?_ | (refine J.o 4 ?_; first | refine J.e0 hΓ ?_ | refine J.lT default hΓ ?_ | refine J.e1 hΓ ?_ | refine J.e2 hΓ ?_ | refine J.lR hΓ ?_) | (refine J.o 3 ?_; first | refine J.iA hΓ ?_ | refine J.iJ hΓ ?_ | refine J.fP hΓ ?_ | refine J.iC hΓ ?_ | refine J.ev' hΓ ?_) | (refine J.o 1 ?_; first | refine J.ad ?_ | refine J.sb ?_ | refine J.ng ?_ | refine J.mu ?_) | (refine J.o 5 ?_; first | refine J.t0 hΓ ?_ | refine J.t1 hΓ ?_ | refine J.t2 hΓ ?_) | (refine J.o 6 ?_; refine J.bx (fun _ => ?_)) | (refine J.o 7 ?_; refine J.al hΓ (fun _ => ?_)) | (refine J.o 8 ?_; refine J.bd hΓ ?_) | (refine J.o 9 ?_; refine J.bl hΓ (fun _ => ?_)) | (refine J.o 10 ?_; first | refine J.ls hΓ ?_ | refine J.ev' hΓ ?_) | (refine J.o 11 ?_; refine J.ev' hΓ ?_) | refine J.kn ?_) | ((fail_if_success refine J.wt ?_); refine J.gc rfl rfl (fun hc => ?_) (fun hc => ?_) <;> ((try simp only [decide_eq_true_eq, decide_eq_false_iff_not, beq_iff_eq, beq_eq_false_iff_ne, bne_iff_ne, bne_eq_false_iff_eq, Bool.not_eq_true', Bool.not_eq_false', Bool.not_eq_true, Bool.not_eq_false] at hc) <;> first | (first | (exact absurd rfl hc) | (exfalso; omega) | (exact absurd (hc.symm.trans (by assumption : _ = false)) (by decide)) | (exact absurd (hc.symm.trans (by assumption : _ = true)) (by decide))) | skip)))
      | (first | refine JC.seq ?_ | refine JC.region ?_ | refine JC.block ?_ | refine JC.ret ?_ | refine JC.exit ?_ | refine JC.skip ?_ | refine thenK.nn ?_ | refine thenK.r ?_ | refine thenK.x ?_ | refine blockK.nn ?_ | refine blockK.r ?_ | refine blockK.hit rfl ?_ | refine blockK.miss rfl ?_ | refine JC.condT rfl ?_ | refine JC.condF rfl ?_ | (refine JC.cond rfl (fun hc => ?_) (fun hc => ?_) <;> ((try simp only [decide_eq_true_eq, decide_eq_false_iff_not, beq_iff_eq, beq_eq_false_iff_ne, bne_iff_ne, bne_eq_false_iff_eq, Bool.not_eq_true', Bool.not_eq_false', Bool.not_eq_true, Bool.not_eq_false] at hc) <;> first | (first | (exact absurd rfl hc) | (exfalso; omega) | (exact absurd (hc.symm.trans (by assumption : _ = false)) (by decide)) | (exact absurd (hc.symm.trans (by assumption : _ = true)) (by decide))) | skip)) | refine drawK.nn ?_ | refine roundK.nn ?_ | refine roundK.r ?_ | refine roundK.x ?_ | refine loopK.r ?_ | refine loopK.x ?_)
      | (fail)
      | fail
    all_goals first | (exfalso; omega) | skip
    refine loopK.nn (m - 1) (by omega) (by repeat (first | refine Ag.upd rfl ?_ | exact Ag.hv | refine Ag.hv2 (fun i hi => by simp at hi ⊢; omega) ?_)) ⟨xb :: ho :: hi :: [(bs, .cells ⟨[.slice ca cs.length cc, .slice la ls.length lc, .int .i64 least]⟩ 24 (0, 0))] :: hsv :: hrw :: [] :: L, ⟨k + 1, Tj, _, [], xb, ho, hi, ?_, ?_, rfl, by omega, th0, ?_, hsf2, by omega, rfl⟩, fun w hw => hw.subl (by repeat (first | exact List.nil_sublist _ | exact List.Sublist.refl _ | refine List.Sublist.cons_cons _ ?_ | refine List.Sublist.cons _ ?_))⟩
    · show Value.int .i64 _ = _; congr 1
    · show Value.int .i64 _ = _; congr 1; omega
    · rw [htake]
      have e : d + ((totF ((vs.map (·.l)).take k) + row.length : Nat) : Int) = d + totF ((vs.map (·.l)).take k) + row.length := by omega
      rw [e, hnq]
      exact hN
end Go.Proofs.Ytinpcimogojefaa
