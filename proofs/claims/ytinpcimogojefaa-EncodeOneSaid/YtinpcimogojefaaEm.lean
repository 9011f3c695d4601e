/- encode.places; the closure becomes of encoder.sum; what the method computes. -/
import Derived.Test.YtinpcimogojefaaEl
namespace Go.Proofs.Ytinpcimogojefaa
open Go Go.Cx Go.RowKit
set_option linter.unusedVariables false
set_option linter.unusedSimpArgs false
set_option maxHeartbeats 4000000
attribute [local irreducible] J JC thenK blockK loopK roundK drawK retK QW Qt pel List.set Calls
open Go.Maps
attribute [local irreducible] JE Br eK0 eK2 eK3 brK
def evI (x : Int) : Value := .int .i64 x
/-- the variable of a partial sum -/
def plc : List Int → Int → Int → Option Int
  | [], _, _ => none
  | y :: l, d, x => if x = y then some d else plc l (d + 1) x
theorem plc_snoc (p x : Int) : ∀ (a : List Int) (d : Int), p ∉ a → plc (a ++ [p]) d x = if x = p then some (d + a.length) else plc a d x
  | [], d, _ => by simp [plc]
  | y :: a, d, h => by
    have hy : p ≠ y := fun e => h (by simp [e])
    have ih := plc_snoc p x a (d + 1) (fun hm => h (List.mem_cons_of_mem _ hm))
    simp only [List.cons_append, plc, List.length_cons]
    by_cases hxy : x = y
    · rw [if_pos hxy, if_pos hxy, if_neg (by omega)]
    · rw [if_neg hxy, if_neg hxy, ih]
      split
      · congr 1; omega
      · rfl
theorem plc_none (x : Int) : ∀ (a : List Int) (d : Int), x ∉ a → plc a d x = none
  | [], _, _ => rfl
  | y :: a, d, h => by
    unfold plc
    rw [if_neg (fun e => h (by simp [e])), plc_none x a (d + 1) (fun hm => h (List.mem_cons_of_mem _ hm))]
theorem plc_bd (x d' : Int) : ∀ (a : List Int) (d : Int), plc a d x = some d' → d ≤ d' ∧ d' < d + a.length
  | [], _, h => by simp [plc] at h
  | y :: a, d, h => by
    unfold plc at h
    simp only [List.length_cons]
    split at h
    · simp only [Option.some.injEq] at h; omega
    · have := plc_bd x d' a (d + 1) h; omega
theorem plc_at : ∀ (a : List Int) (d : Int) (j : Nat) (hj : j < a.length), a.Nodup → plc a d (a.getD j default) = some (d + j)
  | y :: a, d, 0, _, _ => by simp [plc]
  | y :: a, d, j + 1, hj, hn => by
    rw [List.nodup_cons] at hn
    have hj' : j < a.length := by simpa using hj
    have hm := getD_mem a j hj'
    have e : (y :: a).getD (j + 1) default = a.getD j default := by simp
    rw [e]
    unfold plc
    rw [if_neg (fun e : a.getD j default = y => hn.1 (e ▸ hm)), plc_at a (d + 1) j hj' hn.2]
    congr 1; omega
theorem mget_mput {κ β : Type} [DecidableEq κ] (m : List (κ × β)) (x z : κ) (y : β) : mget (mput m x y) z = if z = x then some y else mget m z := by
  unfold mput
  by_cases hc : (m.map (·.1)).contains x = true
  · rw [if_pos hc]
    have hf : ∀ l : List (κ × β), (l.map (fun p => if p.1 = x then (x, y) else p)).find? (fun p => decide (p.1 = z)) = (l.find? (fun p => decide (p.1 = z))).map (fun p => if p.1 = x then (x, y) else p) := by
      intro l
      induction l with
      | nil => rfl
      | cons q l ih =>
        rw [List.map_cons, List.find?_cons, List.find?_cons]
        have hk : (if q.1 = x then (x, y) else q).1 = q.1 := by split <;> simp_all
        rw [hk]
        by_cases hq : q.1 = z
        · rw [decide_eq_true hq]; rfl
        · rw [decide_eq_false hq]; exact ih
    unfold mget
    rw [hf]
    by_cases hz : z = x
    · subst hz
      rw [if_pos rfl]
      have hm : z ∈ m.map (·.1) := by simpa using hc
      obtain ⟨q, hq, hq1⟩ := List.mem_map.1 hm
      cases hfd : m.find? (fun p => decide (p.1 = z)) with
      | none =>
        have := List.find?_eq_none.1 hfd q hq
        simp [hq1] at this
      | some q' =>
        have := List.find?_some hfd
        simp only [decide_eq_true_eq] at this
        simp [this]
    · rw [if_neg hz]
      cases hfd : m.find? (fun p => decide (p.1 = z)) with
      | none => rfl
      | some q' =>
        have := List.find?_some hfd
        simp only [decide_eq_true_eq] at this
        simp [this, hz]
  · rw [if_neg hc]
    unfold mget
    rw [List.find?_append]
    by_cases hz : z = x
    · subst hz
      rw [if_pos rfl]
      have hn : m.find? (fun p => decide (p.1 = z)) = none := by
        rw [List.find?_eq_none]
        intro p hp he
        simp only [decide_eq_true_eq] at he
        exact hc (by simp only [List.contains_eq_mem, decide_eq_true_eq]; exact he ▸ List.mem_map_of_mem hp)
      rw [hn]
      simp
    · rw [if_neg hz]
      have : [(x, y)].find? (fun p : κ × β => decide (p.1 = z)) = none := by
        rw [List.find?_eq_none]
        intro p hp
        rw [List.mem_singleton.1 hp]
        simp [Ne.symm hz]
      rw [this, Option.or_none]
theorem ePlaces : Entr Try.prog 60 := Entr.of Try.func60 rfl rfl
theorem eSum1 : Entr Try.prog 61 := Entr.of Try.func61 rfl rfl
theorem eSum : Entr Try.prog 40 := Entr.of Try.func40 rfl rfl
theorem asc_nin (l : List Int) (k : Nat) (hk : k < l.length) (ha : asc l) : l.getD k default ∉ l.take k := by
  intro hm
  obtain ⟨i, hi, he⟩ := List.getElem_of_mem hm
  rw [List.length_take] at hi
  rw [List.getElem_take] at he
  have := List.pairwise_iff_getElem.1 ha i k (by omega) hk (by omega)
  rw [List.getD_eq_getElem?_getD, List.getElem?_eq_getElem hk] at he
  simp at he
  omega
theorem places_any (a : Option Addr) (cap : Nat) (l : List Int) (d : Int) (h : Heap) (hs : SlT encI 1 a l h) (hl : l.length ≤ 1000) (hd : 0 ≤ d ∧ d ≤ 1000) (ha : asc l) (hb : ∀ x, x ∈ l → 0 ≤ x ∧ x ≤ 1000000000000) (w : World) (hw : Holds h w) :
    Calls Try.prog 60 #[.slice a l.length cap, .int .i64 d] w (Gives (fun v g => ∃ b m, v = .map (some b) ∧ MapT Try.prog 3 ekI evI m b g ∧ ∀ x, mget m x = plc l d x) w) := by
  refine calls_of_JC (R := h) Try.func60 Try.ntmps60 rfl rfl (hw) ?_
  repeat' first
    | (refine J.isJ ?_; first | ((refine J.o 9 ?_; refine J.mkm (fun b5 => ?_))) | (first | (refine J.o 0 ?_; refine J.ev' hΓ ?_) | refine J.nil ?_ | refine J.kd ?_ | (refine J.o 4 ?_; first | refine J.e0 hΓ ?_ | refine J.lT default hΓ ?_ | refine J.e1 hΓ ?_ | refine J.e2 hΓ ?_ | refine J.lR hΓ ?_) | (refine J.o 3 ?_; first | refine J.iA hΓ ?_ | refine J.iJ hΓ ?_ | refine J.fP hΓ ?_ | refine J.iC hΓ ?_ | refine J.ev' hΓ ?_) | (refine J.o 1 ?_; first | refine J.ad ?_ | refine J.sb ?_ | refine J.ng ?_ | refine J.mu ?_) | (refine J.o 5 ?_; first | refine J.t0 hΓ ?_ | refine J.t1 hΓ ?_ | refine J.t2 hΓ ?_) | (refine J.o 6 ?_; refine J.bx (fun _ => ?_)) | (refine J.o 7 ?_; refine J.al hΓ (fun _ => ?_)) | (refine J.o 8 ?_; refine J.bd hΓ ?_) | (refine J.o 9 ?_; refine J.bl hΓ (fun _ => ?_)) | (refine J.o 10 ?_; first | refine J.ls hΓ ?_ | refine J.ev' hΓ ?_) | (refine J.o 11 ?_; refine J.ev' hΓ ?_) | refine J.kn ?_) | ((fail_if_success refine J.wt ?_); refine J.gc rfl rfl (fun hc => ?_) (fun hc => ?_) <;> ((try simp only [decide_eq_true_eq, decide_eq_false_iff_not, beq_iff_eq, beq_eq_false_iff_ne, bne_iff_ne, bne_eq_false_iff_eq, Bool.not_eq_true', Bool.not_eq_false', Bool.not_eq_true, Bool.not_eq_false] at hc) <;> first | (first | (exact absurd rfl hc) | (exfalso; omega) | (exact absurd (hc.symm.trans (by assumption : _ = false)) (by decide)) | (exact absurd (hc.symm.trans (by assumption : _ = true)) (by decide))) | skip)))
    | (first | refine JC.seq ?_ | refine JC.region ?_ | refine JC.block ?_ | refine JC.ret ?_ | refine JC.exit ?_ | refine JC.skip ?_ | refine thenK.nn ?_ | refine thenK.r ?_ | refine thenK.x ?_ | refine blockK.nn ?_ | refine blockK.r ?_ | refine blockK.hit rfl ?_ | refine blockK.miss rfl ?_ | refine JC.condT rfl ?_ | refine JC.condF rfl ?_ | (refine JC.cond rfl (fun hc => ?_) (fun hc => ?_) <;> ((try simp only [decide_eq_true_eq, decide_eq_false_iff_not, beq_iff_eq, beq_eq_false_iff_ne, bne_iff_ne, bne_eq_false_iff_eq, Bool.not_eq_true', Bool.not_eq_false', Bool.not_eq_true, Bool.not_eq_false] at hc) <;> first | (first | (exact absurd rfl hc) | (exfalso; omega) | (exact absurd (hc.symm.trans (by assumption : _ = false)) (by decide)) | (exact absurd (hc.symm.trans (by assumption : _ = true)) (by decide))) | skip)) | (refine JC.drawA [] (by kernel_rfl) (by kernel_rfl) ?_) | refine drawK.nn ?_ | refine roundK.nn ?_ | refine roundK.r ?_ | refine roundK.x ?_ | refine loopK.r ?_ | refine loopK.x ?_)
    | (fail)
    | fail
  all_goals first | (exfalso; omega) | skip
  refine JC.loop (fun i => i == 6 || i == 7 || Nat.ble 11 i) (fun m g L => ∃ (k : Nat) (mm : List (Int × Int)) (hm : Heap), g 11 = .int .i64 (k : Int) ∧ k + m = l.length ∧ MapT Try.prog 3 ekI evI mm b5 hm ∧ (∀ x, mget mm x = plc (l.take k) d x) ∧ L = [hm]) l.length ⟨0, [], _, rfl, by omega, MapT.nil _, fun x => rfl, rfl⟩ ?_
  rintro m g L ⟨k, mm, hm, e11, hkm, mt, hmg, rfl⟩
  refine JC.pin 11 e11 ?_
  clear e11
  rcases Nat.lt_or_ge k l.length with hk | hk
  · have hp := hb _ (getD_mem l k hk)
    repeat' first
      | (refine J.isJ ?_; first | ((refine J.o 9 ?_; refine J.mup (ev := evI) (d + (k : Int)) keyedI ekI_inj mt (keyI (l.getD k default) (by omega)) hΓ (fun h3 mt3 => ?_))) | (first | (refine J.o 0 ?_; refine J.ev' hΓ ?_) | refine J.nil ?_ | refine J.kd ?_ | (refine J.o 4 ?_; first | refine J.e0 hΓ ?_ | refine J.lT default hΓ ?_ | refine J.e1 hΓ ?_ | refine J.e2 hΓ ?_ | refine J.lR hΓ ?_) | (refine J.o 3 ?_; first | refine J.iA hΓ ?_ | refine J.iJ hΓ ?_ | refine J.fP hΓ ?_ | refine J.iC hΓ ?_ | refine J.ev' hΓ ?_) | (refine J.o 1 ?_; first | refine J.ad ?_ | refine J.sb ?_ | refine J.ng ?_ | refine J.mu ?_) | (refine J.o 5 ?_; first | refine J.t0 hΓ ?_ | refine J.t1 hΓ ?_ | refine J.t2 hΓ ?_) | (refine J.o 6 ?_; refine J.bx (fun _ => ?_)) | (refine J.o 7 ?_; refine J.al hΓ (fun _ => ?_)) | (refine J.o 8 ?_; refine J.bd hΓ ?_) | (refine J.o 9 ?_; refine J.bl hΓ (fun _ => ?_)) | (refine J.o 10 ?_; first | refine J.ls hΓ ?_ | refine J.ev' hΓ ?_) | (refine J.o 11 ?_; refine J.ev' hΓ ?_) | refine J.kn ?_) | ((fail_if_success refine J.wt ?_); refine J.gc rfl rfl (fun hc => ?_) (fun hc => ?_) <;> ((try simp only [decide_eq_true_eq, decide_eq_false_iff_not, beq_iff_eq, beq_eq_false_iff_ne, bne_iff_ne, bne_eq_false_iff_eq, Bool.not_eq_true', Bool.not_eq_false', Bool.not_eq_true, Bool.not_eq_false] at hc) <;> first | (first | (exact absurd rfl hc) | (exfalso; omega) | (exact absurd (hc.symm.trans (by assumption : _ = false)) (by decide)) | (exact absurd (hc.symm.trans (by assumption : _ = true)) (by decide))) | skip)))
      | (first | refine JC.seq ?_ | refine JC.region ?_ | refine JC.block ?_ | refine JC.ret ?_ | refine JC.exit ?_ | refine JC.skip ?_ | refine thenK.nn ?_ | refine thenK.r ?_ | refine thenK.x ?_ | refine blockK.nn ?_ | refine blockK.r ?_ | refine blockK.hit rfl ?_ | refine blockK.miss rfl ?_ | refine JC.condT rfl ?_ | refine JC.condF rfl ?_ | (refine JC.cond rfl (fun hc => ?_) (fun hc => ?_) <;> ((try simp only [decide_eq_true_eq, decide_eq_false_iff_not, beq_iff_eq, beq_eq_false_iff_ne, bne_iff_ne, bne_eq_false_iff_eq, Bool.not_eq_true', Bool.not_eq_false', Bool.not_eq_true, Bool.not_eq_false] at hc) <;> first | (first | (exact absurd rfl hc) | (exfalso; omega) | (exact absurd (hc.symm.trans (by assumption : _ = false)) (by decide)) | (exact absurd (hc.symm.trans (by assumption : _ = true)) (by decide))) | skip)) | (refine JC.drawA [] (by kernel_rfl) (by kernel_rfl) ?_) | refine drawK.nn ?_ | refine roundK.nn ?_ | refine roundK.r ?_ | refine roundK.x ?_ | refine loopK.r ?_ | refine loopK.x ?_)
      | (fail)
      | fail
    all_goals first | (exfalso; omega) | skip
    all_goals refine loopK.nn (m - 1) (by omega) (by repeat (first | refine Ag.upd rfl ?_ | exact Ag.hv)) ⟨k + 1, _, _, ?_, by omega, by assumption, ?_, rfl⟩
    · show Value.int .i64 _ = _; congr 1
    · intro x
      rw [mget_mput, hmg, ← take_one l k hk, plc_snoc _ _ _ _ (asc_nin l k hk ha), List.length_take, Nat.min_eq_left (by omega)]
  rw [List.take_of_length_le hk] at hmg
  repeat' first
    | (refine J.isJ ?_; (first | (first | (refine J.o 0 ?_; refine J.ev' hΓ ?_) | refine J.nil ?_ | refine J.kd ?_ | (refine J.o 4 ?_; first | refine J.e0 hΓ ?_ | refine J.lT default hΓ ?_ | refine J.e1 hΓ ?_ | refine J.e2 hΓ ?_ | refine J.lR hΓ ?_) | (refine J.o 3 ?_; first | refine J.iA hΓ ?_ | refine J.iJ hΓ ?_ | refine J.fP hΓ ?_ | refine J.iC hΓ ?_ | refine J.ev' hΓ ?_) | (refine J.o 1 ?_; first | refine J.ad ?_ | refine J.sb ?_ | refine J.ng ?_ | refine J.mu ?_) | (refine J.o 5 ?_; first | refine J.t0 hΓ ?_ | refine J.t1 hΓ ?_ | refine J.t2 hΓ ?_) | (refine J.o 6 ?_; refine J.bx (fun _ => ?_)) | (refine J.o 7 ?_; refine J.al hΓ (fun _ => ?_)) | (refine J.o 8 ?_; refine J.bd hΓ ?_) | (refine J.o 9 ?_; refine J.bl hΓ (fun _ => ?_)) | (refine J.o 10 ?_; first | refine J.ls hΓ ?_ | refine J.ev' hΓ ?_) | (refine J.o 11 ?_; refine J.ev' hΓ ?_) | refine J.kn ?_) | ((fail_if_success refine J.wt ?_); refine J.gc rfl rfl (fun hc => ?_) (fun hc => ?_) <;> ((try simp only [decide_eq_true_eq, decide_eq_false_iff_not, beq_iff_eq, beq_eq_false_iff_ne, bne_iff_ne, bne_eq_false_iff_eq, Bool.not_eq_true', Bool.not_eq_false', Bool.not_eq_true, Bool.not_eq_false] at hc) <;> first | (first | (exact absurd rfl hc) | (exfalso; omega) | (exact absurd (hc.symm.trans (by assumption : _ = false)) (by decide)) | (exact absurd (hc.symm.trans (by assumption : _ = true)) (by decide))) | skip))))
    | (first | refine JC.seq ?_ | refine JC.region ?_ | refine JC.block ?_ | refine JC.ret ?_ | refine JC.exit ?_ | refine JC.skip ?_ | refine thenK.nn ?_ | refine thenK.r ?_ | refine thenK.x ?_ | refine blockK.nn ?_ | refine blockK.r ?_ | refine blockK.hit rfl ?_ | refine blockK.miss rfl ?_ | refine JC.condT rfl ?_ | refine JC.condF rfl ?_ | (refine JC.cond rfl (fun hc => ?_) (fun hc => ?_) <;> ((try simp only [decide_eq_true_eq, decide_eq_false_iff_not, beq_iff_eq, beq_eq_false_iff_ne, bne_iff_ne, bne_eq_false_iff_eq, Bool.not_eq_true', Bool.not_eq_false', Bool.not_eq_true, Bool.not_eq_false] at hc) <;> first | (first | (exact absurd rfl hc) | (exfalso; omega) | (exact absurd (hc.symm.trans (by assumption : _ = false)) (by decide)) | (exact absurd (hc.symm.trans (by assumption : _ = true)) (by decide))) | skip)) | (refine JC.drawA [] (by kernel_rfl) (by kernel_rfl) ?_) | refine drawK.nn ?_ | refine roundK.nn ?_ | refine roundK.r ?_ | refine roundK.x ?_ | refine loopK.r ?_ | refine loopK.x ?_)
    | fail
  all_goals first | (exfalso; omega) | exact ret1f rfl rfl rfl (fun w1 hw => Gives.of hw ⟨_, _, rfl, mt, hmg⟩)
/-- a variable that holds a map, or nil -/
def NextIn (v : Value) (h : Heap) (nx : Int → Option Int) : Prop := (v = .map none ∧ ∀ x, nx x = none) ∨ ∃ b m, v = .map (some b) ∧ MapT Try.prog 3 ekI evI m b h ∧ ∀ x, mget m x = nx x
/-- what a partial sum becomes -/
def becF (least : Int) (nx : Int → Option Int) (p : Int) : Int := match nx p with | some d => d | none => if least ≤ p then 1048576 else -1048576
theorem sum1_any (p : Int) (bn bs : Nat) (v c0 c1 : Value) (least : Int) (h : Heap) (nx : Int → Option Int) (hn : NextIn v h nx) (hp : 0 ≤ p ∧ p ≤ 1000000000000) (w : World) (hw : Holds h w) (hb : Holds [(bn, .cells ⟨[v]⟩ 94 (0, 0)), (bs, .cells ⟨[c0, c1, .int .i64 least]⟩ 24 (0, 0))] w) :
    Calls Try.prog 61 ⟨[.int .i64 p] ++ [.pointer (some ⟨bn, 0, none⟩), .pointer (some ⟨bs, 0, none⟩)]⟩ w fun e w' => e = .returned (.int .i64 (becF least nx p)) ∧ Below w.heap.size w w' := by
  have hall : Holds (h ++ [(bn, .cells ⟨[v]⟩ 94 (0, 0)), (bs, .cells ⟨[c0, c1, .int .i64 least]⟩ 24 (0, 0))]) w := fun x hx => (List.mem_append.1 hx).elim (hw x) (hb x)
  clear hw hb
  unfold becF
  simp only [List.cons_append, List.nil_append]
  rcases hn with ⟨rfl, hn⟩ | ⟨b, m, rfl, mt, hn⟩
  · have q1 : Rd (h ++ [(bn, .cells ⟨[.map none]⟩ 94 (0, 0)), (bs, .cells ⟨[c0, c1, .int .i64 least]⟩ 24 (0, 0))]) [] bn (.cells ⟨[.map none]⟩ 94 (0, 0)) := .inl (by simp)
    have q2 : Rd (h ++ [(bn, .cells ⟨[.map none]⟩ 94 (0, 0)), (bs, .cells ⟨[c0, c1, .int .i64 least]⟩ 24 (0, 0))]) [] bs (.cells ⟨[c0, c1, .int .i64 least]⟩ 24 (0, 0)) := .inl (by simp)
    rw [hn p]
    refine calls_of_JC (R := _) Try.func61 Try.ntmps61 rfl rfl (hall) ?_
    repeat' first
      | (refine J.isJ ?_; first | ((refine J.o 9 ?_; refine J.lkN keyedI ekI (keyI p (by omega)) hΓ ?_)) | (first | (refine J.o 0 ?_; refine J.ev' hΓ ?_) | refine J.nil ?_ | refine J.kd ?_ | (refine J.o 4 ?_; first | refine J.e0 hΓ ?_ | refine J.lT default hΓ ?_ | refine J.e1 hΓ ?_ | refine J.e2 hΓ ?_ | refine J.lR hΓ ?_) | (refine J.o 3 ?_; first | refine J.iA hΓ ?_ | refine J.iJ hΓ ?_ | refine J.fP hΓ ?_ | refine J.iC hΓ ?_ | refine J.ev' hΓ ?_) | (refine J.o 1 ?_; first | refine J.ad ?_ | refine J.sb ?_ | refine J.ng ?_ | refine J.mu ?_) | (refine J.o 5 ?_; first | refine J.t0 hΓ ?_ | refine J.t1 hΓ ?_ | refine J.t2 hΓ ?_) | (refine J.o 6 ?_; refine J.bx (fun _ => ?_)) | (refine J.o 7 ?_; refine J.al hΓ (fun _ => ?_)) | (refine J.o 8 ?_; refine J.bd hΓ ?_) | (refine J.o 9 ?_; refine J.bl hΓ (fun _ => ?_)) | (refine J.o 10 ?_; first | refine J.ls hΓ ?_ | refine J.ev' hΓ ?_) | (refine J.o 11 ?_; refine J.ev' hΓ ?_) | refine J.kn ?_) | ((fail_if_success refine J.wt ?_); refine J.gc rfl rfl (fun hc => ?_) (fun hc => ?_) <;> ((try simp only [decide_eq_true_eq, decide_eq_false_iff_not, beq_iff_eq, beq_eq_false_iff_ne, bne_iff_ne, bne_eq_false_iff_eq, Bool.not_eq_true', Bool.not_eq_false', Bool.not_eq_true, Bool.not_eq_false] at hc) <;> first | (first | (exact absurd rfl hc) | (exfalso; omega) | (exact absurd (hc.symm.trans (by assumption : _ = false)) (by decide)) | (exact absurd (hc.symm.trans (by assumption : _ = true)) (by decide))) | skip)))
      | (first | refine JC.seq ?_ | refine JC.region ?_ | refine JC.block ?_ | refine JC.ret ?_ | refine JC.exit ?_ | refine JC.skip ?_ | refine thenK.nn ?_ | refine thenK.r ?_ | refine thenK.x ?_ | refine blockK.nn ?_ | refine blockK.r ?_ | refine blockK.hit rfl ?_ | refine blockK.miss rfl ?_ | refine JC.condT rfl ?_ | refine JC.condF rfl ?_ | (refine JC.cond rfl (fun hc => ?_) (fun hc => ?_) <;> ((try simp only [decide_eq_true_eq, decide_eq_false_iff_not, beq_iff_eq, beq_eq_false_iff_ne, bne_iff_ne, bne_eq_false_iff_eq, Bool.not_eq_true', Bool.not_eq_false', Bool.not_eq_true, Bool.not_eq_false] at hc) <;> first | (first | (exact absurd rfl hc) | (exfalso; omega) | (exact absurd (hc.symm.trans (by assumption : _ = false)) (by decide)) | (exact absurd (hc.symm.trans (by assumption : _ = true)) (by decide))) | skip)) | (refine JC.drawA [] (by kernel_rfl) (by kernel_rfl) ?_) | refine drawK.nn ?_ | refine roundK.nn ?_ | refine roundK.r ?_ | refine roundK.x ?_ | refine loopK.r ?_ | refine loopK.x ?_)
      | (fail)
      | fail
    all_goals first | (exfalso; omega) | skip
    all_goals refine ret1f rfl rfl rfl (fun w1 hw => ⟨retI ?_, hw.below⟩)
    all_goals (clear hw q1 q2; simp_all)
  · have q1 : Rd (h ++ [(bn, .cells ⟨[.map (some b)]⟩ 94 (0, 0)), (bs, .cells ⟨[c0, c1, .int .i64 least]⟩ 24 (0, 0))]) [] bn (.cells ⟨[.map (some b)]⟩ 94 (0, 0)) := .inl (by simp)
    have q2 : Rd (h ++ [(bn, .cells ⟨[.map (some b)]⟩ 94 (0, 0)), (bs, .cells ⟨[c0, c1, .int .i64 least]⟩ 24 (0, 0))]) [] bs (.cells ⟨[c0, c1, .int .i64 least]⟩ 24 (0, 0)) := .inl (by simp)
    rw [← hn p]
    refine calls_of_JC (R := _) Try.func61 Try.ntmps61 rfl rfl (hall) ?_
    cases hm : mget m p with
    | none =>
      repeat' first
        | (refine J.isJ ?_; first | ((refine J.o 9 ?_; refine J.lk keyedI ekI_inj mt (RdH.old fun x hx => List.mem_append_left _ hx) (keyI p (by omega)) hΓ ?_; rw [hm])) | (first | (refine J.o 0 ?_; refine J.ev' hΓ ?_) | refine J.nil ?_ | refine J.kd ?_ | (refine J.o 4 ?_; first | refine J.e0 hΓ ?_ | refine J.lT default hΓ ?_ | refine J.e1 hΓ ?_ | refine J.e2 hΓ ?_ | refine J.lR hΓ ?_) | (refine J.o 3 ?_; first | refine J.iA hΓ ?_ | refine J.iJ hΓ ?_ | refine J.fP hΓ ?_ | refine J.iC hΓ ?_ | refine J.ev' hΓ ?_) | (refine J.o 1 ?_; first | refine J.ad ?_ | refine J.sb ?_ | refine J.ng ?_ | refine J.mu ?_) | (refine J.o 5 ?_; first | refine J.t0 hΓ ?_ | refine J.t1 hΓ ?_ | refine J.t2 hΓ ?_) | (refine J.o 6 ?_; refine J.bx (fun _ => ?_)) | (refine J.o 7 ?_; refine J.al hΓ (fun _ => ?_)) | (refine J.o 8 ?_; refine J.bd hΓ ?_) | (refine J.o 9 ?_; refine J.bl hΓ (fun _ => ?_)) | (refine J.o 10 ?_; first | refine J.ls hΓ ?_ | refine J.ev' hΓ ?_) | (refine J.o 11 ?_; refine J.ev' hΓ ?_) | refine J.kn ?_) | ((fail_if_success refine J.wt ?_); refine J.gc rfl rfl (fun hc => ?_) (fun hc => ?_) <;> ((try simp only [decide_eq_true_eq, decide_eq_false_iff_not, beq_iff_eq, beq_eq_false_iff_ne, bne_iff_ne, bne_eq_false_iff_eq, Bool.not_eq_true', Bool.not_eq_false', Bool.not_eq_true, Bool.not_eq_false] at hc) <;> first | (first | (exact absurd rfl hc) | (exfalso; omega) | (exact absurd (hc.symm.trans (by assumption : _ = false)) (by decide)) | (exact absurd (hc.symm.trans (by assumption : _ = true)) (by decide))) | skip)))
        | (first | refine JC.seq ?_ | refine JC.region ?_ | refine JC.block ?_ | refine JC.ret ?_ | refine JC.exit ?_ | refine JC.skip ?_ | refine thenK.nn ?_ | refine thenK.r ?_ | refine thenK.x ?_ | refine blockK.nn ?_ | refine blockK.r ?_ | refine blockK.hit rfl ?_ | refine blockK.miss rfl ?_ | refine JC.condT rfl ?_ | refine JC.condF rfl ?_ | (refine JC.cond rfl (fun hc => ?_) (fun hc => ?_) <;> ((try simp only [decide_eq_true_eq, decide_eq_false_iff_not, beq_iff_eq, beq_eq_false_iff_ne, bne_iff_ne, bne_eq_false_iff_eq, Bool.not_eq_true', Bool.not_eq_false', Bool.not_eq_true, Bool.not_eq_false] at hc) <;> first | (first | (exact absurd rfl hc) | (exfalso; omega) | (exact absurd (hc.symm.trans (by assumption : _ = false)) (by decide)) | (exact absurd (hc.symm.trans (by assumption : _ = true)) (by decide))) | skip)) | (refine JC.drawA [] (by kernel_rfl) (by kernel_rfl) ?_) | refine drawK.nn ?_ | refine roundK.nn ?_ | refine roundK.r ?_ | refine roundK.x ?_ | refine loopK.r ?_ | refine loopK.x ?_)
        | (fail)
        | fail
      all_goals first | (exfalso; omega) | skip
      all_goals refine ret1f rfl rfl rfl (fun w1 hw => ⟨retI ?_, hw.below⟩)
      all_goals (clear hw q1 q2; simp_all)
    | some d =>
      repeat' first
        | (refine J.isJ ?_; first | ((refine J.o 9 ?_; refine J.lk keyedI ekI_inj mt (RdH.old fun x hx => List.mem_append_left _ hx) (keyI p (by omega)) hΓ ?_; rw [hm])) | (first | (refine J.o 0 ?_; refine J.ev' hΓ ?_) | refine J.nil ?_ | refine J.kd ?_ | (refine J.o 4 ?_; first | refine J.e0 hΓ ?_ | refine J.lT default hΓ ?_ | refine J.e1 hΓ ?_ | refine J.e2 hΓ ?_ | refine J.lR hΓ ?_) | (refine J.o 3 ?_; first | refine J.iA hΓ ?_ | refine J.iJ hΓ ?_ | refine J.fP hΓ ?_ | refine J.iC hΓ ?_ | refine J.ev' hΓ ?_) | (refine J.o 1 ?_; first | refine J.ad ?_ | refine J.sb ?_ | refine J.ng ?_ | refine J.mu ?_) | (refine J.o 5 ?_; first | refine J.t0 hΓ ?_ | refine J.t1 hΓ ?_ | refine J.t2 hΓ ?_) | (refine J.o 6 ?_; refine J.bx (fun _ => ?_)) | (refine J.o 7 ?_; refine J.al hΓ (fun _ => ?_)) | (refine J.o 8 ?_; refine J.bd hΓ ?_) | (refine J.o 9 ?_; refine J.bl hΓ (fun _ => ?_)) | (refine J.o 10 ?_; first | refine J.ls hΓ ?_ | refine J.ev' hΓ ?_) | (refine J.o 11 ?_; refine J.ev' hΓ ?_) | refine J.kn ?_) | ((fail_if_success refine J.wt ?_); refine J.gc rfl rfl (fun hc => ?_) (fun hc => ?_) <;> ((try simp only [decide_eq_true_eq, decide_eq_false_iff_not, beq_iff_eq, beq_eq_false_iff_ne, bne_iff_ne, bne_eq_false_iff_eq, Bool.not_eq_true', Bool.not_eq_false', Bool.not_eq_true, Bool.not_eq_false] at hc) <;> first | (first | (exact absurd rfl hc) | (exfalso; omega) | (exact absurd (hc.symm.trans (by assumption : _ = false)) (by decide)) | (exact absurd (hc.symm.trans (by assumption : _ = true)) (by decide))) | skip)))
        | (first | refine JC.seq ?_ | refine JC.region ?_ | refine JC.block ?_ | refine JC.ret ?_ | refine JC.exit ?_ | refine JC.skip ?_ | refine thenK.nn ?_ | refine thenK.r ?_ | refine thenK.x ?_ | refine blockK.nn ?_ | refine blockK.r ?_ | refine blockK.hit rfl ?_ | refine blockK.miss rfl ?_ | refine JC.condT rfl ?_ | refine JC.condF rfl ?_ | (refine JC.cond rfl (fun hc => ?_) (fun hc => ?_) <;> ((try simp only [decide_eq_true_eq, decide_eq_false_iff_not, beq_iff_eq, beq_eq_false_iff_ne, bne_iff_ne, bne_eq_false_iff_eq, Bool.not_eq_true', Bool.not_eq_false', Bool.not_eq_true, Bool.not_eq_false] at hc) <;> first | (first | (exact absurd rfl hc) | (exfalso; omega) | (exact absurd (hc.symm.trans (by assumption : _ = false)) (by decide)) | (exact absurd (hc.symm.trans (by assumption : _ = true)) (by decide))) | skip)) | (refine JC.drawA [] (by kernel_rfl) (by kernel_rfl) ?_) | refine drawK.nn ?_ | refine roundK.nn ?_ | refine roundK.r ?_ | refine roundK.x ?_ | refine loopK.r ?_ | refine loopK.x ?_)
        | (fail)
        | fail
      all_goals first | (exfalso; omega) | skip
      all_goals refine ret1f rfl rfl rfl (fun w1 hw => ⟨retI ?_, hw.below⟩)
      all_goals (clear hw q1 q2; simp_all)
end Go.Proofs.Ytinpcimogojefaa
