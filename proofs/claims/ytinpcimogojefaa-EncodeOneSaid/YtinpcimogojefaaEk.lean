/- encode.sums: rowsF. -/
import Derived.Test.YtinpcimogojefaaEh
import Derived.Test.YtinpcimogojefaaEz
namespace Go.Proofs.Ytinpcimogojefaa
open Go Go.Cx Go.RowKit
set_option linter.unusedVariables false
set_option linter.unusedSimpArgs false
set_option maxHeartbeats 4000000
attribute [local irreducible] J JC thenK blockK loopK roundK drawK retK QW Qt pel List.set Calls
open Go.Maps
attribute [local irreducible] JE Br eK0 eK2 eK3 brK
/-- rows, each in a fragment of its own -/
def rowsO : List HV → List Heap → Prop
  | [], [] => True
  | v :: vs, h :: hs => OwT encI 1 3 v.a v.c v.l h ∧ rowsO vs hs
  | _, _ => False
theorem rowsO_app : ∀ (vs : List HV) (hs : List Heap) (v : HV) (h : Heap), rowsO vs hs → OwT encI 1 3 v.a v.c v.l h → rowsO (vs ++ [v]) (hs ++ [h])
  | [], [], v, h, _, o => ⟨o, trivial⟩
  | x :: vs, y :: hs, v, h, a, o => ⟨a.1, rowsO_app vs hs v h a.2 o⟩
  | [], _ :: _, _, _, a, _ => a.elim
  | _ :: _, [], _, _, a, _ => a.elim
theorem rowsO_mem : ∀ (vs : List HV) (hs : List Heap), rowsO vs hs → ∀ v, v ∈ vs → SlT encI 1 v.a v.l hs.flatten
  | [], [], _, v, hv => by cases hv
  | x :: vs, y :: hs, a, v, hv => by
    rw [List.flatten_cons]
    rcases List.mem_cons.1 hv with rfl | hv
    · exact a.1.sl.sub (fun _ hx => List.mem_append_left _ hx)
    · exact (rowsO_mem vs hs a.2 v hv).sub (fun _ hx => List.mem_append_right _ hx)
  | [], _ :: _, a, _, _ => a.elim
  | _ :: _, [], a, _, _ => a.elim
/-- a list of lists of the call's own -/
def LLO (a : Option Addr) (cap : Nat) (vs : List HV) (g : Heap) : Prop := ∃ g0 hs, g = g0 ++ hs.flatten ∧ OwT encHV 1 22 a cap vs g0 ∧ rowsO vs hs
theorem LLO.r {a : Option Addr} {cap : Nat} {vs : List HV} {g : Heap} (h : LLO a cap vs g) : LLR a vs g := by
  obtain ⟨g0, hs, rfl, o, r⟩ := h
  exact ⟨o.sl.sub (fun _ hx => List.mem_append_left _ hx), fun v hv => (rowsO_mem vs hs r v hv).sub (fun _ hx => List.mem_append_right _ hx)⟩
theorem keyI (x : Int) (h : -9223372036854775808 ≤ x ∧ x ≤ 9223372036854775807) : ∃ l, keyOf Try.prog 3 (ekI x) = some l := ⟨_, keyOf_int_mk (q := .i64) (a := x) Try.underlying3 (by
  show (decide ((-9223372036854775808 : Int) ≤ x) && decide (x ≤ (9223372036854775807 : Int))) = true
  simp [h])⟩
theorem keys_len {m : List (Int × Bool)} {now : List Int} (hn : (m.map (·.1)).Nodup) (ha : asc now) (hk : ∀ x, x ∈ m.map (·.1) ↔ x ∈ now) : m.length = now.length := by
  have := congrArg List.length (sort_asc _ _ hn ha hk)
  rw [List.length_mergeSort, List.length_map] at this
  exact this
theorem ekI_inj (x y : Int) (e : ekI x = ekI y) : x = y := by simpa [ekI] using e
theorem delQ_eq (least rest x : Int) (hx : -9223372036854775808 ≤ x + rest ∧ x + rest ≤ 9223372036854775807) : (!delQ least rest x) = (decide (x < least) && decide (least ≤ x + rest)) := by
  unfold delQ
  rw [IntWalk.i64_in _ hx]
  by_cases h1 : least ≤ x <;> by_cases h2 : x + rest < least <;> simp [h1, h2] <;> omega
theorem del_keys {m m' : List (Int × Bool)} {now : List Int} {least rest : Int} (hp : m'.Perm (m.filter fun p => !delQ least rest p.1)) (hk : ∀ x, x ∈ m.map (·.1) ↔ x ∈ now) (hb : ∀ x, x ∈ now → -9223372036854775808 ≤ x + rest ∧ x + rest ≤ 9223372036854775807) : ∀ x, x ∈ m'.map (·.1) ↔ x ∈ undec least rest now := by
  intro x
  rw [(hp.map (·.1)).mem_iff, undec_mem, List.mem_map]
  constructor
  · rintro ⟨p, hp, rfl⟩
    rw [List.mem_filter] at hp
    have hn := (hk p.1).1 (List.mem_map_of_mem hp.1)
    have h2 := hp.2
    rw [delQ_eq _ _ _ (hb _ hn)] at h2
    simp only [Bool.and_eq_true, decide_eq_true_eq] at h2
    exact ⟨hn, h2⟩
  · rintro ⟨hx, h2⟩
    obtain ⟨p, hp, rfl⟩ := List.mem_map.1 ((hk x).2 hx)
    refine ⟨p, List.mem_filter.2 ⟨hp, ?_⟩, rfl⟩
    rw [delQ_eq _ _ _ (hb _ hx)]
    simp [h2]
theorem mput_mem (m : List (Int × Bool)) (x y : Int) (b : Bool) : y ∈ (mput m x b).map (·.1) ↔ y = x ∨ y ∈ m.map (·.1) := by
  rw [mput_keys]
  split
  · rename_i h
    have : x ∈ m.map (·.1) := by simpa using h
    constructor
    · exact .inr
    · rintro (rfl | h)
      · exact this
      · exact h
  · simp only [List.mem_append, List.mem_singleton]
    constructor
    · rintro (h | h) <;> simp [h]
    · rintro (h | h) <;> simp [h]
theorem holds2 {a b : Nat} {x y : Obj} {w : World} (h1 : w.heap[a]? = some x) (h2 : w.heap[b]? = some y) : Holds [(a, x), (b, y)] w := fun p hp => by
  rcases List.mem_cons.1 hp with rfl | hp
  · exact h1
  · rw [List.mem_singleton.1 hp]; exact h2
theorem eSums : Entr Try.prog 35 := Entr.of Try.func35 rfl rfl
theorem eKeys : Entr Try.prog 56 := Entr.of Try.func56 rfl rfl
theorem eSorted : Entr Try.prog 55 := Entr.of Try.func55 rfl rfl
theorem eDel : Entr Try.prog 53 := Entr.of Try.func53 rfl rfl
def SumsR (least : Int) (cs : List Int) (most : Int) (v : Value) (g : Heap) : Prop := ∃ a cap vs many, v = .tuple #[.slice a vs.length cap, .int .i64 many] ∧ LLO a cap vs g ∧
  (((totF (rowsF least cs [0]) : Int) ≤ most ∧ many = totF (rowsF least cs [0]) ∧ vs.map (·.l) = rowsF least cs [0]) ∨ (most < (totF (rowsF least cs [0]) : Int) ∧ most < many ∧ many ≤ 1000))
theorem sums_any (s : SV) (most : Int) (h : Heap) (hs : SIn s h) (hcb : ∀ c, c ∈ s.cs → 0 ≤ c ∧ c ≤ 1000000000) (hl : s.cs.length ≤ 129) (hmost : 0 ≤ most ∧ most ≤ 128) (w : World) (hw : Holds h w) :
    Calls Try.prog 35 #[.agg ⟨encSV s⟩, .int .i64 most] w (Gives (SumsR s.least s.cs most) w) := by
  obtain ⟨hsc, hsl⟩ := hs
  obtain ⟨ca, cc, cs, la, lc, ls, least⟩ := s
  simp only [encSV] at hsc hsl hcb hl ⊢
  have hc0 : ∀ c, c ∈ cs → 0 ≤ c := fun c hm => (hcb c hm).1
  refine calls_of_JC (R := h) Try.func35 Try.ntmps35 rfl rfl (hw) ?_
  repeat' first
    | (refine J.isJ ?_; (first | (first | (refine J.o 0 ?_; refine J.ev' hΓ ?_) | refine J.nil ?_ | refine J.kd ?_ | (refine J.o 4 ?_; first | refine J.e0 hΓ ?_ | refine J.lT default hΓ ?_ | refine J.e1 hΓ ?_ | refine J.e2 hΓ ?_ | refine J.lR hΓ ?_) | (refine J.o 3 ?_; first | refine J.iA hΓ ?_ | refine J.iJ hΓ ?_ | refine J.fP hΓ ?_ | refine J.iC hΓ ?_ | refine J.ev' hΓ ?_) | (refine J.o 1 ?_; first | refine J.ad ?_ | refine J.sb ?_ | refine J.ng ?_ | refine J.mu ?_) | (refine J.o 5 ?_; first | refine J.t0 hΓ ?_ | refine J.t1 hΓ ?_ | refine J.t2 hΓ ?_) | (refine J.o 6 ?_; refine J.bx (fun _ => ?_)) | (refine J.o 7 ?_; refine J.al hΓ (fun _ => ?_)) | (refine J.o 8 ?_; refine J.bd hΓ ?_) | (refine J.o 9 ?_; refine J.bl hΓ (fun _ => ?_)) | (refine J.o 10 ?_; first | refine J.ls hΓ ?_ | refine J.ev' hΓ ?_) | (refine J.o 11 ?_; refine J.ev' hΓ ?_) | refine J.kn ?_) | ((fail_if_success refine J.wt ?_); refine J.gc rfl rfl (fun hc => ?_) (fun hc => ?_) <;> ((try simp only [decide_eq_true_eq, decide_eq_false_iff_not, beq_iff_eq, beq_eq_false_iff_ne, bne_iff_ne, bne_eq_false_iff_eq, Bool.not_eq_true', Bool.not_eq_false', Bool.not_eq_true, Bool.not_eq_false] at hc) <;> first | (first | (exact absurd rfl hc) | (exfalso; omega) | (exact absurd (hc.symm.trans (by assumption : _ = false)) (by decide)) | (exact absurd (hc.symm.trans (by assumption : _ = true)) (by decide))) | skip))))
    | (first | refine JC.seq ?_ | refine JC.region ?_ | refine JC.block ?_ | refine JC.ret ?_ | refine JC.exit ?_ | refine JC.skip ?_ | refine thenK.nn ?_ | refine thenK.r ?_ | refine thenK.x ?_ | refine blockK.nn ?_ | refine blockK.r ?_ | refine blockK.hit rfl ?_ | refine blockK.miss rfl ?_ | refine JC.condT rfl ?_ | refine JC.condF rfl ?_ | (refine JC.cond rfl (fun hc => ?_) (fun hc => ?_) <;> ((try simp only [decide_eq_true_eq, decide_eq_false_iff_not, beq_iff_eq, beq_eq_false_iff_ne, bne_iff_ne, bne_eq_false_iff_eq, Bool.not_eq_true', Bool.not_eq_false', Bool.not_eq_true, Bool.not_eq_false] at hc) <;> first | (first | (exact absurd rfl hc) | (exfalso; omega) | (exact absurd (hc.symm.trans (by assumption : _ = false)) (by decide)) | (exact absurd (hc.symm.trans (by assumption : _ = true)) (by decide))) | skip)) | (refine JC.drawA [] (by kernel_rfl) (by kernel_rfl) ?_) | refine drawK.nn ?_ | refine roundK.nn ?_ | refine roundK.r ?_ | refine roundK.x ?_ | refine loopK.r ?_ | refine loopK.x ?_)
    | fail
  rename_i b2 b6
  refine JC.gen [(1, .int .i64 most), (2, .pointer (some ⟨b2, 0, none⟩)), (4, .slice none 0 0), (5, .int .i64 0), (6, .pointer (some ⟨b6, 0, none⟩)), (17, .slice ca cs.length cc), (18, .int .i64 cs.length), (19, .int .i64 0)] ⟨rfl, rfl, rfl, rfl, rfl, rfl, rfl, rfl, trivial⟩ (fun F => ?_)
  refine JC.loop (fun i => i == 8 || (Nat.ble 19 i && Nat.ble i 26)) (fun m g L => ∃ (k : Nat), g 19 = .int .i64 (k : Int) ∧ k + m = cs.length ∧ L = [[(b6, .cells ⟨[.int .i64 (sumI (cs.take k))]⟩ 3 (0, 0))], [(b2, .cells ⟨[.slice ca cs.length cc, .slice la ls.length lc, .int .i64 least]⟩ 24 (0, 0))]]) cs.length ⟨0, rfl, by omega, rfl⟩ ?_
  rintro m g L ⟨k, e19, hkm, rfl⟩
  refine JC.pin 19 e19 ?_
  clear e19
  have htk := sumI_le (cs.take k) (fun c hm => hcb c (List.mem_of_mem_take hm))
  have htn := sumI_nn (cs.take k) (fun c hm => hc0 c (List.mem_of_mem_take hm))
  rw [List.length_take] at htk
  rcases Nat.lt_or_ge k cs.length with hk | hk
  case inl =>
    have hck := hcb _ (getD_mem cs k hk)
    have hst : sumI (cs.take (k + 1)) = sumI (cs.take k) + cs.getD k default := by rw [← take_one cs k hk, sumI_app, sumI_one]
    repeat' first
      | (refine J.isJ ?_; (first | (first | (refine J.o 0 ?_; refine J.ev' hΓ ?_) | refine J.nil ?_ | refine J.kd ?_ | (refine J.o 4 ?_; first | refine J.e0 hΓ ?_ | refine J.lT default hΓ ?_ | refine J.e1 hΓ ?_ | refine J.e2 hΓ ?_ | refine J.lR hΓ ?_) | (refine J.o 3 ?_; first | refine J.iA hΓ ?_ | refine J.iJ hΓ ?_ | refine J.fP hΓ ?_ | refine J.iC hΓ ?_ | refine J.ev' hΓ ?_) | (refine J.o 1 ?_; first | refine J.ad ?_ | refine J.sb ?_ | refine J.ng ?_ | refine J.mu ?_) | (refine J.o 5 ?_; first | refine J.t0 hΓ ?_ | refine J.t1 hΓ ?_ | refine J.t2 hΓ ?_) | (refine J.o 6 ?_; refine J.bx (fun _ => ?_)) | (refine J.o 7 ?_; refine J.al hΓ (fun _ => ?_)) | (refine J.o 8 ?_; refine J.bd hΓ ?_) | (refine J.o 9 ?_; refine J.bl hΓ (fun _ => ?_)) | (refine J.o 10 ?_; first | refine J.ls hΓ ?_ | refine J.ev' hΓ ?_) | (refine J.o 11 ?_; refine J.ev' hΓ ?_) | refine J.kn ?_) | ((fail_if_success refine J.wt ?_); refine J.gc rfl rfl (fun hc => ?_) (fun hc => ?_) <;> ((try simp only [decide_eq_true_eq, decide_eq_false_iff_not, beq_iff_eq, beq_eq_false_iff_ne, bne_iff_ne, bne_eq_false_iff_eq, Bool.not_eq_true', Bool.not_eq_false', Bool.not_eq_true, Bool.not_eq_false] at hc) <;> first | (first | (exact absurd rfl hc) | (exfalso; omega) | (exact absurd (hc.symm.trans (by assumption : _ = false)) (by decide)) | (exact absurd (hc.symm.trans (by assumption : _ = true)) (by decide))) | skip))))
      | (first | refine JC.seq ?_ | refine JC.region ?_ | refine JC.block ?_ | refine JC.ret ?_ | refine JC.exit ?_ | refine JC.skip ?_ | refine thenK.nn ?_ | refine thenK.r ?_ | refine thenK.x ?_ | refine blockK.nn ?_ | refine blockK.r ?_ | refine blockK.hit rfl ?_ | refine blockK.miss rfl ?_ | refine JC.condT rfl ?_ | refine JC.condF rfl ?_ | (refine JC.cond rfl (fun hc => ?_) (fun hc => ?_) <;> ((try simp only [decide_eq_true_eq, decide_eq_false_iff_not, beq_iff_eq, beq_eq_false_iff_ne, bne_iff_ne, bne_eq_false_iff_eq, Bool.not_eq_true', Bool.not_eq_false', Bool.not_eq_true, Bool.not_eq_false] at hc) <;> first | (first | (exact absurd rfl hc) | (exfalso; omega) | (exact absurd (hc.symm.trans (by assumption : _ = false)) (by decide)) | (exact absurd (hc.symm.trans (by assumption : _ = true)) (by decide))) | skip)) | (refine JC.drawA [] (by kernel_rfl) (by kernel_rfl) ?_) | refine drawK.nn ?_ | refine roundK.nn ?_ | refine roundK.r ?_ | refine roundK.x ?_ | refine loopK.r ?_ | refine loopK.x ?_)
      | fail
    all_goals first | (exfalso; omega) | skip
    all_goals refine loopK.nn (m - 1) (by omega) (by repeat (first | refine Ag.upd rfl ?_ | exact Ag.hv)) ⟨k + 1, by show Value.int .i64 _ = _; congr 1, by omega, by rw [hst]⟩
  rw [List.take_of_length_le hk] at htk htn ⊢
  repeat' first
    | (refine J.isJ ?_; first | (first | (refine J.o 9 ?_; first | refine J.mkm (fun b9 => ?_) | refine J.ins (ev := evB) true keyedI ekI_inj (MapT.nil _) (keyI 0 (by omega)) hΓ (fun h9 mt0 => ?_))) | (first | (refine J.o 0 ?_; refine J.ev' hΓ ?_) | refine J.nil ?_ | refine J.kd ?_ | (refine J.o 4 ?_; first | refine J.e0 hΓ ?_ | refine J.lT default hΓ ?_ | refine J.e1 hΓ ?_ | refine J.e2 hΓ ?_ | refine J.lR hΓ ?_) | (refine J.o 3 ?_; first | refine J.iA hΓ ?_ | refine J.iJ hΓ ?_ | refine J.fP hΓ ?_ | refine J.iC hΓ ?_ | refine J.ev' hΓ ?_) | (refine J.o 1 ?_; first | refine J.ad ?_ | refine J.sb ?_ | refine J.ng ?_ | refine J.mu ?_) | (refine J.o 5 ?_; first | refine J.t0 hΓ ?_ | refine J.t1 hΓ ?_ | refine J.t2 hΓ ?_) | (refine J.o 6 ?_; refine J.bx (fun _ => ?_)) | (refine J.o 7 ?_; refine J.al hΓ (fun _ => ?_)) | (refine J.o 8 ?_; refine J.bd hΓ ?_) | (refine J.o 9 ?_; refine J.bl hΓ (fun _ => ?_)) | (refine J.o 10 ?_; first | refine J.ls hΓ ?_ | refine J.ev' hΓ ?_) | (refine J.o 11 ?_; refine J.ev' hΓ ?_) | refine J.kn ?_) | ((fail_if_success refine J.wt ?_); refine J.gc rfl rfl (fun hc => ?_) (fun hc => ?_) <;> ((try simp only [decide_eq_true_eq, decide_eq_false_iff_not, beq_iff_eq, beq_eq_false_iff_ne, bne_iff_ne, bne_eq_false_iff_eq, Bool.not_eq_true', Bool.not_eq_false', Bool.not_eq_true, Bool.not_eq_false] at hc) <;> first | (first | (exact absurd rfl hc) | (exfalso; omega) | (exact absurd (hc.symm.trans (by assumption : _ = false)) (by decide)) | (exact absurd (hc.symm.trans (by assumption : _ = true)) (by decide))) | skip)))
    | (first | refine JC.seq ?_ | refine JC.region ?_ | refine JC.block ?_ | refine JC.ret ?_ | refine JC.exit ?_ | refine JC.skip ?_ | refine thenK.nn ?_ | refine thenK.r ?_ | refine thenK.x ?_ | refine blockK.nn ?_ | refine blockK.r ?_ | refine blockK.hit rfl ?_ | refine blockK.miss rfl ?_ | refine JC.condT rfl ?_ | refine JC.condF rfl ?_ | (refine JC.cond rfl (fun hc => ?_) (fun hc => ?_) <;> ((try simp only [decide_eq_true_eq, decide_eq_false_iff_not, beq_iff_eq, beq_eq_false_iff_ne, bne_iff_ne, bne_eq_false_iff_eq, Bool.not_eq_true', Bool.not_eq_false', Bool.not_eq_true, Bool.not_eq_false] at hc) <;> first | (first | (exact absurd rfl hc) | (exfalso; omega) | (exact absurd (hc.symm.trans (by assumption : _ = false)) (by decide)) | (exact absurd (hc.symm.trans (by assumption : _ = true)) (by decide))) | skip)) | (refine JC.drawA [] (by kernel_rfl) (by kernel_rfl) ?_) | refine drawK.nn ?_ | refine roundK.nn ?_ | refine roundK.r ?_ | refine roundK.x ?_ | refine loopK.r ?_ | refine loopK.x ?_)
    | (fail)
    | fail
  all_goals first | (exfalso; omega) | skip
  refine JC.nilF (JC.perm br3.symm (JC.nilF (JC.perm br1 ?_)))
  refine JC.gen [(1, .int .i64 most), (2, .pointer (some ⟨b2, 0, none⟩)), (4, .slice none 0 0), (5, .int .i64 0), (6, .pointer (some ⟨b6, 0, none⟩)), (9, .map (some b9)), (30, .slice ca cs.length cc), (31, .int .i64 cs.length), (32, .int .i64 0)] ⟨rfl, rfl, rfl, rfl, rfl, rfl, rfl, rfl, rfl, trivial⟩ (fun F2 => ?_)
  clear hkm hk hc htk htn g m k F
  refine JC.loopG (fun i => i == 4 || i == 5 || (Nat.ble 8 i && Nat.ble i 15) || Nat.ble 32 i) (fun m g L => ∃ (k : Nat) (aa : Option Addr) (ka : Nat) (vs : List HV) (ho : Heap) (hs : List Heap) (mm : List (Int × Bool)) (bm : Nat) (hm : Heap) (now : List Int) (done : List (List Int)), g 32 = .int .i64 (k : Int) ∧ g 5 = .int .i64 (totF done : Int) ∧ g 4 = .slice aa vs.length ka ∧ g 9 = .map (some bm) ∧ k + m = cs.length ∧ At least cs k done now ∧ vs.map (·.l) = done ∧ (totF done : Int) ≤ most ∧ now.length ≤ 257 ∧ OwT encHV 1 22 aa ka vs ho ∧ rowsO vs hs ∧ MapT Try.prog 3 ekI evB mm bm hm ∧ (∀ x, x ∈ mm.map (·.1) ↔ x ∈ now) ∧
      L = [hm, ho, [(b6, .cells ⟨[.int .i64 (sumI (cs.drop k))]⟩ 3 (0, 0))], [(b2, .cells ⟨[.slice ca cs.length cc, .slice la ls.length lc, .int .i64 least]⟩ 24 (0, 0))], hs.flatten]) cs.length
    ⟨0, none, 0, [], [], [], _, b9, h9, [0], [], rfl, rfl, rfl, rfl, by omega, At.zero _ _, rfl, by simp [totF]; omega, by simp, OwT.nil (fun _ => rfl), trivial, mt0, by simp [mput], rfl⟩ ?_
  clear mt0
  rintro m g L ⟨k, aa, ka, vs, ho, hs, mm, bm, hm, now, done, e32, e5, e4, e9, hkm, hat, hvs, htot, hnl, oo, oi, mt, hmk, rfl⟩
  refine JC.pin 32 e32 (JC.pin 5 e5 (JC.pin 4 e4 (JC.pin 9 e9 ?_)))
  clear e32 e5 e4 e9
  rcases Nat.lt_or_ge k cs.length with hk | hk
  case inr =>
    have hd := hat.done hk
    rw [hd] at hvs htot
    rw [hd]
    repeat' first
      | (refine J.isJ ?_; (first | (first | (refine J.o 0 ?_; refine J.ev' hΓ ?_) | refine J.nil ?_ | refine J.kd ?_ | (refine J.o 4 ?_; first | refine J.e0 hΓ ?_ | refine J.lT default hΓ ?_ | refine J.e1 hΓ ?_ | refine J.e2 hΓ ?_ | refine J.lR hΓ ?_) | (refine J.o 3 ?_; first | refine J.iA hΓ ?_ | refine J.iJ hΓ ?_ | refine J.fP hΓ ?_ | refine J.iC hΓ ?_ | refine J.ev' hΓ ?_) | (refine J.o 1 ?_; first | refine J.ad ?_ | refine J.sb ?_ | refine J.ng ?_ | refine J.mu ?_) | (refine J.o 5 ?_; first | refine J.t0 hΓ ?_ | refine J.t1 hΓ ?_ | refine J.t2 hΓ ?_) | (refine J.o 6 ?_; refine J.bx (fun _ => ?_)) | (refine J.o 7 ?_; refine J.al hΓ (fun _ => ?_)) | (refine J.o 8 ?_; refine J.bd hΓ ?_) | (refine J.o 9 ?_; refine J.bl hΓ (fun _ => ?_)) | (refine J.o 10 ?_; first | refine J.ls hΓ ?_ | refine J.ev' hΓ ?_) | (refine J.o 11 ?_; refine J.ev' hΓ ?_) | refine J.kn ?_) | ((fail_if_success refine J.wt ?_); refine J.gc rfl rfl (fun hc => ?_) (fun hc => ?_) <;> ((try simp only [decide_eq_true_eq, decide_eq_false_iff_not, beq_iff_eq, beq_eq_false_iff_ne, bne_iff_ne, bne_eq_false_iff_eq, Bool.not_eq_true', Bool.not_eq_false', Bool.not_eq_true, Bool.not_eq_false] at hc) <;> first | (first | (exact absurd rfl hc) | (exfalso; omega) | (exact absurd (hc.symm.trans (by assumption : _ = false)) (by decide)) | (exact absurd (hc.symm.trans (by assumption : _ = true)) (by decide))) | skip))))
      | (first | refine JC.seq ?_ | refine JC.region ?_ | refine JC.block ?_ | refine JC.ret ?_ | refine JC.exit ?_ | refine JC.skip ?_ | refine thenK.nn ?_ | refine thenK.r ?_ | refine thenK.x ?_ | refine blockK.nn ?_ | refine blockK.r ?_ | refine blockK.hit rfl ?_ | refine blockK.miss rfl ?_ | refine JC.condT rfl ?_ | refine JC.condF rfl ?_ | (refine JC.cond rfl (fun hc => ?_) (fun hc => ?_) <;> ((try simp only [decide_eq_true_eq, decide_eq_false_iff_not, beq_iff_eq, beq_eq_false_iff_ne, bne_iff_ne, bne_eq_false_iff_eq, Bool.not_eq_true', Bool.not_eq_false', Bool.not_eq_true, Bool.not_eq_false] at hc) <;> first | (first | (exact absurd rfl hc) | (exfalso; omega) | (exact absurd (hc.symm.trans (by assumption : _ = false)) (by decide)) | (exact absurd (hc.symm.trans (by assumption : _ = true)) (by decide))) | skip)) | (refine JC.drawA [] (by kernel_rfl) (by kernel_rfl) ?_) | refine drawK.nn ?_ | refine roundK.nn ?_ | refine roundK.r ?_ | refine roundK.x ?_ | refine loopK.r ?_ | refine loopK.x ?_)
      | fail
    all_goals first | (exfalso; omega) | skip
    all_goals refine ret2f rfl rfl rfl rfl rfl (fun w1 hw => Gives.of (h := ho ++ hs.flatten) ((hw.perm (br4.trans br2)).mg1) ?_)
    all_goals exact ⟨aa, ka, vs, _, rfl, ⟨ho, hs, rfl, oo, oi⟩, .inl ⟨htot, rfl, hvs⟩⟩
  have hkl : (k : Int) ≤ 128 := by omega
  have hstep := hat.step hk hc0
  have htr := hat.tot hk
  have hnow := hat.rng
  have hnup := hat.up
  have hvl : vs.length = k := by rw [← hat.len, ← hvs, List.length_map]
  clear hat
  have hdk := sumI_le (cs.drop k) (fun c hm => hcb c (List.mem_of_mem_drop hm))
  have hdn := sumI_nn (cs.drop k) (fun c hm => hc0 c (List.mem_of_mem_drop hm))
  have htk := sumI_le (cs.take k) (fun c hm => hcb c (List.mem_of_mem_take hm))
  have hck := hcb _ (getD_mem cs k hk)
  have hd1 : sumI (cs.drop k) = cs.getD k default + sumI (cs.drop (k + 1)) := by rw [drop_one cs k hk, sumI_cons]
  have hd1n := sumI_nn (cs.drop (k + 1)) (fun c hm => hc0 c (List.mem_of_mem_drop hm))
  rw [List.length_drop] at hdk
  rw [List.length_take] at htk
  have hml := keys_len mt.nodup hnup hmk
  change totF done + (undec least (sumI (cs.drop k)) now).length ≤ _ at htr
  change At least cs (k + 1) (done ++ [undec least (sumI (cs.drop k)) now]) (nextF (undec least (sumI (cs.drop k)) now) (cs.getD k default)) at hstep
  have hrl := undec_len least (sumI (cs.drop k)) now
  repeat' first
    | (refine J.isJ ?_; first | (first | (refine J.o 14 ?_; refine J.mfV [.pointer (some ⟨b2, 0, none⟩), .pointer (some ⟨b6, 0, none⟩)] hΓ ?_) | (refine J.fc 53 ?_; refine J.callx eDel rfl rfl (fun w hw => deleteFunc_any (q := fun x y => delQ least (sumI (cs.drop k)) x) 54 eSums1 [.pointer (some ⟨b2, 0, none⟩), .pointer (some ⟨b6, 0, none⟩)] mt (by omega) hw (fun x y W _ hW => sums1_any x y b2 b6 _ _ least _ W (holds2 (hW.rd Rd.hd.tl.tl) (hW.rd Rd.hd.tl)))) ?_; rintro _ _ ⟨rfl, m1, h1, rfl, mt1, hp1⟩; have hk1 := del_keys hp1 hmk (fun x hx => by have := hnow x hx; omega); have hl1 := keys_len mt1.nodup (undec_asc _ _ _ hnup) hk1) | (refine J.o 10 ?_; refine J.lenM mt1 RdH.hd hΓ ?_)) | (first | (refine J.o 0 ?_; refine J.ev' hΓ ?_) | refine J.nil ?_ | refine J.kd ?_ | (refine J.o 4 ?_; first | refine J.e0 hΓ ?_ | refine J.lT default hΓ ?_ | refine J.e1 hΓ ?_ | refine J.e2 hΓ ?_ | refine J.lR hΓ ?_) | (refine J.o 3 ?_; first | refine J.iA hΓ ?_ | refine J.iJ hΓ ?_ | refine J.fP hΓ ?_ | refine J.iC hΓ ?_ | refine J.ev' hΓ ?_) | (refine J.o 1 ?_; first | refine J.ad ?_ | refine J.sb ?_ | refine J.ng ?_ | refine J.mu ?_) | (refine J.o 5 ?_; first | refine J.t0 hΓ ?_ | refine J.t1 hΓ ?_ | refine J.t2 hΓ ?_) | (refine J.o 6 ?_; refine J.bx (fun _ => ?_)) | (refine J.o 7 ?_; refine J.al hΓ (fun _ => ?_)) | (refine J.o 8 ?_; refine J.bd hΓ ?_) | (refine J.o 9 ?_; refine J.bl hΓ (fun _ => ?_)) | (refine J.o 10 ?_; first | refine J.ls hΓ ?_ | refine J.ev' hΓ ?_) | (refine J.o 11 ?_; refine J.ev' hΓ ?_) | refine J.kn ?_) | ((fail_if_success refine J.wt ?_); refine J.gc rfl rfl (fun hc => ?_) (fun hc => ?_) <;> ((try simp only [decide_eq_true_eq, decide_eq_false_iff_not, beq_iff_eq, beq_eq_false_iff_ne, bne_iff_ne, bne_eq_false_iff_eq, Bool.not_eq_true', Bool.not_eq_false', Bool.not_eq_true, Bool.not_eq_false] at hc) <;> first | (first | (exact absurd rfl hc) | (exfalso; omega) | (exact absurd (hc.symm.trans (by assumption : _ = false)) (by decide)) | (exact absurd (hc.symm.trans (by assumption : _ = true)) (by decide))) | skip)))
    | (first | refine JC.seq ?_ | refine JC.region ?_ | refine JC.block ?_ | refine JC.ret ?_ | refine JC.exit ?_ | refine JC.skip ?_ | refine thenK.nn ?_ | refine thenK.r ?_ | refine thenK.x ?_ | refine blockK.nn ?_ | refine blockK.r ?_ | refine blockK.hit rfl ?_ | refine blockK.miss rfl ?_ | refine JC.condT rfl ?_ | refine JC.condF rfl ?_ | (refine JC.cond rfl (fun hc => ?_) (fun hc => ?_) <;> ((try simp only [decide_eq_true_eq, decide_eq_false_iff_not, beq_iff_eq, beq_eq_false_iff_ne, bne_iff_ne, bne_eq_false_iff_eq, Bool.not_eq_true', Bool.not_eq_false', Bool.not_eq_true, Bool.not_eq_false] at hc) <;> first | (first | (exact absurd rfl hc) | (exfalso; omega) | (exact absurd (hc.symm.trans (by assumption : _ = false)) (by decide)) | (exact absurd (hc.symm.trans (by assumption : _ = true)) (by decide))) | skip)) | (refine JC.drawA [] (by kernel_rfl) (by kernel_rfl) ?_) | refine drawK.nn ?_ | refine roundK.nn ?_ | refine roundK.r ?_ | refine roundK.x ?_ | refine loopK.r ?_ | refine loopK.x ?_)
    | (fail)
    | fail
  all_goals first | (exfalso; omega) | skip
  · refine ret2f rfl rfl rfl rfl rfl (fun w1 hw => Gives.of (h := ho ++ hs.flatten) ((hw.perm (br4.trans br2)).mg1) ?_)
    exact ⟨aa, ka, vs, _, rfl, ⟨ho, hs, rfl, oo, oi⟩, .inr ⟨by omega, by omega, by omega⟩⟩
  have hrow : (m1.map (·.1)).mergeSort leI = undec least (sumI (cs.drop k)) now := sort_asc _ _ mt1.nodup (undec_asc _ _ _ hnup) hk1
  have cS : ∀ (B : Nat) (w : World), Holds h1 w → Holds [(B, .cells ⟨[.map (some bm)]⟩ 84 (0, 0))] w → Calls Try.prog 55 #[.func (.func 76) ⟨[]⟩ ⟨[.pointer (some ⟨B, 0, none⟩)]⟩] w (Gives (fun v g => ∃ a cap, v = .slice a (undec least (sumI (cs.drop k)) now).length cap ∧ OwT encI 1 3 a cap (undec least (sumI (cs.drop k)) now) g) w) := by
    intro B w g1 g2
    have := sorted_any m1 bm B h1 mt1 (by omega) w g1 g2
    rw [hrow] at this
    exact this
  have hrm : ∀ p, p ∈ undec least (sumI (cs.drop k)) now → 0 ≤ p ∧ p ≤ sumI (cs.take k) := fun p hp => hnow p ((undec_mem _ _ _ _).1 hp).1
  clear hrow hk1
  generalize undec least (sumI (cs.drop k)) now = row at *
  repeat' first
    | (refine J.isJ ?_; first | (first | (refine J.fc 56 ?_; refine J.call1 eKeys rfl rfl (fun w hw => keys_any bm w) ?_; rintro _ hB ⟨B, rfl, rfl⟩) | (refine J.fc 55 ?_; refine J.call1 eSorted rfl rfl (fun w hw => cS _ w (hw.rdH RdH.hd.tl) (hw.rdH RdH.hd)) ?_; rintro _ hr ⟨ar, kr, rfl, or_⟩) | (refine J.o 9 ?_; first | refine J.perm (br3.cons _) (J.ap1 (enc := encHV) [⟨ar, kr, row⟩] hΓ (fun _ _ _ _ => ?_)) | refine J.mkm (fun b13 => ?_))) | (first | (refine J.o 0 ?_; refine J.ev' hΓ ?_) | refine J.nil ?_ | refine J.kd ?_ | (refine J.o 4 ?_; first | refine J.e0 hΓ ?_ | refine J.lT default hΓ ?_ | refine J.e1 hΓ ?_ | refine J.e2 hΓ ?_ | refine J.lR hΓ ?_) | (refine J.o 3 ?_; first | refine J.iA hΓ ?_ | refine J.iJ hΓ ?_ | refine J.fP hΓ ?_ | refine J.iC hΓ ?_ | refine J.ev' hΓ ?_) | (refine J.o 1 ?_; first | refine J.ad ?_ | refine J.sb ?_ | refine J.ng ?_ | refine J.mu ?_) | (refine J.o 5 ?_; first | refine J.t0 hΓ ?_ | refine J.t1 hΓ ?_ | refine J.t2 hΓ ?_) | (refine J.o 6 ?_; refine J.bx (fun _ => ?_)) | (refine J.o 7 ?_; refine J.al hΓ (fun _ => ?_)) | (refine J.o 8 ?_; refine J.bd hΓ ?_) | (refine J.o 9 ?_; refine J.bl hΓ (fun _ => ?_)) | (refine J.o 10 ?_; first | refine J.ls hΓ ?_ | refine J.ev' hΓ ?_) | (refine J.o 11 ?_; refine J.ev' hΓ ?_) | refine J.kn ?_) | ((fail_if_success refine J.wt ?_); refine J.gc rfl rfl (fun hc => ?_) (fun hc => ?_) <;> ((try simp only [decide_eq_true_eq, decide_eq_false_iff_not, beq_iff_eq, beq_eq_false_iff_ne, bne_iff_ne, bne_eq_false_iff_eq, Bool.not_eq_true', Bool.not_eq_false', Bool.not_eq_true, Bool.not_eq_false] at hc) <;> first | (first | (exact absurd rfl hc) | (exfalso; omega) | (exact absurd (hc.symm.trans (by assumption : _ = false)) (by decide)) | (exact absurd (hc.symm.trans (by assumption : _ = true)) (by decide))) | skip)))
    | (first | refine JC.seq ?_ | refine JC.region ?_ | refine JC.block ?_ | refine JC.ret ?_ | refine JC.exit ?_ | refine JC.skip ?_ | refine thenK.nn ?_ | refine thenK.r ?_ | refine thenK.x ?_ | refine blockK.nn ?_ | refine blockK.r ?_ | refine blockK.hit rfl ?_ | refine blockK.miss rfl ?_ | refine JC.condT rfl ?_ | refine JC.condF rfl ?_ | (refine JC.cond rfl (fun hc => ?_) (fun hc => ?_) <;> ((try simp only [decide_eq_true_eq, decide_eq_false_iff_not, beq_iff_eq, beq_eq_false_iff_ne, bne_iff_ne, bne_eq_false_iff_eq, Bool.not_eq_true', Bool.not_eq_false', Bool.not_eq_true, Bool.not_eq_false] at hc) <;> first | (first | (exact absurd rfl hc) | (exfalso; omega) | (exact absurd (hc.symm.trans (by assumption : _ = false)) (by decide)) | (exact absurd (hc.symm.trans (by assumption : _ = true)) (by decide))) | skip)) | (refine JC.drawA [] (by kernel_rfl) (by kernel_rfl) ?_) | refine drawK.nn ?_ | refine roundK.nn ?_ | refine roundK.r ?_ | refine roundK.x ?_ | refine loopK.r ?_ | refine loopK.x ?_)
    | (fail)
    | fail
  all_goals first | (exfalso; omega) | skip
  rename_i l4 a4 k4 h4 o4
  refine JC.weak (L' := [[(b13, .map ⟨[]⟩ 0)], h4, hr, [(b6, .cells ⟨[.int .i64 (sumI (cs.drop k))]⟩ 3 (0, 0))], [(b2, .cells ⟨[.slice ca cs.length cc, .slice la ls.length lc, .int .i64 least]⟩ 24 (0, 0))], hs.flatten]) (fun w hw => hw.subl (by repeat (first | exact List.nil_sublist _ | exact List.Sublist.refl _ | refine List.Sublist.cons_cons _ ?_ | refine List.Sublist.cons _ ?_))) ?_
  refine JC.loop (fun i => i == 15 || (Nat.ble 58 i && Nat.ble i 68)) (fun m g L => ∃ (j : Nat) (m2 : List (Int × Bool)) (h2 : Heap), g 58 = .int .i64 (j : Int) ∧ j + m = row.length ∧ MapT Try.prog 3 ekI evB m2 b13 h2 ∧ (∀ x, x ∈ m2.map (·.1) ↔ x ∈ nextF (row.take j) (cs.getD k default)) ∧
      L = [h2, h4, hr, [(b6, .cells ⟨[.int .i64 (sumI (cs.drop k))]⟩ 3 (0, 0))], [(b2, .cells ⟨[.slice ca cs.length cc, .slice la ls.length lc, .int .i64 least]⟩ 24 (0, 0))], hs.flatten]) row.length
    ⟨0, [], _, rfl, by omega, MapT.nil _, by simp [nextF], rfl⟩ ?_
  rintro m3 g3 L3 ⟨j, m2, h2, e58, hjm, mt2, hk2, rfl⟩
  refine JC.pin 58 e58 ?_
  clear e58
  rcases Nat.lt_or_ge j row.length with hj | hj
  case inl =>
    have hp := hrm _ (getD_mem row j hj)
    have hnf := nextF_snoc (row.take j) (row.getD j default) (cs.getD k default)
    rw [take_one row j hj] at hnf
    repeat' first
      | (refine J.isJ ?_; first | ((refine J.o 9 ?_; first | refine J.mup (ev := evB) true keyedI ekI_inj mt3 (keyI (row.getD j default + cs.getD k default) (by omega)) hΓ (fun h4 mt4 => ?_) | refine J.mup (ev := evB) true keyedI ekI_inj mt2 (keyI (row.getD j default) (by omega)) hΓ (fun h3 mt3 => ?_))) | (first | (refine J.o 0 ?_; refine J.ev' hΓ ?_) | refine J.nil ?_ | refine J.kd ?_ | (refine J.o 4 ?_; first | refine J.e0 hΓ ?_ | refine J.lT default hΓ ?_ | refine J.e1 hΓ ?_ | refine J.e2 hΓ ?_ | refine J.lR hΓ ?_) | (refine J.o 3 ?_; first | refine J.iA hΓ ?_ | refine J.iJ hΓ ?_ | refine J.fP hΓ ?_ | refine J.iC hΓ ?_ | refine J.ev' hΓ ?_) | (refine J.o 1 ?_; first | refine J.ad ?_ | refine J.sb ?_ | refine J.ng ?_ | refine J.mu ?_) | (refine J.o 5 ?_; first | refine J.t0 hΓ ?_ | refine J.t1 hΓ ?_ | refine J.t2 hΓ ?_) | (refine J.o 6 ?_; refine J.bx (fun _ => ?_)) | (refine J.o 7 ?_; refine J.al hΓ (fun _ => ?_)) | (refine J.o 8 ?_; refine J.bd hΓ ?_) | (refine J.o 9 ?_; refine J.bl hΓ (fun _ => ?_)) | (refine J.o 10 ?_; first | refine J.ls hΓ ?_ | refine J.ev' hΓ ?_) | (refine J.o 11 ?_; refine J.ev' hΓ ?_) | refine J.kn ?_) | ((fail_if_success refine J.wt ?_); refine J.gc rfl rfl (fun hc => ?_) (fun hc => ?_) <;> ((try simp only [decide_eq_true_eq, decide_eq_false_iff_not, beq_iff_eq, beq_eq_false_iff_ne, bne_iff_ne, bne_eq_false_iff_eq, Bool.not_eq_true', Bool.not_eq_false', Bool.not_eq_true, Bool.not_eq_false] at hc) <;> first | (first | (exact absurd rfl hc) | (exfalso; omega) | (exact absurd (hc.symm.trans (by assumption : _ = false)) (by decide)) | (exact absurd (hc.symm.trans (by assumption : _ = true)) (by decide))) | skip)))
      | (first | refine JC.seq ?_ | refine JC.region ?_ | refine JC.block ?_ | refine JC.ret ?_ | refine JC.exit ?_ | refine JC.skip ?_ | refine thenK.nn ?_ | refine thenK.r ?_ | refine thenK.x ?_ | refine blockK.nn ?_ | refine blockK.r ?_ | refine blockK.hit rfl ?_ | refine blockK.miss rfl ?_ | refine JC.condT rfl ?_ | refine JC.condF rfl ?_ | (refine JC.cond rfl (fun hc => ?_) (fun hc => ?_) <;> ((try simp only [decide_eq_true_eq, decide_eq_false_iff_not, beq_iff_eq, beq_eq_false_iff_ne, bne_iff_ne, bne_eq_false_iff_eq, Bool.not_eq_true', Bool.not_eq_false', Bool.not_eq_true, Bool.not_eq_false] at hc) <;> first | (first | (exact absurd rfl hc) | (exfalso; omega) | (exact absurd (hc.symm.trans (by assumption : _ = false)) (by decide)) | (exact absurd (hc.symm.trans (by assumption : _ = true)) (by decide))) | skip)) | (refine JC.drawA [] (by kernel_rfl) (by kernel_rfl) ?_) | refine drawK.nn ?_ | refine roundK.nn ?_ | refine roundK.r ?_ | refine roundK.x ?_ | refine loopK.r ?_ | refine loopK.x ?_)
      | (fail)
      | fail
    all_goals first | (exfalso; omega) | skip
    all_goals refine loopK.nn (m3 - 1) (by omega) (by repeat (first | refine Ag.upd rfl ?_ | exact Ag.hv)) ⟨j + 1, _, _, ?_, by omega, by assumption, ?_, rfl⟩
    · show Value.int .i64 _ = _; congr 1
    · intro x
      rw [mput_mem, mput_mem, hnf, putI_mem, putI_mem, hk2]
  rw [List.take_of_length_le hj] at hk2
  have hxl := nextF_len row (cs.getD k default)
  repeat' first
    | (refine J.isJ ?_; first | (first | (refine J.o 4 ?_; first | refine J.e3 hΓ ?_ | refine J.e4 hΓ ?_) | (refine J.o 5 ?_; first | (refine J.perm br3 ?_; refine J.t0 hΓ ?_) | (refine J.perm br4 ?_; refine J.t0 hΓ ?_) | (refine J.perm br5 ?_; refine J.t0 hΓ ?_) | (refine J.perm br6 ?_; refine J.t0 hΓ ?_) | (refine J.perm br7 ?_; refine J.t0 hΓ ?_))) | (first | (refine J.o 0 ?_; refine J.ev' hΓ ?_) | refine J.nil ?_ | refine J.kd ?_ | (refine J.o 4 ?_; first | refine J.e0 hΓ ?_ | refine J.lT default hΓ ?_ | refine J.e1 hΓ ?_ | refine J.e2 hΓ ?_ | refine J.lR hΓ ?_) | (refine J.o 3 ?_; first | refine J.iA hΓ ?_ | refine J.iJ hΓ ?_ | refine J.fP hΓ ?_ | refine J.iC hΓ ?_ | refine J.ev' hΓ ?_) | (refine J.o 1 ?_; first | refine J.ad ?_ | refine J.sb ?_ | refine J.ng ?_ | refine J.mu ?_) | (refine J.o 5 ?_; first | refine J.t0 hΓ ?_ | refine J.t1 hΓ ?_ | refine J.t2 hΓ ?_) | (refine J.o 6 ?_; refine J.bx (fun _ => ?_)) | (refine J.o 7 ?_; refine J.al hΓ (fun _ => ?_)) | (refine J.o 8 ?_; refine J.bd hΓ ?_) | (refine J.o 9 ?_; refine J.bl hΓ (fun _ => ?_)) | (refine J.o 10 ?_; first | refine J.ls hΓ ?_ | refine J.ev' hΓ ?_) | (refine J.o 11 ?_; refine J.ev' hΓ ?_) | refine J.kn ?_) | ((fail_if_success refine J.wt ?_); refine J.gc rfl rfl (fun hc => ?_) (fun hc => ?_) <;> ((try simp only [decide_eq_true_eq, decide_eq_false_iff_not, beq_iff_eq, beq_eq_false_iff_ne, bne_iff_ne, bne_eq_false_iff_eq, Bool.not_eq_true', Bool.not_eq_false', Bool.not_eq_true, Bool.not_eq_false] at hc) <;> first | (first | (exact absurd rfl hc) | (exfalso; omega) | (exact absurd (hc.symm.trans (by assumption : _ = false)) (by decide)) | (exact absurd (hc.symm.trans (by assumption : _ = true)) (by decide))) | skip)))
    | (first | refine JC.seq ?_ | refine JC.region ?_ | refine JC.block ?_ | refine JC.ret ?_ | refine JC.exit ?_ | refine JC.skip ?_ | refine thenK.nn ?_ | refine thenK.r ?_ | refine thenK.x ?_ | refine blockK.nn ?_ | refine blockK.r ?_ | refine blockK.hit rfl ?_ | refine blockK.miss rfl ?_ | refine JC.condT rfl ?_ | refine JC.condF rfl ?_ | (refine JC.cond rfl (fun hc => ?_) (fun hc => ?_) <;> ((try simp only [decide_eq_true_eq, decide_eq_false_iff_not, beq_iff_eq, beq_eq_false_iff_ne, bne_iff_ne, bne_eq_false_iff_eq, Bool.not_eq_true', Bool.not_eq_false', Bool.not_eq_true, Bool.not_eq_false] at hc) <;> first | (first | (exact absurd rfl hc) | (exfalso; omega) | (exact absurd (hc.symm.trans (by assumption : _ = false)) (by decide)) | (exact absurd (hc.symm.trans (by assumption : _ = true)) (by decide))) | skip)) | (refine JC.drawA [] (by kernel_rfl) (by kernel_rfl) ?_) | refine drawK.nn ?_ | refine roundK.nn ?_ | refine roundK.r ?_ | refine roundK.x ?_ | refine loopK.r ?_ | refine loopK.x ?_)
    | (fail)
    | fail
  all_goals first | (exfalso; omega) | skip
  have hfl : (hs ++ [hr]).flatten = hs.flatten ++ hr := by simp
  refine loopK.nn (m - 1) (by omega) (by repeat (first | refine Ag.upd rfl ?_ | exact Ag.hv | refine Ag.hv2 (fun i hi => by simp at hi ⊢; omega) ?_)) ⟨[h2, h4, [(b6, .cells ⟨[.int .i64 (sumI (cs.drop (k + 1)))]⟩ 3 (0, 0))], [(b2, .cells ⟨[.slice ca cs.length cc, .slice la ls.length lc, .int .i64 least]⟩ 24 (0, 0))], (hs ++ [hr]).flatten], ⟨k + 1, _, _, vs ++ [⟨ar, kr, row⟩], _, hs ++ [hr], _, _, _, _, _, ?_, ?_, rfl, rfl, by omega, hstep, by rw [List.map_append, hvs]; rfl, by rw [totF_app, totF_one]; omega, by omega, o4, rowsO_app _ _ _ _ oi or_, mt2, hk2, rfl⟩, fun w hw => ?_⟩
  · show Value.int .i64 _ = _; congr 1
  · show Value.int .i64 _ = _; rw [totF_app, totF_one]; congr 1; omega
  · rw [hfl]
    have e : sumI (cs.drop k) - cs.getD k default = sumI (cs.drop (k + 1)) := by omega
    rw [← e]
    exact ((hw.perm (br5.trans (br3.cons _))).mg1).perm (br4.symm.trans br2.symm)
end Go.Proofs.Ytinpcimogojefaa
