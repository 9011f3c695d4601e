/- TreeKnown: part 9. -/
import Derived.Test.YtdiciemlbhkilaaGreatDoorKnH
namespace Go.Proofs.YtdiciemlbhkilaaGreatDoor
open Go Go.Cx Go.RowKit
set_option linter.unusedVariables false
set_option linter.unusedSimpArgs false
set_option maxHeartbeats 4000000
attribute [local irreducible] J JC thenK blockK loopK roundK drawK retK QW Qt pel List.set Calls
def askP (B : List PN) (v no yes : Int) : Int × List PN :=
  if no = yes then (no, B) else
  let p1 := addP B (2, -v, [])
  let p2 := addP p1.2 (2, v, [])
  let p3 := addP p2.2 (3, 0, [p1.1, no])
  let p4 := addP p3.2 (3, 0, [p2.1, yes])
  addP p4.2 (4, 0, [p3.1, p4.1])
theorem tru_lit (s : Nat × Nat) (T : List Bool) (l : Int) : truS s T (2, l, []) = decide (hasB s (absI l) = decide (0 < l)) := rfl
theorem lit_pos {s : Nat × Nat} {T : List Bool} {v : Int} (hv : 1 ≤ v) : truS s T (2, v, []) = hasB s v := by
  rw [tru_lit, absI_pos (by omega), decide_eq_true (show 0 < v by omega)]
  cases hasB s v <;> rfl
theorem lit_neg {s : Nat × Nat} {T : List Bool} {v : Int} (hv : 1 ≤ v) : truS s T (2, -v, []) = !(hasB s v) := by
  rw [tru_lit, absI_neg, absI_pos (by omega), decide_eq_false (show ¬ 0 < -v by omega)]
  cases hasB s v <;> rfl
structure Ask5 (N : Int) (B : List PN) (v no yes : Int) : Prop where
  f1 : formedP (2, -v, []) N B.length = true
  b1 : Bt N (addP B (2, -v, [])).2
  l1 : (addP B (2, -v, [])).2.length ≤ B.length + 1
  f2 : formedP (2, v, []) N (addP B (2, -v, [])).2.length = true
  b2 : Bt N (addP (addP B (2, -v, [])).2 (2, v, [])).2
  l2 : (addP (addP B (2, -v, [])).2 (2, v, [])).2.length ≤ B.length + 2
  f3 : formedP (3, 0, [(addP B (2, -v, [])).1, no]) N (addP (addP B (2, -v, [])).2 (2, v, [])).2.length = true
  b3 : Bt N (addP (addP (addP B (2, -v, [])).2 (2, v, [])).2 (3, 0, [(addP B (2, -v, [])).1, no])).2
  l3 : (addP (addP (addP B (2, -v, [])).2 (2, v, [])).2 (3, 0, [(addP B (2, -v, [])).1, no])).2.length ≤ B.length + 3
  f4 : formedP (3, 0, [(addP (addP B (2, -v, [])).2 (2, v, [])).1, yes]) N (addP (addP (addP B (2, -v, [])).2 (2, v, [])).2 (3, 0, [(addP B (2, -v, [])).1, no])).2.length = true
  b4 : Bt N (addP (addP (addP (addP B (2, -v, [])).2 (2, v, [])).2 (3, 0, [(addP B (2, -v, [])).1, no])).2 (3, 0, [(addP (addP B (2, -v, [])).2 (2, v, [])).1, yes])).2
  l4 : (addP (addP (addP (addP B (2, -v, [])).2 (2, v, [])).2 (3, 0, [(addP B (2, -v, [])).1, no])).2 (3, 0, [(addP (addP B (2, -v, [])).2 (2, v, [])).1, yes])).2.length ≤ B.length + 4
  f5 : formedP (4, 0, [(addP (addP (addP B (2, -v, [])).2 (2, v, [])).2 (3, 0, [(addP B (2, -v, [])).1, no])).1, (addP (addP (addP (addP B (2, -v, [])).2 (2, v, [])).2 (3, 0, [(addP B (2, -v, [])).1, no])).2 (3, 0, [(addP (addP B (2, -v, [])).2 (2, v, [])).1, yes])).1]) N (addP (addP (addP (addP B (2, -v, [])).2 (2, v, [])).2 (3, 0, [(addP B (2, -v, [])).1, no])).2 (3, 0, [(addP (addP B (2, -v, [])).2 (2, v, [])).1, yes])).2.length = true
structure AskO (N : Int) (B : List PN) (v no yes : Int) (p : Int × List PN) : Prop where
  bt : Bt N p.2
  ex : ∃ C, p.2 = B ++ C
  le : p.2.length ≤ B.length + 5
  lo : 0 ≤ p.1
  hi : p.1 < p.2.length
  old : ∀ (s : Nat × Nat) (i : Int), i.toNat < B.length → valN s p.2 i = valN s B i
  new : ∀ s, valN s p.2 p.1 = if hasB s v then valN s B yes else valN s B no
  oc : ∀ u, Oc p.2 p.1 u → u = v ∨ Oc B no u ∨ Oc B yes u
attribute [local irreducible] addP in
theorem ask_ok {N : Int} (hN : 0 ≤ N ∧ N ≤ 128) {B : List PN} (b : Bt N B) {v no yes : Int} (hv : 1 ≤ v ∧ v ≤ N) (hn : 0 ≤ no ∧ no < B.length) (hy : 0 ≤ yes ∧ yes < B.length) (on : ¬ Oc B no v) (oy : ¬ Oc B yes v) : AskO N B v no yes (askP B v no yes) ∧ (no ≠ yes → Ask5 N B v no yes) := by
  by_cases he : no = yes
  · subst he
    have e : askP B v no no = (no, B) := by unfold askP; rw [if_pos rfl]
    rw [e]
    exact ⟨⟨b, ⟨[], by rw [List.append_nil]⟩, Nat.le_add_right _ _, hn.1, hn.2, fun s i _ => rfl, fun s => by split <;> rfl, fun u hu => .inr (.inl hu)⟩, fun h => absurd rfl h⟩
  have hask : askP B v no yes = addP (addP (addP (addP (addP B (2, -v, [])).2 (2, v, [])).2 (3, 0, [(addP B (2, -v, [])).1, no])).2 (3, 0, [(addP (addP B (2, -v, [])).2 (2, v, [])).1, yes])).2 (4, 0, [(addP (addP (addP B (2, -v, [])).2 (2, v, [])).2 (3, 0, [(addP B (2, -v, [])).1, no])).1, (addP (addP (addP (addP B (2, -v, [])).2 (2, v, [])).2 (3, 0, [(addP B (2, -v, [])).1, no])).2 (3, 0, [(addP (addP B (2, -v, [])).2 (2, v, [])).1, yes])).1]) := by unfold askP; rw [if_neg he]
  rw [hask]
  clear hask
  have f1 : formedP (2, -v, []) N B.length = true := formed_l hv (.inr rfl)
  obtain ⟨a1, k1, t1, v1, o1⟩ := leaf_ok hN b (k := 2) (l := -v) ⟨by decide, by decide⟩ f1
  generalize hp1 : addP B (2, -v, []) = p1 at a1 k1 t1 v1 o1
  have f2 : formedP (2, v, []) N p1.2.length = true := formed_l hv (.inl rfl)
  obtain ⟨a2, k2, t2, v2, o2⟩ := leaf_ok hN a1.bt (k := 2) (l := v) ⟨by decide, by decide⟩ f2
  generalize hp2 : addP p1.2 (2, v, []) = p2 at a2 k2 t2 v2 o2
  obtain ⟨C1, c1⟩ := a1.ex
  obtain ⟨C2, c2⟩ := a2.ex
  have e1 : p1.2.length = B.length + C1.length := by rw [c1, List.length_append]
  have e2 : p2.2.length = p1.2.length + C2.length := by rw [c2, List.length_append]
  have a1lo := a1.lo
  have a1hi := a1.hi
  have a2lo := a2.lo
  have a2hi := a2.hi
  have k12 : kindP p2.2 p1.1 = 2 := by rw [c2, kindP_app _ _ _ (by omega)]; exact k1
  have t12 : litP p2.2 p1.1 = -v := by rw [c2, litP_app _ _ _ (by omega)]; exact t1
  have oc2 : ∀ i : Int, i.toNat < B.length → ∀ u, Oc p2.2 i u ↔ Oc B i u := fun i hi u => by
    rw [c2, oc_app (by omega), c1, oc_app hi]
  have vl2 : ∀ s (i : Int), i.toNat < B.length → valN s p2.2 i = valN s B i := fun s i hi => by
    rw [a2.old s i (by omega), a1.old s i hi]
  obtain ⟨a3, v3, o3, h3⟩ := and_ok hN a2.bt (v := v) (l := -v) (low := p1.1) (r := no) hv (.inr rfl) ⟨by omega, by omega⟩ ⟨by omega, by omega⟩ k12 t12 (by rw [oc2 _ (by omega)]; exact on)
  have f3 : formedP (3, 0, [p1.1, no]) N p2.2.length = true := formed_gate (.inl rfl) fun i hi => by
    rcases List.mem_cons.1 hi with rfl | hi
    · omega
    · rw [List.mem_singleton.1 hi]; omega
  generalize hp3 : addP p2.2 (3, 0, [p1.1, no]) = p3 at a3 v3 o3 h3
  obtain ⟨C3, c3⟩ := a3.ex
  have e3 : p3.2.length = p2.2.length + C3.length := by rw [c3, List.length_append]
  have a3lo := a3.lo
  have a3hi := a3.hi
  have k23 : kindP p3.2 p2.1 = 2 := by rw [c3, kindP_app _ _ _ (by omega)]; exact k2
  have t23 : litP p3.2 p2.1 = v := by rw [c3, litP_app _ _ _ (by omega)]; exact t2
  have oc3 : ∀ i : Int, i.toNat < p2.2.length → ∀ u, Oc p3.2 i u ↔ Oc p2.2 i u := fun i hi u => by
    rw [c3, oc_app hi]
  obtain ⟨a4, v4, o4, h4⟩ := and_ok hN a3.bt (v := v) (l := v) (low := p2.1) (r := yes) hv (.inl rfl) ⟨by omega, by omega⟩ ⟨by omega, by omega⟩ k23 t23 (by rw [oc3 _ (by omega), oc2 _ (by omega)]; exact oy)
  have f4 : formedP (3, 0, [p2.1, yes]) N p3.2.length = true := formed_gate (.inl rfl) fun i hi => by
    rcases List.mem_cons.1 hi with rfl | hi
    · omega
    · rw [List.mem_singleton.1 hi]; omega
  generalize hp4 : addP p3.2 (3, 0, [p2.1, yes]) = p4 at a4 v4 o4 h4
  obtain ⟨C4, c4⟩ := a4.ex
  have e4 : p4.2.length = p3.2.length + C4.length := by rw [c4, List.length_append]
  have a4lo := a4.lo
  have a4hi := a4.hi
  have h34 : kindP p4.2 p3.1 = 0 ∨ Hd p4.2 p3.1 (-v) := by
    rcases h3 with h | h
    · left; rw [c4, kindP_app _ _ _ (by omega)]; exact h
    · right; rw [c4]; exact h.app a3.bt.sm.ord a3.lo a3.hi C4
  obtain ⟨a5, v5, o5⟩ := or_ok hN a4.bt (l := -v) (x := p3.1) (y := p4.1) (by omega) ⟨by omega, by omega⟩ ⟨by omega, by omega⟩ h34 (by rw [Int.neg_neg]; exact h4)
  have f5 : formedP (4, 0, [p3.1, p4.1]) N p4.2.length = true := formed_gate (.inr rfl) fun i hi => by
    rcases List.mem_cons.1 hi with rfl | hi
    · omega
    · rw [List.mem_singleton.1 hi]; omega
  have q1 := a1.le
  have q2 := a2.le
  have q3 := a3.le
  have q4 := a4.le
  refine ⟨?_, fun _ => ⟨f1, by rw [hp1]; exact a1.bt, by rw [hp1]; omega, by rw [hp1]; exact f2, by rw [hp1, hp2]; exact a2.bt, by rw [hp1, hp2]; omega, by rw [hp1, hp2]; exact f3, by rw [hp1, hp2, hp3]; exact a3.bt, by rw [hp1, hp2, hp3]; omega, by rw [hp1, hp2, hp3]; exact f4, by rw [hp1, hp2, hp3, hp4]; exact a4.bt, by rw [hp1, hp2, hp3, hp4]; omega, by rw [hp1, hp2, hp3, hp4]; exact f5⟩⟩
  generalize hp5 : addP p4.2 (4, 0, [p3.1, p4.1]) = p5 at a5 v5 o5
  obtain ⟨C5, c5⟩ := a5.ex
  have q6 := a5.le
  have vl3 : ∀ s (i : Int), i.toNat < p2.2.length → valN s p3.2 i = valN s p2.2 i := fun s i hi => a3.old s i hi
  refine ⟨a5.bt, ⟨C1 ++ C2 ++ C3 ++ C4 ++ C5, by rw [c5, c4, c3, c2, c1]; simp only [List.append_assoc]⟩, by omega, a5.lo, a5.hi, fun s i hi => ?_, fun s => ?_, fun u hu => ?_⟩
  · rw [a5.old s i (by omega), a4.old s i (by omega), a3.old s i (by omega), vl2 s i hi]
  · rw [v5, a4.old s p3.1 (by omega), v3, v4, a2.old s p1.1 (by omega), v1, vl3 s p2.1 (by omega), v2, vl3 s yes (by omega), vl2 s no (by omega), vl2 s yes (by omega), lit_neg hv.1, lit_pos hv.1]
    cases hasB s v <;> simp
  · rcases o5 u hu with h | h
    · rw [c4, oc_app (by omega)] at h
      rcases o3 u h with h | h
      · exact .inl h
      · exact .inr (.inl ((oc2 _ (by omega) u).1 h))
    · rcases o4 u h with h | h
      · exact .inl h
      · exact .inr (.inr ((oc2 _ (by omega) u).1 ((oc3 _ (by omega) u).1 h)))
structure TI (ts : List Nd) (N : Int) (m : Nat) (B : List PN) (vs : List Int) : Prop where
  bt : Bt N B
  ln : vs.length = ts.length
  le : (B.length : Int) ≤ (ts.drop m).length + 2 * ews (fun _ => 1) (ts.drop m)
  nd : ∀ j, m ≤ j → j < ts.length → 0 ≤ vs.getD j default ∧ vs.getD j default < B.length ∧ (∀ s, valN s B (vs.getD j default) = clsAt ts s j) ∧ ∀ u, Oc B (vs.getD j default) u → ∃ d, (d = j ∨ Pr ts j d) ∧ (ts.getD d default).v = u
theorem TI.start (ts : List Nd) (N : Int) (vs : List Int) (h : vs.length = ts.length) : TI ts N ts.length [] vs := by
  refine ⟨⟨Simp.nil N, fun x hx => absurd hx List.not_mem_nil, Dd.nil⟩, h, ?_, fun j h1 h2 => by omega⟩
  rw [List.drop_length]
  exact Int.le_refl 0
theorem ews_cons (x : Nd) (xs : List Nd) : ews (fun _ => 1) (x :: xs) = (if x.v = 0 then 0 else 2) + ews (fun _ => 1) xs := by
  show ew (fun _ => 1) x + ews (fun _ => 1) xs = _
  unfold ew
  split <;> rfl
theorem TI.leaf {ts : List Nd} {N : Int} (hV : Valid ts N) {k : Nat} (hk : k < ts.length) (hv : (ts.getD k default).v = 0) {B : List PN} {vs : List Int} (h : TI ts N (k + 1) B vs) :
    formedP (if (ts.getD k default).c then 1 else 0, 0, []) N B.length = true ∧ TI ts N k (addP B (if (ts.getD k default).c then 1 else 0, 0, [])).2 (vs.set k (addP B (if (ts.getD k default).c then 1 else 0, 0, [])).1) := by
  obtain ⟨b, hl, hle, hnd⟩ := h
  have hc : (if (ts.getD k default).c then (1 : Int) else 0) = 0 ∨ (if (ts.getD k default).c then (1 : Int) else 0) = 1 := by split <;> omega
  have hf : formedP (if (ts.getD k default).c then (1 : Int) else 0, 0, []) N B.length = true := formed_c hc
  have hcl := fun s => clsAt_leaf ts s k hk hv
  generalize hq : (if (ts.getD k default).c then (1 : Int) else 0) = q at hc hf
  refine ⟨hf, ?_⟩
  obtain ⟨a, kk, tt, vv, oo⟩ := leaf_ok hV.rng b (k := q) (l := 0) (by omega) hf
  have alo := a.lo
  have ahi := a.hi
  have ale := a.le
  obtain ⟨C, c⟩ := a.ex
  have e : (addP B (q, 0, [])).2.length = B.length + C.length := by rw [c, List.length_append]
  refine ⟨a.bt, by rw [List.length_set]; exact hl, ?_, fun j h1 h2 => ?_⟩
  · rw [drop_g ts k hk, ews_cons, if_pos hv, List.length_cons]
    omega
  · rw [getD_set]
    by_cases hjk : k = j
    · subst hjk
      rw [if_pos ⟨rfl, by omega⟩]
      refine ⟨alo, ahi, fun s => ?_, fun u hu => ?_⟩
      · rw [vv, hcl s, ← hq]
        cases (ts.getD k default).c <;> rfl
      · exact absurd ((oo u).1 hu) (oc_none rfl u)
    · rw [if_neg (fun h => hjk h.1)]
      obtain ⟨q0, q1, q2, q3⟩ := hnd j (by omega) h2
      refine ⟨q0, by omega, fun s => by rw [a.old s _ (by omega)]; exact q2 s, fun u hu => ?_⟩
      rw [c, oc_app (by omega)] at hu
      exact q3 u hu
theorem TI.rngs {ts : List Nd} {N : Int} (hV : Valid ts N) {k : Nat} (hk : k < ts.length) (hv : (ts.getD k default).v ≠ 0) {B : List PN} {vs : List Int} (h : TI ts N (k + 1) B vs) :
    (0 ≤ (ts.getD k default).no ∧ (ts.getD k default).no < ts.length ∧ 0 ≤ (ts.getD k default).yes ∧ (ts.getD k default).yes < ts.length) ∧ (0 ≤ vs.getD (ts.getD k default).no.toNat default ∧ vs.getD (ts.getD k default).no.toNat default < B.length) ∧ (0 ≤ vs.getD (ts.getD k default).yes.toNat default ∧ vs.getD (ts.getD k default).yes.toNat default < B.length) ∧ AskO N B (ts.getD k default).v (vs.getD (ts.getD k default).no.toNat default) (vs.getD (ts.getD k default).yes.toNat default) (askP B (ts.getD k default).v (vs.getD (ts.getD k default).no.toNat default) (vs.getD (ts.getD k default).yes.toNat default)) ∧ (vs.getD (ts.getD k default).no.toNat default ≠ vs.getD (ts.getD k default).yes.toNat default → Ask5 N B (ts.getD k default).v (vs.getD (ts.getD k default).no.toNat default) (vs.getD (ts.getD k default).yes.toNat default)) := by
  obtain ⟨b, hl, hle, hnd⟩ := h
  have hlk := hV.later k (by omega) (by omega)
  rw [Int.toNat_natCast] at hlk
  obtain ⟨l1, l2, l3, l4⟩ := hlk hv
  have hvar := hV.var hk hv
  have hfr := hV.fresh k hk hv
  have en : Ed ts k (ts.getD k default).no.toNat := ⟨hk, hv, .inl (by omega)⟩
  have ey : Ed ts k (ts.getD k default).yes.toNat := ⟨hk, hv, .inr (by omega)⟩
  obtain ⟨n0, n1, n2, n3⟩ := hnd (ts.getD k default).no.toNat (by omega) (by omega)
  obtain ⟨y0, y1, y2, y3⟩ := hnd (ts.getD k default).yes.toNat (by omega) (by omega)
  have on : ¬ Oc B (vs.getD (ts.getD k default).no.toNat default) (ts.getD k default).v := fun ho => by
    obtain ⟨d, hd, e⟩ := n3 _ ho
    refine hfr ⟨d, ?_, e⟩
    rcases hd with rfl | hd
    · exact .one en
    · exact .cons en hd
  have oy : ¬ Oc B (vs.getD (ts.getD k default).yes.toNat default) (ts.getD k default).v := fun ho => by
    obtain ⟨d, hd, e⟩ := y3 _ ho
    refine hfr ⟨d, ?_, e⟩
    rcases hd with rfl | hd
    · exact .one ey
    · exact .cons ey hd
  exact ⟨⟨by omega, by omega, by omega, by omega⟩, ⟨n0, n1⟩, ⟨y0, y1⟩, ask_ok hV.rng b hvar ⟨n0, n1⟩ ⟨y0, y1⟩ on oy⟩
theorem TI.ask {ts : List Nd} {N : Int} (hV : Valid ts N) {k : Nat} (hk : k < ts.length) (hv : (ts.getD k default).v ≠ 0) {B : List PN} {vs : List Int} (h : TI ts N (k + 1) B vs) :
    TI ts N k (askP B (ts.getD k default).v (vs.getD (ts.getD k default).no.toNat default) (vs.getD (ts.getD k default).yes.toNat default)).2 (vs.set k (askP B (ts.getD k default).v (vs.getD (ts.getD k default).no.toNat default) (vs.getD (ts.getD k default).yes.toNat default)).1) := by
  obtain ⟨⟨r1, r2, r3, r4⟩, _, _, ao, _⟩ := h.rngs hV hk hv
  obtain ⟨b, hl, hle, hnd⟩ := h
  have hlk := hV.later k (by omega) (by omega)
  rw [Int.toNat_natCast] at hlk
  obtain ⟨l1, l2, l3, l4⟩ := hlk hv
  have hcl := fun s => clsAt_q hV.later s k hk hv
  obtain ⟨n0, n1, n2, n3⟩ := hnd (ts.getD k default).no.toNat (by omega) (by omega)
  obtain ⟨y0, y1, y2, y3⟩ := hnd (ts.getD k default).yes.toNat (by omega) (by omega)
  have en : Ed ts k (ts.getD k default).no.toNat := ⟨hk, hv, .inl (by omega)⟩
  have ey : Ed ts k (ts.getD k default).yes.toNat := ⟨hk, hv, .inr (by omega)⟩
  generalize hp : askP B (ts.getD k default).v (vs.getD (ts.getD k default).no.toNat default) (vs.getD (ts.getD k default).yes.toNat default) = p at ao
  obtain ⟨C, c⟩ := ao.ex
  have e : p.2.length = B.length + C.length := by rw [c, List.length_append]
  have qle := ao.le
  refine ⟨ao.bt, by rw [List.length_set]; exact hl, ?_, fun j h1 h2 => ?_⟩
  · rw [drop_g ts k hk, ews_cons, if_neg hv, List.length_cons]
    omega
  · rw [getD_set]
    by_cases hjk : k = j
    · subst hjk
      rw [if_pos ⟨rfl, by omega⟩]
      refine ⟨ao.lo, ao.hi, fun s => ?_, fun u hu => ?_⟩
      · rw [ao.new, hcl s, n2, y2]
      · rcases ao.oc u hu with h | h | h
        · exact ⟨k, .inl rfl, h.symm⟩
        · obtain ⟨d, hd, e⟩ := n3 u h
          refine ⟨d, .inr ?_, e⟩
          rcases hd with rfl | hd
          · exact .one en
          · exact .cons en hd
        · obtain ⟨d, hd, e⟩ := y3 u h
          refine ⟨d, .inr ?_, e⟩
          rcases hd with rfl | hd
          · exact .one ey
          · exact .cons ey hd
    · rw [if_neg (fun h => hjk h.1)]
      obtain ⟨q0, q1, q2, q3⟩ := hnd j (by omega) h2
      refine ⟨q0, by omega, fun s => by rw [ao.old s _ (by omega)]; exact q2 s, fun u hu => ?_⟩
      rw [c, oc_app (by omega)] at hu
      exact q3 u hu
theorem Valid.quests {ts : List Nd} {n : Int} (h : Valid ts n) : ews (fun _ => 1) ts = (ts.length : Int) - 1 := by
  have e1 : ews (fun _ => 1) ts = sumTo (fun j => cn ts j * 1) ts.length := by
    refine ews_cn _ _ ts (fun x hx hv => ?_)
    obtain ⟨i, hi, rfl⟩ := List.mem_iff_getElem.1 hx
    have hg : ts.getD i default = ts[i] := by rw [List.getD_eq_getElem?_getD, List.getElem?_eq_getElem hi]; rfl
    obtain ⟨_, _, _, a, b, c, d⟩ := fmd_q (h.fm i hi) (by rw [hg]; exact hv)
    rw [hg] at a b c d
    omega
  have e3 : sumTo (fun j => cn ts j * 1) ts.length = sumTo (fun i => if i = 0 then 0 else (fun _ => (1 : Int)) i) ts.length := by
    refine sumTo_congr _ (fun i hi => ?_)
    by_cases h0 : i = 0
    · subst h0
      rw [if_pos rfl, cn_zero ts 0 (fun j hj => by simpa using h.fm j hj) 0 (Nat.le_refl _), Int.zero_mul]
    · rw [if_neg h0, h.one i (by omega) hi, Int.one_mul]
  have e4 : sumTo (fun _ => (1 : Int)) ts.length = 1 + sumTo (fun i => if i = 0 then 0 else (fun _ => (1 : Int)) i) ts.length := sumTo_first (fun _ => (1 : Int)) ts.length h.pos
  have e5 := sumTo_const 1 ts.length
  omega
theorem oc_net {N : Int} {B : List PN} (h : Simp N B) {r : Nat} (hr : r < B.length) {U : List Bool} (m : Marks B r U) (u : Int) : ∀ (n i : Nat), i < n → i < r + 1 → U.getD i false = true → (Oc (netTo B U (r + 1)) (rk U i) u ↔ Oc B i u)
  | 0, i, hi, _, _ => absurd hi (Nat.not_lt_zero _)
  | n + 1, i, hi, hir, hu => by
    have hs := net_simp h hr m
    have hl := net_last m
    have hle := rk_le U i
    have hri : rk U i ≤ rk U r := by
      by_cases e : i = r
      · rw [e]; exact Int.le_refl _
      · have := rk_lt (show i < r by omega) hu; omega
    have hr0 : 0 ≤ rk U i := by
      have := netTo_len B U i
      omega
    rw [oc_at hs.ord _ hr0 (by omega), oc_at h.ord _ (by omega) (by omega), lit_net hir hu, in_net hir hu]
    constructor
    · rintro (h1 | ⟨k, hk, h1⟩)
      · exact .inl h1
      · obtain ⟨q, hq, rfl⟩ := List.mem_map.1 hk
        have o := h.ord i q hq
        have := (oc_net h hr m u n q.toNat (by omega) (by omega) (m.cl i hir hu q hq)).1 h1
        rw [show ((q.toNat : Nat) : Int) = q by omega] at this
        exact .inr ⟨q, hq, this⟩
    · rintro (h1 | ⟨q, hq, h1⟩)
      · exact .inl h1
      · have o := h.ord i q hq
        rw [show q = ((q.toNat : Nat) : Int) by omega] at h1
        exact .inr ⟨_, List.mem_map.2 ⟨q, hq, rfl⟩, (oc_net h hr m u n q.toNat (by omega) (by omega) (m.cl i hir hu q hq)).2 h1⟩
theorem hd_net {N : Int} {B : List PN} (h : Simp N B) {r : Nat} {U : List Bool} (m : Marks B r U) {i : Nat} (hi : i < r + 1) (hu : U.getD i false = true) {l : Int} (hd : Hd B i l) : Hd (netTo B U (r + 1)) (rk U i) l := by
  unfold Hd
  rw [kind_net hi hu, lit_net hi hu, in_net hi hu]
  rcases hd with hd | ⟨h3, q, hq, h4, h5⟩
  · exact .inl hd
  · have o := h.ord i q hq
    have hu2 := m.cl i hi hu q hq
    refine .inr ⟨h3, rk U q.toNat, List.mem_map.2 ⟨q, hq, rfl⟩, ?_, ?_⟩
    · rw [kind_net (by omega) hu2, show ((q.toNat : Nat) : Int) = q by omega]; exact h4
    · rw [lit_net (by omega) hu2, show ((q.toNat : Nat) : Int) = q by omega]; exact h5
theorem Dd.net {N : Int} {B : List PN} (h : Simp N B) (d : Dd B) {r : Nat} (hr : r < B.length) {U : List Bool} (m : Marks B r U) : Dd (netTo B U (r + 1)) := by
  refine ⟨fun j hj hk a ha b hb hab u hua => ?_, fun j hj hk => ?_⟩
  · obtain ⟨i, h1, h2, h3⟩ := net_idx B U (r + 1) j hj
    rw [← h3, kind_net h1 h2] at hk
    rw [← h3, in_net h1 h2] at ha hb
    obtain ⟨x, hx, rfl⟩ := List.mem_map.1 ha
    obtain ⟨y, hy, rfl⟩ := List.mem_map.1 hb
    have ox := h.ord i x hx
    have oy := h.ord i y hy
    rw [oc_net h hr m u (r + 1) _ (by omega) (by omega) (m.cl i h1 h2 x hx)] at hua
    rw [oc_net h hr m u (r + 1) _ (by omega) (by omega) (m.cl i h1 h2 y hy)]
    rw [show ((x.toNat : Nat) : Int) = x by omega] at hua
    rw [show ((y.toNat : Nat) : Int) = y by omega]
    exact d.dec i (by omega) hk x hx y hy (fun e => hab (by rw [e])) u hua
  · obtain ⟨i, h1, h2, h3⟩ := net_idx B U (r + 1) j hj
    rw [← h3, kind_net h1 h2] at hk
    obtain ⟨x, y, l, e, l0, g1, g2⟩ := d.dci i (by omega) hk
    have hx : x ∈ inP B i := by rw [e]; simp
    have hy : y ∈ inP B i := by rw [e]; simp
    have ox := h.ord i x hx
    have oy := h.ord i y hy
    refine ⟨rk U x.toNat, rk U y.toNat, l, ?_, l0, ?_, ?_⟩
    · rw [← h3, in_net h1 h2, e]; rfl
    · exact hd_net h m (by omega) (m.cl i h1 h2 x hx) (by rw [show ((x.toNat : Nat) : Int) = x by omega]; exact g1)
    · exact hd_net h m (by omega) (m.cl i h1 h2 y hy) (by rw [show ((y.toNat : Nat) : Int) = y by omega]; exact g2)
structure TNet (ts : List Nd) (N : Int) (X : List PN) : Prop where
  ck : checkP N X = true
  sm : Simp N X
  dd : Dd X
  le : (X.length : Int) ≤ 3 * ts.length - 2
  ev : ∀ s, evalP s N X = clsAt ts s 0
theorem tree_net {ts : List Nd} {N : Int} (hV : Valid ts N) {B : List PN} {vs : List Int} (h : TI ts N 0 B vs) : (0 ≤ vs.getD 0 default ∧ vs.getD 0 default < B.length) ∧ TNet ts N (netP B (vs.getD 0 default).toNat) := by
  obtain ⟨b, hl, hle, hnd⟩ := h
  obtain ⟨q0, q1, q2, q3⟩ := hnd 0 (Nat.le_refl _) hV.pos
  have hq := hV.quests
  rw [List.drop_zero, hq] at hle
  have hpos := hV.le
  have hr : (vs.getD 0 default).toNat < B.length := by omega
  have m := marks b.sm.ord (vs.getD 0 default).toNat
  have hsn := net_simp b.sm hr m
  have hfn := net_full b.sm hr m
  have hll := net_last m
  have hrl := rk_le (markN B (vs.getD 0 default).toNat ((vs.getD 0 default).toNat + 1)) (vs.getD 0 default).toNat
  have hdd := b.dd.net b.sm hr m
  have e : netP B (vs.getD 0 default).toNat = netTo B (markN B (vs.getD 0 default).toNat ((vs.getD 0 default).toNat + 1)) ((vs.getD 0 default).toNat + 1) := rfl
  have hvn := fun s => val_net s b.sm.ord hr m _ (Nat.le_refl _) _ (Nat.lt_succ_self _) m.rt
  rw [← e] at hsn hfn hll hdd
  have hck : checkP N (netP B (vs.getD 0 default).toNat) = true := by
    unfold checkP
    simp only [Bool.and_eq_true, decide_eq_true_eq]
    refine ⟨hV.rng, ⟨hfn.ne, by omega⟩, formAll_of N _ 0 fun j hj => ?_⟩
    rw [Int.zero_add]; exact hsn.fm j hj
  refine ⟨⟨q0, q1⟩, hck, hsn, hdd, by omega, fun s => ?_⟩
  have h1 := hvn s
  rw [← e, show (((vs.getD 0 default).toNat : Nat) : Int) = vs.getD 0 default by omega, q2] at h1
  unfold evalP
  rw [hck, Bool.true_and, ← h1]
  unfold valN
  congr 1
  omega
end Go.Proofs.YtdiciemlbhkilaaGreatDoor
namespace Go.Proofs.YtdiciemlbhkilaaGreatDoor
open Go Go.Cx Go.RowKit
set_option linter.unusedVariables false
set_option linter.unusedSimpArgs false
set_option maxHeartbeats 4000000
attribute [local irreducible] J JC thenK blockK loopK roundK drawK retK QW Qt pel List.set Calls
attribute [local irreducible] JE Br eK0 eK3 brK
theorem eNet1 : Entr Tryz.prog 38 := Entr.of Tryz.func38 rfl rfl
theorem eNet2 : Entr Tryz.prog 41 := Entr.of Tryz.func41 rfl rfl
theorem eNet3 : Entr Tryz.prog 42 := Entr.of Tryz.func42 rfl rfl
def bpO (b : Nat) : Obj := .cells ⟨[.pointer (some ⟨b, 0, none⟩)]⟩ 77 (0, 0)
def afO (bb : Nat) : Obj := .cells ⟨[.func (.func 38) ⟨[]⟩ ⟨[.pointer (some ⟨bb, 0, none⟩)]⟩]⟩ 85 (0, 0)
set_option maxHeartbeats 16000000 in
theorem net1_any (N : Int) (hN : 0 ≤ N ∧ N ≤ 128) (v : NV) {w0 w : World} {R : Heap} {L : List Heap} {b bb cap bm : Nat} {a : Option Addr} {vs : List NV} {ho hi hm hl : Heap} (hsl : SlT encI 1 v.a v.l hl) (rl : RdH R L hl) (hvl : v.l.length ≤ 1000000) (hf : formedP (pnV v) N vs.length = true) (hT : Tab w0) (bs : BS vs a cap bm ho hi hm) (op : OkP (vs.map pnV)) (hv65 : vs.length < 65536) (rb : Rd R L bb (bpO b)) (hw : H w0 R (bL N b a vs cap bm ho hi hm ++ L) w) :
    Calls Tryz.prog 38 #[.agg ⟨encNV v⟩, .pointer (some ⟨bb, 0, none⟩)] w fun e w' => ∃ v' L', e = .returned v' ∧ H w0 R L' w' ∧ ∃ a' cap' ho' hi' hm' vs', v' = .int .i64 (addP (vs.map pnV) (pnV v)).1 ∧ L' = bL N b a' vs' cap' bm ho' hi' hm' ++ L ∧ BS vs' a' cap' bm ho' hi' hm' ∧ vs'.map pnV = (addP (vs.map pnV) (pnV v)).2 := by
  unfold bL at hw
  unfold bpO at rb
  simp only [List.cons_append, List.nil_append] at hw
  refine calls_in Tryz.func38 Tryz.ntmps38 rfl rfl (hw) ?_
  repeat' first
    | (refine J.isJ ?_; first | (first | (refine J.o 4 ?_; first | refine J.lR hΓ ?_ (hr := rb.tl.tl.tl.tl.tl) | refine J.lR hΓ ?_ (hr := Rd.hd)) | (refine J.fc 39 ?_; refine J.callx eAddN rfl rfl (fun w hw => addN_any N hN v hsl rl.tl hvl hf hT bs op hv65 (show H _ _ (bL N b a vs cap bm ho hi hm ++ (_ :: L)) w from hrot4 hw)) ?_; rintro _ _ ⟨a2, c2, ho2, hi2, hm2, vs2, rfl, rfl, bs2, e2⟩)) | (first | (refine J.o 0 ?_; refine J.ev' hΓ ?_) | refine J.nil ?_ | (refine J.o 4 ?_; first | refine J.lR hΓ ?_) | (refine J.o 3 ?_; first | refine J.ev' hΓ ?_) | (refine J.o 6 ?_; refine J.bx (fun _ => ?_)) | (refine J.o 10 ?_; refine J.ev' hΓ ?_) | (refine J.o 11 ?_; refine J.ev' hΓ ?_)))
    | (first | refine JC.seq ?_ | refine JC.region ?_ | refine JC.ret ?_ | refine thenK.nn ?_)
    | (fail)
    | fail
  all_goals first | (exfalso; omega) | skip
  exact ret1f rfl rfl rfl (fun w1 hw => ⟨_, _, rfl, H.sel (l := [_, _, _, _, _]) (M := L) hw [0, 1, 2, 3], a2, c2, ho2, hi2, hm2, vs2, rfl, rfl, bs2, e2⟩)
set_option maxHeartbeats 16000000 in
theorem net2_any (N : Int) (hN : 0 ≤ N ∧ N ≤ 128) (c : Bool) {w0 w : World} {R : Heap} {L : List Heap} {b bb bf cap bm : Nat} {a : Option Addr} {vs : List NV} {ho hi hm : Heap} (hf : formedP (if c then 1 else 0, 0, []) N vs.length = true) (hT : Tab w0) (bs : BS vs a cap bm ho hi hm) (op : OkP (vs.map pnV)) (hv65 : vs.length < 65536) (rb : Rd R L bb (bpO b)) (rf : Rd R L bf (afO bb)) (hw : H w0 R (bL N b a vs cap bm ho hi hm ++ L) w) :
    Calls Tryz.prog 41 #[.bool c, .pointer (some ⟨bf, 0, none⟩)] w fun e w' => ∃ v' L', e = .returned v' ∧ H w0 R L' w' ∧ ∃ a' cap' ho' hi' hm' vs', v' = .int .i64 (addP (vs.map pnV) (if c then 1 else 0, 0, [])).1 ∧ L' = bL N b a' vs' cap' bm ho' hi' hm' ++ L ∧ BS vs' a' cap' bm ho' hi' hm' ∧ vs'.map pnV = (addP (vs.map pnV) (if c then 1 else 0, 0, [])).2 := by
  unfold bL at hw
  unfold afO at rf
  simp only [List.cons_append, List.nil_append] at hw
  cases c with
  | true =>
    rw [if_pos rfl] at hf ⊢
    refine calls_in Tryz.func41 Tryz.ntmps41 rfl rfl (hw) ?_
    repeat' first
      | (refine J.isJ ?_; first | (first | (refine J.o 4 ?_; refine J.lR hΓ ?_ (hr := rf.tl.tl.tl.tl)) | (refine J.o 9 ?_; refine J.callvx eNet1 rfl rfl rfl (fun w hw => net1_any N hN ⟨1, 0, none, 0, []⟩ (lit_sl none) (hl := []) (fun _ h => absurd h List.not_mem_nil) (by decide) hf hT bs op hv65 rb hw) ?_; rintro _ _ ⟨a2, c2, ho2, hi2, hm2, vs2, rfl, rfl, bs2, e2⟩)) | (first | (refine J.o 0 ?_; refine J.ev' hΓ ?_) | refine J.nil ?_ | (refine J.o 4 ?_; first | refine J.lR hΓ ?_) | (refine J.o 3 ?_; first | refine J.ev' hΓ ?_) | (refine J.o 8 ?_; refine J.bd hΓ ?_) | (refine J.o 10 ?_; refine J.ev' hΓ ?_) | (refine J.o 11 ?_; refine J.ev' hΓ ?_)))
      | (first | refine JC.seq ?_ | refine JC.region ?_ | refine JC.ret ?_ | refine JC.skip ?_ | refine thenK.nn ?_ | refine thenK.r ?_ | refine JC.condT rfl ?_ | refine JC.condF rfl ?_)
      | (fail)
      | fail
    all_goals first | (exfalso; omega) | skip
    exact ret1f rfl rfl rfl (fun w1 hw => ⟨_, _, rfl, hw, a2, c2, ho2, hi2, hm2, vs2, rfl, rfl, bs2, e2⟩)
  | false =>
    rw [if_neg Bool.false_ne_true] at hf ⊢
    refine calls_in Tryz.func41 Tryz.ntmps41 rfl rfl (hw) ?_
    repeat' first
      | (refine J.isJ ?_; first | (first | (refine J.o 4 ?_; refine J.lR hΓ ?_ (hr := rf.tl.tl.tl.tl)) | (refine J.o 9 ?_; refine J.callvx eNet1 rfl rfl rfl (fun w hw => net1_any N hN ⟨0, 0, none, 0, []⟩ (lit_sl none) (hl := []) (fun _ h => absurd h List.not_mem_nil) (by decide) hf hT bs op hv65 rb hw) ?_; rintro _ _ ⟨a2, c2, ho2, hi2, hm2, vs2, rfl, rfl, bs2, e2⟩)) | (first | (refine J.o 0 ?_; refine J.ev' hΓ ?_) | refine J.nil ?_ | (refine J.o 4 ?_; first | refine J.lR hΓ ?_) | (refine J.o 3 ?_; first | refine J.ev' hΓ ?_) | (refine J.o 8 ?_; refine J.bd hΓ ?_) | (refine J.o 10 ?_; refine J.ev' hΓ ?_) | (refine J.o 11 ?_; refine J.ev' hΓ ?_)))
      | (first | refine JC.seq ?_ | refine JC.region ?_ | refine JC.ret ?_ | refine JC.skip ?_ | refine thenK.nn ?_ | refine thenK.r ?_ | refine JC.condT rfl ?_ | refine JC.condF rfl ?_)
      | (fail)
      | fail
    all_goals first | (exfalso; omega) | skip
    exact ret1f rfl rfl rfl (fun w1 hw => ⟨_, _, rfl, hw, a2, c2, ho2, hi2, hm2, vs2, rfl, rfl, bs2, e2⟩)
end Go.Proofs.YtdiciemlbhkilaaGreatDoor
namespace Go.Proofs.YtdiciemlbhkilaaGreatDoor
open Go Go.Cx Go.RowKit
set_option linter.unusedVariables false
set_option linter.unusedSimpArgs false
set_option maxHeartbeats 4000000
attribute [local irreducible] J JC thenK blockK loopK roundK drawK retK QW Qt pel List.set Calls
attribute [local irreducible] JE Br eK0 eK3 brK
theorem two_sl (x : Nat) (i j : Int) : SlT encI 1 (some ⟨x, 0, none⟩) [i, j] [(x, .cells ⟨[.int .i64 i, .int .i64 j]⟩ 3 (0, 0))] := OwT.sl (e := 3) (cap := 2) ⟨fun _ => rfl, .inr ⟨x, _, rfl, rfl, rfl, Nat.le_refl _, rfl⟩⟩
theorem ask5_ex {N : Int} {B : List PN} {v no yes : Int} (hne : no ≠ yes) (h : Ask5 N B v no yes) : ∃ p1 p2 p3 p4 : Int × List PN, p1 = addP B (2, -v, []) ∧ p2 = addP p1.2 (2, v, []) ∧ p3 = addP p2.2 (3, 0, [p1.1, no]) ∧ p4 = addP p3.2 (3, 0, [p2.1, yes]) ∧ askP B v no yes = addP p4.2 (4, 0, [p3.1, p4.1]) ∧ formedP (2, -v, []) N B.length = true ∧ (Bt N p1.2 ∧ p1.2.length ≤ B.length + 1 ∧ formedP (2, v, []) N p1.2.length = true) ∧ (Bt N p2.2 ∧ p2.2.length ≤ B.length + 2 ∧ formedP (3, 0, [p1.1, no]) N p2.2.length = true) ∧ (Bt N p3.2 ∧ p3.2.length ≤ B.length + 3 ∧ formedP (3, 0, [p2.1, yes]) N p3.2.length = true) ∧ Bt N p4.2 ∧ p4.2.length ≤ B.length + 4 ∧ formedP (4, 0, [p3.1, p4.1]) N p4.2.length = true :=
  ⟨_, _, _, _, rfl, rfl, rfl, rfl, by unfold askP; rw [if_neg hne], h.f1, ⟨h.b1, h.l1, h.f2⟩, ⟨h.b2, h.l2, h.f3⟩, ⟨h.b3, h.l3, h.f4⟩, h.b4, h.l4, h.f5⟩
theorem brx (x a b c d : Heap) (L : List Heap) : (x :: a :: b :: c :: d :: L).Perm (a :: b :: c :: d :: x :: L) := (bring_perm 4 (a :: b :: c :: d :: x :: L)).symm
set_option maxHeartbeats 32000000 in
theorem net3_any (N : Int) (hN : 0 ≤ N ∧ N ≤ 128) (v no yes : Int) {w0 w : World} {R : Heap} {L : List Heap} {b bb bf cap bm : Nat} {a : Option Addr} {vs : List NV} {ho hi hm : Heap} (hv : 1 ≤ v ∧ v ≤ N) (h5 : no ≠ yes → Ask5 N (vs.map pnV) v no yes) (hT : Tab w0) (bs : BS vs a cap bm ho hi hm) (op : OkP (vs.map pnV)) (hv65 : vs.length + 5 < 65536) (rb : Rd R L bb (bpO b)) (rf : Rd R L bf (afO bb)) (hw : H w0 R (bL N b a vs cap bm ho hi hm ++ L) w) :
    Calls Tryz.prog 42 #[.int .i64 v, .int .i64 no, .int .i64 yes, .pointer (some ⟨bf, 0, none⟩)] w fun e w' => ∃ v' L', e = .returned v' ∧ H w0 R L' w' ∧ ∃ a' cap' ho' hi' hm' vs', v' = .int .i64 (askP (vs.map pnV) v no yes).1 ∧ L' = bL N b a' vs' cap' bm ho' hi' hm' ++ L ∧ BS vs' a' cap' bm ho' hi' hm' ∧ vs'.map pnV = (askP (vs.map pnV) v no yes).2 := by
  have rf0 := rf
  unfold afO at rf0
  by_cases hne : no = yes
  · subst hne
    unfold bL at hw
    simp only [List.cons_append, List.nil_append] at hw
    have e : askP (vs.map pnV) v no no = (no, vs.map pnV) := by unfold askP; rw [if_pos rfl]
    rw [e]
    refine calls_in Tryz.func42 Tryz.ntmps42 rfl rfl (hw) ?_
    repeat' first
      | (refine J.isJ ?_; first | (fail) | (first | (refine J.o 0 ?_; refine J.ev' hΓ ?_) | refine J.nil ?_ | (refine J.o 4 ?_; first | refine J.lR hΓ ?_) | (refine J.o 3 ?_; first | refine J.ev' hΓ ?_) | (refine J.o 1 ?_; first | refine J.ng ?_) | (refine J.o 8 ?_; refine J.bd hΓ ?_) | (refine J.o 9 ?_; refine J.bl hΓ (fun _ => ?_)) | (refine J.o 10 ?_; refine J.ev' hΓ ?_) | (refine J.o 11 ?_; refine J.ev' hΓ ?_)))
      | (first | refine JC.seq ?_ | refine JC.region ?_ | refine JC.ret ?_ | refine JC.skip ?_ | refine thenK.nn ?_ | refine thenK.r ?_ | (refine JC.cond rfl (fun hc => ?_) (fun hc => ?_) <;> ((try simp only [tcS] at hc) <;> first | (first | (exact absurd rfl hc) | (exfalso; omega) | (exact (tF hc (by assumption)).elim) | (exact (fT hc (by assumption)).elim)) | skip)))
      | (fail)
      | fail
    all_goals first | (exfalso; omega) | skip
    exact ret1f rfl rfl rfl (fun w1 hw => ⟨_, _, rfl, hw, a, cap, ho, hi, hm, vs, rfl, rfl, bs, rfl⟩)
  obtain ⟨p1, p2, p3, p4, q1, q2, q3, q4, q5, f1, ⟨b1, l1, f2⟩, ⟨b2, l2, f3⟩, ⟨b3, l3, f4⟩, b4, l4, f5⟩ := ask5_ex hne (h5 hne)
  rw [q5]
  rw [List.length_map] at f1 l1 l2 l3 l4
  have hln : ∀ (us : List NV) (B : List PN), us.map pnV = B → us.length = B.length := fun us B e => by rw [← e, List.length_map]
  unfold bL at hw
  simp only [List.cons_append, List.nil_append] at hw
  refine calls_in Tryz.func42 Tryz.ntmps42 rfl rfl (hw) ?_
  repeat' first
    | (refine J.isJ ?_; first | (fail) | (first | (refine J.o 0 ?_; refine J.ev' hΓ ?_) | refine J.nil ?_ | (refine J.o 4 ?_; first | refine J.lR hΓ ?_) | (refine J.o 3 ?_; first | refine J.ev' hΓ ?_) | (refine J.o 1 ?_; first | refine J.ng ?_) | (refine J.o 8 ?_; refine J.bd hΓ ?_) | (refine J.o 9 ?_; refine J.bl hΓ (fun _ => ?_)) | (refine J.o 10 ?_; refine J.ev' hΓ ?_) | (refine J.o 11 ?_; refine J.ev' hΓ ?_)))
    | (first | refine JC.seq ?_ | refine JC.region ?_ | refine JC.ret ?_ | refine JC.skip ?_ | refine thenK.nn ?_ | refine thenK.r ?_ | (refine JC.cond rfl (fun hc => ?_) (fun hc => ?_) <;> ((try simp only [tcS] at hc) <;> first | (first | (exact absurd rfl hc) | (exfalso; omega) | (exact (tF hc (by assumption)).elim) | (exact (fT hc (by assumption)).elim)) | skip)))
    | (fail)
    | fail
  all_goals first | (exfalso; omega) | skip
  refine JC.mid (fun i => i == 8 || i == 9 || (Nat.ble 14 i && Nat.ble i 22)) (fun g L' => ∃ a2 c2 ho2 hi2 hm2 vs2, g 8 = .int .i64 p1.1 ∧ g 9 = .int .i64 p2.1 ∧ L' = bL N b a2 vs2 c2 bm ho2 hi2 hm2 ++ L ∧ BS vs2 a2 c2 bm ho2 hi2 hm2 ∧ vs2.map pnV = p2.2) ?_ ?_
  ·
    refine JC.drawE L [4, 8] [4, 8] [(4,0),(4,5),(0,1),(0,2),(0,3),(0,6),(0,7),(3,4),(3,8),(0,9),(0,10)] 0 _ (by kernel_rfl) (by kernel_rfl) rfl ?_
    repeat' first
      | (refine J.isJ ?_; first | (first | (refine J.o 4 ?_; refine J.lR hΓ ?_ (hr := rf0)) | (refine J.o 9 ?_; refine J.callvx (d := 18) eNet1 rfl rfl rfl (fun w hw => net1_any N hN ⟨2, -v, none, 0, []⟩ (lit_sl none) (hl := []) (fun _ h => absurd h List.not_mem_nil) (Nat.zero_le _) f1 hT bs op (by omega) rb hw) ?_; rintro _ _ ⟨a1, c1, ho1, hi1, hm1, vs1, rfl, rfl, bs1, e1⟩) | (refine J.o 9 ?_; refine J.callvx (d := 22) eNet1 rfl rfl rfl (fun w hw => net1_any N hN ⟨2, v, none, 0, []⟩ (lit_sl none) (hl := []) (fun _ h => absurd h List.not_mem_nil) (Nat.zero_le _) (by rw [hln vs1 p1.2 (by rw [q1]; exact e1)]; exact f2) hT bs1 (by rw [show vs1.map pnV = p1.2 by rw [q1]; exact e1]; exact b1.ok) (by rw [hln vs1 p1.2 (by rw [q1]; exact e1)]; omega) rb hw) ?_; rintro _ _ ⟨a2, c2, ho2, hi2, hm2, vs2, rfl, rfl, bs2, e2⟩)) | (first | (refine J.o 0 ?_; refine J.ev' hΓ ?_) | refine J.nil ?_ | (refine J.o 4 ?_; first | refine J.lR hΓ ?_) | (refine J.o 3 ?_; first | refine J.ev' hΓ ?_) | (refine J.o 1 ?_; first | refine J.ng ?_) | (refine J.o 8 ?_; refine J.bd hΓ ?_) | (refine J.o 9 ?_; refine J.bl hΓ (fun _ => ?_)) | (refine J.o 10 ?_; refine J.ev' hΓ ?_) | (refine J.o 11 ?_; refine J.ev' hΓ ?_)))
      | (first | (refine JE.is ?_; first | refine JE.s0 ?_ | refine JE.s3 ?_ | refine JE.nil ?_ | refine JE.s4 rfl (fun w hw => (by first | exact hw.drop.drop.drop.drop)) ?_) | refine eK0.nn ?_ | (refine eK3.is ?_; refine eK3.nn (fun w hw => (by first | exact hw.drop.drop.drop.drop)) ?_) | refine brK.nn ?_)
      | (first | refine JC.seq ?_ | refine JC.region ?_ | refine JC.ret ?_ | refine JC.skip ?_ | refine thenK.nn ?_ | refine thenK.r ?_ | (refine JC.cond rfl (fun hc => ?_) (fun hc => ?_) <;> ((try simp only [tcS] at hc) <;> first | (first | (exact absurd rfl hc) | (exfalso; omega) | (exact (tF hc (by assumption)).elim) | (exact (fT hc (by assumption)).elim)) | skip)))
      | (fail)
      | fail
    refine Br.done (by kernel_rfl) ?_
    have e1' : vs1.map pnV = p1.2 := by rw [q1]; exact e1
    exact midK.nn (by repeat (first | refine Ag.upd rfl ?_ | exact Ag.rfl')) ⟨a2, c2, ho2, hi2, hm2, vs2, by rw [q1]; rfl, by rw [q2, ← e1']; rfl, rfl, bs2, by rw [q2, ← e1']; exact e2⟩
  rintro g4 L4 ⟨a2, c2, ho2, hi2, hm2, vs2, g8, g9, rfl, bs2, e2⟩
  refine thenK.nn (JC.pin 8 g8 (JC.pin 9 g9 ?_))
  clear g8 g9
  unfold bL
  simp only [List.cons_append, List.nil_append]
  have n2 := hln vs2 p2.2 e2
  refine JC.seq ?_
  refine JC.mid (fun i => i == 8 || i == 9 || (Nat.ble 23 i && Nat.ble i 34)) (fun g L' => ∃ a4 c4 ho4 hi4 hm4 vs4 y1 y2, g 8 = .int .i64 p3.1 ∧ g 9 = .int .i64 p4.1 ∧ L' = bL N b a4 vs4 c4 bm ho4 hi4 hm4 ++ y1 :: y2 :: L ∧ BS vs4 a4 c4 bm ho4 hi4 hm4 ∧ vs4.map pnV = p4.2) ?_ ?_
  ·
    refine JC.drawE L [3, 5, 9, 11] [3, 5, 9, 11] [(4,0),(4,6),(0,1),(0,2),(0,7),(0,8)] 8 _ (by kernel_rfl) (by kernel_rfl) rfl ?_
    repeat' first
      | (refine J.isJ ?_; first | ((refine J.o 4 ?_; refine J.lR hΓ ?_ (hr := rf0))) | (first | (refine J.o 0 ?_; refine J.ev' hΓ ?_) | refine J.nil ?_ | (refine J.o 4 ?_; first | refine J.lR hΓ ?_) | (refine J.o 3 ?_; first | refine J.ev' hΓ ?_) | (refine J.o 1 ?_; first | refine J.ng ?_) | (refine J.o 8 ?_; refine J.bd hΓ ?_) | (refine J.o 9 ?_; refine J.bl hΓ (fun _ => ?_)) | (refine J.o 10 ?_; refine J.ev' hΓ ?_) | (refine J.o 11 ?_; refine J.ev' hΓ ?_)))
      | (first | (refine JE.is ?_; first | refine JE.s0 ?_ | refine JE.s3 ?_ | refine JE.nil ?_ | refine JE.s4 rfl (fun w hw => (by first | exact hw.drop.drop.drop.drop)) ?_) | refine eK0.nn ?_ | (refine eK3.is ?_; refine eK3.nn (fun w hw => (by first | exact hw.drop.drop.drop.drop)) ?_) | refine brK.nn ?_)
      | (first | refine JC.seq ?_ | refine JC.region ?_ | refine JC.ret ?_ | refine JC.skip ?_ | refine thenK.nn ?_ | refine thenK.r ?_ | (refine JC.cond rfl (fun hc => ?_) (fun hc => ?_) <;> ((try simp only [tcS] at hc) <;> first | (first | (exact absurd rfl hc) | (exfalso; omega) | (exact (tF hc (by assumption)).elim) | (exact (fT hc (by assumption)).elim)) | skip)))
      | (fail)
      | fail
    refine Br.two (c1 := 1) (c2 := 1) (m1 := 6) (m2 := 0) 3 9 [(0, 4)] [(0, 10), (3, 3), (0, 4), (3, 5), (3, 11), (0, 12), (0, 13)] (by decide +kernel) rfl rfl (by decide +kernel) rfl (by decide +kernel) rfl ?_ ?_
    ·
      repeat' first
        | (refine J.isJ ?_; first | ((refine J.o 9 ?_; first | (refine J.bl (d := 26) hΓ (fun x1 => ?_); refine J.perm (brx _ _ _ _ _ _) ?_) | (refine J.bl (d := 32) hΓ (fun x2 => ?_); refine J.perm (brx _ _ _ _ _ _) ?_))) | (first | (refine J.o 0 ?_; refine J.ev' hΓ ?_) | refine J.nil ?_ | (refine J.o 4 ?_; first | refine J.lR hΓ ?_) | (refine J.o 3 ?_; first | refine J.ev' hΓ ?_) | (refine J.o 1 ?_; first | refine J.ng ?_) | (refine J.o 8 ?_; refine J.bd hΓ ?_) | (refine J.o 9 ?_; refine J.bl hΓ (fun _ => ?_)) | (refine J.o 10 ?_; refine J.ev' hΓ ?_) | (refine J.o 11 ?_; refine J.ev' hΓ ?_)))
        | (first | (refine JE.is ?_; first | refine JE.s0 ?_ | refine JE.s3 ?_ | refine JE.nil ?_ | refine JE.s4 rfl (fun w hw => (by first | exact hw.drop.drop.drop.drop.drop | exact hw.drop.drop.drop.drop.drop.drop | exact hw.drop.drop.drop.drop)) ?_) | refine eK0.nn ?_ | (refine eK3.is ?_; refine eK3.nn (fun w hw => (by first | exact hw.drop.drop.drop.drop.drop | exact hw.drop.drop.drop.drop.drop.drop | exact hw.drop.drop.drop.drop)) ?_) | refine brK.nn ?_)
        | (first | refine JC.seq ?_ | refine JC.region ?_ | refine JC.ret ?_ | refine JC.skip ?_ | refine thenK.nn ?_ | refine thenK.r ?_ | (refine JC.cond rfl (fun hc => ?_) (fun hc => ?_) <;> ((try simp only [tcS] at hc) <;> first | (first | (exact absurd rfl hc) | (exfalso; omega) | (exact (tF hc (by assumption)).elim) | (exact (fT hc (by assumption)).elim)) | skip)))
        | (fail)
        | fail
      refine Br.two (c1 := 1) (c2 := 1) (m1 := 0) (m2 := 0) 5 9 [(3, 9), (0, 10), (3, 11), (0, 12), (0, 13)] [(0, 10), (3, 5), (3, 11), (0, 12), (0, 13)] (by decide +kernel) rfl rfl (by decide +kernel) rfl (by decide +kernel) rfl ?_ ?_
      ·
        repeat' first
          | (refine J.isJ ?_; first | ((refine J.o 9 ?_; first | (refine J.bl (d := 26) hΓ (fun x1 => ?_); refine J.perm (brx _ _ _ _ _ _) ?_) | (refine J.bl (d := 32) hΓ (fun x2 => ?_); refine J.perm (brx _ _ _ _ _ _) ?_) | (refine J.callvx (d := 28) eNet1 rfl rfl rfl (fun w hw => net1_any N hN ⟨3, 0, some ⟨x1, 0, none⟩, 2, [p1.1, no]⟩ (two_sl x1 p1.1 no) (by first | exact RdH.hd | exact RdH.hd.tl) (by show 2 ≤ 1000000; decide) (by rw [n2]; exact f3) hT bs2 (by rw [e2]; exact b2.ok) (by rw [n2]; omega) (by first | exact rb.tl | exact rb.tl.tl) hw) ?_; rintro _ _ ⟨a3, c3, ho3, hi3, hm3, vs3, rfl, rfl, bs3, e3⟩) | (refine J.callvx (d := 34) eNet1 rfl rfl rfl (fun w hw => net1_any N hN ⟨3, 0, some ⟨x2, 0, none⟩, 2, [p2.1, yes]⟩ (two_sl x2 p2.1 yes) (by first | exact RdH.hd | exact RdH.hd.tl) (by show 2 ≤ 1000000; decide) (by rw [hln vs3 p3.2 (by rw [q3, ← e2]; exact e3)]; exact f4) hT bs3 (by rw [show vs3.map pnV = p3.2 by rw [q3, ← e2]; exact e3]; exact b3.ok) (by rw [hln vs3 p3.2 (by rw [q3, ← e2]; exact e3)]; omega) (by first | exact rb.tl.tl) hw) ?_; rintro _ _ ⟨a4, c4, ho4, hi4, hm4, vs4, rfl, rfl, bs4, e4⟩))) | (first | (refine J.o 0 ?_; refine J.ev' hΓ ?_) | refine J.nil ?_ | (refine J.o 4 ?_; first | refine J.lR hΓ ?_) | (refine J.o 3 ?_; first | refine J.ev' hΓ ?_) | (refine J.o 1 ?_; first | refine J.ng ?_) | (refine J.o 8 ?_; refine J.bd hΓ ?_) | (refine J.o 9 ?_; refine J.bl hΓ (fun _ => ?_)) | (refine J.o 10 ?_; refine J.ev' hΓ ?_) | (refine J.o 11 ?_; refine J.ev' hΓ ?_)))
          | (first | (refine JE.is ?_; first | refine JE.s0 ?_ | refine JE.s3 ?_ | refine JE.nil ?_ | refine JE.s4 rfl (fun w hw => (by first | exact hw.drop.drop.drop.drop.drop | exact hw.drop.drop.drop.drop.drop.drop | exact hw.drop.drop.drop.drop)) ?_) | refine eK0.nn ?_ | (refine eK3.is ?_; refine eK3.nn (fun w hw => (by first | exact hw.drop.drop.drop.drop.drop | exact hw.drop.drop.drop.drop.drop.drop | exact hw.drop.drop.drop.drop)) ?_) | refine brK.nn ?_)
          | (first | refine JC.seq ?_ | refine JC.region ?_ | refine JC.ret ?_ | refine JC.skip ?_ | refine thenK.nn ?_ | refine thenK.r ?_ | (refine JC.cond rfl (fun hc => ?_) (fun hc => ?_) <;> ((try simp only [tcS] at hc) <;> first | (first | (exact absurd rfl hc) | (exfalso; omega) | (exact (tF hc (by assumption)).elim) | (exact (fT hc (by assumption)).elim)) | skip)))
          | (fail)
          | fail
        refine Br.done (by kernel_rfl) ?_
        have e3' : vs3.map pnV = p3.2 := by rw [q3, ← e2]; exact e3
        exact midK.nn (by repeat (first | exact Ag.rfl' | refine Ag.upd rfl ?_)) ⟨a4, c4, ho4, hi4, hm4, vs4, _, _, by rw [q3, ← e2]; rfl, by rw [q4, ← e3']; rfl, rfl, bs4, by rw [q4, ← e3']; exact e4⟩
      ·
        repeat' first
          | (refine J.isJ ?_; first | ((refine J.o 9 ?_; first | (refine J.bl (d := 26) hΓ (fun x1 => ?_); refine J.perm (brx _ _ _ _ _ _) ?_) | (refine J.bl (d := 32) hΓ (fun x2 => ?_); refine J.perm (brx _ _ _ _ _ _) ?_) | (refine J.callvx (d := 28) eNet1 rfl rfl rfl (fun w hw => net1_any N hN ⟨3, 0, some ⟨x1, 0, none⟩, 2, [p1.1, no]⟩ (two_sl x1 p1.1 no) (by first | exact RdH.hd | exact RdH.hd.tl) (by show 2 ≤ 1000000; decide) (by rw [n2]; exact f3) hT bs2 (by rw [e2]; exact b2.ok) (by rw [n2]; omega) (by first | exact rb.tl | exact rb.tl.tl) hw) ?_; rintro _ _ ⟨a3, c3, ho3, hi3, hm3, vs3, rfl, rfl, bs3, e3⟩) | (refine J.callvx (d := 34) eNet1 rfl rfl rfl (fun w hw => net1_any N hN ⟨3, 0, some ⟨x2, 0, none⟩, 2, [p2.1, yes]⟩ (two_sl x2 p2.1 yes) (by first | exact RdH.hd | exact RdH.hd.tl) (by show 2 ≤ 1000000; decide) (by rw [hln vs3 p3.2 (by rw [q3, ← e2]; exact e3)]; exact f4) hT bs3 (by rw [show vs3.map pnV = p3.2 by rw [q3, ← e2]; exact e3]; exact b3.ok) (by rw [hln vs3 p3.2 (by rw [q3, ← e2]; exact e3)]; omega) (by first | exact rb.tl.tl) hw) ?_; rintro _ _ ⟨a4, c4, ho4, hi4, hm4, vs4, rfl, rfl, bs4, e4⟩))) | (first | (refine J.o 0 ?_; refine J.ev' hΓ ?_) | refine J.nil ?_ | (refine J.o 4 ?_; first | refine J.lR hΓ ?_) | (refine J.o 3 ?_; first | refine J.ev' hΓ ?_) | (refine J.o 1 ?_; first | refine J.ng ?_) | (refine J.o 8 ?_; refine J.bd hΓ ?_) | (refine J.o 9 ?_; refine J.bl hΓ (fun _ => ?_)) | (refine J.o 10 ?_; refine J.ev' hΓ ?_) | (refine J.o 11 ?_; refine J.ev' hΓ ?_)))
          | (first | (refine JE.is ?_; first | refine JE.s0 ?_ | refine JE.s3 ?_ | refine JE.nil ?_ | refine JE.s4 rfl (fun w hw => (by first | exact hw.drop.drop.drop.drop.drop | exact hw.drop.drop.drop.drop.drop.drop | exact hw.drop.drop.drop.drop)) ?_) | refine eK0.nn ?_ | (refine eK3.is ?_; refine eK3.nn (fun w hw => (by first | exact hw.drop.drop.drop.drop.drop | exact hw.drop.drop.drop.drop.drop.drop | exact hw.drop.drop.drop.drop)) ?_) | refine brK.nn ?_)
          | (first | refine JC.seq ?_ | refine JC.region ?_ | refine JC.ret ?_ | refine JC.skip ?_ | refine thenK.nn ?_ | refine thenK.r ?_ | (refine JC.cond rfl (fun hc => ?_) (fun hc => ?_) <;> ((try simp only [tcS] at hc) <;> first | (first | (exact absurd rfl hc) | (exfalso; omega) | (exact (tF hc (by assumption)).elim) | (exact (fT hc (by assumption)).elim)) | skip)))
          | (fail)
          | fail
        refine Br.done (by kernel_rfl) ?_
        have e3' : vs3.map pnV = p3.2 := by rw [q3, ← e2]; exact e3
        exact midK.nn (by repeat (first | exact Ag.rfl' | refine Ag.upd rfl ?_)) ⟨a4, c4, ho4, hi4, hm4, vs4, _, _, by rw [q3, ← e2]; rfl, by rw [q4, ← e3']; rfl, rfl, bs4, by rw [q4, ← e3']; exact e4⟩
    ·
      repeat' first
        | (refine J.isJ ?_; first | ((refine J.o 9 ?_; first | (refine J.bl (d := 26) hΓ (fun x1 => ?_); refine J.perm (brx _ _ _ _ _ _) ?_) | (refine J.bl (d := 32) hΓ (fun x2 => ?_); refine J.perm (brx _ _ _ _ _ _) ?_) | (refine J.callvx (d := 28) eNet1 rfl rfl rfl (fun w hw => net1_any N hN ⟨3, 0, some ⟨x1, 0, none⟩, 2, [p1.1, no]⟩ (two_sl x1 p1.1 no) (by first | exact RdH.hd | exact RdH.hd.tl) (by show 2 ≤ 1000000; decide) (by rw [n2]; exact f3) hT bs2 (by rw [e2]; exact b2.ok) (by rw [n2]; omega) (by first | exact rb.tl | exact rb.tl.tl) hw) ?_; rintro _ _ ⟨a3, c3, ho3, hi3, hm3, vs3, rfl, rfl, bs3, e3⟩) | (refine J.callvx (d := 34) eNet1 rfl rfl rfl (fun w hw => net1_any N hN ⟨3, 0, some ⟨x2, 0, none⟩, 2, [p2.1, yes]⟩ (two_sl x2 p2.1 yes) (by first | exact RdH.hd | exact RdH.hd.tl) (by show 2 ≤ 1000000; decide) (by rw [hln vs3 p3.2 (by rw [q3, ← e2]; exact e3)]; exact f4) hT bs3 (by rw [show vs3.map pnV = p3.2 by rw [q3, ← e2]; exact e3]; exact b3.ok) (by rw [hln vs3 p3.2 (by rw [q3, ← e2]; exact e3)]; omega) (by first | exact rb.tl.tl) hw) ?_; rintro _ _ ⟨a4, c4, ho4, hi4, hm4, vs4, rfl, rfl, bs4, e4⟩))) | (first | (refine J.o 0 ?_; refine J.ev' hΓ ?_) | refine J.nil ?_ | (refine J.o 4 ?_; first | refine J.lR hΓ ?_) | (refine J.o 3 ?_; first | refine J.ev' hΓ ?_) | (refine J.o 1 ?_; first | refine J.ng ?_) | (refine J.o 8 ?_; refine J.bd hΓ ?_) | (refine J.o 9 ?_; refine J.bl hΓ (fun _ => ?_)) | (refine J.o 10 ?_; refine J.ev' hΓ ?_) | (refine J.o 11 ?_; refine J.ev' hΓ ?_)))
        | (first | (refine JE.is ?_; first | refine JE.s0 ?_ | refine JE.s3 ?_ | refine JE.nil ?_ | refine JE.s4 rfl (fun w hw => (by first | exact hw.drop.drop.drop.drop.drop | exact hw.drop.drop.drop.drop.drop.drop | exact hw.drop.drop.drop.drop)) ?_) | refine eK0.nn ?_ | (refine eK3.is ?_; refine eK3.nn (fun w hw => (by first | exact hw.drop.drop.drop.drop.drop | exact hw.drop.drop.drop.drop.drop.drop | exact hw.drop.drop.drop.drop)) ?_) | refine brK.nn ?_)
        | (first | refine JC.seq ?_ | refine JC.region ?_ | refine JC.ret ?_ | refine JC.skip ?_ | refine thenK.nn ?_ | refine thenK.r ?_ | (refine JC.cond rfl (fun hc => ?_) (fun hc => ?_) <;> ((try simp only [tcS] at hc) <;> first | (first | (exact absurd rfl hc) | (exfalso; omega) | (exact (tF hc (by assumption)).elim) | (exact (fT hc (by assumption)).elim)) | skip)))
        | (fail)
        | fail
      refine Br.done (by kernel_rfl) ?_
      have e3' : vs3.map pnV = p3.2 := by rw [q3, ← e2]; exact e3
      exact midK.nn (by repeat (first | exact Ag.rfl' | refine Ag.upd rfl ?_)) ⟨a4, c4, ho4, hi4, hm4, vs4, _, _, by rw [q3, ← e2]; rfl, by rw [q4, ← e3']; rfl, rfl, bs4, by rw [q4, ← e3']; exact e4⟩
  rintro g5 L5 ⟨a4, c4, ho4, hi4, hm4, vs4, y1, y2, g8, g9, rfl, bs4, e4⟩
  refine thenK.nn (JC.pin 8 g8 (JC.pin 9 g9 ?_))
  clear g8 g9
  unfold bL
  simp only [List.cons_append, List.nil_append]
  have n4 := hln vs4 p4.2 e4
  repeat' first
    | (refine J.isJ ?_; first | (first | (refine J.o 4 ?_; refine J.lR hΓ ?_ (hr := rf0.tl.tl.tl.tl.tl.tl)) | (refine J.o 9 ?_; first | (refine J.bl hΓ (fun x5 => ?_); refine J.perm (brx _ _ _ _ _ _) ?_) | (refine J.callvx eNet1 rfl rfl rfl (fun w hw => net1_any N hN ⟨4, 0, some ⟨x5, 0, none⟩, 2, [p3.1, p4.1]⟩ (two_sl x5 p3.1 p4.1) RdH.hd (by show 2 ≤ 1000000; decide) (by rw [n4]; exact f5) hT bs4 (by rw [e4]; exact b4.ok) (by rw [n4]; omega) rb.tl.tl.tl hw) ?_; rintro _ _ ⟨a6, c6, ho6, hi6, hm6, vs6, rfl, rfl, bs6, e6⟩))) | (first | (refine J.o 0 ?_; refine J.ev' hΓ ?_) | refine J.nil ?_ | (refine J.o 4 ?_; first | refine J.lR hΓ ?_) | (refine J.o 3 ?_; first | refine J.ev' hΓ ?_) | (refine J.o 1 ?_; first | refine J.ng ?_) | (refine J.o 8 ?_; refine J.bd hΓ ?_) | (refine J.o 9 ?_; refine J.bl hΓ (fun _ => ?_)) | (refine J.o 10 ?_; refine J.ev' hΓ ?_) | (refine J.o 11 ?_; refine J.ev' hΓ ?_)))
    | (first | refine JC.seq ?_ | refine JC.region ?_ | refine JC.ret ?_ | refine JC.skip ?_ | refine thenK.nn ?_ | refine thenK.r ?_ | (refine JC.cond rfl (fun hc => ?_) (fun hc => ?_) <;> ((try simp only [tcS] at hc) <;> first | (first | (exact absurd rfl hc) | (exfalso; omega) | (exact (tF hc (by assumption)).elim) | (exact (fT hc (by assumption)).elim)) | skip)))
    | (fail)
    | fail
  all_goals first | (exfalso; omega) | skip
  exact ret1f rfl rfl rfl (fun w1 hw => ⟨_, _, rfl, H.sel (l := [_, _, _, _, _, _, _]) (M := L) hw [0, 1, 2, 3], a6, c6, ho6, hi6, hm6, vs6, by rw [← e4]; rfl, rfl, bs6, by rw [← e4]; exact e6⟩)
end Go.Proofs.YtdiciemlbhkilaaGreatDoor
namespace Go.Proofs.YtdiciemlbhkilaaGreatDoor
open Go Go.Cx Go.RowKit
set_option linter.unusedVariables false
set_option linter.unusedSimpArgs false
set_option maxHeartbeats 4000000
attribute [local irreducible] J JC thenK blockK loopK roundK drawK retK QW Qt pel List.set Calls
attribute [local irreducible] JE Br eK0 eK3 brK clsAt
theorem brv (a b c d x : Heap) (L : List Heap) : (a :: b :: c :: d :: x :: L).Perm (x :: a :: b :: c :: d :: L) := bring_perm 4 _
theorem hv6 {w0 w : World} {R x h a b c d : Heap} {L : List Heap} (hw : H w0 R (x :: h :: a :: b :: c :: d :: L) w) : H w0 R (a :: b :: c :: d :: h :: x :: L) w := H.sel (l := [_, _, _, _, _, _]) (M := L) hw [2, 3, 4, 5, 1, 0]
theorem hdx {w0 w : World} {R x h a b c d : Heap} {L : List Heap} (hw : H w0 R (h :: a :: b :: c :: d :: x :: L) w) : H w0 R (h :: a :: b :: c :: d :: L) w := H.sel (l := [_, _, _, _, _, _]) (M := L) hw [0, 1, 2, 3, 4]
set_option maxHeartbeats 16000000 in
theorem foldN_any {w0 w : World} {R : Heap} {L : List Heap} {N : Int} {b bb bf cap bm : Nat} {a : Option Addr} {ho hi hm : Heap} (at_ : Option Addr) (ct : Nat) (ts : List Nd) (hs : SlT encN 4 at_ ts R) (hV : Valid ts N) (hT : Tab w0) (bs : BS [] a cap bm ho hi hm) (rb : Rd R L bb (bpO b)) (rf : Rd R L bf (afO bb)) (hw : H w0 R (bL N b a [] cap bm ho hi hm ++ L) w) :
    Calls Tryz.prog 40 #[.slice at_ ts.length ct, .func (.func 41) ⟨[]⟩ ⟨[.pointer (some ⟨bf, 0, none⟩)]⟩, .func (.func 42) ⟨[]⟩ ⟨[.pointer (some ⟨bf, 0, none⟩)]⟩] w fun e' w' => ∃ v' L', e' = .returned v' ∧ H w0 R L' w' ∧ (∃ (us : List Int) (a' : Option Addr) (cap' : Nat) (ho' hi' hm' : Heap) (vs' : List NV), v' = .int .i64 (us.getD 0 default) ∧ L' = bL N b a' vs' cap' bm ho' hi' hm' ++ L ∧ BS vs' a' cap' bm ho' hi' hm' ∧ TI ts N 0 (vs'.map pnV) us) := by
  have hN := hV.rng
  have hpos := hV.pos
  have hle := hV.le
  have hqs := hV.quests
  have hcst : ∀ m, ((ts.drop m).length : Int) + 2 * ews (fun _ => 1) (ts.drop m) ≤ 12288 := fun m => by
    have key : ∀ xs : List Nd, 0 ≤ ews (fun _ => 1) xs := fun xs => by
      induction xs with
      | nil => exact Int.le_refl 0
      | cons x xs ih => rw [ews_cons]; split <;> omega
    have split_ : ∀ (m : Nat) (xs : List Nd), ews (fun _ => 1) (xs.drop m) ≤ ews (fun _ => 1) xs := fun m => by
      induction m with
      | zero => intro xs; rw [List.drop_zero]; exact Int.le_refl _
      | succ m ih =>
        intro xs
        cases xs with
        | nil => exact Int.le_refl _
        | cons x xs =>
          rw [List.drop_succ_cons, ews_cons]
          have := ih xs
          split <;> omega
    have := split_ m ts
    rw [List.length_drop]
    omega
  unfold bL at hw
  simp only [List.cons_append, List.nil_append] at hw
  refine calls_in Tryz.func40 Tryz.ntmps40 rfl rfl (hw) ?_
  repeat' first
    | (refine J.isJ ?_; first | ((refine J.o 9 ?_; refine J.make (enc := encI) (0 : Int) hΓ rfl rfl rfl rfl rfl rfl (fun _ => rfl) (by omega) (by omega) (fun bp hp0 op0 => ?_))) | (first | (refine J.o 0 ?_; refine J.ev' hΓ ?_) | refine J.nil ?_ | (refine J.o 4 ?_; first | refine J.lT default hΓ ?_ | refine J.lR hΓ ?_) | (refine J.o 3 ?_; first | refine J.iJ hΓ ?_ | refine J.ev' hΓ ?_) | (refine J.o 1 ?_; first | refine J.sb ?_) | (refine J.o 5 ?_; first | refine J.t0 hΓ ?_ | refine J.tT _ default hΓ (fun _ _ => ?_)) | (refine J.o 7 ?_; refine J.al hΓ (fun _ => ?_)) | (refine J.o 10 ?_; refine J.ev' hΓ ?_) | (refine J.o 11 ?_; refine J.ev' hΓ ?_)))
    | (first | refine JC.seq ?_ | refine JC.region ?_ | refine JC.block ?_ | refine JC.ret ?_ | refine JC.exit ?_ | refine JC.skip ?_ | refine thenK.nn ?_ | refine thenK.x ?_ | refine blockK.nn ?_ | refine blockK.hit rfl ?_ | refine JC.condT rfl ?_ | refine JC.condF rfl ?_ | (refine JC.cond rfl (fun hc => ?_) (fun hc => ?_) <;> ((try simp only [tcS] at hc) <;> first | (first | (exact absurd rfl hc) | (exfalso; omega) | (exact (tF hc (by assumption)).elim) | (exact (fT hc (by assumption)).elim)) | skip)) | refine drawK.nn ?_ | refine loopK.x ?_)
    | (fail)
    | fail
  all_goals first | (exfalso; omega) | skip
  refine JC.loopG (fun i => i == 8 || i == 9 || Nat.ble 16 i) (fun m g L' => ∃ (us : List Int) (a' : Option Addr) (cap' : Nat) (ho' hi' hm' : Heap) (vs' : List NV) (hv : Heap), g 8 = .int .i64 ((m : Int) - 1) ∧ m ≤ ts.length ∧ OwT encI 1 3 (some ⟨bp, 0, none⟩) ts.length us hv ∧ BS vs' a' cap' bm ho' hi' hm' ∧ TI ts N m (vs'.map pnV) us ∧ L' = hv :: bL N b a' vs' cap' bm ho' hi' hm' ++ L) ts.length
    ⟨List.replicate ts.length 0, a, cap, ho, hi, hm, [], hp0, rfl, Nat.le_refl _, op0, bs, TI.start ts N _ (List.length_replicate ..), rfl⟩ ?_
  clear op0 bs
  rintro m g L' ⟨us, a1, c1, ho1, hi1, hm1, vs1, hv, e8, hm, ov, bs1, ti, rfl⟩
  cases m with
  | zero =>
    refine JC.pin 8 e8 ?_
    clear e8
    have hln := ti.ln
    unfold bL
    repeat' first
      | (refine J.isJ ?_; first | ((refine J.o 4 ?_; refine J.lT default hΓ ?_ (hs := ov.sl) (hr := RdH.hd))) | (first | (refine J.o 0 ?_; refine J.ev' hΓ ?_) | refine J.nil ?_ | (refine J.o 4 ?_; first | refine J.lT default hΓ ?_ | refine J.lR hΓ ?_) | (refine J.o 3 ?_; first | refine J.iJ hΓ ?_ | refine J.ev' hΓ ?_) | (refine J.o 1 ?_; first | refine J.sb ?_) | (refine J.o 5 ?_; first | refine J.t0 hΓ ?_ | refine J.tT _ default hΓ (fun _ _ => ?_)) | (refine J.o 7 ?_; refine J.al hΓ (fun _ => ?_)) | (refine J.o 10 ?_; refine J.ev' hΓ ?_) | (refine J.o 11 ?_; refine J.ev' hΓ ?_)))
      | (first | refine JC.seq ?_ | refine JC.region ?_ | refine JC.block ?_ | refine JC.ret ?_ | refine JC.exit ?_ | refine JC.skip ?_ | refine thenK.nn ?_ | refine thenK.x ?_ | refine blockK.nn ?_ | refine blockK.hit rfl ?_ | refine JC.condT rfl ?_ | refine JC.condF rfl ?_ | (refine JC.cond rfl (fun hc => ?_) (fun hc => ?_) <;> ((try simp only [tcS] at hc) <;> first | (first | (exact absurd rfl hc) | (exfalso; omega) | (exact (tF hc (by assumption)).elim) | (exact (fT hc (by assumption)).elim)) | skip)) | refine drawK.nn ?_ | refine loopK.x ?_)
      | (fail)
      | fail
    all_goals first | (exfalso; omega) | skip
    exact ret1f rfl rfl rfl (fun w1 hw => ⟨_, _, rfl, hw.drop, us, a1, c1, ho1, hi1, hm1, vs1, rfl, rfl, bs1, ti⟩)
  | succ k =>
    have e8k : g 8 = .int .i64 (k : Int) := by rw [e8]; congr 1; omega
    refine JC.pin 8 e8k ?_
    clear e8 e8k
    have hk : k < ts.length := by omega
    have hln := ti.ln
    have hle1 := ti.le
    have hcs := hcst (k + 1)
    rw [List.length_map] at hle1
    have hlb : vs1.length ≤ 12288 := by omega
    clear hcst
    by_cases hv0 : (ts.getD k default).v = 0
    · obtain ⟨hf, ti2⟩ := ti.leaf hV hk hv0
      rw [List.length_map] at hf
      unfold bL
      simp only [List.cons_append, List.nil_append]
      repeat' first
        | (refine J.isJ ?_; first | (first | (refine J.o 4 ?_; refine J.lT default hΓ ?_ (hs := hs) (hr := RdH.old fun _ hh => hh)) | (refine J.o 9 ?_; refine J.callvx eNet2 rfl rfl rfl (fun w hw => net2_any N hN (ts.getD k default).c hf hT bs1 ti.bt.ok (by omega) rb.tl.tl rf.tl.tl (hv6 hw)) ?_; rintro _ _ ⟨a2, c2, ho2, hi2, hm2, vs2, rfl, rfl, bs2, e2⟩; unfold bL; simp only [List.cons_append, List.nil_append]; refine J.perm (brv _ _ _ _ _ _) ?_) | (refine J.o 5 ?_; refine J.tT _ default hΓ (fun hv2 ov2 => ?_))) | (first | (refine J.o 0 ?_; refine J.ev' hΓ ?_) | refine J.nil ?_ | (refine J.o 4 ?_; first | refine J.lT default hΓ ?_ | refine J.lR hΓ ?_) | (refine J.o 3 ?_; first | refine J.iJ hΓ ?_ | refine J.ev' hΓ ?_) | (refine J.o 1 ?_; first | refine J.sb ?_) | (refine J.o 5 ?_; first | refine J.t0 hΓ ?_ | refine J.tT _ default hΓ (fun _ _ => ?_)) | (refine J.o 7 ?_; refine J.al hΓ (fun _ => ?_)) | (refine J.o 10 ?_; refine J.ev' hΓ ?_) | (refine J.o 11 ?_; refine J.ev' hΓ ?_)))
        | (first | refine JC.seq ?_ | refine JC.region ?_ | refine JC.block ?_ | refine JC.ret ?_ | refine JC.exit ?_ | refine JC.skip ?_ | refine thenK.nn ?_ | refine thenK.x ?_ | refine blockK.nn ?_ | refine blockK.hit rfl ?_ | refine JC.condT rfl ?_ | refine JC.condF rfl ?_ | (refine JC.cond rfl (fun hc => ?_) (fun hc => ?_) <;> ((try simp only [tcS] at hc) <;> first | (first | (exact absurd rfl hc) | (exfalso; omega) | (exact (tF hc (by assumption)).elim) | (exact (fT hc (by assumption)).elim)) | skip)) | refine drawK.nn ?_ | refine loopK.x ?_)
        | (fail)
        | fail
      all_goals first | (exfalso; omega) | skip
      refine loopK.nn k (by omega) (by repeat (first | refine Ag.upd rfl ?_ | exact Ag.hv)) ⟨_, ⟨us.set k (addP (vs1.map pnV) (if (ts.getD k default).c then 1 else 0, 0, [])).1, a2, c2, ho2, hi2, hm2, vs2, hv2, rfl, by omega, ov2, bs2, by rw [e2]; exact ti2, rfl⟩, fun w hw => hdx hw⟩
    · obtain ⟨⟨r1, r2, r3, r4⟩, ⟨n0, n1⟩, ⟨y0, y1⟩, ao, h5⟩ := ti.rngs hV hk hv0
      have ti2 := ti.ask hV hk hv0
      have hvar := hV.var hk hv0
      unfold bL
      simp only [List.cons_append, List.nil_append]
      repeat' first
        | (refine J.isJ ?_; first | (first | (refine J.o 4 ?_; first | refine J.lT default hΓ ?_ (hs := hs) (hr := RdH.old fun _ hh => hh) | refine J.lT default hΓ ?_ (hs := ov.sl) (hr := RdH.hd.tl)) | (refine J.o 9 ?_; refine J.callvx eNet3 rfl rfl rfl (fun w hw => net3_any N hN (ts.getD k default).v (us.getD (ts.getD k default).no.toNat default) (us.getD (ts.getD k default).yes.toNat default) hvar h5 hT bs1 ti.bt.ok (by omega) rb.tl.tl rf.tl.tl (hv6 hw)) ?_; rintro _ _ ⟨a2, c2, ho2, hi2, hm2, vs2, rfl, rfl, bs2, e2⟩; unfold bL; simp only [List.cons_append, List.nil_append]; refine J.perm (brv _ _ _ _ _ _) ?_) | (refine J.o 5 ?_; refine J.tT _ default hΓ (fun hv2 ov2 => ?_))) | (first | (refine J.o 0 ?_; refine J.ev' hΓ ?_) | refine J.nil ?_ | (refine J.o 4 ?_; first | refine J.lT default hΓ ?_ | refine J.lR hΓ ?_) | (refine J.o 3 ?_; first | refine J.iJ hΓ ?_ | refine J.ev' hΓ ?_) | (refine J.o 1 ?_; first | refine J.sb ?_) | (refine J.o 5 ?_; first | refine J.t0 hΓ ?_ | refine J.tT _ default hΓ (fun _ _ => ?_)) | (refine J.o 7 ?_; refine J.al hΓ (fun _ => ?_)) | (refine J.o 10 ?_; refine J.ev' hΓ ?_) | (refine J.o 11 ?_; refine J.ev' hΓ ?_)))
        | (first | refine JC.seq ?_ | refine JC.region ?_ | refine JC.block ?_ | refine JC.ret ?_ | refine JC.exit ?_ | refine JC.skip ?_ | refine thenK.nn ?_ | refine thenK.x ?_ | refine blockK.nn ?_ | refine blockK.hit rfl ?_ | refine JC.condT rfl ?_ | refine JC.condF rfl ?_ | (refine JC.cond rfl (fun hc => ?_) (fun hc => ?_) <;> ((try simp only [tcS] at hc) <;> first | (first | (exact absurd rfl hc) | (exfalso; omega) | (exact (tF hc (by assumption)).elim) | (exact (fT hc (by assumption)).elim)) | skip)) | refine drawK.nn ?_ | refine loopK.x ?_)
        | ((refine JC.drawW [] [15] (by kernel_rfl) (by kernel_rfl) ?_))
        | fail
      all_goals first | (exfalso; omega) | skip
      refine loopK.nn k (by omega) (by repeat (first | refine Ag.upd rfl ?_ | exact Ag.hv)) ⟨_, ⟨us.set k (askP (vs1.map pnV) (ts.getD k default).v (us.getD (ts.getD k default).no.toNat default) (us.getD (ts.getD k default).yes.toNat default)).1, a2, c2, ho2, hi2, hm2, vs2, hv2, rfl, by omega, ov2, bs2, by rw [e2]; exact ti2, rfl⟩, fun w hw => hdx hw⟩
end Go.Proofs.YtdiciemlbhkilaaGreatDoor
namespace Go.Proofs.YtdiciemlbhkilaaGreatDoor
open Go Go.Cx Go.RowKit
set_option linter.unusedVariables false
set_option linter.unusedSimpArgs false
set_option maxHeartbeats 4000000
attribute [local irreducible] J JC thenK blockK loopK roundK drawK retK QW Qt pel List.set Calls
attribute [local irreducible] JE Br eK0 eK3 brK clsAt checkT
theorem eTNet : Entr Tryz.prog 10 := Entr.of Tryz.func10 rfl rfl
theorem netT_err (a : Option Addr) (cap : Nat) (ts : List Nd) (n : Int) (h : Heap) (hs : SlT encN 4 a ts h) (he : checkT ts n ≠ 0) (w : World) (hw : Holds h w) :
    Calls Tryz.prog 10 #[.slice a ts.length cap, .int .i64 n] w fun e w' => e = .returned (.tuple #[.agg ⟨[.int .i64 0, .slice none 0 0]⟩, .int .i64 (checkT ts n)]) ∧ Below w.heap.size w w' := by
  have cC := fun w hw => check_any a cap ts n h hs w hw
  refine calls_of_JC (R := h) Tryz.func10 Tryz.ntmps10 rfl rfl (hw) ?_
  repeat' first
    | (refine J.isJ ?_; first | ((refine J.fc 21 ?_; refine J.call0 eCheck rfl rfl (fun w hw => cC w (hw.rdH (by first | exact RdH.hd | exact RdH.hd.tl | exact RdH.hd.tl.tl | exact RdH.hd.tl.tl.tl | exact RdH.hd.tl.tl.tl.tl | exact RdH.hd.tl.tl.tl.tl.tl | exact RdH.hd.tl.tl.tl.tl.tl.tl | exact RdH.hd.tl.tl.tl.tl.tl.tl.tl | exact RdH.old (fun _ hh => hh) | assumption))) ?_)) | (first | (refine J.o 0 ?_; refine J.ev' hΓ ?_) | refine J.nil ?_ | (refine J.o 3 ?_; first | refine J.ev' hΓ ?_) | (refine J.o 5 ?_; first | refine J.t0 hΓ ?_) | (refine J.o 7 ?_; refine J.al hΓ (fun _ => ?_)) | (refine J.o 8 ?_; refine J.bd hΓ ?_) | (refine J.o 10 ?_; refine J.ev' hΓ ?_) | (refine J.o 11 ?_; refine J.ev' hΓ ?_)))
    | (first | refine JC.seq ?_ | refine JC.region ?_ | refine JC.ret ?_ | refine thenK.nn ?_ | refine thenK.r ?_ | (refine JC.cond rfl (fun hc => ?_) (fun hc => ?_) <;> ((try simp only [tcS] at hc) <;> first | (first | (exact absurd rfl hc) | (exfalso; omega) | (exact (tF hc (by assumption)).elim) | (exact (fT hc (by assumption)).elim)) | skip)))
    | (fail)
    | fail
  all_goals first | (exfalso; omega) | exact retCS hΓ rfl rfl rfl rfl Rd.hd rfl rfl (fun w1 hw => ⟨rfl, hw.below⟩)
theorem hv7 {w0 w : World} {R x y a b c d : Heap} {L : List Heap} (hw : H w0 R (x :: y :: a :: b :: c :: d :: L) w) : H w0 R (a :: b :: c :: d :: x :: y :: L) w := H.sel (l := [_, _, _, _, _, _]) (M := L) hw [2, 3, 4, 5, 0, 1]
theorem NetO.netIn {a : Option Addr} {c : Nat} {os : List NV} {hO hI : Heap} (no : NetO a c os hO hI) (hl : os.length ≤ 1000000) (hs : ∀ x, x ∈ os.map pnV → x.2.2.length ≤ 1000000) : NetIn a os (hO ++ hI) :=
  ⟨no.ow.sl.sub fun x hx => List.mem_append_left _ hx, fun v hv => (no.ins v hv).sub fun x hx => List.mem_append_right _ hx, fun v hv => hs (pnV v) (List.mem_map_of_mem hv), hl⟩
theorem Simp.short {N : Int} {X : List PN} (h : Simp N X) : ∀ x, x ∈ X → x.2.2.length ≤ X.length := fun x hx => by
  obtain ⟨i, hi, rfl⟩ := mem_getD hx
  have hr := formed_rng (h.fm i hi)
  by_cases hg : isG (X.getD i default)
  · have := asc_len _ 0 i (by omega) (h.gt i hi hg).2.1 hr
    omega
  · rw [formed_low (h.fm i hi) hg]; exact Nat.zero_le _
set_option maxHeartbeats 16000000 in
theorem netT_ok (a : Option Addr) (cap : Nat) (ts : List Nd) (n : Int) (h : Heap) (hs : SlT encN 4 a ts h) (he : checkT ts n = 0) (w : World) (hT : Tab w) (hw : Holds h w) :
    Calls Tryz.prog 10 #[.slice a ts.length cap, .int .i64 n] w (Gives (fun v g => ∃ ao os co, v = .tuple #[.agg ⟨[.int .i64 n, .slice ao os.length co]⟩, .int .i64 0] ∧ NetIn ao os g ∧ TNet ts n (os.map pnV)) w) := by
  have cC := fun w hw => check_any a cap ts n h hs w hw
  rw [he] at cC
  have hV := (valid_iff ts n).1 he
  have hN := hV.rng
  refine calls_of_JC (R := h) Tryz.func10 Tryz.ntmps10 rfl rfl (hw) ?_
  repeat' first
    | (refine J.isJ ?_; first | (first | (refine J.fc 21 ?_; refine J.call0 eCheck rfl rfl (fun w hw => cC w (hw.rdH (by first | exact RdH.hd | exact RdH.hd.tl | exact RdH.hd.tl.tl | exact RdH.hd.tl.tl.tl | exact RdH.hd.tl.tl.tl.tl | exact RdH.hd.tl.tl.tl.tl.tl | exact RdH.hd.tl.tl.tl.tl.tl.tl | exact RdH.hd.tl.tl.tl.tl.tl.tl.tl | exact RdH.old (fun _ hh => hh) | assumption))) ?_) | (refine J.fc 37 ?_; refine J.callx eNew rfl rfl (fun w hw => new_any n hN hw) ?_; rintro _ _ ⟨b, bm, rfl, rfl, bs0⟩; unfold bL; simp only [List.cons_append, List.nil_append]) | (refine J.o 7 ?_; first | refine J.al (d := 7) hΓ (fun b7 => ?_) | refine J.al (d := 9) hΓ (fun b9 => ?_)) | (refine J.o 14 ?_; first | refine J.mfV [.pointer (some ⟨b7, 0, none⟩)] (d := 23) hΓ ?_ | refine J.mfV [.pointer (some ⟨b9, 0, none⟩)] (d := 25) hΓ ?_ | refine J.mfV [.pointer (some ⟨b9, 0, none⟩)] (d := 26) hΓ ?_) | (refine J.fc 40 ?_; refine J.callx eFold rfl rfl (fun w hw => foldN_any a cap ts hs hV hT bs0 (show Rd _ _ b7 (bpO b) from Rd.hd.tl) (show Rd _ _ b9 (afO b7) from Rd.hd) (hv7 hw)) ?_; rintro _ _ ⟨us, a1, c1, ho1, hi1, hm1, vs1, rfl, rfl, bs1, ti⟩; unfold bL; simp only [List.cons_append, List.nil_append]; obtain ⟨⟨q0, q1⟩, tn⟩ := tree_net hV ti; obtain ⟨r, hr⟩ := Int.eq_ofNat_of_zero_le q0; rw [hr, Int.toNat_natCast] at tn; rw [hr] at q1 ⊢) | (refine J.o 4 ?_; refine J.lR hΓ ?_ (hr := Rd.hd.tl.tl.tl.tl.tl)) | (refine J.fc 43 ?_; refine J.callx eNet rfl rfl (fun w hw => net_any r (by rw [List.length_map] at q1; omega) bs1 ti.bt.ok ti.bt.sm.ord (by have h1 := ti.le; have h2 := hV.quests; have h3 := hV.le; rw [List.drop_zero, h2, List.length_map] at h1; omega) hw) ?_; rintro _ _ ⟨ao, co, os, hO, hI, rfl, rfl, no, eo⟩; unfold bL; simp only [List.cons_append, List.nil_append]; refine J.perm (bring_perm 8 _) ?_)) | (first | (refine J.o 0 ?_; refine J.ev' hΓ ?_) | refine J.nil ?_ | (refine J.o 4 ?_; first | refine J.lR hΓ ?_) | (refine J.o 3 ?_; first | refine J.ev' hΓ ?_) | (refine J.o 5 ?_; first | refine J.t0 hΓ ?_) | (refine J.o 7 ?_; refine J.al hΓ (fun _ => ?_)) | (refine J.o 10 ?_; refine J.ev' hΓ ?_) | (refine J.o 11 ?_; refine J.ev' hΓ ?_)))
    | (first | refine JC.seq ?_ | refine JC.region ?_ | refine JC.ret ?_ | refine JC.skip ?_ | refine thenK.nn ?_ | refine JC.condF rfl ?_)
    | (fail)
    | fail
  all_goals first | (exfalso; omega) | skip
  rw [← eo] at tn
  have hlo := tn.le
  rw [List.length_map] at hlo
  have h3 := hV.le
  have hni := no.netIn (by omega) (fun x hx => by have := tn.sm.short x hx; rw [List.length_map] at this; omega)
  exact retCS hΓ rfl rfl rfl rfl Rd.hd rfl rfl (fun w1 hw => Gives.of hw.drop.mg1 ⟨ao, os, co, rfl, hni, tn⟩)
end Go.Proofs.YtdiciemlbhkilaaGreatDoor
namespace Go.Proofs.YtdiciemlbhkilaaGreatDoor
open Go Go.Cx Go.RowKit
set_option linter.unusedVariables false
set_option linter.unusedSimpArgs false
set_option maxHeartbeats 4000000
attribute [local irreducible] J JC thenK blockK loopK roundK drawK retK QW Qt pel List.set Calls
attribute [local irreducible] JE Br eK0 eK3 brK
theorem formed_nolit {x : PN} {N bf : Int} (hf : formedP x N bf = true) (h2 : x.1 ≠ 2) : x.2.1 = 0 := by
  unfold formedP at hf
  simp only [Bool.and_eq_true] at hf
  have h := hf.2
  by_cases k1 : x.1 = 0 ∨ x.1 = 1
  · rw [if_pos k1] at h
    simp only [Bool.and_eq_true, decide_eq_true_eq] at h
    exact h.1
  rw [if_neg k1, if_neg h2] at h
  by_cases k2 : x.1 = 3 ∨ x.1 = 4
  · rw [if_pos k2] at h
    exact of_decide_eq_true h
  · rw [if_neg k2] at h; cases h
end Go.Proofs.YtdiciemlbhkilaaGreatDoor
namespace Go.Proofs.YtdiciemlbhkilaaGreatDoor
open Go Go.Cx Go.RowKit
set_option linter.unusedVariables false
set_option linter.unusedSimpArgs false
set_option maxHeartbeats 4000000
attribute [local irreducible] J JC thenK blockK loopK roundK drawK retK QW Qt pel List.set Calls
attribute [local irreducible] JE Br eK0 eK3 brK
theorem formed_all {x : PN} {N bf : Int} (hf : formedP x N bf = true) : (0 ≤ x.1 ∧ x.1 ≤ 4) ∧ (x.1 = 2 → validB x.2.1 N = true) ∧ (x.1 ≠ 2 → x.2.1 = 0) ∧ (x.1 < 3 → x.2.2.length = 0) := by
  refine ⟨?_, fun h2 => ?_, fun h2 => formed_nolit hf h2, fun h3 => ?_⟩
  · rcases formed_kinds hf with e | e | ⟨e, _⟩ | e | e
    · rw [e]; decide
    · rw [e]; decide
    · rw [e]; decide
    · rw [e]; decide
    · rw [e]; decide
  · rcases formed_kinds hf with e | e | ⟨_, e1, e2, e3⟩ | e | e
    · omega
    · omega
    · unfold validB; rw [decide_eq_true_eq]; exact ⟨e1, e2, e3⟩
    · omega
    · omega
  · have := formed_low hf (by unfold isG; omega)
    rw [this]; rfl
end Go.Proofs.YtdiciemlbhkilaaGreatDoor
namespace Go.Proofs.YtdiciemlbhkilaaGreatDoor
open Go Go.Cx Go.RowKit
set_option linter.unusedVariables false
set_option linter.unusedSimpArgs false
set_option maxHeartbeats 4000000
attribute [local irreducible] J JC thenK blockK loopK roundK drawK retK QW Qt pel List.set Calls
theorem tab64_of_laid {W : World} (h : laidMetH Tryz.prog Rows.treeNetsRow.laid W) : Tab64 W := by
  rw [MakeChecks.laidMetH_plain _ _ _ (by kernel_rfl)] at h
  have h2 := h.tail
  exact Lib.tabIs_of_head (rest := [("internal/strconv.uint64pow10", Rows.laid_internal_strconv_uint64pow10), ("strconv.ErrRange", Rows.laid_strconv_ErrRange), ("strconv.ErrSyntax", Rows.laid_strconv_ErrSyntax)]) (g := 0) (by kernel_rfl) (by kernel_rfl) (Tryz.underlying166) Tryz.underlying5 (by kernel_rfl) (by kernel_rfl) h2
end Go.Proofs.YtdiciemlbhkilaaGreatDoor
namespace Go.Proofs.YtdiciemlbhkilaaGreatDoor
open Go Go.Cx Go.RowKit
set_option linter.unusedVariables false
set_option linter.unusedSimpArgs false
set_option maxHeartbeats 4000000
attribute [local irreducible] J JC thenK blockK loopK roundK drawK retK QW Qt pel List.set Calls
def cS (F : Nat × Nat → Bool) : Nat → Nat × Nat → Nat
  | 0, s => if F s then 1 else 0
  | k + 1, s => cS F k s + cS F k (withS s ((k : Int) + 1))
def Dep (p : Int → Prop) (F : Nat × Nat → Bool) : Prop := ∀ s t : Nat × Nat, (∀ u, p u → hasB s u = hasB t u) → F s = F t
theorem with_iff (s : Nat × Nat) (k : Nat) (hk : k < 128) (u : Int) : hasB (withS s ((k : Int) + 1)) u = (hasB s u || decide (u = (k : Int) + 1)) := by
  have h := has_with s ((k : Int) + 1) u (by omega)
  cases h1 : hasB (withS s ((k : Int) + 1)) u with
  | true =>
    rcases h.1 h1 with h2 | h2
    · rw [h2]; rfl
    · rw [decide_eq_true h2, Bool.or_true]
  | false =>
    have h2 : ¬ (hasB s u = true ∨ u = (k : Int) + 1) := fun h3 => by rw [h.2 h3] at h1; cases h1
    cases h3 : hasB s u with
    | true => exact absurd (.inl h3) h2
    | false => rw [decide_eq_false (fun h4 => h2 (.inr h4))]; rfl
theorem cS_le (F : Nat × Nat → Bool) : ∀ (k : Nat) (s : Nat × Nat), cS F k s ≤ 2 ^ k
  | 0, s => by unfold cS; split <;> simp
  | k + 1, s => by
    have h1 := cS_le F k s
    have h2 := cS_le F k (withS s ((k : Int) + 1))
    rw [cS, Nat.pow_succ]; omega
theorem cS_ext {F G : Nat × Nat → Bool} (h : ∀ s, F s = G s) : ∀ (k : Nat) (s : Nat × Nat), cS F k s = cS G k s
  | 0, s => by unfold cS; rw [h]
  | k + 1, s => by rw [cS, cS, cS_ext h k, cS_ext h k]
theorem cS_congr {p : Int → Prop} {F : Nat × Nat → Bool} (hF : Dep p F) : ∀ (k : Nat), k ≤ 128 → ∀ (s t : Nat × Nat), (∀ u, p u → hasB s u = hasB t u) → cS F k s = cS F k t
  | 0, _, s, t, h => by unfold cS; rw [hF s t h]
  | k + 1, hk, s, t, h => by
    have h1 : ∀ u, p u → hasB (withS s ((k : Int) + 1)) u = hasB (withS t ((k : Int) + 1)) u := fun u hu => by rw [with_iff s k (by omega), with_iff t k (by omega), h u hu]
    rw [cS, cS, cS_congr hF k (by omega) s t h, cS_congr hF k (by omega) _ _ h1]
theorem cS_skip {p : Int → Prop} {F : Nat × Nat → Bool} (hF : Dep p F) (k : Nat) (hk : k < 128) (hp : ¬ p ((k : Int) + 1)) (s : Nat × Nat) : cS F k (withS s ((k : Int) + 1)) = cS F k s :=
  cS_congr hF k (by omega) _ _ fun u hu => by
    have h1 : u ≠ (k : Int) + 1 := fun h => hp (by rw [← h]; exact hu)
    rw [with_iff s k hk, decide_eq_false h1, Bool.or_false]
theorem cS_true : ∀ (k : Nat) (s : Nat × Nat), cS (fun _ => true) k s = 2 ^ k
  | 0, s => rfl
  | k + 1, s => by rw [cS, cS_true k, cS_true k, Nat.pow_succ]; omega
theorem cS_false : ∀ (k : Nat) (s : Nat × Nat), cS (fun _ => false) k s = 0
  | 0, s => rfl
  | k + 1, s => by rw [cS, cS_false k, cS_false k]
theorem cS_and {p q : Int → Prop} {F G : Nat × Nat → Bool} (hF : Dep p F) (hG : Dep q G) (hd : ∀ u, p u → ¬ q u) : ∀ (k : Nat), k ≤ 128 → ∀ s, cS (fun s => F s && G s) k s * 2 ^ k = cS F k s * cS G k s
  | 0, _, s => by unfold cS; cases F s <;> cases G s <;> rfl
  | k + 1, hk, s => by
    have h1 := cS_and hF hG hd k (by omega) s
    have h2 := cS_and hF hG hd k (by omega) (withS s ((k : Int) + 1))
    rw [cS, cS, cS, Nat.pow_succ]
    generalize cS (fun s => F s && G s) k s = a1 at *
    generalize cS (fun s => F s && G s) k (withS s ((k : Int) + 1)) = a2 at *
    generalize 2 ^ k = P at *
    by_cases hq : q ((k : Int) + 1)
    · have hp : ¬ p ((k : Int) + 1) := fun h => hd _ h hq
      have h3 := cS_skip hF k (by omega) hp s
      rw [h3] at h2 ⊢
      generalize cS F k s = x at *
      generalize cS G k s = y at *
      generalize cS G k (withS s ((k : Int) + 1)) = z at *
      calc (a1 + a2) * (P * 2) = (a1 * P + a2 * P) * 2 := by rw [← Nat.add_mul, Nat.mul_assoc]
        _ = (x * y + x * z) * 2 := by rw [h1, h2]
        _ = (x + x) * (y + z) := by rw [← Nat.mul_add, ← Nat.two_mul, Nat.mul_assoc 2, Nat.mul_comm 2]
    · have h3 := cS_skip hG k (by omega) hq s
      rw [h3] at h2 ⊢
      generalize cS F k s = x at *
      generalize cS G k s = y at *
      generalize cS F k (withS s ((k : Int) + 1)) = z at *
      calc (a1 + a2) * (P * 2) = (a1 * P + a2 * P) * 2 := by rw [← Nat.add_mul, Nat.mul_assoc]
        _ = (x * y + z * y) * 2 := by rw [h1, h2]
        _ = (x + z) * (y + y) := by rw [← Nat.add_mul, ← Nat.mul_two y, Nat.mul_assoc]
theorem cS_or {F G : Nat × Nat → Bool} (hd : ∀ s, F s = true → G s = false) : ∀ (k : Nat) (s : Nat × Nat), cS (fun s => F s || G s) k s = cS F k s + cS G k s
  | 0, s => by
    unfold cS
    cases h1 : F s with
    | true => rw [hd s h1]; rfl
    | false => cases G s <;> rfl
  | k + 1, s => by rw [cS, cS, cS, cS_or hd k, cS_or hd k]; omega
theorem cS_far (v : Nat) (b : Bool) : ∀ (k : Nat), k ≤ v → v < 128 → ∀ s, cS (fun s => decide (hasB s ((v : Int) + 1) = b)) k s = if hasB s ((v : Int) + 1) = b then 2 ^ k else 0
  | 0, _, _, s => by unfold cS; by_cases h : hasB s ((v : Int) + 1) = b <;> simp [h]
  | k + 1, hk, hv, s => by
    rw [cS, cS_far v b k (by omega) hv, cS_far v b k (by omega) hv, with_iff s k (by omega), decide_eq_false (show ¬ ((v : Int) + 1 = (k : Int) + 1) by omega), Bool.or_false, Nat.pow_succ]
    split <;> omega
theorem cS_lit (v : Nat) (b : Bool) (hv : v < 128) : ∀ (k : Nat), v < k → k ≤ 128 → ∀ s, hasB s ((v : Int) + 1) = false → 2 * cS (fun s => decide (hasB s ((v : Int) + 1) = b)) k s = 2 ^ k
  | 0, h, _, _, _ => absurd h (Nat.not_lt_zero _)
  | k + 1, hk, hk2, s, hs => by
    rcases Nat.lt_or_ge v k with h | h
    · have h1 := cS_lit v b hv k h (by omega) s hs
      have h2 := cS_lit v b hv k h (by omega) (withS s ((k : Int) + 1)) (by rw [with_iff s k (by omega), hs, decide_eq_false (show ¬ ((v : Int) + 1 = (k : Int) + 1) by omega)]; rfl)
      rw [cS, Nat.pow_succ]; omega
    · obtain rfl : v = k := by omega
      rw [cS, cS_far v b v (Nat.le_refl _) hv, cS_far v b v (Nat.le_refl _) hv, hs, with_iff s v hv, decide_eq_true rfl, Bool.or_true, Nat.pow_succ]
      cases b <;> simp <;> omega
def cardS (s : Nat × Nat) : Nat := (memS s).length
theorem cardS_eq (s : Nat × Nat) : cardS s = ((List.range 128).filter fun k : Nat => hasB s ((k : Int) + 1)).length := by
  unfold cardS memS
  rw [List.length_map]
theorem filter_sum {α : Type} (f g h : α → Bool) : ∀ (l : List α), (∀ x, x ∈ l → h x = (f x || g x)) → (∀ x, x ∈ l → f x = true → g x = false) → (l.filter h).length = (l.filter f).length + (l.filter g).length
  | [], _, _ => rfl
  | x :: l, h1, h2 => by
    have ih := filter_sum f g h l (fun y hy => h1 y (List.mem_cons_of_mem _ hy)) fun y hy => h2 y (List.mem_cons_of_mem _ hy)
    have e1 := h1 x List.mem_cons_self
    have e2 := h2 x List.mem_cons_self
    simp only [List.filter_cons]
    cases hf : f x with
    | true =>
      rw [hf] at e1
      rw [e2 hf, e1]
      simp only [Bool.true_or, if_true, Bool.false_eq_true, if_false, List.length_cons]
      omega
    | false =>
      rw [hf, Bool.false_or] at e1
      rw [e1]
      cases g x <;> simp <;> omega
theorem card_sum {s t r : Nat × Nat} (h1 : ∀ u, hasB r u = (hasB s u || hasB t u)) (h2 : ∀ u, hasB s u = true → hasB t u = false) : cardS r = cardS s + cardS t := by
  rw [cardS_eq, cardS_eq, cardS_eq]
  exact filter_sum _ _ _ _ (fun k _ => h1 _) fun k _ => h2 _
theorem card_uni {s t : Nat × Nat} (h : cutS s t = (0, 0)) : cardS (uniS s t) = cardS s + cardS t :=
  card_sum (has_uni s t) fun u hu => by
    have h1 := has_cut s t u
    rw [h, has_zero, hu, Bool.true_and] at h1
    exact h1.symm
theorem has_min {s t : Nat × Nat} (ht : okS t) (u : Int) : hasB (minS s t) u = (hasB s u && !(hasB t u)) := by
  obtain ⟨h1, h2⟩ := ht
  have key : ∀ y j : Nat, y < 2 ^ 64 → j < 64 → (2 ^ 64 - 1 - y).testBit j = !(y.testBit j) := fun y j hy hj => by
    have e : 2 ^ 64 - 1 - y = 2 ^ 64 - (y + 1) := by omega
    rw [e, Nat.testBit_two_pow_sub_succ hy, decide_eq_true hj, Bool.true_and]
  unfold hasB minS
  split
  · rw [Nat.testBit_and, key _ _ h1 (by omega)]
  · split
    · rw [Nat.testBit_and, key _ _ h2 (by omega)]
    · rfl
theorem card_min {s t : Nat × Nat} (ht : okS t) (h : ∀ u, hasB t u = true → hasB s u = true) : cardS t + cardS (minS s t) = cardS s :=
  (card_sum (fun u => by
    rw [has_min ht]
    cases h1 : hasB t u with
    | true => rw [h u h1]; rfl
    | false => cases hasB s u <;> rfl) fun u hu => by rw [has_min ht, hu, Bool.not_true, Bool.and_false]).symm
theorem cardS_le (s : Nat × Nat) : cardS s ≤ 128 := by
  rw [cardS_eq]
  have := List.length_filter_le (fun k : Nat => hasB s ((k : Int) + 1)) (List.range 128)
  rwa [List.length_range] at this
theorem card_all (k : Nat) (hk : k ≤ 128) : cardS (allS k) = k := by
  induction k with
  | zero =>
    unfold cardS allS
    rw [memS_zero]; rfl
  | succ k ih =>
    have h1 := ih (by omega)
    have h2 : cardS (withS (0, 0) ((k : Int) + 1)) = 1 := by
      have h3 : memS (withS (0, 0) ((k : Int) + 1)) = [(k : Int) + 1] := by
        refine asc_ext (memS_asc _) (by simp) fun x => ?_
        rw [mem_memS, with_iff _ k (by omega), has_zero, Bool.false_or, decide_eq_true_iff, List.mem_singleton]
      unfold cardS
      rw [h3]; rfl
    have h4 := card_sum (s := allS k) (t := withS (0, 0) ((k : Int) + 1)) (r := allS (k + 1)) (fun u => by
      show hasB (withS (allS k) ((k : Int) + 1)) u = _
      rw [with_iff _ k (by omega), with_iff _ k (by omega), has_zero, Bool.false_or]) fun u hu => by
        have h5 := (has_all k u (by omega)).1 hu
        rw [with_iff _ k (by omega), has_zero, Bool.false_or, decide_eq_false (by omega)]
    omega
end Go.Proofs.YtdiciemlbhkilaaGreatDoor
namespace Go.Proofs.YtdiciemlbhkilaaGreatDoor
open Go Go.Cx Go.RowKit
set_option linter.unusedVariables false
set_option linter.unusedSimpArgs false
set_option maxHeartbeats 4000000
attribute [local irreducible] J JC thenK blockK loopK roundK drawK retK QW Qt pel List.set Calls
set_option maxRecDepth 8000
attribute [local irreducible] JE Br eK0 eK3 brK
theorem eDecomp : Entr Tryz.prog 101 := Entr.of Tryz.func101 rfl rfl
end Go.Proofs.YtdiciemlbhkilaaGreatDoor
namespace Go.Proofs.YtdiciemlbhkilaaGreatDoor
open Go Go.Cx Go.RowKit
set_option linter.unusedVariables false
set_option linter.unusedSimpArgs false
set_option maxHeartbeats 4000000
attribute [local irreducible] J JC thenK blockK loopK roundK drawK retK QW Qt pel List.set Calls
set_option maxRecDepth 8000
attribute [local irreducible] JE Br eK0 eK3 brK
section
variable {P : Program} {n : Nat} {w0 : World} {R : Heap} {l0 : List Oper} {K : Exit → Fr → List Heap → Prop} {f : Fr} {L : List Heap} {rest : List (Nat × Oper)} {κ : Nat}
variable {Γ : List (Nat × Go.Cx.TI)} {d : Nat} {ty : TypeId} {pos : String} {aft : Array Edge} {g : Option (Nat × Bool)}
theorem J.nA {u t e : TypeId} {x y : Operand} {a b : Nat × Nat} {s1 b1 b2 : Nat} {z1 z2 : Option Value} (hΓ : Fits P Γ) (k : J P n w0 R l0 K rest (upd f d (.bool (!decide (a = b)))) L) (hg : wantB n f l0 ⟨some d, .binOp .neq t x y u, ty, pos, aft, g⟩ = true := by exact rfl) (hx : Cx.ev n f x = sv a := by exact rfl) (hy : Cx.ev n f y = sv b := by exact rfl)
    (ht : Go.Cx.look Γ t = some ⟨.array 2 e, s1, z1, b1⟩ := by exact rfl) (he : Go.Cx.look Γ e = some ⟨.int .u64, 1, z2, b2⟩ := by exact rfl) (h1 : P.eqGuardType P.depth t = false := by kernel_rfl) : J P n w0 R l0 K ((κ, ⟨some d, .binOp .neq t x y u, ty, pos, aft, g⟩) :: rest) f L :=
  J.p hg (fun w => by
    have hu := (hΓ t _ ht).1
    obtain ⟨hue, ie, hie, hse, hze, hbe⟩ := hΓ e _ he
    have hc : P.cellsOf e = 1 := by unfold Program.cellsOf; rw [hie]; exact hse
    have hp : ∀ (s : Nat × Nat) (i : Nat) (v : Value), [Value.int .u64 (s.1 : Int), .int .u64 (s.2 : Int)][i]? = some v → frc v = some v → (part e (#[Value.int .u64 (s.1 : Int), .int .u64 (s.2 : Int)]) (i * 1)).run P w = .ok v w := fun s i v hv hf => by
      refine partEv_ok hΓ (cs := [Value.int .u64 (s.1 : Int), .int .u64 (s.2 : Int)]) ?_ w
      unfold partEv
      rw [he]
      simp only [Nat.mul_one, hv]
      exact hf
    have hr : (Op.equalIn 10000 t (sv a) (sv b)).run P w = .ok (decide (a = b)) w := by
      unfold sv
      rw [run_equalIn_array w 9999 _ _ hu hie, hc]
      show (Op.eqItems 9999 e 1 _ _ [0, 1]).run P w = _
      simp only [Op.eqItems, Sem.run_bind]
      rw [hp a 0 (.int .u64 (a.1 : Int)) rfl rfl, Result.andThen_ok, hp b 0 (.int .u64 (b.1 : Int)) rfl rfl, Result.andThen_ok, run_equalIn_int w 9998 e .u64 .u64 _ _ hue, Result.andThen_ok]
      by_cases e1 : a.1 = b.1
      · have e2 : ((a.1 : Int) == (b.1 : Int)) = true := by simp [e1]
        rw [e2]
        simp only [Bool.not_true, Bool.false_eq_true, if_false, Sem.run_bind]
        rw [hp a 1 (.int .u64 (a.2 : Int)) rfl rfl, Result.andThen_ok, hp b 1 (.int .u64 (b.2 : Int)) rfl rfl, Result.andThen_ok, run_equalIn_int w 9998 e .u64 .u64 _ _ hue, Result.andThen_ok]
        by_cases e3 : a.2 = b.2
        · have e4 : ((a.2 : Int) == (b.2 : Int)) = true := by simp [e3]
          rw [e4, decide_eq_true (Prod.ext e1 e3)]
          rfl
        · have e4 : ((a.2 : Int) == (b.2 : Int)) = false := by simp; omega
          rw [e4, decide_eq_false (fun h => e3 (by rw [h]))]
          rfl
      · have e2 : ((a.1 : Int) == (b.1 : Int)) = false := by simp; omega
        rw [e2, decide_eq_false (fun h => e1 (by rw [h]))]
        rfl
    unfold sv at hr
    simp only [execOp, hx, hy, sv, Sem.run_bind]
    rw [run_eqGuard_agg w .neq t x y _ _ h1]
    simp only [Result.andThen_ok]
    rw [run_neq_struct, hr]
    rfl) k
end
def prefS (T : List (Nat × Nat)) (l : List Int) : Nat × Nat := l.foldl (fun s (k : Int) => uniS s (T.getD k.toNat default)) (0, 0)
theorem prefS_snoc (T : List (Nat × Nat)) (l : List Int) (k : Int) : prefS T (l ++ [k]) = uniS (prefS T l) (T.getD k.toNat default) := by
  unfold prefS; rw [List.foldl_append]; rfl
def DecP (X : List PN) : Prop := ∀ i, i < X.length → (X.getD i default).1 = 3 → ∀ q, q < (X.getD i default).2.2.length → cutS (prefS (varT X) ((X.getD i default).2.2.take q)) ((varT X).getD ((X.getD i default).2.2.getD q default).toNat default) = (0, 0)
set_option maxHeartbeats 8000000 in
theorem decomp_any (N : Int) (a : Option Addr) (cap : Nat) (vs : List NV) (h : Heap) (hr : NetIn a vs h) (hC : checkP N (vs.map pnV) = true) (hD : DecP (vs.map pnV)) (w : World) (hw : Holds h w) :
    Calls Tryz.prog 101 #[.agg ⟨[.int .i64 N, .slice a vs.length cap]⟩] w fun e w' => e = .returned (.bool true) ∧ Below w.heap.size w w' := by
  have q0 : ∀ L, RdH h L h := fun L => RdH.old fun _ hh => hh
  have cC := fun w hw => checkN_any N a cap vs h hr w hw
  have cV := fun w hw => vars_any N a cap vs h hr w hw
  rw [hC, if_pos rfl] at cC
  rw [hC, if_pos rfl] at cV
  obtain ⟨so, si, sl, hl⟩ := hr
  have hX : (vs.map pnV).length = vs.length := List.length_map ..
  obtain ⟨hN, hM, hFA⟩ := check_facts hC
  have hTl := varT_len (vs.map pnV)
  rw [hX] at hTl hM
  have hokT := okS_varT (vs.map pnV)
  refine calls_of_JC (R := h) Tryz.func101 Tryz.ntmps101 rfl rfl (hw) ?_
  repeat' first
    | (refine J.isJ ?_; first | (first | (refine J.fc 60 ?_; refine J.call0 eCheckN rfl rfl (fun w hw => cC w (hw.rdH (q0 _))) ?_) | (refine J.fc 103 ?_; refine J.call1 eVarsN rfl rfl (fun w hw => cV w (hw.rdH (q0 _))) ?_; rintro _ hV ⟨aV, cVV, rfl, sV⟩)) | (first | (refine J.o 0 ?_; refine J.ev' hΓ ?_) | refine J.nil ?_ | (refine J.o 4 ?_; first | refine J.lT default hΓ ?_ | refine J.lR hΓ ?_) | (refine J.o 3 ?_; first | refine J.iJ hΓ ?_ | refine J.ev' hΓ ?_) | (refine J.o 1 ?_; first | refine J.ad ?_) | (refine J.o 5 ?_; first | refine J.t0 hΓ ?_) | (refine J.o 6 ?_; refine J.bx (fun _ => ?_)) | (refine J.o 7 ?_; refine J.al hΓ (fun _ => ?_)) | (refine J.o 8 ?_; refine J.bd hΓ ?_) | (refine J.o 10 ?_; refine J.ev' hΓ ?_) | (refine J.o 11 ?_; refine J.ev' hΓ ?_)))
    | (first | refine JC.seq ?_ | refine JC.region ?_ | refine JC.block ?_ | refine JC.ret ?_ | refine JC.exit ?_ | refine JC.skip ?_ | refine thenK.nn ?_ | refine thenK.x ?_ | refine blockK.nn ?_ | refine blockK.hit rfl ?_ | refine JC.condF rfl ?_ | (refine JC.cond rfl (fun hc => ?_) (fun hc => ?_) <;> ((try simp only [tcS] at hc) <;> first | (first | (exact absurd rfl hc) | (exfalso; omega) | (exact (tF hc (by assumption)).elim) | (exact (fT hc (by assumption)).elim)) | skip)) | refine drawK.nn ?_ | refine loopK.x ?_)
    | (fail)
    | fail
  all_goals first | (exfalso; omega) | skip
  refine JC.loopG (fun i => i == 5 || i == 6 || i == 8 || Nat.ble 17 i) (fun m g L' => ∃ (k : Nat), g 17 = .int .i64 (k : Int) ∧ k + m = vs.length ∧ L' = [hV, [_]]) vs.length ⟨0, rfl, by omega, rfl⟩ ?_
  rintro m g _ ⟨k, e17, hkm, rfl⟩
  refine JC.pin 17 e17 ?_
  clear e17
  rcases Nat.lt_or_ge k vs.length with hk | hk
  case inr =>
    repeat' first
      | (refine J.isJ ?_; first | (fail) | (first | (refine J.o 0 ?_; refine J.ev' hΓ ?_) | refine J.nil ?_ | (refine J.o 4 ?_; first | refine J.lT default hΓ ?_ | refine J.lR hΓ ?_) | (refine J.o 3 ?_; first | refine J.iJ hΓ ?_ | refine J.ev' hΓ ?_) | (refine J.o 1 ?_; first | refine J.ad ?_) | (refine J.o 5 ?_; first | refine J.t0 hΓ ?_) | (refine J.o 6 ?_; refine J.bx (fun _ => ?_)) | (refine J.o 7 ?_; refine J.al hΓ (fun _ => ?_)) | (refine J.o 8 ?_; refine J.bd hΓ ?_) | (refine J.o 10 ?_; refine J.ev' hΓ ?_) | (refine J.o 11 ?_; refine J.ev' hΓ ?_)))
      | (first | refine JC.seq ?_ | refine JC.region ?_ | refine JC.block ?_ | refine JC.ret ?_ | refine JC.exit ?_ | refine JC.skip ?_ | refine thenK.nn ?_ | refine thenK.x ?_ | refine blockK.nn ?_ | refine blockK.hit rfl ?_ | refine JC.condF rfl ?_ | (refine JC.cond rfl (fun hc => ?_) (fun hc => ?_) <;> ((try simp only [tcS] at hc) <;> first | (first | (exact absurd rfl hc) | (exfalso; omega) | (exact (tF hc (by assumption)).elim) | (exact (fT hc (by assumption)).elim)) | skip)) | refine drawK.nn ?_ | refine loopK.x ?_)
      | (fail)
      | fail
    all_goals first | (exfalso; omega) | skip
    exact ret1f rfl rfl rfl (fun w1 hw => ⟨rfl, hw.below⟩)
  have hmk := mem_g vs k hk
  have hVl := sl _ hmk
  have hVs := si _ hmk
  have hfk : formedP (pnV (vs.getD k default)) N k = true := by
    have := formAll_at N (vs.map pnV) 0 hFA k (by omega)
    rw [Int.zero_add, getD_map] at this
    exact this
  have hVo : ∀ i, i ∈ (vs.getD k default).l → 0 ≤ i ∧ i < k := formed_rng hfk
  have hDk := hD k (by omega)
  rw [getD_map] at hDk
  obtain ⟨v, hv⟩ : ∃ v, vs.getD k default = v := ⟨_, rfl⟩
  rw [hv] at hVl hVs hVo hDk
  by_cases h3 : v.kind = 3
  case neg =>
    repeat' first
      | (refine J.isJ ?_; first | (first | (refine J.o 3 ?_; refine J.iJ hΓ ?_ (hs := so)) | (refine J.o 4 ?_; refine J.lT default hΓ ?_ (hs := so) (hr := q0 _); rw [hv])) | (first | (refine J.o 0 ?_; refine J.ev' hΓ ?_) | refine J.nil ?_ | (refine J.o 4 ?_; first | refine J.lT default hΓ ?_ | refine J.lR hΓ ?_) | (refine J.o 3 ?_; first | refine J.iJ hΓ ?_ | refine J.ev' hΓ ?_) | (refine J.o 1 ?_; first | refine J.ad ?_) | (refine J.o 5 ?_; first | refine J.t0 hΓ ?_) | (refine J.o 6 ?_; refine J.bx (fun _ => ?_)) | (refine J.o 7 ?_; refine J.al hΓ (fun _ => ?_)) | (refine J.o 8 ?_; refine J.bd hΓ ?_) | (refine J.o 10 ?_; refine J.ev' hΓ ?_) | (refine J.o 11 ?_; refine J.ev' hΓ ?_)))
      | (first | refine JC.seq ?_ | refine JC.region ?_ | refine JC.block ?_ | refine JC.ret ?_ | refine JC.exit ?_ | refine JC.skip ?_ | refine thenK.nn ?_ | refine thenK.x ?_ | refine blockK.nn ?_ | refine blockK.hit rfl ?_ | refine JC.condF rfl ?_ | (refine JC.cond rfl (fun hc => ?_) (fun hc => ?_) <;> ((try simp only [tcS] at hc) <;> first | (first | (exact absurd rfl hc) | (exfalso; omega) | (exact (tF hc (by assumption)).elim) | (exact (fT hc (by assumption)).elim)) | skip)) | refine drawK.nn ?_ | refine loopK.x ?_)
      | (fail)
      | fail
    all_goals first | (exfalso; omega) | skip
    refine loopK.nn (m - 1) (by omega) (by repeat (first | refine Ag.upd rfl ?_ | exact Ag.hv)) ⟨_, ⟨k + 1, ?_, by omega, rfl⟩, fun w hw => H.sel (l := [_, _, _]) (M := []) hw [1, 2]⟩
    show Value.int .i64 _ = _; congr 1
  have hDk : ∀ q, q < v.l.length → cutS (prefS (varT (vs.map pnV)) (v.l.take q)) ((varT (vs.map pnV)).getD (v.l.getD q default).toNat default) = (0, 0) := hDk h3
  repeat' first
    | (refine J.isJ ?_; first | (first | (refine J.o 3 ?_; refine J.iJ hΓ ?_ (hs := so)) | (refine J.o 4 ?_; refine J.lT default hΓ ?_ (hs := so) (hr := q0 _); rw [hv])) | (first | (refine J.o 0 ?_; refine J.ev' hΓ ?_) | refine J.nil ?_ | (refine J.o 4 ?_; first | refine J.lT default hΓ ?_ | refine J.lR hΓ ?_) | (refine J.o 3 ?_; first | refine J.iJ hΓ ?_ | refine J.ev' hΓ ?_) | (refine J.o 1 ?_; first | refine J.ad ?_) | (refine J.o 5 ?_; first | refine J.t0 hΓ ?_) | (refine J.o 6 ?_; refine J.bx (fun _ => ?_)) | (refine J.o 7 ?_; refine J.al hΓ (fun _ => ?_)) | (refine J.o 8 ?_; refine J.bd hΓ ?_) | (refine J.o 10 ?_; refine J.ev' hΓ ?_) | (refine J.o 11 ?_; refine J.ev' hΓ ?_)))
    | (first | refine JC.seq ?_ | refine JC.region ?_ | refine JC.block ?_ | refine JC.ret ?_ | refine JC.exit ?_ | refine JC.skip ?_ | refine thenK.nn ?_ | refine thenK.x ?_ | refine blockK.nn ?_ | refine blockK.hit rfl ?_ | refine JC.condF rfl ?_ | (refine JC.cond rfl (fun hc => ?_) (fun hc => ?_) <;> ((try simp only [tcS] at hc) <;> first | (first | (exact absurd rfl hc) | (exfalso; omega) | (exact (tF hc (by assumption)).elim) | (exact (fT hc (by assumption)).elim)) | skip)) | refine drawK.nn ?_ | refine loopK.x ?_)
    | (fail)
    | fail
  all_goals first | (exfalso; omega) | skip
  rename_i b6
  refine JC.loopG (fun i => i == 8 || Nat.ble 27 i) (fun m g L' => ∃ (q : Nat), g 27 = .int .i64 (q : Int) ∧ q + m = v.l.length ∧ L' = [(b6, setO (prefS (varT (vs.map pnV)) (v.l.take q)))] :: [[_], hV, [_]]) v.l.length ⟨0, rfl, by omega, rfl⟩ ?_
  rintro m2 g2 _ ⟨q, e27, hqm, rfl⟩
  refine JC.pin 27 e27 ?_
  clear e27
  unfold setO
  rcases Nat.lt_or_ge q v.l.length with hq | hq
  case inr =>
    repeat' first
      | (refine J.isJ ?_; first | (fail) | (first | (refine J.o 0 ?_; refine J.ev' hΓ ?_) | refine J.nil ?_ | (refine J.o 4 ?_; first | refine J.lT default hΓ ?_ | refine J.lR hΓ ?_) | (refine J.o 3 ?_; first | refine J.iJ hΓ ?_ | refine J.ev' hΓ ?_) | (refine J.o 1 ?_; first | refine J.ad ?_) | (refine J.o 5 ?_; first | refine J.t0 hΓ ?_) | (refine J.o 6 ?_; refine J.bx (fun _ => ?_)) | (refine J.o 7 ?_; refine J.al hΓ (fun _ => ?_)) | (refine J.o 8 ?_; refine J.bd hΓ ?_) | (refine J.o 10 ?_; refine J.ev' hΓ ?_) | (refine J.o 11 ?_; refine J.ev' hΓ ?_)))
      | (first | refine JC.seq ?_ | refine JC.region ?_ | refine JC.block ?_ | refine JC.ret ?_ | refine JC.exit ?_ | refine JC.skip ?_ | refine thenK.nn ?_ | refine thenK.x ?_ | refine blockK.nn ?_ | refine blockK.hit rfl ?_ | refine JC.condF rfl ?_ | (refine JC.cond rfl (fun hc => ?_) (fun hc => ?_) <;> ((try simp only [tcS] at hc) <;> first | (first | (exact absurd rfl hc) | (exfalso; omega) | (exact (tF hc (by assumption)).elim) | (exact (fT hc (by assumption)).elim)) | skip)) | refine drawK.nn ?_ | refine loopK.x ?_)
      | (fail)
      | fail
    all_goals first | (exfalso; omega) | skip
    refine loopK.nn (m - 1) (by omega) (by repeat (first | refine Ag.upd rfl ?_ | exact Ag.hv | refine Ag.hv2 (fun i hi => by simp at hi ⊢; omega) ?_)) ⟨_, ⟨k + 1, ?_, by omega, rfl⟩, fun w hw => H.sel (l := [_, _, _, _]) (M := []) hw [2, 3]⟩
    show Value.int .i64 _ = _; congr 1
  have hxr := hVo _ (mem_g v.l q hq)
  have hcut := hDk q hq
  have hsn := prefS_snoc (varT (vs.map pnV)) (v.l.take q) (v.l.getD q default)
  rw [← take_g v.l q hq] at hsn
  have hk1 : okS (prefS (varT (vs.map pnV)) (v.l.take q)) := okS_fold _ hokT _ _ okS_zero
  have hk2 := okS_d _ hokT (v.l.getD q default).toNat
  have cU := fun w => union_any _ _ hk1 hk2 w
  have cX := fun w => cut_any _ _ hk1 hk2 w
  rw [← hsn] at cU
  rw [hcut] at cX
  repeat' first
    | (refine J.isJ ?_; first | (first | (refine J.o 3 ?_; first | refine J.iJ hΓ ?_ (hs := hVs) | refine J.iJ hΓ ?_ (hs := sV)) | (refine J.o 4 ?_; first | refine J.lT default hΓ ?_ (hs := hVs) (hr := q0 _) | refine J.lT default hΓ ?_ (hs := sV) (hr := RdH.hd.tl.tl) | refine J.lR hΓ ?_ (hr := Rd.hd)) | (refine J.fc 129 ?_; refine J.call0 eUnion rfl rfl (fun w hw => cU w) ?_) | (refine J.fc 17 ?_; refine J.call0 eCut rfl rfl (fun w hw => cX w) ?_) | (refine J.o 11 ?_; refine J.nA (a := (0, 0)) (b := (0, 0)) hΓ ?_; rw [decide_eq_true (rfl : ((0, 0) : Nat × Nat) = (0, 0))])) | (first | (refine J.o 0 ?_; refine J.ev' hΓ ?_) | refine J.nil ?_ | (refine J.o 4 ?_; first | refine J.lT default hΓ ?_ | refine J.lR hΓ ?_) | (refine J.o 3 ?_; first | refine J.iJ hΓ ?_ | refine J.ev' hΓ ?_) | (refine J.o 1 ?_; first | refine J.ad ?_) | (refine J.o 5 ?_; first | refine J.t0 hΓ ?_) | (refine J.o 6 ?_; refine J.bx (fun _ => ?_)) | (refine J.o 7 ?_; refine J.al hΓ (fun _ => ?_)) | (refine J.o 8 ?_; refine J.bd hΓ ?_) | (refine J.o 10 ?_; refine J.ev' hΓ ?_) | (refine J.o 11 ?_; refine J.ev' hΓ ?_)))
    | (first | refine JC.seq ?_ | refine JC.region ?_ | refine JC.block ?_ | refine JC.ret ?_ | refine JC.exit ?_ | refine JC.skip ?_ | refine thenK.nn ?_ | refine thenK.x ?_ | refine blockK.nn ?_ | refine blockK.hit rfl ?_ | refine JC.condF rfl ?_ | (refine JC.cond rfl (fun hc => ?_) (fun hc => ?_) <;> ((try simp only [tcS] at hc) <;> first | (first | (exact absurd rfl hc) | (exfalso; omega) | (exact (tF hc (by assumption)).elim) | (exact (fT hc (by assumption)).elim)) | skip)) | refine drawK.nn ?_ | refine loopK.x ?_)
    | (first | (refine JC.drawO [(1,0),(0,1),(0,2),(0,3),(1,4),(1,5),(0,6),(0,7)] (by decide +kernel) (by decide +kernel) ?_) | (refine JC.drawO [(1,0),(0,1),(0,2),(0,3),(1,4),(1,5),(2,6)] (by decide +kernel) (by decide +kernel) ?_))
    | fail
  all_goals first | (exfalso; omega) | skip
  refine loopK.nn (m2 - 1) (by omega) (by repeat (first | refine Ag.upd rfl ?_ | exact Ag.hv | refine Ag.hv2 (fun i hi => by simp at hi ⊢; omega) ?_)) ⟨_, ⟨q + 1, ?_, by omega, rfl⟩, fun w hw => hw⟩
  show Value.int .i64 _ = _; congr 1
end Go.Proofs.YtdiciemlbhkilaaGreatDoor
namespace Go.Proofs.YtdiciemlbhkilaaGreatDoor
open Go Go.Cx Go.RowKit
set_option linter.unusedVariables false
set_option linter.unusedSimpArgs false
set_option maxHeartbeats 4000000
attribute [local irreducible] J JC thenK blockK loopK roundK drawK retK QW Qt pel List.set Calls
def proC (T : List Nat) (l : List Int) : Nat := l.foldl (fun (c : Nat) (k : Int) => c * T.getD k.toNat default) 1
def sumC (V : List (Nat × Nat)) (T : List Nat) (s : Nat × Nat) (l : List Int) : Nat := l.foldl (fun (c : Nat) (k : Int) => c + T.getD k.toNat default * 2 ^ cardS (minS s (V.getD k.toNat default))) 0
theorem proC_snoc (T : List Nat) (l : List Int) (k : Int) : proC T (l ++ [k]) = proC T l * T.getD k.toNat default := by
  unfold proC; rw [List.foldl_append]; rfl
theorem sumC_snoc (V : List (Nat × Nat)) (T : List Nat) (s : Nat × Nat) (l : List Int) (k : Int) : sumC V T s (l ++ [k]) = sumC V T s l + T.getD k.toNat default * 2 ^ cardS (minS s (V.getD k.toNat default)) := by
  unfold sumC; rw [List.foldl_append]; rfl
def stepC (V : List (Nat × Nat)) (T : List Nat) (s : Nat × Nat) (x : PN) : Nat := if x.1 = 4 then sumC V T s x.2.2 else if x.1 = 0 then 0 else proC T x.2.2
def cN (X : List PN) : Nat → List Nat
  | 0 => []
  | k + 1 => cN X k ++ [stepC (varT X) (cN X k) ((varT X).getD k default) (X.getD k default)]
theorem cN_len (X : List PN) : ∀ k, (cN X k).length = k
  | 0 => rfl
  | k + 1 => by rw [cN, List.length_append, cN_len X k]; rfl
theorem cN_at (X : List PN) : ∀ (n k j : Nat), j < k → k ≤ n → (cN X n).getD j default = (cN X k).getD j default
  | 0, k, j, h, h2 => by omega
  | n + 1, k, j, h, h2 => by
    rcases Nat.lt_or_ge n k with h3 | h3
    · obtain rfl : k = n + 1 := by omega
      rfl
    · rw [cN, app_getD _ _ _ (by rw [cN_len]; omega)]
      exact cN_at X n k j h h3
theorem cN_last (X : List PN) (n j : Nat) (h : j < n) : (cN X n).getD j default = stepC (varT X) (cN X j) ((varT X).getD j default) (X.getD j default) := by
  rw [cN_at X n (j + 1) j (by omega) (by omega), cN]
  have := app_at (cN X j) (stepC (varT X) (cN X j) ((varT X).getD j default) (X.getD j default)) []
  rwa [cN_len] at this
theorem foldl_ext {α β : Type} (f g : β → α → β) : ∀ (l : List α) (c : β), (∀ x, x ∈ l → ∀ c, f c x = g c x) → l.foldl f c = l.foldl g c
  | [], _, _ => rfl
  | x :: l, c, h => by
    rw [List.foldl_cons, List.foldl_cons, h x List.mem_cons_self]
    exact foldl_ext f g l _ fun y hy => h y (List.mem_cons_of_mem _ hy)
theorem stepC_ext (V : List (Nat × Nat)) (T U : List Nat) (s : Nat × Nat) (x : PN) (h : ∀ k, k ∈ x.2.2 → T.getD k.toNat default = U.getD k.toNat default) : stepC V T s x = stepC V U s x := by
  unfold stepC sumC proC
  rw [foldl_ext (fun (c : Nat) (k : Int) => c + T.getD k.toNat default * 2 ^ cardS (minS s (V.getD k.toNat default))) (fun (c : Nat) (k : Int) => c + U.getD k.toNat default * 2 ^ cardS (minS s (V.getD k.toNat default))) _ _ fun k hk c => by rw [h k hk],
    foldl_ext (fun (c : Nat) (k : Int) => c * T.getD k.toNat default) (fun (c : Nat) (k : Int) => c * U.getD k.toNat default) _ _ fun k hk c => by rw [h k hk]]
theorem val_oc {N : Int} {X : List PN} (hS : Simp N X) (hN : N ≤ 128) : ∀ (n i : Nat), i < n → i < X.length → Dep (fun u => Oc X i u) (fun s => valN s X i)
  | 0, _, h, _ => absurd h (Nat.not_lt_zero _)
  | n + 1, i, hin, hi => fun s t hst => by
    have hB := hS.ord
    have hf := hS.fm i hi
    show valN s X i = valN t X i
    rw [val_at s hB i hi, val_at t hB i hi]
    have hin2 : ∀ k, k ∈ (X.getD i default).2.2 → valN s X k = valN t X k := fun k hk => by
      have hk2 : k ∈ inP X i := by rw [inP_nat]; exact hk
      have hr := hB i k hk2
      have := val_oc hS hN n k.toNat (by omega) (by omega) s t (fun u hu => hst u (by
        rw [show ((k.toNat : Nat) : Int) = k by omega] at hu
        exact (oc_at hB i (by omega) (by omega) u).2 (.inr ⟨k, hk2, hu⟩)))
      have e : ((k.toNat : Nat) : Int) = k := by omega
      simp only [e] at this
      exact this
    have a1 : ((X.getD i default).2.2.any fun k => !((truT s X).getD k.toNat default)) = ((X.getD i default).2.2.any fun k => !((truT t X).getD k.toNat default)) := any_congr fun k hk => by
      have := hin2 k hk
      unfold valN at this
      rw [this]
    have a2 : ((X.getD i default).2.2.any fun k => (truT s X).getD k.toNat default) = ((X.getD i default).2.2.any fun k => (truT t X).getD k.toNat default) := any_congr fun k hk => hin2 k hk
    unfold truS
    rw [a1, a2]
    rcases formed_kinds hf with h | h | ⟨h, h1, h2, h3⟩ | h | h
    · rw [h]; rfl
    · rw [h]; rfl
    · have h4 := hst (absI (X.getD i default).2.1) ((oc_at hB i (by omega) (by omega) _).2 (.inl (by rw [litP_nat]; exact (oc_lit (by omega) _).2 rfl)))
      rw [h4]
    · rw [h]; rfl
    · rw [h]; rfl
theorem prefS_has (T : List (Nat × Nat)) (l : List Int) (u : Int) : hasB (prefS T l) u = true ↔ ∃ k, k ∈ l ∧ hasB (T.getD k.toNat default) u = true := by
  unfold prefS
  rw [has_fold, has_zero]
  exact ⟨fun h => h.resolve_left Bool.false_ne_true, .inr⟩
theorem okS_pref {X : List PN} (l : List Int) : okS (prefS (varT X) l) := okS_fold _ (okS_varT X) _ _ okS_zero
theorem pairG {l : List Int} (h : l.Pairwise (· < ·)) {i j : Nat} (hi : i < j) (hj : j < l.length) : l.getD i default ≠ l.getD j default := by
  rw [List.getD_eq_getElem?_getD, List.getD_eq_getElem?_getD, List.getElem?_eq_getElem (by omega), List.getElem?_eq_getElem hj]
  have := List.pairwise_iff_getElem.1 h i j (by omega) hj hi
  show l[i] ≠ l[j]
  omega
theorem Dd.cut {N : Int} {X : List PN} (hS : Simp N X) (hD : Dd X) {i : Nat} (hi : i < X.length) (h3 : (X.getD i default).1 = 3) {q : Nat} (hq : q < (X.getD i default).2.2.length) : cutS (prefS (varT X) ((X.getD i default).2.2.take q)) ((varT X).getD ((X.getD i default).2.2.getD q default).toNat default) = (0, 0) := by
  have hg := (hS.gt i hi (.inl h3)).2.1
  refine okS_ext (okS_cut (okS_pref _)) okS_zero fun u => ?_
  rw [has_zero, has_cut]
  cases h1 : hasB (prefS (varT X) ((X.getD i default).2.2.take q)) u with
  | false => rfl
  | true =>
    rw [Bool.true_and]
    obtain ⟨a, ha, h2⟩ := (prefS_has _ _ u).1 h1
    cases h4 : hasB ((varT X).getD ((X.getD i default).2.2.getD q default).toNat default) u with
    | false => rfl
    | true =>
      have hb := mem_g _ q hq
      have hne : a ≠ (X.getD i default).2.2.getD q default := fun e => by
        obtain ⟨j, hj, rfl⟩ := List.mem_iff_getElem.1 ha
        rw [List.length_take] at hj
        have := pairG hg (i := j) (j := q) (by omega) hq
        rw [List.getElem_take] at e
        rw [List.getD_eq_getElem?_getD, List.getElem?_eq_getElem (by omega)] at this
        exact this e
      have := hD.dec i hi (by rw [kindP_nat]; exact h3) a (by rw [inP_nat]; exact List.mem_of_mem_take ha) _ (by rw [inP_nat]; exact hb) hne u h2
      exact absurd h4 this
theorem Dd.decP {N : Int} {X : List PN} (hS : Simp N X) (hD : Dd X) : DecP X := fun i hi h3 q hq => hD.cut hS hi h3 hq
theorem hd_val {N : Int} {X : List PN} (hS : Simp N X) (s : Nat × Nat) {j l : Int} (hj : 0 ≤ j ∧ j < X.length) (h : Hd X j l) (hv : valN s X j = true) : hasB s (absI l) = decide (0 < l) := by
  have hB := hS.ord
  rcases h with ⟨h2, h3⟩ | ⟨h3, q, hq, h4, h5⟩
  · rw [val_lit s hB j hj h2, h3] at hv
    exact of_decide_eq_true hv
  · have hr := hB j.toNat q (by rw [show ((j.toNat : Nat) : Int) = j by omega]; exact hq)
    have e : ((j.toNat : Nat) : Int) = j := by omega
    have h6 := val_at s hB j.toNat (by omega)
    rw [e, hv] at h6
    unfold truS at h6
    have h7 : (X.getD j.toNat default).1 = 3 := h3
    rw [h7, if_neg (by decide), if_neg (by decide), if_pos rfl] at h6
    have h8 : valN s X q = true := by
      cases h9 : valN s X q with
      | true => rfl
      | false =>
        have : ((X.getD j.toNat default).2.2.any fun k => !((truT s X).getD k.toNat default)) = true := List.any_eq_true.2 ⟨q, hq, by show (!(valN s X q)) = true; rw [h9]; rfl⟩
        rw [this] at h6
        exact absurd h6.symm (by decide)
    rw [val_lit s hB q (by omega) h4, h5] at h8
    exact of_decide_eq_true h8
end Go.Proofs.YtdiciemlbhkilaaGreatDoor
namespace Go.Proofs.YtdiciemlbhkilaaGreatDoor
open Go Go.Cx Go.RowKit
set_option linter.unusedVariables false
set_option linter.unusedSimpArgs false
set_option maxHeartbeats 4000000
attribute [local irreducible] J JC thenK blockK loopK roundK drawK retK QW Qt pel List.set Calls
theorem count_le {a n c d : Nat} (h : a * 2 ^ n = c * 2 ^ d) (hc : c ≤ 2 ^ n) (hd : d ≤ 128) : a ≤ 2 ^ 128 := by
  have hp : 0 < 2 ^ n := Nat.two_pow_pos n
  have h1 : a * 2 ^ n ≤ 2 ^ d * 2 ^ n := by rw [h, Nat.mul_comm (2 ^ d)]; exact Nat.mul_le_mul_right _ hc
  exact Nat.le_trans (Nat.le_of_mul_le_mul_right h1 hp) (Nat.pow_le_pow_right (by omega) hd)
def allA (X : List PN) (l : List Int) (s : Nat × Nat) : Bool := !(l.any fun k => !(valN s X k))
theorem allA_snoc (X : List PN) (l : List Int) (k : Int) (s : Nat × Nat) : allA X (l ++ [k]) s = (allA X l s && valN s X k) := by
  unfold allA
  rw [List.any_append]
  simp
theorem allA_dep {N : Int} {X : List PN} (hS : Simp N X) (hN : N ≤ 128) (l : List Int) (hl : ∀ k, k ∈ l → 0 ≤ k ∧ k < X.length) : Dep (fun u => ∃ k, k ∈ l ∧ Oc X k u) (allA X l) := fun s t h => by
  unfold allA
  congr 1
  refine any_congr fun k hk => ?_
  have hr := hl k hk
  have := val_oc hS hN X.length k.toNat (by omega) (by omega) s t (fun u hu => h u ⟨k, hk, by rw [show ((k.toNat : Nat) : Int) = k by omega] at hu; exact hu⟩)
  have e : ((k.toNat : Nat) : Int) = k := by omega
  simp only [e] at this
  rw [this]
theorem val_depI {N : Int} {X : List PN} (hS : Simp N X) (hN : N ≤ 128) {k : Int} (h : 0 ≤ k ∧ k < X.length) : Dep (fun u => Oc X k u) (fun s => valN s X k) := by
  have := val_oc hS hN X.length k.toNat (by omega) (by omega)
  have e : ((k.toNat : Nat) : Int) = k := by omega
  simp only [e] at this
  exact this
def CtN (nn : Nat) (X : List PN) (k : Int) : Prop := (cN X X.length).getD k.toNat default * 2 ^ nn = cS (fun s => valN s X k) nn (0, 0) * 2 ^ cardS ((varT X).getD k.toNat default)
theorem and_count {nn : Nat} (hn : nn ≤ 128) {X : List PN} (hS : Simp nn X) (hD : Dd X) {i : Nat} (hi : i < X.length) (h3 : (X.getD i default).1 = 3) (ih : ∀ k, k ∈ (X.getD i default).2.2 → CtN nn X k) : ∀ q, q ≤ (X.getD i default).2.2.length → proC (cN X X.length) ((X.getD i default).2.2.take q) * 2 ^ nn = cS (allA X ((X.getD i default).2.2.take q)) nn (0, 0) * 2 ^ cardS (prefS (varT X) ((X.getD i default).2.2.take q))
  | 0, _ => by
    have e : cS (allA X ((X.getD i default).2.2.take 0)) nn (0, 0) = 2 ^ nn := by
      rw [List.take_zero, ← cS_true nn (0, 0)]
      exact cS_ext (fun s => rfl) nn _
    rw [e, List.take_zero]
    show 1 * 2 ^ nn = 2 ^ nn * 2 ^ cardS (0, 0)
    have : cardS (0, 0) = 0 := by unfold cardS; rw [memS_zero]; rfl
    rw [this]; omega
  | q + 1, hq => by
    have h1 := and_count hn hS hD hi h3 ih q (by omega)
    have hk := mem_g (X.getD i default).2.2 q (by omega)
    have hc := hD.cut hS hi h3 (q := q) (by omega)
    have hr : ∀ k, k ∈ (X.getD i default).2.2 → 0 ≤ k ∧ k < X.length := fun k hk => by
      have := hS.ord i k (by rw [inP_nat]; exact hk)
      omega
    have h2 := ih _ hk
    unfold CtN at h2
    rw [take_g _ q (by omega), proC_snoc, prefS_snoc, card_uni hc]
    generalize (X.getD i default).2.2.getD q default = k at *
    have e : cS (allA X ((X.getD i default).2.2.take q ++ [k])) nn (0, 0) * 2 ^ nn = cS (allA X ((X.getD i default).2.2.take q)) nn (0, 0) * cS (fun s => valN s X k) nn (0, 0) := by
      rw [cS_ext (allA_snoc X ((X.getD i default).2.2.take q) k) nn]
      refine cS_and (allA_dep hS (by omega) _ fun k hk => hr k (List.mem_of_mem_take hk)) (val_depI hS (by omega) (hr k hk)) ?_ nn hn _
      rintro u ⟨a, ha, hu⟩ hu2
      have h5 := has_cut (prefS (varT X) ((X.getD i default).2.2.take q)) ((varT X).getD k.toNat default) u
      rw [hc, has_zero, (prefS_has _ _ u).2 ⟨a, ha, hu⟩, Bool.true_and] at h5
      unfold Oc at hu2
      rw [hu2] at h5
      cases h5
    have hp : 0 < 2 ^ nn := Nat.two_pow_pos nn
    refine Nat.eq_of_mul_eq_mul_right hp ?_
    generalize proC (cN X X.length) ((X.getD i default).2.2.take q) = a at *
    generalize (cN X X.length).getD k.toNat default = b at *
    generalize cardS (prefS (varT X) ((X.getD i default).2.2.take q)) = d at *
    generalize cardS ((varT X).getD k.toNat default) = d2 at *
    generalize cS (allA X ((X.getD i default).2.2.take q)) nn (0, 0) = x at *
    generalize cS (fun s => valN s X k) nn (0, 0) = y at *
    generalize cS (allA X ((X.getD i default).2.2.take q ++ [k])) nn (0, 0) = z at *
    generalize 2 ^ nn = P at *
    rw [Nat.pow_add]
    calc a * b * P * P = (a * P) * (b * P) := by rw [Nat.mul_assoc, Nat.mul_mul_mul_comm]
      _ = (x * 2 ^ d) * (y * 2 ^ d2) := by rw [h1, h2]
      _ = (x * y) * (2 ^ d * 2 ^ d2) := Nat.mul_mul_mul_comm ..
      _ = (z * P) * (2 ^ d * 2 ^ d2) := by rw [e]
      _ = z * (2 ^ d * 2 ^ d2) * P := by rw [Nat.mul_assoc, Nat.mul_comm P, ← Nat.mul_assoc]
theorem node_count {nn : Nat} (hn : nn ≤ 128) {X : List PN} (hS : Simp nn X) (hD : Dd X) : ∀ (n i : Nat), i < n → i < X.length → CtN nn X i
  | 0, _, h, _ => absurd h (Nat.not_lt_zero _)
  | n + 1, i, hin, hi => by
    have hB := hS.ord
    have hf := hS.fm i hi
    have hr : ∀ k, k ∈ (X.getD i default).2.2 → 0 ≤ k ∧ k < i := fun k hk => hB i k (by rw [inP_nat]; exact hk)
    have ih : ∀ k, k ∈ (X.getD i default).2.2 → CtN nn X k := fun k hk => by
      have h1 := hr k hk
      have := node_count hn hS hD n k.toNat (by omega) (by omega)
      rwa [show ((k.toNat : Nat) : Int) = k by omega] at this
    have hoc := fun u => oc_at hB i (by omega) (by omega) u
    simp only [Oc, Int.toNat_natCast, litP_nat, inP_nat] at hoc
    have hval : ∀ s, valN s X i = truS s (truT s X) (X.getD i default) := fun s => val_at s hB i hi
    have hokT := okS_varT X
    have hokV : okS ((varT X).getD i default) := okS_d _ hokT i
    unfold CtN
    rw [Int.toNat_natCast, cN_last X _ i hi, stepC_ext _ (cN X i) (cN X X.length) _ _ (fun k hk => (cN_at X X.length i k.toNat (by have := hr k hk; omega) (by omega)).symm)]
    obtain ⟨_, _, g2, g3⟩ := formed_all hf
    have card0 : cardS (0, 0) = 0 := by unfold cardS; rw [memS_zero]; rfl
    have nil_ : (X.getD i default).1 < 3 → (X.getD i default).2.2 = [] := fun h => List.eq_nil_of_length_eq_zero (g3 h)
    rcases formed_kinds hf with h | h | ⟨h, h1, h2, h3⟩ | h | h
    · have e1 : ∀ s, valN s X i = false := fun s => by rw [hval, truS, h]; rfl
      unfold stepC
      rw [h, if_neg (by decide), if_pos rfl, cS_ext e1, cS_false]; omega
    · have e1 : ∀ s, valN s X i = true := fun s => by rw [hval, truS, h]; rfl
      have hl := g2 (by omega)
      have hnil := nil_ (by omega)
      have hV : (varT X).getD i default = (0, 0) := okS_ext hokV okS_zero fun u => by
        rw [has_zero]
        cases hu : hasB ((varT X).getD i default) u with
        | false => rfl
        | true =>
          rcases (hoc u).1 hu with h4 | ⟨k, hk, _⟩
          · exact absurd h4 (oc_none hl u)
          · rw [hnil] at hk; cases hk
      unfold stepC
      rw [h, if_neg (by decide), if_neg (by decide), hnil, cS_ext e1, cS_true, hV, card0]
      show 1 * 2 ^ nn = _
      omega
    · obtain ⟨v, hv⟩ : ∃ v : Nat, absI (X.getD i default).2.1 = (v : Int) + 1 := ⟨(absI (X.getD i default).2.1 - 1).toNat, by unfold absI; omega⟩
      have hvr : v < nn := by unfold absI at hv; omega
      have hnil := nil_ (by omega)
      have e1 : ∀ s, valN s X i = decide (hasB s ((v : Int) + 1) = decide (0 < (X.getD i default).2.1)) := fun s => by
        rw [hval, truS, h, ← hv]; rfl
      have hV : (varT X).getD i default = withS (0, 0) ((v : Int) + 1) := okS_ext hokV (okS_with okS_zero _) fun u => by
        rw [with_iff _ v (by omega), has_zero, Bool.false_or]
        have h5 := oc_lit (l := (X.getD i default).2.1) (by omega) u
        rw [hv] at h5
        cases hu : hasB ((varT X).getD i default) u with
        | false =>
          by_cases h6 : u = (v : Int) + 1
          · have := (hoc u).2 (.inl (h5.2 h6))
            rw [hu] at this; cases this
          · rw [decide_eq_false h6]
        | true =>
          rcases (hoc u).1 hu with h4 | ⟨k, hk, _⟩
          · rw [decide_eq_true (h5.1 h4)]
          · rw [hnil] at hk; cases hk
      have hc1 : cardS (withS (0, 0) ((v : Int) + 1)) = 1 := by
        have h3 : memS (withS (0, 0) ((v : Int) + 1)) = [(v : Int) + 1] := by
          refine asc_ext (memS_asc _) (by simp) fun x => ?_
          rw [mem_memS, with_iff _ v (by omega), has_zero, Bool.false_or, decide_eq_true_iff, List.mem_singleton]
        unfold cardS
        rw [h3]; rfl
      have hcl := cS_lit v (decide (0 < (X.getD i default).2.1)) (by omega) nn hvr hn (0, 0) (has_zero _)
      unfold stepC
      rw [h, if_neg (by decide), if_neg (by decide), hnil, cS_ext e1, hV, hc1]
      show 1 * 2 ^ nn = _
      omega
    · have hl := g2 (by omega)
      have e1 : ∀ s, valN s X i = allA X (X.getD i default).2.2 s := fun s => by rw [hval, truS, h]; rfl
      have hV : (varT X).getD i default = prefS (varT X) (X.getD i default).2.2 := okS_ext hokV (okS_pref _) fun u => by
        have h5 := prefS_has (varT X) (X.getD i default).2.2 u
        cases hu : hasB ((varT X).getD i default) u with
        | true =>
          rcases (hoc u).1 hu with h4 | h4
          · exact absurd h4 (oc_none hl u)
          · exact (h5.2 h4).symm
        | false =>
          cases hu2 : hasB (prefS (varT X) (X.getD i default).2.2) u with
          | false => rfl
          | true =>
            have := (hoc u).2 (.inr (h5.1 hu2))
            rw [hu] at this; cases this
      have h6 := and_count hn hS hD hi h ih _ (Nat.le_refl _)
      rw [List.take_length] at h6
      unfold stepC
      rw [h, if_neg (by decide), if_neg (by decide), cS_ext e1, hV]
      exact h6
    · have hl := g2 (by omega)
      obtain ⟨j, k, l, hjk, hl0, hj1, hk1⟩ := hD.dci i hi (by rw [kindP_nat]; exact h)
      rw [inP_nat] at hjk
      have hjm : j ∈ (X.getD i default).2.2 := by rw [hjk]; exact List.mem_cons_self
      have hkm : k ∈ (X.getD i default).2.2 := by rw [hjk]; exact List.mem_cons_of_mem _ List.mem_cons_self
      have rj := hr j hjm
      have rk := hr k hkm
      have e1 : ∀ s, valN s X i = (valN s X j || valN s X k) := fun s => by
        rw [hval, truS, h, if_neg (by decide), if_neg (by decide), if_neg (by decide), if_pos rfl, hjk]
        show (valN s X j || (valN s X k || false)) = _
        rw [Bool.or_false]
      have hdis : ∀ s, valN s X j = true → valN s X k = false := fun s h1 => by
        have h2 := hd_val hS s (by omega) hj1 h1
        cases h3 : valN s X k with
        | false => rfl
        | true =>
          have h4 := hd_val hS s (by omega) hk1 h3
          have e : absI (-l) = absI l := by unfold absI; omega
          rw [e, h2] at h4
          rcases Int.lt_or_lt_of_ne hl0 with h5 | h5
          · rw [decide_eq_false (by omega), decide_eq_true (by omega)] at h4; cases h4
          · rw [decide_eq_true (by omega), decide_eq_false (by omega)] at h4; cases h4
      have sub : ∀ a, a ∈ (X.getD i default).2.2 → ∀ u, hasB ((varT X).getD a.toNat default) u = true → hasB ((varT X).getD i default) u = true := fun a ha u hu => (hoc u).2 (.inr ⟨a, ha, hu⟩)
      have cj := card_min (okS_d _ hokT j.toNat) (sub j hjm)
      have ck := card_min (okS_d _ hokT k.toNat) (sub k hkm)
      have ij := ih j hjm
      have ik := ih k hkm
      unfold CtN at ij ik
      unfold stepC
      rw [h, if_pos rfl, cS_ext e1, cS_or hdis, hjk]
      show (0 + _ * 2 ^ _ + _ * 2 ^ _) * _ = _
      rw [Nat.zero_add]
      generalize cardS (minS ((varT X).getD i default) ((varT X).getD j.toNat default)) = mj at *
      generalize cardS (minS ((varT X).getD i default) ((varT X).getD k.toNat default)) = mk at *
      rw [Nat.add_mul, Nat.add_mul, Nat.mul_right_comm, Nat.mul_right_comm _ (2 ^ mk), ij, ik, Nat.mul_assoc, Nat.mul_assoc, ← Nat.pow_add, ← Nat.pow_add, cj, ck]
theorem val_root {N : Int} {X : List PN} (hC : checkP N X = true) (s : Nat × Nat) : valN s X ((X.length - 1 : Nat) : Int) = evalP s N X := by
  unfold evalP valN
  rw [hC, Bool.true_and, Int.toNat_natCast]
end Go.Proofs.YtdiciemlbhkilaaGreatDoor
namespace Go.Proofs.YtdiciemlbhkilaaGreatDoor
open Go Go.Cx Go.RowKit
set_option linter.unusedVariables false
set_option linter.unusedSimpArgs false
set_option maxHeartbeats 4000000
attribute [local irreducible] J JC thenK blockK loopK roundK drawK retK QW Qt pel List.set Calls
theorem T_le {nn : Nat} (hn : nn ≤ 128) {X : List PN} (hS : Simp nn X) (hD : Dd X) {k : Int} (hk : 0 ≤ k ∧ k < X.length) : (cN X X.length).getD k.toNat default ≤ 2 ^ 128 := by
  have h := node_count hn hS hD X.length k.toNat (by omega) (by omega)
  rw [show ((k.toNat : Nat) : Int) = k by omega] at h
  exact count_le h (cS_le _ _ _) (cardS_le _)
theorem pro_le {nn : Nat} (hn : nn ≤ 128) {X : List PN} (hS : Simp nn X) (hD : Dd X) {i : Nat} (hi : i < X.length) (h3 : (X.getD i default).1 = 3) {q : Nat} (hq : q ≤ (X.getD i default).2.2.length) : proC (cN X X.length) ((X.getD i default).2.2.take q) ≤ 2 ^ 128 := by
  refine count_le (and_count hn hS hD hi h3 (fun k hk => ?_) q hq) (cS_le _ _ _) (cardS_le _)
  have hr := hS.ord i k (by rw [inP_nat]; exact hk)
  have := node_count hn hS hD X.length k.toNat (by omega) (by omega)
  rwa [show ((k.toNat : Nat) : Int) = k by omega] at this
theorem sumC_mono (V : List (Nat × Nat)) (T : List Nat) (s : Nat × Nat) (l : List Int) : ∀ m q, q + m = l.length → sumC V T s (l.take q) ≤ sumC V T s l
  | 0, q, h => by rw [List.take_of_length_le (by omega)]; exact Nat.le_refl _
  | m + 1, q, h => by
    have h1 := sumC_mono V T s l m (q + 1) (by omega)
    rw [take_g l q (by omega), sumC_snoc] at h1
    omega
theorem cN_self {N : Int} {X : List PN} (hS : Simp N X) {i : Nat} (hi : i < X.length) : (cN X X.length).getD i default = stepC (varT X) (cN X X.length) ((varT X).getD i default) (X.getD i default) := by
  rw [cN_last X _ i hi]
  refine stepC_ext _ _ _ _ _ fun k hk => (cN_at X X.length i k.toNat ?_ (by omega)).symm
  have hr := hS.ord i k (by rw [inP_nat]; exact hk)
  omega
theorem sum_le {nn : Nat} (hn : nn ≤ 128) {X : List PN} (hS : Simp nn X) (hD : Dd X) {i : Nat} (hi : i < X.length) (h4 : (X.getD i default).1 = 4) {q : Nat} (hq : q ≤ (X.getD i default).2.2.length) : sumC (varT X) (cN X X.length) ((varT X).getD i default) ((X.getD i default).2.2.take q) ≤ 2 ^ 128 := by
  have h1 := T_le hn hS hD (k := (i : Int)) (by omega)
  rw [Int.toNat_natCast, cN_self hS hi] at h1
  unfold stepC at h1
  rw [if_pos h4] at h1
  exact Nat.le_trans (sumC_mono _ _ _ _ ((X.getD i default).2.2.length - q) q (by omega)) h1
theorem oc_rng {N : Int} {X : List PN} (hS : Simp N X) (hN : N ≤ 128) (u : Int) : ∀ (n i : Nat), i < n → i < X.length → Oc X i u → 1 ≤ u ∧ u ≤ N
  | 0, _, h, _ => absurd h (Nat.not_lt_zero _)
  | n + 1, i, hin, hi => fun h => by
    have hB := hS.ord
    have hf := hS.fm i hi
    rcases (oc_at hB i (by omega) (by omega) u).1 h with h1 | ⟨k, hk, h1⟩
    · rw [litP_nat] at h1
      obtain ⟨_, _, g2, _⟩ := formed_all hf
      rcases formed_kinds hf with h2 | h2 | ⟨h2, h3, h4, h5⟩ | h2 | h2
      · exact absurd h1 (oc_none (g2 (by omega)) u)
      · exact absurd h1 (oc_none (g2 (by omega)) u)
      · have := (oc_lit (by omega) u).1 h1
        unfold absI at this
        omega
      · exact absurd h1 (oc_none (g2 (by omega)) u)
      · exact absurd h1 (oc_none (g2 (by omega)) u)
    · have hr := hB i k hk
      exact oc_rng hS hN u n k.toNat (by omega) (by omega) (by rw [show ((k.toNat : Nat) : Int) = k by omega]; exact h1)
def cntP (nn : Nat) (X : List PN) : Nat := (cN X X.length).getD (X.length - 1) default * 2 ^ cardS (minS (allS nn) ((varT X).getD (X.length - 1) default))
theorem cnt_eq {nn : Nat} (hn : nn ≤ 128) {X : List PN} (hC : checkP nn X = true) (hS : Simp nn X) (hD : Dd X) : cntP nn X = cS (fun s => evalP s nn X) nn (0, 0) := by
  obtain ⟨_, ⟨hl, _⟩, _⟩ := check_facts hC
  have h := node_count hn hS hD X.length (X.length - 1) (by omega) (by omega)
  unfold CtN at h
  rw [cS_ext (val_root hC), Int.toNat_natCast] at h
  have hm := card_min (s := allS nn) (okS_d _ (okS_varT X) (X.length - 1)) (fun u hu => (has_all nn u hn).2 (oc_rng hS (by omega) u X.length (X.length - 1) (by omega) (by omega) (by unfold Oc; rw [Int.toNat_natCast]; exact hu)))
  rw [card_all nn hn] at hm
  unfold cntP
  generalize (cN X X.length).getD (X.length - 1) default = a at *
  generalize cardS (minS (allS nn) ((varT X).getD (X.length - 1) default)) = m at *
  generalize cardS ((varT X).getD (X.length - 1) default) = d at *
  generalize cS (fun s => evalP s nn X) nn (0, 0) = c at *
  refine Nat.eq_of_mul_eq_mul_right (Nat.two_pow_pos d) ?_
  rw [Nat.mul_assoc, ← Nat.pow_add, show m + d = nn by omega]
  exact h
def modN (ts : List Nd) : Nat → Nat → Nat → Nat
  | 0, _, _ => 0
  | f + 1, j, k => if (ts.getD j default).v = 0 then (if (ts.getD j default).c then 2 ^ k else 0) else modN ts f (ts.getD j default).no.toNat (k - 1) + modN ts f (ts.getD j default).yes.toNat (k - 1)
def PathK (ts : List Nd) (n : Nat) (j k : Nat) : Prop := ∃ l : List Nat, l.Nodup ∧ (∀ v, v ∈ l → v < n) ∧ l.length + k = n ∧ ∀ d, (d = j ∨ Pr ts j d) → ∀ v, v ∈ l → (ts.getD d default).v ≠ (v : Int) + 1
theorem PathK.start (ts : List Nd) (n : Nat) : PathK ts n 0 n := ⟨[], List.nodup_nil, fun v h => (by cases h), by simp, fun _ _ v h => (by cases h)⟩
theorem nodup_subL : ∀ (l m : List Nat), l.Nodup → (∀ x ∈ l, x ∈ m) → l.length ≤ m.length
  | [], m, _, _ => Nat.zero_le _
  | x :: l, m, hn, h => by
    have hn := List.nodup_cons.1 hn
    have hx := h x List.mem_cons_self
    have h1 := nodup_subL l (m.erase x) hn.2 (fun y hy => (List.mem_erase_of_ne (fun e : y = x => hn.1 (by rw [← e]; exact hy))).2 (h y (List.mem_cons_of_mem _ hy)))
    have h2 := List.length_erase_of_mem hx
    have h3 := List.length_pos_of_mem hx
    rw [List.length_cons]; omega
theorem nodup_ltL {l : List Nat} {m : Nat} (hn : l.Nodup) (h : ∀ x ∈ l, x < m) : l.length ≤ m := by
  have := nodup_subL l (List.range m) hn fun x hx => List.mem_range.2 (h x hx)
  rwa [List.length_range] at this
theorem PathK.step {ts : List Nd} {n : Nat} (hV : Valid ts n) {j k : Nat} (hj : j < ts.length) (hv : (ts.getD j default).v ≠ 0) (h : PathK ts n j k) : (1 ≤ k ∧ 1 ≤ (ts.getD j default).v ∧ (ts.getD j default).v ≤ n) ∧ (j < (ts.getD j default).no.toNat ∧ (ts.getD j default).no.toNat < ts.length ∧ 0 ≤ (ts.getD j default).no) ∧ (j < (ts.getD j default).yes.toNat ∧ (ts.getD j default).yes.toNat < ts.length ∧ 0 ≤ (ts.getD j default).yes) ∧ PathK ts n (ts.getD j default).no.toNat (k - 1) ∧ PathK ts n (ts.getD j default).yes.toNat (k - 1) := by
  obtain ⟨l, h1, h2, h3, h4⟩ := h
  obtain ⟨a1, a2, a3, a4, a5, a6, a7⟩ := fmd_q (hV.fm j hj) hv
  have hfr := hV.fresh j hj hv
  have e0 : Ed ts j (ts.getD j default).no.toNat := ⟨hj, hv, .inl (by omega)⟩
  have e1 : Ed ts j (ts.getD j default).yes.toNat := ⟨hj, hv, .inr (by omega)⟩
  obtain ⟨v, hvv⟩ : ∃ v : Nat, (ts.getD j default).v = (v : Int) + 1 := ⟨((ts.getD j default).v - 1).toNat, by omega⟩
  have hnm : v ∉ l := fun hm => h4 j (.inl rfl) v hm hvv
  have hnd : (v :: l).Nodup := List.nodup_cons.2 ⟨hnm, h1⟩
  have hlt : ∀ x, x ∈ v :: l → x < n := fun x hx => by
    rcases List.mem_cons.1 hx with rfl | hx
    · omega
    · exact h2 x hx
  have hlen := nodup_ltL hnd hlt
  rw [List.length_cons] at hlen
  have key : ∀ c, Ed ts j c → PathK ts n c (k - 1) := fun c hc => by
    refine ⟨v :: l, hnd, hlt, by rw [List.length_cons]; omega, fun d hd u hu => ?_⟩
    have hpd : Pr ts j d := by
      rcases hd with rfl | hd
      · exact .one hc
      · exact .cons hc hd
    rcases List.mem_cons.1 hu with rfl | hu
    · exact fun e => hfr ⟨d, hpd, by rw [e, hvv]⟩
    · exact h4 d (.inr hpd) u hu
  refine ⟨⟨?_, ?_, ?_⟩, ⟨?_, ?_, ?_⟩, ⟨?_, ?_, ?_⟩, key _ e0, key _ e1⟩ <;> omega
theorem cls_dep {ts : List Nd} {n : Int} (hV : Valid ts n) : ∀ (f j : Nat), ts.length - j ≤ f → j < ts.length → Dep (fun u => ∃ d, (d = j ∨ Pr ts j d) ∧ (ts.getD d default).v = u) (fun s => clsAt ts s j)
  | 0, j, h, hj => by omega
  | f + 1, j, h, hj => fun s t hst => by
    show clsAt ts s j = clsAt ts t j
    by_cases hv : (ts.getD j default).v = 0
    · rw [clsAt_leaf ts s j hj hv, clsAt_leaf ts t j hj hv]
    · obtain ⟨a1, a2, a3, a4, a5, a6, a7⟩ := fmd_q (hV.fm j hj) hv
      have e0 : Ed ts j (ts.getD j default).no.toNat := ⟨hj, hv, .inl (by omega)⟩
      have e1 : Ed ts j (ts.getD j default).yes.toNat := ⟨hj, hv, .inr (by omega)⟩
      have key : ∀ c, Ed ts j c → ts.length - c ≤ f → c < ts.length → clsAt ts s c = clsAt ts t c := fun c hc h1 h2 => cls_dep hV f c h1 h2 s t fun u hu => by
        obtain ⟨d, hd, hu⟩ := hu
        refine hst u ⟨d, .inr ?_, hu⟩
        rcases hd with rfl | hd
        · exact .one hc
        · exact .cons hc hd
      rw [clsAt_q hV.later s j hj hv, clsAt_q hV.later t j hj hv, hst _ ⟨j, .inl rfl, rfl⟩, key _ e0 (by omega) (by omega), key _ e1 (by omega) (by omega)]
theorem half_lit {n : Nat} (hn : n ≤ 128) {v : Nat} (hv : v < n) (b : Bool) {q : Int → Prop} {F : Nat × Nat → Bool} (hF : Dep q F) (hq : ¬ q ((v : Int) + 1)) : 2 * cS (fun s => decide (hasB s ((v : Int) + 1) = b) && F s) n (0, 0) = cS F n (0, 0) := by
  have h1 := cS_and (p := fun u => u = (v : Int) + 1) (F := fun s => decide (hasB s ((v : Int) + 1) = b)) (fun s t h => by show decide (_ = b) = decide (_ = b); rw [h _ rfl]) hF (fun u hu hq2 => hq (hu ▸ hq2)) n hn (0, 0)
  have h2 := cS_lit v b (by omega) n hv hn (0, 0) (has_zero _)
  refine Nat.eq_of_mul_eq_mul_right (Nat.two_pow_pos n) ?_
  rw [Nat.mul_assoc, h1, ← Nat.mul_assoc, h2, Nat.mul_comm]
theorem mod_count {ts : List Nd} {n : Nat} (hV : Valid ts n) : ∀ (f j k : Nat), ts.length - j ≤ f → j < ts.length → PathK ts n j k → modN ts f j k * 2 ^ (n - k) = cS (fun s => clsAt ts s j) n (0, 0)
  | 0, j, k, h, hj, _ => by omega
  | f + 1, j, k, h, hj, hp => by
    have hn := hV.rng
    have hkn : k ≤ n := by obtain ⟨l, _, _, h3, _⟩ := hp; omega
    rw [modN]
    by_cases hv : (ts.getD j default).v = 0
    · rw [if_pos hv, cS_ext (fun s => clsAt_leaf ts s j hj hv)]
      cases (ts.getD j default).c with
      | true => rw [if_pos rfl, ← Nat.pow_add, cS_true, show k + (n - k) = n by omega]
      | false => rw [if_neg (by decide), cS_false, Nat.zero_mul]
    · obtain ⟨⟨g1, g2, g3⟩, ⟨b1, b2, b3⟩, ⟨c1, c2, c3⟩, p0, p1⟩ := hp.step hV hj hv
      have h0 := mod_count hV f _ _ (by omega) b2 p0
      have h1 := mod_count hV f _ _ (by omega) c2 p1
      obtain ⟨v, hvv⟩ : ∃ v : Nat, (ts.getD j default).v = (v : Int) + 1 := ⟨((ts.getD j default).v - 1).toNat, by omega⟩
      have hfr := hV.fresh j hj hv
      have e0 : Ed ts j (ts.getD j default).no.toNat := ⟨hj, hv, .inl (by omega)⟩
      have e1 : Ed ts j (ts.getD j default).yes.toNat := ⟨hj, hv, .inr (by omega)⟩
      have nq : ∀ c, Ed ts j c → ¬ (fun u => ∃ d, (d = c ∨ Pr ts c d) ∧ (ts.getD d default).v = u) ((v : Int) + 1) := fun c hc => by
        rintro ⟨d, hd, hu⟩
        refine hfr ⟨d, ?_, by rw [hu, hvv]⟩
        rcases hd with rfl | hd
        · exact .one hc
        · exact .cons hc hd
      have f0 := half_lit (n := n) (by omega) (v := v) (by omega) false (cls_dep hV ts.length _ (by omega) b2) (nq _ e0)
      have f1 := half_lit (n := n) (by omega) (v := v) (by omega) true (cls_dep hV ts.length _ (by omega) c2) (nq _ e1)
      have fe : ∀ s, clsAt ts s j = ((decide (hasB s ((v : Int) + 1) = false) && clsAt ts s (ts.getD j default).no.toNat) || (decide (hasB s ((v : Int) + 1) = true) && clsAt ts s (ts.getD j default).yes.toNat)) := fun s => by
        rw [clsAt_q hV.later s j hj hv, hvv]
        cases hasB s ((v : Int) + 1) <;> simp
      rw [if_neg hv, cS_ext fe, cS_or (fun s hs => by
        rw [Bool.and_eq_true, decide_eq_true_iff] at hs
        rw [hs.1]; rfl)]
      have e2 : n - (k - 1) = (n - k) + 1 := by omega
      rw [e2, Nat.pow_succ] at h0 h1
      rw [Nat.add_mul]
      generalize modN ts f (ts.getD j default).no.toNat (k - 1) = m0 at *
      generalize modN ts f (ts.getD j default).yes.toNat (k - 1) = m1 at *
      generalize 2 ^ (n - k) = P at *
      rw [← Nat.mul_assoc] at h0 h1
      omega
end Go.Proofs.YtdiciemlbhkilaaGreatDoor
namespace Go.Proofs.YtdiciemlbhkilaaGreatDoor
open Go Go.Cx
set_option linter.unusedVariables false
set_option linter.unusedSimpArgs false
def valW : List Nat → Nat
  | [] => 0
  | x :: l => x + 4294967296 * valW l
def valB : List UInt8 → Nat
  | [] => 0
  | c :: l => c.toNat + 256 * valB l
def bytesF : Nat → Nat → List UInt8
  | 0, _ => []
  | f + 1, v => if v = 0 then [] else UInt8.ofNat (v % 256) :: bytesF f (v / 256)
def bytesN (v : Nat) : List UInt8 := bytesF v v
theorem u8_of (k : Nat) (h : k < 256) : (UInt8.ofNat k).toNat = k := by simp [UInt8.toNat_ofNat']; omega
theorem u8_lt (c : UInt8) : c.toNat < 256 := c.toNat_lt
theorem u8_to (c : UInt8) : UInt8.ofNat c.toNat = c := by simp
theorem valB_app (l : List UInt8) (m : List UInt8) : valB (l ++ m) = valB l + 256 ^ l.length * valB m := by
  induction l with
  | nil => simp [valB]
  | cons c l ih =>
    simp only [List.cons_append, valB, ih, List.length_cons, Nat.pow_succ, Nat.mul_add]
    rw [← Nat.mul_assoc, Nat.mul_comm 256 (256 ^ l.length)]; omega
theorem valW_app (l m : List Nat) : valW (l ++ m) = valW l + 4294967296 ^ l.length * valW m := by
  induction l with
  | nil => simp [valW]
  | cons c l ih =>
    simp only [List.cons_append, valW, ih, List.length_cons, Nat.pow_succ, Nat.mul_add]
    rw [← Nat.mul_assoc, Nat.mul_comm 4294967296 (4294967296 ^ l.length)]; omega
theorem valB_bytesF : ∀ (f v : Nat), v ≤ f → valB (bytesF f v) = v
  | 0, v, h => by simp [bytesF, valB]; omega
  | f + 1, v, h => by
    unfold bytesF
    split
    · rename_i h; rw [h]; rfl
    · rw [valB, valB_bytesF f (v / 256) (by omega), u8_of _ (Nat.mod_lt _ (by omega))]; omega
theorem valB_bytesN (v : Nat) : valB (bytesN v) = v := valB_bytesF v v (Nat.le_refl _)
def noz (l : List UInt8) : Prop := ∀ h : l ≠ [], l.getLast h ≠ 0
theorem noz_tl {c : UInt8} {l : List UInt8} (h : noz (c :: l)) : noz l := fun hn => by
  have := h (by simp)
  rwa [List.getLast_cons hn] at this
theorem noz_pos : ∀ {l : List UInt8}, noz l → l ≠ [] → 0 < valB l
  | [], _, h => absurd rfl h
  | [c], h, _ => by
    have h1 : c ≠ 0 := h (by simp)
    have h2 : c.toNat ≠ 0 := fun e => h1 (by rw [← u8_to c, e]; rfl)
    simp only [valB]; omega
  | c :: d :: l, h, _ => by
    have := noz_pos (noz_tl h) (by simp)
    rw [valB]; omega
theorem bytesF_valB : ∀ (l : List UInt8) (f : Nat), noz l → valB l ≤ f → bytesF f (valB l) = l
  | [], f, _, _ => by cases f <;> simp [bytesF, valB]
  | c :: l, f, h, hf => by
    have hp := noz_pos h (by simp)
    obtain ⟨f', rfl⟩ : ∃ f', f = f' + 1 := ⟨f - 1, by omega⟩
    have hc := u8_lt c
    rw [bytesF, if_neg (by omega)]
    have e1 : valB (c :: l) % 256 = c.toNat := by rw [valB]; omega
    have e2 : valB (c :: l) / 256 = valB l := by rw [valB]; omega
    rw [e1, e2, u8_to, bytesF_valB l f' (noz_tl h) (by rw [valB] at hf hp; omega)]
theorem bytesN_valB (l : List UInt8) (h : noz l) : bytesN (valB l) = l := bytesF_valB l _ h (Nat.le_refl _)
theorem valB_lt (l : List UInt8) : valB l < 256 ^ l.length := by
  induction l with
  | nil => simp [valB]
  | cons c l ih =>
    have := u8_lt c
    rw [valB, List.length_cons, Nat.pow_succ]; omega
theorem bytesF_len : ∀ (k f v : Nat), v < 256 ^ k → (bytesF f v).length ≤ k
  | _, 0, _, _ => by simp [bytesF]
  | 0, f + 1, v, h => by
    have : v = 0 := by simpa using h
    simp [bytesF, this]
  | k + 1, f + 1, v, h => by
    unfold bytesF
    split
    · simp
    · simp only [List.length_cons]
      have := bytesF_len k f (v / 256) (by rw [Nat.pow_succ] at h; omega)
      omega
theorem bytesN_len {k v : Nat} (h : v < 256 ^ k) : (bytesN v).length ≤ k := bytesF_len k v v h
def wbytes : List Nat → List UInt8
  | [] => []
  | x :: l => UInt8.ofNat (x % 256) :: UInt8.ofNat (x / 256 % 256) :: UInt8.ofNat (x / 65536 % 256) :: UInt8.ofNat (x / 16777216 % 256) :: wbytes l
theorem wbytes_len (ws : List Nat) : (wbytes ws).length = 4 * ws.length := by
  induction ws with
  | nil => rfl
  | cons x l ih => simp only [wbytes, List.length_cons, ih]; omega
def okW (ws : List Nat) : Prop := ∀ x ∈ ws, x < 4294967296
theorem valB_wbytes (ws : List Nat) (h : okW ws) : valB (wbytes ws) = valW ws := by
  induction ws with
  | nil => rfl
  | cons x l ih =>
    have hx := h x (by simp)
    simp only [wbytes, valB, valW, ih fun y hy => h y (by simp [hy])]
    rw [u8_of _ (Nat.mod_lt _ (by omega)), u8_of _ (Nat.mod_lt _ (by omega)), u8_of _ (Nat.mod_lt _ (by omega)), u8_of _ (Nat.mod_lt _ (by omega))]
    omega
theorem wbytes_at : ∀ (ws : List Nat) (i : Nat), i < 4 * ws.length → (wbytes ws)[i]? = some (UInt8.ofNat (ws.getD (i / 4) 0 / 2 ^ (8 * (i % 4)) % 256))
  | [], i, h => by simp at h
  | x :: l, i, h => by
    rcases Nat.lt_or_ge i 4 with h4 | h4
    · have : i = 0 ∨ i = 1 ∨ i = 2 ∨ i = 3 := by omega
      rcases this with rfl | rfl | rfl | rfl <;> simp [wbytes]
    · obtain ⟨k, rfl⟩ : ∃ k, i = k + 4 := ⟨i - 4, by omega⟩
      have e1 : (k + 4) / 4 = k / 4 + 1 := by omega
      have e2 : (k + 4) % 4 = k % 4 := by omega
      rw [e1, e2]
      show (wbytes l)[k]? = _
      rw [wbytes_at l k (by simp at h; omega)]
      rfl
def wordsB : List UInt8 → List Nat
  | [] => []
  | [a] => [a.toNat]
  | [a, b] => [a.toNat + 256 * b.toNat]
  | [a, b, c] => [a.toNat + 256 * b.toNat + 65536 * c.toNat]
  | a :: b :: c :: d :: l => (a.toNat + 256 * b.toNat + 65536 * c.toNat + 16777216 * d.toNat) :: wordsB l
theorem wordsB_len : ∀ (l : List UInt8), (wordsB l).length = (l.length + 3) / 4
  | [] => rfl
  | [a] => by simp [wordsB]
  | [a, b] => by simp [wordsB]
  | [a, b, c] => by simp [wordsB]
  | a :: b :: c :: d :: l => by simp only [wordsB, List.length_cons, wordsB_len l]; omega
theorem valW_wordsB : ∀ (l : List UInt8), valW (wordsB l) = valB l
  | [] => rfl
  | [a] => by simp [wordsB, valW, valB]
  | [a, b] => by simp [wordsB, valW, valB]
  | [a, b, c] => by simp only [wordsB, valW, valB]; omega
  | a :: b :: c :: d :: l => by simp only [wordsB, valW, valB, valW_wordsB l]; omega
theorem okW_wordsB : ∀ (l : List UInt8), okW (wordsB l)
  | [] => fun _ h => by simp [wordsB] at h
  | [a] => fun x h => by simp only [wordsB, List.mem_singleton] at h; have := u8_lt a; omega
  | [a, b] => fun x h => by simp only [wordsB, List.mem_singleton] at h; have := u8_lt a; have := u8_lt b; omega
  | [a, b, c] => fun x h => by simp only [wordsB, List.mem_singleton] at h; have := u8_lt a; have := u8_lt b; have := u8_lt c; omega
  | a :: b :: c :: d :: l => fun x h => by
    have := u8_lt a; have := u8_lt b; have := u8_lt c; have := u8_lt d
    rcases List.mem_cons.1 h with h | h
    · omega
    · exact okW_wordsB l x h
def gB (bs : List UInt8) (i k : Nat) : Nat := if k < i then (bs.getD k 0).toNat else 0
def wAt (bs : List UInt8) (i j : Nat) : Nat := gB bs i (4 * j) + 256 * gB bs i (4 * j + 1) + 65536 * gB bs i (4 * j + 2) + 16777216 * gB bs i (4 * j + 3)
def wUp (bs : List UInt8) (i : Nat) : List Nat := (List.range ((bs.length + 3) / 4)).map (wAt bs i)
theorem gB_lt (bs : List UInt8) (i k : Nat) : gB bs i k < 256 := by unfold gB; split; exact u8_lt _; omega
theorem wAt_lt (bs : List UInt8) (i j : Nat) : wAt bs i j < 4294967296 := by
  have := gB_lt bs i (4 * j); have := gB_lt bs i (4 * j + 1); have := gB_lt bs i (4 * j + 2); have := gB_lt bs i (4 * j + 3)
  unfold wAt; omega
theorem wAt_step (bs : List UInt8) (i : Nat) : wAt bs (i + 1) (i / 4) = wAt bs i (i / 4) ||| ((bs.getD i 0).toNat * 2 ^ (8 * (i % 4))) := by
  have hc := u8_lt (bs.getD i 0)
  have key : ∀ r, i % 4 = r → wAt bs i (i / 4) < 2 ^ (8 * r) ∧ wAt bs (i + 1) (i / 4) = (bs.getD i 0).toNat * 2 ^ (8 * r) + wAt bs i (i / 4) := by
    intro r hr
    have hi : i = 4 * (i / 4) + r := by omega
    have hr5 : r < 4 := by omega
    clear hr
    generalize i / 4 = j at hi ⊢
    subst hi
    have hr4 : r = 0 ∨ r = 1 ∨ r = 2 ∨ r = 3 := by omega
    have b0 := u8_lt (bs.getD (4 * j) 0)
    have b1 := u8_lt (bs.getD (4 * j + 1) 0)
    have b2 := u8_lt (bs.getD (4 * j + 2) 0)
    have ey : ∀ k i, k < i → gB bs i k = (bs.getD k 0).toNat := fun k i h => if_pos h
    have en : ∀ k i, i ≤ k → gB bs i k = 0 := fun k i h => if_neg (Nat.not_lt.2 h)
    unfold wAt
    rcases hr4 with rfl | rfl | rfl | rfl
    · rw [en (4 * j) (4 * j + 0) (by omega), en (4 * j + 1) (4 * j + 0) (by omega), en (4 * j + 2) (4 * j + 0) (by omega), en (4 * j + 3) (4 * j + 0) (by omega), ey (4 * j) (4 * j + 0 + 1) (by omega), en (4 * j + 1) (4 * j + 0 + 1) (by omega), en (4 * j + 2) (4 * j + 0 + 1) (by omega), en (4 * j + 3) (4 * j + 0 + 1) (by omega)]
      simp
    · rw [ey (4 * j) (4 * j + 1) (by omega), en (4 * j + 1) (4 * j + 1) (by omega), en (4 * j + 2) (4 * j + 1) (by omega), en (4 * j + 3) (4 * j + 1) (by omega), ey (4 * j) (4 * j + 1 + 1) (by omega), ey (4 * j + 1) (4 * j + 1 + 1) (by omega), en (4 * j + 2) (4 * j + 1 + 1) (by omega), en (4 * j + 3) (4 * j + 1 + 1) (by omega)]
      omega
    · rw [ey (4 * j) (4 * j + 2) (by omega), ey (4 * j + 1) (4 * j + 2) (by omega), en (4 * j + 2) (4 * j + 2) (by omega), en (4 * j + 3) (4 * j + 2) (by omega), ey (4 * j) (4 * j + 2 + 1) (by omega), ey (4 * j + 1) (4 * j + 2 + 1) (by omega), ey (4 * j + 2) (4 * j + 2 + 1) (by omega), en (4 * j + 3) (4 * j + 2 + 1) (by omega)]
      omega
    · rw [ey (4 * j) (4 * j + 3) (by omega), ey (4 * j + 1) (4 * j + 3) (by omega), ey (4 * j + 2) (4 * j + 3) (by omega), en (4 * j + 3) (4 * j + 3) (by omega), ey (4 * j) (4 * j + 3 + 1) (by omega), ey (4 * j + 1) (4 * j + 3 + 1) (by omega), ey (4 * j + 2) (4 * j + 3 + 1) (by omega), ey (4 * j + 3) (4 * j + 3 + 1) (by omega)]
      omega
  obtain ⟨h1, h2⟩ := key _ rfl
  rw [h2, Nat.or_comm, Nat.mul_comm, Nat.two_pow_add_eq_or_of_lt h1]
theorem wAt_other (bs : List UInt8) (i j : Nat) (h : j ≠ i / 4) : wAt bs (i + 1) j = wAt bs i j := by
  have e : ∀ k, k ≠ i → gB bs (i + 1) k = gB bs i k := fun k hk => by
    unfold gB
    rcases Nat.lt_or_ge k i with h | h
    · rw [if_pos (by omega), if_pos h]
    · rw [if_neg (by omega), if_neg (by omega)]
  unfold wAt
  rw [e _ (by omega), e _ (by omega), e _ (by omega), e _ (by omega)]
theorem wUp_len (bs : List UInt8) (i : Nat) : (wUp bs i).length = (bs.length + 3) / 4 := by simp [wUp]
theorem wUp_get (bs : List UInt8) (i j : Nat) (h : j < (bs.length + 3) / 4) : (wUp bs i).getD j 0 = wAt bs i j := by
  rw [List.getD_eq_getElem?_getD, wUp, List.getElem?_map, List.getElem?_range h]; rfl
theorem wUp_step (bs : List UInt8) (i : Nat) (hi : i < bs.length) : wUp bs (i + 1) = (wUp bs i).set (i / 4) (wAt bs i (i / 4) ||| ((bs.getD i 0).toNat * 2 ^ (8 * (i % 4)))) := by
  apply List.ext_getElem?
  intro j
  rw [List.getElem?_set, wUp_len]
  unfold wUp
  rw [List.getElem?_map, List.getElem?_map]
  by_cases hj : i / 4 = j
  · subst hj
    have : i / 4 < (bs.length + 3) / 4 := by omega
    rw [if_pos rfl, if_pos this, List.getElem?_range this, ← wAt_step]; rfl
  · rw [if_neg hj]
    rcases Nat.lt_or_ge j ((bs.length + 3) / 4) with h | h
    · rw [List.getElem?_range h]
      show some _ = some _
      rw [wAt_other _ _ _ (fun e => hj e.symm)]
    · rw [List.getElem?_eq_none (by simpa using h)]; rfl
theorem wUp_0 (bs : List UInt8) : wUp bs 0 = List.replicate ((bs.length + 3) / 4) 0 := by
  have : ∀ j, wAt bs 0 j = 0 := fun j => by simp [wAt, gB]
  unfold wUp
  rw [List.eq_replicate_iff]
  refine ⟨by simp, fun b hb => ?_⟩
  obtain ⟨j, _, rfl⟩ := List.mem_map.1 hb
  exact this j
theorem wAt_tl (a b c d : UInt8) (l : List UInt8) (j : Nat) : wAt (a :: b :: c :: d :: l) (l.length + 4) (j + 1) = wAt l l.length j := by
  have e : ∀ k, gB (a :: b :: c :: d :: l) (l.length + 4) (k + 4) = gB l l.length k := fun k => by
    unfold gB
    rcases Nat.lt_or_ge k l.length with h | h
    · rw [if_pos (by omega), if_pos h]; simp
    · rw [if_neg (by omega), if_neg (by omega)]
  unfold wAt
  rw [show 4 * (j + 1) = 4 * j + 4 by omega, e, show 4 * j + 4 + 1 = (4 * j + 1) + 4 by omega, e, show 4 * j + 4 + 2 = (4 * j + 2) + 4 by omega, e, show 4 * j + 4 + 3 = (4 * j + 3) + 4 by omega, e]
theorem wUp_end : ∀ (bs : List UInt8), wUp bs bs.length = wordsB bs
  | [] => rfl
  | [a] => by simp [wUp, wordsB, wAt, gB]
  | [a, b] => by simp [wUp, wordsB, wAt, gB]
  | [a, b, c] => by simp [wUp, wordsB, wAt, gB]
  | a :: b :: c :: d :: l => by
    have ih := wUp_end l
    unfold wUp at ih ⊢
    rw [show ((a :: b :: c :: d :: l).length + 3) / 4 = (l.length + 3) / 4 + 1 by simp only [List.length_cons]; omega, List.range_succ_eq_map, List.map_cons, List.map_map, wordsB]
    congr 1
    rw [← ih]
    exact List.map_congr_left fun j _ => wAt_tl a b c d l j
end Go.Proofs.YtdiciemlbhkilaaGreatDoor
