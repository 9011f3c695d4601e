/-
  Maps of the call's own: a map's block as a list of keys and elements.
-/
import Derived.Test.YthnhijdfcmcnhaaCxX
import Derived.Maps.OwnSet
import Derived.Maps.Ext
import Derived.Maps.RangeWalk
namespace Go.Cx
open Go Go.RowKit Go.Maps
set_option linter.unusedVariables false
set_option linter.unusedSimpArgs false
section
variable {P : Program} {κ β : Type} [DecidableEq κ] {k : TypeId} {ek : κ → Value} {ev : β → Value}
/-- what a list of keys and elements has at a key -/
def mget (m : List (κ × β)) (x : κ) : Option β := (m.find? fun p => decide (p.1 = x)).map (·.2)
/-- .. with an element stored at a key: in its place, or behind the others -/
def mput (m : List (κ × β)) (x : κ) (y : β) : List (κ × β) := if (m.map (·.1)).contains x then m.map (fun p => if p.1 = x then (x, y) else p) else m ++ [(x, y)]
/-- A map's block that reads as a list; keys of type k. -/
structure MapT (P : Program) (k : TypeId) (ek : κ → Value) (ev : β → Value) (m : List (κ × β)) (b : Nat) (h : Heap) : Prop where
  row : ∃ es clock, h = [(b, .map ⟨es⟩ clock)] ∧ es.map (fun e => (e.key, e.val)) = m.map (fun p => (ek p.1, ev p.2)) ∧ MapKept.Stamped ⟨es⟩ clock
  keys : ∀ p, p ∈ m → ∃ l, keyOf P k (ek p.1) = some l
  nodup : (m.map (·.1)).Nodup
theorem mget_of (m : List (κ × β)) (hn : (m.map (·.1)).Nodup) : ∀ p, p ∈ m → mget m p.1 = some p.2 := by
  induction m with
  | nil => intro p hp; cases hp
  | cons q m ih =>
    intro p hp
    rw [List.map_cons, List.nodup_cons] at hn
    unfold mget
    rw [List.find?_cons]
    rcases List.mem_cons.1 hp with rfl | hp
    · simp
    · have hne : q.1 ≠ p.1 := fun e => hn.1 (e ▸ List.mem_map_of_mem hp)
      rw [decide_eq_false hne]
      exact ih hn.2 p hp
theorem mget_none (m : List (κ × β)) (x : κ) (h : ∀ p, p ∈ m → p.1 ≠ x) : mget m x = none := by
  unfold mget
  rw [List.find?_eq_none.2 (fun p hp => by simpa using h p hp)]
  rfl
theorem MapT.find {m : List (κ × β)} {b : Nat} {h : Heap} (K : Keyed P k) (inj : ∀ x y, ek x = ek y → x = y) (mt : MapT P k ek ev m b h) (x : κ) (hx : ∃ l, keyOf P k (ek x) = some l) {es : List MapEntry} {clock : Nat} (he : h = [(b, .map ⟨es⟩ clock)]) (w : World) :
    (Instr.findKey k (ek x) es).run P w = .ok none w ∧ mget m x = none ∨ ∃ j y, (Instr.findKey k (ek x) es).run P w = .ok (some (j, ev y)) w ∧ mget m x = some y ∧ m[j]? = some (x, y) := by
  obtain ⟨es', clock', he', hrow, _⟩ := mt.row
  rw [he] at he'
  simp only [List.cons.injEq, Prod.mk.injEq, Obj.map.injEq, and_true, true_and] at he'
  obtain ⟨e1, rfl⟩ := he'
  have e1' : es = es' := by simpa using e1
  subst e1'
  obtain ⟨l, hl⟩ := hx
  have hat : ∀ (j : Nat) (e : MapEntry), es[j]? = some e → ∃ p : κ × β, m[j]? = some p ∧ e.key = ek p.1 ∧ e.val = ev p.2 := fun j e hj => by
    have h1 : (es.map (fun e => (e.key, e.val)))[j]? = some (e.key, e.val) := by rw [List.getElem?_map, hj]; rfl
    rw [hrow, List.getElem?_map] at h1
    cases hm : m[j]? with
    | none => rw [hm] at h1; cases h1
    | some p => rw [hm] at h1; simp at h1; exact ⟨p, rfl, h1.1.symm, h1.2.symm⟩
  have hks : ∀ e : MapEntry, e ∈ es → ∃ l, keyOf P k e.key = some l := fun e hm => by
    obtain ⟨j, hj⟩ := List.getElem?_of_mem hm
    obtain ⟨p, hp, hk, _⟩ := hat j e hj
    rw [hk]; exact mt.keys p (List.mem_of_getElem? hp)
  rcases K.find w hl es hks with ⟨h1, h2⟩ | ⟨j, e, h1, h2, h3⟩
  · refine .inl ⟨h1, mget_none m x fun p hp hpx => ?_⟩
    obtain ⟨j, hj⟩ := List.getElem?_of_mem hp
    have h4 : (es.map (fun e => (e.key, e.val)))[j]? = some (ek p.1, ev p.2) := by rw [hrow, List.getElem?_map, hj]; rfl
    rw [List.getElem?_map] at h4
    cases hm : es[j]? with
    | none => rw [hm] at h4; cases h4
    | some e => rw [hm] at h4; simp at h4; exact h2 e (List.mem_of_getElem? hm) (by rw [h4.1, hpx])
  · obtain ⟨p, hp, hk, hv⟩ := hat j e h2
    have : p.1 = x := inj _ _ (by rw [← hk, h3])
    refine .inr ⟨j, p.2, by rw [h1, hv], ?_, ?_⟩
    · rw [← this]; exact mget_of m mt.nodup p (List.mem_of_getElem? hp)
    · rw [hp, ← this]
theorem MapT.lookup {m : List (κ × β)} {b : Nat} {h : Heap} {t e : TypeId} {z : Value} (K : Keyed P k) (inj : ∀ x y, ek x = ek y → x = y) (mt : MapT P k ek ev m b h) (ht : P.underlying t = some (.map k e)) (x : κ) (hx : ∃ l, keyOf P k (ek x) = some l) (w : World) (hw : Holds h w) (hz : (zeroValue e).run P w = .ok z w) (c : Bool) :
    (Instr.lookup t (.map (some b)) (ek x) c).run P w = .ok (if c then .tuple #[(match mget m x with | some y => ev y | none => z), .bool (mget m x).isSome] else (match mget m x with | some y => ev y | none => z)) w := by
  obtain ⟨es, clock, he, hrow, hst⟩ := mt.row
  have hb : w.heap[b]? = some (.map ⟨es⟩ clock) := hw (b, _) (by rw [he]; simp)
  obtain ⟨l, hl⟩ := hx
  rcases mt.find K inj x ⟨l, hl⟩ he w with ⟨h1, h2⟩ | ⟨j, y, h1, h2, h3⟩
  · cases c <;> simp [Instr.lookup, run_underlying ht, MapKept.run_getObj_map hb, K.check w _ hl, h1, h2, hz, Result.andThen]
  · cases c <;> simp [Instr.lookup, run_underlying ht, MapKept.run_getObj_map hb, K.check w _ hl, h1, h2, Result.andThen]
theorem set_put (m : List (κ × β)) (hn : (m.map (·.1)).Nodup) (x : κ) (y y0 : β) : ∀ (j : Nat), m[j]? = some (x, y0) → m.set j (x, y) = m.map (fun p => if p.1 = x then (x, y) else p) := by
  induction m with
  | nil => intro j hj; cases hj
  | cons q m ih =>
    rw [List.map_cons, List.nodup_cons] at hn
    intro j hj
    cases j with
    | zero =>
      have hq : q = (x, y0) := by simpa using hj
      subst hq
      have hm : m.map (fun p => if p.1 = x then (x, y) else p) = m := by
        conv => rhs; rw [← List.map_id m]
        apply List.map_congr_left
        intro p hp
        have hne : p.1 ≠ x := fun e => hn.1 (by
          have := List.mem_map_of_mem (f := (·.1)) hp
          rw [e] at this
          exact this)
        rw [if_neg hne]; rfl
      rw [List.set_cons_zero, List.map_cons, hm, if_pos rfl]
    | succ j =>
      have hj' : m[j]? = some (x, y0) := by simpa using hj
      have hne : q.1 ≠ x := fun e => hn.1 (by
        rw [e]
        have := List.mem_map_of_mem (f := (·.1)) (List.mem_of_getElem? hj')
        exact this)
      rw [List.set_cons_succ, List.map_cons, if_neg hne, ih hn.2 j hj']
theorem mput_keys (m : List (κ × β)) (x : κ) (y : β) : (mput m x y).map (·.1) = if (m.map (·.1)).contains x then m.map (·.1) else m.map (·.1) ++ [x] := by
  unfold mput
  split
  · rw [List.map_map]
    apply List.map_congr_left
    intro p _
    show (if p.1 = x then (x, y) else p).1 = p.1
    split
    · rename_i h; exact h.symm
    · rfl
  · rw [List.map_append]; rfl
theorem MapT.update {m : List (κ × β)} {b : Nat} {h : Heap} {t e : TypeId} {w0 w : World} {R : Heap} {L : List Heap} (K : Keyed P k) (inj : ∀ x y, ek x = ek y → x = y) (mt : MapT P k ek ev m b h) (ht : P.underlying t = some (.map k e)) (x : κ) (hx : ∃ l, keyOf P k (ek x) = some l) (y : β) (hw : H w0 R (h :: L) w) :
    ∃ w' h', (Instr.mapUpdate t (.map (some b)) (ek x) (ev y)).run P w = .ok () w' ∧ H w0 R (h' :: L) w' ∧ MapT P k ek ev (mput m x y) b h' := by
  obtain ⟨es, clock, he, hrow, hst⟩ := mt.row
  have hb : w.heap[b]? = some (.map ⟨es⟩ clock) := hw.rd (Rd.fr (by rw [he]; simp))
  have hlt : b < w.heap.size := (Array.getElem?_eq_some_iff.1 hb).1
  obtain ⟨l, hl⟩ := hx
  have hkeys : ∀ p, p ∈ mput m x y → ∃ l, keyOf P k (ek p.1) = some l := fun p hp => by
    have hp1 : p.1 ∈ (mput m x y).map (·.1) := List.mem_map_of_mem hp
    rw [mput_keys] at hp1
    have hold : p.1 ∈ m.map (·.1) → ∃ l, keyOf P k (ek p.1) = some l := fun h => by
      obtain ⟨q, hq, hq1⟩ := List.mem_map.1 h
      rw [← hq1]; exact mt.keys q hq
    split at hp1
    · exact hold hp1
    · rcases List.mem_append.1 hp1 with h | h
      · exact hold h
      · rw [List.mem_singleton.1 h]; exact ⟨l, hl⟩
  have hnd : ((mput m x y).map (·.1)).Nodup := by
    rw [mput_keys]
    split
    · exact mt.nodup
    · rename_i hc
      have hc' : x ∉ m.map (·.1) := by simpa using hc
      rw [List.nodup_append]
      exact ⟨mt.nodup, by simp, fun a ha c hc2 => by rw [List.mem_singleton.1 hc2]; exact fun e => hc' (e ▸ ha)⟩
  have hwr : ∀ o', H w0 R ([(b, o')] :: L) { w with heap := w.heap.setIfInBounds b o' } := fun o' => by
    rw [he] at hw
    exact hw.write rfl rfl rfl (by simp) (by simp [hlt]) (fun j hj => by simp [Array.getElem?_setIfInBounds, Ne.symm hj])
  rcases mt.find K inj x ⟨l, hl⟩ he w with ⟨h1, h2⟩ | ⟨j, y0, h1, h2, h3⟩
  · refine ⟨_, _, by simp [Instr.mapUpdate, run_underlying ht, MapKept.run_getObj_map hb, K.check w _ hl, h1, MapKept.run_setObj_map _ hb, Result.andThen]; rfl, hwr _, ⟨es ++ [⟨ek x, ev y, clock⟩], clock + 1, by simp, ?_, ?_⟩, hkeys, hnd⟩
    rotate_left
    · have hk2 : ∀ z ∈ (⟨es⟩ : Array MapEntry).toList, z.key ≠ ek x := fun z hz e => by
        obtain ⟨j, hj⟩ := List.getElem?_of_mem hz
        have h4 : (m.map (fun p => (ek p.1, ev p.2)))[j]? = some (z.key, z.val) := by rw [← hrow, List.getElem?_map]; rw [show es[j]? = some z from hj]; rfl
        rw [List.getElem?_map] at h4
        cases hm : m[j]? with
        | none => rw [hm] at h4; cases h4
        | some p =>
          rw [hm] at h4
          simp at h4
          have : p.1 = x := inj _ _ (h4.1.trans e)
          rw [← this, mget_of m mt.nodup p (List.mem_of_getElem? hm)] at h2
          cases h2
      have := MapKept.stamped_push hst (key := ek x) (val := ev y) hk2
      simpa using this
    have hc : (m.map (·.1)).contains x = false := by
      have : x ∉ m.map (·.1) := fun hmem => by
        obtain ⟨q, hq, hq1⟩ := List.mem_map.1 hmem
        rw [← hq1, mget_of m mt.nodup q hq] at h2
        cases h2
      simpa using this
    unfold mput
    rw [hc, if_neg (by decide), List.map_append, List.map_append, hrow]; rfl
  · have hjl : j < es.length := by
      have h4 : (m.map (fun p => (ek p.1, ev p.2)))[j]? = some (ek x, ev y0) := by rw [List.getElem?_map, h3]; rfl
      rw [← hrow, List.getElem?_map] at h4
      rcases Nat.lt_or_ge j es.length with h | h
      · exact h
      · rw [List.getElem?_eq_none h] at h4; cases h4
    have hkj : es[j].key = ek x := by
      have h4 : (m.map (fun p => (ek p.1, ev p.2)))[j]? = some (ek x, ev y0) := by rw [List.getElem?_map, h3]; rfl
      rw [← hrow, List.getElem?_map, List.getElem?_eq_getElem hjl] at h4
      simp at h4
      exact h4.1
    have hc : (m.map (·.1)).contains x = true := by
      have := List.mem_map_of_mem (f := (·.1)) (List.mem_of_getElem? h3)
      simpa using this
    refine ⟨_, _, by simp [Instr.mapUpdate, run_underlying ht, MapKept.run_getObj_map hb, K.check w _ hl, h1, hjl, hkj, K.stays w hl, MapKept.run_setObj_map _ hb, Result.andThen]; rfl, hwr _, ⟨es.modify j fun e => { e with key := ek x, val := ev y }, clock, by simp, ?_, ?_⟩, hkeys, hnd⟩
    rotate_left
    · have := MapKept.stamped_modify hst j (fun e => { e with key := ek x, val := ev y }) (fun e _ => rfl) (fun e _ he2 => by
        have h5 : es[j]? = some e := by simpa using he2
        rw [List.getElem?_eq_getElem hjl] at h5
        have := Option.some.inj h5
        rw [← this]; exact hkj.symm)
      simpa using this
    unfold mput
    rw [hc, if_pos rfl, ← set_put m mt.nodup x y y0 j h3, List.map_set, ← hrow]
    apply List.ext_getElem?
    intro i
    rw [List.getElem?_map, List.getElem?_modify, List.getElem?_set, List.getElem?_map]
    by_cases hij : j = i
    · subst hij; simp [hjl]
    · simp [hij]
end
section
variable {P : Program} {n : Nat} {w0 : World} {R : Heap} {K0 : Exit → Fr → List Heap → Prop} {f : Fr} {L : List Heap} {l0 : List Oper} {rest : List (Nat × Oper)} {q : Nat}
variable {Γ : List (Nat × TI)} {d : Nat} {ty : TypeId} {pos : String} {aft : Array Edge} {g : Option (Nat × Bool)}
variable {κ β : Type} [DecidableEq κ] {kt e : TypeId} {ek : κ → Value} {ev : β → Value}
/-- m[x], and v, ok := m[x] -/
theorem J.lk {t : TypeId} {m x : Operand} {c : Bool} {mm : List (κ × β)} {b : Nat} {h : Heap} {a : κ} {z : Value} {s1 s2 b1 b2 : Nat} {z1 : Option Value} {de : TypeDesc} (K : Keyed P kt) (inj : ∀ x y, ek x = ek y → x = y) (mt : MapT P kt ek ev mm b h) (hr : RdH R L h) (hkey : ∃ l, keyOf P kt (ek a) = some l) (hΓ : Fits P Γ)
    (k : J P n w0 R l0 K0 rest (upd f d (if c then .tuple #[(match mget mm a with | some y => ev y | none => z), .bool (mget mm a).isSome] else (match mget mm a with | some y => ev y | none => z))) L)
    (hg : wantB n f l0 ⟨some d, .lookup t m x c, ty, pos, aft, g⟩ = true := by exact rfl) (hm : Cx.ev n f m = .map (some b) := by exact rfl) (hx : Cx.ev n f x = ek a := by exact rfl) (ht : look Γ t = some ⟨.map kt e, s1, z1, b1⟩ := by exact rfl) (he : look Γ e = some ⟨de, s2, some z, b2⟩ := by exact rfl) :
    J P n w0 R l0 K0 ((q + 1, ⟨some d, .lookup t m x c, ty, pos, aft, g⟩) :: rest) f L := by
  obtain ⟨_, ie, hie, _, hze, _⟩ := hΓ e _ he
  have hzr : ∀ w, (zeroValue e).run P w = .ok z w := fun w => by simp [zeroValue, typeInfo, hie, hze, go_sem]
  refine J.q hg (fun w hw => ?_) k
  have := mt.lookup K inj (hΓ t _ ht).1 a hkey w (hw.rdH hr) (hzr w) c
  simp only [execOp, hm, hx, Sem.run_bind]
  rw [this]
  rfl
/-- m[x] = y; the map's fragment lies first -/
theorem J.mup {t : TypeId} {m x v : Operand} {mm : List (κ × β)} {b : Nat} {h : Heap} {a : κ} (y : β) {s1 b1 : Nat} {z1 : Option Value} (K : Keyed P kt) (inj : ∀ x y, ek x = ek y → x = y) (mt : MapT P kt ek ev mm b h) (hkey : ∃ l, keyOf P kt (ek a) = some l) (hΓ : Fits P Γ)
    (k : ∀ h', MapT P kt ek ev (mput mm a y) b h' → J P n w0 R l0 K0 rest f (h' :: L))
    (hg : wantB n f l0 ⟨none, .mapUpdate t m x v, ty, pos, aft, g⟩ = true := by exact rfl) (hm : Cx.ev n f m = .map (some b) := by exact rfl) (hx : Cx.ev n f x = ek a := by exact rfl) (hv : Cx.ev n f v = ev y := by exact rfl) (ht : look Γ t = some ⟨.map kt e, s1, z1, b1⟩ := by exact rfl) :
    J P n w0 R l0 K0 ((2, ⟨none, .mapUpdate t m x v, ty, pos, aft, g⟩) :: rest) f (h :: L) := fun ac ha w hC => by
  have hw : Region.wanted (⟨none, .mapUpdate t m x v, ty, pos, aft, g⟩ : Oper) (yielded l0.toArray ac.tmps) = true := by rw [ha.wanted, hg]
  obtain ⟨w', h', hrun, hH, mt'⟩ := mt.update K inj (hΓ t _ ht).1 a hkey y hC
  unfold lop
  rw [if_pos hw]
  unfold Oper.wp
  rw [ha.eval]
  simp only [execOp, hm, hx, hv, Sem.run_bind, hrun]
  exact ⟨_, fun h => absurd rfl h, hH, k h' mt' _ (ha.put none undef)⟩
omit [DecidableEq κ] in
theorem MapT.nil (b : Nat) : MapT P kt ek ev ([] : List (κ × β)) b [(b, .map ⟨[]⟩ 0)] := ⟨⟨[], 0, rfl, rfl, MapKept.stamped_empty 0⟩, fun p hp => (by cases hp), List.nodup_nil⟩
/-- make(map[..]..) -/
theorem J.mkm {t : TypeId} (k : ∀ b, J P n w0 R l0 K0 rest (upd f d (.map (some b))) ([(b, .map ⟨[]⟩ 0)] :: L)) (hg : wantB n f l0 ⟨some d, .makeMap t none, ty, pos, aft, g⟩ = true := by exact rfl) :
    J P n w0 R l0 K0 ((q + 2, ⟨some d, .makeMap t none, ty, pos, aft, g⟩) :: rest) f L :=
  J.vg (Φ := fun v h => ∃ b, v = .map (some b) ∧ h = [(b, .map ⟨[]⟩ 0)]) hg
    (fun w hw => ⟨.map (some w.heap.size), _, _, by simp only [execOp, Sem.run_bind, Option.map_none]; rw [run_makeMap]; rfl, hw.alloc _, w.heap.size, rfl, rfl⟩)
    (fun v L' ⟨b, h1, h2⟩ => by subst h1; subst h2; exact k b)
omit [DecidableEq κ] in
theorem MapT.size {mm : List (κ × β)} {b : Nat} {h : Heap} (mt : MapT P kt ek ev mm b h) : ∃ es clock, h = [(b, .map ⟨es⟩ clock)] ∧ es.length = mm.length := by
  obtain ⟨es, clock, he, hrow, hst⟩ := mt.row
  exact ⟨es, clock, he, by simpa using congrArg List.length hrow⟩
omit [DecidableEq κ] in
/-- len(m) -/
theorem J.lenM {t : TypeId} {m : Operand} {mm : List (κ × β)} {b : Nat} {h : Heap} {s1 b1 : Nat} {z1 : Option Value} (mt : MapT P kt ek ev mm b h) (hr : RdH R L h) (hΓ : Fits P Γ) (k : J P n w0 R l0 K0 rest (upd f d (.int .i64 (mm.length : Int))) L)
    (hg : wantB n f l0 ⟨some d, .call ⟨.builtin .len, ⟨[m]⟩, ⟨[t]⟩⟩, ty, pos, aft, g⟩ = true := by exact rfl) (hm : Cx.ev n f m = .map (some b) := by exact rfl) (ht : look Γ t = some ⟨.map kt e, s1, z1, b1⟩ := by exact rfl) :
    J P n w0 R l0 K0 ((q + 1, ⟨some d, .call ⟨.builtin .len, ⟨[m]⟩, ⟨[t]⟩⟩, ty, pos, aft, g⟩) :: rest) f L := by
  refine J.q hg (fun w hw => ?_) k
  obtain ⟨es, clock, he, hlen⟩ := mt.size
  have hb : w.heap[b]? = some (.map ⟨es⟩ clock) := hw.rdH hr (b, _) (by rw [he]; simp)
  have hrun : (Builtin.len_ #[t] ty #[.map (some b)]).run P w = .ok (.int .i64 (mm.length : Int)) w := by
    simp [Builtin.len_, run_underlying (hΓ t _ ht).1, MapKept.run_getObj_map hb, goInt, Result.andThen, hlen]
  simp [execOp, resolve, invoke, builtin, hm, hrun, Result.andThen]
end
end Go.Cx
