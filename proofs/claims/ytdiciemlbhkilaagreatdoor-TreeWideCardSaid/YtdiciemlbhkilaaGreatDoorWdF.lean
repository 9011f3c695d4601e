/- TreeWide: part 6. -/
import Derived.Test.YtdiciemlbhkilaaGreatDoorWdE
namespace Go.Cx
open Go Go.RowKit
set_option linter.unusedVariables false
def selF (l : List Heap) : List Nat → List Heap
  | [] => []
  | i :: f => l.getD i [] :: selF l f
theorem selF_mem (l : List Heap) (x : Heap) : ∀ f : List Nat, x ∈ selF l f → ∃ i, i ∈ f ∧ x = l.getD i []
  | [], h => by cases h
  | i :: f, h => by
    rcases List.mem_cons.1 h with rfl | h
    · exact ⟨i, List.mem_cons_self, rfl⟩
    · obtain ⟨j, hj, e⟩ := selF_mem l x f h
      exact ⟨j, List.mem_cons_of_mem _ hj, e⟩
def apart (a b : Heap) : Prop := ∀ x, x ∈ a.map (·.1) → ∀ y, y ∈ b.map (·.1) → x ≠ y
theorem apart.symm {a b : Heap} (h : apart a b) : apart b a := fun x hx y hy e => h y hy x hx e.symm
theorem nodup_frags (L : List Heap) : (L.flatten.map (·.1)).Nodup ↔ (∀ a, a ∈ L → (a.map (·.1)).Nodup) ∧ L.Pairwise apart := by
  rw [List.map_flatten]
  unfold List.Nodup
  rw [List.pairwise_flatten]
  constructor
  · rintro ⟨h1, h2⟩
    have h3 := List.pairwise_map.1 h2
    exact ⟨fun a ha => h1 _ (List.mem_map_of_mem ha), h3⟩
  · rintro ⟨h1, h2⟩
    have h3 : (L.map (List.map (·.1))).Pairwise (fun l₁ l₂ => ∀ (x : Nat), x ∈ l₁ → ∀ (y : Nat), y ∈ l₂ → x ≠ y) := List.pairwise_map.2 h2
    refine ⟨fun a ha => ?_, h3⟩
    obtain ⟨b, hb, rfl⟩ := List.mem_map.1 ha
    exact h1 b hb
theorem getD_in (l : List Heap) (i : Nat) (hi : i < l.length) : l.getD i [] ∈ l := by
  rw [List.getD_eq_getElem?_getD, List.getElem?_eq_getElem hi]
  exact List.getElem_mem hi
theorem selF_apart (l : List Heap) (hp : l.Pairwise apart) : ∀ f : List Nat, f.Nodup → (∀ i, i ∈ f → i < l.length) → (selF l f).Pairwise apart
  | [], _, _ => List.Pairwise.nil
  | i :: f, hn, hb => by
    rw [List.nodup_cons] at hn
    refine List.pairwise_cons.2 ⟨fun x hx => ?_, selF_apart l hp f hn.2 fun j hj => hb j (List.mem_cons_of_mem _ hj)⟩
    obtain ⟨j, hj, rfl⟩ := selF_mem l x f hx
    have hi := hb i List.mem_cons_self
    have hj2 := hb j (List.mem_cons_of_mem _ hj)
    have hne : i ≠ j := fun e => hn.1 (e ▸ hj)
    rw [List.getD_eq_getElem?_getD, List.getElem?_eq_getElem hi, List.getD_eq_getElem?_getD, List.getElem?_eq_getElem hj2]
    rcases Nat.lt_or_gt_of_ne hne with h | h
    · exact List.pairwise_iff_getElem.1 hp i j hi hj2 h
    · exact (List.pairwise_iff_getElem.1 hp j i hj2 hi h).symm
theorem H.sel {w0 w : World} {R : Heap} {l M : List Heap} (h : H w0 R (l ++ M) w) (f : List Nat) (hn : f.Nodup := by decide) (hb : (f.all fun i => decide (i < l.length)) = true := by rfl) : H w0 R (selF l f ++ M) w := by
  have hb' : ∀ i, i ∈ f → i < l.length := fun i hi => by simpa using List.all_eq_true.1 hb i hi
  have hs : ∀ a, a ∈ selF l f ++ M → a ∈ l ++ M := fun a ha => by
    rcases List.mem_append.1 ha with ha | ha
    · obtain ⟨i, hi, rfl⟩ := selF_mem l a f ha
      exact List.mem_append_left _ (getD_in l i (hb' i hi))
    · exact List.mem_append_right _ ha
  have hx : ∀ x, x ∈ (selF l f ++ M).flatten → x ∈ (l ++ M).flatten := fun x hx => by
    obtain ⟨a, ha, hxa⟩ := List.mem_flatten.1 hx
    exact List.mem_flatten.2 ⟨a, hs a ha, hxa⟩
  refine ⟨h.below, h.old, fun x hx' => h.own x (hx x hx'), fun x hx' => h.new x (hx x hx'), ?_⟩
  obtain ⟨h1, h2⟩ := (nodup_frags _).1 h.nodup
  refine (nodup_frags _).2 ⟨fun a ha => h1 a (hs a ha), ?_⟩
  rw [List.pairwise_append] at h2 ⊢
  refine ⟨selF_apart l h2.1 f hn hb', h2.2.1, fun a ha b hb => ?_⟩
  obtain ⟨i, hi, rfl⟩ := selF_mem l a f ha
  exact h2.2.2 _ (getD_in l i (hb' i hi)) b hb
section
variable {P : Program} {n : Nat} {w0 : World} {R : Heap} {L0 : List Heap} {l0 : List Oper} {K : Exit → Fr → List Heap → Prop} {f : Fr} {L : List Heap}
def midK (ws : Nat → Bool) (f0 : Fr) (Q : Fr → List Heap → Prop) : Exit → Fr → List Heap → Prop
  | .normal, f, L => Ag ws f0 f ∧ Q f L
  | _, _, _ => False
theorem midK.nn {ws : Nat → Bool} {f0 : Fr} {Q : Fr → List Heap → Prop} (ha : Ag ws f0 f) (h : Q f L) : midK ws f0 Q .normal f L := ⟨ha, h⟩
theorem JC.mid {c : Code} (ws : Nat → Bool) (Q : Fr → List Heap → Prop) (h1 : JC P n w0 R c (midK ws f Q) f L) (h2 : ∀ g L', Q g L' → K .normal (havoc ws f g) L') : JC P n w0 R c K f L :=
  JC.mono h1 fun e F L' h => by
    cases e with
    | normal =>
      have := h2 F L' h.2
      rw [h.1.eq] at this
      exact this
    | _ => exact h.elim
end
section
variable {P : Program} {n : Nat} {w0 : World} {R : Heap} {l0 : List Oper} {K : Exit → Fr → List Heap → Prop} {f : Fr} {L : List Heap} {rest : List (Nat × Oper)}
variable {Γ : List (Nat × TI)} {d : Nat} {ty : TypeId} {pos : String} {aft : Array Edge} {g : Option (Nat × Bool)}
variable {α : Type} {enc : α → List Value} {size : Nat} {e : TypeId} {a : Option Addr} {cap : Nat} {ts us : List α} {h : Heap}
theorem app_empty {w : World} (hΓ : Fits P Γ) {t ty' : TypeId} {s1 b1 b2 : Nat} {z1 : Option Value} {z : Value} {de : TypeDesc} {len c : Nat} {b : Option Addr} (ht : look Γ t = some ⟨.slice e, s1, z1, b1⟩) (he : look Γ e = some ⟨de, size, some z, b2⟩) (hc : len ≤ cap) :
    (Builtin.append_ #[t, t] ty' #[.slice a len cap, .slice b 0 c]).run P w = .ok (.slice a len cap) w := by
  have hu := (hΓ t _ ht).1
  have hsz := sizeOf_run hΓ he w
  unfold Builtin.append_
  cases a <;> cases b <;> simp [Sem.run_bind, run_underlying hu, hsz, Builtin.lenOf, Builtin.firstCells, loadCells, loadCellsFrom, storeCells, hc, Result.andThen, go_sem]
theorem J.apA {t : TypeId} {x y : Operand} {len m c : Nat} {b : Option Addr} {hs : Heap} {s1 b1 b2 : Nat} {z1 : Option Value} {z : Value} {zc : List Value} {de : TypeDesc} (hΓ : Fits P Γ) (ho : OwT enc size e a cap ts h) (hus : SlT enc size b us hs) (hr : RdH R (h :: L) hs)
    (k : ∀ a' cap' h', OwT enc size e a' cap' (ts ++ us) h' → J P n w0 R l0 K rest (upd f d (.slice a' (ts ++ us).length cap')) (h' :: L))
    (hg : wantB n f l0 ⟨some d, .call ⟨.builtin .append, ⟨[x, y]⟩, ⟨[t, t]⟩⟩, ty, pos, aft, g⟩ = true := by exact rfl)
    (hx : Cx.ev n f x = .slice a len cap := by exact rfl) (hy : Cx.ev n f y = .slice b m c := by exact rfl) (ht : look Γ t = some ⟨.slice e, s1, z1, b1⟩ := by exact rfl) (he : look Γ e = some ⟨de, size, some z, b2⟩ := by exact rfl) (hz : vcells z = some zc := by exact rfl) (hzl : Nat.beq zc.length size = true := by exact rfl)
    (hlen : ts.length = len := by first | rfl | assumption | omega) (hm : us.length = m := by first | rfl | assumption | omega) (h1 : ∀ t, ones (enc t) = true := by intro _; rfl) (hb : (len + m) * b2 ≤ 140737488355328 := by omega) (h63 : len + m ≤ 9223372036854775807 := by omega) :
    J P n w0 R l0 K ((2, ⟨some d, .call ⟨.builtin .append, ⟨[x, y]⟩, ⟨[t, t]⟩⟩, ty, pos, aft, g⟩) :: rest) f (h :: L) := by
  have hll : (ts ++ us).length = len + m := by rw [List.length_append, hlen, hm]
  rcases Nat.eq_zero_or_pos us.length with h0 | hpos
  · have hun : us = [] := List.eq_nil_of_length_eq_zero h0
    subst hun
    subst hm
    subst hlen
    have hcap : ts.length ≤ cap := by
      rcases ho.row with ⟨_, rfl, rfl, _⟩ | ⟨_, _, _, _, _, hc, _⟩
      · exact Nat.le_refl _
      · exact hc
    have k' := k a cap h (by rw [List.append_nil]; exact ho)
    rw [List.append_nil] at k'
    refine J.v (Φ := fun v L' => v = .slice a ts.length cap ∧ L' = h :: L) hg (fun w hw => ⟨_, _, w, ?_, hw, rfl, rfl⟩) (fun v L' ⟨e1, e2⟩ => by subst e1; subst e2; exact k')
    have h2 : (⟨[x, y]⟩ : Array Operand).map (Cx.ev n f) = #[.slice a ts.length cap, .slice b 0 c] := by simp [hx, hy]
    simp only [execOp, resolve, h2, Sem.run_bind, Sem.run_pure, Result.andThen_ok, invoke, builtin]
    rw [app_empty hΓ ht he hcap]
    rfl
  · refine J.appS hΓ hg hx hy ht he hz hzl ho hlen hus hm hr h1 (by omega) hb h63 (fun a' cap' h' o' => ?_)
    have := k a' cap' h' o'
    rw [hll] at this
    exact this
end
end Go.Cx
namespace Go.Proofs.YtdiciemlbhkilaaGreatDoor
open Go Go.Cx Go.RowKit
set_option linter.unusedVariables false
set_option linter.unusedSimpArgs false
set_option maxHeartbeats 4000000
attribute [local irreducible] J JC thenK blockK loopK roundK drawK retK QW Qt pel List.set Calls
attribute [local irreducible] JE Br eK0 eK3 brK JR thenR JL JLd
theorem eFirst : Entr Tryz.prog 19 := Entr.of Tryz.func19 rfl rfl
def fstS (s : Nat × Nat) : Int := (memS s).headD 0
set_option maxHeartbeats 16000000 in
theorem first_any (s : Nat × Nat) (hs : okS s) (w : World) (hT : Tab64 w) : Calls Tryz.prog 19 #[sv s] w fun e w' => e = .returned (.int .i64 (fstS s)) ∧ Below w.heap.size w w' := by
  have hw : H w [] [] w := H.start (Holds.nil _)
  refine calls_of_JW (m := 5) (R := []) (L := []) (w0 := w) Tryz.func19 Tryz.ntmps19 rfl rfl hw ?_
  refine JW.seqC ?_
  repeat' first
    | (refine J.isJ ?_; first | (first | (refine J.o 6 ?_; refine J.bx (fun b1 => ?_)) | (refine J.o 7 ?_; refine J.al hΓ (fun b2 => ?_))) | (first | (refine J.o 0 ?_; refine J.ev' hΓ ?_) | refine J.nil ?_ | (refine J.o 4 ?_; first | refine J.lR hΓ ?_) | (refine J.o 3 ?_; first | refine J.ev' hΓ ?_) | (refine J.o 5 ?_; first | refine J.t0 hΓ ?_) | (refine J.o 6 ?_; refine J.bx (fun _ => ?_)) | (refine J.o 7 ?_; refine J.al hΓ (fun _ => ?_)) | (refine J.o 10 ?_; refine J.ev' hΓ ?_) | (refine J.o 11 ?_; refine J.ev' hΓ ?_)))
    | (first | refine JC.region ?_ | refine blockK.r ?_)
    | (fail)
    | fail
  refine toW.nn ?_
  refine JW.seq ?_
  refine JW.seqC ?_
  repeat' first
    | (refine J.isJ ?_; first | ((refine J.fc 53 ?_; refine J.callx eMembers rfl rfl (fun w hw => members_any s hw) ?_; rintro _ _ ⟨bm, rfl, rfl⟩)) | (first | (refine J.o 0 ?_; refine J.ev' hΓ ?_) | refine J.nil ?_ | (refine J.o 4 ?_; first | refine J.lR hΓ ?_) | (refine J.o 3 ?_; first | refine J.ev' hΓ ?_) | (refine J.o 5 ?_; first | refine J.t0 hΓ ?_) | (refine J.o 6 ?_; refine J.bx (fun _ => ?_)) | (refine J.o 7 ?_; refine J.al hΓ (fun _ => ?_)) | (refine J.o 10 ?_; refine J.ev' hΓ ?_) | (refine J.o 11 ?_; refine J.ev' hΓ ?_)))
    | (first | refine JC.region ?_ | refine blockK.r ?_)
    | (fail)
    | fail
  refine toW.nn ?_
  have hT2 : Tab64 w := hT
  refine JW.rangeQ (Ψ := fun L' => memS s = [] ∧ L' = [(bm, sO s)] :: [(b2, .cells ⟨[.int .i64 0]⟩ 3 (0, 0))] :: [(b1, sO s)] :: []) (Ψr := fun L' => L' = [(b2, .cells ⟨[.int .i64 (fstS s)]⟩ 3 (0, 0))] :: [(bm, sO s)] :: [(b1, sO s)] :: []) rfl eMem1 (fun fn D tmps r hr w1 ha1 hw1 => ?_) ?_ ?_
  · refine (mem1_any s hs (D + 1) 4 hT2 (fun l L' => l = memS s ∧ L' = [(D + 1, .loop r)] :: [(D, .deferred (some []))] :: [(bm, sO s)] :: [(b2, .cells ⟨[.int .i64 0]⟩ 3 (0, 0))] :: [(b1, sO s)] :: []) (fun L' => L' = [(D + 1, .loop { r with state := .done, pending := some .ret })] :: [(D, .deferred (some []))] :: [(b2, .cells ⟨[.int .i64 (fstS s)]⟩ 3 (0, 0))] :: [(bm, sO s)] :: [(b1, sO s)] :: []) (fun l L' hl => by rw [hl.2]; exact Rd.hd.tl.tl) (fun v l L' hl wy hwy => ?_) ⟨rfl, rfl⟩ hw1).mono ?_
    · obtain ⟨hm, rfl⟩ := hl
      subst hr
      have hf : fstS s = v := by unfold fstS; rw [← hm]; rfl
      refine round_any (Φ := fun v' L' => ∃ q : Bool, v' = .bool q ∧ (q = true → _) ∧ (q = false → L' = _)) rfl rfl (by rw [round_tmps]; exact ha1.put (some 6) (.int .i64 v)) ?_ hwy
      refine JR.region rfl ?_
      repeat' first
        | (refine J.isJ ?_; first | (fail) | (first | (refine J.o 0 ?_; refine J.ev' hΓ ?_) | refine J.nil ?_ | (refine J.o 4 ?_; first | refine J.lR hΓ ?_) | (refine J.o 3 ?_; first | refine J.ev' hΓ ?_) | (refine J.o 5 ?_; first | refine J.t0 hΓ ?_) | (refine J.o 6 ?_; refine J.bx (fun _ => ?_)) | (refine J.o 7 ?_; refine J.al hΓ (fun _ => ?_)) | (refine J.o 10 ?_; refine J.ev' hΓ ?_) | (refine J.o 11 ?_; refine J.ev' hΓ ?_)))
        | (first | refine JR.seq ?_ | refine JR.region (by kernel_rfl) ?_ | refine JR.block ?_ | refine JR.ret ?_ | refine JR.exit ?_ | refine JR.skip ?_ | refine thenR.nn ?_ | refine thenR.r ?_ | refine thenR.x ?_ | refine blockK.r ?_ | refine JR.condT rfl ?_ | refine JR.condF rfl ?_ | (refine JR.cond rfl (fun hc => ?_) (fun hc => ?_) <;> ((try simp only [decide_eq_true_eq, decide_eq_false_iff_not, beq_iff_eq, beq_eq_false_iff_ne, bne_iff_ne, bne_eq_false_iff_eq, Bool.not_eq_true', Bool.not_eq_false', Bool.not_eq_true, Bool.not_eq_false] at hc) <;> first | (first | (exact absurd rfl hc) | (exfalso; omega) | (exact absurd (hc.symm.trans (by assumption : _ = false)) (by decide)) | (exact absurd (hc.symm.trans (by assumption : _ = true)) (by decide))) | skip)))
        | (fail)
        | fail
      refine asgK.nn _ (fun w hw => hw) ?_
      refine JR.perm (bring_perm 3 _) ?_
      repeat' first
        | (refine J.isJ ?_; first | ((refine J.o 5 ?_; first | refine J.t0 hΓ ?_)) | (first | (refine J.o 0 ?_; refine J.ev' hΓ ?_) | refine J.nil ?_ | (refine J.o 4 ?_; first | refine J.lR hΓ ?_) | (refine J.o 3 ?_; first | refine J.ev' hΓ ?_) | (refine J.o 5 ?_; first | refine J.t0 hΓ ?_) | (refine J.o 6 ?_; refine J.bx (fun _ => ?_)) | (refine J.o 7 ?_; refine J.al hΓ (fun _ => ?_)) | (refine J.o 10 ?_; refine J.ev' hΓ ?_) | (refine J.o 11 ?_; refine J.ev' hΓ ?_)))
        | (first | refine JR.seq ?_ | refine JR.region (by kernel_rfl) ?_ | refine JR.block ?_ | refine JR.ret ?_ | refine JR.exit ?_ | refine JR.skip ?_ | refine thenR.nn ?_ | refine thenR.r ?_ | refine thenR.x ?_ | refine blockK.r ?_ | refine JR.condT rfl ?_ | refine JR.condF rfl ?_ | (refine JR.cond rfl (fun hc => ?_) (fun hc => ?_) <;> ((try simp only [decide_eq_true_eq, decide_eq_false_iff_not, beq_iff_eq, beq_eq_false_iff_ne, bne_iff_ne, bne_eq_false_iff_eq, Bool.not_eq_true', Bool.not_eq_false', Bool.not_eq_true, Bool.not_eq_false] at hc) <;> first | (first | (exact absurd rfl hc) | (exfalso; omega) | (exact absurd (hc.symm.trans (by assumption : _ = false)) (by decide)) | (exact absurd (hc.symm.trans (by assumption : _ = true)) (by decide))) | skip)))
        | (fail)
        | fail
      refine rndK.rr ([(D, .deferred (some []))] :: [(b2, .cells ⟨[.int .i64 (fstS s)]⟩ 3 (0, 0))] :: [(bm, sO s)] :: [(b1, sO s)] :: []) (fun w hw => by rw [hf]; exact H.sel (l := [_, _, _, _, _]) (M := []) hw [1, 2, 0, 3, 4]) ⟨false, rfl, (fun h => by cases h), fun _ => rfl⟩
    · rintro e w' ⟨v, L', rfl, hw', ⟨h1, h2⟩ | h2⟩
      · subst h2
        exact ⟨v, _, rfl, .inl ⟨hw', h1.symm, rfl⟩⟩
      · subst h2
        exact ⟨v, _, rfl, .inr ⟨hw', rfl⟩⟩
  · rintro D _ ⟨h0, rfl⟩
    have hf : fstS s = 0 := by unfold fstS; rw [h0]; rfl
    rw [hf]
    refine JW.perm (bring_perm 2 _) ?_
    refine JW.regD ?_
    refine JLd.of (fun c h => by cases h) ?_
    (refine J.isJ ?_; refine J.o 5 ?_; refine J.t0 hΓ ?_)
    (refine J.nil ?_; refine nextLd.nn ?_)
    refine JLd.nil ?_
    refine JW.ret (fun a w' ha hw' => ?_)
    refine leaves_D ha (hw'.perm (List.Perm.swap _ _ _)) ?_
    exact retC hΓ rfl rfl rfl Rd.hd.tl rfl (fun w1 hw => ⟨rfl, hw.below⟩)
  · rintro D _ rfl a w' ha hw'
    refine leaves_D ha hw' ?_
    refine retC hΓ rfl rfl rfl Rd.hd.tl rfl (fun w1 hw => ⟨rfl, hw.below⟩)
end Go.Proofs.YtdiciemlbhkilaaGreatDoor
namespace Go.Proofs.YtdiciemlbhkilaaGreatDoor
open Go Go.Cx Go.RowKit
set_option linter.unusedVariables false
set_option linter.unusedSimpArgs false
set_option maxHeartbeats 4000000
attribute [local irreducible] J JC thenK blockK loopK roundK drawK retK QW Qt pel List.set Calls
def encBo (b : Bool) : List Value := [.bool b]
end Go.Proofs.YtdiciemlbhkilaaGreatDoor
namespace Go.Proofs.YtdiciemlbhkilaaGreatDoor
open Go Go.Cx Go.RowKit
set_option linter.unusedVariables false
set_option linter.unusedSimpArgs false
set_option maxHeartbeats 4000000
attribute [local irreducible] J JC thenK blockK loopK roundK drawK retK QW Qt pel List.set Calls
structure Gt where
  kind : Int
  lit : Int
  a : Option Addr
  cap : Nat
  ins : List Int
instance : Inhabited Gt := ⟨⟨0, 0, none, 0, []⟩⟩
def encG (g : Gt) : List Value := [.int .i64 g.kind, .int .i64 g.lit, .slice g.a g.ins.length g.cap]
structure OkG (n : Int) (i : Nat) (g : Gt) : Prop where
  al : (g.kind = 0 ∨ g.kind = 1 ∨ g.kind = 2) ∧ g.ins.length = 0 ∨ g.kind = 8 ∧ g.ins.length = 3 ∨ g.kind = 4 ∧ g.ins.length = 1
  lit : g.kind = 2 ∧ 1 ≤ g.lit ∧ g.lit ≤ n ∨ g.kind ≠ 2 ∧ g.lit = 0
  ins : ∀ j, j < g.ins.length → 0 ≤ g.ins.getD j default ∧ g.ins.getD j default < i
structure Cir (n : Int) (a : Option Addr) (gs : List Gt) (h : Heap) : Prop where
  n0 : 0 ≤ n
  n1 : n ≤ 128
  len0 : 0 < gs.length
  len1 : gs.length ≤ 4096
  sl : SlT encG 3 a gs h
  ins : ∀ i, i < gs.length → SlT encI 1 (gs.getD i default).a (gs.getD i default).ins h
  ok : ∀ i, i < gs.length → OkG n i (gs.getD i default)
def cv (n : Int) (a : Option Addr) (len cap : Nat) : Value := .agg ⟨[.int .i64 n, .slice a len cap]⟩
def sizeP (gs : List Gt) : Nat := (gs.map fun g => g.ins.length).sum
theorem size_take (gs : List Gt) (k : Nat) (hk : k < gs.length) : sizeP (gs.take (k + 1)) = sizeP (gs.take k) + (gs.getD k default).ins.length := by
  rw [← take_one gs k hk]; unfold sizeP; simp
theorem size_le (gs : List Gt) (hg : ∀ i, i < gs.length → (gs.getD i default).ins.length ≤ 3) : ∀ k, k ≤ gs.length → sizeP (gs.take k) ≤ 3 * k
  | 0, _ => by simp [sizeP]
  | k + 1, h => by rw [size_take gs k (by omega)]; have := size_le gs hg k (by omega); have := hg k (by omega); omega
theorem Cir.small {n : Int} {a : Option Addr} {gs : List Gt} {h : Heap} (c : Cir n a gs h) (i : Nat) (hi : i < gs.length) : (gs.getD i default).ins.length ≤ 3 := by
  have := (c.ok i hi).al; omega
end Go.Proofs.YtdiciemlbhkilaaGreatDoor
namespace Go.Proofs.YtdiciemlbhkilaaGreatDoor
open Go Go.Cx Go.RowKit
set_option linter.unusedVariables false
set_option linter.unusedSimpArgs false
set_option maxHeartbeats 4000000
attribute [local irreducible] J JC thenK blockK loopK roundK drawK retK QW Qt pel List.set Calls
theorem slm {α : Type} {enc : α → List Value} {size : Nat} {a : Option Addr} {ts : List α} {h h' : Heap} (hs : SlT enc size a ts h) (hh : ∀ x, x ∈ h → x ∈ h') : SlT enc size a ts h' :=
  ⟨hs.len, fun i hi => by
    obtain ⟨b, off, cs, e, fr, h1, h2, h3⟩ := hs.at_ i hi
    exact ⟨b, off, cs, e, fr, h1, hh _ h2, h3⟩⟩
def valueP (s : Nat × Nat) (v : List Bool) (g : Gt) : Bool :=
  if g.kind = 1 then true else if g.kind = 2 then hasB s g.lit else if g.kind = 4 then g.ins.all (fun j => v.getD j.toNat default)
  else if g.kind = 8 then (if v.getD (g.ins.getD 0 default).toNat default then v.getD (g.ins.getD 1 default).toNat default else v.getD (g.ins.getD 2 default).toNat default) else false
end Go.Proofs.YtdiciemlbhkilaaGreatDoor
namespace Go.Proofs.YtdiciemlbhkilaaGreatDoor
open Go Go.Cx Go.RowKit
set_option linter.unusedVariables false
set_option linter.unusedSimpArgs false
set_option maxHeartbeats 4000000
attribute [local irreducible] J JC thenK blockK loopK roundK drawK retK QW Qt pel List.set Calls
def vals (s : Nat × Nat) (gs : List Gt) : List Bool := gs.foldl (fun v g => v ++ [valueP s v g]) []
theorem vals_snoc (s : Nat × Nat) (gs : List Gt) (g : Gt) : vals s (gs ++ [g]) = vals s gs ++ [valueP s (vals s gs) g] := by
  unfold vals; rw [List.foldl_append]; rfl
theorem vals_take (s : Nat × Nat) (gs : List Gt) (k : Nat) (hk : k < gs.length) : vals s (gs.take (k + 1)) = vals s (gs.take k) ++ [valueP s (vals s (gs.take k)) (gs.getD k default)] := by
  rw [← take_one gs k hk, vals_snoc]
theorem vals_len (s : Nat × Nat) (gs : List Gt) : ∀ k, k ≤ gs.length → (vals s (gs.take k)).length = k
  | 0, _ => rfl
  | k + 1, h => by rw [vals_take s gs k (by omega), List.length_append, vals_len s gs k (by omega)]; rfl
theorem vals_nil (s : Nat × Nat) (gs : List Gt) : vals s (gs.take 0) = [] := rfl
attribute [local irreducible] vals
end Go.Proofs.YtdiciemlbhkilaaGreatDoor
namespace Go.Proofs.YtdiciemlbhkilaaGreatDoor
open Go Go.Cx Go.RowKit
set_option linter.unusedVariables false
set_option linter.unusedSimpArgs false
set_option maxHeartbeats 4000000
attribute [local irreducible] J JC thenK blockK loopK roundK drawK retK QW Qt pel List.set Calls
def Γ2 : List (Nat × TI) := (102, ⟨.func #[101] #[3] false, 1, some .nilFunc, 8⟩) :: (88, ⟨.func #[3, 3, 3] #[3] false, 1, some .nilFunc, 8⟩) :: Γ
theorem hΓ2 : Fits Tryz.prog Γ2 := .cons (.cons hΓ (by kernel_rfl) (by kernel_rfl)) (by kernel_rfl) (by kernel_rfl)
def cF (bc : Nat) (e : TypeId) (n : Int) (aL : Option Addr) (len capL : Nat) : Heap := [(bc, .cells ⟨[.int .i64 n, .slice aL len capL]⟩ e (0, 0))]
structure St (n : Int) (gs : List Gt) (hI : Heap) : Prop where
  ok : ∀ i, i < gs.length → OkG n i (gs.getD i default)
  ins : ∀ i, i < gs.length → SlT encI 1 (gs.getD i default).a (gs.getD i default).ins hI
def val (s : Nat × Nat) (gs : List Gt) (r : Int) : Bool := (vals s gs).getD r.toNat default
theorem vals_all (s : Nat × Nat) (gs : List Gt) : (vals s gs).length = gs.length := by
  have := vals_len s gs gs.length (Nat.le_refl _)
  rwa [List.take_length] at this
theorem getD_left {α : Type} [Inhabited α] (a b : List α) (i : Nat) (h : i < a.length) : (a ++ b).getD i default = a.getD i default := by
  rw [List.getD_eq_getElem?_getD, List.getD_eq_getElem?_getD, List.getElem?_append_left h]
theorem getD_last {α : Type} [Inhabited α] (a : List α) (x : α) : (a ++ [x]).getD a.length default = x := by
  rw [List.getD_eq_getElem?_getD, List.getElem?_append_right (Nat.le_refl _)]; simp
theorem val_left (s : Nat × Nat) (gs : List Gt) (x : Gt) (r : Int) (h0 : 0 ≤ r) (h : r < gs.length) : val s (gs ++ [x]) r = val s gs r := by
  unfold val
  rw [vals_snoc, getD_left _ _ _ (by rw [vals_all]; omega)]
theorem val_last (s : Nat × Nat) (gs : List Gt) (x : Gt) : val s (gs ++ [x]) (gs.length : Int) = valueP s (vals s gs) x := by
  unfold val
  have := getD_last (vals s gs) (valueP s (vals s gs) x)
  rw [vals_all] at this
  rw [vals_snoc, Int.toNat_natCast, this]
theorem St.snoc {n : Int} {gs : List Gt} {hI hI' : Heap} (st : St n gs hI) (x : Gt) (hx : OkG n gs.length x) (hi : SlT encI 1 x.a x.ins hI') (hh : ∀ y, y ∈ hI → y ∈ hI') : St n (gs ++ [x]) hI' := by
  refine ⟨fun i hlt => ?_, fun i hlt => ?_⟩
  · rw [List.length_append, List.length_singleton] at hlt
    rcases Nat.lt_or_ge i gs.length with h | h
    · rw [getD_left _ _ _ h]; exact st.ok i h
    · obtain rfl : i = gs.length := by omega
      rw [getD_last]; exact hx
  · rw [List.length_append, List.length_singleton] at hlt
    rcases Nat.lt_or_ge i gs.length with h | h
    · rw [getD_left _ _ _ h]; exact slm (st.ins i h) hh
    · obtain rfl : i = gs.length := by omega
      rw [getD_last]; exact hi
theorem eAdd : Entr Tryz.prog 54 := Entr.of Tryz.func54 rfl rfl
theorem eChoose : Entr Tryz.prog 55 := Entr.of Tryz.func55 rfl rfl
theorem eLeaf : Entr Tryz.prog 56 := Entr.of Tryz.func56 rfl rfl
theorem eQuestion : Entr Tryz.prog 57 := Entr.of Tryz.func57 rfl rfl
theorem leaf_any (b : Bool) (w : World) : Calls Tryz.prog 56 #[.bool b] w fun e w' => e = .returned (.int .i64 (if b then 1 else 0)) ∧ Below w.heap.size w w' := by
  cases b
  all_goals
    refine calls_of_JC (R := []) Tryz.func56 Tryz.ntmps56 rfl rfl (Holds.nil _) ?_
    repeat' first
      | (refine J.isJ ?_; (first | (first | (refine J.o 0 ?_; refine J.ev' hΓ ?_) | refine J.nil ?_ | (refine J.o 3 ?_; first | refine J.ev' hΓ ?_) | (refine J.o 10 ?_; first | refine J.ev' hΓ ?_) | (refine J.o 11 ?_; first | refine J.ev' hΓ ?_))))
      | (first | refine JC.seq ?_ | refine JC.region ?_ | refine JC.ret ?_ | refine JC.skip ?_ | refine thenK.nn ?_ | refine thenK.r ?_ | refine JC.condT rfl ?_ | refine JC.condF rfl ?_)
      | fail
    all_goals exact ret1f rfl rfl rfl (fun w1 hw => ⟨rfl, hw.below⟩)
theorem add_any {w0 w : World} {R hl : Heap} {L : List Heap} {bc : Nat} {e : TypeId} {n : Int} {aL : Option Addr} {capL : Nat} {gs : List Gt} (x : Gt) (ol : OwT encG 3 101 aL capL gs hl) (hlen : gs.length ≤ 4096) (hw : H w0 R (cF bc e n aL gs.length capL :: hl :: L) w) :
    Calls Tryz.prog 54 #[.agg ⟨encG x⟩, .pointer (some ⟨bc, 0, none⟩)] w fun e' w' => ∃ v L', e' = .returned v ∧ H w0 R L' w' ∧ (v = .int .i64 (gs.length : Int) ∧ ∃ aL' capL' hl', OwT encG 3 101 aL' capL' (gs ++ [x]) hl' ∧ L' = cF bc e n aL' (gs.length + 1) capL' :: hl' :: L) := by
  unfold cF at hw ⊢
  have hl1 : (gs ++ [x]).length = gs.length + 1 := by simp
  refine calls_in Tryz.func54 Tryz.ntmps54 rfl rfl (hw) ?_
  repeat' first
    | (refine J.isJ ?_; first | (first | (refine J.o 0 ?_; refine J.ev' hΓ ?_) | refine J.nil ?_ | (refine J.o 4 ?_; first | refine J.e0 hΓ ?_ | refine J.e1 hΓ ?_) | (refine J.o 3 ?_; first | refine J.ev' hΓ ?_) | (refine J.o 1 ?_; first | refine J.sb ?_) | (refine J.o 5 ?_; first | refine J.t1 hΓ ?_) | (refine J.o 6 ?_; refine J.bx (fun _ => ?_)) | (refine J.o 9 ?_; refine J.bl hΓ (fun _ => ?_)) | (refine J.o 10 ?_; first | refine J.ev' hΓ ?_) | (refine J.o 11 ?_; first | refine J.ev' hΓ ?_)) | ((refine J.app1c (enc := encG) [x] hΓ (fun _ _ _ _ => ?_))))
    | (first | refine JC.seq ?_ | refine JC.region ?_ | refine JC.ret ?_ | refine thenK.nn ?_ | (refine JC.cond rfl (fun hc => ?_) (fun hc => ?_) <;> ((try simp only [decide_eq_true_eq, decide_eq_false_iff_not, beq_iff_eq, beq_eq_false_iff_ne, bne_iff_ne, bne_eq_false_iff_eq, Bool.not_eq_true', Bool.not_eq_false', Bool.not_eq_true, Bool.not_eq_false] at hc) <;> first | (first | (exact absurd rfl hc) | (exfalso; omega) | (exact absurd (hc.symm.trans (by assumption : _ = false)) (by decide)) | (exact absurd (hc.symm.trans (by assumption : _ = true)) (by decide))) | skip)))
    | fail
  all_goals first | (exfalso; omega) | skip
  all_goals refine ret1f rfl rfl rfl (fun w1 hw => ⟨_, _, rfl, hw.drop, ?_, _, _, _, by assumption, ?_⟩)
  · show Value.int .i64 _ = _; congr 1; omega
  · rw [hl1]
theorem _root_.Go.Cx.H.mg {w0 w : World} {R a b c d : Heap} {L : List Heap} (h : H w0 R (a :: b :: c :: d :: L) w) : H w0 R (a :: b :: (c ++ d) :: L) w := by
  have e : (a :: b :: (c ++ d) :: L).flatten = (a :: b :: c :: d :: L).flatten := by simp
  exact ⟨h.below, h.old, by rw [e]; exact h.own, by rw [e]; exact h.new, by rw [e]; exact h.nodup⟩
theorem choose_any {w0 w : World} {R hl hI : Heap} {L : List Heap} {bc ba : Nat} {e ea : TypeId} {fa} {n : Int} {aL : Option Addr} {capL : Nat} {gs : List Gt} (a b c : Int) (ol : OwT encG 3 101 aL capL gs hl) (st : St n gs hI) (hlen : gs.length ≤ 4096) (ha : 0 ≤ a ∧ a < gs.length) (hb : 0 ≤ b ∧ b < gs.length) (hc : 0 ≤ c ∧ c < gs.length)
    (hr : Rd R L ba (.cells ⟨[.func (.func 54) ⟨[]⟩ ⟨[.pointer (some ⟨bc, 0, none⟩)]⟩]⟩ ea fa)) (hw : H w0 R (cF bc e n aL gs.length capL :: hl :: hI :: L) w) :
    Calls Tryz.prog 55 #[.int .i64 a, .int .i64 b, .int .i64 c, .pointer (some ⟨ba, 0, none⟩)] w fun e' w' => ∃ v L', e' = .returned v ∧ H w0 R L' w' ∧ (∃ (r : Int) (gs' : List Gt) (aL' : Option Addr) (capL' : Nat) (hl' hI' : Heap), v = .int .i64 r ∧ OwT encG 3 101 aL' capL' gs' hl' ∧ St n gs' hI' ∧ L' = cF bc e n aL' gs'.length capL' :: hl' :: hI' :: L ∧ 0 ≤ r ∧ r < gs'.length ∧ gs.length ≤ gs'.length ∧ gs'.length ≤ gs.length + 1 ∧ (∀ (s : Nat × Nat) (t : Int), 0 ≤ t → t < gs.length → val s gs' t = val s gs t) ∧ ∀ s, val s gs' r = if val s gs a then val s gs b else val s gs c) := by
  by_cases hbc : b = c
  · subst hbc
    unfold cF at hw
    refine calls_in Tryz.func55 Tryz.ntmps55 rfl rfl (hw) ?_
    repeat' first
      | (refine J.isJ ?_; (first | (first | (refine J.o 0 ?_; refine J.ev' hΓ ?_) | refine J.nil ?_ | (refine J.o 4 ?_; first | refine J.lR hΓ ?_) | (refine J.o 3 ?_; first | refine J.ev' hΓ ?_) | (refine J.o 8 ?_; refine J.bd hΓ ?_) | (refine J.o 9 ?_; refine J.bl hΓ (fun _ => ?_)) | (refine J.o 10 ?_; first | refine J.ev' hΓ ?_) | (refine J.o 11 ?_; first | refine J.ev' hΓ ?_))))
      | (first | refine JC.seq ?_ | refine JC.region ?_ | refine JC.ret ?_ | refine JC.skip ?_ | refine thenK.nn ?_ | refine thenK.r ?_ | (refine JC.cond rfl (fun hc => ?_) (fun hc => ?_) <;> ((try simp only [decide_eq_true_eq, decide_eq_false_iff_not, beq_iff_eq, beq_eq_false_iff_ne, bne_iff_ne, bne_eq_false_iff_eq, Bool.not_eq_true', Bool.not_eq_false', Bool.not_eq_true, Bool.not_eq_false] at hc) <;> first | (first | (exact absurd rfl hc) | (exfalso; omega) | (exact absurd (hc.symm.trans (by assumption : _ = false)) (by decide)) | (exact absurd (hc.symm.trans (by assumption : _ = true)) (by decide))) | skip)))
      | fail
    all_goals first | (exfalso; omega) | skip
    all_goals refine ret1f rfl rfl rfl (fun w1 hw => ⟨_, _, rfl, hw, b, gs, aL, capL, hl, hI, rfl, ol, st, rfl, hb.1, hb.2, Nat.le_refl _, by omega, fun _ _ _ _ => rfl, fun s => by cases val s gs a <;> rfl⟩)
  · have hr1 : Rd R (cF bc e n aL gs.length capL :: hl :: hI :: L) ba (.cells ⟨[.func (.func 54) ⟨[]⟩ ⟨[.pointer (some ⟨bc, 0, none⟩)]⟩]⟩ ea fa) := hr.tl.tl.tl
    refine calls_in Tryz.func55 Tryz.ntmps55 rfl rfl (hw) ?_
    repeat' first
      | (refine J.isJ ?_; first | (first | (refine J.o 0 ?_; refine J.ev' hΓ ?_) | refine J.nil ?_ | (refine J.o 4 ?_; first | refine J.lR hΓ ?_) | (refine J.o 3 ?_; first | refine J.ev' hΓ ?_) | (refine J.o 8 ?_; refine J.bd hΓ ?_) | (refine J.o 9 ?_; refine J.bl hΓ (fun _ => ?_)) | (refine J.o 10 ?_; first | refine J.ev' hΓ ?_) | (refine J.o 11 ?_; first | refine J.ev' hΓ ?_)) | (first | (refine J.lR hΓ2 ?_) | (refine J.callvx eAdd rfl rfl rfl (fun w hw => add_any (⟨8, 0, some ⟨_, 0, none⟩, 3, [a, b, c]⟩ : Gt) ol hlen (hw.perm ((List.Perm.swap _ _ _).trans ((List.Perm.swap _ _ _).cons _)))) ?_; rintro _ _ ⟨rfl, aL', capL', hl', o', rfl⟩)))
      | (first | refine JC.seq ?_ | refine JC.region ?_ | refine JC.ret ?_ | refine JC.skip ?_ | refine thenK.nn ?_ | refine thenK.r ?_ | (refine JC.cond rfl (fun hc => ?_) (fun hc => ?_) <;> ((try simp only [decide_eq_true_eq, decide_eq_false_iff_not, beq_iff_eq, beq_eq_false_iff_ne, bne_iff_ne, bne_eq_false_iff_eq, Bool.not_eq_true', Bool.not_eq_false', Bool.not_eq_true, Bool.not_eq_false] at hc) <;> first | (first | (exact absurd rfl hc) | (exfalso; omega) | (exact absurd (hc.symm.trans (by assumption : _ = false)) (by decide)) | (exact absurd (hc.symm.trans (by assumption : _ = true)) (by decide))) | skip)))
      | fail
    all_goals first | (exfalso; omega) | skip
    rename_i x
    have hlx : (gs ++ [(⟨8, 0, some ⟨x, 0, none⟩, 3, [a, b, c]⟩ : Gt)]).length = gs.length + 1 := by simp
    have hok : OkG n gs.length (⟨8, 0, some ⟨x, 0, none⟩, 3, [a, b, c]⟩ : Gt) := ⟨.inr (.inl ⟨rfl, rfl⟩), .inr ⟨(by decide : (8 : Int) ≠ 2), rfl⟩, fun j hj => by
      match j, hj with
      | 0, _ => exact ha
      | 1, _ => exact hb
      | 2, _ => assumption⟩
    have hsl : SlT encI 1 (some ⟨x, 0, none⟩) [a, b, c] [(x, .cells ⟨[.int .i64 a, .int .i64 b, .int .i64 c]⟩ 3 (0, 0))] := OwT.sl (e := 3) (cap := 3) ⟨fun _ => rfl, .inr ⟨x, _, rfl, rfl, rfl, Nat.le_refl _, rfl⟩⟩
    refine ret1f rfl rfl rfl (fun w1 hw => ⟨_, _, rfl, hw.mg, (gs.length : Int), gs ++ [⟨8, 0, some ⟨x, 0, none⟩, 3, [a, b, c]⟩], aL', capL', hl', _, rfl, o', st.snoc _ hok (slm hsl fun y hy => List.mem_append_left _ hy) (fun y hy => List.mem_append_right _ hy), by rw [hlx], by omega, by omega, by omega, by omega, fun s t h0 h1 => val_left s gs _ t h0 h1, fun s => ?_⟩)
    rw [val_last]
    simp [valueP, val]
theorem question_any {w0 w : World} {R hl hI : Heap} {L : List Heap} {bc ba bh : Nat} {e ea eh : TypeId} {fa fh} {n : Int} {aL : Option Addr} {capL : Nat} {gs : List Gt} (v no yes : Int) (ol : OwT encG 3 101 aL capL gs hl) (st : St n gs hI) (hlen : gs.length + 1 ≤ 4096) (hv : 1 ≤ v ∧ v ≤ n) (hn : 0 ≤ no ∧ no < gs.length) (hy : 0 ≤ yes ∧ yes < gs.length)
    (hr : Rd R L ba (.cells ⟨[.func (.func 54) ⟨[]⟩ ⟨[.pointer (some ⟨bc, 0, none⟩)]⟩]⟩ ea fa)) (hr2 : Rd R L bh (.cells ⟨[.func (.func 55) ⟨[]⟩ ⟨[.pointer (some ⟨ba, 0, none⟩)]⟩]⟩ eh fh)) (hw : H w0 R (cF bc e n aL gs.length capL :: hl :: hI :: L) w) :
    Calls Tryz.prog 57 #[.int .i64 v, .int .i64 no, .int .i64 yes, .pointer (some ⟨bh, 0, none⟩), .pointer (some ⟨ba, 0, none⟩)] w fun e' w' => ∃ v' L', e' = .returned v' ∧ H w0 R L' w' ∧ (∃ (r : Int) (gs' : List Gt) (aL' : Option Addr) (capL' : Nat) (hl' hI' : Heap), v' = .int .i64 r ∧ OwT encG 3 101 aL' capL' gs' hl' ∧ St n gs' hI' ∧ L' = cF bc e n aL' gs'.length capL' :: hl' :: hI' :: L ∧ 0 ≤ r ∧ r < gs'.length ∧ gs.length ≤ gs'.length ∧ gs'.length ≤ gs.length + 2 ∧ (∀ (s : Nat × Nat) (t : Int), 0 ≤ t → t < gs.length → val s gs' t = val s gs t) ∧ ∀ s, val s gs' r = if hasB s v then val s gs yes else val s gs no) := by
  have hok : OkG n gs.length (⟨2, v, none, 0, []⟩ : Gt) := ⟨.inl ⟨.inr (.inr rfl), rfl⟩, .inl ⟨rfl, hv⟩, fun j hj => by cases hj⟩
  have hlx : (gs ++ [(⟨2, v, none, 0, []⟩ : Gt)]).length = gs.length + 1 := by simp
  have st1 : St n (gs ++ [(⟨2, v, none, 0, []⟩ : Gt)]) hI := st.snoc _ hok ⟨fun _ => rfl, fun i hi => by cases hi⟩ (fun y hy => hy)
  refine calls_in Tryz.func57 Tryz.ntmps57 rfl rfl (hw) ?_
  refine JC.seq (JC.region (J.ev' hΓ (J.nil (thenK.nn ?_))))
  refine JC.seq ?_
  refine JC.drawD L [(4, 0), (4, 1), (0, 2), (0, 3), (0, 5), (0, 6), (3, 4), (2, 7), (0, 8)] (by kernel_rfl) (by kernel_rfl) ?_
  refine JD.ld hΓ2 (fun w hw => hw.drop.drop.drop) hr2 ?_
  refine JD.ld hΓ2 (fun w hw => hw.drop.drop.drop) hr ?_
  refine JD.ev hΓ ?_
  refine JD.bd hΓ ?_
  refine JD.ev hΓ ?_
  refine JD.ev hΓ ?_
  refine JD.callvd eAdd rfl rfl rfl (fun w hw => add_any (⟨2, v, none, 0, []⟩ : Gt) ol (by omega) hw) ?_
  rintro _ _ ⟨rfl, aL', capL', hl', o', rfl⟩
  refine ⟨fun w hw => hw.drop.drop.drop, ?_⟩
  refine JD.callvx eChoose rfl rfl rfl (fun w hw => choose_any (gs.length : Int) yes no o' st1 (by omega) (by omega) (by omega) (by omega) hr (by rw [hlx]; exact hw)) ?_
  rintro _ _ ⟨r, gs2, aL2, capL2, hl2, hI2, rfl, o2, st2, rfl, r0, r1, g0, g1, hold, hval⟩
  refine JD.ev hΓ ?_
  refine JD.nil ?_
  repeat' first
    | (first | refine JC.seq ?_ | refine JC.region ?_ | refine JC.ret ?_ | refine thenK.nn ?_ | refine drawK.nn ?_)
    | fail
  refine ret1f rfl rfl rfl (fun w1 hw => ⟨_, _, rfl, hw, r, gs2, aL2, capL2, hl2, hI2, rfl, o2, st2, rfl, r0, r1, by omega, by omega, fun s t h0 h1 => by rw [hold s t h0 (by omega), val_left s gs _ t h0 h1], fun s => ?_⟩)
  rw [hval, val_last, val_left s gs _ yes hy.1 hy.2, val_left s gs _ no hn.1 hn.2]
  simp [valueP]
end Go.Proofs.YtdiciemlbhkilaaGreatDoor
namespace Go.Proofs.YtdiciemlbhkilaaGreatDoor
open Go Go.Cx Go.RowKit
set_option linter.unusedVariables false
set_option linter.unusedSimpArgs false
set_option maxHeartbeats 4000000
attribute [local irreducible] J JC thenK blockK loopK roundK drawK retK QW Qt pel List.set Calls
theorem class_fuel {ts : List Nd} (hl : Later ts) (s : Nat × Nat) : ∀ (f f' : Nat) (i : Int), 0 ≤ i → i < ts.length → ts.length - i ≤ f → ts.length - i ≤ f' → classN ts s f i = classN ts s f' i
  | 0, _, i, h0, h1, h2, _ => by omega
  | _ + 1, 0, i, h0, h1, _, h3 => by omega
  | f + 1, f' + 1, i, h0, h1, h2, h3 => by
    rw [classN, classN]
    by_cases hv : (ts.getD i.toNat default).v = 0
    · rw [if_pos hv, if_pos hv]
    · rw [if_neg hv, if_neg hv]
      obtain ⟨a, b, c, d⟩ := hl i h0 h1 hv
      rw [class_fuel hl s f f' _ (by omega) d (by omega) (by omega), class_fuel hl s f f' _ (by omega) b (by omega) (by omega)]
def clsAt (ts : List Nd) (s : Nat × Nat) (j : Nat) : Bool := classN ts s ts.length j
theorem clsAt_leaf (ts : List Nd) (s : Nat × Nat) (j : Nat) (hj : j < ts.length) (hv : (ts.getD j default).v = 0) : clsAt ts s j = (ts.getD j default).c := by
  unfold clsAt
  obtain ⟨f, hf⟩ : ∃ f, ts.length = f + 1 := ⟨ts.length - 1, by omega⟩
  rw [hf, classN, Int.toNat_natCast, if_pos hv]
theorem clsAt_q {ts : List Nd} (hl : Later ts) (s : Nat × Nat) (j : Nat) (hj : j < ts.length) (hv : (ts.getD j default).v ≠ 0) : clsAt ts s j = if hasB s (ts.getD j default).v then clsAt ts s (ts.getD j default).yes.toNat else clsAt ts s (ts.getD j default).no.toNat := by
  have hlj := hl j (by omega) (by omega)
  rw [Int.toNat_natCast] at hlj
  obtain ⟨a, b, c, d⟩ := hlj hv
  unfold clsAt
  obtain ⟨f, hf⟩ : ∃ f, ts.length = f + 1 := ⟨ts.length - 1, by omega⟩
  conv => lhs; rw [hf]
  rw [classN, Int.toNat_natCast, if_neg hv, Int.toNat_of_nonneg (by omega), Int.toNat_of_nonneg (by omega)]
  rw [class_fuel hl s f ts.length _ (by omega) d (by omega) (by omega), class_fuel hl s f ts.length _ (by omega) b (by omega) (by omega)]
attribute [local irreducible] clsAt
def Base (gs : List Gt) : Prop := 2 ≤ gs.length ∧ ∀ s, val s gs 0 = false ∧ val s gs 1 = true
theorem Base.grow {gs gs' : List Gt} (b : Base gs) (hl : gs.length ≤ gs'.length) (ho : ∀ (s : Nat × Nat) (t : Int), 0 ≤ t → t < gs.length → val s gs' t = val s gs t) : Base gs' := by
  obtain ⟨b1, b2⟩ := b
  exact ⟨by omega, fun s => by rw [ho s 0 (by omega) (by omega), ho s 1 (by omega) (by omega)]; exact b2 s⟩
theorem back5 (a b c d e : Heap) (L : List Heap) : (a :: b :: c :: d :: e :: L).Perm (c :: d :: e :: a :: b :: L) := (bring_perm 4 _).trans ((bring_perm 4 _).trans (bring_perm 4 _))
theorem eFold : Entr Tryz.prog 40 := Entr.of Tryz.func40 rfl rfl
theorem fold_any {w0 w : World} {R hl hI : Heap} {L : List Heap} {bc ba bh : Nat} {e ea eh : TypeId} {fa fh} {n : Int} {aL : Option Addr} {capL : Nat} {gs : List Gt} (a : Option Addr) (cap : Nat) (ts : List Nd) (hs : SlT encN 4 a ts R) (hpos : 0 < ts.length) (hf : ∀ i : Int, 0 ≤ i → i < ts.length → fmd (ts.getD i.toNat default) i n ts.length = true)
    (ol : OwT encG 3 101 aL capL gs hl) (st : St n gs hI) (hb : Base gs) (hlen : gs.length + 2 * ts.length ≤ 4096)
    (hr : Rd R L ba (.cells ⟨[.func (.func 54) ⟨[]⟩ ⟨[.pointer (some ⟨bc, 0, none⟩)]⟩]⟩ ea fa)) (hr2 : Rd R L bh (.cells ⟨[.func (.func 55) ⟨[]⟩ ⟨[.pointer (some ⟨ba, 0, none⟩)]⟩]⟩ eh fh)) (hw : H w0 R (cF bc e n aL gs.length capL :: hl :: hI :: L) w) :
    Calls Tryz.prog 40 #[.slice a ts.length cap, .func (.func 56) ⟨[]⟩ ⟨[]⟩, .func (.func 57) ⟨[]⟩ ⟨[.pointer (some ⟨bh, 0, none⟩), .pointer (some ⟨ba, 0, none⟩)]⟩] w fun e' w' => ∃ v' L', e' = .returned v' ∧ H w0 R L' w' ∧ (∃ (r : Int) (gs' : List Gt) (aL' : Option Addr) (capL' : Nat) (hl' hI' : Heap), v' = .int .i64 r ∧ OwT encG 3 101 aL' capL' gs' hl' ∧ St n gs' hI' ∧ L' = cF bc e n aL' gs'.length capL' :: hl' :: hI' :: L ∧ 0 ≤ r ∧ r < gs'.length ∧ gs.length ≤ gs'.length ∧ gs'.length ≤ gs.length + 2 * ts.length ∧ (∀ (s : Nat × Nat) (t : Int), 0 ≤ t → t < gs.length → val s gs' t = val s gs t) ∧ ∀ s, val s gs' r = clsAt ts s 0) := by
  have hlat := (all_of_fmd hf).1
  refine calls_in Tryz.func40 Tryz.ntmps40 rfl rfl (hw) ?_
  repeat' first
    | (refine J.isJ ?_; first | (first | (refine J.o 0 ?_; refine J.ev' hΓ ?_) | refine J.nil ?_ | (refine J.o 4 ?_; first | refine J.e0 hΓ ?_ | refine J.lT default hΓ ?_) | (refine J.o 3 ?_; first | refine J.iJ hΓ ?_ | refine J.ev' hΓ ?_) | (refine J.o 1 ?_; first | refine J.sb ?_) | (refine J.o 5 ?_; first | refine J.t0 hΓ ?_ | refine J.tT1 _ default hΓ (fun _ _ => ?_)) | (refine J.o 7 ?_; refine J.al hΓ (fun _ => ?_)) | (refine J.o 10 ?_; first | refine J.ev' hΓ ?_) | (refine J.o 11 ?_; first | refine J.ev' hΓ ?_)) | ((refine J.make (enc := encI) (0 : Int) hΓ rfl rfl rfl rfl rfl rfl (fun _ => rfl) (by omega) (by omega) (fun bp hp0 op0 => ?_))))
    | (first | refine JC.seq ?_ | refine JC.region ?_ | refine JC.block ?_ | refine JC.ret ?_ | refine JC.exit ?_ | refine JC.skip ?_ | refine thenK.nn ?_ | refine thenK.x ?_ | refine blockK.nn ?_ | refine blockK.hit rfl ?_ | refine JC.condT rfl ?_ | refine JC.condF rfl ?_ | (refine JC.cond rfl (fun hc => ?_) (fun hc => ?_) <;> ((try simp only [decide_eq_true_eq, decide_eq_false_iff_not, beq_iff_eq, beq_eq_false_iff_ne, bne_iff_ne, bne_eq_false_iff_eq, Bool.not_eq_true', Bool.not_eq_false', Bool.not_eq_true, Bool.not_eq_false] at hc) <;> first | (first | (exact absurd rfl hc) | (exfalso; omega) | (exact absurd (hc.symm.trans (by assumption : _ = false)) (by decide)) | (exact absurd (hc.symm.trans (by assumption : _ = true)) (by decide))) | skip)) | refine drawK.nn ?_ | refine loopK.x ?_)
    | fail
  all_goals first | (exfalso; omega) | skip
  refine JC.loop (fun i => i == 8 || i == 9 || Nat.ble 16 i) (fun m g L' => ∃ (vs : List Int) (gs1 : List Gt) (aL1 : Option Addr) (capL1 : Nat) (hl1 hI1 hv : Heap), g 8 = .int .i64 ((m : Int) - 1) ∧ vs.length = ts.length ∧ OwT encI 1 3 (some ⟨bp, 0, none⟩) ts.length vs hv ∧ m ≤ ts.length ∧ OwT encG 3 101 aL1 capL1 gs1 hl1 ∧ St n gs1 hI1 ∧ Base gs1 ∧ gs.length ≤ gs1.length ∧ gs1.length + 2 * m ≤ gs.length + 2 * ts.length ∧
      (∀ (s : Nat × Nat) (t : Int), 0 ≤ t → t < gs.length → val s gs1 t = val s gs t) ∧ (∀ j, m ≤ j → j < ts.length → 0 ≤ vs.getD j default ∧ vs.getD j default < gs1.length ∧ ∀ s, val s gs1 (vs.getD j default) = clsAt ts s j) ∧ L' = hv :: cF bc e n aL1 gs1.length capL1 :: hl1 :: hI1 :: L) ts.length
    ⟨_, gs, aL, capL, hl, hI, _, rfl, by simp, op0, Nat.le_refl _, ol, st, hb, Nat.le_refl _, by omega, fun _ _ _ _ => rfl, fun j h1 h2 => by omega, rfl⟩ ?_
  rintro m g L' ⟨vs, gs1, aL1, capL1, hl1, hI1, hv, e8, hvl, ov, hm, ol1, st1, hb1, hg0, hg1, hold, hval, rfl⟩
  clear op0
  cases m with
  | zero =>
    refine JC.pin 8 e8 ?_
    clear e8
    obtain ⟨v0, v1, v2⟩ := hval 0 (by omega) hpos
    repeat' first
      | (refine J.isJ ?_; (first | (first | (refine J.o 0 ?_; refine J.ev' hΓ ?_) | refine J.nil ?_ | (refine J.o 4 ?_; first | refine J.e0 hΓ ?_ | refine J.lT default hΓ ?_) | (refine J.o 3 ?_; first | refine J.iJ hΓ ?_ | refine J.ev' hΓ ?_) | (refine J.o 1 ?_; first | refine J.sb ?_) | (refine J.o 5 ?_; first | refine J.t0 hΓ ?_ | refine J.tT1 _ default hΓ (fun _ _ => ?_)) | (refine J.o 7 ?_; refine J.al hΓ (fun _ => ?_)) | (refine J.o 10 ?_; first | refine J.ev' hΓ ?_) | (refine J.o 11 ?_; first | refine J.ev' hΓ ?_))))
      | (first | refine JC.seq ?_ | refine JC.region ?_ | refine JC.block ?_ | refine JC.ret ?_ | refine JC.exit ?_ | refine JC.skip ?_ | refine thenK.nn ?_ | refine thenK.x ?_ | refine blockK.nn ?_ | refine blockK.hit rfl ?_ | refine JC.condT rfl ?_ | refine JC.condF rfl ?_ | (refine JC.cond rfl (fun hc => ?_) (fun hc => ?_) <;> ((try simp only [decide_eq_true_eq, decide_eq_false_iff_not, beq_iff_eq, beq_eq_false_iff_ne, bne_iff_ne, bne_eq_false_iff_eq, Bool.not_eq_true', Bool.not_eq_false', Bool.not_eq_true, Bool.not_eq_false] at hc) <;> first | (first | (exact absurd rfl hc) | (exfalso; omega) | (exact absurd (hc.symm.trans (by assumption : _ = false)) (by decide)) | (exact absurd (hc.symm.trans (by assumption : _ = true)) (by decide))) | skip)) | refine drawK.nn ?_ | refine loopK.x ?_)
      | fail
    all_goals first | (exfalso; omega) | skip
    all_goals exact ret1f rfl rfl rfl (fun w1 hw => ⟨_, _, rfl, hw.drop, _, gs1, aL1, capL1, hl1, hI1, rfl, ol1, st1, rfl, v0, v1, hg0, by omega, hold, v2⟩)
  | succ k =>
    have e8k : g 8 = .int .i64 (k : Int) := by rw [e8]; congr 1; omega
    refine JC.pin 8 e8k ?_
    clear e8 e8k
    have hk : k < ts.length := by omega
    have hfk := hf k (by omega) (by omega)
    rw [Int.toNat_natCast] at hfk
    by_cases hv0 : (ts.getD k default).v = 0
    · have cl := fun s => clsAt_leaf ts s k hk hv0
      repeat' first
        | (refine J.isJ ?_; first | (first | (refine J.o 0 ?_; refine J.ev' hΓ ?_) | refine J.nil ?_ | (refine J.o 4 ?_; first | refine J.e0 hΓ ?_ | refine J.lT default hΓ ?_) | (refine J.o 3 ?_; first | refine J.iJ hΓ ?_ | refine J.ev' hΓ ?_) | (refine J.o 1 ?_; first | refine J.sb ?_) | (refine J.o 5 ?_; first | refine J.t0 hΓ ?_ | refine J.tT1 _ default hΓ (fun _ _ => ?_)) | (refine J.o 7 ?_; refine J.al hΓ (fun _ => ?_)) | (refine J.o 10 ?_; first | refine J.ev' hΓ ?_) | (refine J.o 11 ?_; first | refine J.ev' hΓ ?_)) | ((refine J.callv0 eLeaf rfl rfl rfl (fun w hw => leaf_any _ w) ?_)))
        | (first | refine JC.seq ?_ | refine JC.region ?_ | refine JC.block ?_ | refine JC.ret ?_ | refine JC.exit ?_ | refine JC.skip ?_ | refine thenK.nn ?_ | refine thenK.x ?_ | refine blockK.nn ?_ | refine blockK.hit rfl ?_ | refine JC.condT rfl ?_ | refine JC.condF rfl ?_ | (refine JC.cond rfl (fun hc => ?_) (fun hc => ?_) <;> ((try simp only [decide_eq_true_eq, decide_eq_false_iff_not, beq_iff_eq, beq_eq_false_iff_ne, bne_iff_ne, bne_eq_false_iff_eq, Bool.not_eq_true', Bool.not_eq_false', Bool.not_eq_true, Bool.not_eq_false] at hc) <;> first | (first | (exact absurd rfl hc) | (exfalso; omega) | (exact absurd (hc.symm.trans (by assumption : _ = false)) (by decide)) | (exact absurd (hc.symm.trans (by assumption : _ = true)) (by decide))) | skip)) | refine drawK.nn ?_ | refine loopK.x ?_)
        | fail
      all_goals first | (exfalso; omega) | skip
      all_goals refine loopK.np k [_] (_ :: cF bc e n aL1 gs1.length capL1 :: hl1 :: hI1 :: L) (by omega) (by repeat (first | refine Ag.upd rfl ?_ | exact Ag.hv)) (List.Perm.refl _) ⟨vs.set k (if (ts.getD k default).c then 1 else 0), gs1, aL1, capL1, hl1, hI1, _, rfl, by rw [List.length_set]; exact hvl, by assumption, by omega, ol1, st1, hb1, hg0, by omega, hold, ?_, rfl⟩
      intro j h1 h2
      rw [getD_set]
      obtain ⟨b1, b2⟩ := hb1
      by_cases hjk : k = j
      · subst hjk
        rw [if_pos ⟨rfl, by omega⟩]
        refine ⟨by split <;> omega, by split <;> omega, fun s => ?_⟩
        rw [cl s]
        cases (ts.getD k default).c
        · exact (b2 s).1
        · exact (b2 s).2
      · rw [if_neg (fun h => hjk h.1)]
        exact hval j (by omega) h2
    · have cq := fun s => clsAt_q hlat s k hk hv0
      have hlk := hlat k (by omega) (by omega)
      rw [Int.toNat_natCast] at hlk
      obtain ⟨l1, l2, l3, l4⟩ := hlk hv0
      obtain ⟨_, p1, p2, _, _, _, _⟩ := fmd_q hfk hv0
      obtain ⟨n0, n1, n2⟩ := hval (ts.getD k default).no.toNat (by omega) (by omega)
      obtain ⟨y0, y1, y2⟩ := hval (ts.getD k default).yes.toNat (by omega) (by omega)
      have cQ := fun (x : Heap) w hw => question_any (w0 := w0) (w := w) (R := R) (e := e) (L := x :: hv :: L) (ts.getD k default).v (vs.getD (ts.getD k default).no.toNat default) (vs.getD (ts.getD k default).yes.toNat default) ol1 st1 (by omega) (by omega) (by omega) (by omega) hr.tl.tl hr2.tl.tl hw
      repeat' first
        | (refine J.isJ ?_; first | (first | (refine J.o 0 ?_; refine J.ev' hΓ ?_) | refine J.nil ?_ | (refine J.o 4 ?_; first | refine J.e0 hΓ ?_ | refine J.lT default hΓ ?_) | (refine J.o 3 ?_; first | refine J.iJ hΓ ?_ | refine J.ev' hΓ ?_) | (refine J.o 1 ?_; first | refine J.sb ?_) | (refine J.o 5 ?_; first | refine J.t0 hΓ ?_ | refine J.tT1 _ default hΓ (fun _ _ => ?_)) | (refine J.o 7 ?_; refine J.al hΓ (fun _ => ?_)) | (refine J.o 10 ?_; first | refine J.ev' hΓ ?_) | (refine J.o 11 ?_; first | refine J.ev' hΓ ?_)) | (first | (refine J.callvx eQuestion rfl rfl rfl (fun w hw => cQ _ w (hw.perm (back5 _ _ _ _ _ _))) ?_; rintro _ _ ⟨r, gs2, aL2, capL2, hl2, hI2, rfl, o2, st2, rfl, r0, r1, g0, g1, hold2, hval2⟩; refine J.perm ((bring_perm 4 _).trans (bring_perm 4 _)) ?_)))
        | (first | refine JC.seq ?_ | refine JC.region ?_ | refine JC.block ?_ | refine JC.ret ?_ | refine JC.exit ?_ | refine JC.skip ?_ | refine thenK.nn ?_ | refine thenK.x ?_ | refine blockK.nn ?_ | refine blockK.hit rfl ?_ | refine JC.condT rfl ?_ | refine JC.condF rfl ?_ | (refine JC.cond rfl (fun hc => ?_) (fun hc => ?_) <;> ((try simp only [decide_eq_true_eq, decide_eq_false_iff_not, beq_iff_eq, beq_eq_false_iff_ne, bne_iff_ne, bne_eq_false_iff_eq, Bool.not_eq_true', Bool.not_eq_false', Bool.not_eq_true, Bool.not_eq_false] at hc) <;> first | (first | (exact absurd rfl hc) | (exfalso; omega) | (exact absurd (hc.symm.trans (by assumption : _ = false)) (by decide)) | (exact absurd (hc.symm.trans (by assumption : _ = true)) (by decide))) | skip)) | refine drawK.nn ?_ | refine loopK.x ?_)
        | ((refine JC.drawW [] [15] (by kernel_rfl) (by kernel_rfl) ?_))
        | fail
      all_goals refine loopK.np k [_] (_ :: cF bc e n aL2 gs2.length capL2 :: hl2 :: hI2 :: L) (by omega) (by repeat (first | refine Ag.upd rfl ?_ | exact Ag.hv)) (List.Perm.refl _) ⟨vs.set k r, gs2, aL2, capL2, hl2, hI2, _, rfl, by rw [List.length_set]; exact hvl, by assumption, by omega, o2, st2, hb1.grow g0 hold2, by omega, by omega, fun s t h0 h1 => by rw [hold2 s t h0 (by omega)]; exact hold s t h0 h1, ?_, rfl⟩
      intro j h1 h2
      rw [getD_set]
      by_cases hjk : k = j
      · subst hjk
        rw [if_pos ⟨rfl, by omega⟩]
        refine ⟨r0, r1, fun s => ?_⟩
        rw [cq s, hval2, y2, n2]
      · rw [if_neg (fun h => hjk h.1)]
        obtain ⟨q0, q1, q2⟩ := hval j (by omega) h2
        exact ⟨q0, by omega, fun s => by rw [hold2 s _ q0 q1]; exact q2 s⟩
end Go.Proofs.YtdiciemlbhkilaaGreatDoor
namespace Go.Proofs.YtdiciemlbhkilaaGreatDoor
open Go Go.Cx Go.RowKit
set_option linter.unusedVariables false
set_option linter.unusedSimpArgs false
set_option maxHeartbeats 4000000
attribute [local irreducible] J JC thenK blockK loopK roundK drawK retK QW Qt pel List.set Calls
def wN (j : Nat) : Nd := if j % 2 = 0 then ⟨(j / 2 : Nat) + 1, (j : Int) + 2, (j : Int) + 1, false⟩ else ⟨0, 0, 0, decide (((j + 1) / 2) % 2 = 1)⟩
def wP (k : Nat) : List Nd := (List.range (2 * k)).map wN
def wideT (m : Nat) : List Nd := wP m ++ [⟨0, 0, 0, false⟩]
theorem wP_succ (k : Nat) : wP (k + 1) = wP k ++ [⟨(k : Int) + 1, 2 * ((k : Int) + 1), 2 * ((k : Int) + 1) - 1, false⟩, ⟨0, 0, 0, decide ((k + 1) % 2 = 1)⟩] := by
  unfold wP
  rw [show 2 * (k + 1) = 2 * k + 1 + 1 by omega, List.range_succ, List.range_succ, List.map_append, List.map_append, List.append_assoc]
  congr 1
  show [wN (2 * k), wN (2 * k + 1)] = _
  unfold wN
  rw [if_pos (by omega), if_neg (by omega), show 2 * k / 2 = k by omega, show (2 * k + 1 + 1) / 2 = k + 1 by omega]
  have e1 : ((2 * k : Nat) : Int) + 2 = 2 * ((k : Int) + 1) := by omega
  have e2 : ((2 * k : Nat) : Int) + 1 = 2 * ((k : Int) + 1) - 1 := by omega
  rw [e1, e2]
theorem wP_zero : wP 0 = [] := rfl
theorem wP_len (k : Nat) : (wP k).length = 2 * k := by unfold wP; rw [List.length_map, List.length_range]
theorem wide_len (m : Nat) : (wideT m).length = 2 * m + 1 := by unfold wideT; rw [List.length_append, wP_len]; rfl
theorem wide_at (m j : Nat) (h : j < 2 * m) : (wideT m).getD j default = wN j := by
  unfold wideT wP
  rw [List.getD_eq_getElem?_getD, List.getElem?_append_left (by rw [List.length_map, List.length_range]; exact h), List.getElem?_map, List.getElem?_range h]
  rfl
theorem wide_last (m : Nat) : (wideT m).getD (2 * m) default = ⟨0, 0, 0, false⟩ := by
  unfold wideT
  rw [List.getD_eq_getElem?_getD, List.getElem?_append_right (by rw [wP_len]; exact Nat.le_refl _), wP_len, Nat.sub_self]
  rfl
theorem wN_q (k : Nat) : wN (2 * k) = ⟨(k : Int) + 1, ((2 * k : Nat) : Int) + 2, ((2 * k : Nat) : Int) + 1, false⟩ := by
  unfold wN
  rw [if_pos (by omega), show 2 * k / 2 = k by omega]
theorem wN_l (k : Nat) : wN (2 * k + 1) = ⟨0, 0, 0, decide ((k + 1) % 2 = 1)⟩ := by
  unfold wN
  rw [if_neg (by omega), show (2 * k + 1 + 1) / 2 = k + 1 by omega]
theorem cn_wP (j : Nat) : ∀ k, cn (wP k) j = if 1 ≤ j ∧ j ≤ 2 * k then 1 else 0
  | 0 => by
    rw [if_neg (by omega)]; rfl
  | k + 1 => by
    rw [wP_succ, cn_app, cn_wP j k]
    have e : cn [⟨(k : Int) + 1, 2 * ((k : Int) + 1), 2 * ((k : Int) + 1) - 1, false⟩, ⟨0, 0, 0, decide ((k + 1) % 2 = 1)⟩] j = (if (2 * ((k : Int) + 1)) = (j : Int) then 1 else 0) + (if 2 * ((k : Int) + 1) - 1 = (j : Int) then 1 else 0) := by
      show cn1 _ j + (cn1 _ j + 0) = _
      unfold cn1
      rw [if_neg (by show ¬ ((k : Int) + 1 = 0); omega), if_pos rfl]
      exact Int.add_zero _
    rw [e]
    split <;> split <;> split <;> split <;> omega
theorem wide_fm (m : Nat) : Fm (wideT m) m := fun j hj => by
  rw [wide_len] at hj ⊢
  by_cases h : j < 2 * m
  · rw [wide_at m j h]
    rcases Nat.mod_two_eq_zero_or_one j with h2 | h2
    · obtain ⟨k, rfl⟩ : ∃ k, j = 2 * k := ⟨j / 2, by omega⟩
      rw [wN_q]
      unfold fmd formedB
      rw [if_neg (show ¬ ((k : Int) + 1 = 0) by omega)]
      simp
      omega
    · obtain ⟨k, rfl⟩ : ∃ k, j = 2 * k + 1 := ⟨j / 2, by omega⟩
      rw [wN_l, fmd_0 rfl]; rfl
  · have e : j = 2 * m := by omega
    subst e
    rw [wide_last, fmd_0 rfl]; rfl
theorem wide_var (m j : Nat) (hj : j < (wideT m).length) (h : ((wideT m).getD j default).v ≠ 0) : ∃ k, j = 2 * k ∧ k < m ∧ ((wideT m).getD j default).v = (k : Int) + 1 := by
  rw [wide_len] at hj
  by_cases h2 : j < 2 * m
  · rw [wide_at m j h2] at h ⊢
    rcases Nat.mod_two_eq_zero_or_one j with h3 | h3
    · obtain ⟨k, rfl⟩ : ∃ k, j = 2 * k := ⟨j / 2, by omega⟩
      rw [wN_q] at h ⊢
      exact ⟨k, rfl, by omega, rfl⟩
    · obtain ⟨k, rfl⟩ : ∃ k, j = 2 * k + 1 := ⟨j / 2, by omega⟩
      rw [wN_l] at h
      exact absurd rfl h
  · have e : j = 2 * m := by omega
    subst e
    rw [wide_last] at h
    exact absurd rfl h
theorem wide_valid (m : Nat) (hm : m ≤ 128) : Valid (wideT m) m := by
  refine ⟨by omega, by rw [wide_len]; omega, by rw [wide_len]; omega, wide_fm m, fun j h1 h2 => ?_, fun p hp hv => ?_⟩
  · rw [wide_len] at h2
    unfold wideT
    rw [cn_app, cn_wP, if_pos (by omega)]
    show (1 : Int) + (cn1 _ j + 0) = 1
    unfold cn1
    rw [if_pos rfl]; rfl
  · rintro ⟨d, hd, e⟩
    have hl := hd.lt (wide_fm m)
    obtain ⟨k, rfl, _, ek⟩ := wide_var m p hp hv
    have hv2 : ((wideT m).getD d default).v ≠ 0 := by rw [e]; exact hv
    obtain ⟨k2, rfl, _, ek2⟩ := wide_var m d hl.2 hv2
    rw [ek, ek2] at e
    omega
theorem wide_step (m : Nat) (hm : m ≤ 128) (s : Nat × Nat) (k : Nat) (hk : k < m) : clsAt (wideT m) s (2 * k) = if hasB s ((k : Int) + 1) then decide ((k + 1) % 2 = 1) else clsAt (wideT m) s (2 * (k + 1)) := by
  have hV := wide_valid m hm
  have e1 : (wideT m).getD (2 * k) default = ⟨(k : Int) + 1, ((2 * k : Nat) : Int) + 2, ((2 * k : Nat) : Int) + 1, false⟩ := by rw [wide_at m _ (by omega), wN_q]
  have e2 : (wideT m).getD (2 * k + 1) default = ⟨0, 0, 0, decide ((k + 1) % 2 = 1)⟩ := by rw [wide_at m _ (by omega), wN_l]
  rw [clsAt_q hV.later s (2 * k) (by rw [wide_len]; omega) (by rw [e1]; show (k : Int) + 1 ≠ 0; omega), e1]
  show (if hasB s ((k : Int) + 1) = true then clsAt (wideT m) s (((2 * k : Nat) : Int) + 1).toNat else clsAt (wideT m) s (((2 * k : Nat) : Int) + 2).toNat) = _
  rw [show (((2 * k : Nat) : Int) + 1).toNat = 2 * k + 1 by omega, show (((2 * k : Nat) : Int) + 2).toNat = 2 * (k + 1) by omega]
  rw [clsAt_leaf (wideT m) s (2 * k + 1) (by rw [wide_len]; omega) (by rw [e2]), e2]
theorem wide_end (m : Nat) (s : Nat × Nat) : clsAt (wideT m) s (2 * m) = false := by
  rw [clsAt_leaf (wideT m) s (2 * m) (by rw [wide_len]; omega) (by rw [wide_last]), wide_last]
theorem wide_from (m : Nat) (hm : m ≤ 128) (s : Nat × Nat) (hs : ∀ u, hasB s u = true → 1 ≤ u ∧ u ≤ m) : ∀ (d k : Nat), k + d = m → (∀ u, hasB s u = true → (k : Int) < u) → clsAt (wideT m) s (2 * k) = decide (fstS s % 2 = 1)
  | 0, k, hk, h => by
    obtain rfl : k = m := by omega
    have e : memS s = [] := by
      cases h2 : memS s with
      | nil => rfl
      | cons v l =>
        have h3 := (mem_memS s v).1 (by rw [h2]; exact List.mem_cons_self)
        have := h v h3; have := hs v h3; omega
    rw [wide_end]
    unfold fstS
    rw [e]; rfl
  | d + 1, k, hk, h => by
    rw [wide_step m hm s k (by omega)]
    cases hb : hasB s ((k : Int) + 1) with
    | true =>
      rw [if_pos rfl]
      have e : fstS s = (k : Int) + 1 := by
        have h1 := (mem_memS s _).2 hb
        have h2 := memS_asc s
        unfold fstS
        cases h3 : memS s with
        | nil => rw [h3] at h1; exact absurd h1 List.not_mem_nil
        | cons v l =>
          show v = _
          rw [h3] at h1 h2
          have h4 := h v ((mem_memS s v).1 (by rw [h3]; exact List.mem_cons_self))
          rcases List.mem_cons.1 h1 with h5 | h5
          · exact h5.symm
          · have := (List.pairwise_cons.1 h2).1 _ h5; omega
      rw [e]
      congr 1
      exact propext ⟨fun h => by omega, fun h => by omega⟩
    | false =>
      rw [if_neg Bool.false_ne_true]
      refine wide_from m hm s hs d (k + 1) (by omega) fun u hu => ?_
      have h1 := h u hu
      by_cases e : u = (k : Int) + 1
      · rw [e, hb] at hu; cases hu
      · omega
theorem wide_class (m : Nat) (hm : m ≤ 128) (s : Nat × Nat) (hs : ∀ u, hasB s u = true → 1 ≤ u ∧ u ≤ m) : clsAt (wideT m) s 0 = decide (fstS s % 2 = 1) := wide_from m hm s hs m 0 (by omega) fun u hu => by have := hs u hu; omega
end Go.Proofs.YtdiciemlbhkilaaGreatDoor
namespace Go.Proofs.YtdiciemlbhkilaaGreatDoor
open Go Go.Cx Go.RowKit
set_option linter.unusedVariables false
set_option linter.unusedSimpArgs false
set_option maxHeartbeats 4000000
attribute [local irreducible] J JC thenK blockK loopK roundK drawK retK QW Qt pel List.set Calls
def firstE (n : Int) : List TV → Int
  | [] => if n < 0 ∨ 128 < n then 6 else 0
  | t :: l => if checkT t.ts n = 0 then firstE n l else checkT t.ts n
theorem firstE_drop (n : Int) (l : List TV) (k : Nat) (hk : k < l.length) : firstE n (l.drop k) = if checkT (l.getD k default).ts n = 0 then firstE n (l.drop (k + 1)) else checkT (l.getD k default).ts n := by
  rw [drop_one l k hk, firstE]
theorem firstE_nil (n : Int) : firstE n [] = if n < 0 ∨ 128 < n then 6 else 0 := rfl
attribute [local irreducible] firstE checkT
theorem eForest : Entr Tryz.prog 20 := Entr.of Tryz.func20 rfl rfl
end Go.Proofs.YtdiciemlbhkilaaGreatDoor
namespace Go.Proofs.YtdiciemlbhkilaaGreatDoor
open Go Go.Cx Go.RowKit
set_option linter.unusedVariables false
set_option linter.unusedSimpArgs false
set_option maxHeartbeats 4000000
attribute [local irreducible] J JC thenK blockK loopK roundK drawK retK QW Qt pel List.set Calls
theorem firstE_zero {n : Int} : ∀ {l : List TV}, firstE n l = 0 → (0 ≤ n ∧ n ≤ 128) ∧ ∀ t, t ∈ l → checkT t.ts n = 0
  | [], h => by
    rw [firstE_nil] at h
    by_cases hn : n < 0 ∨ 128 < n
    · rw [if_pos hn] at h; cases h
    · exact ⟨by omega, fun t ht => by cases ht⟩
  | t :: l, h => by
    have h' := firstE_drop n (t :: l) 0 (by simp)
    rw [List.drop_zero, h] at h'
    by_cases hc : checkT ((t :: l).getD 0 default).ts n = 0
    · rw [if_pos hc] at h'
      obtain ⟨h1, h2⟩ := firstE_zero (l := l) h'.symm
      refine ⟨h1, fun x hx => ?_⟩
      rcases List.mem_cons.1 hx with rfl | hx
      · exact hc
      · exact h2 x hx
    · rw [if_neg hc] at h'
      exact absurd h'.symm hc
def vt (s : Nat × Nat) (l : List TV) : Nat := votesOf (fun ts s => clsAt ts s 0) s l
theorem vt_take (s : Nat × Nat) (l : List TV) (k : Nat) (hk : k < l.length) : vt s (l.take (k + 1)) = vt s (l.take k) + if clsAt (l.getD k default).ts s 0 then 1 else 0 := by
  unfold vt; rw [← take_one l k hk, votes_app]
theorem vt_le (s : Nat × Nat) (l : List TV) (k : Nat) : vt s (l.take k) ≤ k := by
  have := votes_le (fun ts s => clsAt ts s 0) s (l.take k)
  rw [List.length_take] at this
  unfold vt; omega
attribute [local irreducible] vt
theorem step_vt (c : Bool) (q v : Nat) : (if c then decide (q ≤ v) else decide (q + 1 ≤ v)) = decide (q + 1 ≤ v + if c then 1 else 0) := by
  cases c <;> simp
theorem _root_.Go.Cx.H.mg2 {w0 w : World} {R a b : Heap} {L : List Heap} (h : H w0 R (a :: b :: L) w) : H w0 R ((a ++ b) :: L) w := by
  have e : ((a ++ b) :: L).flatten = (a :: b :: L).flatten := by simp
  exact ⟨h.below, h.old, by rw [e]; exact h.own, by rw [e]; exact h.new, by rw [e]; exact h.nodup⟩
theorem fin_cir {n : Int} {gs : List Gt} {hI hl3 : Heap} {aL : Option Addr} {capL x : Nat} {root : Int} (n0 : 0 ≤ n) (n1 : n ≤ 128) (st : St n gs hI) (hlen : gs.length + 1 ≤ 4096) (hr : 0 ≤ root ∧ root < gs.length) (ol : OwT encG 3 101 aL capL (gs ++ [(⟨4, 0, some ⟨x, 0, none⟩, 1, [root]⟩ : Gt)]) hl3) :
    Cir n aL (gs ++ [(⟨4, 0, some ⟨x, 0, none⟩, 1, [root]⟩ : Gt)]) (hl3 ++ ([(x, .cells ⟨[.int .i64 root]⟩ 3 (0, 0))] ++ hI)) := by
  have hok : OkG n gs.length (⟨4, 0, some ⟨x, 0, none⟩, 1, [root]⟩ : Gt) := ⟨.inr (.inr ⟨rfl, rfl⟩), .inr ⟨(by decide : (4 : Int) ≠ 2), rfl⟩, fun j hj => by
    match j, hj with
    | 0, _ => exact hr⟩
  have hsl : SlT encI 1 (some ⟨x, 0, none⟩) [root] [(x, .cells ⟨[.int .i64 root]⟩ 3 (0, 0))] := OwT.sl (e := 3) (cap := 1) ⟨fun _ => rfl, .inr ⟨x, _, rfl, rfl, rfl, Nat.le_refl _, rfl⟩⟩
  have st2 := st.snoc _ hok (hI' := hl3 ++ ([(x, .cells ⟨[.int .i64 root]⟩ 3 (0, 0))] ++ hI)) (slm hsl fun y hy => List.mem_append_right _ (List.mem_append_left _ hy)) (fun y hy => List.mem_append_right _ (List.mem_append_right _ hy))
  have hlx : (gs ++ [(⟨4, 0, some ⟨x, 0, none⟩, 1, [root]⟩ : Gt)]).length = gs.length + 1 := by simp
  exact ⟨n0, n1, by omega, by omega, slm ol.sl fun y hy => List.mem_append_left _ hy, st2.ins, st2.ok⟩
theorem fin_val (s : Nat × Nat) (gs : List Gt) (x : Nat) (root : Int) (b : Bool) (h : val s gs root = b) : (vals s (gs ++ [(⟨4, 0, some ⟨x, 0, none⟩, 1, [root]⟩ : Gt)])).getD ((gs ++ [(⟨4, 0, some ⟨x, 0, none⟩, 1, [root]⟩ : Gt)]).length - 1) default = b := by
  have h1 := val_last s gs (⟨4, 0, some ⟨x, 0, none⟩, 1, [root]⟩ : Gt)
  unfold val at h1
  rw [Int.toNat_natCast] at h1
  have hlx : (gs ++ [(⟨4, 0, some ⟨x, 0, none⟩, 1, [root]⟩ : Gt)]).length - 1 = gs.length := by simp
  rw [hlx, h1, ← h]
  simp [valueP, val]
theorem _root_.Go.Cx.H.fin {w0 w : World} {R a b c d e f : Heap} {L : List Heap} (h : H w0 R (a :: b :: c :: d :: e :: f :: L) w) : H w0 R ((c ++ (d ++ f)) :: a :: b :: e :: L) w :=
  ((((h.perm (bring_perm 5 _)).perm (bring_perm 4 _)).mg2).perm (bring_perm 3 _)).mg2
def g01 : List Gt := [⟨0, 0, none, 0, []⟩, ⟨1, 0, none, 0, []⟩]
theorem st01 (n : Int) : St n g01 [] := by
  refine ⟨fun i hi => ?_, fun i hi => ?_⟩
  · match i, hi with
    | 0, _ => exact ⟨.inl ⟨.inl rfl, rfl⟩, .inr ⟨(by decide : (0 : Int) ≠ 2), rfl⟩, fun j hj => by cases hj⟩
    | 1, _ => exact ⟨.inl ⟨.inr (.inl rfl), rfl⟩, .inr ⟨(by decide : (1 : Int) ≠ 2), rfl⟩, fun j hj => by cases hj⟩
  · match i, hi with
    | 0, _ => exact ⟨fun _ => rfl, fun i hi => by cases hi⟩
    | 1, _ => exact ⟨fun _ => rfl, fun i hi => by cases hi⟩
theorem base01 : Base g01 := ⟨Nat.le_refl _, fun s => by
  have e : g01 = [⟨0, 0, none, 0, []⟩] ++ [⟨1, 0, none, 0, []⟩] := rfl
  have e0 : ([⟨0, 0, none, 0, []⟩] : List Gt) = [] ++ [⟨0, 0, none, 0, []⟩] := rfl
  constructor
  · rw [e, val_left s _ _ 0 (by decide) (by decide), e0]
    have := val_last s [] ⟨0, 0, none, 0, []⟩
    rw [show (([] : List Gt).length : Int) = 0 from rfl] at this
    rw [this]; rfl
  · rw [e]
    have := val_last s [⟨0, 0, none, 0, []⟩] ⟨1, 0, none, 0, []⟩
    rw [show (([⟨0, 0, none, 0, []⟩] : List Gt).length : Int) = 1 from rfl] at this
    rw [this]; rfl⟩
end Go.Proofs.YtdiciemlbhkilaaGreatDoor
namespace Go.Proofs.YtdiciemlbhkilaaGreatDoor
open Go Go.Cx Go.RowKit
set_option linter.unusedVariables false
set_option linter.unusedSimpArgs false
set_option maxHeartbeats 4000000
attribute [local irreducible] J JC thenK blockK loopK roundK drawK retK QW Qt pel List.set Calls
attribute [local irreducible] vt
set_option maxRecDepth 20000 in
theorem forest_one (a : Option Addr) (cap : Nat) (l : List TV) (n : Int) (h : Heap) (hs : SlT encTV 1 a l h) (ht : ∀ t, t ∈ l → SlT encN 4 t.a t.ts h) (hl : l.length ≤ 1) (hsz : ∀ t, t ∈ l → t.ts.length ≤ 300) (he : firstE n l = 0) (w : World) (hw : Holds h w) :
    Calls Tryz.prog 20 #[.slice a l.length cap, .int .i64 n] w (Gives (fun v hc => ∃ (ac : Option Addr) (gs : List Gt) (cc : Nat), v = .tuple #[cv n ac gs.length cc, .int .i64 0] ∧ Cir n ac gs hc ∧ ∀ s, (vals s gs).getD (gs.length - 1) default = decide (l.length < 2 * vt s l)) w) := by
  obtain ⟨⟨n0, n1⟩, hch⟩ := firstE_zero he
  refine calls_of_JC (R := h) Tryz.func20 Tryz.ntmps20 rfl rfl (hw) ?_
  repeat' first
    | (refine J.isJ ?_; (first | (first | (refine J.o 0 ?_; refine J.ev' hΓ ?_) | refine J.nil ?_ | (refine J.o 4 ?_; first | refine J.lT default hΓ ?_ | refine J.e1 hΓ ?_ | refine J.lR hΓ ?_) | (refine J.o 3 ?_; first | refine J.iJ hΓ ?_ | refine J.ev' hΓ ?_) | (refine J.o 1 ?_; first | refine J.ad ?_ | refine J.sb ?_ | refine J.qu ?_) | (refine J.o 5 ?_; first | refine J.t0 hΓ ?_ | refine J.tT _ default hΓ (fun _ _ => ?_)) | (refine J.o 7 ?_; refine J.al hΓ (fun _ => ?_)) | (refine J.o 8 ?_; refine J.bd hΓ ?_) | (refine J.o 9 ?_; refine J.bl hΓ (fun _ => ?_)) | (refine J.o 10 ?_; first | refine J.ev' hΓ ?_) | (refine J.o 11 ?_; first | refine J.ev' hΓ ?_) | (refine J.o 14 ?_; refine J.mf hΓ ?_)) | ((fail_if_success refine J.wt ?_); refine J.gc rfl rfl (fun hc => ?_) (fun hc => ?_) <;> ((try simp only [decide_eq_true_eq, decide_eq_false_iff_not, beq_iff_eq, beq_eq_false_iff_ne, bne_iff_ne, bne_eq_false_iff_eq, Bool.not_eq_true', Bool.not_eq_false', Bool.not_eq_true, Bool.not_eq_false] at hc) <;> first | (first | (exact absurd rfl hc) | (exfalso; omega) | (exact absurd (hc.symm.trans (by assumption : _ = false)) (by decide)) | (exact absurd (hc.symm.trans (by assumption : _ = true)) (by decide))) | skip))))
    | (first | refine JC.seq ?_ | refine JC.region ?_ | refine JC.block ?_ | refine JC.ret ?_ | refine JC.exit ?_ | refine JC.skip ?_ | refine thenK.nn ?_ | refine thenK.x ?_ | refine blockK.nn ?_ | refine blockK.hit rfl ?_ | refine JC.condF rfl ?_ | (refine JC.cond rfl (fun hc => ?_) (fun hc => ?_) <;> ((try simp only [decide_eq_true_eq, decide_eq_false_iff_not, beq_iff_eq, beq_eq_false_iff_ne, bne_iff_ne, bne_eq_false_iff_eq, Bool.not_eq_true', Bool.not_eq_false', Bool.not_eq_true, Bool.not_eq_false] at hc) <;> first | (first | (exact absurd rfl hc) | (exfalso; omega) | (exact absurd (hc.symm.trans (by assumption : _ = false)) (by decide)) | (exact absurd (hc.symm.trans (by assumption : _ = true)) (by decide))) | skip)) | refine drawK.nn ?_ | refine loopK.x ?_)
    | fail
  refine JC.loop (fun i => i == 7 || i == 8 || Nat.ble 21 i) (fun m g L' => ∃ (k : Nat), g 21 = .int .i64 (k : Int) ∧ k + m = l.length ∧ L' = _) l.length ⟨0, rfl, by omega, rfl⟩ ?_
  rintro m g L' ⟨k, e21, hkm, rfl⟩
  refine JC.pin 21 e21 ?_
  clear e21
  rcases Nat.lt_or_ge k l.length with hk | hk
  case inl =>
    have hmem : l.getD k default ∈ l := by
      rw [List.getD_eq_getElem?_getD, List.getElem?_eq_getElem hk]
      exact List.getElem_mem hk
    have hst := ht _ hmem
    have cC := fun w hw => check_any (l.getD k default).a (l.getD k default).cap (l.getD k default).ts n h hst w hw
    rw [hch _ hmem] at cC
    repeat' first
      | (refine J.isJ ?_; first | (first | (refine J.o 0 ?_; refine J.ev' hΓ ?_) | refine J.nil ?_ | (refine J.o 4 ?_; first | refine J.lT default hΓ ?_ | refine J.e1 hΓ ?_ | refine J.lR hΓ ?_) | (refine J.o 3 ?_; first | refine J.iJ hΓ ?_ | refine J.ev' hΓ ?_) | (refine J.o 1 ?_; first | refine J.ad ?_ | refine J.sb ?_ | refine J.qu ?_) | (refine J.o 5 ?_; first | refine J.t0 hΓ ?_ | refine J.tT _ default hΓ (fun _ _ => ?_)) | (refine J.o 7 ?_; refine J.al hΓ (fun _ => ?_)) | (refine J.o 8 ?_; refine J.bd hΓ ?_) | (refine J.o 9 ?_; refine J.bl hΓ (fun _ => ?_)) | (refine J.o 10 ?_; first | refine J.ev' hΓ ?_) | (refine J.o 11 ?_; first | refine J.ev' hΓ ?_) | (refine J.o 14 ?_; refine J.mf hΓ ?_)) | ((refine J.fc 21 ?_; refine J.call0 eCheck rfl rfl (fun w hw => cC w (hw.rdH (by first | exact RdH.hd | exact RdH.hd.tl | exact RdH.hd.tl.tl | exact RdH.hd.tl.tl.tl | exact RdH.hd.tl.tl.tl.tl | exact RdH.hd.tl.tl.tl.tl.tl | exact RdH.hd.tl.tl.tl.tl.tl.tl | exact RdH.hd.tl.tl.tl.tl.tl.tl.tl | exact RdH.old (fun _ hh => hh) | assumption))) ?_)) | ((fail_if_success refine J.wt ?_); refine J.gc rfl rfl (fun hc => ?_) (fun hc => ?_) <;> ((try simp only [decide_eq_true_eq, decide_eq_false_iff_not, beq_iff_eq, beq_eq_false_iff_ne, bne_iff_ne, bne_eq_false_iff_eq, Bool.not_eq_true', Bool.not_eq_false', Bool.not_eq_true, Bool.not_eq_false] at hc) <;> first | (first | (exact absurd rfl hc) | (exfalso; omega) | (exact absurd (hc.symm.trans (by assumption : _ = false)) (by decide)) | (exact absurd (hc.symm.trans (by assumption : _ = true)) (by decide))) | skip)))
      | (first | refine JC.seq ?_ | refine JC.region ?_ | refine JC.block ?_ | refine JC.ret ?_ | refine JC.exit ?_ | refine JC.skip ?_ | refine thenK.nn ?_ | refine thenK.x ?_ | refine blockK.nn ?_ | refine blockK.hit rfl ?_ | refine JC.condF rfl ?_ | (refine JC.cond rfl (fun hc => ?_) (fun hc => ?_) <;> ((try simp only [decide_eq_true_eq, decide_eq_false_iff_not, beq_iff_eq, beq_eq_false_iff_ne, bne_iff_ne, bne_eq_false_iff_eq, Bool.not_eq_true', Bool.not_eq_false', Bool.not_eq_true, Bool.not_eq_false] at hc) <;> first | (first | (exact absurd rfl hc) | (exfalso; omega) | (exact absurd (hc.symm.trans (by assumption : _ = false)) (by decide)) | (exact absurd (hc.symm.trans (by assumption : _ = true)) (by decide))) | skip)) | refine drawK.nn ?_ | refine loopK.x ?_)
      | fail
    all_goals first | (exfalso; omega) | skip
    all_goals refine loopK.nn (m - 1) (by omega) (by repeat (first | refine Ag.upd rfl ?_ | exact Ag.hv)) ⟨k + 1, ?_, by omega, rfl⟩
    · show Value.int .i64 _ = _; congr 1
  case inr =>
    repeat' first
      | (refine J.isJ ?_; first | (first | (refine J.o 0 ?_; refine J.ev' hΓ ?_) | refine J.nil ?_ | (refine J.o 4 ?_; first | refine J.lT default hΓ ?_ | refine J.e1 hΓ ?_ | refine J.lR hΓ ?_) | (refine J.o 3 ?_; first | refine J.iJ hΓ ?_ | refine J.ev' hΓ ?_) | (refine J.o 1 ?_; first | refine J.ad ?_ | refine J.sb ?_ | refine J.qu ?_) | (refine J.o 5 ?_; first | refine J.t0 hΓ ?_ | refine J.tT _ default hΓ (fun _ _ => ?_)) | (refine J.o 7 ?_; refine J.al hΓ (fun _ => ?_)) | (refine J.o 8 ?_; refine J.bd hΓ ?_) | (refine J.o 9 ?_; refine J.bl hΓ (fun _ => ?_)) | (refine J.o 10 ?_; first | refine J.ev' hΓ ?_) | (refine J.o 11 ?_; first | refine J.ev' hΓ ?_) | (refine J.o 14 ?_; refine J.mf hΓ ?_)) | (first | (refine J.al hΓ2 (fun _ => ?_)) | (refine J.t0 hΓ2 ?_)) | ((fail_if_success refine J.wt ?_); refine J.gc rfl rfl (fun hc => ?_) (fun hc => ?_) <;> ((try simp only [decide_eq_true_eq, decide_eq_false_iff_not, beq_iff_eq, beq_eq_false_iff_ne, bne_iff_ne, bne_eq_false_iff_eq, Bool.not_eq_true', Bool.not_eq_false', Bool.not_eq_true, Bool.not_eq_false] at hc) <;> first | (first | (exact absurd rfl hc) | (exfalso; omega) | (exact absurd (hc.symm.trans (by assumption : _ = false)) (by decide)) | (exact absurd (hc.symm.trans (by assumption : _ = true)) (by decide))) | skip)))
      | (first | refine JC.seq ?_ | refine JC.region ?_ | refine JC.block ?_ | refine JC.ret ?_ | refine JC.exit ?_ | refine JC.skip ?_ | refine thenK.nn ?_ | refine thenK.x ?_ | refine blockK.nn ?_ | refine blockK.hit rfl ?_ | refine JC.condF rfl ?_ | (refine JC.cond rfl (fun hc => ?_) (fun hc => ?_) <;> ((try simp only [decide_eq_true_eq, decide_eq_false_iff_not, beq_iff_eq, beq_eq_false_iff_ne, bne_iff_ne, bne_eq_false_iff_eq, Bool.not_eq_true', Bool.not_eq_false', Bool.not_eq_true, Bool.not_eq_false] at hc) <;> first | (first | (exact absurd rfl hc) | (exfalso; omega) | (exact absurd (hc.symm.trans (by assumption : _ = false)) (by decide)) | (exact absurd (hc.symm.trans (by assumption : _ = true)) (by decide))) | skip)) | refine drawK.nn ?_ | refine loopK.x ?_)
      | fail
    all_goals first | (exfalso; omega) | skip
    rename_i t4b hc1 hc2 bg bc ba bh ble
    refine JC.nilF ?_
    refine JC.perm (L' := [[(ble, .cells ⟨[.int .i64 1]⟩ 3 (0, 0))], cF bc 50 n (some ⟨bg, 0, none⟩) g01.length 2, [(bg, .cells ⟨g01.flatMap encG⟩ 101 (0, 0))], [], [(bh, .cells ⟨[.func (.func 55) ⟨[]⟩ ⟨[.pointer (some ⟨ba, 0, none⟩)]⟩]⟩ 88 (0, 0))], [(ba, .cells ⟨[.func (.func 54) ⟨[]⟩ ⟨[.pointer (some ⟨bc, 0, none⟩)]⟩]⟩ 102 (0, 0))], [(t4b, .cells ⟨[.int .i64 0, .slice none 0 0]⟩ 50 (0, 0))]]) ((bring_perm 5 _).trans ((bring_perm 5 _).trans (bring_perm 3 _))) ?_
    have hrA : Rd h [[(bh, .cells ⟨[.func (.func 55) ⟨[]⟩ ⟨[.pointer (some ⟨ba, 0, none⟩)]⟩]⟩ 88 (0, 0))], [(ba, .cells ⟨[.func (.func 54) ⟨[]⟩ ⟨[.pointer (some ⟨bc, 0, none⟩)]⟩]⟩ 102 (0, 0))], [(t4b, .cells ⟨[.int .i64 0, .slice none 0 0]⟩ 50 (0, 0))]] ba (.cells ⟨[.func (.func 54) ⟨[]⟩ ⟨[.pointer (some ⟨bc, 0, none⟩)]⟩]⟩ 102 (0, 0)) := Rd.hd.tl
    have hrH : Rd h [[(bh, .cells ⟨[.func (.func 55) ⟨[]⟩ ⟨[.pointer (some ⟨ba, 0, none⟩)]⟩]⟩ 88 (0, 0))], [(ba, .cells ⟨[.func (.func 54) ⟨[]⟩ ⟨[.pointer (some ⟨bc, 0, none⟩)]⟩]⟩ 102 (0, 0))], [(t4b, .cells ⟨[.int .i64 0, .slice none 0 0]⟩ 50 (0, 0))]] bh (.cells ⟨[.func (.func 55) ⟨[]⟩ ⟨[.pointer (some ⟨ba, 0, none⟩)]⟩]⟩ 88 (0, 0)) := Rd.hd
    have og0 : OwT encG 3 101 (some ⟨bg, 0, none⟩) 2 g01 [(bg, .cells ⟨g01.flatMap encG⟩ 101 (0, 0))] := ⟨fun _ => rfl, .inr ⟨bg, _, rfl, rfl, rfl, Nat.le_refl _, rfl⟩⟩
    have oe0 : OwT encI 1 3 (some ⟨ble, 0, none⟩) 1 [(1 : Int)] [(ble, .cells ⟨[.int .i64 1]⟩ 3 (0, 0))] := ⟨fun _ => rfl, .inr ⟨ble, _, rfl, rfl, rfl, Nat.le_refl _, rfl⟩⟩
    refine JC.loop (fun i => i == 12 || i == 14 || i == 15 || i == 16 || Nat.ble 50 i) (fun m g L' => ∃ (k : Nat) (le : List Int) (aE : Option Addr) (capE : Nat) (gs1 : List Gt) (aL1 : Option Addr) (capL1 : Nat) (hl1 hI1 hE : Heap), g 50 = .int .i64 (k : Int) ∧ g 12 = .slice aE (k + 1) capE ∧ k + m = l.length ∧ OwT encI 1 3 aE capE le hE ∧ le.length = k + 1 ∧ OwT encG 3 101 aL1 capL1 gs1 hl1 ∧ St n gs1 hI1 ∧ Base gs1 ∧ gs1.length ≤ 2 + 700 * k ∧
        (∀ j, j ≤ k → 0 ≤ le.getD j default ∧ le.getD j default < gs1.length ∧ ∀ s, val s gs1 (le.getD j default) = decide (j ≤ vt s (l.take k))) ∧ L' = hE :: cF bc 50 n aL1 gs1.length capL1 :: hl1 :: hI1 :: _) l.length
      ⟨0, [1], _, _, g01, _, _, _, _, _, rfl, rfl, by omega, oe0, rfl, og0, st01 n, base01, Nat.le_refl _, fun j hj => ?_, rfl⟩ ?_
    · obtain rfl : j = 0 := by omega
      exact ⟨by decide, by decide, fun s => by rw [show ([(1 : Int)].getD 0 default) = 1 from rfl, (base01.2 s).2]; simp⟩
    clear oe0 og0
    rintro m g L' ⟨k2, le, aE, capE, gs1, aL1, capL1, hl1, hI1, hE, e50, e12, hkm2, oE, hleE, ol1, st1, hb1, hgl, hval, rfl⟩
    refine JC.pin 50 e50 (JC.pin 12 e12 ?_)
    clear e50 e12
    rcases Nat.lt_or_ge k2 l.length with hk2 | hk2
    case inr =>
      have hkl : l.take k2 = l := List.take_of_length_le hk2
      obtain rfl : k2 = l.length := by omega
      rw [hkl] at hval
      by_cases hl0 : l.length = 0
      ·
        have hroot0 : 0 ≤ (0 : Int) ∧ (0 : Int) < gs1.length := by
          obtain ⟨b1, b2⟩ := hb1
          omega
        have hroot : ∀ s, val s gs1 0 = decide (l.length < 2 * vt s l) := fun s => by
          have := vt_le s l l.length
          rw [List.take_length] at this
          rw [(hb1.2 s).1]
          simp; omega
        repeat' first
          | (refine J.isJ ?_; first | (first | (refine J.o 0 ?_; refine J.ev' hΓ ?_) | refine J.nil ?_ | (refine J.o 4 ?_; first | refine J.lT default hΓ ?_ | refine J.e1 hΓ ?_ | refine J.lR hΓ ?_) | (refine J.o 3 ?_; first | refine J.iJ hΓ ?_ | refine J.ev' hΓ ?_) | (refine J.o 1 ?_; first | refine J.ad ?_ | refine J.sb ?_ | refine J.qu ?_) | (refine J.o 5 ?_; first | refine J.t0 hΓ ?_ | refine J.tT _ default hΓ (fun _ _ => ?_)) | (refine J.o 7 ?_; refine J.al hΓ (fun _ => ?_)) | (refine J.o 8 ?_; refine J.bd hΓ ?_) | (refine J.o 9 ?_; refine J.bl hΓ (fun _ => ?_)) | (refine J.o 10 ?_; first | refine J.ev' hΓ ?_) | (refine J.o 11 ?_; first | refine J.ev' hΓ ?_) | (refine J.o 14 ?_; refine J.mf hΓ ?_)) | (first | (refine J.lR hΓ2 ?_ (hr := hrA.tl.tl.tl.tl)) | (refine J.callvx eAdd rfl rfl rfl (fun w hw => add_any (⟨4, 0, some ⟨_, 0, none⟩, 1, [0]⟩ : Gt) ol1 (by omega) (hw.perm ((bring_perm 3 _).trans (bring_perm 3 _)))) ?_; rintro _ _ ⟨rfl, aL3, capL3, hl3, ol3, rfl⟩; refine J.perm (bring_perm 7 _) ?_)) | ((fail_if_success refine J.wt ?_); refine J.gc rfl rfl (fun hc => ?_) (fun hc => ?_) <;> ((try simp only [decide_eq_true_eq, decide_eq_false_iff_not, beq_iff_eq, beq_eq_false_iff_ne, bne_iff_ne, bne_eq_false_iff_eq, Bool.not_eq_true', Bool.not_eq_false', Bool.not_eq_true, Bool.not_eq_false] at hc) <;> first | (first | (exact absurd rfl hc) | (exfalso; omega) | (exact absurd (hc.symm.trans (by assumption : _ = false)) (by decide)) | (exact absurd (hc.symm.trans (by assumption : _ = true)) (by decide))) | skip)))
          | (first | refine JC.seq ?_ | refine JC.region ?_ | refine JC.block ?_ | refine JC.ret ?_ | refine JC.exit ?_ | refine JC.skip ?_ | refine thenK.nn ?_ | refine thenK.x ?_ | refine blockK.nn ?_ | refine blockK.hit rfl ?_ | refine JC.condF rfl ?_ | (refine JC.cond rfl (fun hc => ?_) (fun hc => ?_) <;> ((try simp only [decide_eq_true_eq, decide_eq_false_iff_not, beq_iff_eq, beq_eq_false_iff_ne, bne_iff_ne, bne_eq_false_iff_eq, Bool.not_eq_true', Bool.not_eq_false', Bool.not_eq_true, Bool.not_eq_false] at hc) <;> first | (first | (exact absurd rfl hc) | (exfalso; omega) | (exact absurd (hc.symm.trans (by assumption : _ = false)) (by decide)) | (exact absurd (hc.symm.trans (by assumption : _ = true)) (by decide))) | skip)) | refine drawK.nn ?_ | refine loopK.x ?_)
          | fail
        all_goals first | (exfalso; omega) | skip
        rename_i x
        have hlx : (gs1 ++ [(⟨4, 0, some ⟨x, 0, none⟩, 1, [0]⟩ : Gt)]).length = gs1.length + 1 := by simp
        refine retCS hΓ rfl rfl rfl rfl Rd.hd rfl rfl (fun w1 hw => Gives.of hw.fin ⟨aL3, _, capL3, ?_, fin_cir n0 n1 st1 (by omega) hroot0 ol3, fun s => fin_val s gs1 x _ _ (hroot s)⟩)
        rw [hlx]; rfl
      ·
        have eq1 : ((l.length : Int) / 2 + 1).toNat = l.length / 2 + 1 := by omega
        obtain ⟨q0, q1, q2⟩ := hval (l.length / 2 + 1) (by omega)
        have hroot0 : 0 ≤ le.getD ((l.length : Int) / 2 + 1).toNat default ∧ le.getD ((l.length : Int) / 2 + 1).toNat default < gs1.length := by rw [eq1]; exact ⟨q0, q1⟩
        have hroot : ∀ s, val s gs1 (le.getD ((l.length : Int) / 2 + 1).toNat default) = decide (l.length < 2 * vt s l) := fun s => by
          rw [eq1, q2 s]
          congr 1
          apply propext
          omega
        repeat' first
          | (refine J.isJ ?_; first | (first | (refine J.o 0 ?_; refine J.ev' hΓ ?_) | refine J.nil ?_ | (refine J.o 4 ?_; first | refine J.lT default hΓ ?_ | refine J.e1 hΓ ?_ | refine J.lR hΓ ?_) | (refine J.o 3 ?_; first | refine J.iJ hΓ ?_ | refine J.ev' hΓ ?_) | (refine J.o 1 ?_; first | refine J.ad ?_ | refine J.sb ?_ | refine J.qu ?_) | (refine J.o 5 ?_; first | refine J.t0 hΓ ?_ | refine J.tT _ default hΓ (fun _ _ => ?_)) | (refine J.o 7 ?_; refine J.al hΓ (fun _ => ?_)) | (refine J.o 8 ?_; refine J.bd hΓ ?_) | (refine J.o 9 ?_; refine J.bl hΓ (fun _ => ?_)) | (refine J.o 10 ?_; first | refine J.ev' hΓ ?_) | (refine J.o 11 ?_; first | refine J.ev' hΓ ?_) | (refine J.o 14 ?_; refine J.mf hΓ ?_)) | (first | (refine J.lR hΓ2 ?_ (hr := hrA.tl.tl.tl.tl)) | (refine J.callvx eAdd rfl rfl rfl (fun w hw => add_any (⟨4, 0, some ⟨_, 0, none⟩, 1, [le.getD ((l.length : Int) / 2 + 1).toNat default]⟩ : Gt) ol1 (by omega) (hw.perm ((bring_perm 3 _).trans (bring_perm 3 _)))) ?_; rintro _ _ ⟨rfl, aL3, capL3, hl3, ol3, rfl⟩; refine J.perm (bring_perm 7 _) ?_)) | ((fail_if_success refine J.wt ?_); refine J.gc rfl rfl (fun hc => ?_) (fun hc => ?_) <;> ((try simp only [decide_eq_true_eq, decide_eq_false_iff_not, beq_iff_eq, beq_eq_false_iff_ne, bne_iff_ne, bne_eq_false_iff_eq, Bool.not_eq_true', Bool.not_eq_false', Bool.not_eq_true, Bool.not_eq_false] at hc) <;> first | (first | (exact absurd rfl hc) | (exfalso; omega) | (exact absurd (hc.symm.trans (by assumption : _ = false)) (by decide)) | (exact absurd (hc.symm.trans (by assumption : _ = true)) (by decide))) | skip)))
          | (first | refine JC.seq ?_ | refine JC.region ?_ | refine JC.block ?_ | refine JC.ret ?_ | refine JC.exit ?_ | refine JC.skip ?_ | refine thenK.nn ?_ | refine thenK.x ?_ | refine blockK.nn ?_ | refine blockK.hit rfl ?_ | refine JC.condF rfl ?_ | (refine JC.cond rfl (fun hc => ?_) (fun hc => ?_) <;> ((try simp only [decide_eq_true_eq, decide_eq_false_iff_not, beq_iff_eq, beq_eq_false_iff_ne, bne_iff_ne, bne_eq_false_iff_eq, Bool.not_eq_true', Bool.not_eq_false', Bool.not_eq_true, Bool.not_eq_false] at hc) <;> first | (first | (exact absurd rfl hc) | (exfalso; omega) | (exact absurd (hc.symm.trans (by assumption : _ = false)) (by decide)) | (exact absurd (hc.symm.trans (by assumption : _ = true)) (by decide))) | skip)) | refine drawK.nn ?_ | refine loopK.x ?_)
          | fail
        all_goals first | (exfalso; omega) | skip
        rename_i x
        have hlx : (gs1 ++ [(⟨4, 0, some ⟨x, 0, none⟩, 1, [le.getD ((l.length : Int) / 2 + 1).toNat default]⟩ : Gt)]).length = gs1.length + 1 := by simp
        refine retCS hΓ rfl rfl rfl rfl Rd.hd rfl rfl (fun w1 hw => Gives.of hw.fin ⟨aL3, _, capL3, ?_, fin_cir n0 n1 st1 (by omega) hroot0 ol3, fun s => fin_val s gs1 x _ _ (hroot s)⟩)
        rw [hlx]; rfl
    case inl =>
      have hmem : l.getD k2 default ∈ l := by
        rw [List.getD_eq_getElem?_getD, List.getElem?_eq_getElem hk2]
        exact List.getElem_mem hk2
      have hst := ht _ hmem
      have hsz1 := hsz _ hmem
      obtain ⟨hp1, hf1⟩ := fmd_of_checkT (hch _ hmem)
      have hleL : (le ++ [(0 : Int)]).length = k2 + 2 := by rw [List.length_append, hleE]; rfl
      repeat' first
        | (refine J.isJ ?_; first | (first | (refine J.o 0 ?_; refine J.ev' hΓ ?_) | refine J.nil ?_ | (refine J.o 4 ?_; first | refine J.lT default hΓ ?_ | refine J.e1 hΓ ?_ | refine J.lR hΓ ?_) | (refine J.o 3 ?_; first | refine J.iJ hΓ ?_ | refine J.ev' hΓ ?_) | (refine J.o 1 ?_; first | refine J.ad ?_ | refine J.sb ?_ | refine J.qu ?_) | (refine J.o 5 ?_; first | refine J.t0 hΓ ?_ | refine J.tT _ default hΓ (fun _ _ => ?_)) | (refine J.o 7 ?_; refine J.al hΓ (fun _ => ?_)) | (refine J.o 8 ?_; refine J.bd hΓ ?_) | (refine J.o 9 ?_; refine J.bl hΓ (fun _ => ?_)) | (refine J.o 10 ?_; first | refine J.ev' hΓ ?_) | (refine J.o 11 ?_; first | refine J.ev' hΓ ?_) | (refine J.o 14 ?_; refine J.mf hΓ ?_)) | (first | (refine J.fc 40 ?_; refine J.callx eFold rfl rfl (fun w hw => fold_any (L := hE :: _) (l.getD k2 default).a (l.getD k2 default).cap (l.getD k2 default).ts hst hp1 hf1 ol1 st1 hb1 (by omega) hrA.tl hrH.tl (hw.perm ((bring_perm 3 _).trans ((bring_perm 3 _).trans (bring_perm 3 _))))) ?_; rintro _ _ ⟨r, gs2, aL2, capL2, hl2, hI2, rfl, ol2, st2, rfl, r0, r1, g0, g1, hold, hroot⟩; refine J.perm (bring_perm 3 _) ?_) | (refine J.app1 (enc := encI) [(0 : Int)] hΓ rfl rfl rfl rfl rfl rfl rfl oE hleE rfl rfl rfl (by omega) (by omega) (by omega) (fun aE2 capE2 hE2 oE2 => ?_))) | ((fail_if_success refine J.wt ?_); refine J.gc rfl rfl (fun hc => ?_) (fun hc => ?_) <;> ((try simp only [decide_eq_true_eq, decide_eq_false_iff_not, beq_iff_eq, beq_eq_false_iff_ne, bne_iff_ne, bne_eq_false_iff_eq, Bool.not_eq_true', Bool.not_eq_false', Bool.not_eq_true, Bool.not_eq_false] at hc) <;> first | (first | (exact absurd rfl hc) | (exfalso; omega) | (exact absurd (hc.symm.trans (by assumption : _ = false)) (by decide)) | (exact absurd (hc.symm.trans (by assumption : _ = true)) (by decide))) | skip)))
        | (first | refine JC.seq ?_ | refine JC.region ?_ | refine JC.block ?_ | refine JC.ret ?_ | refine JC.exit ?_ | refine JC.skip ?_ | refine thenK.nn ?_ | refine thenK.x ?_ | refine blockK.nn ?_ | refine blockK.hit rfl ?_ | refine JC.condF rfl ?_ | (refine JC.cond rfl (fun hc => ?_) (fun hc => ?_) <;> ((try simp only [decide_eq_true_eq, decide_eq_false_iff_not, beq_iff_eq, beq_eq_false_iff_ne, bne_iff_ne, bne_eq_false_iff_eq, Bool.not_eq_true', Bool.not_eq_false', Bool.not_eq_true, Bool.not_eq_false] at hc) <;> first | (first | (exact absurd rfl hc) | (exfalso; omega) | (exact absurd (hc.symm.trans (by assumption : _ = false)) (by decide)) | (exact absurd (hc.symm.trans (by assumption : _ = true)) (by decide))) | skip)) | refine drawK.nn ?_ | refine loopK.x ?_)
        | (fail)
        | fail
      all_goals first | (exfalso; omega) | skip
      refine JC.loop (fun i => i == 16 || Nat.ble 63 i) (fun m2 g2 L' => ∃ (le2 : List Int) (gs3 : List Gt) (aL3 : Option Addr) (capL3 : Nat) (hl3 hI3 hE3 : Heap), g2 16 = .int .i64 (m2 : Int) ∧ m2 ≤ k2 + 1 ∧ le2.length = k2 + 2 ∧ OwT encI 1 3 aE2 capE2 le2 hE3 ∧ OwT encG 3 101 aL3 capL3 gs3 hl3 ∧ St n gs3 hI3 ∧ Base gs3 ∧ gs3.length + m2 ≤ 2 + 700 * k2 + 600 + (k2 + 1) ∧ (0 ≤ r ∧ r < gs3.length ∧ ∀ s, val s gs3 r = clsAt (l.getD k2 default).ts s 0) ∧
          (∀ j, j ≤ k2 + 1 → 0 ≤ le2.getD j default ∧ le2.getD j default < gs3.length ∧ ∀ s, val s gs3 (le2.getD j default) = decide (j ≤ vt s (l.take (if m2 < j then k2 + 1 else k2)))) ∧ L' = hE3 :: cF bc 50 n aL3 gs3.length capL3 :: hl3 :: hI3 :: _) (k2 + 1)
        ⟨le ++ [0], gs2, aL2, capL2, hl2, hI2, hE2, by show Value.int .i64 _ = _; congr 1; omega, Nat.le_refl _, hleL, oE2, ol2, st2, hb1.grow g0 hold, by omega, ⟨r0, r1, hroot⟩, fun j hj => ?_, rfl⟩ ?_
      · rw [if_neg (by omega)]
        by_cases hjk : j ≤ k2
        · rw [getD_left _ _ _ (by omega)]
          obtain ⟨q0, q1, q2⟩ := hval j hjk
          exact ⟨q0, by omega, fun s => by rw [hold s _ q0 q1]; exact q2 s⟩
        · obtain rfl : j = k2 + 1 := by omega
          have := getD_last le (0 : Int)
          rw [hleE] at this
          rw [this]
          obtain ⟨b1, b2⟩ := hb1
          refine ⟨by omega, by omega, fun s => ?_⟩
          rw [hold s 0 (by omega) (by omega), (b2 s).1]
          have := vt_le s l k2
          simp; omega
      clear oE2
      rintro m2 g2 L' ⟨le2, gs3, aL3, capL3, hl3, hI3, hE3, e16, hm2, hle2, oE3, ol3, st3, hb3, hg3, ⟨r0', r1', hroot'⟩, hv2, rfl⟩
      refine JC.pin 16 e16 ?_
      clear e16 hval hold hroot r0 r1 st2 ol2
      cases m2 with
      | zero =>
        repeat' first
          | (refine J.isJ ?_; (first | (first | (refine J.o 0 ?_; refine J.ev' hΓ ?_) | refine J.nil ?_ | (refine J.o 4 ?_; first | refine J.lT default hΓ ?_ | refine J.e1 hΓ ?_ | refine J.lR hΓ ?_) | (refine J.o 3 ?_; first | refine J.iJ hΓ ?_ | refine J.ev' hΓ ?_) | (refine J.o 1 ?_; first | refine J.ad ?_ | refine J.sb ?_ | refine J.qu ?_) | (refine J.o 5 ?_; first | refine J.t0 hΓ ?_ | refine J.tT _ default hΓ (fun _ _ => ?_)) | (refine J.o 7 ?_; refine J.al hΓ (fun _ => ?_)) | (refine J.o 8 ?_; refine J.bd hΓ ?_) | (refine J.o 9 ?_; refine J.bl hΓ (fun _ => ?_)) | (refine J.o 10 ?_; first | refine J.ev' hΓ ?_) | (refine J.o 11 ?_; first | refine J.ev' hΓ ?_) | (refine J.o 14 ?_; refine J.mf hΓ ?_)) | ((fail_if_success refine J.wt ?_); refine J.gc rfl rfl (fun hc => ?_) (fun hc => ?_) <;> ((try simp only [decide_eq_true_eq, decide_eq_false_iff_not, beq_iff_eq, beq_eq_false_iff_ne, bne_iff_ne, bne_eq_false_iff_eq, Bool.not_eq_true', Bool.not_eq_false', Bool.not_eq_true, Bool.not_eq_false] at hc) <;> first | (first | (exact absurd rfl hc) | (exfalso; omega) | (exact absurd (hc.symm.trans (by assumption : _ = false)) (by decide)) | (exact absurd (hc.symm.trans (by assumption : _ = true)) (by decide))) | skip))))
          | (first | refine JC.seq ?_ | refine JC.region ?_ | refine JC.block ?_ | refine JC.ret ?_ | refine JC.exit ?_ | refine JC.skip ?_ | refine thenK.nn ?_ | refine thenK.x ?_ | refine blockK.nn ?_ | refine blockK.hit rfl ?_ | refine JC.condF rfl ?_ | (refine JC.cond rfl (fun hc => ?_) (fun hc => ?_) <;> ((try simp only [decide_eq_true_eq, decide_eq_false_iff_not, beq_iff_eq, beq_eq_false_iff_ne, bne_iff_ne, bne_eq_false_iff_eq, Bool.not_eq_true', Bool.not_eq_false', Bool.not_eq_true, Bool.not_eq_false] at hc) <;> first | (first | (exact absurd rfl hc) | (exfalso; omega) | (exact absurd (hc.symm.trans (by assumption : _ = false)) (by decide)) | (exact absurd (hc.symm.trans (by assumption : _ = true)) (by decide))) | skip)) | refine drawK.nn ?_ | refine loopK.x ?_)
          | fail
        all_goals first | (exfalso; omega) | skip
        all_goals refine loopK.nn (m - 1) (by omega) (by repeat (first | refine Ag.upd rfl ?_ | exact Ag.hv | refine Ag.hv2 (fun i hi => by simp at hi ⊢; omega) ?_)) ⟨k2 + 1, le2, aE2, capE2, gs3, aL3, capL3, hl3, hI3, hE3, ?_, ?_, by omega, oE3, hle2, ol3, st3, hb3, by omega, ?_, rfl⟩
        · show Value.int .i64 _ = _; congr 1
        · rfl
        · intro j hj
          obtain ⟨q0, q1, q2⟩ := hv2 j hj
          refine ⟨q0, q1, fun s => ?_⟩
          rw [q2 s]
          by_cases hj0 : 0 < j
          · rw [if_pos hj0]
          · obtain rfl : j = 0 := by omega
            simp
      | succ p =>
        have eb : (((p + 1 : Nat) : Int) - 1).toNat = p := by omega
        have ec : ((p + 1 : Nat) : Int).toNat = p + 1 := by omega
        obtain ⟨b0, b1, b2⟩ := hv2 p (by omega)
        obtain ⟨c0, c1, c2⟩ := hv2 (p + 1) (by omega)
        have b' : 0 ≤ le2.getD (((p + 1 : Nat) : Int) - 1).toNat default ∧ le2.getD (((p + 1 : Nat) : Int) - 1).toNat default < (gs3.length : Int) := by rw [eb]; exact ⟨b0, b1⟩
        repeat' first
          | (refine J.isJ ?_; first | (first | (refine J.o 0 ?_; refine J.ev' hΓ ?_) | refine J.nil ?_ | (refine J.o 4 ?_; first | refine J.lT default hΓ ?_ | refine J.e1 hΓ ?_ | refine J.lR hΓ ?_) | (refine J.o 3 ?_; first | refine J.iJ hΓ ?_ | refine J.ev' hΓ ?_) | (refine J.o 1 ?_; first | refine J.ad ?_ | refine J.sb ?_ | refine J.qu ?_) | (refine J.o 5 ?_; first | refine J.t0 hΓ ?_ | refine J.tT _ default hΓ (fun _ _ => ?_)) | (refine J.o 7 ?_; refine J.al hΓ (fun _ => ?_)) | (refine J.o 8 ?_; refine J.bd hΓ ?_) | (refine J.o 9 ?_; refine J.bl hΓ (fun _ => ?_)) | (refine J.o 10 ?_; first | refine J.ev' hΓ ?_) | (refine J.o 11 ?_; first | refine J.ev' hΓ ?_) | (refine J.o 14 ?_; refine J.mf hΓ ?_)) | (first | (refine J.lR hΓ2 ?_ (hr := hrH.tl.tl.tl.tl)) | (refine J.callvx eChoose rfl rfl rfl (fun w hw => choose_any (L := hE3 :: _) r _ _ ol3 st3 (by omega) (by omega) b' ⟨c0, c1⟩ hrA.tl (hw.perm ((bring_perm 3 _).trans ((bring_perm 3 _).trans (bring_perm 3 _))))) ?_; rintro _ _ ⟨r4, gs4, aL4, capL4, hl4, hI4, rfl, ol4, st4, rfl, r40, r41, g40, g41, hold4, hval4⟩; refine J.perm (bring_perm 3 _) ?_)) | ((fail_if_success refine J.wt ?_); refine J.gc rfl rfl (fun hc => ?_) (fun hc => ?_) <;> ((try simp only [decide_eq_true_eq, decide_eq_false_iff_not, beq_iff_eq, beq_eq_false_iff_ne, bne_iff_ne, bne_eq_false_iff_eq, Bool.not_eq_true', Bool.not_eq_false', Bool.not_eq_true, Bool.not_eq_false] at hc) <;> first | (first | (exact absurd rfl hc) | (exfalso; omega) | (exact absurd (hc.symm.trans (by assumption : _ = false)) (by decide)) | (exact absurd (hc.symm.trans (by assumption : _ = true)) (by decide))) | skip)))
          | (first | refine JC.seq ?_ | refine JC.region ?_ | refine JC.block ?_ | refine JC.ret ?_ | refine JC.exit ?_ | refine JC.skip ?_ | refine thenK.nn ?_ | refine thenK.x ?_ | refine blockK.nn ?_ | refine blockK.hit rfl ?_ | refine JC.condF rfl ?_ | (refine JC.cond rfl (fun hc => ?_) (fun hc => ?_) <;> ((try simp only [decide_eq_true_eq, decide_eq_false_iff_not, beq_iff_eq, beq_eq_false_iff_ne, bne_iff_ne, bne_eq_false_iff_eq, Bool.not_eq_true', Bool.not_eq_false', Bool.not_eq_true, Bool.not_eq_false] at hc) <;> first | (first | (exact absurd rfl hc) | (exfalso; omega) | (exact absurd (hc.symm.trans (by assumption : _ = false)) (by decide)) | (exact absurd (hc.symm.trans (by assumption : _ = true)) (by decide))) | skip)) | refine drawK.nn ?_ | refine loopK.x ?_)
          | ((refine JC.drawW [] [13] (by kernel_rfl) (by kernel_rfl) ?_))
          | fail
        all_goals first | (exfalso; omega) | skip
        all_goals refine loopK.nn p (by omega) (by repeat (first | refine Ag.upd rfl ?_ | exact Ag.hv)) ⟨le2.set (p + 1) r4, gs4, aL4, capL4, hl4, hI4, _, ?_, by omega, by rw [List.length_set]; exact hle2, by assumption, ol4, st4, hb3.grow g40 hold4, by omega, ⟨r0', by omega, fun s => by rw [hold4 s r r0' r1']; exact hroot' s⟩, ?_, rfl⟩
        · show Value.int .i64 _ = _; congr 1; omega
        · intro j hj
          rw [getD_set]
          by_cases hjp : p + 1 = j
          · subst hjp
            rw [if_pos ⟨rfl, by omega⟩]
            refine ⟨r40, r41, fun s => ?_⟩
            rw [hval4 s, hroot' s, eb, b2 s, c2 s, if_neg (show ¬ p + 1 < p by omega), if_neg (show ¬ p + 1 < p + 1 by omega), if_pos (show p < p + 1 by omega), vt_take s l k2 hk2]
            exact step_vt _ _ _
          · rw [if_neg (fun h => hjp h.1)]
            obtain ⟨q0, q1, q2⟩ := hv2 j hj
            refine ⟨q0, by omega, fun s => ?_⟩
            rw [hold4 s _ q0 q1, q2 s]
            by_cases hlt : p < j
            · rw [if_pos hlt, if_pos (by omega)]
            · rw [if_neg hlt, if_neg (by omega)]
end Go.Proofs.YtdiciemlbhkilaaGreatDoor
namespace Go.Proofs.YtdiciemlbhkilaaGreatDoor
open Go Go.Cx Go.RowKit
set_option linter.unusedVariables false
set_option linter.unusedSimpArgs false
set_option maxHeartbeats 4000000
attribute [local irreducible] J JC thenK blockK loopK roundK drawK retK QW Qt pel List.set Calls
attribute [local irreducible] JE Br eK0 eK3 brK
def varI (l : Int) : Int := if 1 ≤ l ∧ l ≤ 128 then l else if -128 ≤ l ∧ l ≤ -1 then -l else 0
def validB (l n : Int) : Bool := decide (l ≠ 0 ∧ -n ≤ l ∧ l ≤ n)
theorem eVar : Entr Tryz.prog 96 := Entr.of Tryz.func96 rfl rfl
theorem eValid : Entr Tryz.prog 118 := Entr.of Tryz.func118 rfl rfl
theorem var_any (l : Int) (w : World) : Calls Tryz.prog 96 #[.int .i64 l] w fun e w' => e = .returned (.int .i64 (varI l)) ∧ Below w.heap.size w w' := by
  refine calls_of_JC (R := []) Tryz.func96 Tryz.ntmps96 rfl rfl (Holds.nil _) ?_
  repeat' first
    | (refine J.isJ ?_; (first | (first | (refine J.o 0 ?_; refine J.ev' hΓ ?_) | refine J.nil ?_ | refine J.kd ?_ | (refine J.o 3 ?_; first | refine J.ev' hΓ ?_) | (refine J.o 1 ?_; first | refine J.ng ?_) | (refine J.o 10 ?_; refine J.ev' hΓ ?_) | (refine J.o 11 ?_; refine J.ev' hΓ ?_)) | ((fail_if_success refine J.wt ?_); refine J.gc rfl rfl (fun hc => ?_) (fun hc => ?_) <;> ((try simp only [decide_eq_true_eq, decide_eq_false_iff_not, beq_iff_eq, beq_eq_false_iff_ne, bne_iff_ne, bne_eq_false_iff_eq, Bool.not_eq_true', Bool.not_eq_false', Bool.not_eq_true, Bool.not_eq_false] at hc) <;> first | (first | (exact absurd rfl hc) | (exfalso; omega) | (exact absurd (hc.symm.trans (by assumption : _ = false)) (by decide)) | (exact absurd (hc.symm.trans (by assumption : _ = true)) (by decide))) | skip))))
    | (first | refine JC.seq ?_ | refine JC.region ?_ | refine JC.block ?_ | refine JC.ret ?_ | refine JC.skip ?_ | refine thenK.nn ?_ | refine thenK.r ?_ | refine blockK.nn ?_ | refine blockK.r ?_ | refine JC.condF rfl ?_ | (refine JC.cond rfl (fun hc => ?_) (fun hc => ?_) <;> ((try simp only [decide_eq_true_eq, decide_eq_false_iff_not, beq_iff_eq, beq_eq_false_iff_ne, bne_iff_ne, bne_eq_false_iff_eq, Bool.not_eq_true', Bool.not_eq_false', Bool.not_eq_true, Bool.not_eq_false] at hc) <;> first | (first | (exact absurd rfl hc) | (exfalso; omega) | (exact absurd (hc.symm.trans (by assumption : _ = false)) (by decide)) | (exact absurd (hc.symm.trans (by assumption : _ = true)) (by decide))) | skip)))
    | fail
  all_goals first | (exfalso; omega) | skip
  all_goals (refine ret1f rfl rfl rfl (fun w1 hw => ⟨retI ?_, hw.below⟩))
  all_goals (clear hw; unfold varI; grind)
theorem valid_any (l n : Int) (hn : 0 ≤ n ∧ n ≤ 128) (w : World) : Calls Tryz.prog 118 #[.int .i64 l, .int .i64 n] w fun e w' => e = .returned (.bool (validB l n)) ∧ Below w.heap.size w w' := by
  refine calls_of_JC (R := []) Tryz.func118 Tryz.ntmps118 rfl rfl (Holds.nil _) ?_
  repeat' first
    | (refine J.isJ ?_; first | (first | (refine J.o 0 ?_; refine J.ev' hΓ ?_) | refine J.nil ?_ | refine J.kd ?_ | (refine J.o 3 ?_; first | refine J.ev' hΓ ?_) | (refine J.o 10 ?_; refine J.ev' hΓ ?_) | (refine J.o 11 ?_; refine J.ev' hΓ ?_)) | ((refine J.fc 96 ?_; refine J.call0 eVar rfl rfl (fun w hw => var_any l w) ?_)) | ((fail_if_success refine J.wt ?_); refine J.gc rfl rfl (fun hc => ?_) (fun hc => ?_) <;> ((try simp only [decide_eq_true_eq, decide_eq_false_iff_not, beq_iff_eq, beq_eq_false_iff_ne, bne_iff_ne, bne_eq_false_iff_eq, Bool.not_eq_true', Bool.not_eq_false', Bool.not_eq_true, Bool.not_eq_false] at hc) <;> first | (first | (exact absurd rfl hc) | (exfalso; omega) | (exact absurd (hc.symm.trans (by assumption : _ = false)) (by decide)) | (exact absurd (hc.symm.trans (by assumption : _ = true)) (by decide))) | skip)))
    | (first | refine JC.seq ?_ | refine JC.region ?_ | refine JC.ret ?_ | refine thenK.nn ?_)
    | fail
  all_goals first | (exfalso; omega) | skip
  all_goals (refine ret1f rfl rfl rfl (fun w1 hw => ⟨retB ?_, hw.below⟩))
  all_goals (clear hw; unfold varI validB at *; grind)
theorem drop_g {α : Type} [Inhabited α] (l : List α) (k : Nat) (hk : k < l.length) : l.drop k = l.getD k default :: l.drop (k + 1) := by
  rw [List.drop_eq_getElem_cons hk, List.getD_eq_getElem?_getD, List.getElem?_eq_getElem hk]; rfl
theorem mem_g {α : Type} [Inhabited α] (l : List α) (k : Nat) (hk : k < l.length) : l.getD k default ∈ l := by
  rw [List.getD_eq_getElem?_getD, List.getElem?_eq_getElem hk]
  exact List.getElem_mem hk
def idxB (p : Int → Bool) : List Int → Int → Int
  | [], _ => -1
  | x :: l, k => if p x = true then k else idxB p l (k + 1)
theorem idxB_nn (p : Int → Bool) : ∀ (l : List Int) (k : Int), 0 ≤ k → decide (0 ≤ idxB p l k) = l.any p
  | [], k, _ => rfl
  | y :: l, k, h => by
    rw [idxB, List.any_cons]
    cases hy : p y with
    | true => rw [if_pos rfl]; simp [h]
    | false => rw [if_neg (by decide), idxB_nn p l (k + 1) (by omega)]; rfl
theorem eIdxF : Entr Tryz.prog 97 := Entr.of Tryz.func97 rfl rfl
theorem eConF : Entr Tryz.prog 62 := Entr.of Tryz.func62 rfl rfl
theorem idxG_any {fid : FuncId} (E : Entr Tryz.prog fid) (cp : List Value) (p : Int → Bool) (a : Option Addr) (cap : Nat) (l : List Int) (h hh : Heap) (hs : SlT encI 1 a l h) (hsub : ∀ x, x ∈ h → x ∈ hh) (hl : l.length ≤ 1000000) (hc : ∀ x, x ∈ l → ∀ w, Holds hh w → Calls Tryz.prog fid ⟨.int .i64 x :: cp⟩ w fun e w' => e = .returned (.bool (p x)) ∧ Below w.heap.size w w') (w : World) (hw : Holds hh w) :
    Calls Tryz.prog 97 #[.slice a l.length cap, .func (.func fid) ⟨[]⟩ ⟨cp⟩] w fun e w' => e = .returned (.int .i64 (idxB p l 0)) ∧ Below w.heap.size w w' := by
  have q0 : ∀ L, RdH hh L h := fun L => RdH.old hsub
  have qb : ∀ L, RdH hh L hh := fun L => RdH.old fun x hx => hx
  refine calls_of_JC (R := hh) Tryz.func97 Tryz.ntmps97 rfl rfl (hw) ?_
  repeat' first
    | (refine J.isJ ?_; (first | (first | (refine J.o 0 ?_; refine J.ev' hΓ ?_) | refine J.nil ?_ | (refine J.o 4 ?_; first | refine J.lT default hΓ ?_) | (refine J.o 3 ?_; first | refine J.iJ hΓ ?_ | refine J.ev' hΓ ?_) | (refine J.o 1 ?_; first | refine J.ad ?_) | (refine J.o 10 ?_; refine J.ev' hΓ ?_) | (refine J.o 11 ?_; refine J.ev' hΓ ?_))))
    | (first | refine JC.seq ?_ | refine JC.region ?_ | refine JC.block ?_ | refine JC.ret ?_ | refine JC.exit ?_ | refine JC.skip ?_ | refine thenK.nn ?_ | refine thenK.r ?_ | refine thenK.x ?_ | refine blockK.nn ?_ | refine blockK.r ?_ | refine blockK.hit rfl ?_ | refine JC.condT rfl ?_ | refine JC.condF rfl ?_ | (refine JC.cond rfl (fun hc => ?_) (fun hc => ?_) <;> ((try simp only [decide_eq_true_eq, decide_eq_false_iff_not, beq_iff_eq, beq_eq_false_iff_ne, bne_iff_ne, bne_eq_false_iff_eq, Bool.not_eq_true', Bool.not_eq_false', Bool.not_eq_true, Bool.not_eq_false] at hc) <;> first | (first | (exact absurd rfl hc) | (exfalso; omega) | (exact absurd (hc.symm.trans (by assumption : _ = false)) (by decide)) | (exact absurd (hc.symm.trans (by assumption : _ = true)) (by decide))) | skip)) | refine loopK.r ?_ | refine loopK.x ?_)
    | fail
  all_goals first | (exfalso; omega) | skip
  refine JC.loop (fun i => i == 4 || i == 5 || Nat.ble 8 i) (fun m g L => ∃ (k : Nat), g 8 = .int .i64 (k : Int) ∧ k + m = l.length ∧ idxB p l 0 = idxB p (l.drop k) k ∧ L = _) l.length ⟨0, rfl, by omega, rfl, rfl⟩ ?_
  rintro m g L ⟨k, e8, hkm, hi, rfl⟩
  refine JC.pin 8 e8 ?_
  clear e8
  rcases Nat.lt_or_ge k l.length with hk | hk
  case inr =>
    rw [List.drop_eq_nil_of_le hk] at hi
    repeat' first
      | (refine J.isJ ?_; (first | (first | (refine J.o 0 ?_; refine J.ev' hΓ ?_) | refine J.nil ?_ | (refine J.o 4 ?_; first | refine J.lT default hΓ ?_) | (refine J.o 3 ?_; first | refine J.iJ hΓ ?_ | refine J.ev' hΓ ?_) | (refine J.o 1 ?_; first | refine J.ad ?_) | (refine J.o 10 ?_; refine J.ev' hΓ ?_) | (refine J.o 11 ?_; refine J.ev' hΓ ?_))))
      | (first | refine JC.seq ?_ | refine JC.region ?_ | refine JC.block ?_ | refine JC.ret ?_ | refine JC.exit ?_ | refine JC.skip ?_ | refine thenK.nn ?_ | refine thenK.r ?_ | refine thenK.x ?_ | refine blockK.nn ?_ | refine blockK.r ?_ | refine blockK.hit rfl ?_ | refine JC.condT rfl ?_ | refine JC.condF rfl ?_ | (refine JC.cond rfl (fun hc => ?_) (fun hc => ?_) <;> ((try simp only [decide_eq_true_eq, decide_eq_false_iff_not, beq_iff_eq, beq_eq_false_iff_ne, bne_iff_ne, bne_eq_false_iff_eq, Bool.not_eq_true', Bool.not_eq_false', Bool.not_eq_true, Bool.not_eq_false] at hc) <;> first | (first | (exact absurd rfl hc) | (exfalso; omega) | (exact absurd (hc.symm.trans (by assumption : _ = false)) (by decide)) | (exact absurd (hc.symm.trans (by assumption : _ = true)) (by decide))) | skip)) | refine loopK.r ?_ | refine loopK.x ?_)
      | fail
    all_goals first | (exfalso; omega) | exact ret1f rfl rfl rfl (fun w1 hw => ⟨retI hi.symm, hw.below⟩)
  have cA := fun w hw => hc _ (mem_g l k hk) w hw
  rw [drop_g l k hk, idxB] at hi
  cases hb : p (l.getD k default) with
  | true =>
    rw [hb] at cA
    rw [if_pos hb] at hi
    repeat' first
      | (refine J.isJ ?_; first | (first | (refine J.o 4 ?_; refine J.lT default hΓ ?_ (hs := hs) (hr := q0 _)) | (refine J.o 9 ?_; refine J.callv0 E rfl rfl rfl (fun w hw => cA w (hw.rdH (qb _))) ?_)) | (first | (refine J.o 0 ?_; refine J.ev' hΓ ?_) | refine J.nil ?_ | (refine J.o 4 ?_; first | refine J.lT default hΓ ?_) | (refine J.o 3 ?_; first | refine J.iJ hΓ ?_ | refine J.ev' hΓ ?_) | (refine J.o 1 ?_; first | refine J.ad ?_) | (refine J.o 10 ?_; refine J.ev' hΓ ?_) | (refine J.o 11 ?_; refine J.ev' hΓ ?_)))
      | (first | refine JC.seq ?_ | refine JC.region ?_ | refine JC.block ?_ | refine JC.ret ?_ | refine JC.exit ?_ | refine JC.skip ?_ | refine thenK.nn ?_ | refine thenK.r ?_ | refine thenK.x ?_ | refine blockK.nn ?_ | refine blockK.r ?_ | refine blockK.hit rfl ?_ | refine JC.condT rfl ?_ | refine JC.condF rfl ?_ | (refine JC.cond rfl (fun hc => ?_) (fun hc => ?_) <;> ((try simp only [decide_eq_true_eq, decide_eq_false_iff_not, beq_iff_eq, beq_eq_false_iff_ne, bne_iff_ne, bne_eq_false_iff_eq, Bool.not_eq_true', Bool.not_eq_false', Bool.not_eq_true, Bool.not_eq_false] at hc) <;> first | (first | (exact absurd rfl hc) | (exfalso; omega) | (exact absurd (hc.symm.trans (by assumption : _ = false)) (by decide)) | (exact absurd (hc.symm.trans (by assumption : _ = true)) (by decide))) | skip)) | refine loopK.r ?_ | refine loopK.x ?_)
      | (fail)
      | fail
    all_goals first | (exfalso; omega) | exact ret1f rfl rfl rfl (fun w1 hw => ⟨retI hi.symm, hw.below⟩)
  | false =>
    rw [hb] at cA
    rw [if_neg (by rw [hb]; decide)] at hi
    repeat' first
      | (refine J.isJ ?_; first | (first | (refine J.o 4 ?_; refine J.lT default hΓ ?_ (hs := hs) (hr := q0 _)) | (refine J.o 9 ?_; refine J.callv0 E rfl rfl rfl (fun w hw => cA w (hw.rdH (qb _))) ?_)) | (first | (refine J.o 0 ?_; refine J.ev' hΓ ?_) | refine J.nil ?_ | (refine J.o 4 ?_; first | refine J.lT default hΓ ?_) | (refine J.o 3 ?_; first | refine J.iJ hΓ ?_ | refine J.ev' hΓ ?_) | (refine J.o 1 ?_; first | refine J.ad ?_) | (refine J.o 10 ?_; refine J.ev' hΓ ?_) | (refine J.o 11 ?_; refine J.ev' hΓ ?_)))
      | (first | refine JC.seq ?_ | refine JC.region ?_ | refine JC.block ?_ | refine JC.ret ?_ | refine JC.exit ?_ | refine JC.skip ?_ | refine thenK.nn ?_ | refine thenK.r ?_ | refine thenK.x ?_ | refine blockK.nn ?_ | refine blockK.r ?_ | refine blockK.hit rfl ?_ | refine JC.condT rfl ?_ | refine JC.condF rfl ?_ | (refine JC.cond rfl (fun hc => ?_) (fun hc => ?_) <;> ((try simp only [decide_eq_true_eq, decide_eq_false_iff_not, beq_iff_eq, beq_eq_false_iff_ne, bne_iff_ne, bne_eq_false_iff_eq, Bool.not_eq_true', Bool.not_eq_false', Bool.not_eq_true, Bool.not_eq_false] at hc) <;> first | (first | (exact absurd rfl hc) | (exfalso; omega) | (exact absurd (hc.symm.trans (by assumption : _ = false)) (by decide)) | (exact absurd (hc.symm.trans (by assumption : _ = true)) (by decide))) | skip)) | refine loopK.r ?_ | refine loopK.x ?_)
      | (fail)
      | fail
    all_goals first | (exfalso; omega) | skip
    all_goals refine loopK.nn (m - 1) (by omega) (by repeat (first | refine Ag.upd rfl ?_ | exact Ag.hv)) ⟨k + 1, ?_, by omega, hi, rfl⟩
    all_goals (show Value.int .i64 _ = _; congr 1)
theorem conG_any {fid : FuncId} (E : Entr Tryz.prog fid) (cp : List Value) (p : Int → Bool) (a : Option Addr) (cap : Nat) (l : List Int) (h hh : Heap) (hs : SlT encI 1 a l h) (hsub : ∀ x, x ∈ h → x ∈ hh) (hl : l.length ≤ 1000000) (hc : ∀ x, x ∈ l → ∀ w, Holds hh w → Calls Tryz.prog fid ⟨.int .i64 x :: cp⟩ w fun e w' => e = .returned (.bool (p x)) ∧ Below w.heap.size w w') (w : World) (hw : Holds hh w) :
    Calls Tryz.prog 62 #[.slice a l.length cap, .func (.func fid) ⟨[]⟩ ⟨cp⟩] w fun e w' => e = .returned (.bool (l.any p)) ∧ Below w.heap.size w w' := by
  have hn := idxB_nn p l 0 (by omega)
  refine calls_of_JC (R := hh) Tryz.func62 Tryz.ntmps62 rfl rfl (hw) ?_
  repeat' first
    | (refine J.isJ ?_; first | (first | (refine J.o 0 ?_; refine J.ev' hΓ ?_) | refine J.nil ?_ | (refine J.o 3 ?_; first | refine J.ev' hΓ ?_) | (refine J.o 10 ?_; refine J.ev' hΓ ?_) | (refine J.o 11 ?_; refine J.ev' hΓ ?_)) | ((refine J.fc 97 ?_; refine J.call0 eIdxF rfl rfl (fun w hw => idxG_any E cp p a cap l h hh hs hsub hl hc w (hw.rdH (RdH.old fun _ hh => hh))) ?_)))
    | (first | refine JC.seq ?_ | refine JC.region ?_ | refine JC.ret ?_ | refine thenK.nn ?_)
    | fail
  all_goals first | (exfalso; omega) | exact ret1f rfl rfl rfl (fun w1 hw => ⟨retB hn, hw.below⟩)
theorem rdc {R : Heap} {L : List Heap} {n1 : Nat} {o : Obj} {g : Heap} (r1 : Rd R L n1 o) (rg : RdH R L g) : RdH R L ((n1, o) :: g) := fun x hx => by
  rcases List.mem_cons.1 hx with rfl | hx
  · exact r1
  · exact rg x hx
def badI (bf i : Int) : Bool := decide (i < 0) || decide (bf ≤ i)
def intO (i : Int) : Obj := .cells ⟨[.int .i64 i]⟩ 3 (0, 0)
theorem eInputs : Entr Tryz.prog 127 := Entr.of Tryz.func127 rfl rfl
theorem eGood1 : Entr Tryz.prog 128 := Entr.of Tryz.func128 rfl rfl
theorem eGoodC : Entr Tryz.prog 99 := Entr.of Tryz.func99 rfl rfl
theorem eSizeC : Entr Tryz.prog 98 := Entr.of Tryz.func98 rfl rfl
theorem eCheckC : Entr Tryz.prog 65 := Entr.of Tryz.func65 rfl rfl
theorem eHoldsL : Entr Tryz.prog 61 := Entr.of Tryz.func61 rfl rfl
theorem eValueC : Entr Tryz.prog 67 := Entr.of Tryz.func67 rfl rfl
theorem eEvalC : Entr Tryz.prog 24 := Entr.of Tryz.func24 rfl rfl
theorem inputs_ok (k : Int) (m : Nat) (h : (k = 0 ∨ k = 1 ∨ k = 2) ∧ m = 0 ∨ k = 8 ∧ m = 3 ∨ k = 4 ∧ m = 1) (w : World) :
    Calls Tryz.prog 127 #[.int .i64 k, .int .i64 (m : Int)] w fun e w' => e = .returned (.bool true) ∧ Below w.heap.size w w' := by
  rcases h with ⟨rfl | rfl | rfl, rfl⟩ | ⟨rfl, rfl⟩ | ⟨rfl, rfl⟩
  all_goals
    refine calls_of_JC (R := []) Tryz.func127 Tryz.ntmps127 rfl rfl (Holds.nil _) ?_
    repeat' first
      | (refine J.isJ ?_; (first | (first | (refine J.o 0 ?_; refine J.ev' hΓ ?_) | refine J.nil ?_ | refine J.kd ?_ | (refine J.o 3 ?_; first | refine J.ev' hΓ ?_) | (refine J.o 10 ?_; refine J.ev' hΓ ?_) | (refine J.o 11 ?_; refine J.ev' hΓ ?_))))
      | (first | refine JC.seq ?_ | refine JC.region ?_ | refine JC.block ?_ | refine JC.ret ?_ | refine JC.skip ?_ | refine thenK.nn ?_ | refine thenK.r ?_ | refine blockK.nn ?_ | refine blockK.r ?_ | refine JC.condT rfl ?_ | refine JC.condF rfl ?_)
      | fail
    all_goals first | (exfalso; omega) | exact ret1f rfl rfl rfl (fun w1 hw => ⟨rfl, hw.below⟩)
theorem good1_any (bf i : Int) (b : Nat) (w : World) (hw : Holds [(b, intO bf)] w) :
    Calls Tryz.prog 128 #[.int .i64 i, .pointer (some ⟨b, 0, none⟩)] w fun e w' => e = .returned (.bool (badI bf i)) ∧ Below w.heap.size w w' := by
  have rb : ∀ L, Rd [(b, intO bf)] L b (intO bf) := fun L => Rd.old List.mem_cons_self
  unfold intO at rb
  refine calls_of_JC (R := [(b, intO bf)]) Tryz.func128 Tryz.ntmps128 rfl rfl (hw) ?_
  repeat' first
    | (refine J.isJ ?_; first | (first | (refine J.o 4 ?_; refine J.lR hΓ ?_ (hr := rb _))) | (first | (refine J.o 0 ?_; refine J.ev' hΓ ?_) | refine J.nil ?_ | refine J.kd ?_ | (refine J.o 4 ?_; first | refine J.lR hΓ ?_) | (refine J.o 3 ?_; first | refine J.ev' hΓ ?_) | (refine J.o 10 ?_; refine J.ev' hΓ ?_) | (refine J.o 11 ?_; refine J.ev' hΓ ?_)) | ((fail_if_success refine J.wt ?_); refine J.gc rfl rfl (fun hc => ?_) (fun hc => ?_) <;> ((try simp only [decide_eq_true_eq, decide_eq_false_iff_not, beq_iff_eq, beq_eq_false_iff_ne, bne_iff_ne, bne_eq_false_iff_eq, Bool.not_eq_true', Bool.not_eq_false', Bool.not_eq_true, Bool.not_eq_false] at hc) <;> first | (first | (exact absurd rfl hc) | (exfalso; omega) | (exact absurd (hc.symm.trans (by assumption : _ = false)) (by decide)) | (exact absurd (hc.symm.trans (by assumption : _ = true)) (by decide))) | skip)))
    | (first | refine JC.seq ?_ | refine JC.region ?_ | refine JC.ret ?_ | refine thenK.nn ?_)
    | (fail)
    | fail
  all_goals first | (exfalso; omega) | skip
  all_goals (refine ret1f rfl rfl rfl (fun w1 hw => ⟨retB ?_, hw.below⟩))
  all_goals (clear hw; unfold badI; grind)
theorem good_ok {n : Int} {a : Option Addr} {gs : List Gt} {h : Heap} (c : Cir n a gs h) (cap : Nat) (k : Nat) (hk : k < gs.length) (w : World) (hw : Holds h w) :
    Calls Tryz.prog 99 #[cv n a gs.length cap, .int .i64 (k : Int)] w fun e w' => e = .returned (.bool true) ∧ Below w.heap.size w w' := by
  have hs := c.sl
  have h1 := c.len1
  have n0 := c.n0
  have n1 := c.n1
  have hok := c.ok k hk
  have hin := c.ins k hk
  have hsm := c.small k hk
  obtain ⟨hal, hlit, hins⟩ := hok
  have q0 : ∀ L, RdH h L h := fun L => RdH.old fun _ hh => hh
  have cI := fun w => inputs_ok (gs.getD k default).kind (gs.getD k default).ins.length hal w
  have cV := fun w => valid_any (gs.getD k default).lit n ⟨n0, n1⟩ w
  have hb : (gs.getD k default).ins.any (badI k) = false := by
    rw [List.any_eq_false]
    intro x hx
    obtain ⟨j, hj, rfl⟩ := List.mem_iff_getElem.1 hx
    have := hins j hj
    rw [List.getD_eq_getElem?_getD, List.getElem?_eq_getElem hj, Option.getD_some] at this
    generalize (gs.getD k default).ins[j] = y at *
    unfold badI
    rw [decide_eq_false (by omega), decide_eq_false (by omega)]
    decide
  have hvv : (gs.getD k default).kind = 2 → validB (gs.getD k default).lit n = true := fun h2 => by unfold validB; exact decide_eq_true ⟨by omega, by omega, by omega⟩
  refine calls_of_JC (R := h) Tryz.func99 Tryz.ntmps99 rfl rfl (hw) ?_
  repeat' first
    | (refine J.isJ ?_; first | (first | (refine J.o 14 ?_; refine J.mf hΓ ?_) | (refine J.fc 127 ?_; refine J.call0 eInputs rfl rfl (fun w hw => cI w) ?_) | (refine J.fc 62 ?_; refine J.call0 eConF rfl rfl (fun w hw => conG_any eGood1 _ (badI k) (gs.getD k default).a (gs.getD k default).cap (gs.getD k default).ins h ((_, intO k) :: h) hin (fun x hx => List.mem_cons_of_mem _ hx) (by omega) (fun x hx w hw => good1_any k x _ w (fun y hy => hw y (by rw [List.mem_singleton.1 hy]; exact List.mem_cons_self))) w (fun x hx => hw.rd (rdc (by first | exact Rd.hd | exact Rd.hd.tl | exact Rd.hd.tl.tl) (RdH.old fun _ hh => hh) x hx))) ?_) | (refine J.fc 118 ?_; refine J.call0 eValid rfl rfl (fun w hw => cV w) ?_)) | (first | (refine J.o 0 ?_; refine J.ev' hΓ ?_) | refine J.nil ?_ | refine J.kd ?_ | (refine J.o 4 ?_; first | refine J.lT default hΓ ?_ | refine J.lR hΓ ?_) | (refine J.o 3 ?_; first | refine J.iJ hΓ ?_ | refine J.ev' hΓ ?_) | (refine J.o 5 ?_; first | refine J.t0 hΓ ?_) | (refine J.o 6 ?_; refine J.bx (fun _ => ?_)) | (refine J.o 7 ?_; refine J.al hΓ (fun _ => ?_)) | (refine J.o 10 ?_; refine J.ev' hΓ ?_) | (refine J.o 11 ?_; refine J.ev' hΓ ?_) | (refine J.o 14 ?_; refine J.mf hΓ ?_)) | ((fail_if_success refine J.wt ?_); refine J.gc rfl rfl (fun hc => ?_) (fun hc => ?_) <;> ((try simp only [decide_eq_true_eq, decide_eq_false_iff_not, beq_iff_eq, beq_eq_false_iff_ne, bne_iff_ne, bne_eq_false_iff_eq, Bool.not_eq_true', Bool.not_eq_false', Bool.not_eq_true, Bool.not_eq_false] at hc) <;> first | (first | (exact absurd rfl hc) | (exfalso; omega) | (exact absurd (hc.symm.trans (by assumption : _ = false)) (by decide)) | (exact absurd (hc.symm.trans (by assumption : _ = true)) (by decide))) | skip)))
    | (first | refine JC.seq ?_ | refine JC.region ?_ | refine JC.ret ?_ | refine JC.skip ?_ | refine thenK.nn ?_ | refine thenK.r ?_ | refine JC.condT rfl ?_ | refine JC.condF rfl ?_ | (refine JC.cond rfl (fun hc => ?_) (fun hc => ?_) <;> ((try simp only [decide_eq_true_eq, decide_eq_false_iff_not, beq_iff_eq, beq_eq_false_iff_ne, bne_iff_ne, bne_eq_false_iff_eq, Bool.not_eq_true', Bool.not_eq_false', Bool.not_eq_true, Bool.not_eq_false] at hc) <;> first | (first | (exact absurd rfl hc) | (exfalso; omega) | (exact absurd (hc.symm.trans (by assumption : _ = false)) (by decide)) | (exact absurd (hc.symm.trans (by assumption : _ = true)) (by decide))) | skip)))
    | (fail)
    | fail
  all_goals first | (exfalso; omega) | skip
  all_goals (refine ret1f rfl rfl rfl (fun w1 hw => ⟨retB ?_, hw.below⟩))
  all_goals (clear hw; grind)
theorem sizeC_any {n : Int} {a : Option Addr} {gs : List Gt} {h : Heap} (c : Cir n a gs h) (cap : Nat) (w : World) (hw : Holds h w) :
    Calls Tryz.prog 98 #[cv n a gs.length cap] w fun e w' => e = .returned (.int .i64 (sizeP gs : Int)) ∧ Below w.heap.size w w' := by
  have hs := c.sl
  have h1 := c.len1
  have hle := size_le gs c.small
  refine calls_of_JC (R := h) Tryz.func98 Tryz.ntmps98 rfl rfl (hw) ?_
  repeat' first
    | (refine J.isJ ?_; (first | (first | (refine J.o 0 ?_; refine J.ev' hΓ ?_) | refine J.nil ?_ | (refine J.o 4 ?_; first | refine J.lT default hΓ ?_ | refine J.lR hΓ ?_) | (refine J.o 3 ?_; first | refine J.iJ hΓ ?_ | refine J.ev' hΓ ?_) | (refine J.o 1 ?_; first | refine J.ad ?_) | (refine J.o 5 ?_; first | refine J.t0 hΓ ?_) | (refine J.o 6 ?_; refine J.bx (fun _ => ?_)) | (refine J.o 7 ?_; refine J.al hΓ (fun _ => ?_)) | (refine J.o 10 ?_; refine J.ev' hΓ ?_) | (refine J.o 11 ?_; refine J.ev' hΓ ?_))))
    | (first | refine JC.seq ?_ | refine JC.region ?_ | refine JC.block ?_ | refine JC.ret ?_ | refine JC.exit ?_ | refine JC.skip ?_ | refine thenK.nn ?_ | refine thenK.x ?_ | refine blockK.nn ?_ | refine blockK.hit rfl ?_ | (refine JC.cond rfl (fun hc => ?_) (fun hc => ?_) <;> ((try simp only [decide_eq_true_eq, decide_eq_false_iff_not, beq_iff_eq, beq_eq_false_iff_ne, bne_iff_ne, bne_eq_false_iff_eq, Bool.not_eq_true', Bool.not_eq_false', Bool.not_eq_true, Bool.not_eq_false] at hc) <;> first | (first | (exact absurd rfl hc) | (exfalso; omega) | (exact absurd (hc.symm.trans (by assumption : _ = false)) (by decide)) | (exact absurd (hc.symm.trans (by assumption : _ = true)) (by decide))) | skip)) | refine loopK.x ?_)
    | fail
  refine JC.loop (fun i => i == 3 || i == 5 || Nat.ble 9 i) (fun m g L' => ∃ (k : Nat), g 9 = .int .i64 (k : Int) ∧ g 3 = .int .i64 (sizeP (gs.take k) : Int) ∧ k + m = gs.length ∧ L' = _) gs.length ⟨0, rfl, rfl, by omega, rfl⟩ ?_
  rintro m g L' ⟨k, e4, e3, hkm, rfl⟩
  refine JC.pin 9 e4 (JC.pin 3 e3 ?_)
  clear e4 e3
  have hk3 := hle k (by omega)
  rcases Nat.lt_or_ge k gs.length with hk | hk
  case inr =>
    have : gs.take k = gs := List.take_of_length_le hk
    rw [this] at hk3 ⊢
    repeat' first
      | (refine J.isJ ?_; (first | (first | (refine J.o 0 ?_; refine J.ev' hΓ ?_) | refine J.nil ?_ | (refine J.o 4 ?_; first | refine J.lT default hΓ ?_ | refine J.lR hΓ ?_) | (refine J.o 3 ?_; first | refine J.iJ hΓ ?_ | refine J.ev' hΓ ?_) | (refine J.o 1 ?_; first | refine J.ad ?_) | (refine J.o 5 ?_; first | refine J.t0 hΓ ?_) | (refine J.o 6 ?_; refine J.bx (fun _ => ?_)) | (refine J.o 7 ?_; refine J.al hΓ (fun _ => ?_)) | (refine J.o 10 ?_; refine J.ev' hΓ ?_) | (refine J.o 11 ?_; refine J.ev' hΓ ?_))))
      | (first | refine JC.seq ?_ | refine JC.region ?_ | refine JC.block ?_ | refine JC.ret ?_ | refine JC.exit ?_ | refine JC.skip ?_ | refine thenK.nn ?_ | refine thenK.x ?_ | refine blockK.nn ?_ | refine blockK.hit rfl ?_ | (refine JC.cond rfl (fun hc => ?_) (fun hc => ?_) <;> ((try simp only [decide_eq_true_eq, decide_eq_false_iff_not, beq_iff_eq, beq_eq_false_iff_ne, bne_iff_ne, bne_eq_false_iff_eq, Bool.not_eq_true', Bool.not_eq_false', Bool.not_eq_true, Bool.not_eq_false] at hc) <;> first | (first | (exact absurd rfl hc) | (exfalso; omega) | (exact absurd (hc.symm.trans (by assumption : _ = false)) (by decide)) | (exact absurd (hc.symm.trans (by assumption : _ = true)) (by decide))) | skip)) | refine loopK.x ?_)
      | fail
    all_goals first | (exfalso; omega) | exact ret1f rfl rfl rfl (fun w1 hw => ⟨rfl, hw.below⟩)
  have hst := size_take gs k hk
  have hsm := c.small k hk
  repeat' first
    | (refine J.isJ ?_; (first | (first | (refine J.o 0 ?_; refine J.ev' hΓ ?_) | refine J.nil ?_ | (refine J.o 4 ?_; first | refine J.lT default hΓ ?_ | refine J.lR hΓ ?_) | (refine J.o 3 ?_; first | refine J.iJ hΓ ?_ | refine J.ev' hΓ ?_) | (refine J.o 1 ?_; first | refine J.ad ?_) | (refine J.o 5 ?_; first | refine J.t0 hΓ ?_) | (refine J.o 6 ?_; refine J.bx (fun _ => ?_)) | (refine J.o 7 ?_; refine J.al hΓ (fun _ => ?_)) | (refine J.o 10 ?_; refine J.ev' hΓ ?_) | (refine J.o 11 ?_; refine J.ev' hΓ ?_))))
    | (first | refine JC.seq ?_ | refine JC.region ?_ | refine JC.block ?_ | refine JC.ret ?_ | refine JC.exit ?_ | refine JC.skip ?_ | refine thenK.nn ?_ | refine thenK.x ?_ | refine blockK.nn ?_ | refine blockK.hit rfl ?_ | (refine JC.cond rfl (fun hc => ?_) (fun hc => ?_) <;> ((try simp only [decide_eq_true_eq, decide_eq_false_iff_not, beq_iff_eq, beq_eq_false_iff_ne, bne_iff_ne, bne_eq_false_iff_eq, Bool.not_eq_true', Bool.not_eq_false', Bool.not_eq_true, Bool.not_eq_false] at hc) <;> first | (first | (exact absurd rfl hc) | (exfalso; omega) | (exact absurd (hc.symm.trans (by assumption : _ = false)) (by decide)) | (exact absurd (hc.symm.trans (by assumption : _ = true)) (by decide))) | skip)) | refine loopK.x ?_)
    | fail
  all_goals first | (exfalso; omega) | skip
  all_goals refine loopK.np (m - 1) [_] _ (by omega) (by repeat (first | refine Ag.upd rfl ?_ | exact Ag.hv)) (List.Perm.refl _) ⟨k + 1, ?_, ?_, by omega, rfl⟩
  · show Value.int .i64 _ = _; congr 1
  · show Value.int .i64 _ = _; congr 1; omega
theorem checkC_ok {n : Int} {a : Option Addr} {gs : List Gt} {h : Heap} (c : Cir n a gs h) (cap : Nat) (w : World) (hw : Holds h w) :
    Calls Tryz.prog 65 #[cv n a gs.length cap] w fun e w' => e = .returned (.int .i64 0) ∧ Below w.heap.size w w' := by
  have hl0 := c.len0
  have h1 := c.len1
  have n0 := c.n0
  have n1 := c.n1
  have hle := size_le gs c.small gs.length (Nat.le_refl _)
  rw [List.take_length] at hle
  have cS := fun w hw => sizeC_any c cap w hw
  refine calls_of_JC (R := h) Tryz.func65 Tryz.ntmps65 rfl rfl (hw) ?_
  repeat' first
    | (refine J.isJ ?_; first | (first | (refine J.o 0 ?_; refine J.ev' hΓ ?_) | refine J.nil ?_ | (refine J.o 4 ?_; first | refine J.lR hΓ ?_) | (refine J.o 3 ?_; first | refine J.ev' hΓ ?_) | (refine J.o 1 ?_; first | refine J.ad ?_) | (refine J.o 6 ?_; refine J.bx (fun _ => ?_)) | (refine J.o 10 ?_; refine J.ev' hΓ ?_) | (refine J.o 11 ?_; refine J.ev' hΓ ?_)) | ((refine J.fc 98 ?_; refine J.call0 eSizeC rfl rfl (fun w hw => cS w (hw.rdH (by first | exact RdH.hd | exact RdH.hd.tl | exact RdH.hd.tl.tl | exact RdH.hd.tl.tl.tl | exact RdH.hd.tl.tl.tl.tl | exact RdH.hd.tl.tl.tl.tl.tl | exact RdH.hd.tl.tl.tl.tl.tl.tl | exact RdH.hd.tl.tl.tl.tl.tl.tl.tl | exact RdH.old (fun _ hh => hh) | assumption))) ?_)) | ((fail_if_success refine J.wt ?_); refine J.gc rfl rfl (fun hc => ?_) (fun hc => ?_) <;> ((try simp only [decide_eq_true_eq, decide_eq_false_iff_not, beq_iff_eq, beq_eq_false_iff_ne, bne_iff_ne, bne_eq_false_iff_eq, Bool.not_eq_true', Bool.not_eq_false', Bool.not_eq_true, Bool.not_eq_false] at hc) <;> first | (first | (exact absurd rfl hc) | (exfalso; omega) | (exact absurd (hc.symm.trans (by assumption : _ = false)) (by decide)) | (exact absurd (hc.symm.trans (by assumption : _ = true)) (by decide))) | skip)))
    | (first | refine JC.seq ?_ | refine JC.region ?_ | refine JC.block ?_ | refine JC.ret ?_ | refine JC.exit ?_ | refine JC.skip ?_ | refine thenK.nn ?_ | refine thenK.x ?_ | refine blockK.nn ?_ | refine blockK.hit rfl ?_ | refine JC.condF rfl ?_ | (refine JC.cond rfl (fun hc => ?_) (fun hc => ?_) <;> ((try simp only [decide_eq_true_eq, decide_eq_false_iff_not, beq_iff_eq, beq_eq_false_iff_ne, bne_iff_ne, bne_eq_false_iff_eq, Bool.not_eq_true', Bool.not_eq_false', Bool.not_eq_true, Bool.not_eq_false] at hc) <;> first | (first | (exact absurd rfl hc) | (exfalso; omega) | (exact absurd (hc.symm.trans (by assumption : _ = false)) (by decide)) | (exact absurd (hc.symm.trans (by assumption : _ = true)) (by decide))) | skip)) | refine loopK.x ?_)
    | fail
  all_goals first | (exfalso; omega) | skip
  refine JC.loop (fun i => i == 3 || Nat.ble 31 i) (fun m g L' => ∃ (k : Nat), g 31 = .int .i64 (k : Int) ∧ k + m = gs.length ∧ L' = _) gs.length ⟨0, rfl, by omega, rfl⟩ ?_
  rintro m g L' ⟨k, e3, hkm, rfl⟩
  refine JC.pin 31 e3 ?_
  clear e3
  rcases Nat.lt_or_ge k gs.length with hk | hk
  case inr =>
    repeat' first
      | (refine J.isJ ?_; (first | (first | (refine J.o 0 ?_; refine J.ev' hΓ ?_) | refine J.nil ?_ | (refine J.o 4 ?_; first | refine J.lR hΓ ?_) | (refine J.o 3 ?_; first | refine J.ev' hΓ ?_) | (refine J.o 1 ?_; first | refine J.ad ?_) | (refine J.o 6 ?_; refine J.bx (fun _ => ?_)) | (refine J.o 10 ?_; refine J.ev' hΓ ?_) | (refine J.o 11 ?_; refine J.ev' hΓ ?_)) | ((fail_if_success refine J.wt ?_); refine J.gc rfl rfl (fun hc => ?_) (fun hc => ?_) <;> ((try simp only [decide_eq_true_eq, decide_eq_false_iff_not, beq_iff_eq, beq_eq_false_iff_ne, bne_iff_ne, bne_eq_false_iff_eq, Bool.not_eq_true', Bool.not_eq_false', Bool.not_eq_true, Bool.not_eq_false] at hc) <;> first | (first | (exact absurd rfl hc) | (exfalso; omega) | (exact absurd (hc.symm.trans (by assumption : _ = false)) (by decide)) | (exact absurd (hc.symm.trans (by assumption : _ = true)) (by decide))) | skip))))
      | (first | refine JC.seq ?_ | refine JC.region ?_ | refine JC.block ?_ | refine JC.ret ?_ | refine JC.exit ?_ | refine JC.skip ?_ | refine thenK.nn ?_ | refine thenK.x ?_ | refine blockK.nn ?_ | refine blockK.hit rfl ?_ | refine JC.condF rfl ?_ | (refine JC.cond rfl (fun hc => ?_) (fun hc => ?_) <;> ((try simp only [decide_eq_true_eq, decide_eq_false_iff_not, beq_iff_eq, beq_eq_false_iff_ne, bne_iff_ne, bne_eq_false_iff_eq, Bool.not_eq_true', Bool.not_eq_false', Bool.not_eq_true, Bool.not_eq_false] at hc) <;> first | (first | (exact absurd rfl hc) | (exfalso; omega) | (exact absurd (hc.symm.trans (by assumption : _ = false)) (by decide)) | (exact absurd (hc.symm.trans (by assumption : _ = true)) (by decide))) | skip)) | refine loopK.x ?_)
      | fail
    all_goals first | (exfalso; omega) | exact ret1f rfl rfl rfl (fun w1 hw => ⟨rfl, hw.below⟩)
  have cG := fun w hw => good_ok c cap k hk w hw
  repeat' first
    | (refine J.isJ ?_; first | (first | (refine J.o 0 ?_; refine J.ev' hΓ ?_) | refine J.nil ?_ | (refine J.o 4 ?_; first | refine J.lR hΓ ?_) | (refine J.o 3 ?_; first | refine J.ev' hΓ ?_) | (refine J.o 1 ?_; first | refine J.ad ?_) | (refine J.o 6 ?_; refine J.bx (fun _ => ?_)) | (refine J.o 10 ?_; refine J.ev' hΓ ?_) | (refine J.o 11 ?_; refine J.ev' hΓ ?_)) | (first | (refine J.fc 99 ?_; refine J.call0 eGoodC rfl rfl (fun w hw => cG w (hw.rdH (by first | exact RdH.hd | exact RdH.hd.tl | exact RdH.hd.tl.tl | exact RdH.hd.tl.tl.tl | exact RdH.hd.tl.tl.tl.tl | exact RdH.hd.tl.tl.tl.tl.tl | exact RdH.hd.tl.tl.tl.tl.tl.tl | exact RdH.hd.tl.tl.tl.tl.tl.tl.tl | exact RdH.old (fun _ hh => hh) | assumption))) ?_)) | ((fail_if_success refine J.wt ?_); refine J.gc rfl rfl (fun hc => ?_) (fun hc => ?_) <;> ((try simp only [decide_eq_true_eq, decide_eq_false_iff_not, beq_iff_eq, beq_eq_false_iff_ne, bne_iff_ne, bne_eq_false_iff_eq, Bool.not_eq_true', Bool.not_eq_false', Bool.not_eq_true, Bool.not_eq_false] at hc) <;> first | (first | (exact absurd rfl hc) | (exfalso; omega) | (exact absurd (hc.symm.trans (by assumption : _ = false)) (by decide)) | (exact absurd (hc.symm.trans (by assumption : _ = true)) (by decide))) | skip)))
    | (first | refine JC.seq ?_ | refine JC.region ?_ | refine JC.block ?_ | refine JC.ret ?_ | refine JC.exit ?_ | refine JC.skip ?_ | refine thenK.nn ?_ | refine thenK.x ?_ | refine blockK.nn ?_ | refine blockK.hit rfl ?_ | refine JC.condF rfl ?_ | (refine JC.cond rfl (fun hc => ?_) (fun hc => ?_) <;> ((try simp only [decide_eq_true_eq, decide_eq_false_iff_not, beq_iff_eq, beq_eq_false_iff_ne, bne_iff_ne, bne_eq_false_iff_eq, Bool.not_eq_true', Bool.not_eq_false', Bool.not_eq_true, Bool.not_eq_false] at hc) <;> first | (first | (exact absurd rfl hc) | (exfalso; omega) | (exact absurd (hc.symm.trans (by assumption : _ = false)) (by decide)) | (exact absurd (hc.symm.trans (by assumption : _ = true)) (by decide))) | skip)) | refine loopK.x ?_)
    | fail
  all_goals first | (exfalso; omega) | skip
  all_goals refine loopK.nn (m - 1) (by omega) (by repeat (first | refine Ag.upd rfl ?_ | exact Ag.hv)) ⟨k + 1, ?_, by omega, rfl⟩
  all_goals (show Value.int .i64 _ = _; congr 1)
theorem holdsL_any (s : Nat × Nat) (hs : okS s) (l : Int) (h1 : 1 ≤ l) (h2 : l ≤ 128) (w : World) : Calls Tryz.prog 61 #[sv s, .int .i64 l] w fun e w' => e = .returned (.bool (hasB s l)) ∧ Below w.heap.size w w' := by
  have hv : varI l = l := by unfold varI; omega
  have cV := fun w => var_any l w
  rw [hv] at cV
  refine calls_of_JC (R := []) Tryz.func61 Tryz.ntmps61 rfl rfl (Holds.nil _) ?_
  repeat' first
    | (refine J.isJ ?_; first | (first | (refine J.o 0 ?_; refine J.ev' hΓ ?_) | refine J.nil ?_ | (refine J.o 4 ?_; first | refine J.lR hΓ ?_) | (refine J.o 3 ?_; first | refine J.ev' hΓ ?_) | (refine J.o 6 ?_; refine J.bx (fun _ => ?_)) | (refine J.o 10 ?_; refine J.ev' hΓ ?_) | (refine J.o 11 ?_; refine J.ev' hΓ ?_)) | (first | (refine J.fc 96 ?_; refine J.call0 eVar rfl rfl (fun w hw => cV w) ?_) | (refine J.fc 59 ?_; refine J.call0 eHas rfl rfl (fun w hw => has_any s hs l w) ?_)) | ((fail_if_success refine J.wt ?_); refine J.gc rfl rfl (fun hc => ?_) (fun hc => ?_) <;> ((try simp only [decide_eq_true_eq, decide_eq_false_iff_not, beq_iff_eq, beq_eq_false_iff_ne, bne_iff_ne, bne_eq_false_iff_eq, Bool.not_eq_true', Bool.not_eq_false', Bool.not_eq_true, Bool.not_eq_false] at hc) <;> first | (first | (exact absurd rfl hc) | (exfalso; omega) | (exact absurd (hc.symm.trans (by assumption : _ = false)) (by decide)) | (exact absurd (hc.symm.trans (by assumption : _ = true)) (by decide))) | skip)))
    | (first | refine JC.seq ?_ | refine JC.region ?_ | refine JC.ret ?_ | refine thenK.nn ?_ | (refine JC.drawA [] (by kernel_rfl) (by kernel_rfl) ?_) | refine drawK.nn ?_)
    | fail
  all_goals first | (exfalso; omega) | skip
  all_goals (refine ret1f rfl rfl rfl (fun w1 hw => ⟨retB ?_, hw.below⟩))
  all_goals (clear hw; have hp : (0 : Int) < l := by omega)
  all_goals (cases hasB s l <;> simp [hp])
theorem cnt_take (p : Int → Bool) (l : List Int) (k : Nat) (hk : k < l.length) : (l.take (k + 1)).countP p = (l.take k).countP p + (if p (l.getD k default) = true then 1 else 0) := by
  rw [← take_one l k hk, List.countP_append, List.countP_singleton]
theorem cnt_all (p : Int → Bool) (l : List Int) : decide ((l.countP p : Int) = (l.length : Int)) = l.all p := by
  rw [Bool.eq_iff_iff, decide_eq_true_iff, List.all_eq_true, ← List.countP_eq_length]
  omega
theorem valueC_any {n : Int} {i : Nat} {x : Gt} (hok : OkG n i x) (n1 : n ≤ 128) (s : Nat × Nat) (hs : okS s) (v : List Bool) (hv : i ≤ v.length) (hi : v.length ≤ 4096) (av : Option Addr) (cap : Nat) (h : Heap) (hin : SlT encI 1 x.a x.ins h) (hsv : SlT encBo 1 av v h) (w : World) (hw : Holds h w) :
    Calls Tryz.prog 67 #[.agg ⟨encG x⟩, sv s, .slice av v.length cap] w fun e w' => e = .returned (.bool (valueP s v x)) ∧ Below w.heap.size w w' := by
  obtain ⟨hal, hlit, hins⟩ := hok
  have hl3 : x.ins.length ≤ 3 := by omega
  have q0 : ∀ L, RdH h L h := fun L => RdH.old fun _ hh => hh
  have cH := fun (hk2 : x.kind = 2) w => holdsL_any s hs x.lit (by omega) (by omega) w
  refine calls_of_JC (R := h) Tryz.func67 Tryz.ntmps67 rfl rfl (hw) ?_
  repeat' first
    | (refine J.isJ ?_; (first | (first | (refine J.o 0 ?_; refine J.ev' hΓ ?_) | refine J.nil ?_ | (refine J.o 4 ?_; first | refine J.lT default hΓ ?_ | refine J.lR hΓ ?_) | (refine J.o 3 ?_; first | refine J.iJ hΓ ?_ | refine J.ev' hΓ ?_) | (refine J.o 1 ?_; first | refine J.ad ?_) | (refine J.o 6 ?_; refine J.bx (fun _ => ?_)) | (refine J.o 10 ?_; refine J.ev' hΓ ?_) | (refine J.o 11 ?_; refine J.ev' hΓ ?_))))
    | (first | refine JC.seq ?_ | refine JC.region ?_ | refine JC.block ?_ | refine JC.ret ?_ | refine JC.exit ?_ | refine JC.skip ?_ | refine thenK.nn ?_ | refine thenK.r ?_ | refine thenK.x ?_ | refine blockK.nn ?_ | refine blockK.r ?_ | refine blockK.hit rfl ?_ | (refine JC.cond rfl (fun hc => ?_) (fun hc => ?_) <;> ((try simp only [decide_eq_true_eq, decide_eq_false_iff_not, beq_iff_eq, beq_eq_false_iff_ne, bne_iff_ne, bne_eq_false_iff_eq, Bool.not_eq_true', Bool.not_eq_false', Bool.not_eq_true, Bool.not_eq_false] at hc) <;> first | (first | (exact absurd rfl hc) | (exfalso; omega) | (exact absurd (hc.symm.trans (by assumption : _ = false)) (by decide)) | (exact absurd (hc.symm.trans (by assumption : _ = true)) (by decide))) | skip)) | refine loopK.x ?_)
    | fail
  refine JC.loop (fun i => i == 7 || i == 9 || Nat.ble 13 i) (fun m g L' => ∃ (k : Nat), g 13 = .int .i64 (k : Int) ∧ g 7 = .int .i64 ((x.ins.take k).countP (fun j => v.getD j.toNat default) : Int) ∧ k + m = x.ins.length ∧ L' = _) x.ins.length ⟨0, rfl, rfl, by omega, rfl⟩ ?_
  rintro m g L' ⟨k, e13, e7, hkm, rfl⟩
  refine JC.pin 13 e13 (JC.pin 7 e7 ?_)
  clear e13 e7
  have hcl := List.countP_le_length (p := fun j : Int => v.getD j.toNat default) (l := x.ins.take k)
  rw [List.length_take] at hcl
  rcases Nat.lt_or_ge k x.ins.length with hk | hk
  case inl =>
    obtain ⟨hi0, hi1⟩ := hins k hk
    have hct := cnt_take (fun j => v.getD j.toNat default) x.ins k hk
    repeat' first
      | (refine J.isJ ?_; first | (first | (refine J.o 4 ?_; first | refine J.lT default hΓ ?_ (hs := hin) (hr := q0 _) | refine J.lT default hΓ ?_ (hs := hsv) (hr := q0 _))) | (first | (refine J.o 0 ?_; refine J.ev' hΓ ?_) | refine J.nil ?_ | (refine J.o 4 ?_; first | refine J.lT default hΓ ?_ | refine J.lR hΓ ?_) | (refine J.o 3 ?_; first | refine J.iJ hΓ ?_ | refine J.ev' hΓ ?_) | (refine J.o 1 ?_; first | refine J.ad ?_) | (refine J.o 6 ?_; refine J.bx (fun _ => ?_)) | (refine J.o 10 ?_; refine J.ev' hΓ ?_) | (refine J.o 11 ?_; refine J.ev' hΓ ?_)))
      | (first | refine JC.seq ?_ | refine JC.region ?_ | refine JC.block ?_ | refine JC.ret ?_ | refine JC.exit ?_ | refine JC.skip ?_ | refine thenK.nn ?_ | refine thenK.r ?_ | refine thenK.x ?_ | refine blockK.nn ?_ | refine blockK.r ?_ | refine blockK.hit rfl ?_ | (refine JC.cond rfl (fun hc => ?_) (fun hc => ?_) <;> ((try simp only [decide_eq_true_eq, decide_eq_false_iff_not, beq_iff_eq, beq_eq_false_iff_ne, bne_iff_ne, bne_eq_false_iff_eq, Bool.not_eq_true', Bool.not_eq_false', Bool.not_eq_true, Bool.not_eq_false] at hc) <;> first | (first | (exact absurd rfl hc) | (exfalso; omega) | (exact absurd (hc.symm.trans (by assumption : _ = false)) (by decide)) | (exact absurd (hc.symm.trans (by assumption : _ = true)) (by decide))) | skip)) | refine loopK.x ?_)
      | (fail)
      | fail
    all_goals first | (exfalso; omega) | skip
    all_goals refine loopK.nn (m - 1) (by omega) (by repeat (first | refine Ag.upd rfl ?_ | exact Ag.hv)) ⟨k + 1, ?_, ?_, by omega, rfl⟩
    all_goals first | (show Value.int .i64 _ = Value.int .i64 ((k + 1 : Nat) : Int); congr 1; done) | skip
    all_goals (show Value.int .i64 _ = Value.int .i64 _; congr 1; rw [hct]; simp only [*, if_true, Bool.false_eq_true, if_false]; omega)
  case inr =>
    have : x.ins.take k = x.ins := List.take_of_length_le hk
    rw [this] at hcl ⊢
    have hall := cnt_all (fun j => v.getD j.toNat default) x.ins
    have hV : ∀ (kd : Int), x.kind = kd → valueP s v x = if kd = 1 then true else if kd = 2 then hasB s x.lit else if kd = 4 then x.ins.all (fun j => v.getD j.toNat default)
      else if kd = 8 then (if v.getD (x.ins.getD 0 default).toNat default then v.getD (x.ins.getD 1 default).toNat default else v.getD (x.ins.getD 2 default).toNat default) else false := fun kd h => by rw [← h]; rfl
    rcases hal with ⟨hkd | hkd | hkd, h0⟩ | ⟨h8, h3⟩ | ⟨h4, h1⟩
    · rw [hV _ hkd]
      repeat' first
        | (refine J.isJ ?_; (first | (first | (refine J.o 0 ?_; refine J.ev' hΓ ?_) | refine J.nil ?_ | (refine J.o 4 ?_; first | refine J.lT default hΓ ?_ | refine J.lR hΓ ?_) | (refine J.o 3 ?_; first | refine J.iJ hΓ ?_ | refine J.ev' hΓ ?_) | (refine J.o 1 ?_; first | refine J.ad ?_) | (refine J.o 6 ?_; refine J.bx (fun _ => ?_)) | (refine J.o 10 ?_; refine J.ev' hΓ ?_) | (refine J.o 11 ?_; refine J.ev' hΓ ?_))))
        | (first | refine JC.seq ?_ | refine JC.region ?_ | refine JC.block ?_ | refine JC.ret ?_ | refine JC.exit ?_ | refine JC.skip ?_ | refine thenK.nn ?_ | refine thenK.r ?_ | refine thenK.x ?_ | refine blockK.nn ?_ | refine blockK.r ?_ | refine blockK.hit rfl ?_ | (refine JC.cond rfl (fun hc => ?_) (fun hc => ?_) <;> ((try simp only [decide_eq_true_eq, decide_eq_false_iff_not, beq_iff_eq, beq_eq_false_iff_ne, bne_iff_ne, bne_eq_false_iff_eq, Bool.not_eq_true', Bool.not_eq_false', Bool.not_eq_true, Bool.not_eq_false] at hc) <;> first | (first | (exact absurd rfl hc) | (exfalso; omega) | (exact absurd (hc.symm.trans (by assumption : _ = false)) (by decide)) | (exact absurd (hc.symm.trans (by assumption : _ = true)) (by decide))) | skip)) | refine loopK.x ?_)
        | fail
      all_goals first | (exfalso; omega) | exact ret1f rfl rfl rfl (fun w1 hw => ⟨rfl, hw.below⟩)
    · rw [hV _ hkd]
      repeat' first
        | (refine J.isJ ?_; (first | (first | (refine J.o 0 ?_; refine J.ev' hΓ ?_) | refine J.nil ?_ | (refine J.o 4 ?_; first | refine J.lT default hΓ ?_ | refine J.lR hΓ ?_) | (refine J.o 3 ?_; first | refine J.iJ hΓ ?_ | refine J.ev' hΓ ?_) | (refine J.o 1 ?_; first | refine J.ad ?_) | (refine J.o 6 ?_; refine J.bx (fun _ => ?_)) | (refine J.o 10 ?_; refine J.ev' hΓ ?_) | (refine J.o 11 ?_; refine J.ev' hΓ ?_))))
        | (first | refine JC.seq ?_ | refine JC.region ?_ | refine JC.block ?_ | refine JC.ret ?_ | refine JC.exit ?_ | refine JC.skip ?_ | refine thenK.nn ?_ | refine thenK.r ?_ | refine thenK.x ?_ | refine blockK.nn ?_ | refine blockK.r ?_ | refine blockK.hit rfl ?_ | (refine JC.cond rfl (fun hc => ?_) (fun hc => ?_) <;> ((try simp only [decide_eq_true_eq, decide_eq_false_iff_not, beq_iff_eq, beq_eq_false_iff_ne, bne_iff_ne, bne_eq_false_iff_eq, Bool.not_eq_true', Bool.not_eq_false', Bool.not_eq_true, Bool.not_eq_false] at hc) <;> first | (first | (exact absurd rfl hc) | (exfalso; omega) | (exact absurd (hc.symm.trans (by assumption : _ = false)) (by decide)) | (exact absurd (hc.symm.trans (by assumption : _ = true)) (by decide))) | skip)) | refine loopK.x ?_)
        | fail
      all_goals first | (exfalso; omega) | exact ret1f rfl rfl rfl (fun w1 hw => ⟨rfl, hw.below⟩)
    · rw [hV _ hkd]
      repeat' first
        | (refine J.isJ ?_; first | (first | (refine J.o 0 ?_; refine J.ev' hΓ ?_) | refine J.nil ?_ | (refine J.o 4 ?_; first | refine J.lT default hΓ ?_ | refine J.lR hΓ ?_) | (refine J.o 3 ?_; first | refine J.iJ hΓ ?_ | refine J.ev' hΓ ?_) | (refine J.o 1 ?_; first | refine J.ad ?_) | (refine J.o 6 ?_; refine J.bx (fun _ => ?_)) | (refine J.o 10 ?_; refine J.ev' hΓ ?_) | (refine J.o 11 ?_; refine J.ev' hΓ ?_)) | ((refine J.fc 61 ?_; refine J.call0 eHoldsL rfl rfl (fun w hw => cH hkd w) ?_)))
        | (first | refine JC.seq ?_ | refine JC.region ?_ | refine JC.block ?_ | refine JC.ret ?_ | refine JC.exit ?_ | refine JC.skip ?_ | refine thenK.nn ?_ | refine thenK.r ?_ | refine thenK.x ?_ | refine blockK.nn ?_ | refine blockK.r ?_ | refine blockK.hit rfl ?_ | (refine JC.cond rfl (fun hc => ?_) (fun hc => ?_) <;> ((try simp only [decide_eq_true_eq, decide_eq_false_iff_not, beq_iff_eq, beq_eq_false_iff_ne, bne_iff_ne, bne_eq_false_iff_eq, Bool.not_eq_true', Bool.not_eq_false', Bool.not_eq_true, Bool.not_eq_false] at hc) <;> first | (first | (exact absurd rfl hc) | (exfalso; omega) | (exact absurd (hc.symm.trans (by assumption : _ = false)) (by decide)) | (exact absurd (hc.symm.trans (by assumption : _ = true)) (by decide))) | skip)) | refine loopK.x ?_)
        | fail
      all_goals first | (exfalso; omega) | exact ret1f rfl rfl rfl (fun w1 hw => ⟨rfl, hw.below⟩)
    · rw [hV _ h8]
      have i0 := hins 0 (by omega)
      have i1 := hins 1 (by omega)
      have i2 : 0 ≤ x.ins.getD (Int.toNat 2) default ∧ x.ins.getD (Int.toNat 2) default < (i : Int) := hins 2 (by omega)
      repeat' first
        | (refine J.isJ ?_; first | (first | (refine J.o 4 ?_; first | refine J.lT default hΓ ?_ (hs := hin) (hr := q0 _) | refine J.lT default hΓ ?_ (hs := hsv) (hr := q0 _))) | (first | (refine J.o 0 ?_; refine J.ev' hΓ ?_) | refine J.nil ?_ | (refine J.o 4 ?_; first | refine J.lT default hΓ ?_ | refine J.lR hΓ ?_) | (refine J.o 3 ?_; first | refine J.iJ hΓ ?_ | refine J.ev' hΓ ?_) | (refine J.o 1 ?_; first | refine J.ad ?_) | (refine J.o 6 ?_; refine J.bx (fun _ => ?_)) | (refine J.o 10 ?_; refine J.ev' hΓ ?_) | (refine J.o 11 ?_; refine J.ev' hΓ ?_)))
        | (first | refine JC.seq ?_ | refine JC.region ?_ | refine JC.block ?_ | refine JC.ret ?_ | refine JC.exit ?_ | refine JC.skip ?_ | refine thenK.nn ?_ | refine thenK.r ?_ | refine thenK.x ?_ | refine blockK.nn ?_ | refine blockK.r ?_ | refine blockK.hit rfl ?_ | (refine JC.cond rfl (fun hc => ?_) (fun hc => ?_) <;> ((try simp only [decide_eq_true_eq, decide_eq_false_iff_not, beq_iff_eq, beq_eq_false_iff_ne, bne_iff_ne, bne_eq_false_iff_eq, Bool.not_eq_true', Bool.not_eq_false', Bool.not_eq_true, Bool.not_eq_false] at hc) <;> first | (first | (exact absurd rfl hc) | (exfalso; omega) | (exact absurd (hc.symm.trans (by assumption : _ = false)) (by decide)) | (exact absurd (hc.symm.trans (by assumption : _ = true)) (by decide))) | skip)) | refine loopK.x ?_)
        | (fail)
        | fail
      all_goals first | (exfalso; omega) | skip
      all_goals (refine ret1f rfl rfl rfl (fun w1 hw => ⟨retB ?_, hw.below⟩))
      all_goals (rw [if_neg (by decide), if_neg (by decide), if_neg (by decide), if_pos rfl])
      all_goals first | (have hb : v.getD (x.ins.getD 0 default).toNat default = true := by assumption
                         rw [hb]; rfl) | (have hb : v.getD (x.ins.getD 0 default).toNat default = false := by first | assumption | exact Bool.eq_false_iff.2 (by assumption)
                                          rw [hb]; rfl)
    · rw [hV _ h4]
      repeat' first
        | (refine J.isJ ?_; (first | (first | (refine J.o 0 ?_; refine J.ev' hΓ ?_) | refine J.nil ?_ | (refine J.o 4 ?_; first | refine J.lT default hΓ ?_ | refine J.lR hΓ ?_) | (refine J.o 3 ?_; first | refine J.iJ hΓ ?_ | refine J.ev' hΓ ?_) | (refine J.o 1 ?_; first | refine J.ad ?_) | (refine J.o 6 ?_; refine J.bx (fun _ => ?_)) | (refine J.o 10 ?_; refine J.ev' hΓ ?_) | (refine J.o 11 ?_; refine J.ev' hΓ ?_))))
        | (first | refine JC.seq ?_ | refine JC.region ?_ | refine JC.block ?_ | refine JC.ret ?_ | refine JC.exit ?_ | refine JC.skip ?_ | refine thenK.nn ?_ | refine thenK.r ?_ | refine thenK.x ?_ | refine blockK.nn ?_ | refine blockK.r ?_ | refine blockK.hit rfl ?_ | (refine JC.cond rfl (fun hc => ?_) (fun hc => ?_) <;> ((try simp only [decide_eq_true_eq, decide_eq_false_iff_not, beq_iff_eq, beq_eq_false_iff_ne, bne_iff_ne, bne_eq_false_iff_eq, Bool.not_eq_true', Bool.not_eq_false', Bool.not_eq_true, Bool.not_eq_false] at hc) <;> first | (first | (exact absurd rfl hc) | (exfalso; omega) | (exact absurd (hc.symm.trans (by assumption : _ = false)) (by decide)) | (exact absurd (hc.symm.trans (by assumption : _ = true)) (by decide))) | skip)) | refine loopK.x ?_)
        | fail
      all_goals first | (exfalso; omega) | exact ret1f rfl rfl rfl (fun w1 hw => ⟨retB hall, hw.below⟩)
end Go.Proofs.YtdiciemlbhkilaaGreatDoor
