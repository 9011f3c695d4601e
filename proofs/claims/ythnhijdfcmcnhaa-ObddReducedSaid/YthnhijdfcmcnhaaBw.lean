/- below: the nodes that are reached; Size. -/
import Derived.Test.YthnhijdfcmcnhaaBv
import Derived.Test.YthnhijdfcmcnhaaBp
namespace Go.Proofs.Ythnhijdfcmcnhaa
open Go Go.Cx Go.RowKit
set_option linter.unusedVariables false
set_option linter.unusedSimpArgs false
set_option maxHeartbeats 4000000
attribute [local irreducible] J JC thenK blockK loopK roundK drawK retK QW Qt pel List.set Calls
open Go.Maps
set_option maxRecDepth 8000
attribute [local irreducible] JE Br eK0 eK2 eK3 brK pc
def evBo (b : Bool) : Value := .bool b
/-- what a visit adds -/
structure Vis (ns : List N3) (out out' : List Nat) (r : Nat) : Prop where
  sub : ∀ x ∈ out, x ∈ out'
  has : r < 2 ∨ r ∈ out'
  new : ∀ x ∈ out', x ∈ out ∨ (2 ≤ x ∧ Rch ns r x)
  cl : ∀ x ∈ out', x ∈ out ∨ (((nd ns x).l < 2 ∨ (nd ns x).l ∈ out') ∧ ((nd ns x).h < 2 ∨ (nd ns x).h ∈ out'))
def seenL (out : List Nat) : List (Int × Bool) := (0, true) :: (1, true) :: out.map fun x : Nat => ((x : Int), true)
theorem seen_get (out : List Nat) (b : Nat) : mget (seenL out) (b : Int) = if b < 2 ∨ b ∈ out then some true else none := by
  have h2 : ∀ l : List Nat, mget (l.map fun x : Nat => ((x : Int), true)) (b : Int) = if b ∈ l then some true else none := by
    intro l
    induction l with
    | nil => rfl
    | cons x l ih =>
      unfold mget at ih ⊢
      rw [List.map_cons, List.find?_cons]
      by_cases hx : x = b
      · subst hx; simp
      · have h3 : ¬ ((x : Int) = (b : Int)) := by omega
        have h4 : ¬ (b = x) := fun e => hx e.symm
        simp only [h3, decide_false, List.mem_cons, h4, false_or]
        exact ih
  have h0 := h2 out
  unfold seenL
  unfold mget at h0 ⊢
  rw [List.find?_cons, List.find?_cons]
  by_cases e0 : b = 0
  · subst e0; simp
  · by_cases e1 : b = 1
    · subst e1; simp
    · have h3 : ¬ ((0 : Int) = (b : Int)) := by omega
      have h4 : ¬ ((1 : Int) = (b : Int)) := by omega
      have h5 : ¬ b < 2 := by omega
      simp only [h3, h4, decide_false, h5, false_or]
      exact h0
theorem seen_put {out : List Nat} {b : Nat} (h : ¬ (b < 2 ∨ b ∈ out)) : mput (seenL out) (b : Int) true = seenL (out ++ [b]) := by
  rw [mput_new true (mget_out (by rw [seen_get, if_neg h]))]
  unfold seenL
  simp
theorem nodup_sub_len : ∀ (l m : List Nat), l.Nodup → (∀ x ∈ l, x ∈ m) → l.length ≤ m.length
  | [], _, _, _ => Nat.zero_le _
  | x :: l, m, hn, hs => by
    obtain ⟨h1, h2⟩ := List.nodup_cons.1 hn
    obtain ⟨s, t, rfl⟩ := List.append_of_mem (hs x (by simp))
    have := nodup_sub_len l (s ++ t) h2 fun y hy => by
      have h3 := hs y (by simp [hy])
      rcases List.mem_append.1 h3 with h4 | h4
      · exact List.mem_append_left _ h4
      · rcases List.mem_cons.1 h4 with h5 | h5
        · subst h5; exact absurd hy h1
        · exact List.mem_append_right _ h5
    simp only [List.length_append, List.length_cons] at this ⊢
    omega
theorem nodup_len {l : List Nat} {m : Nat} (hn : l.Nodup) (h : ∀ x ∈ l, x < m) : l.length ≤ m := by
  have := nodup_sub_len l (List.range m) hn fun x hx => List.mem_range.2 (h x hx)
  rwa [List.length_range] at this
theorem Vis.join {ns : List N3} {out o1 o2 : List Nat} {b : Nat} (h2 : 2 ≤ b) (v1 : Vis ns (out ++ [b]) o1 (nd ns b).l) (v2 : Vis ns o1 o2 (nd ns b).h) : Vis ns out o2 b := by
  have hb : b ∈ o2 := v2.sub _ (v1.sub _ (List.mem_append_right _ (List.mem_singleton_self _)))
  refine ⟨fun x hx => v2.sub _ (v1.sub _ (List.mem_append_left _ hx)), .inr hb, fun x hx => ?_, fun x hx => ?_⟩
  · rcases v2.new x hx with h | ⟨g1, g2⟩
    · rcases v1.new x h with h | ⟨g1, g2⟩
      · rcases List.mem_append.1 h with h | h
        · exact .inl h
        · rw [List.mem_singleton.1 h]; exact .inr ⟨h2, .refl⟩
      · exact .inr ⟨g1, (Rch.low .refl h2).trans g2⟩
    · exact .inr ⟨g1, (Rch.high .refl h2).trans g2⟩
  · rcases v2.cl x hx with h | h
    · rcases v1.cl x h with h | ⟨h3, h4⟩
      · rcases List.mem_append.1 h with h | h
        · exact .inl h
        · rw [List.mem_singleton.1 h]
          exact .inr ⟨v1.has.imp id (v2.sub _), v2.has⟩
      · exact .inr ⟨h3.imp id (v2.sub _), h4.imp id (v2.sub _)⟩
    · exact .inr h
theorem Vis.all {ns : List N3} {o : List Nat} {b : Nat} (v : Vis ns [] o b) (x : Nat) : x ∈ o ↔ (2 ≤ x ∧ Rch ns b x) := by
  constructor
  · intro hx
    rcases v.new x hx with h | h
    · cases h
    · exact h
  · rintro ⟨h2, hr⟩
    have key : x < 2 ∨ x ∈ o := by
      clear h2
      induction hr with
      | refl => exact v.has
      | low _ g2 ih =>
        rcases ih with g | g
        · omega
        · rcases v.cl _ g with g | g
          · cases g
          · exact g.1
      | high _ g2 ih =>
        rcases ih with g | g
        · omega
        · rcases v.cl _ g with g | g
          · cases g
          · exact g.2
    exact key.resolve_left (by omega)
theorem eVisit : Entr Try.prog 131 := Entr.of Try.func131 rfl rfl
theorem eBelow : Entr Try.prog 75 := Entr.of Try.func75 rfl rfl
theorem eSize : Entr Try.prog 27 := Entr.of Try.func27 rfl rfl
def natI (l : List Nat) : List Int := l.map fun x : Nat => (x : Int)
def mapO (b : Nat) : Obj := .cells ⟨[.map (some b)]⟩ 167 (0, 0)
def outO (a : Option Addr) (l c : Nat) : Obj := .cells ⟨[.slice a l c]⟩ 22 (0, 0)
def fnV (c5 c6 c7 c2 : Nat) : Obj := .cells ⟨[.func (.func 131) ⟨[]⟩ ⟨[.pointer (some ⟨c5, 0, none⟩), .pointer (some ⟨c6, 0, none⟩), .pointer (some ⟨c7, 0, none⟩), .pointer (some ⟨c2, 0, none⟩)]⟩]⟩ 168 (0, 0)
theorem visit_any {n : Nat} {K : KS} {s : SS} (so : SOk n K s) (b0 c5 c6 c7 c2 bm : Nat) : ∀ (m b : Nat), n - (nd s.ns b).p = m → b < s.ns.length → ∀ (out : List Nat) (ao : Option Addr) (co : Nat) (hO hM : Heap), out.Nodup → (∀ x ∈ out, x < s.ns.length) →
    OwT encI 1 3 ao co (natI out) hO → MapT Try.prog 3 ekI evBo (seenL out) bm hM →
    ∀ {w0 w : World} {R : Heap} {L : List Heap}, H w0 R ([(c6, outO ao out.length co)] :: hO :: hM :: L) w → Rd R L c5 (mapO bm) → Rd R L c7 (fnV c5 c6 c7 c2) → Rd R L c2 (ptrS b0) → Rd R L b0 (stO K s.an s.ns.length s.cn) → RdH R L s.hN →
    Calls Try.prog 131 #[.int .i64 (b : Int), .pointer (some ⟨c5, 0, none⟩), .pointer (some ⟨c6, 0, none⟩), .pointer (some ⟨c7, 0, none⟩), .pointer (some ⟨c2, 0, none⟩)] w fun e w' => ∃ v L', e = .returned v ∧ H w0 R L' w' ∧ ∃ out' ao' co' hO' hM', v = .tuple #[] ∧ L' = [(c6, outO ao' out'.length co')] :: hO' :: hM' :: L ∧ out'.Nodup ∧ (∀ x ∈ out', x < s.ns.length) ∧ OwT encI 1 3 ao' co' (natI out') hO' ∧ MapT Try.prog 3 ekI evBo (seenL out') bm hM' ∧ Vis s.ns out out' b := by
  intro m
  induction m using Nat.strongRecOn with
  | ind m ih =>
  intro b hm hb out ao co hO hM nod rng oo mp w0 w R L hw r5 r7 r2 rb rn
  have sm := so.sm
  have r5' := r5
  have r7' := r7
  have r2' := r2
  have rb' := rb
  unfold mapO at r5'
  unfold fnV at r7'
  unfold ptrS at r2'
  unfold stO at rb'
  have hsl := so.ow.sl
  have hkey := keyI (b : Int) (by omega)
  have hget := seen_get out b
  by_cases hin : b < 2 ∨ b ∈ out
  · rw [if_pos hin] at hget
    refine calls_in Try.func131 Try.ntmps131 rfl rfl (hw) ?_
    unfold outO
    repeat' first
      | (refine J.isJ ?_; first | (first | (refine J.o 4 ?_; first | refine J.lR hΓ ?_ (hr := r5'.tl.tl.tl)) | (refine J.o 9 ?_; refine J.lk (a := (b : Int)) keyedI ekI_inj mp (by first | exact RdH.hd | exact RdH.hd.tl | exact RdH.hd.tl.tl | exact RdH.hd.tl.tl.tl | exact RdH.hd.tl.tl.tl.tl | exact RdH.hd.tl.tl.tl.tl.tl | exact RdH.hd.tl.tl.tl.tl.tl.tl | exact RdH.hd.tl.tl.tl.tl.tl.tl.tl | exact RdH.old (fun _ hh => hh) | assumption) hkey hΓ ?_; rw [hget])) | (first | (refine J.o 0 ?_; refine J.ev' hΓ ?_) | refine J.nil ?_ | refine J.kd ?_ | (refine J.o 4 ?_; first | refine J.lT default hΓ ?_ | refine J.lR hΓ ?_) | (refine J.o 3 ?_; first | refine J.iA hΓ ?_ | refine J.iJ hΓ ?_ | refine J.fP hΓ ?_ | refine J.iC hΓ ?_ | refine J.ev' hΓ ?_) | (refine J.o 1 ?_; first | refine J.ad ?_ | refine J.sb ?_ | refine J.ng ?_ | refine J.mu ?_) | (refine J.o 5 ?_; first | refine J.t0 hΓ ?_ | refine J.t1 hΓ ?_ | refine J.t2 hΓ ?_ | refine J.tT _ default hΓ (fun _ _ => ?_) | refine J.tT1 _ default hΓ (fun _ _ => ?_) | refine J.tT2 _ default hΓ (fun _ _ => ?_)) | (refine J.o 6 ?_; refine J.bx (fun _ => ?_)) | (refine J.o 7 ?_; refine J.al hΓ (fun _ => ?_)) | (refine J.o 8 ?_; refine J.bd hΓ ?_) | (refine J.o 9 ?_; refine J.bl hΓ (fun _ => ?_)) | (refine J.o 10 ?_; refine J.ev' hΓ ?_) | (refine J.o 11 ?_; refine J.ev' hΓ ?_) | (refine J.o 14 ?_; refine J.mf hΓ ?_) | refine J.kn ?_) | ((fail_if_success refine J.wt ?_); refine J.gc rfl rfl (fun hc => ?_) (fun hc => ?_) <;> ((try simp only [decide_eq_true_eq, decide_eq_false_iff_not, beq_iff_eq, beq_eq_false_iff_ne, bne_iff_ne, bne_eq_false_iff_eq, Bool.not_eq_true', Bool.not_eq_false', Bool.not_eq_true, Bool.not_eq_false] at hc) <;> first | (first | (exact absurd rfl hc) | (exfalso; omega) | (exact absurd (hc.symm.trans (by assumption : _ = false)) (by decide)) | (exact absurd (hc.symm.trans (by assumption : _ = true)) (by decide))) | skip)))
      | (first | refine JC.seq ?_ | refine JC.region ?_ | refine JC.block ?_ | refine JC.ret ?_ | refine JC.exit ?_ | refine JC.skip ?_ | refine thenK.nn ?_ | refine thenK.r ?_ | refine thenK.x ?_ | refine blockK.nn ?_ | refine blockK.r ?_ | refine blockK.hit rfl ?_ | refine blockK.miss rfl ?_ | refine JC.condT rfl ?_ | refine JC.condF rfl ?_ | (refine JC.cond rfl (fun hc => ?_) (fun hc => ?_) <;> ((try simp only [decide_eq_true_eq, decide_eq_false_iff_not, beq_iff_eq, beq_eq_false_iff_ne, bne_iff_ne, bne_eq_false_iff_eq, Bool.not_eq_true', Bool.not_eq_false', Bool.not_eq_true, Bool.not_eq_false] at hc) <;> first | (first | (exact absurd rfl hc) | (exfalso; omega) | (exact absurd (hc.symm.trans (by assumption : _ = false)) (by decide)) | (exact absurd (hc.symm.trans (by assumption : _ = true)) (by decide))) | skip)) | refine drawK.nn ?_ | refine roundK.nn ?_ | refine roundK.r ?_ | refine roundK.x ?_ | refine loopK.r ?_ | refine loopK.x ?_)
      | (fail)
      | fail
    all_goals first | (exfalso; omega) | skip
    all_goals first | refine ret0 rfl (fun w1 hw => ⟨_, _, rfl, hw, out, ao, co, hO, hM, rfl, rfl, nod, rng, oo, mp, ⟨fun x hx => hx, hin, fun x hx => .inl hx, fun x hx => .inl hx⟩⟩) | refine ret0n rfl (fun w1 hw => ⟨_, _, rfl, hw, out, ao, co, hO, hM, rfl, rfl, nod, rng, oo, mp, ⟨fun x hx => hx, hin, fun x hx => .inl hx, fun x hx => .inl hx⟩⟩)
  · rw [if_neg hin] at hget
    have hb2 : 2 ≤ b := by omega
    have hlen : (natI out).length = out.length := by unfold natI; rw [List.length_map]
    have hlen2 : (natI out ++ [(b : Int)]).length = out.length + 1 := by rw [List.length_append, hlen]; rfl
    have ho128 : out.length ≤ 1048576 := Nat.le_trans (nodup_len nod rng) sm
    refine calls_in Try.func131 Try.ntmps131 rfl rfl (hw) ?_
    unfold outO
    repeat' first
      | (refine J.isJ ?_; first | (first | (refine J.o 4 ?_; first | refine J.lR hΓ ?_ (hr := r5'.tl.tl.tl) | refine J.lR hΓ ?_ (hr := Rd.hd.tl)) | (refine J.o 9 ?_; refine J.lk (a := (b : Int)) keyedI ekI_inj mp (by first | exact RdH.hd | exact RdH.hd.tl | exact RdH.hd.tl.tl | exact RdH.hd.tl.tl.tl | exact RdH.hd.tl.tl.tl.tl | exact RdH.hd.tl.tl.tl.tl.tl | exact RdH.hd.tl.tl.tl.tl.tl.tl | exact RdH.hd.tl.tl.tl.tl.tl.tl.tl | exact RdH.old (fun _ hh => hh) | assumption) hkey hΓ ?_; rw [hget]) | (refine J.o 9 ?_; refine J.perm br2 ?_; refine J.mup (a := (b : Int)) (ev := evBo) true keyedI ekI_inj mp hkey hΓ (fun h3 mp3 => ?_)) | ((refine J.o 9 ?_; first | (first | (refine J.ap1 (enc := encI) [(b : Int)] hΓ (fun a2 k2 h2 o2 => ?_)) | (refine J.perm (br1.cons _) ?_; refine J.ap1 (enc := encI) [(b : Int)] hΓ (fun a2 k2 h2 o2 => ?_)) | (refine J.perm (br2.cons _) ?_; refine J.ap1 (enc := encI) [(b : Int)] hΓ (fun a2 k2 h2 o2 => ?_)) | (refine J.perm (br3.cons _) ?_; refine J.ap1 (enc := encI) [(b : Int)] hΓ (fun a2 k2 h2 o2 => ?_)) | (refine J.perm (br4.cons _) ?_; refine J.ap1 (enc := encI) [(b : Int)] hΓ (fun a2 k2 h2 o2 => ?_)) | (refine J.perm (br5.cons _) ?_; refine J.ap1 (enc := encI) [(b : Int)] hΓ (fun a2 k2 h2 o2 => ?_))) | (refine J.perm br1 ?_; first | (refine J.ap1 (enc := encI) [(b : Int)] hΓ (fun a2 k2 h2 o2 => ?_)) | (refine J.perm (br1.cons _) ?_; refine J.ap1 (enc := encI) [(b : Int)] hΓ (fun a2 k2 h2 o2 => ?_)) | (refine J.perm (br2.cons _) ?_; refine J.ap1 (enc := encI) [(b : Int)] hΓ (fun a2 k2 h2 o2 => ?_)) | (refine J.perm (br3.cons _) ?_; refine J.ap1 (enc := encI) [(b : Int)] hΓ (fun a2 k2 h2 o2 => ?_)) | (refine J.perm (br4.cons _) ?_; refine J.ap1 (enc := encI) [(b : Int)] hΓ (fun a2 k2 h2 o2 => ?_)) | (refine J.perm (br5.cons _) ?_; refine J.ap1 (enc := encI) [(b : Int)] hΓ (fun a2 k2 h2 o2 => ?_))) | (refine J.perm br2 ?_; first | (refine J.ap1 (enc := encI) [(b : Int)] hΓ (fun a2 k2 h2 o2 => ?_)) | (refine J.perm (br1.cons _) ?_; refine J.ap1 (enc := encI) [(b : Int)] hΓ (fun a2 k2 h2 o2 => ?_)) | (refine J.perm (br2.cons _) ?_; refine J.ap1 (enc := encI) [(b : Int)] hΓ (fun a2 k2 h2 o2 => ?_)) | (refine J.perm (br3.cons _) ?_; refine J.ap1 (enc := encI) [(b : Int)] hΓ (fun a2 k2 h2 o2 => ?_)) | (refine J.perm (br4.cons _) ?_; refine J.ap1 (enc := encI) [(b : Int)] hΓ (fun a2 k2 h2 o2 => ?_)) | (refine J.perm (br5.cons _) ?_; refine J.ap1 (enc := encI) [(b : Int)] hΓ (fun a2 k2 h2 o2 => ?_)))); rw [hlen2]) | (refine J.o 5 ?_; first | (refine J.perm br3 ?_; refine J.t0 hΓ ?_) | (refine J.perm br4 ?_; refine J.t0 hΓ ?_) | (refine J.perm br5 ?_; refine J.t0 hΓ ?_) | (refine J.perm br6 ?_; refine J.t0 hΓ ?_) | (refine J.perm br7 ?_; refine J.t0 hΓ ?_))) | (first | (refine J.o 0 ?_; refine J.ev' hΓ ?_) | refine J.nil ?_ | refine J.kd ?_ | (refine J.o 4 ?_; first | refine J.lT default hΓ ?_ | refine J.lR hΓ ?_) | (refine J.o 3 ?_; first | refine J.iA hΓ ?_ | refine J.iJ hΓ ?_ | refine J.fP hΓ ?_ | refine J.iC hΓ ?_ | refine J.ev' hΓ ?_) | (refine J.o 1 ?_; first | refine J.ad ?_ | refine J.sb ?_ | refine J.ng ?_ | refine J.mu ?_) | (refine J.o 5 ?_; first | refine J.t0 hΓ ?_ | refine J.t1 hΓ ?_ | refine J.t2 hΓ ?_ | refine J.tT _ default hΓ (fun _ _ => ?_) | refine J.tT1 _ default hΓ (fun _ _ => ?_) | refine J.tT2 _ default hΓ (fun _ _ => ?_)) | (refine J.o 6 ?_; refine J.bx (fun _ => ?_)) | (refine J.o 7 ?_; refine J.al hΓ (fun _ => ?_)) | (refine J.o 8 ?_; refine J.bd hΓ ?_) | (refine J.o 9 ?_; refine J.bl hΓ (fun _ => ?_)) | (refine J.o 10 ?_; refine J.ev' hΓ ?_) | (refine J.o 11 ?_; refine J.ev' hΓ ?_) | (refine J.o 14 ?_; refine J.mf hΓ ?_) | refine J.kn ?_) | ((fail_if_success refine J.wt ?_); refine J.gc rfl rfl (fun hc => ?_) (fun hc => ?_) <;> ((try simp only [decide_eq_true_eq, decide_eq_false_iff_not, beq_iff_eq, beq_eq_false_iff_ne, bne_iff_ne, bne_eq_false_iff_eq, Bool.not_eq_true', Bool.not_eq_false', Bool.not_eq_true, Bool.not_eq_false] at hc) <;> first | (first | (exact absurd rfl hc) | (exfalso; omega) | (exact absurd (hc.symm.trans (by assumption : _ = false)) (by decide)) | (exact absurd (hc.symm.trans (by assumption : _ = true)) (by decide))) | skip)))
      | (first | refine JC.seq ?_ | refine JC.region ?_ | refine JC.block ?_ | refine JC.ret ?_ | refine JC.exit ?_ | refine JC.skip ?_ | refine thenK.nn ?_ | refine thenK.r ?_ | refine thenK.x ?_ | refine blockK.nn ?_ | refine blockK.r ?_ | refine blockK.hit rfl ?_ | refine blockK.miss rfl ?_ | refine JC.condT rfl ?_ | refine JC.condF rfl ?_ | (refine JC.cond rfl (fun hc => ?_) (fun hc => ?_) <;> ((try simp only [decide_eq_true_eq, decide_eq_false_iff_not, beq_iff_eq, beq_eq_false_iff_ne, bne_iff_ne, bne_eq_false_iff_eq, Bool.not_eq_true', Bool.not_eq_false', Bool.not_eq_true, Bool.not_eq_false] at hc) <;> first | (first | (exact absurd rfl hc) | (exfalso; omega) | (exact absurd (hc.symm.trans (by assumption : _ = false)) (by decide)) | (exact absurd (hc.symm.trans (by assumption : _ = true)) (by decide))) | skip)) | refine drawK.nn ?_ | refine roundK.nn ?_ | refine roundK.r ?_ | refine roundK.x ?_ | refine loopK.r ?_ | refine loopK.x ?_)
      | (fail)
      | fail
    rw [seen_put hin] at mp3
    have hnat : natI out ++ [(b : Int)] = natI (out ++ [b]) := by unfold natI; rw [List.map_append]; rfl
    rw [hnat] at o2
    have hpb := so.wf.pl b hb2 hb
    have hlp := so.wf.lp b hb2 hb
    have hhp := so.wf.hp b hb2 hb
    have hll := so.wf.ll b hb2 hb
    have hlh := so.wf.hl b hb2 hb
    have hl1 : (out ++ [b]).length = out.length + 1 := by simp
    have nod1 : (out ++ [b]).Nodup := by
      rw [List.nodup_append]
      refine ⟨nod, by simp, fun x hx y hy => ?_⟩
      rw [List.mem_singleton.1 hy]
      intro e; subst e
      exact hin (.inr hx)
    have rng1 : ∀ x ∈ out ++ [b], x < s.ns.length := fun x hx => by
      rcases List.mem_append.1 hx with h | h
      · exact rng x h
      · rw [List.mem_singleton.1 h]; exact hb
    repeat' first
      | (refine J.isJ ?_; first | (first | (refine J.o 4 ?_; first | refine J.lR hΓ ?_ (hr := r7'.tl.tl.tl) | refine J.lR hΓ ?_ (hr := r2'.tl.tl.tl) | refine J.lR hΓ ?_ (hr := rb'.tl.tl.tl) | refine J.lT default hΓ ?_ (hs := hsl) (hr := rn.tl.tl.tl))) | (first | (refine J.o 0 ?_; refine J.ev' hΓ ?_) | refine J.nil ?_ | refine J.kd ?_ | (refine J.o 4 ?_; first | refine J.lT default hΓ ?_ | refine J.lR hΓ ?_) | (refine J.o 3 ?_; first | refine J.iA hΓ ?_ | refine J.iJ hΓ ?_ | refine J.fP hΓ ?_ | refine J.iC hΓ ?_ | refine J.ev' hΓ ?_) | (refine J.o 1 ?_; first | refine J.ad ?_ | refine J.sb ?_ | refine J.ng ?_ | refine J.mu ?_) | (refine J.o 5 ?_; first | refine J.t0 hΓ ?_ | refine J.t1 hΓ ?_ | refine J.t2 hΓ ?_ | refine J.tT _ default hΓ (fun _ _ => ?_) | refine J.tT1 _ default hΓ (fun _ _ => ?_) | refine J.tT2 _ default hΓ (fun _ _ => ?_)) | (refine J.o 6 ?_; refine J.bx (fun _ => ?_)) | (refine J.o 7 ?_; refine J.al hΓ (fun _ => ?_)) | (refine J.o 8 ?_; refine J.bd hΓ ?_) | (refine J.o 9 ?_; refine J.bl hΓ (fun _ => ?_)) | (refine J.o 10 ?_; refine J.ev' hΓ ?_) | (refine J.o 11 ?_; refine J.ev' hΓ ?_) | (refine J.o 14 ?_; refine J.mf hΓ ?_) | refine J.kn ?_) | ((fail_if_success refine J.wt ?_); refine J.gc rfl rfl (fun hc => ?_) (fun hc => ?_) <;> ((try simp only [decide_eq_true_eq, decide_eq_false_iff_not, beq_iff_eq, beq_eq_false_iff_ne, bne_iff_ne, bne_eq_false_iff_eq, Bool.not_eq_true', Bool.not_eq_false', Bool.not_eq_true, Bool.not_eq_false] at hc) <;> first | (first | (exact absurd rfl hc) | (exfalso; omega) | (exact absurd (hc.symm.trans (by assumption : _ = false)) (by decide)) | (exact absurd (hc.symm.trans (by assumption : _ = true)) (by decide))) | skip)))
      | (first | refine JC.seq ?_ | refine JC.region ?_ | refine JC.block ?_ | refine JC.ret ?_ | refine JC.exit ?_ | refine JC.skip ?_ | refine thenK.nn ?_ | refine thenK.r ?_ | refine thenK.x ?_ | refine blockK.nn ?_ | refine blockK.r ?_ | refine blockK.hit rfl ?_ | refine blockK.miss rfl ?_ | refine JC.condT rfl ?_ | refine JC.condF rfl ?_ | (refine JC.cond rfl (fun hc => ?_) (fun hc => ?_) <;> ((try simp only [decide_eq_true_eq, decide_eq_false_iff_not, beq_iff_eq, beq_eq_false_iff_ne, bne_iff_ne, bne_eq_false_iff_eq, Bool.not_eq_true', Bool.not_eq_false', Bool.not_eq_true, Bool.not_eq_false] at hc) <;> first | (first | (exact absurd rfl hc) | (exfalso; omega) | (exact absurd (hc.symm.trans (by assumption : _ = false)) (by decide)) | (exact absurd (hc.symm.trans (by assumption : _ = true)) (by decide))) | skip)) | refine drawK.nn ?_ | refine roundK.nn ?_ | refine roundK.r ?_ | refine roundK.x ?_ | refine loopK.r ?_ | refine loopK.x ?_)
      | ((refine JC.drawO [(1,0),(1,1),(0,2),(0,3),(1,4),(0,5),(0,6),(0,7),(1,8),(2,9)] (by kernel_rfl) (by kernel_rfl) ?_))
      | fail
    refine J.isJ ?_
    refine J.o 9 ?_
    refine J.callvx eVisit rfl rfl rfl (fun w hw => ih _ (by omega) (nd s.ns b).l rfl hll (out ++ [b]) a2 k2 h2 h3 nod1 rng1 o2 mp3 (by rw [hl1]; exact hw.perm br2) r5 r7 r2 rb rn) ?_
    rintro _ _ ⟨out1, a3, k3, hO1, hM1, rfl, rfl, nod2, rng2, oo1, mp4, vis1⟩
    unfold outO
    repeat' first
      | (refine J.isJ ?_; first | (first | (refine J.o 4 ?_; first | refine J.lR hΓ ?_ (hr := r7'.tl.tl.tl) | refine J.lR hΓ ?_ (hr := r2'.tl.tl.tl) | refine J.lR hΓ ?_ (hr := rb'.tl.tl.tl) | refine J.lT default hΓ ?_ (hs := hsl) (hr := rn.tl.tl.tl))) | (first | (refine J.o 0 ?_; refine J.ev' hΓ ?_) | refine J.nil ?_ | refine J.kd ?_ | (refine J.o 4 ?_; first | refine J.lT default hΓ ?_ | refine J.lR hΓ ?_) | (refine J.o 3 ?_; first | refine J.iA hΓ ?_ | refine J.iJ hΓ ?_ | refine J.fP hΓ ?_ | refine J.iC hΓ ?_ | refine J.ev' hΓ ?_) | (refine J.o 1 ?_; first | refine J.ad ?_ | refine J.sb ?_ | refine J.ng ?_ | refine J.mu ?_) | (refine J.o 5 ?_; first | refine J.t0 hΓ ?_ | refine J.t1 hΓ ?_ | refine J.t2 hΓ ?_ | refine J.tT _ default hΓ (fun _ _ => ?_) | refine J.tT1 _ default hΓ (fun _ _ => ?_) | refine J.tT2 _ default hΓ (fun _ _ => ?_)) | (refine J.o 6 ?_; refine J.bx (fun _ => ?_)) | (refine J.o 7 ?_; refine J.al hΓ (fun _ => ?_)) | (refine J.o 8 ?_; refine J.bd hΓ ?_) | (refine J.o 9 ?_; refine J.bl hΓ (fun _ => ?_)) | (refine J.o 10 ?_; refine J.ev' hΓ ?_) | (refine J.o 11 ?_; refine J.ev' hΓ ?_) | (refine J.o 14 ?_; refine J.mf hΓ ?_) | refine J.kn ?_) | ((fail_if_success refine J.wt ?_); refine J.gc rfl rfl (fun hc => ?_) (fun hc => ?_) <;> ((try simp only [decide_eq_true_eq, decide_eq_false_iff_not, beq_iff_eq, beq_eq_false_iff_ne, bne_iff_ne, bne_eq_false_iff_eq, Bool.not_eq_true', Bool.not_eq_false', Bool.not_eq_true, Bool.not_eq_false] at hc) <;> first | (first | (exact absurd rfl hc) | (exfalso; omega) | (exact absurd (hc.symm.trans (by assumption : _ = false)) (by decide)) | (exact absurd (hc.symm.trans (by assumption : _ = true)) (by decide))) | skip)))
      | (first | refine JC.seq ?_ | refine JC.region ?_ | refine JC.block ?_ | refine JC.ret ?_ | refine JC.exit ?_ | refine JC.skip ?_ | refine thenK.nn ?_ | refine thenK.r ?_ | refine thenK.x ?_ | refine blockK.nn ?_ | refine blockK.r ?_ | refine blockK.hit rfl ?_ | refine blockK.miss rfl ?_ | refine JC.condT rfl ?_ | refine JC.condF rfl ?_ | (refine JC.cond rfl (fun hc => ?_) (fun hc => ?_) <;> ((try simp only [decide_eq_true_eq, decide_eq_false_iff_not, beq_iff_eq, beq_eq_false_iff_ne, bne_iff_ne, bne_eq_false_iff_eq, Bool.not_eq_true', Bool.not_eq_false', Bool.not_eq_true, Bool.not_eq_false] at hc) <;> first | (first | (exact absurd rfl hc) | (exfalso; omega) | (exact absurd (hc.symm.trans (by assumption : _ = false)) (by decide)) | (exact absurd (hc.symm.trans (by assumption : _ = true)) (by decide))) | skip)) | refine drawK.nn ?_ | refine roundK.nn ?_ | refine roundK.r ?_ | refine roundK.x ?_ | refine loopK.r ?_ | refine loopK.x ?_)
      | ((refine JC.drawO [(1,0),(1,1),(0,2),(0,3),(1,4),(0,5),(0,6),(0,7),(1,8),(2,9)] (by kernel_rfl) (by kernel_rfl) ?_))
      | fail
    refine J.isJ ?_
    refine J.o 9 ?_
    refine J.callvx eVisit rfl rfl rfl (fun w hw => ih _ (by omega) (nd s.ns b).h rfl hlh out1 a3 k3 hO1 hM1 nod2 rng2 oo1 mp4 hw r5 r7 r2 rb rn) ?_
    rintro _ _ ⟨out2, a4, k4, hO2, hM2, rfl, rfl, nod3, rng3, oo2, mp5, vis2⟩
    unfold outO
    repeat' first
      | (refine J.isJ ?_; first | (fail) | (first | (refine J.o 0 ?_; refine J.ev' hΓ ?_) | refine J.nil ?_ | refine J.kd ?_ | (refine J.o 4 ?_; first | refine J.lT default hΓ ?_ | refine J.lR hΓ ?_) | (refine J.o 3 ?_; first | refine J.iA hΓ ?_ | refine J.iJ hΓ ?_ | refine J.fP hΓ ?_ | refine J.iC hΓ ?_ | refine J.ev' hΓ ?_) | (refine J.o 1 ?_; first | refine J.ad ?_ | refine J.sb ?_ | refine J.ng ?_ | refine J.mu ?_) | (refine J.o 5 ?_; first | refine J.t0 hΓ ?_ | refine J.t1 hΓ ?_ | refine J.t2 hΓ ?_ | refine J.tT _ default hΓ (fun _ _ => ?_) | refine J.tT1 _ default hΓ (fun _ _ => ?_) | refine J.tT2 _ default hΓ (fun _ _ => ?_)) | (refine J.o 6 ?_; refine J.bx (fun _ => ?_)) | (refine J.o 7 ?_; refine J.al hΓ (fun _ => ?_)) | (refine J.o 8 ?_; refine J.bd hΓ ?_) | (refine J.o 9 ?_; refine J.bl hΓ (fun _ => ?_)) | (refine J.o 10 ?_; refine J.ev' hΓ ?_) | (refine J.o 11 ?_; refine J.ev' hΓ ?_) | (refine J.o 14 ?_; refine J.mf hΓ ?_) | refine J.kn ?_) | ((fail_if_success refine J.wt ?_); refine J.gc rfl rfl (fun hc => ?_) (fun hc => ?_) <;> ((try simp only [decide_eq_true_eq, decide_eq_false_iff_not, beq_iff_eq, beq_eq_false_iff_ne, bne_iff_ne, bne_eq_false_iff_eq, Bool.not_eq_true', Bool.not_eq_false', Bool.not_eq_true, Bool.not_eq_false] at hc) <;> first | (first | (exact absurd rfl hc) | (exfalso; omega) | (exact absurd (hc.symm.trans (by assumption : _ = false)) (by decide)) | (exact absurd (hc.symm.trans (by assumption : _ = true)) (by decide))) | skip)))
      | (first | refine JC.seq ?_ | refine JC.region ?_ | refine JC.block ?_ | refine JC.ret ?_ | refine JC.exit ?_ | refine JC.skip ?_ | refine thenK.nn ?_ | refine thenK.r ?_ | refine thenK.x ?_ | refine blockK.nn ?_ | refine blockK.r ?_ | refine blockK.hit rfl ?_ | refine blockK.miss rfl ?_ | refine JC.condT rfl ?_ | refine JC.condF rfl ?_ | (refine JC.cond rfl (fun hc => ?_) (fun hc => ?_) <;> ((try simp only [decide_eq_true_eq, decide_eq_false_iff_not, beq_iff_eq, beq_eq_false_iff_ne, bne_iff_ne, bne_eq_false_iff_eq, Bool.not_eq_true', Bool.not_eq_false', Bool.not_eq_true, Bool.not_eq_false] at hc) <;> first | (first | (exact absurd rfl hc) | (exfalso; omega) | (exact absurd (hc.symm.trans (by assumption : _ = false)) (by decide)) | (exact absurd (hc.symm.trans (by assumption : _ = true)) (by decide))) | skip)) | refine drawK.nn ?_ | refine roundK.nn ?_ | refine roundK.r ?_ | refine roundK.x ?_ | refine loopK.r ?_ | refine loopK.x ?_)
      | (fail)
      | fail
    all_goals first | refine ret0 rfl (fun w1 hw => ⟨_, _, rfl, hw, out2, a4, k4, hO2, hM2, rfl, rfl, nod3, rng3, oo2, mp5, Vis.join hb2 vis1 vis2⟩) | refine ret0n rfl (fun w1 hw => ⟨_, _, rfl, hw, out2, a4, k4, hO2, hM2, rfl, rfl, nod3, rng3, oo2, mp5, Vis.join hb2 vis1 vis2⟩)
end Go.Proofs.Ythnhijdfcmcnhaa
