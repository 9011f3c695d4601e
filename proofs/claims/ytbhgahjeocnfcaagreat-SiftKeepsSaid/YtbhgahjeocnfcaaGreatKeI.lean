/- SiftKeeps: part 9. -/
import Derived.Test.YtbhgahjeocnfcaaGreatKeH
import Derived.Shelf.Spec.SlicesInsert
import Derived.Shelf.Spec.SlicesInsertGrow
namespace Go.Proofs.YtbhgahjeocnfcaaGreat
open Go Go.Cx Go.RowKit
set_option linter.unusedVariables false
set_option linter.unusedSimpArgs false
set_option maxHeartbeats 4000000
attribute [local irreducible] J JC thenK blockK loopK roundK drawK retK QW Qt pel List.set Calls
open Go.Maps Go.Lib
set_option maxRecDepth 8000
attribute [local irreducible] JE Br eK0 eK3 brK pc
def allA (l : List Int) : List (Int → Bool) := (List.range (2 ^ l.length)).map fun r => betaV l (asg l.length r)
theorem asg_inj {n r q : Nat} (hr : r < 2 ^ n) (hq : q < 2 ^ n) (h : ∀ k, k < n → asg n r k = asg n q k) : r = q := by
  refine Nat.eq_of_testBit_eq fun i => ?_
  rcases Nat.lt_or_ge i n with hi | hi
  · have := h (n - 1 - i) (by omega)
    unfold asg at this
    rw [decide_eq_true (by omega), Bool.true_and, Bool.true_and, show n - 1 - (n - 1 - i) = i by omega] at this
    exact this
  · rw [Nat.testBit_lt_two_pow (Nat.lt_of_lt_of_le hr (Nat.pow_le_pow_right (by decide) hi)), Nat.testBit_lt_two_pow (Nat.lt_of_lt_of_le hq (Nat.pow_le_pow_right (by decide) hi))]
theorem allA_nodup {l : List Int} (hn : l.Nodup) : (allA l).Nodup := by
  unfold allA
  rw [List.Nodup, List.pairwise_map]
  refine List.Pairwise.imp_of_mem (fun {a b} ha hb hab e => hab ?_) (List.nodup_range (n := 2 ^ l.length))
  rw [List.mem_range] at ha hb
  exact asg_inj ha hb fun k hk => by rw [← beta_at hn (asg l.length a) hk, ← beta_at hn (asg l.length b) hk, e]
theorem allA_mem {l : List Int} (hn : l.Nodup) (β : Int → Bool) : β ∈ allA l ↔ ∀ v, v ∉ l → β v = false := by
  unfold allA
  rw [List.mem_map]
  constructor
  · rintro ⟨r, _, rfl⟩ v hv
    exact beta_out _ hv
  · intro h
    refine ⟨idxQ (asgV l β) l.length l.length, List.mem_range.2 (idxQ_ok _ _ _ (Nat.le_refl _)).1, ?_⟩
    funext v
    by_cases hv : v ∈ l
    · obtain ⟨k, hk, e⟩ := mem_at hv
      rw [← e, beta_at hn _ hk, asg_of _ _ hk]
      rfl
    · rw [beta_out _ hv, h v hv]
theorem cntF_all (l : List Int) (F : VF) : cntF l.length (gF l F) = ((allA l).filter F).length := by
  unfold cntF allA
  rw [List.filter_map, List.length_map]
  have : ∀ L : List Nat, (L.map fun r => gF l F (asg l.length r)).count true = (L.filter (F ∘ fun r => betaV l (asg l.length r))).length := by
    intro L
    induction L with
    | nil => rfl
    | cons x L ih =>
      rw [List.map_cons, List.count_cons, ih, List.filter_cons]
      show _ = (if F (betaV l (asg l.length x)) = true then _ else _ : List Nat).length
      have e : gF l F (asg l.length x) = F (betaV l (asg l.length x)) := rfl
      rw [e]
      cases F (betaV l (asg l.length x))
      · rfl
      · simp
  exact this _
theorem cntF_perm {l l' : List Int} (hn : l.Nodup) (hn' : l'.Nodup) (hm : ∀ v, v ∈ l ↔ v ∈ l') (F : VF) : cntF l.length (gF l F) = cntF l'.length (gF l' F) := by
  rw [cntF_all, cntF_all]
  have hs : ∀ {l l' : List Int}, l.Nodup → l'.Nodup → (∀ v, v ∈ l ↔ v ∈ l') → ((allA l).filter F).length ≤ ((allA l').filter F).length := by
    intro l l' hn hn' hm
    refine nodup_le _ _ (List.Pairwise.filter _ (allA_nodup hn)) fun β hβ => ?_
    rw [List.mem_filter] at hβ ⊢
    exact ⟨(allA_mem hn' β).2 fun v hv => (allA_mem hn β).1 hβ.1 v fun g => hv ((hm v).1 g), hβ.2⟩
  exact Nat.le_antisymm (hs hn hn' hm) (hs hn' hn fun v => (hm v).symm)
end Go.Proofs.YtbhgahjeocnfcaaGreat
namespace Go.Proofs.YtbhgahjeocnfcaaGreat
open Go Go.Cx Go.RowKit
set_option linter.unusedVariables false
set_option linter.unusedSimpArgs false
set_option maxHeartbeats 4000000
attribute [local irreducible] J JC thenK blockK loopK roundK drawK retK QW Qt pel List.set Calls
open Go.Maps Go.Lib
set_option maxRecDepth 8000
attribute [local irreducible] JE Br eK0 eK3 brK pc
theorem beq_S (b : ByteArray) : (b == b) = true := by
  show (b.data == b.data) = true
  exact beq_self_eq_true _
section
variable {P : Program} {n : Nat} {w0 : World} {R : Heap} {l0 : List Oper} {K : Exit → Fr → List Heap → Prop} {f : Fr} {L : List Heap} {rest : List (Nat × Oper)} {κ : Nat}
variable {Γ : List (Nat × TI)} {d : Nat} {ty : TypeId} {pos : String} {aft : Array Edge} {g : Option (Nat × Bool)} {t u : TypeId} {x y : Operand}
theorem J.eN {b : ByteArray} {fd : Field} {s1 b1 s2 b2 : Nat} {z1 z2 : Option Value} (hΓ : Fits P Γ) (k : J P n w0 R l0 K rest (upd f d (.bool true)) L) (hg : wantB n f l0 ⟨some d, .binOp .eql t x y u, ty, pos, aft, g⟩ = true := by exact rfl) (hx : Cx.ev n f x = .agg ⟨[.string b]⟩ := by exact rfl) (hy : Cx.ev n f y = .agg ⟨[.string b]⟩ := by exact rfl)
    (ht : Go.Cx.look Γ t = some ⟨.struct ⟨[fd]⟩, s1, z1, b1⟩ := by exact rfl) (hl : Go.Cx.look Γ fd.type = some ⟨.string, s2, z2, b2⟩ := by exact rfl) (hp : partEv Γ fd.type [.string b] fd.offset = some (.string b) := by exact rfl) (h1 : P.eqGuardType P.depth t = false := by kernel_rfl) (h2 : P.stoodInHeld t = false := by kernel_rfl) (h3 : (fd.name != "_") = true := by kernel_rfl) :
    J P n w0 R l0 K ((κ, ⟨some d, .binOp .eql t x y u, ty, pos, aft, g⟩) :: rest) f L :=
  J.p hg (fun w => by
    have hu := (hΓ t _ ht).1
    have hfs : P.fieldsOf t = ⟨[fd]⟩ := by unfold Program.fieldsOf; rw [hu]
    have hs := (hΓ fd.type _ hl).1
    have heq : ∀ d : Nat, (Op.equalIn (d + 1) fd.type (.string b) (.string b)).run P w = .ok true w := fun d => by
      have hbb : (b == b) = true := beq_S b
      simp [Op.equalIn, run_underlying hs, hbb]
    have hne : fd.name ≠ "_" := by simpa using h3
    simp only [execOp, hx, hy, Sem.run_bind]
    rw [run_eqGuard_agg w .eql t x y _ _ h1]
    simp only [Result.andThen_ok]
    rw [run_eql_struct, run_equalIn_agg w 9999 t _ _ (by rw [hu, hfs]) h2, hfs]
    unfold Op.eqFields
    rw [if_pos hne]
    simp only [Sem.run_bind, partEv_ok hΓ hp, Result.andThen_ok, heq 9998]
    rfl) k
end
end Go.Proofs.YtbhgahjeocnfcaaGreat
namespace Go.Proofs.YtbhgahjeocnfcaaGreat
open Go Go.Cx Go.RowKit
set_option linter.unusedVariables false
set_option linter.unusedSimpArgs false
set_option maxHeartbeats 4000000
attribute [local irreducible] J JC thenK blockK loopK roundK drawK retK QW Qt pel List.set Calls
open Go.Maps Go.Lib
set_option maxRecDepth 8000
attribute [local irreducible] JE Br eK0 eK3 brK pc
theorem mput_keep {κ β : Type} [DecidableEq κ] {m : List (κ × β)} {x z : κ} {y v : β} (h : (z, v) ∈ m) : ∃ v', (z, v') ∈ mput m x y := by
  have : z ∈ (mput m x y).map (·.1) := by
    rw [mput_keys]
    have hz : z ∈ m.map (·.1) := List.mem_map.2 ⟨_, h, rfl⟩
    split
    · exact hz
    · exact List.mem_append_left _ hz
  obtain ⟨p, hp, e⟩ := List.mem_map.1 this
  exact ⟨p.2, by rw [← e]; exact hp⟩
structure ROk (n : Nat) (o l : List Int) (ns ts : List N3) (m : List (Int × Nat)) : Prop where
  at_ : ∀ (a y : Nat), ((a : Int), y) ∈ m → a < ns.length ∧ y < ts.length ∧ ∀ β, fn n ts y (asgV l β) = fn n ns a (asgV o β)
  two : ∀ a : Nat, a < 2 → ∃ y, ((a : Int), y) ∈ m
theorem ROk.ext {n : Nat} {o l : List Int} {ns ts us : List N3} {m : List (Int × Nat)} (w : WF n ts) (h : ROk n o l ns ts m) (e : Ext ts us) : ROk n o l ns us m := ⟨fun a y hm => by
  obtain ⟨h1, h2, h3⟩ := h.at_ a y hm
  exact ⟨h1, Nat.lt_of_lt_of_le h2 e.le, fun β => by rw [fn_ext w e h2, h3]⟩, h.two⟩
theorem ROk.put {n : Nat} {o l : List Int} {ns ts : List N3} {m : List (Int × Nat)} (h : ROk n o l ns ts m) {a y : Nat} (h1 : a < ns.length) (h2 : y < ts.length) (h3 : ∀ β, fn n ts y (asgV l β) = fn n ns a (asgV o β)) : ROk n o l ns ts (mput m (a : Int) y) := ⟨fun b z hm => by
  rcases mput_mem hm with hm | ⟨e1, e2⟩
  · exact h.at_ b z hm
  · obtain rfl : b = a := by omega
    subst e2
    exact ⟨h1, h2, h3⟩, fun b hb => by
  obtain ⟨z, hz⟩ := h.two b hb
  exact mput_keep hz⟩
def fnR (c1 c2 c3 c4 : Nat) : Obj := .cells ⟨[.func (.func 65) ⟨[]⟩ ⟨[.pointer (some ⟨c1, 0, none⟩), .pointer (some ⟨c2, 0, none⟩), .pointer (some ⟨c3, 0, none⟩), .pointer (some ⟨c4, 0, none⟩)]⟩]⟩ 52 (0, 0)
theorem eRebC : Entr Tryz.prog 65 := Entr.of Tryz.func65 rfl rfl
theorem eReb2 : Entr Tryz.prog 38 := Entr.of Tryz.func38 rfl rfl
theorem stR_of2 {R : Heap} {L : List Heap} {K : KS} {b : Nat} {s : SS} {hO : Heap} (r : RdH R L (stR K b s hO)) {w0 w : World} (hw : H w0 R L w) : Holds (stR K b s hO) w := hw.rdH r
set_option maxHeartbeats 16000000 in
theorem rebC_any {n : Nat} {K Kt : KS} {s : SS} {o l : List Int} {hO hP hO2 hP2 : Heap} (so : SOk n K s) (po : POk K o hO hP) (pt : POk Kt l hO2 hP2) (hKt : Kt.no = n) (h8 : n ≤ 8) (hm : ∀ v, v ∈ o → v ∈ l) (bs bt c1 c2 c3 c4 bd : Nat) : ∀ (d a : Nat) (t : SS) (m : List (Int × Nat)) (hD : Heap), n ≤ (nd s.ns a).p + d → SOk n Kt t → a < s.ns.length → t.ns.length + (2 ^ d - 1) * 256 ≤ 1048576 → MapT Tryz.prog 3 ekI evI m bd hD → ROk n o l s.ns t.ns m →
    ∀ {w0 w : World} {R : Heap} {L : List Heap}, H w0 R (sF Kt bt t ++ (hO2 :: hP2 :: hD :: L)) w → RdH R L (stR K bs s hO) → Rd R L c1 (mapD bd) → Rd R L c2 (ptrS bs) → Rd R L c3 (ptrS bt) → Rd R L c4 (fnR c1 c2 c3 c4) →
    Calls Tryz.prog 65 #[.int .i64 (a : Int), .pointer (some ⟨c1, 0, none⟩), .pointer (some ⟨c2, 0, none⟩), .pointer (some ⟨c3, 0, none⟩), .pointer (some ⟨c4, 0, none⟩)] w fun e w' => ∃ v L', e = .returned v ∧ H w0 R L' w' ∧ ∃ t' m' hD' y, v = .tuple #[.int .i64 ((y : Nat) : Int), .int .i64 0] ∧ L' = sF Kt bt t' ++ (hO2 :: hP2 :: hD' :: L) ∧ MapT Tryz.prog 3 ekI evI m' bd hD' ∧ ROk n o l s.ns t'.ns m' ∧ Adds n Kt t t' ((2 ^ d - 1) * 256) y ∧ ∀ β, fn n t'.ns y (asgV l β) = fn n s.ns a (asgV o β) := by
  have h2n := pow8 h8
  intro d
  induction d using Nat.strongRecOn with
  | ind d ih =>
  intro a t m hD hp st ha hfull mp ro w0 w R L hw rS r1 r2 r3 r4
  have sm := so.sm
  have wf := so.wf
  have hno := so.no
  have hpl := po.len
  have hkey := keyI (a : Int) (by omega)
  have r1' := r1
  have r2' := r2
  have r3' := r3
  have r4' := r4
  unfold mapD at r1'
  unfold ptrS at r2' r3'
  unfold fnR at r4'
  unfold sF at hw
  simp only [List.cons_append, List.nil_append] at hw
  cases hget : mget m (a : Int) with
  | some y =>
    obtain ⟨_, hy, hfy⟩ := ro.at_ a y (mget_mem hget)
    refine calls_in Tryz.func65 Tryz.ntmps65 rfl rfl (hw) ?_
    repeat' first
      | (refine J.isJ ?_; first | (first | (refine J.o 4 ?_; refine J.lR hΓ ?_ (hr := r1'.tl.tl.tl.tl.tl.tl.tl)) | (refine J.o 9 ?_; refine J.lk (a := (a : Int)) keyedI ekI_inj mp (by first | exact RdH.hd | exact RdH.hd.tl | exact RdH.hd.tl.tl | exact RdH.hd.tl.tl.tl | exact RdH.hd.tl.tl.tl.tl | exact RdH.hd.tl.tl.tl.tl.tl | exact RdH.hd.tl.tl.tl.tl.tl.tl | exact RdH.hd.tl.tl.tl.tl.tl.tl.tl | exact RdH.old (fun _ hh => hh) | assumption) hkey hΓ ?_; rw [hget])) | (first | (refine J.o 0 ?_; refine J.ev' hΓ ?_) | refine J.nil ?_ | (refine J.o 4 ?_; first | refine J.lR hΓ ?_) | (refine J.o 3 ?_; first | refine J.ev' hΓ ?_) | (refine J.o 10 ?_; refine J.ev' hΓ ?_) | (refine J.o 11 ?_; refine J.ev' hΓ ?_)))
      | (first | refine JC.seq ?_ | refine JC.region ?_ | refine JC.ret ?_ | refine JC.skip ?_ | refine thenK.nn ?_ | refine thenK.r ?_ | refine JC.condT rfl ?_ | refine JC.condF rfl ?_)
      | (fail)
      | fail
    all_goals first | (exfalso; omega) | skip
    refine ret2f rfl rfl rfl rfl rfl (fun w1 hw => ⟨_, _, rfl, hw, t, m, hD, y, rfl, rfl, mp, ro, ⟨st, Ext.refl _, by omega, hy⟩, hfy⟩)
  | none =>
    have h2 : 2 ≤ a := by
      rcases Nat.lt_or_ge a 2 with g | g
      · obtain ⟨y, hy⟩ := ro.two a g
        exact absurd hy (mget_out hget y)
      · exact g
    have hpn := wf.pl a h2 ha
    have hll := wf.ll a h2 ha
    have hhl := wf.hl a h2 ha
    have hlp := wf.lp a h2 ha
    have hhp := wf.hp a h2 ha
    have hvo : o.getD (nd s.ns a).p default ∈ o := mem_g o _ (by omega)
    obtain ⟨k, hk⟩ : ∃ k, rk l (o.getD (nd s.ns a).p default) 0 = some k := by
      cases h : rk l (o.getD (nd s.ns a).p default) 0 with
      | some k => exact ⟨k, rfl⟩
      | none => exact absurd (hm _ hvo) (rk_none.1 h)
    have hv := po.ok.1 _ hvo
    have hd2 : 2 ^ d = 2 ^ (d - 1) + 2 ^ (d - 1) := by rw [← Nat.mul_two, ← Nat.pow_succ, show (d - 1).succ = d by omega]
    have hd0 : 0 < 2 ^ (d - 1) := Nat.pow_pos (by decide)
    have cP := fun w hw => Parts_node so po bs a h2 ha w hw
    refine calls_in Tryz.func65 Tryz.ntmps65 rfl rfl (hw) ?_
    repeat' first
      | (refine J.isJ ?_; first | (first | (refine J.o 4 ?_; first | refine J.lR hΓ ?_ (hr := r1'.tl.tl.tl.tl.tl.tl.tl) | refine J.lR hΓ ?_ (hr := r2'.tl.tl.tl.tl.tl.tl.tl) | refine J.lR hΓ ?_ (hr := r3'.tl.tl.tl.tl.tl.tl.tl) | refine J.lR hΓ ?_ (hr := r4'.tl.tl.tl.tl.tl.tl.tl)) | (refine J.o 9 ?_; refine J.lk (a := (a : Int)) keyedI ekI_inj mp (by first | exact RdH.hd | exact RdH.hd.tl | exact RdH.hd.tl.tl | exact RdH.hd.tl.tl.tl | exact RdH.hd.tl.tl.tl.tl | exact RdH.hd.tl.tl.tl.tl.tl | exact RdH.hd.tl.tl.tl.tl.tl.tl | exact RdH.hd.tl.tl.tl.tl.tl.tl.tl | exact RdH.old (fun _ hh => hh) | assumption) hkey hΓ ?_; rw [hget]) | (refine J.fc 62 ?_; refine J.call0 eParts rfl rfl (fun w hw => cP w (stR_of2 rS.tl.tl.tl.tl.tl.tl.tl hw)) ?_) | (refine J.fc 66 ?_; refine J.callx eVarS rfl rfl (fun w hw => Var_any st pt _ (by omega) k hk (by omega) (L := hD :: L) hw) ?_; rintro _ _ ⟨t1, x1, rfl, rfl, ad1, f1⟩; unfold sF; simp only [List.cons_append, List.nil_append])) | (first | (refine J.o 0 ?_; refine J.ev' hΓ ?_) | refine J.nil ?_ | (refine J.o 4 ?_; first | refine J.lR hΓ ?_) | (refine J.o 3 ?_; first | refine J.ev' hΓ ?_) | (refine J.o 10 ?_; refine J.ev' hΓ ?_) | (refine J.o 11 ?_; refine J.ev' hΓ ?_)))
      | (first | refine JC.seq ?_ | refine JC.region ?_ | refine JC.ret ?_ | refine JC.skip ?_ | refine thenK.nn ?_ | refine thenK.r ?_ | refine JC.condT rfl ?_ | refine JC.condF rfl ?_)
      | (fail)
      | fail
    all_goals first | (exfalso; omega) | skip
    have l1 := ad1.le
    refine J.isJ ?_
    refine J.o 9 ?_
    refine J.callvx eRebC rfl rfl rfl (fun w hw => ih (d - 1) (by omega) (nd s.ns a).l t1 m hD (by omega) ad1.ok hll (by omega) mp (ro.ext st.wf ad1.ext) (L := L) hw rS r1 r2 r3 r4) ?_
    rintro _ _ ⟨t2, m2, hD2, y2, rfl, rfl, mp2, ro2, ad2, f2⟩
    have l2 := ad2.le
    unfold sF
    simp only [List.cons_append, List.nil_append]
    repeat' first
      | (refine J.isJ ?_; first | ((refine J.o 4 ?_; refine J.lR hΓ ?_ (hr := r4'.tl.tl.tl.tl.tl.tl.tl))) | (first | (refine J.o 0 ?_; refine J.ev' hΓ ?_) | refine J.nil ?_ | (refine J.o 4 ?_; first | refine J.lR hΓ ?_) | (refine J.o 3 ?_; first | refine J.ev' hΓ ?_) | (refine J.o 10 ?_; refine J.ev' hΓ ?_) | (refine J.o 11 ?_; refine J.ev' hΓ ?_)))
      | (first | refine JC.seq ?_ | refine JC.region ?_ | refine JC.ret ?_ | refine JC.skip ?_ | refine thenK.nn ?_ | refine thenK.r ?_ | refine JC.condT rfl ?_ | refine JC.condF rfl ?_)
      | (fail)
      | fail
    all_goals first | (exfalso; omega) | skip
    refine J.isJ ?_
    refine J.o 9 ?_
    refine J.callvx eRebC rfl rfl rfl (fun w hw => ih (d - 1) (by omega) (nd s.ns a).h t2 m2 hD2 (by omega) ad2.ok hhl (by omega) mp2 ro2 (L := L) hw rS r1 r2 r3 r4) ?_
    rintro _ _ ⟨t3, m3, hD3, y3, rfl, rfl, mp3, ro3, ad3, f3⟩
    have l3 := ad3.le
    unfold sF
    simp only [List.cons_append, List.nil_append]
    repeat' first
      | (refine J.isJ ?_; first | (first | (refine J.o 4 ?_; first | refine J.lR hΓ ?_ (hr := r3'.tl.tl.tl.tl.tl.tl.tl)) | (refine J.fc 67 ?_; refine J.callx eIf rfl rfl (fun w hw => If_any ad3.ok x1 (ad3.old (ad2.old ad1.lt)) y3 ad3.lt y2 (ad3.old ad2.lt) (by omega) (L := hO2 :: hP2 :: hD3 :: L) hw) ?_; rintro _ _ ⟨t4, y4, rfl, rfl, ad4, f4⟩; unfold sF; simp only [List.cons_append, List.nil_append]) | (refine J.o 4 ?_; refine J.lR hΓ ?_ (hr := r1'.tl.tl.tl.tl.tl.tl.tl)) | (refine J.o 9 ?_; refine J.perm (bring_perm 6 _) ?_; refine J.mup (a := (a : Int)) (ev := evI) y4 keyedI ekI_inj mp3 hkey hΓ (fun h4 mt4 => ?_))) | (first | (refine J.o 0 ?_; refine J.ev' hΓ ?_) | refine J.nil ?_ | (refine J.o 4 ?_; first | refine J.lR hΓ ?_) | (refine J.o 3 ?_; first | refine J.ev' hΓ ?_) | (refine J.o 10 ?_; refine J.ev' hΓ ?_) | (refine J.o 11 ?_; refine J.ev' hΓ ?_)))
      | (first | refine JC.seq ?_ | refine JC.region ?_ | refine JC.ret ?_ | refine JC.skip ?_ | refine thenK.nn ?_ | refine thenK.r ?_ | refine JC.condT rfl ?_ | refine JC.condF rfl ?_)
      | (fail)
      | fail
    all_goals first | (exfalso; omega) | skip
    have l4 := ad4.le
    have e12 := ad1.ext.trans ad2.ext
    have e23 := ad2.ext.trans ad3.ext
    have hff : ∀ β, fn n t4.ns y4 (asgV l β) = fn n s.ns a (asgV o β) := fun β => by
      have hβ : asgV l β k = β (o.getD (nd s.ns a).p default) := by
        unfold asgV
        have := (rk_some hk).2.2
        rw [Nat.sub_zero] at this
        rw [this]
      have h1 := f1 (asgV l β)
      dsimp only at h1
      rw [hβ] at h1
      rw [f4]
      dsimp only
      rw [fn_ext ad1.ok.wf e23 ad1.lt, h1, f3, fn_ext ad2.ok.wf ad3.ext ad2.lt, f2, fn_node wf _ h2 ha]
      rfl
    have ro4 := (ro3.ext ad3.ok.wf ad4.ext).put ha ad4.lt hff
    refine ret2f rfl rfl rfl rfl rfl (fun w1 hw => ⟨_, _, rfl, H.sel (l := [_, _, _, _, _, _, _]) (M := L) hw [1, 2, 3, 4, 5, 6, 0], t4, _, h4, y4, rfl, rfl, mt4, ro4, (((ad1.trans ad2).trans ad3).trans ad4).mono (by omega), hff⟩)
end Go.Proofs.YtbhgahjeocnfcaaGreat
namespace Go.Proofs.YtbhgahjeocnfcaaGreat
open Go Go.Cx Go.RowKit
set_option linter.unusedVariables false
set_option linter.unusedSimpArgs false
set_option maxHeartbeats 4000000
attribute [local irreducible] J JC thenK blockK loopK roundK drawK retK QW Qt pel List.set Calls
open Go.Maps Go.Lib
set_option maxRecDepth 8000
attribute [local irreducible] JE Br eK0 eK3 brK pc
structure Stv (F : VF) (l : List Int) (K : KS) (s : SS) (y : Nat) (hO hP : Heap) : Prop where
  so : SOk l.length K s
  po : POk K l hO hP
  sy : Says s.ns l y F
theorem Stv.ho {F : VF} {l : List Int} {K : KS} {s : SS} {y : Nat} {hO hP : Heap} (st : Stv F l K s y hO hP) : okOrd l := st.po.ok
theorem ROk.start {n : Nat} {o l : List Int} {ns ts : List N3} (w : WF n ns) (w2 : WF n ts) : ROk n o l ns ts [((0 : Int), 0), ((1 : Int), 1)] := by
  have h1 := w.two
  have h2 := w2.two
  refine ⟨fun a y hm => ?_, fun a ha => ?_⟩
  · rcases List.mem_cons.1 hm with e | hm
    · obtain ⟨e1, e2⟩ := Prod.mk.inj e
      obtain rfl : a = 0 := by omega
      subst e2
      exact ⟨by omega, by omega, fun β => by rw [fn_0 w, fn_0 w2]⟩
    · obtain ⟨e1, e2⟩ := Prod.mk.inj (List.mem_singleton.1 hm)
      obtain rfl : a = 1 := by omega
      subst e2
      exact ⟨by omega, by omega, fun β => by rw [fn_1 w, fn_1 w2]⟩
  · rcases (by omega : a = 0 ∨ a = 1) with rfl | rfl
    · exact ⟨0, List.mem_cons_self⟩
    · exact ⟨1, List.mem_cons_of_mem _ List.mem_cons_self⟩
def RebQ (F : VF) (l : List Int) (L : List Heap) (v : Value) (L' : List Heap) : Prop := ∃ bt Kt t y hO2 hP2, v = .tuple #[.pointer (some ⟨bt, 0, none⟩), .int .i64 ((y : Nat) : Int), .int .i64 0] ∧ L' = sF Kt bt t ++ (hO2 :: hP2 :: L) ∧ Stv F l Kt t y hO2 hP2
set_option maxHeartbeats 16000000 in
theorem rebuilt_any {F : VF} {o : List Int} {K : KS} {s : SS} {a : Nat} {hO hP : Heap} (sv : Stv F o K s a hO hP) (h8 : o.length ≤ 8) (l : List Int) (hlen : l.length = o.length) (ho : okOrd l) (hm : ∀ v, v ∈ o → v ∈ l) (al : Option Addr) (cl : Nat) (hl : Heap) (hs : SlT encI 1 al l hl) {w0 w : World} {R : Heap} {L : List Heap} {bs : Nat} (rS : RdH R L (stR K bs s hO)) (rl : RdH R L hl) (hw : H w0 R L w) :
    Calls Tryz.prog 38 #[.pointer (some ⟨bs, 0, none⟩), .int .i64 (a : Int), .slice al l.length cl] w fun e w' => ∃ v L', e = .returned v ∧ H w0 R L' w' ∧ RebQ F l L v L' := by
  have h2n : 2 ^ o.length ≤ 2 ^ 8 := Nat.pow_le_pow_right (by decide) h8
  have so := sv.so
  have ha := sv.sy.1
  refine calls_in Tryz.func38 Tryz.ntmps38 rfl rfl (hw) ?_
  refine JC.seq ?_
  refine JC.region ?_
  refine J.isJ ?_
  refine J.o 6 ?_
  refine J.bx (fun c2 => ?_)
  repeat' first
    | (refine J.isJ ?_; first | (first | (refine J.o 7 ?_; first | refine J.al (t := 30) hΓ (fun c3 => ?_) | refine J.al (t := 67) hΓ (fun c1 => ?_) | refine J.al (t := 52) hΓ (fun c4 => ?_)) | (refine J.o 14 ?_; refine J.mfV [.pointer (some ⟨c1, 0, none⟩), .pointer (some ⟨c2, 0, none⟩), .pointer (some ⟨c3, 0, none⟩), .pointer (some ⟨c4, 0, none⟩)] hΓ ?_) | (refine J.fc 27 ?_; refine J.callx eNew rfl rfl (fun w hw => new_any l al cl hl hs ho rl.tl hw) ?_; rintro _ _ ⟨bt, Kt, t, hO2, hP2, rfl, rfl, st, hns, pt⟩; have hlt : t.ns.length = 2 := (by rw [hns]; rfl); unfold sF; simp only [List.cons_append, List.nil_append]) | (refine J.o 9 ?_; first | refine J.mkm (fun bd => ?_) | refine J.ins (ev := evI) 0 keyedI ekI_inj (MapT.nil _) (keyI 0 (by omega)) hΓ (fun h1 mp1 => ?_) | refine J.ins (ev := evI) 1 keyedI ekI_inj mp1 (keyI 1 (by omega)) hΓ (fun hD mp => ?_))) | (first | (refine J.o 0 ?_; refine J.ev' hΓ ?_) | refine J.nil ?_ | (refine J.o 4 ?_; first | refine J.lR hΓ ?_) | (refine J.o 3 ?_; first | refine J.ev' hΓ ?_) | (refine J.o 5 ?_; first | refine J.t0 hΓ ?_) | (refine J.o 6 ?_; refine J.bx (fun _ => ?_)) | (refine J.o 7 ?_; refine J.al hΓ (fun _ => ?_)) | (refine J.o 10 ?_; refine J.ev' hΓ ?_) | (refine J.o 11 ?_; refine J.ev' hΓ ?_)))
    | (first | refine JC.seq ?_ | refine JC.region ?_ | refine JC.ret ?_ | refine JC.skip ?_ | refine thenK.nn ?_ | refine JC.condF rfl ?_)
    | (fail)
    | fail
  all_goals first | (exfalso; omega) | skip
  rw [hlen] at st
  have hin : ∀ β, fn o.length s.ns a (asgV o β) = F β := sv.sy.2
  have hpw : 0 < 2 ^ o.length := Nat.pow_pos (by decide)
  refine J.isJ ?_
  refine J.o 9 ?_
  refine J.callvx eRebC rfl rfl rfl (fun w hw => rebC_any so sv.po pt st.no h8 hm bs bt c1 c2 c3 c4 bd o.length a t _ hD (by omega) st ha (by omega) mp (ROk.start so.wf st.wf) (L := [(c4, fnR c1 c2 c3 c4)] :: [(c1, mapD bd)] :: [(c3, ptrS bt)] :: [(c2, ptrS bs)] :: L) (H.sel (l := [_, _, _, _, _, _, _, _, _, _, _]) (M := L) hw [4, 5, 6, 7, 8, 9, 2, 0, 1, 3, 10]) rS.tl.tl.tl.tl Rd.hd.tl Rd.hd.tl.tl.tl Rd.hd.tl.tl Rd.hd) ?_
  rintro _ _ ⟨t2, m2, hD2, y2, rfl, rfl, mp2, ro2, ad2, f2⟩
  unfold sF
  simp only [List.cons_append, List.nil_append]
  repeat' first
    | (refine J.isJ ?_; first | (first | (refine J.o 4 ?_; refine J.lR hΓ ?_ (hr := Rd.hd.tl.tl.tl.tl.tl.tl.tl.tl.tl))) | (first | (refine J.o 0 ?_; refine J.ev' hΓ ?_) | refine J.nil ?_ | (refine J.o 4 ?_; first | refine J.lR hΓ ?_) | (refine J.o 3 ?_; first | refine J.ev' hΓ ?_) | (refine J.o 5 ?_; first | refine J.t0 hΓ ?_) | (refine J.o 6 ?_; refine J.bx (fun _ => ?_)) | (refine J.o 7 ?_; refine J.al hΓ (fun _ => ?_)) | (refine J.o 10 ?_; refine J.ev' hΓ ?_) | (refine J.o 11 ?_; refine J.ev' hΓ ?_)))
    | (first | refine JC.seq ?_ | refine JC.region ?_ | refine JC.ret ?_ | refine JC.skip ?_ | refine thenK.nn ?_ | refine JC.condF rfl ?_)
    | (fail)
    | fail
  all_goals first | (exfalso; omega) | skip
  refine ret3f rfl rfl rfl rfl rfl rfl rfl (fun w1 hw => ⟨_, _, rfl, H.sel (l := [_, _, _, _, _, _, _, _, _, _, _]) (M := L) hw [0, 1, 2, 3, 4, 5], bt, Kt, t2, y2, hO2, hP2, rfl, rfl, ?_⟩)
  have ok2 := ad2.ok
  have lt2 := ad2.lt
  rw [← hlen] at ok2 f2
  exact ⟨ok2, pt, lt2, fun β => by rw [f2, hlen]; exact hin β⟩
theorem stR_b {R : Heap} {L : List Heap} {K : KS} {b : Nat} {s : SS} {hO : Heap} (r : RdH R L (stR K b s hO)) : Rd R L b (stO K s.an s.ns.length s.cn) := r _ List.mem_cons_self
theorem stR_N {R : Heap} {L : List Heap} {K : KS} {b : Nat} {s : SS} {hO : Heap} (r : RdH R L (stR K b s hO)) : RdH R L s.hN := fun x hx => r x (List.mem_cons_of_mem _ (List.mem_append_left _ hx))
theorem stR_hd {R : Heap} {K : KS} {b : Nat} {s : SS} {hO hP : Heap} (M : List Heap) : RdH R (sF K b s ++ (hO :: hP :: M)) (stR K b s hO) := fun x hx => by
  rcases List.mem_cons.1 hx with rfl | hx
  · exact (Rd.hd : Rd R (sF K b s ++ (hO :: hP :: M)) b _)
  · rcases List.mem_append.1 hx with h | h
    · exact (RdH.hd.tl : RdH R (sF K b s ++ (hO :: hP :: M)) s.hN) x h
    · exact (RdH.hd.tl.tl.tl.tl : RdH R (sF K b s ++ (hO :: hP :: M)) hO) x h
theorem stR_tl {R : Heap} {L : List Heap} {h : Heap} (r : RdH R L h) (K : KS) (b : Nat) (s : SS) (hO hP : Heap) : RdH R (sF K b s ++ (hO :: hP :: L)) h := RdH.app (sF K b s) r.tl.tl
end Go.Proofs.YtbhgahjeocnfcaaGreat
namespace Go.Proofs.YtbhgahjeocnfcaaGreat
open Go Go.Cx Go.RowKit
set_option linter.unusedVariables false
set_option linter.unusedSimpArgs false
set_option maxHeartbeats 4000000
attribute [local irreducible] J JC thenK blockK loopK roundK drawK retK QW Qt pel List.set Calls
open Go.Maps Go.Lib
set_option maxRecDepth 8000
attribute [local irreducible] JE Br eK0 eK3 brK pc
def swp (o : List Int) (p : Nat) : List Int := (o.set p (o.getD (p + 1) default)).set (p + 1) (o.getD p default)
theorem swp_len (o : List Int) (p : Nat) : (swp o p).length = o.length := by simp [swp]
theorem swp_get (o : List Int) {p : Nat} (hp : p + 1 < o.length) (i : Nat) : (swp o p).getD i default = if i = p then o.getD (p + 1) default else if i = p + 1 then o.getD p default else o.getD i default := by
  unfold swp
  rw [List.getD_eq_getElem?_getD, List.getElem?_set, List.getElem?_set, List.length_set]
  by_cases h1 : i = p
  · rw [if_pos h1, h1, if_neg (by omega), if_pos rfl, if_pos (by omega)]; rfl
  · rw [if_neg h1]
    by_cases h2 : i = p + 1
    · rw [if_pos h2, if_pos h2.symm, if_pos (by omega)]; rfl
    · rw [if_neg h2, if_neg (fun g => h2 g.symm), if_neg (fun g => h1 g.symm), List.getD_eq_getElem?_getD]
theorem swp_perm (o : List Int) {p : Nat} (hp : p + 1 < o.length) : (swp o p).Perm o := by
  have e1 : o = o.take p ++ o.getD p default :: o.getD (p + 1) default :: o.drop (p + 2) := by
    have h1 := (List.take_append_drop p o).symm
    have h2 := drop_g o p (by omega)
    have h3 := drop_g o (p + 1) hp
    rw [h2, h3] at h1
    exact h1
  have e2 : swp o p = o.take p ++ o.getD (p + 1) default :: o.getD p default :: o.drop (p + 2) := by
    refine List.ext_getElem (by rw [swp_len]; conv => lhs; rw [e1]
                                simp) fun i h1 h2 => ?_
    have hg : ∀ (l : List Int) (h : i < l.length), l[i] = l.getD i default := fun l h => by rw [List.getD_eq_getElem?_getD, List.getElem?_eq_getElem h]; rfl
    rw [hg _ h1, hg _ h2, swp_get o hp]
    rw [swp_len] at h1
    have ht : (o.take p).length = p := by rw [List.length_take]; omega
    rcases Nat.lt_trichotomy i p with g | g | g
    · rw [if_neg (by omega), if_neg (by omega), List.getD_eq_getElem?_getD, List.getD_eq_getElem?_getD, List.getElem?_append_left (by omega), List.getElem?_take_of_lt g]
    · subst g
      rw [if_pos rfl, List.getD_eq_getElem?_getD (l := _ ++ _), List.getElem?_append_right (by omega), ht, Nat.sub_self]; rfl
    · rw [if_neg (by omega), List.getD_eq_getElem?_getD (l := _ ++ _), List.getElem?_append_right (by omega), ht]
      by_cases g2 : i = p + 1
      · rw [if_pos g2, g2, show p + 1 - p = 1 by omega]; rfl
      · obtain ⟨j, hj⟩ : ∃ j, i - p = j + 2 := ⟨i - p - 2, by omega⟩
        rw [if_neg g2, hj, List.getElem?_cons_succ, List.getElem?_cons_succ, List.getElem?_drop, List.getD_eq_getElem?_getD, show p + 2 + j = i by omega]
  rw [e2]
  conv => rhs; rw [e1]
  exact List.Perm.append_left _ (List.Perm.swap _ _ _)
theorem swp_ord {o : List Int} (h : okOrd o) {p : Nat} (hp : p + 1 < o.length) : okOrd (swp o p) :=
  ⟨fun v hv => h.1 v ((swp_perm o hp).mem_iff.1 hv), (swp_perm o hp).nodup_iff.2 h.2⟩
theorem eSwap : Entr Tryz.prog 17 := Entr.of Tryz.func17 rfl rfl
theorem eChecked : Entr Tryz.prog 34 := Entr.of Tryz.func34 rfl rfl
theorem checked_any {n : Nat} {K : KS} {s : SS} (so : SOk n K s) (b a : Nat) (ha : a < s.ns.length) {hO : Heap} {w0 w : World} {R : Heap} {L : List Heap} (rS : RdH R L (stR K b s hO)) (hw : H w0 R L w) :
    Calls Tryz.prog 34 #[.pointer (some ⟨b, 0, none⟩), .int .i64 (a : Int)] w fun e w' => ∃ v L', e = .returned v ∧ H w0 R L' w' ∧ v = .int .i64 0 ∧ L' = L := by
  refine calls_in Tryz.func34 Tryz.ntmps34 rfl rfl (hw) ?_
  repeat' first
    | (refine J.isJ ?_; first | (first | (refine J.o 11 ?_; refine J.pN hΓ ?_) | (refine J.fc 16 ?_; refine J.callx eSize rfl rfl (fun w hw => Size_any so b a ha (stR_b rS) (stR_N rS) hw) ?_; rintro _ _ ⟨l, rfl, rfl, bel⟩)) | (first | (refine J.o 0 ?_; refine J.ev' hΓ ?_) | refine J.nil ?_ | (refine J.o 3 ?_; first | refine J.ev' hΓ ?_) | (refine J.o 10 ?_; refine J.ev' hΓ ?_) | (refine J.o 11 ?_; refine J.ev' hΓ ?_)))
    | (first | refine JC.seq ?_ | refine JC.region ?_ | refine JC.ret ?_ | refine JC.skip ?_ | refine thenK.nn ?_ | refine JC.condF rfl ?_)
    | (fail)
    | fail
  all_goals first | (exfalso; omega) | skip
  refine ret1f rfl rfl rfl (fun w1 hw => ⟨_, _, rfl, hw, rfl, rfl⟩)
theorem rebuilt_n {F : VF} {o : List Int} {K : KS} {s : SS} {a : Nat} {hO hP : Heap} (sv : Stv F o K s a hO hP) (h8 : o.length ≤ 8) (l : List Int) (nl : Nat) (hnl : l.length = nl) (hlen : l.length = o.length) (ho : okOrd l) (hm : ∀ v, v ∈ o → v ∈ l) (al : Option Addr) (cl : Nat) (hl : Heap) (hs : SlT encI 1 al l hl) {w0 w : World} {R : Heap} {L : List Heap} {bs : Nat} (rS : RdH R L (stR K bs s hO)) (rl : RdH R L hl) (hw : H w0 R L w) :
    Calls Tryz.prog 38 #[.pointer (some ⟨bs, 0, none⟩), .int .i64 (a : Int), .slice al nl cl] w fun e w' => ∃ v L', e = .returned v ∧ H w0 R L' w' ∧ RebQ F l L v L' := by
  subst hnl
  exact rebuilt_any sv h8 l hlen ho hm al cl hl hs rS rl hw
theorem H.drop6 {K : KS} {b : Nat} {s : SS} {hO hP h : Heap} {L : List Heap} {w0 w : World} {R : Heap} (hw : H w0 R (sF K b s ++ (hO :: hP :: h :: L)) w) : H w0 R (sF K b s ++ (hO :: hP :: L)) w := H.sel (l := [_, _, _, _, _, _, _]) (M := L) hw [0, 1, 2, 3, 4, 5]
theorem Swap_any {F : VF} {o : List Int} {K : KS} {s : SS} {a : Nat} {hO hP : Heap} (sv : Stv F o K s a hO hP) (h8 : o.length ≤ 8) (p : Nat) (hp : p + 1 < o.length) {w0 w : World} {R : Heap} {L : List Heap} {bs : Nat} (rS : RdH R L (stR K bs s hO)) (hw : H w0 R L w) :
    Calls Tryz.prog 17 #[.pointer (some ⟨bs, 0, none⟩), .int .i64 (a : Int), .int .i64 (p : Int)] w fun e w' => ∃ v L', e = .returned v ∧ H w0 R L' w' ∧ RebQ F (swp o p) L v L' := by
  have so := sv.so
  have ha := sv.sy.1
  have hsl : (swp o p).length = o.length := swp_len o p
  have cO := fun w hw => Order_any so sv.po bs w hw
  have hg1 : (o.set p (o.getD (p + 1) default)).length = o.length := by simp
  refine calls_in Tryz.func17 Tryz.ntmps17 rfl rfl (hw) ?_
  repeat' first
    | (refine J.isJ ?_; first | (first | (refine J.fc 34 ?_; refine J.callx eChecked rfl rfl (fun w hw => checked_any so bs a ha rS hw) ?_; rintro _ _ ⟨rfl, rfl⟩) | (refine J.fc 21 ?_; refine J.call1 eOrder rfl rfl (fun w hw => cO w (stR_of2 rS hw)) ?_; rintro _ ho ⟨ao, co, rfl, oo⟩) | (refine J.o 3 ?_; refine J.iJ hΓ ?_ (hs := oo.sl)) | (refine J.o 4 ?_; refine J.lT default hΓ ?_ (hs := oo.sl) (hr := RdH.hd)) | (refine J.o 5 ?_; first | refine J.tT (enc := encI) (o.getD (p + 1) default) default hΓ (fun h5 o5 => ?_) (ho := oo))) | (first | (refine J.o 0 ?_; refine J.ev' hΓ ?_) | refine J.nil ?_ | (refine J.o 4 ?_; first | refine J.lT default hΓ ?_) | (refine J.o 3 ?_; first | refine J.iJ hΓ ?_ | refine J.ev' hΓ ?_) | (refine J.o 1 ?_; first | refine J.ad ?_ | refine J.sb ?_) | (refine J.o 5 ?_; first | refine J.tT _ default hΓ (fun _ _ => ?_)) | (refine J.o 10 ?_; refine J.ev' hΓ ?_) | (refine J.o 11 ?_; refine J.ev' hΓ ?_)))
    | (first | refine JC.seq ?_ | refine JC.region ?_ | refine JC.ret ?_ | refine JC.skip ?_ | refine thenK.nn ?_ | refine JC.condF rfl ?_ | (refine JC.cond rfl (fun hc => ?_) (fun hc => ?_) <;> ((try simp only [decide_eq_true_eq, decide_eq_false_iff_not, beq_iff_eq, beq_eq_false_iff_ne, bne_iff_ne, bne_eq_false_iff_eq, Bool.not_eq_true', Bool.not_eq_false', Bool.not_eq_true, Bool.not_eq_false] at hc) <;> first | (first | (exact absurd rfl hc) | (exfalso; omega) | (exact absurd (hc.symm.trans (by assumption : _ = false)) (by decide)) | (exact absurd (hc.symm.trans (by assumption : _ = true)) (by decide))) | skip)) | refine drawK.nn ?_)
    | ((refine JC.drawO [(0,0),(0,1),(0,2),(0,3),(0,4),(0,5),(0,6),(0,7),(0,8),(1,9),(0,10),(0,11),(0,12),(1,13),(0,14),(2,15),(0,16),(2,17)] (by decide +kernel) (by decide +kernel) ?_))
    | fail
  all_goals first | (exfalso; omega) | skip
  rename_i h6 o6
  have hq : ((p : Int) + 1).toNat = p + 1 := by omega
  rw [hq] at o6
  have o7 : OwT encI 1 3 ao co (swp o p) h6 := o6
  repeat' first
    | (refine J.isJ ?_; first | ((refine J.fc 38 ?_; refine J.callx eReb2 rfl rfl (fun w hw => rebuilt_n sv h8 (swp o p) o.length hsl hsl (swp_ord sv.ho hp) (fun v hv => (swp_perm o hp).mem_iff.2 hv) ao co h6 o7.sl rS.tl RdH.hd hw) ?_; rintro _ _ ⟨bt, Kt, t, y, hO2, hP2, rfl, rfl, sv2⟩)) | (first | (refine J.o 0 ?_; refine J.ev' hΓ ?_) | refine J.nil ?_ | (refine J.o 4 ?_; first | refine J.lT default hΓ ?_) | (refine J.o 3 ?_; first | refine J.iJ hΓ ?_ | refine J.ev' hΓ ?_) | (refine J.o 1 ?_; first | refine J.ad ?_ | refine J.sb ?_) | (refine J.o 5 ?_; first | refine J.tT _ default hΓ (fun _ _ => ?_)) | (refine J.o 10 ?_; refine J.ev' hΓ ?_) | (refine J.o 11 ?_; refine J.ev' hΓ ?_)))
    | (first | refine JC.seq ?_ | refine JC.region ?_ | refine JC.ret ?_ | refine JC.skip ?_ | refine thenK.nn ?_ | refine JC.condF rfl ?_ | (refine JC.cond rfl (fun hc => ?_) (fun hc => ?_) <;> ((try simp only [decide_eq_true_eq, decide_eq_false_iff_not, beq_iff_eq, beq_eq_false_iff_ne, bne_iff_ne, bne_eq_false_iff_eq, Bool.not_eq_true', Bool.not_eq_false', Bool.not_eq_true, Bool.not_eq_false] at hc) <;> first | (first | (exact absurd rfl hc) | (exfalso; omega) | (exact absurd (hc.symm.trans (by assumption : _ = false)) (by decide)) | (exact absurd (hc.symm.trans (by assumption : _ = true)) (by decide))) | skip)) | refine drawK.nn ?_)
    | (fail)
    | fail
  all_goals first | (exfalso; omega) | skip
  refine ret3f rfl rfl rfl rfl rfl rfl rfl (fun w1 hw => ⟨_, _, rfl, H.drop6 hw, bt, Kt, t, y, hO2, hP2, rfl, rfl, sv2⟩)
end Go.Proofs.YtbhgahjeocnfcaaGreat
namespace Go.Proofs.YtbhgahjeocnfcaaGreat
open Go Go.Cx Go.RowKit
set_option linter.unusedVariables false
set_option linter.unusedSimpArgs false
set_option maxHeartbeats 4000000
attribute [local irreducible] J JC thenK blockK loopK roundK drawK retK QW Qt pel List.set Calls
open Go.Maps Go.Lib
set_option maxRecDepth 8000
attribute [local irreducible] JE Br eK0 eK3 brK pc
section
variable {P : Program} {n : Nat} {w0 : World} {R : Heap} {l0 : List Oper} {K : Exit → Fr → List Heap → Prop} {f : Fr} {L : List Heap} {rest : List (Nat × Oper)} {κ : Nat}
variable {d : Nat} {ty : TypeId} {pos : String} {aft : Array Edge} {g : Option (Nat × Bool)} {t u : TypeId} {x y : Operand}
theorem J.eqT2 {Γ : List (Nat × TI)} {a b : Nat} (hΓ : Fits P Γ) (h : a = b) (k : J P n w0 R l0 K rest (upd f d (.bool true)) L) (hg : wantB n f l0 ⟨some d, .binOp .eql t x y u, ty, pos, aft, g⟩ = true := by exact rfl) (hx : Cx.ev n f x = .int .i64 (a : Int) := by exact rfl) (hy : Cx.ev n f y = .int .i64 (b : Int) := by exact rfl) (hv : pureEv Γ (Cx.ev n f) (.binOp .eql t x y u) = some (.bool ((a : Int) == (b : Int))) := by exact rfl) : J P n w0 R l0 K ((κ, ⟨some d, .binOp .eql t x y u, ty, pos, aft, g⟩) :: rest) f L := by
  subst h
  have e : ((a : Int) == (a : Int)) = true := by simp
  rw [e] at hv
  exact J.ev hΓ hg hv k
end
end Go.Proofs.YtbhgahjeocnfcaaGreat
namespace Go.Proofs.YtbhgahjeocnfcaaGreat
open Go Go.Cx Go.RowKit
set_option linter.unusedVariables false
set_option linter.unusedSimpArgs false
set_option maxHeartbeats 4000000
attribute [local irreducible] J JC thenK blockK loopK roundK drawK retK QW Qt pel List.set Calls
open Go.Maps Go.Lib
set_option maxRecDepth 8000
attribute [local irreducible] JE Br eK0 eK3 brK pc
theorem ePairs : Entr Tryz.prog 23 := Entr.of Tryz.func23 rfl rfl
def pairP (k : Nat) : Nat → List (List Int)
  | 0 => []
  | i + 1 => pairP k i ++ [[-((i : Int) + 1), -((i : Int) + 1) - k]]
def ThV (N : Nat) (T : List (List Int)) (v : Value) (h : Heap) : Prop := ∃ a c vs, v = .agg ⟨[.int .i64 (N : Int), .slice a vs.length c]⟩ ∧ vs.map (·.l) = T ∧ LLR a vs h
def cellT (b k : Nat) (a : Option Addr) (n c : Nat) : Heap := [(b, .cells ⟨[.int .i64 ((2 * k : Nat) : Int), .slice a n c]⟩ 24 (0, 0))]
theorem pairs_any (k : Nat) (hk : k ≤ 100) (w : World) : Calls Tryz.prog 23 #[.int .i64 (k : Int)] w (Gives (ThV (2 * k) (pairP k k)) w) := by
  refine calls_of_JC (R := []) Tryz.func23 Tryz.ntmps23 rfl rfl (Holds.nil _) ?_
  refine JC.seq ?_
  refine JC.region ?_
  refine J.isJ ?_
  refine J.o 7 ?_
  refine J.al hΓ (fun b2 => ?_)
  repeat' first
    | (refine J.isJ ?_; first | (first | (refine J.o 1 ?_; refine J.gmul (a := 2) (b := k) ?_ (hw := wI64 (by omega))) | (refine J.o 7 ?_; refine J.al hΓ (fun b3 => ?_))) | (first | (refine J.o 0 ?_; refine J.ev' hΓ ?_) | refine J.nil ?_ | (refine J.o 4 ?_; first | refine J.lR hΓ ?_) | (refine J.o 3 ?_; first | refine J.ev' hΓ ?_) | (refine J.o 1 ?_; first | refine J.ad ?_ | refine J.sb ?_ | refine J.ng ?_) | (refine J.o 5 ?_; first | refine J.t0 hΓ ?_ | refine J.t2 hΓ ?_) | (refine J.o 7 ?_; refine J.al hΓ (fun _ => ?_)) | (refine J.o 8 ?_; refine J.bd hΓ ?_) | (refine J.o 9 ?_; refine J.bl hΓ (fun _ => ?_)) | (refine J.o 10 ?_; refine J.ev' hΓ ?_) | (refine J.o 11 ?_; refine J.ev' hΓ ?_)))
    | (first | refine JC.seq ?_ | refine JC.region ?_ | refine JC.block ?_ | refine JC.ret ?_ | refine JC.exit ?_ | refine JC.skip ?_ | refine thenK.nn ?_ | refine thenK.x ?_ | refine blockK.nn ?_ | refine blockK.hit rfl ?_ | (refine JC.cond rfl (fun hc => ?_) (fun hc => ?_) <;> ((try simp only [decide_eq_true_eq, decide_eq_false_iff_not, beq_iff_eq, beq_eq_false_iff_ne, bne_iff_ne, bne_eq_false_iff_eq, Bool.not_eq_true', Bool.not_eq_false', Bool.not_eq_true, Bool.not_eq_false] at hc) <;> first | (first | (exact absurd rfl hc) | (exfalso; omega) | (exact absurd (hc.symm.trans (by assumption : _ = false)) (by decide)) | (exact absurd (hc.symm.trans (by assumption : _ = true)) (by decide))) | skip)) | refine loopK.x ?_)
    | (fail)
    | fail
  all_goals first | (exfalso; omega) | skip
  refine JC.nilF (JC.nilF (JC.perm (bring_perm 2 _) ?_))
  refine JC.loopG (fun i => i == 4 || Nat.ble 8 i) (fun m g L => ∃ (i : Nat) (vs : List HV) (aO : Option Addr) (cO : Nat) (hO hI : Heap), g 4 = .int .i64 ((i + 1 : Nat) : Int) ∧ i + m = k ∧ vs.length = i ∧ vs.map (·.l) = pairP k i ∧ OwT encHV 1 28 aO cO vs hO ∧ (∀ v ∈ vs, SlT encI 1 v.a v.l hI) ∧ L = [cellT b3 k aO vs.length cO, hO, hI, [(b2, .cells ⟨[.int .i64 0, .slice none 0 0]⟩ 24 (0, 0))]]) k ⟨0, [], none, 0, [], [], rfl, by omega, rfl, rfl, OwT.nil (fun _ => rfl), fun v hv => (by cases hv), rfl⟩ ?_
  rintro m g L ⟨i, vs, aO, cO, hO, hI, e4, him, hvl, hvs, oO, sI, rfl⟩
  refine JC.pin 4 e4 ?_
  unfold cellT
  rcases Nat.lt_or_ge i k with hik | hik
  ·
    repeat' first
      | (refine J.isJ ?_; first | (first | (refine J.o 4 ?_; refine J.lR hΓ ?_ (hr := Rd.hd)) | (refine J.o 9 ?_; first | refine J.bl (e := 3) hΓ (fun bl => ?_) | refine J.bl (e := 28) hΓ (fun bm => ?_)) | (refine J.o 9 ?_; first | (first | (refine J.ap1 (enc := encHV) [(⟨some ⟨bl, 0, none⟩, 2, [-((i : Int) + 1), -((i : Int) + 1) - k]⟩ : HV)] hΓ (fun a2 c2 h2 o2 => ?_)) | (refine J.perm (br1.cons _) ?_; refine J.ap1 (enc := encHV) [(⟨some ⟨bl, 0, none⟩, 2, [-((i : Int) + 1), -((i : Int) + 1) - k]⟩ : HV)] hΓ (fun a2 c2 h2 o2 => ?_)) | (refine J.perm (br2.cons _) ?_; refine J.ap1 (enc := encHV) [(⟨some ⟨bl, 0, none⟩, 2, [-((i : Int) + 1), -((i : Int) + 1) - k]⟩ : HV)] hΓ (fun a2 c2 h2 o2 => ?_)) | (refine J.perm (br3.cons _) ?_; refine J.ap1 (enc := encHV) [(⟨some ⟨bl, 0, none⟩, 2, [-((i : Int) + 1), -((i : Int) + 1) - k]⟩ : HV)] hΓ (fun a2 c2 h2 o2 => ?_)) | (refine J.perm (br4.cons _) ?_; refine J.ap1 (enc := encHV) [(⟨some ⟨bl, 0, none⟩, 2, [-((i : Int) + 1), -((i : Int) + 1) - k]⟩ : HV)] hΓ (fun a2 c2 h2 o2 => ?_)) | (refine J.perm (br5.cons _) ?_; refine J.ap1 (enc := encHV) [(⟨some ⟨bl, 0, none⟩, 2, [-((i : Int) + 1), -((i : Int) + 1) - k]⟩ : HV)] hΓ (fun a2 c2 h2 o2 => ?_))) | (refine J.perm br1 ?_; first | (refine J.ap1 (enc := encHV) [(⟨some ⟨bl, 0, none⟩, 2, [-((i : Int) + 1), -((i : Int) + 1) - k]⟩ : HV)] hΓ (fun a2 c2 h2 o2 => ?_)) | (refine J.perm (br1.cons _) ?_; refine J.ap1 (enc := encHV) [(⟨some ⟨bl, 0, none⟩, 2, [-((i : Int) + 1), -((i : Int) + 1) - k]⟩ : HV)] hΓ (fun a2 c2 h2 o2 => ?_)) | (refine J.perm (br2.cons _) ?_; refine J.ap1 (enc := encHV) [(⟨some ⟨bl, 0, none⟩, 2, [-((i : Int) + 1), -((i : Int) + 1) - k]⟩ : HV)] hΓ (fun a2 c2 h2 o2 => ?_)) | (refine J.perm (br3.cons _) ?_; refine J.ap1 (enc := encHV) [(⟨some ⟨bl, 0, none⟩, 2, [-((i : Int) + 1), -((i : Int) + 1) - k]⟩ : HV)] hΓ (fun a2 c2 h2 o2 => ?_)) | (refine J.perm (br4.cons _) ?_; refine J.ap1 (enc := encHV) [(⟨some ⟨bl, 0, none⟩, 2, [-((i : Int) + 1), -((i : Int) + 1) - k]⟩ : HV)] hΓ (fun a2 c2 h2 o2 => ?_)) | (refine J.perm (br5.cons _) ?_; refine J.ap1 (enc := encHV) [(⟨some ⟨bl, 0, none⟩, 2, [-((i : Int) + 1), -((i : Int) + 1) - k]⟩ : HV)] hΓ (fun a2 c2 h2 o2 => ?_))) | (refine J.perm br2 ?_; first | (refine J.ap1 (enc := encHV) [(⟨some ⟨bl, 0, none⟩, 2, [-((i : Int) + 1), -((i : Int) + 1) - k]⟩ : HV)] hΓ (fun a2 c2 h2 o2 => ?_)) | (refine J.perm (br1.cons _) ?_; refine J.ap1 (enc := encHV) [(⟨some ⟨bl, 0, none⟩, 2, [-((i : Int) + 1), -((i : Int) + 1) - k]⟩ : HV)] hΓ (fun a2 c2 h2 o2 => ?_)) | (refine J.perm (br2.cons _) ?_; refine J.ap1 (enc := encHV) [(⟨some ⟨bl, 0, none⟩, 2, [-((i : Int) + 1), -((i : Int) + 1) - k]⟩ : HV)] hΓ (fun a2 c2 h2 o2 => ?_)) | (refine J.perm (br3.cons _) ?_; refine J.ap1 (enc := encHV) [(⟨some ⟨bl, 0, none⟩, 2, [-((i : Int) + 1), -((i : Int) + 1) - k]⟩ : HV)] hΓ (fun a2 c2 h2 o2 => ?_)) | (refine J.perm (br4.cons _) ?_; refine J.ap1 (enc := encHV) [(⟨some ⟨bl, 0, none⟩, 2, [-((i : Int) + 1), -((i : Int) + 1) - k]⟩ : HV)] hΓ (fun a2 c2 h2 o2 => ?_)) | (refine J.perm (br5.cons _) ?_; refine J.ap1 (enc := encHV) [(⟨some ⟨bl, 0, none⟩, 2, [-((i : Int) + 1), -((i : Int) + 1) - k]⟩ : HV)] hΓ (fun a2 c2 h2 o2 => ?_))))) | (first | (refine J.o 0 ?_; refine J.ev' hΓ ?_) | refine J.nil ?_ | (refine J.o 4 ?_; first | refine J.lR hΓ ?_) | (refine J.o 3 ?_; first | refine J.ev' hΓ ?_) | (refine J.o 1 ?_; first | refine J.ad ?_ | refine J.sb ?_ | refine J.ng ?_) | (refine J.o 5 ?_; first | refine J.t0 hΓ ?_ | refine J.t2 hΓ ?_) | (refine J.o 7 ?_; refine J.al hΓ (fun _ => ?_)) | (refine J.o 8 ?_; refine J.bd hΓ ?_) | (refine J.o 9 ?_; refine J.bl hΓ (fun _ => ?_)) | (refine J.o 10 ?_; refine J.ev' hΓ ?_) | (refine J.o 11 ?_; refine J.ev' hΓ ?_)))
      | (first | refine JC.seq ?_ | refine JC.region ?_ | refine JC.block ?_ | refine JC.ret ?_ | refine JC.exit ?_ | refine JC.skip ?_ | refine thenK.nn ?_ | refine thenK.x ?_ | refine blockK.nn ?_ | refine blockK.hit rfl ?_ | (refine JC.cond rfl (fun hc => ?_) (fun hc => ?_) <;> ((try simp only [decide_eq_true_eq, decide_eq_false_iff_not, beq_iff_eq, beq_eq_false_iff_ne, bne_iff_ne, bne_eq_false_iff_eq, Bool.not_eq_true', Bool.not_eq_false', Bool.not_eq_true, Bool.not_eq_false] at hc) <;> first | (first | (exact absurd rfl hc) | (exfalso; omega) | (exact absurd (hc.symm.trans (by assumption : _ = false)) (by decide)) | (exact absurd (hc.symm.trans (by assumption : _ = true)) (by decide))) | skip)) | refine loopK.x ?_)
      | (fail)
      | fail
    all_goals first | (exfalso; omega) | skip
    have hsl : SlT encI 1 (some ⟨bl, 0, none⟩) [-((i : Int) + 1), -((i : Int) + 1) - k] [(bl, .cells ⟨[.int .i64 (-((i + 1 : Nat) : Int)), .int .i64 (-((i + 1 : Nat) : Int) - k)]⟩ 3 (0, 0))] := slArg bl [-((i : Int) + 1), -((i : Int) + 1) - k] 3
    refine loopK.nn (m - 1) (by omega) (by repeat (first | refine Ag.upd rfl ?_ | exact Ag.hv)) ⟨_, ⟨i + 1, vs ++ [⟨some ⟨bl, 0, none⟩, 2, [-((i : Int) + 1), -((i : Int) + 1) - k]⟩], a2, c2, h2, [(bl, .cells ⟨[.int .i64 (-((i + 1 : Nat) : Int)), .int .i64 (-((i + 1 : Nat) : Int) - k)]⟩ 3 (0, 0))] ++ hI, ?_, by omega, by rw [List.length_append, hvl]; rfl, by rw [List.map_append, hvs]; rfl, o2, fun v hv => ?_, rfl⟩, fun w hw => by
      have hw2 := (H.sel (l := [_, _, _, _, _]) (M := []) hw [1, 3, 2, 0, 4]).mg1
      exact H.sel (l := [_, _, _, _]) (M := []) hw2 [1, 2, 0, 3]⟩
    · show Value.int .i64 _ = _; congr 1
    · rcases List.mem_append.1 hv with g | g
      · exact (sI v g).sub fun x hx => List.mem_append_right _ hx
      · rw [List.mem_singleton.1 g]
        exact hsl.sub fun x hx => List.mem_append_left _ hx
  ·
    obtain rfl : i = k := by omega
    repeat' first
      | (refine J.isJ ?_; first | (first | (refine J.o 4 ?_; refine J.lR hΓ ?_ (hr := Rd.hd)) | (refine J.o 5 ?_; first | (refine J.perm br3 ?_; refine J.t0 hΓ ?_) | (refine J.perm br4 ?_; refine J.t0 hΓ ?_) | (refine J.perm br5 ?_; refine J.t0 hΓ ?_) | (refine J.perm br6 ?_; refine J.t0 hΓ ?_) | (refine J.perm br7 ?_; refine J.t0 hΓ ?_))) | (first | (refine J.o 0 ?_; refine J.ev' hΓ ?_) | refine J.nil ?_ | (refine J.o 4 ?_; first | refine J.lR hΓ ?_) | (refine J.o 3 ?_; first | refine J.ev' hΓ ?_) | (refine J.o 1 ?_; first | refine J.ad ?_ | refine J.sb ?_ | refine J.ng ?_) | (refine J.o 5 ?_; first | refine J.t0 hΓ ?_ | refine J.t2 hΓ ?_) | (refine J.o 7 ?_; refine J.al hΓ (fun _ => ?_)) | (refine J.o 8 ?_; refine J.bd hΓ ?_) | (refine J.o 9 ?_; refine J.bl hΓ (fun _ => ?_)) | (refine J.o 10 ?_; refine J.ev' hΓ ?_) | (refine J.o 11 ?_; refine J.ev' hΓ ?_)))
      | (first | refine JC.seq ?_ | refine JC.region ?_ | refine JC.block ?_ | refine JC.ret ?_ | refine JC.exit ?_ | refine JC.skip ?_ | refine thenK.nn ?_ | refine thenK.x ?_ | refine blockK.nn ?_ | refine blockK.hit rfl ?_ | (refine JC.cond rfl (fun hc => ?_) (fun hc => ?_) <;> ((try simp only [decide_eq_true_eq, decide_eq_false_iff_not, beq_iff_eq, beq_eq_false_iff_ne, bne_iff_ne, bne_eq_false_iff_eq, Bool.not_eq_true', Bool.not_eq_false', Bool.not_eq_true, Bool.not_eq_false] at hc) <;> first | (first | (exact absurd rfl hc) | (exfalso; omega) | (exact absurd (hc.symm.trans (by assumption : _ = false)) (by decide)) | (exact absurd (hc.symm.trans (by assumption : _ = true)) (by decide))) | skip)) | refine loopK.x ?_)
      | (fail)
      | fail
    all_goals first | (exfalso; omega) | skip
    refine retC hΓ rfl rfl rfl Rd.hd rfl (fun w1 hw => ?_)
    have hw2 := (H.sel (l := [_, _, _, _]) (M := []) hw [2, 3]).mg1
    exact Gives.of hw2 ⟨aO, cO, vs, rfl, hvs, oO.sl.sub fun x hx => List.mem_append_left _ hx, fun v hv => (sI v hv).sub fun x hx => List.mem_append_right _ hx⟩
def thF (T : List (List Int)) : VF := fun β => evT β T
theorem thA_ev {l : List Int} {N : Nat} {T : List (List Int)} (hok : okTh N T) (hm : ∀ v : Int, 1 ≤ v → v ≤ N → v ∈ l) (β : Int → Bool) : thA l T (asgV l β) = evT β T := by
  have hlit : ∀ c ∈ T, ∀ x ∈ c, litA l x (asgV l β) = litT β x := fun c hc x hx => by
    have h := (hok.2.2 c hc).2 x hx
    have hN := hok.1
    have hv := varI_ok hN h
    obtain ⟨k, hk⟩ : ∃ k, rk l (varI x) 0 = some k := by
      cases g : rk l (varI x) 0 with
      | some k => exact ⟨k, rfl⟩
      | none => exact absurd (hm _ hv.1 hv.2) (rk_none.1 g)
    have hg := (rk_some hk).2.2
    rw [Nat.sub_zero] at hg
    unfold litT
    by_cases hn : x < 0
    · have hx2 : varI x = -x := by unfold varI; rw [if_neg (by omega), if_pos (by omega)]
      rw [litA_neg hn hk, if_pos hn]
      unfold asgV
      rw [hg, hx2]
    · have hx2 : varI x = x := by unfold varI; rw [if_pos (by omega)]
      rw [litA_pos hn hk, if_neg hn]
      unfold asgV
      rw [hg, hx2]
  unfold thA evT clA
  rw [Bool.eq_iff_iff, List.all_eq_true, List.all_eq_true]
  refine forall_congr' fun c => forall_congr' fun hc => ?_
  rw [List.any_eq_true, List.any_eq_true]
  refine exists_congr fun x => ?_
  constructor
  · rintro ⟨h1, h2⟩; exact ⟨h1, by rw [← hlit c hc x h1]; exact h2⟩
  · rintro ⟨h1, h2⟩; exact ⟨h1, by rw [hlit c hc x h1]; exact h2⟩
theorem of_ints {l : List Int} {N : Nat} (hN : N ≤ 128) (hp : l.Perm (ints N)) : ofS l = allS N := by
  refine set_ext (okS_of l (0, 0) okS_zero) (okS_all N) fun u h1 h2 => ?_
  rw [Bool.eq_iff_iff, has_all N u hN]
  unfold ofS
  rw [ofS_has l (0, 0) u, has_zero, hp.mem_iff, ints_mem]
  constructor
  · rintro (h | h)
    · cases h
    · exact h.1
  · intro h; exact .inr ⟨h, h1, h2⟩
theorem costT_le : ∀ (T : List (List Int)) (m : Nat), (∀ c ∈ T, c.length ≤ m) → costT T ≤ T.length * (m * 20 + 255)
  | [], m, _ => by rw [costT]; omega
  | c :: T, m, h => by
    have h1 := costT_le T m fun x hx => h x (List.mem_cons_of_mem _ hx)
    have h2 := Nat.mul_le_mul_right 20 (h c List.mem_cons_self)
    rw [costT, List.length_cons, Nat.succ_mul]
    omega
theorem compile_V (N : Nat) (h8 : N ≤ 8) (l : List Int) (hp : l.Perm (ints N)) (a : Option Addr) (c : Nat) (h : Heap) (hs : SlT encI 1 a l h) (aT : Option Addr) (cap : Nat) (vs : List HV) (hT : Heap) (ll : LLR aT vs hT) (T : List (List Int)) (hvs : vs.map (·.l) = T) (hok : okTh N T) (hcost : 2 + costT T ≤ 1048576) {w0 w : World} {R : Heap} {L : List Heap} (hr : RdH R L h) (rT : RdH R L hT) (hw : H w0 R L w) :
    Calls Tryz.prog 8 #[.agg ⟨[.int .i64 (N : Int), .slice aT vs.length cap]⟩, .slice a l.length c] w fun e w' => ∃ v L', e = .returned v ∧ H w0 R L' w' ∧ RebQ (thF T) l L v L' := by
  subst hvs
  have hlen : l.length = N := by rw [hp.length_eq, ints_len]
  refine (compile_any N l a c h hs aT cap vs hT ll (okTh_iff.2 hok) hlen (of_ints (by omega) hp) h8 hcost hr rT hw).mono ?_
  rintro e w' ⟨v, L', h1, h2, b, K, s, y, hO, hP, h3, h4, so, po, hy, hf, _⟩
  subst hlen
  exact ⟨v, L', h1, h2, b, K, s, y, hO, hP, h3, h4, so, po, hy, fun β => by
    rw [hf]
    exact thA_ev hok (fun v h1 h2 => hp.mem_iff.2 ((ints_mem _ _).2 ⟨h1, h2⟩)) β⟩
def szF (l : List Int) (F : VF) : Nat := sizeT l.length (tabF l.length (gF l F))
theorem Stv.size {F : VF} {l : List Int} {K : KS} {s : SS} {y : Nat} {hO hP : Heap} (sv : Stv F l K s y hO hP) {m : List Int} (b : Bel s.ns y m) : m.length = szF l F :=
  b.size sv.so.wf sv.sy.1 (sv.sy.fn sv.ho.2 sv.so.wf)
theorem eWorks31 : Entr Tryz.prog 6 := Entr.of Tryz.func6 rfl rfl
theorem works31_any (w : World) : Calls Tryz.prog 6 #[] w fun e w' => e = .returned (.bool true) ∧ Below w.heap.size w w' := by
  have ok2 : okTh 4 (pairP 2 2) := okTh_iff.1 (by decide +kernel)
  have hz1 : szF (ints 4) (thF (pairP 2 2)) = 6 := by decide +kernel
  have hz2 : szF (swp (ints 4) 1) (thF (pairP 2 2)) = 4 := by decide +kernel
  have hl4 : (ints 4).length = 4 := ints_len 4
  have hco : 2 + costT (pairP 2 2) ≤ 1048576 := by decide +kernel
  have hsd : decide (swp (ints 4) 1 = [1, 3, 2, 4]) = true := by decide +kernel
  refine calls_of_JC (R := []) Tryz.func6 Tryz.ntmps6 rfl rfl (Holds.nil _) ?_
  repeat' first
    | (refine J.isJ ?_; first | (first | (refine J.fc 23 ?_; refine J.call1 ePairs rfl rfl (fun w hw => pairs_any 2 (by omega) w) ?_; rintro _ hT ⟨aT, cT, vs, rfl, hvs, ll⟩) | (refine J.fc 24 ?_; refine J.call1 eUpTo rfl rfl (fun w hw => upTo_any 4 (by omega) w) ?_; rintro _ hU ⟨aU, cU, rfl, oU⟩) | (refine J.fc 8 ?_; refine J.callx eCom rfl rfl (fun w hw => compile_V 4 (by omega) (ints 4) (List.Perm.refl _) aU cU hU oU.sl aT cT vs hT ll (pairP 2 2) hvs ok2 hco RdH.hd RdH.hd.tl hw) ?_; rintro _ _ ⟨b1, K1, s1, y1, hO1, hP1, rfl, rfl, sv1⟩) | (refine J.fc 17 ?_; refine J.callx eSwap rfl rfl (fun w hw => Swap_any sv1 (by omega) 1 (by omega) (stR_hd _) hw) ?_; rintro _ _ ⟨b2, K2, s2, y2, hO2, hP2, rfl, rfl, sv2⟩) | (refine J.fc 16 ?_; first | (refine J.callx eSize rfl rfl (fun w hw => Size_any sv1.so b1 y1 sv1.sy.1 (stR_b (stR_tl (stR_hd _) K2 b2 s2 hO2 hP2)) (stR_N (stR_tl (stR_hd _) K2 b2 s2 hO2 hP2)) hw) ?_; rintro _ _ ⟨l1, rfl, rfl, bel1⟩; have hs1 := (sv1.size bel1).trans hz1) | (refine J.callx eSize rfl rfl (fun w hw => Size_any sv2.so b2 y2 sv2.sy.1 (stR_b (stR_hd _)) (stR_N (stR_hd _)) hw) ?_; rintro _ _ ⟨l2, rfl, rfl, bel2⟩; have hs2 := (sv2.size bel2).trans hz2)) | (refine J.o 11 ?_; first | refine J.eqT2 hΓ hs1 ?_ | refine J.eqT2 hΓ hs2 ?_) | (refine J.fc 21 ?_; refine J.call1 eOrder rfl rfl (fun w hw => Order_any sv2.so sv2.po b2 w (stR_of2 (stR_hd _) hw)) ?_; rintro _ ho ⟨ao, co, rfl, oo⟩) | (refine J.o 9 ?_; refine J.bl (e := 3) hΓ (fun bl => ?_)) | (refine J.fc 25 ?_; refine J.call0 eSame3 rfl rfl (fun w hw => same3_any (swp (ints 4) 1) [1, 3, 2, 4] ao (some ⟨bl, 0, none⟩) co 4 (ho ++ [(bl, .cells ⟨[.int .i64 1, .int .i64 3, .int .i64 2, .int .i64 4]⟩ 3 (0, 0))]) (oo.sl.sub fun x hx => List.mem_append_left _ hx) ((slArg bl [1, 3, 2, 4] 3).sub fun x hx => List.mem_append_right _ hx) (by rw [swp_len]; omega) (by decide) w ((hw.rdH RdH.hd.tl).append (hw.rdH RdH.hd))) ?_; rw [hsd])) | (first | (refine J.o 0 ?_; refine J.ev' hΓ ?_) | refine J.nil ?_ | (refine J.o 3 ?_; first | refine J.ev' hΓ ?_) | (refine J.o 9 ?_; refine J.bl hΓ (fun _ => ?_)) | (refine J.o 10 ?_; refine J.ev' hΓ ?_) | (refine J.o 11 ?_; refine J.ev' hΓ ?_)))
    | (first | refine JC.seq ?_ | refine JC.region ?_ | refine JC.ret ?_ | refine JC.skip ?_ | refine thenK.nn ?_ | refine JC.condF rfl ?_)
    | fail
  all_goals first | (exfalso; omega) | skip
  all_goals (refine ret1f rfl rfl rfl (fun w1 hw => ⟨rfl, hw.below⟩))
end Go.Proofs.YtbhgahjeocnfcaaGreat
namespace Go.Proofs.YtbhgahjeocnfcaaGreat
open Go Go.Cx Go.RowKit
set_option linter.unusedVariables false
set_option linter.unusedSimpArgs false
set_option maxHeartbeats 4000000
attribute [local irreducible] J JC thenK blockK loopK roundK drawK retK QW Qt pel List.set Calls
open Go.Maps Go.Lib
set_option maxRecDepth 8000
attribute [local irreducible] JE Br eK0 eK3 brK pc
theorem smallP_ok {n : Nat} (h : n ≤ 128) {N : Int} {T : List (List Int)} (s : smallP (n : Int) N T) : ∃ k : Nat, N = (k : Int) ∧ k ≤ n ∧ okTh k T ∧ 2 + costT T ≤ 1048576 := by
  obtain ⟨h1, h2, h3, h4, h5⟩ := s
  obtain ⟨k, rfl⟩ : ∃ k : Nat, N = (k : Int) := ⟨N.toNat, by omega⟩
  have hc := costT_le T 10 h4
  have hm : T.length * (10 * 20 + 255) ≤ 30 * 455 := Nat.mul_le_mul_right 455 h3
  exact ⟨k, rfl, by omega, okTh_iff.1 h5, by omega⟩
end Go.Proofs.YtbhgahjeocnfcaaGreat
namespace Go.Proofs.YtbhgahjeocnfcaaGreat
open Go Go.Cx Go.RowKit
set_option linter.unusedVariables false
set_option linter.unusedSimpArgs false
set_option maxHeartbeats 4000000
attribute [local irreducible] J JC thenK blockK loopK roundK drawK retK QW Qt pel List.set Calls
open Go.Maps Go.Lib
set_option maxRecDepth 8000
attribute [local irreducible] JE Br eK0 eK3 brK pc
theorem mget_cons {κ β : Type} [DecidableEq κ] (p : κ × β) (m : List (κ × β)) (v : κ) : mget (p :: m) v = if p.1 = v then some p.2 else mget m v := by
  unfold mget
  rw [List.find?_cons]
  by_cases h : p.1 = v
  · rw [if_pos h]; simp [h]
  · rw [if_neg h]; simp [h]
theorem mget_app1 {κ β : Type} [DecidableEq κ] (x : κ) (y : β) (v : κ) : ∀ m : List (κ × β), mget (m ++ [(x, y)]) v = match mget m v with | some z => some z | none => if x = v then some y else none
  | [] => by rw [List.nil_append, mget_cons]; rfl
  | p :: m => by
    rw [List.cons_append, mget_cons, mget_cons, mget_app1 x y v m]
    by_cases h : p.1 = v
    · rw [if_pos h, if_pos h]
    · rw [if_neg h, if_neg h]
theorem mget_nil2 {κ β : Type} [DecidableEq κ] {v : κ} : ∀ {m : List (κ × β)}, v ∉ m.map (·.1) → mget m v = none
  | [], _ => rfl
  | p :: m, h => by
    rw [List.map_cons, List.mem_cons, not_or] at h
    rw [mget_cons, if_neg (fun e => h.1 e.symm), mget_nil2 h.2]
theorem mget_mput {κ β : Type} [DecidableEq κ] (m : List (κ × β)) (x : κ) (y : β) (v : κ) : mget (mput m x y) v = if v = x then some y else mget m v := by
  unfold mput
  split
  · rename_i hc
    have hx : x ∈ m.map (·.1) := by simpa using hc
    clear hc
    induction m with
    | nil => cases hx
    | cons p m ih =>
      rw [List.map_cons, mget_cons, mget_cons]
      by_cases hp : p.1 = x
      · rw [if_pos hp]
        by_cases hv : v = x
        · rw [if_pos hv, if_pos hv.symm]
        · rw [if_neg (fun e => hv e.symm), if_neg hv, if_neg (fun e => hv (by rw [← e, hp]))]
          by_cases hm : x ∈ m.map (·.1)
          · rw [ih hm, if_neg hv]
          · have : ∀ l : List (κ × β), x ∉ l.map (·.1) → (l.map fun p => if p.1 = x then (x, y) else p) = l := by
              intro l
              induction l with
              | nil => intro _; rfl
              | cons q l ih2 =>
                intro h
                rw [List.map_cons, List.mem_cons, not_or] at h
                rw [List.map_cons, if_neg (fun e => h.1 e.symm), ih2 h.2]
            rw [this m hm]
      · rw [if_neg hp]
        have hm : x ∈ m.map (·.1) := by
          rw [List.map_cons, List.mem_cons] at hx
          rcases hx with h | h
          · exact absurd h.symm hp
          · exact h
        rw [ih hm]
        by_cases hv : v = x
        · rw [if_pos hv, if_neg (fun e => hp (by rw [e, hv])), if_pos hv]
        · rw [if_neg hv, if_neg hv]
  · rename_i hc
    have hx : x ∉ m.map (·.1) := by simpa using hc
    rw [mget_app1]
    by_cases hv : v = x
    · rw [if_pos hv, hv, mget_nil2 hx, if_pos rfl]
    · rw [if_neg hv]
      cases mget m v with
      | some z => rfl
      | none => rw [if_neg (fun e => hv e.symm)]
def seenS (S : List Nat) : List (Int × Bool) := S.map fun b : Nat => ((b : Int), true)
theorem seenS_get (b : Nat) : ∀ S : List Nat, mget (seenS S) (b : Int) = if b ∈ S then some true else none
  | [] => rfl
  | x :: S => by
    unfold seenS
    rw [List.map_cons, mget_cons]
    have ih := seenS_get b S
    unfold seenS at ih
    rw [ih]
    by_cases h : x = b
    · rw [if_pos (by rw [h]), if_pos (by rw [h]; exact List.mem_cons_self)]
    · rw [if_neg (fun e => h (by omega))]
      by_cases h2 : b ∈ S
      · rw [if_pos h2, if_pos (List.mem_cons_of_mem _ h2)]
      · rw [if_neg h2, if_neg (fun g => (List.mem_cons.1 g).elim (fun e => h e.symm) h2)]
theorem seenS_put {S : List Nat} {b : Nat} (h : b ∉ S) : mput (seenS S) (b : Int) true = seenS (S ++ [b]) := by
  rw [mput_new true (mget_out (by rw [seenS_get, if_neg h]))]
  unfold seenS
  rw [List.map_append]; rfl
def cntV (ns : List N3) (o : List Int) (S : List Nat) (v : Int) : Nat := (S.filter fun j => decide (o.getD (nd ns j).p default = v)).length
def TopsV (ns : List N3) (o : List Int) (r : Nat) (v : Value) (h : Heap) : Prop := ∃ bm mm S, v = .map (some bm) ∧ MapT Tryz.prog 3 ekI evI mm bm h ∧ S.Nodup ∧ (∀ x, x ∈ S ↔ 2 ≤ x ∧ Rch ns r x) ∧ ∀ v, (mget mm v).getD 0 = cntV ns o S v
end Go.Proofs.YtbhgahjeocnfcaaGreat
namespace Go.Proofs.YtbhgahjeocnfcaaGreat
open Go Go.Cx Go.RowKit
set_option linter.unusedVariables false
set_option linter.unusedSimpArgs false
set_option maxHeartbeats 4000000
attribute [local irreducible] J JC thenK blockK loopK roundK drawK retK QW Qt pel List.set Calls
open Go.Maps Go.Lib
set_option maxRecDepth 8000
attribute [local irreducible] JE Br eK0 eK3 brK pc
structure WInv (ns : List N3) (o : List Int) (r : Nat) (Q S : List Nat) (mm : List (Int × Nat)) : Prop where
  nodup : S.Nodup
  sub : ∀ x ∈ S, 2 ≤ x ∧ Rch ns r x
  rq : ∀ x ∈ Q, Rch ns r x
  root : r < 2 ∨ r ∈ S ∨ r ∈ Q
  cl : ∀ x ∈ S, ∀ y, (y = (nd ns x).l ∨ y = (nd ns x).h) → y < 2 ∨ y ∈ S ∨ y ∈ Q
  cnt : ∀ v, (mget mm v).getD 0 = cntV ns o S v
theorem WInv.start (ns : List N3) (o : List Int) (r : Nat) : WInv ns o r [r] [] [] :=
  ⟨List.nodup_nil, fun x hx => (by cases hx), fun x hx => by rw [List.mem_singleton.1 hx]; exact .refl, .inr (.inr (List.mem_singleton_self _)), fun x hx => (by cases hx), fun v => rfl⟩
theorem WInv.skip {ns : List N3} {o : List Int} {r a : Nat} {Q S : List Nat} {mm : List (Int × Nat)} (t : WInv ns o r (Q ++ [a]) S mm) (h : a < 2 ∨ a ∈ S) : WInv ns o r Q S mm := by
  have hk : ∀ y, y < 2 ∨ y ∈ S ∨ y ∈ Q ++ [a] → y < 2 ∨ y ∈ S ∨ y ∈ Q := fun y hy => by
    rcases hy with g | g | g
    · exact .inl g
    · exact .inr (.inl g)
    · rcases List.mem_append.1 g with g | g
      · exact .inr (.inr g)
      · rw [List.mem_singleton.1 g]; exact h.imp id .inl
  exact ⟨t.nodup, t.sub, fun x hx => t.rq x (List.mem_append_left _ hx), hk r t.root, fun x hx y hy => hk y (t.cl x hx y hy), t.cnt⟩
theorem WInv.next {ns : List N3} {o : List Int} {r a : Nat} {Q S : List Nat} {mm : List (Int × Nat)} (t : WInv ns o r (Q ++ [a]) S mm) (h2 : 2 ≤ a) (hS : a ∉ S) (c : Nat) (hc : (mget mm (o.getD (nd ns a).p default)).getD 0 = c) : WInv ns o r (Q ++ [(nd ns a).l, (nd ns a).h]) (S ++ [a]) (mput mm (o.getD (nd ns a).p default) (c + 1)) := by
  have hr := t.rq a (List.mem_append_right _ (List.mem_singleton_self _))
  have hk : ∀ y, y < 2 ∨ y ∈ S ∨ y ∈ Q ++ [a] → y < 2 ∨ y ∈ S ++ [a] ∨ y ∈ Q ++ [(nd ns a).l, (nd ns a).h] := fun y hy => by
    rcases hy with g | g | g
    · exact .inl g
    · exact .inr (.inl (List.mem_append_left _ g))
    · rcases List.mem_append.1 g with g | g
      · exact .inr (.inr (List.mem_append_left _ g))
      · exact .inr (.inl (List.mem_append_right _ g))
  refine ⟨?_, fun x hx => ?_, fun x hx => ?_, hk r t.root, fun x hx y hy => ?_, fun v => ?_⟩
  · rw [List.nodup_append]
    exact ⟨t.nodup, List.nodup_cons.2 ⟨List.not_mem_nil, List.nodup_nil⟩, fun a ha b hb e => by rw [List.mem_singleton.1 hb] at e; exact hS (e ▸ ha)⟩
  · rcases List.mem_append.1 hx with g | g
    · exact t.sub x g
    · rw [List.mem_singleton.1 g]; exact ⟨h2, hr⟩
  · rcases List.mem_append.1 hx with g | g
    · exact t.rq x (List.mem_append_left _ g)
    · rcases List.mem_cons.1 g with rfl | g
      · exact hr.low h2
      · rw [List.mem_singleton.1 g]; exact hr.high h2
  · rcases List.mem_append.1 hx with g | g
    · exact hk y (t.cl x g y hy)
    · rw [List.mem_singleton.1 g] at hy
      refine .inr (.inr (List.mem_append_right _ ?_))
      rcases hy with rfl | rfl
      · exact List.mem_cons_self
      · exact List.mem_cons_of_mem _ List.mem_cons_self
  · rw [mget_mput]
    unfold cntV
    rw [List.filter_append, List.length_append]
    have h := t.cnt v
    unfold cntV at h
    rw [List.filter_cons, List.filter_nil]
    by_cases hv : v = o.getD (nd ns a).p default
    · rw [if_pos hv, if_pos (decide_eq_true hv.symm), ← h, hv, hc]; rfl
    · rw [if_neg hv, if_neg (fun g => hv (of_decide_eq_true g).symm), h]; rfl
theorem WInv.all {ns : List N3} {o : List Int} {r : Nat} {S : List Nat} {mm : List (Int × Nat)} (t : WInv ns o r [] S mm) (x : Nat) : x ∈ S ↔ 2 ≤ x ∧ Rch ns r x := by
  constructor
  · exact t.sub x
  · rintro ⟨h2, hr⟩
    have key : x < 2 ∨ x ∈ S := by
      clear h2
      induction hr with
      | refl => exact t.root.imp id (fun g => g.resolve_right List.not_mem_nil)
      | low _ g2 ih => exact (t.cl _ (ih.resolve_left (by omega)) _ (.inl rfl)).imp id (fun g => g.resolve_right List.not_mem_nil)
      | high _ g2 ih => exact (t.cl _ (ih.resolve_left (by omega)) _ (.inr rfl)).imp id (fun g => g.resolve_right List.not_mem_nil)
    exact key.resolve_left (by omega)
theorem eWeights : Entr Tryz.prog 35 := Entr.of Tryz.func35 rfl rfl
theorem natI_snoc (Q : List Nat) (a : Nat) : natI (Q ++ [a]) = natI Q ++ [(a : Int)] := by unfold natI; rw [List.map_append]; rfl
set_option maxHeartbeats 16000000 in
theorem weights_any {n : Nat} {K : KS} {s : SS} (so : SOk n K s) {o : List Int} {hO hP : Heap} (po : POk K o hO hP) (h8 : n ≤ 8) (b r : Nat) (hr : r < s.ns.length) (w : World) (hw1 : Holds (stR K b s hO) w) :
    Calls Tryz.prog 35 #[.pointer (some ⟨b, 0, none⟩), .int .i64 (r : Int)] w (Gives (TopsV s.ns o r) w) := by
  have h2n := pow8 h8
  have q0 : ∀ L, RdH (stR K b s hO) L (stR K b s hO) := fun L => RdH.old fun _ hh => hh
  have hno := so.no
  have hpl := po.len
  refine calls_of_JC (R := (stR K b s hO)) Tryz.func35 Tryz.ntmps35 rfl rfl (hw1) ?_
  repeat' first
    | (refine J.isJ ?_; first | (first | (refine J.o 9 ?_; first | refine J.mkm (t := 67) (fun bm => ?_) | refine J.mkm (t := 105) (fun bs => ?_) | refine J.ins (ev := evBo) true keyedI ekI_inj (MapT.nil _) (keyI 0 (by omega)) hΓ (fun h1 mp1 => ?_) | refine J.ins (ev := evBo) true keyedI ekI_inj mp1 (keyI 1 (by omega)) hΓ (fun h2 mp2 => ?_) | refine J.bl (e := 3) hΓ (fun bq => ?_))) | (first | (refine J.o 0 ?_; refine J.ev' hΓ ?_) | refine J.nil ?_ | (refine J.o 4 ?_; first | refine J.lT default hΓ ?_) | (refine J.o 3 ?_; first | refine J.iJ hΓ ?_ | refine J.ev' hΓ ?_) | (refine J.o 9 ?_; refine J.bl hΓ (fun _ => ?_)) | (refine J.o 10 ?_; refine J.ev' hΓ ?_) | (refine J.o 11 ?_; refine J.ev' hΓ ?_)))
    | (first | refine JC.seq ?_ | refine JC.region ?_ | refine JC.block ?_ | refine JC.ret ?_ | refine JC.exit ?_ | refine JC.skip ?_ | refine thenK.nn ?_ | refine thenK.x ?_ | refine blockK.nn ?_ | refine blockK.hit rfl ?_ | refine JC.condT rfl ?_ | refine JC.condF rfl ?_ | (refine JC.cond rfl (fun hc => ?_) (fun hc => ?_) <;> ((try simp only [decide_eq_true_eq, decide_eq_false_iff_not, beq_iff_eq, beq_eq_false_iff_ne, bne_iff_ne, bne_eq_false_iff_eq, Bool.not_eq_true', Bool.not_eq_false', Bool.not_eq_true, Bool.not_eq_false] at hc) <;> first | (first | (exact absurd rfl hc) | (exfalso; omega) | (exact absurd (hc.symm.trans (by assumption : _ = false)) (by decide)) | (exact absurd (hc.symm.trans (by assumption : _ = true)) (by decide))) | skip)) | refine loopK.x ?_)
    | (fail)
    | fail
  all_goals first | (exfalso; omega) | skip
  refine JC.loopG (fun i => (Nat.ble 7 i && Nat.ble i 12) || Nat.ble 18 i) (fun m g L' => ∃ Q S mm aQ cQ hQ hS hM, g 7 = .slice aQ (natI Q).length cQ ∧ m = Q.length + 2 * (300 - S.length) ∧ Q.length ≤ S.length + 1 ∧ WInv s.ns o r Q S mm ∧ OwT encI 1 3 aQ cQ (natI Q) hQ ∧ MapT Tryz.prog 3 ekI evBo (seenS (0 :: 1 :: S)) bs hS ∧ MapT Tryz.prog 3 ekI evI mm bm hM ∧ L' = [hQ, hS, hM]) 601 ⟨[r], [], [], _, _, _, _, _, rfl, rfl, Nat.le_refl _, WInv.start _ _ _, ⟨fun _ => rfl, .inr ⟨bq, _, rfl, rfl, rfl, Nat.le_refl _, rfl⟩⟩, mp2, MapT.nil _, rfl⟩ ?_
  rintro m g L' ⟨Q, S, mm, aQ, cQ, hQ, hS, hM, e7, hm, hqs, t, oQ, ms, mt, rfl⟩
  have hSl := rch_len so.wf hr t.nodup (fun x hx => (t.sub x hx).2)
  rcases List.eq_nil_or_concat Q with rfl | ⟨Q, a, rfl⟩
  ·
    refine JC.pin 7 e7 ?_
    repeat' first
      | (refine J.isJ ?_; first | (fail) | (first | (refine J.o 0 ?_; refine J.ev' hΓ ?_) | refine J.nil ?_ | (refine J.o 4 ?_; first | refine J.lT default hΓ ?_) | (refine J.o 3 ?_; first | refine J.iJ hΓ ?_ | refine J.ev' hΓ ?_) | (refine J.o 9 ?_; refine J.bl hΓ (fun _ => ?_)) | (refine J.o 10 ?_; refine J.ev' hΓ ?_) | (refine J.o 11 ?_; refine J.ev' hΓ ?_)))
      | (first | refine JC.seq ?_ | refine JC.region ?_ | refine JC.block ?_ | refine JC.ret ?_ | refine JC.exit ?_ | refine JC.skip ?_ | refine thenK.nn ?_ | refine thenK.x ?_ | refine blockK.nn ?_ | refine blockK.hit rfl ?_ | refine JC.condT rfl ?_ | refine JC.condF rfl ?_ | (refine JC.cond rfl (fun hc => ?_) (fun hc => ?_) <;> ((try simp only [decide_eq_true_eq, decide_eq_false_iff_not, beq_iff_eq, beq_eq_false_iff_ne, bne_iff_ne, bne_eq_false_iff_eq, Bool.not_eq_true', Bool.not_eq_false', Bool.not_eq_true, Bool.not_eq_false] at hc) <;> first | (first | (exact absurd rfl hc) | (exfalso; omega) | (exact absurd (hc.symm.trans (by assumption : _ = false)) (by decide)) | (exact absurd (hc.symm.trans (by assumption : _ = true)) (by decide))) | skip)) | refine loopK.x ?_)
      | (fail)
      | fail
    all_goals first | (exfalso; omega) | skip
    all_goals exact ret1f rfl rfl rfl (fun w1 hw => Gives.of (H.sel (l := [_, _, _]) (M := []) hw [2]) ⟨bm, mm, S, rfl, mt, t.nodup, t.all, t.cnt⟩)
  ·
    rw [List.concat_eq_append] at *
    have hnl : (natI (Q ++ [a])).length = Q.length + 1 := by rw [natI_len, List.length_append]; rfl
    have hql : (Q ++ [a]).length = Q.length + 1 := by rw [List.length_append]; rfl
    rw [hnl] at e7
    refine JC.pin 7 e7 ?_
    clear e7
    have hg : (natI (Q ++ [a])).getD (Q.length + 1 - 1) default = (a : Int) := by
      rw [natI_snoc, show Q.length + 1 - 1 = (natI Q).length by rw [natI_len]; omega]
      simp
    have hrc := t.rq a (List.mem_append_right _ (List.mem_singleton_self _))
    have hx := hrc.lt so.wf hr
    have hkey := keyI (a : Int) (by have := so.sm; omega)
    have hsg := seenS_get a (0 :: 1 :: S)
    repeat' first
      | (refine J.isJ ?_; first | (first | (refine J.o 1 ?_; refine J.gsub (a := Q.length + 1) (b := 1) ?_) | (refine J.o 3 ?_; refine J.iJ hΓ ?_ (hs := oQ.sl)) | (refine J.o 4 ?_; refine J.lT default hΓ ?_ (hs := oQ.sl) (hr := RdH.hd); rw [hg])) | (first | (refine J.o 0 ?_; refine J.ev' hΓ ?_) | refine J.nil ?_ | (refine J.o 4 ?_; first | refine J.lT default hΓ ?_) | (refine J.o 3 ?_; first | refine J.iJ hΓ ?_ | refine J.ev' hΓ ?_) | (refine J.o 9 ?_; refine J.bl hΓ (fun _ => ?_)) | (refine J.o 10 ?_; refine J.ev' hΓ ?_) | (refine J.o 11 ?_; refine J.ev' hΓ ?_)))
      | (first | refine JC.seq ?_ | refine JC.region ?_ | refine JC.block ?_ | refine JC.ret ?_ | refine JC.exit ?_ | refine JC.skip ?_ | refine thenK.nn ?_ | refine thenK.x ?_ | refine blockK.nn ?_ | refine blockK.hit rfl ?_ | refine JC.condT rfl ?_ | refine JC.condF rfl ?_ | (refine JC.cond rfl (fun hc => ?_) (fun hc => ?_) <;> ((try simp only [decide_eq_true_eq, decide_eq_false_iff_not, beq_iff_eq, beq_eq_false_iff_ne, bne_iff_ne, bne_eq_false_iff_eq, Bool.not_eq_true', Bool.not_eq_false', Bool.not_eq_true, Bool.not_eq_false] at hc) <;> first | (first | (exact absurd rfl hc) | (exfalso; omega) | (exact absurd (hc.symm.trans (by assumption : _ = false)) (by decide)) | (exact absurd (hc.symm.trans (by assumption : _ = true)) (by decide))) | skip)) | refine loopK.x ?_)
      | (fail)
      | fail
    all_goals first | (exfalso; omega) | skip
    have oQ2 : OwT encI 1 3 aQ cQ (natI Q) hQ := by
      have h := oQ.take Q.length
      have e : (natI (Q ++ [a])).take Q.length = natI Q := by
        rw [natI_snoc, List.take_append_of_le_length (by rw [natI_len]; exact Nat.le_refl _), List.take_of_length_le (by rw [natI_len]; exact Nat.le_refl _)]
      rw [e] at h; exact h
    have hcap := own_le oQ
    rw [hnl] at hcap
    clear oQ
    have hnq := natI_len Q
    have hql2 : Q.length + 1 - 1 = (natI Q).length := by omega
    by_cases hin : a ∈ 0 :: 1 :: S
    ·
      rw [if_pos hin] at hsg
      have h2S : a < 2 ∨ a ∈ S := by
        rcases List.mem_cons.1 hin with rfl | g
        · exact .inl (by decide)
        · rcases List.mem_cons.1 g with rfl | g
          · exact .inl (by decide)
          · exact .inr g
      repeat' first
        | (refine J.isJ ?_; first | (first | (refine J.o 13 ?_; refine J.slF (m := Q.length + 1 - 1) hΓ ?_) | (refine J.o 9 ?_; refine J.lk (a := (a : Int)) keyedI ekI_inj ms (RdH.hd.tl) hkey hΓ ?_; rw [hsg])) | (first | (refine J.o 0 ?_; refine J.ev' hΓ ?_) | refine J.nil ?_ | (refine J.o 4 ?_; first | refine J.lT default hΓ ?_) | (refine J.o 3 ?_; first | refine J.iJ hΓ ?_ | refine J.ev' hΓ ?_) | (refine J.o 9 ?_; refine J.bl hΓ (fun _ => ?_)) | (refine J.o 10 ?_; refine J.ev' hΓ ?_) | (refine J.o 11 ?_; refine J.ev' hΓ ?_)))
        | (first | refine JC.seq ?_ | refine JC.region ?_ | refine JC.block ?_ | refine JC.ret ?_ | refine JC.exit ?_ | refine JC.skip ?_ | refine thenK.nn ?_ | refine thenK.x ?_ | refine blockK.nn ?_ | refine blockK.hit rfl ?_ | refine JC.condT rfl ?_ | refine JC.condF rfl ?_ | (refine JC.cond rfl (fun hc => ?_) (fun hc => ?_) <;> ((try simp only [decide_eq_true_eq, decide_eq_false_iff_not, beq_iff_eq, beq_eq_false_iff_ne, bne_iff_ne, bne_eq_false_iff_eq, Bool.not_eq_true', Bool.not_eq_false', Bool.not_eq_true, Bool.not_eq_false] at hc) <;> first | (first | (exact absurd rfl hc) | (exfalso; omega) | (exact absurd (hc.symm.trans (by assumption : _ = false)) (by decide)) | (exact absurd (hc.symm.trans (by assumption : _ = true)) (by decide))) | skip)) | refine loopK.x ?_)
        | (fail)
        | fail
      all_goals first | (exfalso; omega) | skip
      refine loopK.nn (m - 1) (by omega) (by repeat (first | refine Ag.upd rfl ?_ | exact Ag.hv)) ⟨_, ⟨Q, S, mm, aQ, cQ, hQ, hS, hM, ?_, by omega, by omega, t.skip h2S, oQ2, ms, mt, rfl⟩, fun w hw => hw⟩
      show Value.slice _ _ _ = _; rw [← hql2]
    ·
      rw [if_neg hin] at hsg
      have hn2 : 2 ≤ a := by
        rcases Nat.lt_or_ge a 2 with g | g
        · exfalso
          have : a = 0 ∨ a = 1 := by omega
          rcases this with rfl | rfl
          · exact hin List.mem_cons_self
          · exact hin (List.mem_cons_of_mem _ List.mem_cons_self)
        · exact g
      have hnS : a ∉ S := fun g => hin (List.mem_cons_of_mem _ (List.mem_cons_of_mem _ g))
      have cP := fun w hw => Parts_node so po b a hn2 hx w hw
      have hpn := so.wf.pl _ hn2 hx
      have hvo : o.getD (nd s.ns a).p default ∈ o := mem_g o _ (by omega)
      have hvr := po.ok.1 _ hvo
      obtain ⟨v, hv⟩ : ∃ v, v = o.getD (nd s.ns a).p default := ⟨_, rfl⟩
      rw [← hv] at hvr cP
      have hkv := keyI v (by omega)
      obtain ⟨c, hc⟩ : ∃ c, (mget mm v).getD 0 = c := ⟨_, rfl⟩
      have hnx := t.next hn2 hnS c (by rw [← hv]; exact hc)
      rw [← hv] at hnx
      have hc2 : c ≤ S.length := by rw [← hc, t.cnt v]; exact List.length_filter_le _ _
      have hQQ : natI Q ++ [(((nd s.ns a).l : Nat) : Int), (((nd s.ns a).h : Nat) : Int)] = natI (Q ++ [(nd s.ns a).l, (nd s.ns a).h]) := by unfold natI; rw [List.map_append]; rfl
      have hS1 : (S ++ [a]).length = S.length + 1 := by rw [List.length_append]; rfl
      have hQ2 : (Q ++ [(nd s.ns a).l, (nd s.ns a).h]).length = Q.length + 2 := by rw [List.length_append]; rfl
      cases hgv : mget mm v with
      | none =>
          obtain rfl : 0 = c := by rw [hgv] at hc; exact hc
          repeat' first
            | (refine J.isJ ?_; first | (first | (refine J.o 13 ?_; refine J.slF (m := Q.length + 1 - 1) hΓ ?_) | (refine J.fc 62 ?_; refine J.call0 eParts rfl rfl (fun w hw => cP w (hw.rdH (q0 _))) ?_) | (refine J.o 9 ?_; first | (refine J.lk (a := (a : Int)) keyedI ekI_inj ms (RdH.hd.tl) hkey hΓ ?_; rw [hsg]) | (refine J.perm (bring_perm 1 _) ?_; refine J.mup (a := (a : Int)) (ev := evBo) true keyedI ekI_inj ms hkey hΓ (fun h4 ms4 => ?_)) | (refine J.lk (a := v) keyedI ekI_inj mt (RdH.hd.tl.tl) hkv hΓ ?_; rw [hgv]) | (refine J.perm (bring_perm 2 _) ?_; refine J.mup (a := v) (ev := evI) (0 + 1) keyedI ekI_inj mt hkv hΓ (fun h5 mt5 => ?_))) | (refine J.o 1 ?_; refine J.gadd (a := 0) (b := 1) ?_ (hw := wI64 (by omega))) | (refine J.o 9 ?_; first | (first | (refine J.ap1 (enc := encI) [(((nd s.ns a).l : Nat) : Int), (((nd s.ns a).h : Nat) : Int)] hΓ (fun a6 c6 h6 o6 => ?_)) | (refine J.perm (br1.cons _) ?_; refine J.ap1 (enc := encI) [(((nd s.ns a).l : Nat) : Int), (((nd s.ns a).h : Nat) : Int)] hΓ (fun a6 c6 h6 o6 => ?_)) | (refine J.perm (br2.cons _) ?_; refine J.ap1 (enc := encI) [(((nd s.ns a).l : Nat) : Int), (((nd s.ns a).h : Nat) : Int)] hΓ (fun a6 c6 h6 o6 => ?_)) | (refine J.perm (br3.cons _) ?_; refine J.ap1 (enc := encI) [(((nd s.ns a).l : Nat) : Int), (((nd s.ns a).h : Nat) : Int)] hΓ (fun a6 c6 h6 o6 => ?_)) | (refine J.perm (br4.cons _) ?_; refine J.ap1 (enc := encI) [(((nd s.ns a).l : Nat) : Int), (((nd s.ns a).h : Nat) : Int)] hΓ (fun a6 c6 h6 o6 => ?_)) | (refine J.perm (br5.cons _) ?_; refine J.ap1 (enc := encI) [(((nd s.ns a).l : Nat) : Int), (((nd s.ns a).h : Nat) : Int)] hΓ (fun a6 c6 h6 o6 => ?_))) | (refine J.perm br1 ?_; first | (refine J.ap1 (enc := encI) [(((nd s.ns a).l : Nat) : Int), (((nd s.ns a).h : Nat) : Int)] hΓ (fun a6 c6 h6 o6 => ?_)) | (refine J.perm (br1.cons _) ?_; refine J.ap1 (enc := encI) [(((nd s.ns a).l : Nat) : Int), (((nd s.ns a).h : Nat) : Int)] hΓ (fun a6 c6 h6 o6 => ?_)) | (refine J.perm (br2.cons _) ?_; refine J.ap1 (enc := encI) [(((nd s.ns a).l : Nat) : Int), (((nd s.ns a).h : Nat) : Int)] hΓ (fun a6 c6 h6 o6 => ?_)) | (refine J.perm (br3.cons _) ?_; refine J.ap1 (enc := encI) [(((nd s.ns a).l : Nat) : Int), (((nd s.ns a).h : Nat) : Int)] hΓ (fun a6 c6 h6 o6 => ?_)) | (refine J.perm (br4.cons _) ?_; refine J.ap1 (enc := encI) [(((nd s.ns a).l : Nat) : Int), (((nd s.ns a).h : Nat) : Int)] hΓ (fun a6 c6 h6 o6 => ?_)) | (refine J.perm (br5.cons _) ?_; refine J.ap1 (enc := encI) [(((nd s.ns a).l : Nat) : Int), (((nd s.ns a).h : Nat) : Int)] hΓ (fun a6 c6 h6 o6 => ?_))) | (refine J.perm br2 ?_; first | (refine J.ap1 (enc := encI) [(((nd s.ns a).l : Nat) : Int), (((nd s.ns a).h : Nat) : Int)] hΓ (fun a6 c6 h6 o6 => ?_)) | (refine J.perm (br1.cons _) ?_; refine J.ap1 (enc := encI) [(((nd s.ns a).l : Nat) : Int), (((nd s.ns a).h : Nat) : Int)] hΓ (fun a6 c6 h6 o6 => ?_)) | (refine J.perm (br2.cons _) ?_; refine J.ap1 (enc := encI) [(((nd s.ns a).l : Nat) : Int), (((nd s.ns a).h : Nat) : Int)] hΓ (fun a6 c6 h6 o6 => ?_)) | (refine J.perm (br3.cons _) ?_; refine J.ap1 (enc := encI) [(((nd s.ns a).l : Nat) : Int), (((nd s.ns a).h : Nat) : Int)] hΓ (fun a6 c6 h6 o6 => ?_)) | (refine J.perm (br4.cons _) ?_; refine J.ap1 (enc := encI) [(((nd s.ns a).l : Nat) : Int), (((nd s.ns a).h : Nat) : Int)] hΓ (fun a6 c6 h6 o6 => ?_)) | (refine J.perm (br5.cons _) ?_; refine J.ap1 (enc := encI) [(((nd s.ns a).l : Nat) : Int), (((nd s.ns a).h : Nat) : Int)] hΓ (fun a6 c6 h6 o6 => ?_))))) | (first | (refine J.o 0 ?_; refine J.ev' hΓ ?_) | refine J.nil ?_ | (refine J.o 4 ?_; first | refine J.lT default hΓ ?_) | (refine J.o 3 ?_; first | refine J.iJ hΓ ?_ | refine J.ev' hΓ ?_) | (refine J.o 9 ?_; refine J.bl hΓ (fun _ => ?_)) | (refine J.o 10 ?_; refine J.ev' hΓ ?_) | (refine J.o 11 ?_; refine J.ev' hΓ ?_)))
            | (first | refine JC.seq ?_ | refine JC.region ?_ | refine JC.block ?_ | refine JC.ret ?_ | refine JC.exit ?_ | refine JC.skip ?_ | refine thenK.nn ?_ | refine thenK.x ?_ | refine blockK.nn ?_ | refine blockK.hit rfl ?_ | refine JC.condT rfl ?_ | refine JC.condF rfl ?_ | (refine JC.cond rfl (fun hc => ?_) (fun hc => ?_) <;> ((try simp only [decide_eq_true_eq, decide_eq_false_iff_not, beq_iff_eq, beq_eq_false_iff_ne, bne_iff_ne, bne_eq_false_iff_eq, Bool.not_eq_true', Bool.not_eq_false', Bool.not_eq_true, Bool.not_eq_false] at hc) <;> first | (first | (exact absurd rfl hc) | (exfalso; omega) | (exact absurd (hc.symm.trans (by assumption : _ = false)) (by decide)) | (exact absurd (hc.symm.trans (by assumption : _ = true)) (by decide))) | skip)) | refine loopK.x ?_)
            | (fail)
            | fail
          all_goals first | (exfalso; omega) | skip
          rw [hQQ] at o6
          rw [seenS_put hin] at ms4
          refine loopK.nn (m - 1) (by omega) (by repeat (first | refine Ag.upd rfl ?_ | exact Ag.hv)) ⟨_, ⟨Q ++ [(nd s.ns a).l, (nd s.ns a).h], S ++ [a], mput mm v (0 + 1), a6, c6, h6, h4, h5, ?_, by omega, by omega, hnx, o6, ms4, mt5, rfl⟩, fun w hw => H.sel (l := [_, _, _]) (M := []) hw [0, 2, 1]⟩
          show Value.slice _ _ _ = _; rw [hQQ]
      | some c0 =>
          obtain rfl : c0 = c := by rw [hgv] at hc; exact hc
          repeat' first
            | (refine J.isJ ?_; first | (first | (refine J.o 13 ?_; refine J.slF (m := Q.length + 1 - 1) hΓ ?_) | (refine J.fc 62 ?_; refine J.call0 eParts rfl rfl (fun w hw => cP w (hw.rdH (q0 _))) ?_) | (refine J.o 9 ?_; first | (refine J.lk (a := (a : Int)) keyedI ekI_inj ms (RdH.hd.tl) hkey hΓ ?_; rw [hsg]) | (refine J.perm (bring_perm 1 _) ?_; refine J.mup (a := (a : Int)) (ev := evBo) true keyedI ekI_inj ms hkey hΓ (fun h4 ms4 => ?_)) | (refine J.lk (a := v) keyedI ekI_inj mt (RdH.hd.tl.tl) hkv hΓ ?_; rw [hgv]) | (refine J.perm (bring_perm 2 _) ?_; refine J.mup (a := v) (ev := evI) (c0 + 1) keyedI ekI_inj mt hkv hΓ (fun h5 mt5 => ?_))) | (refine J.o 1 ?_; refine J.gadd (a := c0) (b := 1) ?_ (hw := wI64 (by omega))) | (refine J.o 9 ?_; first | (first | (refine J.ap1 (enc := encI) [(((nd s.ns a).l : Nat) : Int), (((nd s.ns a).h : Nat) : Int)] hΓ (fun a6 c6 h6 o6 => ?_)) | (refine J.perm (br1.cons _) ?_; refine J.ap1 (enc := encI) [(((nd s.ns a).l : Nat) : Int), (((nd s.ns a).h : Nat) : Int)] hΓ (fun a6 c6 h6 o6 => ?_)) | (refine J.perm (br2.cons _) ?_; refine J.ap1 (enc := encI) [(((nd s.ns a).l : Nat) : Int), (((nd s.ns a).h : Nat) : Int)] hΓ (fun a6 c6 h6 o6 => ?_)) | (refine J.perm (br3.cons _) ?_; refine J.ap1 (enc := encI) [(((nd s.ns a).l : Nat) : Int), (((nd s.ns a).h : Nat) : Int)] hΓ (fun a6 c6 h6 o6 => ?_)) | (refine J.perm (br4.cons _) ?_; refine J.ap1 (enc := encI) [(((nd s.ns a).l : Nat) : Int), (((nd s.ns a).h : Nat) : Int)] hΓ (fun a6 c6 h6 o6 => ?_)) | (refine J.perm (br5.cons _) ?_; refine J.ap1 (enc := encI) [(((nd s.ns a).l : Nat) : Int), (((nd s.ns a).h : Nat) : Int)] hΓ (fun a6 c6 h6 o6 => ?_))) | (refine J.perm br1 ?_; first | (refine J.ap1 (enc := encI) [(((nd s.ns a).l : Nat) : Int), (((nd s.ns a).h : Nat) : Int)] hΓ (fun a6 c6 h6 o6 => ?_)) | (refine J.perm (br1.cons _) ?_; refine J.ap1 (enc := encI) [(((nd s.ns a).l : Nat) : Int), (((nd s.ns a).h : Nat) : Int)] hΓ (fun a6 c6 h6 o6 => ?_)) | (refine J.perm (br2.cons _) ?_; refine J.ap1 (enc := encI) [(((nd s.ns a).l : Nat) : Int), (((nd s.ns a).h : Nat) : Int)] hΓ (fun a6 c6 h6 o6 => ?_)) | (refine J.perm (br3.cons _) ?_; refine J.ap1 (enc := encI) [(((nd s.ns a).l : Nat) : Int), (((nd s.ns a).h : Nat) : Int)] hΓ (fun a6 c6 h6 o6 => ?_)) | (refine J.perm (br4.cons _) ?_; refine J.ap1 (enc := encI) [(((nd s.ns a).l : Nat) : Int), (((nd s.ns a).h : Nat) : Int)] hΓ (fun a6 c6 h6 o6 => ?_)) | (refine J.perm (br5.cons _) ?_; refine J.ap1 (enc := encI) [(((nd s.ns a).l : Nat) : Int), (((nd s.ns a).h : Nat) : Int)] hΓ (fun a6 c6 h6 o6 => ?_))) | (refine J.perm br2 ?_; first | (refine J.ap1 (enc := encI) [(((nd s.ns a).l : Nat) : Int), (((nd s.ns a).h : Nat) : Int)] hΓ (fun a6 c6 h6 o6 => ?_)) | (refine J.perm (br1.cons _) ?_; refine J.ap1 (enc := encI) [(((nd s.ns a).l : Nat) : Int), (((nd s.ns a).h : Nat) : Int)] hΓ (fun a6 c6 h6 o6 => ?_)) | (refine J.perm (br2.cons _) ?_; refine J.ap1 (enc := encI) [(((nd s.ns a).l : Nat) : Int), (((nd s.ns a).h : Nat) : Int)] hΓ (fun a6 c6 h6 o6 => ?_)) | (refine J.perm (br3.cons _) ?_; refine J.ap1 (enc := encI) [(((nd s.ns a).l : Nat) : Int), (((nd s.ns a).h : Nat) : Int)] hΓ (fun a6 c6 h6 o6 => ?_)) | (refine J.perm (br4.cons _) ?_; refine J.ap1 (enc := encI) [(((nd s.ns a).l : Nat) : Int), (((nd s.ns a).h : Nat) : Int)] hΓ (fun a6 c6 h6 o6 => ?_)) | (refine J.perm (br5.cons _) ?_; refine J.ap1 (enc := encI) [(((nd s.ns a).l : Nat) : Int), (((nd s.ns a).h : Nat) : Int)] hΓ (fun a6 c6 h6 o6 => ?_))))) | (first | (refine J.o 0 ?_; refine J.ev' hΓ ?_) | refine J.nil ?_ | (refine J.o 4 ?_; first | refine J.lT default hΓ ?_) | (refine J.o 3 ?_; first | refine J.iJ hΓ ?_ | refine J.ev' hΓ ?_) | (refine J.o 9 ?_; refine J.bl hΓ (fun _ => ?_)) | (refine J.o 10 ?_; refine J.ev' hΓ ?_) | (refine J.o 11 ?_; refine J.ev' hΓ ?_)))
            | (first | refine JC.seq ?_ | refine JC.region ?_ | refine JC.block ?_ | refine JC.ret ?_ | refine JC.exit ?_ | refine JC.skip ?_ | refine thenK.nn ?_ | refine thenK.x ?_ | refine blockK.nn ?_ | refine blockK.hit rfl ?_ | refine JC.condT rfl ?_ | refine JC.condF rfl ?_ | (refine JC.cond rfl (fun hc => ?_) (fun hc => ?_) <;> ((try simp only [decide_eq_true_eq, decide_eq_false_iff_not, beq_iff_eq, beq_eq_false_iff_ne, bne_iff_ne, bne_eq_false_iff_eq, Bool.not_eq_true', Bool.not_eq_false', Bool.not_eq_true, Bool.not_eq_false] at hc) <;> first | (first | (exact absurd rfl hc) | (exfalso; omega) | (exact absurd (hc.symm.trans (by assumption : _ = false)) (by decide)) | (exact absurd (hc.symm.trans (by assumption : _ = true)) (by decide))) | skip)) | refine loopK.x ?_)
            | (fail)
            | fail
          all_goals first | (exfalso; omega) | skip
          rw [hQQ] at o6
          rw [seenS_put hin] at ms4
          refine loopK.nn (m - 1) (by omega) (by repeat (first | refine Ag.upd rfl ?_ | exact Ag.hv)) ⟨_, ⟨Q ++ [(nd s.ns a).l, (nd s.ns a).h], S ++ [a], mput mm v (c0 + 1), a6, c6, h6, h4, h5, ?_, by omega, by omega, hnx, o6, ms4, mt5, rfl⟩, fun w hw => H.sel (l := [_, _, _]) (M := []) hw [0, 2, 1]⟩
          show Value.slice _ _ _ = _; rw [hQQ]
end Go.Proofs.YtbhgahjeocnfcaaGreat
namespace Go.Proofs
open Go.Shelf
def Tryz.laysIns_ren : Go.Shelf.Ren := ⟨fun | 21 => 99 | 27 => 111 | 28 => 112 | 35 => 126 | 39 => 136 | n => n, fun | 22 => 28 | 3 => 3 | 4 => 4 | 0 => 0 | n => n, fun | n => n⟩
theorem Tryz.laysIns : Go.Proofs.Lays2.n21 Tryz.prog Tryz.laysIns_ren := {
  mixed := by kernel_rfl
  f21 := Tryz.func99.trans (congrArg some (by kernel_rfl))
  f27 := Tryz.func111.trans (congrArg some (by kernel_rfl))
  f28 := Tryz.func112.trans (congrArg some (by kernel_rfl))
  f35 := Tryz.func126.trans (congrArg some (by kernel_rfl))
  f39 := Tryz.func136.trans (congrArg some (by kernel_rfl))
  t0 := Tryz.underlying0
  a0 := Tryz.isAgg0
  z0 := Tryz.sizeOf0
  v0 := Tryz.zeroValue0
  t3 := Tryz.underlying3
  a3 := Tryz.isAgg3
  z3 := Tryz.sizeOf3
  v3 := Tryz.zeroValue3
  t4 := Tryz.underlying4
  a4 := Tryz.isAgg4
  z4 := Tryz.sizeOf4
  v4 := Tryz.zeroValue4
  t22 := Tryz.underlying28
  a22 := Tryz.isAgg28
  z22 := Tryz.sizeOf28
  v22 := Tryz.zeroValue28
  i3 := by kernel_rfl }
end Go.Proofs
namespace Go.Proofs.YtbhgahjeocnfcaaGreat
open Go Go.Cx Go.RowKit
set_option linter.unusedVariables false
set_option linter.unusedSimpArgs false
set_option maxHeartbeats 4000000
attribute [local irreducible] J JC thenK blockK loopK roundK drawK retK QW Qt pel List.set Calls
open Go.Maps Go.Lib
set_option maxRecDepth 8000
attribute [local irreducible] JE Br eK0 eK3 brK pc JR thenR JA
section
variable {P : Program} {n : Nat} {w0 : World} {R : Heap} {l0 : List Oper} {K : Exit → Fr → List Heap → Prop} {f : Fr} {L : List Heap} {rest : List (Nat × Oper)}
variable {Γ : List (Nat × TI)} {d : Nat} {ty : TypeId} {pos : String} {aft : Array Edge} {g : Option (Nat × Bool)}
variable {α : Type} {enc : α → List Value} {size : Nat} {e : TypeId} {us : List α}
theorem J.apC {t : TypeId} {x y : Operand} {m c gb : Nat} {b : Option Addr} {hs : Heap} {s1 b1 b2 : Nat} {z1 : Option Value} {z : Value} {zc : List Value} {de : TypeDesc} (hΓ : Fits P Γ) (hel : ∀ t, (enc t).length = size) (hus : SlT enc size b us hs) (hr : RdH R ([(gb, .cells ⟨[]⟩ e (0, 0))] :: L) hs)
    (k : ∀ a' cap' h', OwT enc size e a' cap' us h' → cap' ≤ 9223372036854775807 → J P n w0 R l0 K rest (upd f d (.slice a' us.length cap')) (h' :: L))
    (hg : wantB n f l0 ⟨some d, .call ⟨.builtin .append, ⟨[x, y]⟩, ⟨[t, t]⟩⟩, ty, pos, aft, g⟩ = true := by exact rfl)
    (hx : Cx.ev n f x = .slice (some ⟨gb, 0, none⟩) 0 0 := by exact rfl) (hy : Cx.ev n f y = .slice b m c := by exact rfl) (ht : Cx.look Γ t = some ⟨.slice e, s1, z1, b1⟩ := by exact rfl) (he : Cx.look Γ e = some ⟨de, size, some z, b2⟩ := by exact rfl) (hz : vcells z = some zc := by exact rfl) (hzl : Nat.beq zc.length size = true := by exact rfl)
    (hm : us.length = m := by first | rfl | assumption | omega) (h1 : ∀ t, ones (enc t) = true := by intro _; rfl) (hb : m * b2 ≤ 140737488355328 := by omega) (h63 : m ≤ 9223372036854775807 := by omega) :
    J P n w0 R l0 K ((2, ⟨some d, .call ⟨.builtin .append, ⟨[x, y]⟩, ⟨[t, t]⟩⟩, ty, pos, aft, g⟩) :: rest) f ([(gb, .cells ⟨[]⟩ e (0, 0))] :: L) := by
  subst hm
  have ho0 : OwT enc size e (some ⟨gb, 0, none⟩) 0 ([] : List α) [(gb, .cells ⟨[]⟩ e (0, 0))] := ⟨hel, .inr ⟨gb, [], rfl, rfl, by simp, Nat.le_refl _, by simp⟩⟩
  rcases Nat.eq_zero_or_pos us.length with h0 | hpos
  · have hun : us = [] := List.eq_nil_of_length_eq_zero h0
    subst hun
    refine J.v (Φ := fun v L' => v = .slice (some ⟨gb, 0, none⟩) 0 0 ∧ L' = [(gb, .cells ⟨[]⟩ e (0, 0))] :: L) hg (fun w hw => ⟨_, _, w, ?_, hw, rfl, rfl⟩) (fun v L' ⟨e1, e2⟩ => by subst e1; subst e2; exact k _ _ _ ho0 (by omega))
    have h2 : (⟨[x, y]⟩ : Array Operand).map (Cx.ev n f) = #[.slice (some ⟨gb, 0, none⟩) 0 0, .slice b 0 c] := by simp [hx, hy]
    simp only [execOp, resolve, h2, Sem.run_bind, Sem.run_pure, Result.andThen_ok, invoke, builtin]
    rw [app_empty hΓ ht he (Nat.le_refl _)]
    rfl
  refine J.v (Φ := fun v L' => ∃ a' cap' h', v = .slice a' us.length cap' ∧ L' = h' :: L ∧ OwT enc size e a' cap' us h' ∧ cap' ≤ 9223372036854775807) hg (fun w hw => ?_) (fun v L' ⟨a', cap', h', e1, e2, e3, e4⟩ => by subst e1; subst e2; exact k a' cap' h' e3 e4)
  obtain ⟨bb, off, cs0, e0, fr0, rfl, hm0, _, _⟩ := hus.at_ 0 hpos
  have hu := (hΓ t _ ht).1
  obtain ⟨hue, ie, hie, hse, hze, hbe⟩ := hΓ e _ he
  have hsz : ie.size = size := hse
  have hzs : z.cells.size = size := by rw [vcells_eq hz]; simpa using (Nat.eq_of_beq_eq_true hzl)
  have hl : (us.flatMap enc).length = us.length * ie.size := by rw [flat_len hel, hse]
  have hfit : Builtin.nextslicecap us.length 0 * ie.bytes ≤ 281474976710656 := by
    have h2 := nextslicecap_le (need := us.length) (old := 0) hpos
    have h3 : Builtin.nextslicecap us.length 0 * b2 ≤ (2 * us.length) * b2 := Nat.mul_le_mul_right _ h2
    rw [Nat.mul_assoc] at h3
    rw [hbe]
    show _ * b2 ≤ _
    omega
  have hrun := run_append_grow (P := P) w t ty e ie z hu hie hze ⟨gb, 0, none⟩ 0 0 [] (by simp) (fun j v hj => by simp at hj) ⟨bb, off, none⟩ us.length c (us.flatMap enc) hl
    (fun j u hj => by
      have hsz : 0 < size := by
        rcases Nat.eq_zero_or_pos size with h0 | h0
        · have hl0 := flat_len hel us
          rw [h0, Nat.mul_zero] at hl0
          rw [List.eq_nil_of_length_eq_zero hl0] at hj
          simp at hj
        · exact h0
      have hjl : j < us.length * size := by rw [← flat_len hel]; exact (List.getElem?_eq_some_iff.1 hj).1
      have hi : j / size < us.length := Nat.div_lt_of_lt_mul (by rw [Nat.mul_comm]; exact hjl)
      obtain ⟨b2', off2, cs, e2, fr2, e1, hm2, hf2, hc2⟩ := hus.at_ (j / size) hi
      simp only [Option.some.injEq, Addr.mk.injEq, and_true] at e1
      obtain ⟨rfl, rfl⟩ := e1
      have hadd : (⟨bb, off, none⟩ : Addr).add j = ⟨bb, off + j, none⟩ := by unfold Addr.add; split <;> simp_all
      have hbk := hw.rd (hr _ hm2)
      rw [hadd, cell_of_row w bb (off + j) _ e2 fr2 hbk]
      have hfa := flat_at hel us (j / size) hi
      have hmod : j / size * size + j % size = j := by rw [Nat.mul_comm]; exact Nat.div_add_mod j size
      have hml := Nat.mod_lt j hsz
      have e3 : ((us.flatMap enc).drop (j / size * size) |>.take size)[j % size]? = some u := by
        rw [List.getElem?_take, if_pos hml, List.getElem?_drop, hmod, hj]
      rw [hfa, ← hc2, List.getElem?_take, if_pos hml, List.getElem?_drop] at e3
      rw [show off + j = off + j / size * size + j % size by omega]
      simpa using e3) (by omega) (by omega) (by rw [Nat.zero_add]; exact hfit)
  have e0 : (([] : List Value).toArray ++ (us.flatMap enc).toArray) = (us.flatMap enc).toArray := by simp
  rw [Nat.zero_add, e0] at hrun
  have hge := grownCap_ge w us.length 0 e
  have hle := grownCap_le_maxLen w us.length 0 e (by unfold maxLen; omega)
  refine ⟨_, _, _, ?_, (hw.drop.drew (w.drawn + 1)).alloc (.cells ((us.flatMap enc).toArray ++ Builtin.zeroCells z.cells (grownCap w us.length 0 e - us.length)) e), some ⟨w.heap.size, 0, none⟩, grownCap w us.length 0 e, _, rfl, rfl, ⟨hel, .inr ⟨w.heap.size, us.flatMap enc ++ (Builtin.zeroCells z.cells (grownCap w us.length 0 e - us.length)).toList, rfl, ?_, ?_, hge, ?_⟩⟩, by unfold maxLen at hle; omega⟩
  · have h2 : (⟨[x, y]⟩ : Array Operand).map (Cx.ev n f) = #[.slice (some ⟨gb, 0, none⟩) 0 0, .slice (some ⟨bb, off, none⟩) us.length c] := by simp [hx, hy]
    simp only [execOp, resolve, h2, Sem.run_bind, Sem.run_pure, Result.andThen_ok, invoke, builtin]
    rw [hrun]
    rfl
  · simp
  · simp only [List.length_append, Array.length_toList, size_zeroCells, hzs, flat_len hel]
    rw [← Nat.add_mul]
    congr 1
    omega
  · rw [List.take_append_of_le_length (by rw [flat_len hel]; exact Nat.le_refl _), List.take_of_length_le (by rw [flat_len hel]; exact Nat.le_refl _)]
end
theorem cloneC_any (a : Option Addr) (c : Nat) (l : List Int) (h : Heap) (hs : SlT encI 1 a l h) (hl : l.length ≤ 1000000) (w : World) (hw : Holds h w) :
    Calls Tryz.prog 53 #[.slice a l.length c] w (Gives (fun v g => ∃ a' c', v = .slice a' l.length c' ∧ OwT encI 1 3 a' c' l g ∧ c' ≤ 9223372036854775807) w) := by
  have q0 : ∀ L, RdH h L h := fun L => RdH.old fun _ hh => hh
  cases a with
  | none =>
    have h0 : l = [] := by
      cases l with
      | nil => rfl
      | cons x l => obtain ⟨b, off, cs', e', fr, h1, _⟩ := hs.at_ 0 (by simp); cases h1
    subst h0
    refine calls_of_JC (R := h) Tryz.func53 Tryz.ntmps53 rfl rfl (hw) ?_
    repeat' first
      | (refine J.isJ ?_; first | ((refine J.o 11 ?_; refine J.sN hΓ ?_)) | (first | (refine J.o 0 ?_; refine J.ev' hΓ ?_) | refine J.nil ?_ | (refine J.o 3 ?_; first | refine J.ev' hΓ ?_) | (refine J.o 9 ?_; refine J.bl hΓ (fun _ => ?_)) | (refine J.o 10 ?_; refine J.ev' hΓ ?_) | (refine J.o 11 ?_; refine J.ev' hΓ ?_)))
      | (first | refine JC.seq ?_ | refine JC.region ?_ | refine JC.ret ?_ | refine JC.skip ?_ | refine thenK.nn ?_ | refine thenK.r ?_ | refine JC.condT rfl ?_ | refine JC.condF rfl ?_)
      | (fail)
      | fail
    all_goals first | (exfalso; omega) | skip
    exact ret1f rfl rfl rfl (fun w1 hw => Gives.of hw.nilF ⟨none, 0, rfl, OwT.nil (fun _ => rfl), by omega⟩)
  | some ad =>
    refine calls_of_JC (R := h) Tryz.func53 Tryz.ntmps53 rfl rfl (hw) ?_
    repeat' first
      | (refine J.isJ ?_; first | (first | (refine J.o 11 ?_; refine J.sN hΓ ?_) | (refine J.o 9 ?_; refine J.apC (enc := encI) hΓ (fun _ => rfl) hs (q0 _) (fun a2 c2 h2 o2 l2 => ?_))) | (first | (refine J.o 0 ?_; refine J.ev' hΓ ?_) | refine J.nil ?_ | (refine J.o 3 ?_; first | refine J.ev' hΓ ?_) | (refine J.o 9 ?_; refine J.bl hΓ (fun _ => ?_)) | (refine J.o 10 ?_; refine J.ev' hΓ ?_) | (refine J.o 11 ?_; refine J.ev' hΓ ?_)))
      | (first | refine JC.seq ?_ | refine JC.region ?_ | refine JC.ret ?_ | refine JC.skip ?_ | refine thenK.nn ?_ | refine thenK.r ?_ | refine JC.condT rfl ?_ | refine JC.condF rfl ?_)
      | (fail)
      | fail
    all_goals first | (exfalso; omega) | skip
    exact ret1f rfl rfl rfl (fun w1 hw => Gives.of hw ⟨a2, c2, rfl, o2, l2⟩)
theorem setCells_H {e : TypeId} {b : Nat} {w0 : World} {R : Heap} {L : List Heap} : ∀ (vs : List Value) (off : Nat) (cs : List Value) (w : World), H w0 R ([(b, .cells ⟨cs⟩ e (0, 0))] :: L) w → H w0 R ([(b, .cells ⟨putL cs off vs⟩ e (0, 0))] :: L) (w.setCells b off vs)
  | [], off, cs, w, h => by rw [putL_nil]; exact h
  | v :: vs, off, cs, w, h => by
    rw [World.setCells, putL_cons]
    refine setCells_H vs (off + 1) (cs.set off v) _ ?_
    have hb := h.rd Rd.hd
    refine h.write rfl rfl rfl ?_ ?_ ?_
    · simp [World.setCell]
    · show (w.heap.modify b _)[b]? = _
      rw [Array.getElem?_modify, if_pos rfl, hb]
      simp
    · intro k hk
      show (w.heap.modify b _)[k]? = _
      rw [Array.getElem?_modify, if_neg (Ne.symm hk)]
theorem ins_put1 {C D : List Value} {i : Nat} {x : Value} (h : i + 1 + D.length ≤ C.length) : putL (putL C i [x]) (i + 1) D = C.take i ++ x :: D ++ C.drop (i + 1 + D.length) := by
  have e : putL (putL C i [x]) (i + 1) D = putL C i (x :: D) := by rw [putL_cons, putL_cons, putL_nil]
  rw [e, putL_eq _ _ _ (by simp; omega)]
  simp [Nat.add_assoc, Nat.add_comm 1]
theorem ins_put2 {C D : List Value} {i : Nat} {x : Value} (h : i + 1 + D.length ≤ C.length) : putL (putL C (i + 1) D) i [x] = C.take i ++ x :: D ++ C.drop (i + 1 + D.length) := by
  rw [putL_cons, putL_nil, putL_eq C (i + 1) D h, List.take_succ_eq_append_getElem (by omega)]
  have hl : (C.take i).length = i := by rw [List.length_take]; omega
  simp only [List.append_assoc]
  rw [List.set_append_right _ _ (by rw [hl]; exact Nat.le_refl _), hl, Nat.sub_self]
  simp
def insAt (rest : List Int) (i : Nat) (v : Int) : List Int := rest.take i ++ v :: rest.drop i
theorem insAt_len {rest : List Int} {i : Nat} (hi : i ≤ rest.length) (v : Int) : (insAt rest i v).length = rest.length + 1 := by
  simp [insAt]; omega
theorem ins_own {g : Nat} {C : List Value} {c : Nat} {rest : List Int} {i : Nat} {v : Int} (hi : i ≤ rest.length) (hc : rest.length + 1 ≤ c) (hC : C.length = c) (hp : C.take i = (rest.map (Value.int .i64)).take i) : OwT encI 1 3 (some ⟨g, 0, none⟩) c (insAt rest i v) [(g, .cells ⟨C.take i ++ Value.int .i64 v :: (rest.map (Value.int .i64)).drop i ++ C.drop (i + 1 + ((rest.map (Value.int .i64)).drop i).length)⟩ 3 (0, 0))] := by
  refine ⟨fun _ => rfl, .inr ⟨g, _, rfl, rfl, ?_, ?_, ?_⟩⟩
  · simp; omega
  · rw [insAt_len hi]; exact hc
  · have e : (C.take i ++ Value.int .i64 v :: (rest.map (Value.int .i64)).drop i) = (insAt rest i v).flatMap encI := by
      rw [intsFlat, hp]
      simp [insAt, List.map_take, List.map_drop]
    rw [e]
    refine List.take_left' ?_
    rw [intsFlat]; simp
theorem eIns : Entr Tryz.prog 99 := Entr.of Tryz.func99 rfl rfl
theorem insert_any {rest : List Int} {ar : Option Addr} {cr : Nat} {hr : Heap} (o : OwT encI 1 3 ar cr rest hr) (hl : rest.length ≤ 128) (hcap : cr ≤ 9223372036854775807) {i : Nat} (hi : i ≤ rest.length) (v : Int) (bl : Nat) {w0 w : World} {R : Heap} {L : List Heap} (hw : H w0 R (hr :: [(bl, .cells ⟨[.int .i64 v]⟩ 3 (0, 0))] :: L) w) :
    Calls Tryz.prog 99 #[.slice ar rest.length cr, .int .i64 (i : Int), .slice (some ⟨bl, 0, none⟩) 1 1] w fun e w' => ∃ x L', e = .returned x ∧ H w0 R L' w' ∧ ∃ a c h, x = .slice a (insAt rest i v).length c ∧ OwT encI 1 3 a c (insAt rest i v) h ∧ L' = h :: L := by
  have hbl : w.heap[bl]? = some (.cells ⟨[.int .i64 v]⟩ 3 (0, 0)) := hw.rd Rd.hd.tl
  have hvs : ∀ j u, [Value.int .i64 v][j]? = some u → w.cell? ⟨bl, 0 + j, none⟩ = some u := fun j u hj => by
    simp only [World.cell?, hbl, Nat.zero_add]
    simpa using hj
  have h1v : ∀ u ∈ [Value.int .i64 v], u.oneCell' = true := fun u hu => by rw [List.mem_singleton.1 hu]; rfl
  have hD : ((rest.map (Value.int .i64)).drop i).length = rest.length - i := by simp
  have hadd : ∀ g j, (⟨g, 0, none⟩ : Addr).add j = ⟨g, j, none⟩ := fun g j => by unfold Addr.add; split <;> simp_all
  rw [insAt_len hi]
  have hz : ∀ k, (Builtin.zeroCells (Value.int .i64 0).cells k).size = k := fun k => by rw [size_zeroCells]; simp [Value.cells]
  have hml : (rest.map (Value.int .i64)).length = rest.length := List.length_map ..
  -- a new row, at the end
  have gE : i = rest.length → ∀ c, rest.length + 1 ≤ c → ∃ h, OwT encI 1 3 (some ⟨w.heap.size, 0, none⟩) c (insAt rest i v) h ∧ H w0 R (h :: L) (w.drew.alloc (.cells ((rest.map (Value.int .i64) ++ [Value.int .i64 v]).toArray ++ Builtin.zeroCells (Value.int .i64 0).cells (c - (rest.length + 1))) 3)) := by
    intro hie c hc
    refine ⟨_, ⟨fun _ => rfl, .inr ⟨w.heap.size, (rest.map (Value.int .i64) ++ [Value.int .i64 v]) ++ (Builtin.zeroCells (Value.int .i64 0).cells (c - (rest.length + 1))).toList, rfl, rfl, ?_, ?_, ?_⟩⟩, ?_⟩
    · simp [hz]; omega
    · rw [insAt_len hi]; exact hc
    · rw [intsFlat, insAt_len hi]
      refine (List.take_left' (by simp)).trans ?_
      simp [insAt, hie]
    · have := (hw.drop.drop.drew (w.drawn + 1)).alloc (.cells ((rest.map (Value.int .i64) ++ [Value.int .i64 v]).toArray ++ Builtin.zeroCells (Value.int .i64 0).cells (c - (rest.length + 1))) 3)
      have e : (⟨(rest.map (Value.int .i64) ++ [Value.int .i64 v]) ++ (Builtin.zeroCells (Value.int .i64 0).cells (c - (rest.length + 1))).toList⟩ : Array Value) = (rest.map (Value.int .i64) ++ [Value.int .i64 v]).toArray ++ Builtin.zeroCells (Value.int .i64 0).cells (c - (rest.length + 1)) := by
        apply Array.ext'
        simp
      rw [e]
      exact this
  have h1m : ∀ u ∈ rest.map (Value.int .i64), u.oneCell' = true := fun u hu => by
    obtain ⟨x, _, rfl⟩ := List.mem_map.1 hu
    rfl
  rcases o.row with ⟨rfl, rfl, rfl, rfl⟩ | ⟨g, C, rfl, rfl, h1, h2, h3⟩
  · obtain rfl : i = 0 := by simpa using hi
    refine (Any2.slices_Insert_int_end_grow Tryz.laysIns none 0 0 bl 0 1 1 [] [.int .i64 v] w (by omega) (by omega) (by omega) (by omega) rfl rfl (fun _ => rfl) (fun a h => by cases h) hvs h1v).mono ?_
    rintro e w' ⟨rfl, rfl⟩
    obtain ⟨h, oh, hH⟩ := gE rfl (grownCap w (0 + 1) 0 3) (grownCap_ge w 1 0 _)
    exact ⟨_, _, rfl, hH, _, _, h, rfl, oh, rfl⟩
  have hb : w.heap[g]? = some (.cells ⟨C⟩ 3 (0, 0)) := hw.rd Rd.hd
  rw [intsFlat, Nat.mul_one] at h3
  rw [Nat.mul_one] at h1
  have hcell : ∀ j u, (rest.map (Value.int .i64))[j]? = some u → w.cell? ⟨g, 0 + j, none⟩ = some u := fun j u hj => by
    simp only [World.cell?, hb, Nat.zero_add]
    rw [← h3, List.getElem?_take] at hj
    split at hj
    · simpa using hj
    · cases hj
  have hsome : ∀ j, j < cr → (w.cell? ⟨g, 0 + j, none⟩).isSome = true := fun j hj => by
    simp only [World.cell?, hb, Nat.zero_add]
    simp; omega
  have hfz : ∀ j, w.frozen? ⟨g, j, none⟩ = false := fun j => by simp [World.frozen?, hb]
  have hfb : ∀ j, w.frozen? ⟨bl, j, none⟩ = false := fun j => by simp [World.frozen?, hbl]
  have hne : bl ≠ g := fun e => by
    have := hw.nodup
    subst e
    simp at this
  have hpre : C.take i = (rest.map (Value.int .i64)).take i := by rw [← h3, List.take_take, Nat.min_eq_left hi]
  rcases Nat.lt_or_ge cr (rest.length + 1) with hroom | hroom
  · -- a new row
    have hcr : cr = rest.length := by omega
    subst hcr
    rcases Nat.lt_or_ge i rest.length with hlt | hge
    · refine (Any2.slices_Insert_int_grow Tryz.laysIns g 0 rest.length rest.length i bl 0 1 1 (rest.map (Value.int .i64)) [.int .i64 v] w hlt (by omega) (by omega) (by omega) (by omega) hml rfl hcell hvs h1m h1v).mono ?_
      rintro e w' ⟨rfl, rfl⟩
      have hgc := grownCap_ge w (rest.length + 1) rest.length 3
      simp only [show Tryz.laysIns_ren.t 3 = 3 from rfl]
      obtain ⟨c, hc⟩ : ∃ c, grownCap w (rest.length + 1) rest.length 3 = c := ⟨_, rfl⟩
      rw [hc] at hgc ⊢
      have hA := hw.drop.drop.alloc (.cells (((rest.map (Value.int .i64)).take i).toArray ++ Builtin.zeroCells (Value.int .i64 0).cells (rest.length + 1 - i) ++ Builtin.zeroCells (Value.int .i64 0).cells (c - (rest.length + 1))) 3)
      obtain ⟨D, hD1⟩ : ∃ D : List Value, (((rest.map (Value.int .i64)).take i).toArray ++ Builtin.zeroCells (Value.int .i64 0).cells (rest.length + 1 - i) ++ Builtin.zeroCells (Value.int .i64 0).cells (c - (rest.length + 1))) = ⟨D⟩ := ⟨_, rfl⟩
      have hDl : D.length = c := by
        have := congrArg Array.size hD1
        simp [hz] at this
        omega
      have hDp : D.take i = (rest.map (Value.int .i64)).take i := by
        have := congrArg Array.toList hD1
        simp only [Array.toList_append, List.append_assoc] at this
        rw [← this]
        exact List.take_left' (by simp; omega)
      rw [hD1] at hA ⊢
      have hB := setCells_H [.int .i64 v] i D _ (hA.drew (w.drawn + 1))
      have hC := setCells_H ((rest.map (Value.int .i64)).drop i) (i + 1) _ _ (hB.drew ((World.setCells { (w.alloc (.cells ⟨D⟩ 3)) with drawn := w.drawn + 1 } w.heap.size i [Value.int .i64 v]).drawn + 1))
      rw [ins_put1 (by rw [hD, hDl]; omega)] at hC
      exact ⟨_, _, rfl, hC, _, _, _, rfl, ins_own hi hgc hDl hDp, rfl⟩
    · obtain rfl : i = rest.length := by omega
      refine (Any2.slices_Insert_int_end_grow Tryz.laysIns (some ⟨g, 0, none⟩) rest.length rest.length bl 0 1 1 (rest.map (Value.int .i64)) [.int .i64 v] w (by omega) (by omega) (by omega) (by omega) hml rfl (fun h => by cases h) (fun a h j u hj => by cases h; rw [hadd]; simpa using hcell j u hj) hvs h1v).mono ?_
      rintro e w' ⟨rfl, rfl⟩
      obtain ⟨h, oh, hH⟩ := gE rfl (grownCap w (rest.length + 1) rest.length 3) (grownCap_ge w _ _ _)
      exact ⟨_, _, rfl, hH, _, _, h, rfl, oh, rfl⟩
  · -- in place
    rcases Nat.lt_or_ge i rest.length with hlt | hge
    · refine (Any2.slices_Insert_int_shift Tryz.laysIns g 0 rest.length cr i bl 0 1 1 (rest.map (Value.int .i64)) [.int .i64 v] w hlt (by omega) hroom hcap hne hml rfl hcell (fun j hj => hsome j (by omega)) (fun j _ => hfz _) hvs h1m h1v 3 3 1 cr (by simp [World.shape?, hbl]) (by simp [World.shape?, hb, h1]) (by omega) (hfb _) (hfb _)).mono ?_
      rintro e w' ⟨rfl, rfl⟩
      simp only [Nat.zero_add]
      have hB := setCells_H ((rest.map (Value.int .i64)).drop i) (i + 1) C _ (hw.drew (w.drawn + 1))
      have hC := setCells_H [.int .i64 v] i _ _ hB
      rw [ins_put2 (by rw [hD]; omega)] at hC
      exact ⟨_, _, rfl, (hC.perm (List.Perm.swap _ _ _)).drop, _, _, _, rfl, ins_own hi hroom h1 hpre, rfl⟩
    · obtain rfl : i = rest.length := by omega
      refine (Any2.slices_Insert_int_end_room Tryz.laysIns g 0 rest.length cr bl 0 1 1 [.int .i64 v] w (by omega) hroom hcap rfl (fun j hj => by rw [Nat.add_assoc]; exact hsome _ (by omega)) (fun j _ => hfz _) hvs h1v).mono ?_
      rintro e w' ⟨rfl, rfl⟩
      simp only [Nat.zero_add]
      have hC := setCells_H [.int .i64 v] rest.length C _ hw
      have e1 : putL C rest.length [Value.int .i64 v] = C.take rest.length ++ Value.int .i64 v :: (rest.map (Value.int .i64)).drop rest.length ++ C.drop (rest.length + 1 + ((rest.map (Value.int .i64)).drop rest.length).length) := by
        rw [← ins_put1 (by rw [hD]; omega)]
        rw [List.drop_eq_nil_of_le (by rw [hml]; exact Nat.le_refl _), putL_nil]
      rw [e1] at hC
      exact ⟨_, _, rfl, (hC.perm (List.Perm.swap _ _ _)).drop, _, _, _, rfl, ins_own hi hroom h1 hpre, rfl⟩
end Go.Proofs.YtbhgahjeocnfcaaGreat
namespace Go.Proofs.YtbhgahjeocnfcaaGreat
open Go Go.Cx Go.RowKit
set_option linter.unusedVariables false
set_option linter.unusedSimpArgs false
set_option maxHeartbeats 4000000
attribute [local irreducible] J JC thenK blockK loopK roundK drawK retK QW Qt pel List.set Calls
open Go.Maps Go.Lib
set_option maxRecDepth 8000
attribute [local irreducible] JE Br eK0 eK3 brK pc JR thenR JA
theorem eOrd2 : Entr Tryz.prog 98 := Entr.of Tryz.func98 rfl rfl
theorem ord2_any {l rest : List Int} {v : Int} (hl8 : l.length ≤ 128) (hrl : rest.length + 1 = l.length) {b2 b5 b3 : Nat} {a ar : Option Addr} {c cr : Nat} {hl hr X : Heap} (hX : X = [(b2, .cells ⟨[.slice a l.length c]⟩ 28 (0, 0))] ++ ([(b5, .cells ⟨[.slice ar rest.length cr]⟩ 28 (0, 0))] ++ ([(b3, .cells ⟨[.int .i64 v]⟩ 3 (0, 0))] ++ (hl ++ hr)))) (sl : SlT encI 1 a l hl) (sr : SlT encI 1 ar rest hr) (m lp : Nat) {w0 : World} {R : Heap} (I : Nat → List Heap → Prop) (hIX : ∀ i L, I i L → RdH R L X)
    (hround : ∀ i L, i < l.length → I i L → ∀ a c h, OwT encI 1 3 a c (insAt rest i v) h → ∀ w, H w0 R (h :: L) w → ∃ fn tmps assign body, (Instr.yield lp ⟨[.slice a (insAt rest i v).length c]⟩).run Tryz.prog w = .ok (.round lp fn tmps assign body) w ∧ RoundIn (FR none) (m - 1) Tryz.prog lp fn tmps assign body w fun e w' => ∃ v L', e = .returned v ∧ H w0 R L' w' ∧ v = .bool true ∧ I (i + 1) L')
    {L : List Heap} (h0 : I 0 L) {w : World} (hw : H w0 R L w) :
    CallsIn (FR none) m Tryz.prog 98 ⟨[.func (.yield lp) ⟨[]⟩ ⟨[]⟩, .pointer (some ⟨b2, 0, none⟩), .pointer (some ⟨b5, 0, none⟩), .pointer (some ⟨b3, 0, none⟩)]⟩ w fun e w' => ∃ v L', e = .returned v ∧ H w0 R L' w' ∧ I l.length L' := by
  have r2 : ∀ i L, I i L → Rd R L b2 (.cells ⟨[.slice a l.length c]⟩ 28 (0, 0)) := fun i L hi => hIX i L hi _ (by rw [hX]; exact List.mem_cons_self)
  refine calls_inR Tryz.func98 Tryz.ntmps98 rfl rfl hw ?_
  have h2 := r2 0 L h0
  repeat' first
    | (refine J.isJ ?_; first | ((refine J.o 4 ?_; refine J.lR hΓ ?_ (hr := h2))) | (first | (refine J.o 0 ?_; refine J.ev' hΓ ?_) | refine J.nil ?_ | (refine J.o 4 ?_; first | refine J.lR hΓ ?_) | (refine J.o 3 ?_; first | refine J.ev' hΓ ?_) | (refine J.o 1 ?_; first | refine J.ad ?_) | (refine J.o 9 ?_; refine J.bl hΓ (fun _ => ?_)) | (refine J.o 10 ?_; refine J.ev' hΓ ?_) | (refine J.o 11 ?_; refine J.ev' hΓ ?_)))
    | (first | refine JR.seq ?_ | refine JR.region (by kernel_rfl) ?_ | refine JR.block ?_ | refine JR.ret ?_ | refine JR.exit ?_ | refine JR.skip ?_ | refine thenR.nn ?_ | refine thenR.r ?_ | refine thenR.x ?_ | refine blockK.nn ?_ | refine blockK.hit rfl ?_ | refine JR.condT rfl ?_ | refine JR.condF rfl ?_ | (refine JR.cond rfl (fun hc => ?_) (fun hc => ?_) <;> ((try simp only [decide_eq_true_eq, decide_eq_false_iff_not, beq_iff_eq, beq_eq_false_iff_ne, bne_iff_ne, bne_eq_false_iff_eq, Bool.not_eq_true', Bool.not_eq_false', Bool.not_eq_true, Bool.not_eq_false] at hc) <;> first | (first | (exact absurd rfl hc) | (exfalso; omega) | (exact absurd (hc.symm.trans (by assumption : _ = false)) (by decide)) | (exact absurd (hc.symm.trans (by assumption : _ = true)) (by decide))) | skip)) | refine loopK.x ?_)
    | (fail)
    | fail
  all_goals first | (exfalso; omega) | skip
  refine JR.loop (fun i => i == 5 || Nat.ble 8 i) (fun k g L' => ∃ i : Nat, g 8 = .int .i64 (i : Int) ∧ i + k = l.length ∧ I i L') l.length ⟨0, rfl, by omega, h0⟩ ?_
  rintro k g L' ⟨i, e8, hik, hi⟩
  refine JR.pin 8 e8 ?_
  have h2 := r2 i L' hi
  rcases Nat.lt_or_ge i l.length with hil | hil
  case inr =>
    obtain rfl : i = l.length := by omega
    repeat' first
      | (refine J.isJ ?_; first | (fail) | (first | (refine J.o 0 ?_; refine J.ev' hΓ ?_) | refine J.nil ?_ | (refine J.o 4 ?_; first | refine J.lR hΓ ?_) | (refine J.o 3 ?_; first | refine J.ev' hΓ ?_) | (refine J.o 1 ?_; first | refine J.ad ?_) | (refine J.o 9 ?_; refine J.bl hΓ (fun _ => ?_)) | (refine J.o 10 ?_; refine J.ev' hΓ ?_) | (refine J.o 11 ?_; refine J.ev' hΓ ?_)))
      | (first | refine JR.seq ?_ | refine JR.region (by kernel_rfl) ?_ | refine JR.block ?_ | refine JR.ret ?_ | refine JR.exit ?_ | refine JR.skip ?_ | refine thenR.nn ?_ | refine thenR.r ?_ | refine thenR.x ?_ | refine blockK.nn ?_ | refine blockK.hit rfl ?_ | refine JR.condT rfl ?_ | refine JR.condF rfl ?_ | (refine JR.cond rfl (fun hc => ?_) (fun hc => ?_) <;> ((try simp only [decide_eq_true_eq, decide_eq_false_iff_not, beq_iff_eq, beq_eq_false_iff_ne, bne_iff_ne, bne_eq_false_iff_eq, Bool.not_eq_true', Bool.not_eq_false', Bool.not_eq_true, Bool.not_eq_false] at hc) <;> first | (first | (exact absurd rfl hc) | (exfalso; omega) | (exact absurd (hc.symm.trans (by assumption : _ = false)) (by decide)) | (exact absurd (hc.symm.trans (by assumption : _ = true)) (by decide))) | skip)) | refine loopK.x ?_)
      | (fail)
      | fail
    all_goals first | (exfalso; omega) | skip
    exact ret0n rfl (fun w hw => ⟨_, _, rfl, hw, hi⟩)
  repeat' first
    | (refine J.isJ ?_; first | (fail) | (first | (refine J.o 0 ?_; refine J.ev' hΓ ?_) | refine J.nil ?_ | (refine J.o 4 ?_; first | refine J.lR hΓ ?_) | (refine J.o 3 ?_; first | refine J.ev' hΓ ?_) | (refine J.o 1 ?_; first | refine J.ad ?_) | (refine J.o 9 ?_; refine J.bl hΓ (fun _ => ?_)) | (refine J.o 10 ?_; refine J.ev' hΓ ?_) | (refine J.o 11 ?_; refine J.ev' hΓ ?_)))
    | (first | refine JR.seq ?_ | refine JR.region (by kernel_rfl) ?_ | refine JR.block ?_ | refine JR.ret ?_ | refine JR.exit ?_ | refine JR.skip ?_ | refine thenR.nn ?_ | refine thenR.r ?_ | refine thenR.x ?_ | refine blockK.nn ?_ | refine blockK.hit rfl ?_ | refine JR.condT rfl ?_ | refine JR.condF rfl ?_ | (refine JR.cond rfl (fun hc => ?_) (fun hc => ?_) <;> ((try simp only [decide_eq_true_eq, decide_eq_false_iff_not, beq_iff_eq, beq_eq_false_iff_ne, bne_iff_ne, bne_eq_false_iff_eq, Bool.not_eq_true', Bool.not_eq_false', Bool.not_eq_true, Bool.not_eq_false] at hc) <;> first | (first | (exact absurd rfl hc) | (exfalso; omega) | (exact absurd (hc.symm.trans (by assumption : _ = false)) (by decide)) | (exact absurd (hc.symm.trans (by assumption : _ = true)) (by decide))) | skip)) | refine loopK.x ?_)
    | (fail)
    | fail
  all_goals first | (exfalso; omega) | skip
  refine JR.draw (by decide +kernel) ?_
  refine JA.quiet (i := 0) rfl (by decide +kernel) (by decide +kernel) (by decide +kernel) (fun _ _ => rfl) (noP.qw (by repeat (first | exact noP.retK | refine noP.thenR ?_ | refine noP.blockK ?_ | refine noP.loopK ?_))) ?_
  refine J.isJ ?_
  refine J.o 0 ?_
  refine J.ev' hΓ ?_
  refine J.nil ?_
  refine nextK.nn ?_
  refine JA.quiet (i := 3) rfl (by decide +kernel) (by decide +kernel) (by decide +kernel) (fun _ _ => rfl) (noP.qw (by repeat (first | exact noP.retK | refine noP.thenR ?_ | refine noP.blockK ?_ | refine noP.loopK ?_))) ?_
  refine J.isJ ?_
  refine J.o 0 ?_
  refine J.ev' hΓ ?_
  refine J.nil ?_
  refine nextK.nn ?_
  refine JA.meet (fuel' := 3) (listed' := #[true, true, true, true, true, true, false, false, false]) (fun f0 g2 Lx => ∃ (bl : Nat) (ac : Option Addr) (cc : Nat) (hC : Heap), OwT encI 1 3 ac cc rest hC ∧ cc ≤ 9223372036854775807 ∧ g2 13 = .slice ac rest.length cc ∧ g2 16 = .slice (some ⟨bl, 0, none⟩) 1 1 ∧ Ag (fun i => i == 12 || i == 13 || i == 15 || i == 16) f0 g2 ∧ Lx.Perm (hC :: [(bl, .cells ⟨[.int .i64 v]⟩ 3 (0, 0))] :: L')) ?_ (fun fin => ?_)
  case refine_2 =>
    have mX : ∀ x, x ∈ X → ∀ L, I i L → Rd R L x.1 x.2 := fun x hx L hi => hIX i L hi x hx
    have r5 : Rd R L' b5 (.cells ⟨[.slice ar rest.length cr]⟩ 28 (0, 0)) := hIX i L' hi (b5, _) (by rw [hX]; simp)
    have r3 : Rd R L' b3 (.cells ⟨[.int .i64 v]⟩ 3 (0, 0)) := hIX i L' hi (b3, _) (by rw [hX]; simp)
    have rr : RdH R L' hr := fun x hx => hIX i L' hi x (by rw [hX]; simp [hx])
    refine JA.two (i := 1) (j := 4) (by decide +kernel) ?_ ?_
    ·
      refine JO.of rfl (fun c h => by cases h) ?_
      (refine J.isJ ?_; refine J.o 4 ?_; first | refine J.lR hΓ ?_ (hr := r5) | refine J.lR hΓ ?_ (hr := r5.tl))
      (refine J.nil ?_; refine nextK.nn ?_)
      refine JA.two (i := 2) (j := 4) (by decide +kernel) ?_ ?_
      ·
        refine JO.of rfl (fun c h => by cases h) ?_
        (refine J.isJ ?_; refine J.fc 53 ?_; refine J.call1 eClone rfl rfl (fun w hw => cloneC_any ar cr rest hr sr (by omega) w (hw.rdH (by first | exact rr | exact rr.tl))) ?_; rintro _ hg ⟨a1, c1, rfl, o1, l1⟩)
        (refine J.nil ?_; refine nextK.nn ?_)
        refine JA.one (i := 4) (by decide +kernel) ?_
        refine JO.of rfl (fun c h => by cases h) ?_
        (refine J.isJ ?_; refine J.o 4 ?_; first | refine J.lR hΓ ?_ (hr := r3) | refine J.lR hΓ ?_ (hr := r3.tl))
        (refine J.nil ?_; refine nextK.nn ?_)
        refine JA.one (i := 5) (by decide +kernel) ?_
        refine JO.of rfl (fun c h => by cases h) ?_
        (refine J.isJ ?_; refine J.o 9 ?_; refine J.bl (e := 3) hΓ (fun bl => ?_))
        (refine J.nil ?_; refine nextK.nn ?_)
        refine JA.at (listed' := #[true, true, true, true, true, true, false, false, false]) ?_ (fin _ _ ⟨_, _, _, _, o1, l1, rfl, rfl, by (repeat (first | refine Ag.upd rfl ?_ | exact Ag.rfl')), by first | exact .refl _ | exact br1⟩)
        decide +kernel
      ·
        refine JO.of rfl (fun c h => by cases h) ?_
        (refine J.isJ ?_; refine J.o 4 ?_; first | refine J.lR hΓ ?_ (hr := r3) | refine J.lR hΓ ?_ (hr := r3.tl))
        (refine J.nil ?_; refine nextK.nn ?_)
        refine JA.two (i := 2) (j := 5) (by decide +kernel) ?_ ?_
        ·
          refine JO.of rfl (fun c h => by cases h) ?_
          (refine J.isJ ?_; refine J.fc 53 ?_; refine J.call1 eClone rfl rfl (fun w hw => cloneC_any ar cr rest hr sr (by omega) w (hw.rdH (by first | exact rr | exact rr.tl))) ?_; rintro _ hg ⟨a1, c1, rfl, o1, l1⟩)
          (refine J.nil ?_; refine nextK.nn ?_)
          refine JA.one (i := 5) (by decide +kernel) ?_
          refine JO.of rfl (fun c h => by cases h) ?_
          (refine J.isJ ?_; refine J.o 9 ?_; refine J.bl (e := 3) hΓ (fun bl => ?_))
          (refine J.nil ?_; refine nextK.nn ?_)
          refine JA.at (listed' := #[true, true, true, true, true, true, false, false, false]) ?_ (fin _ _ ⟨_, _, _, _, o1, l1, rfl, rfl, by (repeat (first | refine Ag.upd rfl ?_ | exact Ag.rfl')), by first | exact .refl _ | exact br1⟩)
          decide +kernel
        ·
          refine JO.of rfl (fun c h => by cases h) ?_
          (refine J.isJ ?_; refine J.o 9 ?_; refine J.bl (e := 3) hΓ (fun bl => ?_))
          (refine J.nil ?_; refine nextK.nn ?_)
          refine JA.one (i := 2) (by decide +kernel) ?_
          refine JO.of rfl (fun c h => by cases h) ?_
          (refine J.isJ ?_; refine J.fc 53 ?_; refine J.call1 eClone rfl rfl (fun w hw => cloneC_any ar cr rest hr sr (by omega) w (hw.rdH (by first | exact rr | exact rr.tl))) ?_; rintro _ hg ⟨a1, c1, rfl, o1, l1⟩)
          (refine J.nil ?_; refine nextK.nn ?_)
          refine JA.at (listed' := #[true, true, true, true, true, true, false, false, false]) ?_ (fin _ _ ⟨_, _, _, _, o1, l1, rfl, rfl, by (repeat (first | refine Ag.upd rfl ?_ | exact Ag.rfl')), by first | exact .refl _ | exact br1⟩)
          decide +kernel
    ·
      refine JO.of rfl (fun c h => by cases h) ?_
      (refine J.isJ ?_; refine J.o 4 ?_; first | refine J.lR hΓ ?_ (hr := r3) | refine J.lR hΓ ?_ (hr := r3.tl))
      (refine J.nil ?_; refine nextK.nn ?_)
      refine JA.two (i := 1) (j := 5) (by decide +kernel) ?_ ?_
      ·
        refine JO.of rfl (fun c h => by cases h) ?_
        (refine J.isJ ?_; refine J.o 4 ?_; first | refine J.lR hΓ ?_ (hr := r5) | refine J.lR hΓ ?_ (hr := r5.tl))
        (refine J.nil ?_; refine nextK.nn ?_)
        refine JA.two (i := 2) (j := 5) (by decide +kernel) ?_ ?_
        ·
          refine JO.of rfl (fun c h => by cases h) ?_
          (refine J.isJ ?_; refine J.fc 53 ?_; refine J.call1 eClone rfl rfl (fun w hw => cloneC_any ar cr rest hr sr (by omega) w (hw.rdH (by first | exact rr | exact rr.tl))) ?_; rintro _ hg ⟨a1, c1, rfl, o1, l1⟩)
          (refine J.nil ?_; refine nextK.nn ?_)
          refine JA.one (i := 5) (by decide +kernel) ?_
          refine JO.of rfl (fun c h => by cases h) ?_
          (refine J.isJ ?_; refine J.o 9 ?_; refine J.bl (e := 3) hΓ (fun bl => ?_))
          (refine J.nil ?_; refine nextK.nn ?_)
          refine JA.at (listed' := #[true, true, true, true, true, true, false, false, false]) ?_ (fin _ _ ⟨_, _, _, _, o1, l1, rfl, rfl, by (repeat (first | refine Ag.upd rfl ?_ | exact Ag.rfl')), by first | exact .refl _ | exact br1⟩)
          decide +kernel
        ·
          refine JO.of rfl (fun c h => by cases h) ?_
          (refine J.isJ ?_; refine J.o 9 ?_; refine J.bl (e := 3) hΓ (fun bl => ?_))
          (refine J.nil ?_; refine nextK.nn ?_)
          refine JA.one (i := 2) (by decide +kernel) ?_
          refine JO.of rfl (fun c h => by cases h) ?_
          (refine J.isJ ?_; refine J.fc 53 ?_; refine J.call1 eClone rfl rfl (fun w hw => cloneC_any ar cr rest hr sr (by omega) w (hw.rdH (by first | exact rr | exact rr.tl))) ?_; rintro _ hg ⟨a1, c1, rfl, o1, l1⟩)
          (refine J.nil ?_; refine nextK.nn ?_)
          refine JA.at (listed' := #[true, true, true, true, true, true, false, false, false]) ?_ (fin _ _ ⟨_, _, _, _, o1, l1, rfl, rfl, by (repeat (first | refine Ag.upd rfl ?_ | exact Ag.rfl')), by first | exact .refl _ | exact br1⟩)
          decide +kernel
      ·
        refine JO.of rfl (fun c h => by cases h) ?_
        (refine J.isJ ?_; refine J.o 9 ?_; refine J.bl (e := 3) hΓ (fun bl => ?_))
        (refine J.nil ?_; refine nextK.nn ?_)
        refine JA.one (i := 1) (by decide +kernel) ?_
        refine JO.of rfl (fun c h => by cases h) ?_
        (refine J.isJ ?_; refine J.o 4 ?_; first | refine J.lR hΓ ?_ (hr := r5) | refine J.lR hΓ ?_ (hr := r5.tl))
        (refine J.nil ?_; refine nextK.nn ?_)
        refine JA.one (i := 2) (by decide +kernel) ?_
        refine JO.of rfl (fun c h => by cases h) ?_
        (refine J.isJ ?_; refine J.fc 53 ?_; refine J.call1 eClone rfl rfl (fun w hw => cloneC_any ar cr rest hr sr (by omega) w (hw.rdH (by first | exact rr | exact rr.tl))) ?_; rintro _ hg ⟨a1, c1, rfl, o1, l1⟩)
        (refine J.nil ?_; refine nextK.nn ?_)
        refine JA.at (listed' := #[true, true, true, true, true, true, false, false, false]) ?_ (fin _ _ ⟨_, _, _, _, o1, l1, rfl, rfl, by (repeat (first | refine Ag.upd rfl ?_ | exact Ag.rfl')), by first | exact .refl _ | exact br1⟩)
        decide +kernel
  rintro g2 Lx ⟨bl, ac, cc, hC, oC, lC, e13, e16, ag, hpm⟩
  refine JA.perm hpm ?_
  rw [← ag.eq] at e13 e16 ⊢
  refine JA.pin 13 e13 (JA.pin 16 e16 ?_)
  refine JA.one (i := 6) (by decide +kernel) ?_
  refine JO.of rfl (fun c h => by cases h) ?_
  (refine J.isJ ?_; refine J.fc 99 ?_; refine J.callx eIns rfl rfl (fun w hw => insert_any oC (by omega) lC (show i ≤ rest.length by omega) v bl hw) ?_; rintro _ _ ⟨a6, c6, h6, rfl, o6, rfl⟩)
  (refine J.nil ?_; refine nextK.nn ?_)
  refine JA.one (i := 7) (by decide +kernel) ?_
  refine JO.yield rfl rfl rfl rfl (fun w hw => hround i L' hil hi a6 c6 h6 o6 w hw) ?_
  rintro _ L7 ⟨rfl, hi7⟩
  refine JA.one (i := 8) (by decide +kernel) ?_
  refine JO.of rfl (fun c h => by cases h) ?_
  (refine J.isJ ?_; first | (refine J.o 0 ?_; refine J.ev' hΓ ?_) | (refine J.o 1 ?_; refine J.ng ?_))
  (refine J.nil ?_; refine nextK.nn ?_)
  refine JA.fin (by decide +kernel) ?_
  repeat' first
    | (refine J.isJ ?_; first | (fail) | (first | (refine J.o 0 ?_; refine J.ev' hΓ ?_) | refine J.nil ?_ | (refine J.o 4 ?_; first | refine J.lR hΓ ?_) | (refine J.o 3 ?_; first | refine J.ev' hΓ ?_) | (refine J.o 1 ?_; first | refine J.ad ?_) | (refine J.o 9 ?_; refine J.bl hΓ (fun _ => ?_)) | (refine J.o 10 ?_; refine J.ev' hΓ ?_) | (refine J.o 11 ?_; refine J.ev' hΓ ?_)))
    | (first | refine JR.seq ?_ | refine JR.region (by kernel_rfl) ?_ | refine JR.block ?_ | refine JR.ret ?_ | refine JR.exit ?_ | refine JR.skip ?_ | refine thenR.nn ?_ | refine thenR.r ?_ | refine thenR.x ?_ | refine blockK.nn ?_ | refine blockK.hit rfl ?_ | refine JR.condT rfl ?_ | refine JR.condF rfl ?_ | (refine JR.cond rfl (fun hc => ?_) (fun hc => ?_) <;> ((try simp only [decide_eq_true_eq, decide_eq_false_iff_not, beq_iff_eq, beq_eq_false_iff_ne, bne_iff_ne, bne_eq_false_iff_eq, Bool.not_eq_true', Bool.not_eq_false', Bool.not_eq_true, Bool.not_eq_false] at hc) <;> first | (first | (exact absurd rfl hc) | (exfalso; omega) | (exact absurd (hc.symm.trans (by assumption : _ = false)) (by decide)) | (exact absurd (hc.symm.trans (by assumption : _ = true)) (by decide))) | skip)) | refine loopK.x ?_)
    | (fail)
    | fail
  all_goals first | (exfalso; omega) | skip
  refine loopK.nn (k - 1) (by omega) (by repeat (first | refine Ag.upd rfl ?_ | exact Ag.hv | refine Ag.hv2 (fun i hi => by simp at hi ⊢; omega) ?_)) ⟨i + 1, ?_, by omega, hi7⟩
  show Value.int .i64 _ = _; congr 1
end Go.Proofs.YtbhgahjeocnfcaaGreat
namespace Go.Proofs.YtbhgahjeocnfcaaGreat
open Go Go.Cx Go.RowKit
set_option linter.unusedVariables false
set_option linter.unusedSimpArgs false
set_option maxHeartbeats 4000000
attribute [local irreducible] J JC thenK blockK loopK roundK drawK retK QW Qt pel List.set Calls
open Go.Maps Go.Lib
set_option maxRecDepth 8000
attribute [local irreducible] JE Br eK0 eK3 brK pc
theorem J.asg {P : Program} {n : Nat} {w0 : World} {R : Heap} {l0 : List Oper} {K : Exit → Fr → List Heap → Prop} {f : Fr} {L : List Heap} {rest : List (Nat × Oper)} {κ d : Nat} {x : Operand} {v : Value} {ty : TypeId} {pos : String} {aft : Array Edge} {g : Option (Nat × Bool)} (k : J P n w0 R l0 K rest (upd f d v) L) (hg : wantB n f l0 ⟨some d, .assign x, ty, pos, aft, g⟩ = true := by exact rfl) (hx : Cx.ev n f x = v := by exact rfl) : J P n w0 R l0 K ((κ, ⟨some d, .assign x, ty, pos, aft, g⟩) :: rest) f L := J.p hg (fun w => by simp only [execOp, hx]; rfl) k
theorem eDelF : Entr Tryz.prog 96 := Entr.of Tryz.func96 rfl rfl
theorem eOrd1 : Entr Tryz.prog 97 := Entr.of Tryz.func97 rfl rfl
theorem eOrders : Entr Tryz.prog 68 := Entr.of Tryz.func68 rfl rfl
def wo (l : List Int) (v : Int) : List Int := l.filter fun x => !decide (x = v)
theorem wo_len {v : Int} : ∀ {l : List Int}, v ∈ l → l.Nodup → (wo l v).length + 1 = l.length
  | x :: l, hv, hn => by
    rw [List.nodup_cons] at hn
    by_cases hx : x = v
    · subst hx
      have : wo l x = l := List.filter_eq_self.2 fun y hy => by
        have : y ≠ x := fun e => hn.1 (e ▸ hy)
        simp [this]
      unfold wo at this ⊢
      rw [List.filter_cons_of_neg (by simp), this]
      rfl
    · have h1 : v ∈ l := by
        rcases List.mem_cons.1 hv with h | h
        · exact absurd h.symm hx
        · exact h
      have := wo_len h1 hn.2
      unfold wo at this ⊢
      rw [List.filter_cons_of_pos (by simp [hx])]
      simp only [List.length_cons]
      omega
theorem del1_gives {b : Nat} {v : Int} (x : Int) (W : World) (hb : W.heap[b]? = some (.cells ⟨[.int .i64 v]⟩ 3 (0, 0))) : FnGives Tryz.prog 97 #[.pointer (some ⟨b, 0, none⟩)] #[.int .i64 x] (.bool (decide (x = v))) W := by
  show Go.Calls Tryz.prog 97 #[.int .i64 x, .pointer (some ⟨b, 0, none⟩)] W _
  have hc : W.cell? ⟨b, 0, none⟩ = some (.int .i64 v) := by simp [World.cell?, hb]
  go_enter Tryz.func97, Tryz.ntmps97
  go_wp2
  all_goals (go_ret; exact ⟨by simp_all <;> rfl, 0, rfl⟩)
theorem sortW_heap {α : Type} [Inhabited α] (enc : α → Value) (w : World) (blk off n : Nat) (dk : Array α) (os : Array Obj) {b : Nat} (hb : b < w.heap.size) (hne : b ≠ blk) : (sortWorld enc w blk off n dk os).heap[b]? = w.heap[b]? := by
  show ((w.heap.modify blk _) ++ os)[b]? = _
  rw [Array.getElem?_append_left (by simpa using hb), Array.getElem?_modify, if_neg (Ne.symm hne)]
set_option maxHeartbeats 1000000 in
theorem delO_any {b : Nat} {v : Int} {l : List Int} (hl0 : 0 < l.length) (hl : l.length ≤ 1000000) {a : Option Addr} {c : Nat} {h : Heap} (o : OwT encI 1 3 a c l h) {w0 w : World} {R : Heap} {L : List Heap} (rb : Rd R L b (.cells ⟨[.int .i64 v]⟩ 3 (0, 0))) (hw : H w0 R (h :: L) w) :
    Calls Tryz.prog 96 #[.slice a l.length c, .func (.func 97) ⟨[]⟩ ⟨[.pointer (some ⟨b, 0, none⟩)]⟩] w fun e w' => ∃ x L', e = .returned x ∧ H w0 R L' w' ∧ ∃ h', x = .slice a (wo l v).length c ∧ L' = h' :: L ∧ OwT encI 1 3 a c (wo l v) h' := by
  rcases o.row with ⟨_, _, rfl, _⟩ | ⟨g, cs, rfl, rfl, h1, h2, h3⟩
  · simp at hl0
  have hb : w.heap[g]? = some (.cells ⟨cs⟩ 3 (0, 0)) := hw.rd Rd.hd
  have hgl : g < w.heap.size := (Array.getElem?_eq_some_iff.1 hb).1
  have hbb : w.heap[b]? = some (.cells ⟨[.int .i64 v]⟩ 3 (0, 0)) := hw.rd rb.tl
  have hbl : b < w.heap.size := (Array.getElem?_eq_some_iff.1 hbb).1
  have hne : b ≠ g := fun e => by
    subst e
    have hnd := hw.nodup
    rcases rb with hr | hr
    · have := hw.new (b, _) (List.mem_append_left _ List.mem_cons_self)
      have h4 := hw.old.lt hr
      simp at this h4
      omega
    · have hm : b ∈ L.flatten.map (·.1) := List.mem_map.2 ⟨_, hr, rfl⟩
      have : (b :: L.flatten.map (·.1)).Nodup := by simpa using hnd
      exact (List.nodup_cons.1 this).1 hm
  rw [intsFlat, Nat.mul_one] at h3
  have hcell : ∀ j (hj : j < l.length), cs[j]? = some (.int .i64 l[j]) := fun j hj => by
    have : (cs.take l.length)[j]? = (l.map (Value.int .i64))[j]? := by rw [h3]
    rw [List.getElem?_take_of_lt hj, List.getElem?_map, List.getElem?_eq_getElem hj] at this
    exact this
  have hH : Sort.Holds (Value.int .i64) w g 0 l.toArray := fun j hj => by
    have hj' : j < l.length := by simpa using hj
    constructor
    · simp [World.cell?, hb, hcell j hj', hj']
    · simp [World.frozen?, hb]
  have eg : ∀ args w, (callFunc 97 args).run Tryz.prog w = .ok (.enter 97 args) w := fun args w => eOrd1 args w
  have hfl : (wo l v).length ≤ l.length := List.length_filter_le _ _
  have hcon := Tryz.slices_DeleteFunc (Value.int .i64) (fun _ => rfl) (fun x => decide (x = v)) 97 #[.pointer (some ⟨b, 0, none⟩)] eg 0 Tryz.zeroValue3 g 0 c l.toArray w
    (fun W x hB => del1_gives x W ((hB.block b hbl).trans hbb))
    (fun n os dk x hdk => del1_gives x _ ((sortW_heap _ w g 0 n dk os hbl hne).trans hbb)) hH (by simp; omega) (by simpa using h2)
  have hsz : l.toArray.size = l.length := by simp
  rw [hsz] at hcon
  refine Go.Calls.mono hcon ?_
  rintro e w' ⟨rfl, q, rfl⟩
  obtain ⟨d, hd⟩ : ∃ d : List Int, (wo l v) ++ List.replicate (l.length - (wo l v).length) 0 = d := ⟨_, rfl⟩
  have hdl : d.length = l.length := by rw [← hd]; simp; omega
  have hnew : Sort.putCells (Value.int .i64) 0 d.toArray ⟨cs⟩ = ⟨d.map (Value.int .i64) ++ cs.drop l.length⟩ := by
    unfold Sort.putCells
    apply Array.ext
    · simp; omega
    · intro i hi1 hi2
      simp only [Array.getElem_mapIdx, Nat.zero_le, true_and, Nat.zero_add, List.size_toArray, Nat.sub_zero]
      by_cases hi : i < d.length
      · rw [if_pos hi]
        simp [hi]
      · rw [if_neg hi]
        simp only [List.getElem_toArray]
        rw [List.getElem_append_right (by simpa using hi)]
        simp only [List.length_map, List.getElem_drop]
        congr 1
        omega
  refine ⟨_, [(g, .cells ⟨d.map (Value.int .i64) ++ cs.drop l.length⟩ 3 (0, 0))] :: L, rfl, ?_, _, rfl, rfl, ⟨o.len, .inr ⟨g, _, rfl, rfl, ?_, by omega, ?_⟩⟩⟩
  · show H w0 R _ (Sort.putRow (Value.int .i64) (Sort.ahead w q) g 0 ((wo l v) ++ List.replicate (l.length - (wo l v).length) 0).toArray)
    rw [hd]
    refine hw.write (o' := .cells ⟨d.map (Value.int .i64) ++ cs.drop l.length⟩ 3 (0, 0)) rfl rfl rfl ?_ ?_ ?_
    · simp [Sort.putRow, Sort.mapBlock, Sort.ahead]
    · show (w.heap.modify g _)[g]? = _
      rw [Array.getElem?_modify, if_pos rfl, hb]
      show some (Obj.cells (Sort.putCells _ _ _ _) _ _) = _
      rw [hnew]
    · intro k hk
      show (w.heap.modify g _)[k]? = _
      rw [Array.getElem?_modify, if_neg (Ne.symm hk)]
  · simp; omega
  · rw [intsFlat, Nat.mul_one, ← hd, List.map_append, List.append_assoc, List.take_left' (by simp)]
theorem orders_any {l : List Int} {v : Int} (hv : v ∈ l) (hl : l.length ≤ 128) {a : Option Addr} {c : Nat} {hA : Heap} (sl : SlT encI 1 a l hA) {w0 w : World} {R : Heap} {L : List Heap} (rA : RdH R L hA) (hw : H w0 R L w) :
    Calls Tryz.prog 68 #[.slice a l.length c, .int .i64 v] w fun e w' => ∃ x L', e = .returned x ∧ H w0 R L' w' ∧ ∃ b2 b5 b3 ar cr hr, x = .func (.func 98) ⟨[]⟩ ⟨[.pointer (some ⟨b2, 0, none⟩), .pointer (some ⟨b5, 0, none⟩), .pointer (some ⟨b3, 0, none⟩)]⟩ ∧ L' = [(b5, .cells ⟨[.slice ar (wo l v).length cr]⟩ 28 (0, 0))] :: hr :: [(b3, .cells ⟨[.int .i64 v]⟩ 3 (0, 0))] :: [(b2, .cells ⟨[.slice a l.length c]⟩ 28 (0, 0))] :: L ∧ OwT encI 1 3 ar cr (wo l v) hr := by
  have hl0 : 0 < l.length := List.length_pos_of_mem hv
  refine calls_in Tryz.func68 Tryz.ntmps68 rfl rfl (hw) ?_
  repeat' first
    | (refine J.isJ ?_; first | (first | (refine J.o 0 ?_; first | refine J.ev' hΓ ?_ | refine J.asg (v := .nilFunc) ?_) | (refine J.o 6 ?_; refine J.bx (fun b => ?_)) | (refine J.fc 53 ?_; refine J.call1 eClone rfl rfl (fun w hw => cloneC_any a c l hA sl (by omega) w (hw.rdH rA.tl.tl)) ?_; rintro _ hg ⟨a1, c1, rfl, o1, l1⟩) | (refine J.o 14 ?_; refine J.mf hΓ ?_) | (refine J.fc 96 ?_; refine J.callx eDelF rfl rfl (fun w hw => delO_any hl0 (by omega) o1 Rd.hd hw) ?_; rintro _ _ ⟨h2, rfl, rfl, o2⟩)) | (first | (refine J.o 0 ?_; refine J.ev' hΓ ?_) | refine J.nil ?_ | (refine J.o 4 ?_; first | refine J.lR hΓ ?_) | (refine J.o 3 ?_; first | refine J.ev' hΓ ?_) | (refine J.o 5 ?_; first | refine J.t0 hΓ ?_) | (refine J.o 6 ?_; refine J.bx (fun _ => ?_)) | (refine J.o 7 ?_; refine J.al hΓ (fun _ => ?_)) | (refine J.o 10 ?_; refine J.ev' hΓ ?_) | (refine J.o 11 ?_; refine J.ev' hΓ ?_) | (refine J.o 14 ?_; refine J.mf hΓ ?_)))
    | (first | refine JC.seq ?_ | refine JC.region ?_ | refine JC.ret ?_ | refine thenK.nn ?_)
    | (fail)
    | fail
  all_goals first | (exfalso; omega) | skip
  exact ret1f rfl rfl rfl (fun w1 hw => ⟨_, _, rfl, hw, _, _, _, a1, c1, h2, rfl, rfl, o2⟩)
end Go.Proofs.YtbhgahjeocnfcaaGreat
