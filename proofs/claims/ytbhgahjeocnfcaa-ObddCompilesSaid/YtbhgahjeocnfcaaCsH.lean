/- ObddCompiles: part 8. -/
import Derived.Test.YtbhgahjeocnfcaaCsG
namespace Go.Proofs.Ytbhgahjeocnfcaa
open Go Go.Cx Go.RowKit
set_option linter.unusedVariables false
set_option linter.unusedSimpArgs false
set_option maxHeartbeats 4000000
attribute [local irreducible] J JC thenK blockK loopK drawK retK QW Qt pel List.set Calls
open Go.Maps Go.Lib
set_option maxRecDepth 8000
attribute [local irreducible] JE Br eK0 eK3 brK pc
def litA (order : List Int) (l : Int) (α : Nat → Bool) : Bool := if l < 0 then !α ((rk order (varI l) 0).getD 0) else α ((rk order (varI l) 0).getD 0)
def clA (order : List Int) (c : List Int) (α : Nat → Bool) : Bool := c.any fun l => litA order l α
def thA (order : List Int) (T : List (List Int)) (α : Nat → Bool) : Bool := T.all fun c => clA order c α
def costT : List (List Int) → Nat
  | [] => 0
  | c :: T => c.length * 20 + 255 + costT T
theorem costT_len : ∀ T : List (List Int), T.length ≤ costT T
  | [] => Nat.le_refl _
  | c :: T => by have := costT_len T; rw [costT, List.length_cons]; omega
theorem costT_app : ∀ (a b : List (List Int)), costT (a ++ b) = costT a + costT b
  | [], b => by rw [List.nil_append, costT, Nat.zero_add]
  | c :: a, b => by rw [List.cons_append, costT, costT, costT_app a b]; omega
theorem clA_s (order : List Int) (c : List Int) {j : Nat} (h : j < c.length) (α : Nat → Bool) : clA order (c.take (j + 1)) α = Bool.or (clA order (c.take j) α) (litA order (c.getD j default) α) := by
  unfold clA; rw [take_g c j h, List.any_append]; simp
theorem thA_s (order : List Int) (vs : List HV) {i : Nat} (h : i < vs.length) (α : Nat → Bool) : thA order ((vs.take (i + 1)).map (·.l)) α = (thA order ((vs.take i).map (·.l)) α && clA order (vs.getD i default).l α) := by
  unfold thA; rw [take_g vs i h, List.map_append, List.all_append]; simp
theorem litA_neg {order : List Int} {l : Int} {k : Nat} {α : Nat → Bool} (h : l < 0) (hk : rk order (varI l) 0 = some k) : litA order l α = !α k := by unfold litA; rw [if_pos h, hk]; rfl
theorem litA_pos {order : List Int} {l : Int} {k : Nat} {α : Nat → Bool} (h : ¬ l < 0) (hk : rk order (varI l) 0 = some k) : litA order l α = α k := by unfold litA; rw [if_neg h, hk]; rfl
theorem RdH.app {R : Heap} {L : List Heap} {h : Heap} (M : List Heap) (r : RdH R L h) : RdH R (M ++ L) h := fun x hx => Rd.app M (r x hx)
theorem rbS2 {R : Heap} (K : KS) (b : Nat) (s : SS) (M : List Heap) : Rd R (sF K b s ++ M) b (.cells ⟨[.slice K.ao K.no K.co, .map (some K.bp), .slice s.an s.ns.length s.cn, .map (some K.bu), .map (some K.bi)]⟩ 104 (0, 0)) := by unfold sF stO; exact Rd.hd
theorem addv_any {n : Nat} {K : KS} {s : SS} (so : SOk n K s) (k : Nat) (hk : k < n) (hfull : s.ns.length + 1 ≤ 1048576) {w0 w : World} {R : Heap} {L : List Heap} {b0 : Nat} (hw : H w0 R (sF K b0 s ++ L) w) :
    Calls Try.prog 58 #[.pointer (some ⟨b0, 0, none⟩), ek3 ⟨k, 0, 1⟩] w fun e w' => ∃ v L', e = .returned v ∧ H w0 R L' w' ∧ ∃ s' y, v = .int .i64 ((y : Nat) : Int) ∧ L' = sF K b0 s' ++ L ∧ Res n K s s' 1 y (fun α => α k) := by
  have two := so.wf.two
  refine (add_any so ⟨k, 0, 1⟩ hk (show 0 < s.ns.length by omega) (show 1 < s.ns.length by omega) (show k < (nd s.ns 0).p by rw [so.wf.c0]; exact hk) (show k < (nd s.ns 1).p by rw [so.wf.c1]; exact hk) (by omega) hw).mono ?_
  rintro e w' ⟨v, L', h1, h2, s1, y1, h3, h4, ad1, it1⟩
  refine ⟨v, L', h1, h2, s1, y1, h3, h4, ad1, fun α => ?_⟩
  rw [it1 α]
  show (if α k then fn n s1.ns 1 α else fn n s1.ns 0 α) = α k
  rw [fn_0 ad1.ok.wf, fn_1 ad1.ok.wf]
  cases α k <;> rfl
theorem ch3_any {n : Nat} {K : KS} {s : SS} (so : SOk n K s) (a b c : Nat) (ha : a < s.ns.length) (hb : b < s.ns.length) (hc : c < s.ns.length) (hfull : s.ns.length + (2 ^ n - 1) ≤ 1048576) {w0 w : World} {R : Heap} {L : List Heap} {b0 : Nat} (hw : H w0 R (sF K b0 s ++ L) w) :
    Calls Try.prog 60 #[.pointer (some ⟨b0, 0, none⟩), .int .i64 (a : Int), .int .i64 (b : Int), .int .i64 (c : Int)] w fun e w' => ∃ v L', e = .returned v ∧ H w0 R L' w' ∧ ∃ s' y, v = .int .i64 ((y : Nat) : Int) ∧ L' = sF K b0 s' ++ L ∧ Res n K s s' (2 ^ n - 1) y (fun α => if fn n s.ns a α then fn n s.ns b α else fn n s.ns c α) := by
  refine (choose_any so ⟨a, b, c⟩ ⟨ha, hb, hc⟩ hfull hw).mono ?_
  rintro e w' ⟨v, L', h1, h2, s1, y1, h3, h4, ad1, it1⟩
  refine ⟨v, L', h1, h2, s1, y1, h3, h4, ad1, fun α => ?_⟩
  have he := it1.eq α
  dsimp only at he
  rw [he, fn_ext so.wf ad1.ext ha, fn_ext so.wf ad1.ext hb, fn_ext so.wf ad1.ext hc]
theorem ch3_lev {n : Nat} {K : KS} {s : SS} (so : SOk n K s) (a b c : Nat) (ha : a < s.ns.length) (hb : b < s.ns.length) (hc : c < s.ns.length) {m : Nat} {Φ : Nat → List ((Nat → Bool) → Bool)} (lv : Lev n Φ m) {G : (Nat → Bool) → Bool} (hG : ∀ α, (if fn n s.ns a α then fn n s.ns b α else fn n s.ns c α) = G α) (hi : InL n Φ 0 G) (hfull : s.ns.length + m < 1048576) {w0 w : World} {R : Heap} {L : List Heap} {b0 : Nat} (hw : H w0 R (sF K b0 s ++ L) w) :
    Calls Try.prog 60 #[.pointer (some ⟨b0, 0, none⟩), .int .i64 (a : Int), .int .i64 (b : Int), .int .i64 (c : Int)] w fun e w' => ∃ v L', e = .returned v ∧ H w0 R L' w' ∧ ∃ s' y, v = .int .i64 ((y : Nat) : Int) ∧ L' = sF K b0 s' ++ L ∧ Res n K s s' m y G := by
  have e : iteF n s.ns ⟨a, b, c⟩ = G := funext hG
  refine (choose_lev so ⟨a, b, c⟩ ⟨ha, hb, hc⟩ lv (by rw [e]; exact hi) hfull hw).mono ?_
  rintro e w' ⟨v, L', h1, h2, s1, y1, h3, h4, ad1, it1⟩
  refine ⟨v, L', h1, h2, s1, y1, h3, h4, ad1, fun α => ?_⟩
  have he := it1.eq α
  dsimp only at he
  rw [he, fn_ext so.wf ad1.ext ha, fn_ext so.wf ad1.ext hb, fn_ext so.wf ad1.ext hc, hG]
def posA (order c : List Int) (i : Nat) : Bool := c.any fun l => !decide (l < 0) && decide (rk order (varI l) 0 = some i)
def negA (order c : List Int) (i : Nat) : Bool := c.any fun l => decide (l < 0) && decide (rk order (varI l) 0 = some i)
theorem clA_cl {order c : List Int} {n : Nat} (h : ∀ l ∈ c, ∃ k, k < n ∧ rk order (varI l) 0 = some k) : clA order c = clF n (posA order c) (negA order c) 0 := by
  funext α
  rw [Bool.eq_iff_iff, clF_iff]
  unfold clA posA negA
  rw [List.any_eq_true]
  constructor
  · rintro ⟨l, hl, ht⟩
    obtain ⟨k, hk, hr⟩ := h l hl
    refine ⟨k, hk, Nat.zero_le _, ?_⟩
    by_cases hn : l < 0
    · rw [litA_neg hn hr] at ht
      refine .inr ⟨List.any_eq_true.2 ⟨l, hl, ?_⟩, by simpa using ht⟩
      rw [decide_eq_true hn, decide_eq_true hr]; rfl
    · rw [litA_pos hn hr] at ht
      refine .inl ⟨List.any_eq_true.2 ⟨l, hl, ?_⟩, ht⟩
      rw [decide_eq_false hn, decide_eq_true hr]; rfl
  · rintro ⟨k, hk, _, ⟨h1, h2⟩ | ⟨h1, h2⟩⟩
    · obtain ⟨l, hl, g⟩ := List.any_eq_true.1 h1
      rw [Bool.and_eq_true, Bool.not_eq_true', decide_eq_false_iff_not, decide_eq_true_iff] at g
      exact ⟨l, hl, by rw [litA_pos g.1 g.2]; exact h2⟩
    · obtain ⟨l, hl, g⟩ := List.any_eq_true.1 h1
      rw [Bool.and_eq_true, decide_eq_true_iff, decide_eq_true_iff] at g
      exact ⟨l, hl, by rw [litA_neg g.1 g.2, h2]; rfl⟩
theorem inl_not (n k : Nat) (hk : k < n) : InL n (fun j => if j = k then [(fun α : Nat → Bool => !α k)] else []) 0 (fun α => !α k) := .inr ⟨k, Nat.zero_le _, by omega, by dsimp only; rw [if_pos rfl]; exact List.mem_cons_self⟩
theorem inl_cl (n : Nat) (P Q : Nat → Bool) : InL n (fun j => [clF n P Q j]) 0 (clF n P Q 0) := .inr ⟨0, Nat.zero_le _, Nat.zero_le _, List.mem_cons_self⟩
theorem eComC : Entr Try.prog 57 := Entr.of Try.func57 rfl rfl
theorem eCom : Entr Try.prog 16 := Entr.of Try.func16 rfl rfl
def thO (N : Int) (a : Option Addr) (m cap : Nat) : Obj := .cells ⟨[.int .i64 N, .slice a m cap]⟩ 24 (0, 0)
theorem comC_any {n : Nat} {K : KS} {s : SS} (so : SOk n K s) {order : List Int} {hO hP : Heap} (po : POk K order hO hP) (h8 : n ≤ 8) (N : Int) (a : Option Addr) (cap : Nat) (vs : List HV) (hT : Heap) (ll : LLR a vs hT) (hlit : ∀ v ∈ vs, ∀ l ∈ v.l, ∃ k, rk order (varI l) 0 = some k) (hfull : s.ns.length + costT (vs.map (·.l)) ≤ 1048576) {w0 w : World} {R : Heap} {L : List Heap} {b0 c2 c8 : Nat} (rT : RdH R L hT) (rP : RdH R L hP) (r0 : Rd R L c2 (thO N a vs.length cap)) (r1 : Rd R L c8 (ptrS b0)) (hw : H w0 R (sF K b0 s ++ L) w) :
    Calls Try.prog 57 #[.pointer (some ⟨c2, 0, none⟩), .pointer (some ⟨c8, 0, none⟩)] w fun e w' => ∃ v L', e = .returned v ∧ H w0 R L' w' ∧ ∃ s' y, v = .int .i64 ((y : Nat) : Int) ∧ L' = sF K b0 s' ++ L ∧ Res n K s s' (costT (vs.map (·.l))) y (thA order (vs.map (·.l))) := by
  have h2n := pow8 h8
  have hno := so.no
  have hpl := po.len
  have pm := po.pm
  have two := so.wf.two
  unfold thO at r0
  unfold ptrS at r1
  obtain ⟨ho, hi⟩ := ll
  have hctk : ∀ i, i < vs.length → costT ((vs.take (i + 1)).map (·.l)) = costT ((vs.take i).map (·.l)) + ((vs.getD i default).l.length * 20 + 255) := fun i h => by rw [take_g vs i h, List.map_append, costT_app]; rfl
  have hcle : ∀ i, i ≤ vs.length → costT ((vs.take i).map (·.l)) ≤ costT (vs.map (·.l)) := fun i h => by
    have : vs.map (·.l) = (vs.take i).map (·.l) ++ (vs.drop i).map (·.l) := by rw [← List.map_append, List.take_append_drop]
    rw [this, costT_app]; omega
  have hvl := costT_len (vs.map (·.l))
  rw [List.length_map] at hvl
  refine calls_in Try.func57 Try.ntmps57 rfl rfl (hw) ?_
  repeat' first
    | (refine J.isJ ?_; first | ((refine J.o 4 ?_; first | refine J.lR hΓ ?_ (hr := Rd.app _ r0))) | (first | (refine J.o 0 ?_; refine J.ev' hΓ ?_) | refine J.nil ?_ | (refine J.o 4 ?_; first | refine J.lT default hΓ ?_ | refine J.lR hΓ ?_) | (refine J.o 3 ?_; first | refine J.iJ hΓ ?_ | refine J.ev' hΓ ?_) | (refine J.o 1 ?_; first | refine J.ad ?_) | (refine J.o 8 ?_; refine J.bd hΓ ?_) | (refine J.o 10 ?_; refine J.ev' hΓ ?_) | (refine J.o 11 ?_; refine J.ev' hΓ ?_)))
    | (first | refine JC.seq ?_ | refine JC.region ?_ | refine JC.block ?_ | refine JC.ret ?_ | refine JC.exit ?_ | refine JC.skip ?_ | refine thenK.nn ?_ | refine thenK.x ?_ | refine blockK.nn ?_ | refine blockK.hit rfl ?_ | (refine JC.cond rfl (fun hc => ?_) (fun hc => ?_) <;> ((try simp only [decide_eq_true_eq, decide_eq_false_iff_not, beq_iff_eq, beq_eq_false_iff_ne, bne_iff_ne, bne_eq_false_iff_eq, Bool.not_eq_true', Bool.not_eq_false', Bool.not_eq_true, Bool.not_eq_false] at hc) <;> first | (first | (exact absurd rfl hc) | (exfalso; omega) | (exact absurd (hc.symm.trans (by assumption : _ = false)) (by decide)) | (exact absurd (hc.symm.trans (by assumption : _ = true)) (by decide))) | skip)) | refine drawK.nn ?_ | refine loopK.x ?_)
    | (fail)
    | fail
  all_goals first | (exfalso; omega) | skip
  refine JC.loop (fun i => (Nat.ble 3 i && Nat.ble i 9) || Nat.ble 13 i) (fun m g L' => ∃ i s1 y, g 13 = .int .i64 ((i : Nat) : Int) ∧ g 3 = .int .i64 ((y : Nat) : Int) ∧ i + m = vs.length ∧ Adds n K s s1 (costT ((vs.take i).map (·.l))) y ∧ (∀ α, fn n s1.ns y α = thA order ((vs.take i).map (·.l)) α) ∧ L' = sF K b0 s1 ++ L) vs.length ⟨0, s, 1, rfl, rfl, by omega, (Adds.refl so (by omega)).mono (Nat.zero_le _), fun α => fn_1 so.wf α, rfl⟩ ?_
  rintro m g L' ⟨i, s1, y, e13, e3, him, ad, hfn, rfl⟩
  refine JC.pin 13 e13 ?_
  refine JC.pin 3 e3 ?_
  have adl := ad.le
  have two1 := ad.ok.wf.two
  rcases Nat.lt_or_ge i vs.length with hlt | hge
  ·
    have hc1 := hctk i hlt
    have hc2 := hcle (i + 1) hlt
    have hmv := mem_g vs i hlt
    have hik := hi _ hmv
    have hlv := hlit _ hmv
    repeat' first
      | (refine J.isJ ?_; first | ((refine J.o 4 ?_; first | refine J.lT default hΓ ?_ (hs := ho) (hr := RdH.app _ rT))) | (first | (refine J.o 0 ?_; refine J.ev' hΓ ?_) | refine J.nil ?_ | (refine J.o 4 ?_; first | refine J.lT default hΓ ?_ | refine J.lR hΓ ?_) | (refine J.o 3 ?_; first | refine J.iJ hΓ ?_ | refine J.ev' hΓ ?_) | (refine J.o 1 ?_; first | refine J.ad ?_) | (refine J.o 8 ?_; refine J.bd hΓ ?_) | (refine J.o 10 ?_; refine J.ev' hΓ ?_) | (refine J.o 11 ?_; refine J.ev' hΓ ?_)))
      | (first | refine JC.seq ?_ | refine JC.region ?_ | refine JC.block ?_ | refine JC.ret ?_ | refine JC.exit ?_ | refine JC.skip ?_ | refine thenK.nn ?_ | refine thenK.x ?_ | refine blockK.nn ?_ | refine blockK.hit rfl ?_ | (refine JC.cond rfl (fun hc => ?_) (fun hc => ?_) <;> ((try simp only [decide_eq_true_eq, decide_eq_false_iff_not, beq_iff_eq, beq_eq_false_iff_ne, bne_iff_ne, bne_eq_false_iff_eq, Bool.not_eq_true', Bool.not_eq_false', Bool.not_eq_true, Bool.not_eq_false] at hc) <;> first | (first | (exact absurd rfl hc) | (exfalso; omega) | (exact absurd (hc.symm.trans (by assumption : _ = false)) (by decide)) | (exact absurd (hc.symm.trans (by assumption : _ = true)) (by decide))) | skip)) | refine drawK.nn ?_ | refine loopK.x ?_)
      | (fail)
      | fail
    all_goals first | (exfalso; omega) | skip
    refine JC.loop (fun i => (Nat.ble 6 i && Nat.ble i 9) || (Nat.ble 19 i && Nat.ble i 42)) (fun m2 g2 L' => ∃ j s2 y2, g2 19 = .int .i64 ((j : Nat) : Int) ∧ g2 6 = .int .i64 ((y2 : Nat) : Int) ∧ j + m2 = (vs.getD i default).l.length ∧ Adds n K s1 s2 (j * 20) y2 ∧ (∀ α, fn n s2.ns y2 α = clA order ((vs.getD i default).l.take j) α) ∧ L' = sF K b0 s2 ++ L) (vs.getD i default).l.length ⟨0, s1, 0, rfl, rfl, by omega, (Adds.refl ad.ok (by omega)).mono (Nat.zero_le _), fun α => fn_0 ad.ok.wf α, rfl⟩ ?_
    rintro m2 g2 L' ⟨j, s2, y2, e19, e6, hjm, ad2, hfn2, rfl⟩
    refine JC.pin 19 e19 ?_
    refine JC.pin 6 e6 ?_
    have adl2 := ad2.le
    have two2 := ad2.ok.wf.two
    rcases Nat.lt_or_ge j (vs.getD i default).l.length with hj | hj
    ·
      obtain ⟨k, hk⟩ := hlv _ (mem_g (vs.getD i default).l j hj)
      have hkn : k < n := by obtain ⟨_, h2, _⟩ := rk_some hk; omega
      have hvr : -9223372036854775808 ≤ varI ((vs.getD i default).l.getD j default) ∧ varI ((vs.getD i default).l.getD j default) ≤ 9223372036854775807 := by unfold varI; split <;> (try split) <;> omega
      have hkey := keyI _ hvr
      have hget : mget (order.zipIdx 0) (varI ((vs.getD i default).l.getD j default)) = some k := by rw [mget_zip, hk]
      have hcl := clA_cl (order := order) (c := (vs.getD i default).l.take (j + 1)) (n := n) fun l hl => by
        obtain ⟨q, hq⟩ := hlv l (List.mem_of_mem_take hl)
        have := (rk_some hq).2.1
        exact ⟨q, by omega, hq⟩
      have hN3 : ∀ {s3 : SS} {y3 : Nat}, SOk n K s3 → (∀ α, fn n s3.ns y3 α = α k) → ∀ α, (if fn n s3.ns y3 α then fn n s3.ns 0 α else fn n s3.ns 1 α) = !α k := fun so3 f3 α => by
        rw [f3, fn_0 so3.wf, fn_1 so3.wf]; cases α k <;> rfl
      have hN4 : ∀ {s3 s4 : SS} {y3 y4 m3 m4 : Nat}, (vs.getD i default).l.getD j default < 0 → Adds n K s2 s3 m3 y3 → Adds n K s3 s4 m4 y4 → (∀ α, fn n s3.ns y3 α = α k) → (∀ α, fn n s4.ns y4 α = !α k) → ∀ α, (if fn n s4.ns y4 α then fn n s4.ns 1 α else fn n s4.ns y2 α) = clF n (posA order ((vs.getD i default).l.take (j + 1))) (negA order ((vs.getD i default).l.take (j + 1))) 0 α := fun hg ad3 ad4 f3 f4 α => by
        rw [← hcl, f4, fn_1 ad4.ok.wf, clA_s _ _ hj, litA_neg hg hk, fn_ext ad2.ok.wf (ad3.ext.trans ad4.ext) ad2.lt, hfn2]
        cases α k <;> cases clA order ((vs.getD i default).l.take j) α <;> rfl
      have hN5 : ∀ {s3 : SS} {y3 m3 : Nat}, ¬ (vs.getD i default).l.getD j default < 0 → Adds n K s2 s3 m3 y3 → (∀ α, fn n s3.ns y3 α = α k) → ∀ α, (if fn n s3.ns y3 α then fn n s3.ns 1 α else fn n s3.ns y2 α) = clF n (posA order ((vs.getD i default).l.take (j + 1))) (negA order ((vs.getD i default).l.take (j + 1))) 0 α := fun hg ad3 f3 α => by
        rw [← hcl, f3, fn_1 ad3.ok.wf, clA_s _ _ hj, litA_pos hg hk, fn_ext ad2.ok.wf ad3.ext ad2.lt, hfn2]
        cases α k <;> cases clA order ((vs.getD i default).l.take j) α <;> rfl
      have hjb : j * 20 + 20 ≤ (vs.getD i default).l.length * 20 := by omega
      repeat' first
        | (refine J.isJ ?_; first | (first | (refine J.o 4 ?_; first | refine J.lR hΓ ?_ (hr := Rd.app _ r1) | refine J.lR hΓ ?_ (hr := rbS2 K b0 s2 L) | refine J.lT default hΓ ?_ (hs := hik) (hr := RdH.app _ rT)) | (refine J.fc 59 ?_; refine J.call0 eVarL rfl rfl (fun w hw => varL_any _ w) ?_) | (refine J.o 9 ?_; refine J.lk (a := varI ((vs.getD i default).l.getD j default)) keyedI ekI_inj pm (RdH.app _ rP) hkey hΓ ?_; rw [hget]) | (refine J.fc 58 ?_; refine J.callx eAdd rfl rfl (fun w hw => addv_any ad2.ok k hkn (by omega) hw) ?_; rintro _ _ ⟨s3, y3, rfl, rfl, ad3, f3⟩; have adl3 := ad3.le; have two3 := ad3.ok.wf.two) | (refine J.fc 60 ?_; first | (refine J.callx eCh rfl rfl (fun w hw => ch3_lev ad3.ok y3 0 1 ad3.lt (by omega) (by omega) (lev_not n k) (hN3 ad3.ok f3) (inl_not n k hkn) (by omega) hw) ?_; rintro _ _ ⟨s4, y4, rfl, rfl, ad4, f4⟩; have adl4 := ad4.le; have two4 := ad4.ok.wf.two) | (refine J.callx eCh rfl rfl (fun w hw => ch3_lev ad4.ok y4 1 y2 ad4.lt (by omega) (ad4.old (ad3.old ad2.lt)) (lev_cl n _ _) (hN4 (by omega) ad3 ad4 f3 f4) (inl_cl n _ _) (by omega) hw) ?_; rintro _ _ ⟨s5, y5, rfl, rfl, ad5, f5⟩) | (refine J.callx eCh rfl rfl (fun w hw => ch3_lev ad3.ok y3 1 y2 ad3.lt (by omega) (ad3.old ad2.lt) (lev_cl n _ _) (hN5 (by omega) ad3 f3) (inl_cl n _ _) (by omega) hw) ?_; rintro _ _ ⟨s5, y5, rfl, rfl, ad5, f5⟩))) | (first | (refine J.o 0 ?_; refine J.ev' hΓ ?_) | refine J.nil ?_ | (refine J.o 4 ?_; first | refine J.lT default hΓ ?_ | refine J.lR hΓ ?_) | (refine J.o 3 ?_; first | refine J.iJ hΓ ?_ | refine J.ev' hΓ ?_) | (refine J.o 1 ?_; first | refine J.ad ?_) | (refine J.o 8 ?_; refine J.bd hΓ ?_) | (refine J.o 10 ?_; refine J.ev' hΓ ?_) | (refine J.o 11 ?_; refine J.ev' hΓ ?_)))
        | (first | refine JC.seq ?_ | refine JC.region ?_ | refine JC.block ?_ | refine JC.ret ?_ | refine JC.exit ?_ | refine JC.skip ?_ | refine thenK.nn ?_ | refine thenK.x ?_ | refine blockK.nn ?_ | refine blockK.hit rfl ?_ | (refine JC.cond rfl (fun hc => ?_) (fun hc => ?_) <;> ((try simp only [decide_eq_true_eq, decide_eq_false_iff_not, beq_iff_eq, beq_eq_false_iff_ne, bne_iff_ne, bne_eq_false_iff_eq, Bool.not_eq_true', Bool.not_eq_false', Bool.not_eq_true, Bool.not_eq_false] at hc) <;> first | (first | (exact absurd rfl hc) | (exfalso; omega) | (exact absurd (hc.symm.trans (by assumption : _ = false)) (by decide)) | (exact absurd (hc.symm.trans (by assumption : _ = true)) (by decide))) | skip)) | refine drawK.nn ?_ | refine loopK.x ?_)
        | ((refine JC.drawO [(1,0),(1,1),(0,2),(0,3),(1,4),(0,5),(1,6),(1,7),(0,8),(2,9),(0,10)] (by decide +kernel) (by decide +kernel) ?_))
        | fail
      all_goals first | (exfalso; omega) | skip
      · refine loopK.nn (m2 - 1) (by omega) (by repeat (first | refine Ag.upd rfl ?_ | exact Ag.hv | refine Ag.hv2 (fun i hi => by simp at hi ⊢; omega) ?_)) ⟨j + 1, s5, y5, ?_, rfl, by omega, (((ad2.trans ad3).trans ad4).trans ad5).mono (by omega), fun α => ?_, rfl⟩
        · show Value.int .i64 _ = _; congr 1
        · have h3 := f3 α
          have h4 := f4 α
          have h5 := f5 α
          dsimp only at h3 h4 h5
          rw [h5, hcl]
      · refine loopK.nn (m2 - 1) (by omega) (by repeat (first | refine Ag.upd rfl ?_ | exact Ag.hv | refine Ag.hv2 (fun i hi => by simp at hi ⊢; omega) ?_)) ⟨j + 1, s5, y5, ?_, rfl, by omega, ((ad2.trans ad3).trans ad5).mono (by omega), fun α => ?_, rfl⟩
        · show Value.int .i64 _ = _; congr 1
        · have h3 := f3 α
          have h5 := f5 α
          dsimp only at h3 h5
          rw [h5, hcl]
    ·
      repeat' first
        | (refine J.isJ ?_; first | (first | (refine J.o 4 ?_; refine J.lR hΓ ?_ (hr := Rd.app _ r1)) | (refine J.fc 60 ?_; refine J.callx eCh rfl rfl (fun w hw => ch3_any ad2.ok y y2 0 (ad2.old ad.lt) ad2.lt (by omega) (by omega) hw) ?_; rintro _ _ ⟨s3, y3, rfl, rfl, ad3, f3⟩)) | (first | (refine J.o 0 ?_; refine J.ev' hΓ ?_) | refine J.nil ?_ | (refine J.o 4 ?_; first | refine J.lT default hΓ ?_ | refine J.lR hΓ ?_) | (refine J.o 3 ?_; first | refine J.iJ hΓ ?_ | refine J.ev' hΓ ?_) | (refine J.o 1 ?_; first | refine J.ad ?_) | (refine J.o 8 ?_; refine J.bd hΓ ?_) | (refine J.o 10 ?_; refine J.ev' hΓ ?_) | (refine J.o 11 ?_; refine J.ev' hΓ ?_)))
        | (first | refine JC.seq ?_ | refine JC.region ?_ | refine JC.block ?_ | refine JC.ret ?_ | refine JC.exit ?_ | refine JC.skip ?_ | refine thenK.nn ?_ | refine thenK.x ?_ | refine blockK.nn ?_ | refine blockK.hit rfl ?_ | (refine JC.cond rfl (fun hc => ?_) (fun hc => ?_) <;> ((try simp only [decide_eq_true_eq, decide_eq_false_iff_not, beq_iff_eq, beq_eq_false_iff_ne, bne_iff_ne, bne_eq_false_iff_eq, Bool.not_eq_true', Bool.not_eq_false', Bool.not_eq_true, Bool.not_eq_false] at hc) <;> first | (first | (exact absurd rfl hc) | (exfalso; omega) | (exact absurd (hc.symm.trans (by assumption : _ = false)) (by decide)) | (exact absurd (hc.symm.trans (by assumption : _ = true)) (by decide))) | skip)) | refine drawK.nn ?_ | refine loopK.x ?_)
        | (fail)
        | fail
      all_goals first | (exfalso; omega) | skip
      rw [List.take_of_length_le hj] at hfn2
      have hje : j = (vs.getD i default).l.length := by omega
      subst hje
      refine loopK.nn (m - 1) (by omega) (by repeat (first | refine Ag.upd rfl ?_ | exact Ag.hv | refine Ag.hv2 (fun i hi => by simp at hi ⊢; omega) ?_)) ⟨i + 1, s3, y3, ?_, rfl, by omega, ((ad.trans ad2).trans ad3).mono (by omega), fun α => ?_, rfl⟩
      · show Value.int .i64 _ = _; congr 1
      · have h3 := f3 α
        dsimp only at h3
        rw [h3, thA_s _ _ hlt, fn_0 ad2.ok.wf, fn_ext ad.ok.wf ad2.ext ad.lt, hfn, hfn2]
        cases thA order ((vs.take i).map (·.l)) α <;> rfl
  ·
    repeat' first
      | (refine J.isJ ?_; first | (fail) | (first | (refine J.o 0 ?_; refine J.ev' hΓ ?_) | refine J.nil ?_ | (refine J.o 4 ?_; first | refine J.lT default hΓ ?_ | refine J.lR hΓ ?_) | (refine J.o 3 ?_; first | refine J.iJ hΓ ?_ | refine J.ev' hΓ ?_) | (refine J.o 1 ?_; first | refine J.ad ?_) | (refine J.o 8 ?_; refine J.bd hΓ ?_) | (refine J.o 10 ?_; refine J.ev' hΓ ?_) | (refine J.o 11 ?_; refine J.ev' hΓ ?_)))
      | (first | refine JC.seq ?_ | refine JC.region ?_ | refine JC.block ?_ | refine JC.ret ?_ | refine JC.exit ?_ | refine JC.skip ?_ | refine thenK.nn ?_ | refine thenK.x ?_ | refine blockK.nn ?_ | refine blockK.hit rfl ?_ | (refine JC.cond rfl (fun hc => ?_) (fun hc => ?_) <;> ((try simp only [decide_eq_true_eq, decide_eq_false_iff_not, beq_iff_eq, beq_eq_false_iff_ne, bne_iff_ne, bne_eq_false_iff_eq, Bool.not_eq_true', Bool.not_eq_false', Bool.not_eq_true, Bool.not_eq_false] at hc) <;> first | (first | (exact absurd rfl hc) | (exfalso; omega) | (exact absurd (hc.symm.trans (by assumption : _ = false)) (by decide)) | (exact absurd (hc.symm.trans (by assumption : _ = true)) (by decide))) | skip)) | refine drawK.nn ?_ | refine loopK.x ?_)
      | (fail)
      | fail
    all_goals first | (exfalso; omega) | skip
    rw [List.take_of_length_le hge] at hfn ad
    refine ret1f rfl rfl rfl (fun w1 hw => ⟨_, _, rfl, hw, s1, y, rfl, rfl, ad, hfn⟩)
theorem cnt_all : ∀ k, k ≤ 128 → cntS (allS k) = k
  | 0, _ => by unfold cntS allS; rw [pc_zero]
  | k + 1, h => by
    have hh : hasB (allS k) ((k : Int) + 1) = false := by
      cases hh : hasB (allS k) ((k : Int) + 1) with
      | false => rfl
      | true => exact absurd ((has_all k _ (by omega)).1 hh) (by omega)
    rw [allS, cnt_with, cnt_all k (by omega), if_pos ⟨by omega, by omega, hh⟩]
theorem ord_of {l : List Int} {N : Nat} (hN : N ≤ 128) (h1 : l.length = N) (h2 : ofS l = allS N) : okOrd l := by
  rw [← ord_iff, h2, cnt_all N hN, h1]
theorem ord_rk {l : List Int} {N : Nat} (hN : N ≤ 128) (h2 : ofS l = allS N) {u : Int} (hu : 1 ≤ u ∧ u ≤ N) : ∃ k, rk l u 0 = some k := by
  cases h : rk l u 0 with
  | some k => exact ⟨k, rfl⟩
  | none =>
    rw [rk_none] at h
    have h3 := (has_all N u hN).2 hu
    rw [← h2] at h3
    unfold ofS at h3
    rcases (ofS_has l (0, 0) u).1 h3 with h4 | h4
    · rw [has_zero] at h4; cases h4
    · exact absurd h4.1 h
theorem varI_ok {x : Int} {N : Nat} (hN : N ≤ 128) (h : x ≠ 0 ∧ -(N : Int) ≤ x ∧ x ≤ N) : 1 ≤ varI x ∧ varI x ≤ N := by
  unfold varI; split <;> (try split) <;> omega
theorem compile_any (N : Nat) (l : List Int) (a : Option Addr) (c : Nat) (h : Heap) (hs : SlT encI 1 a l h) (aT : Option Addr) (cap : Nat) (vs : List HV) (hT : Heap) (ll : LLR aT vs hT) (hth : thE N (vs.map (·.l)) = 0) (hlen : l.length = N) (hof : ofS l = allS N) (h8 : N ≤ 8) (hcost : 2 + costT (vs.map (·.l)) ≤ 1048576) {w0 w : World} {R : Heap} {L : List Heap} (hr : RdH R L h) (rT : RdH R L hT) (hw : H w0 R L w) :
    Calls Try.prog 16 #[.agg ⟨[.int .i64 (N : Int), .slice aT vs.length cap]⟩, .slice a l.length c] w fun e w' => ∃ v L', e = .returned v ∧ H w0 R L' w' ∧ ∃ b K s y hO hP, v = .tuple #[.pointer (some ⟨b, 0, none⟩), .int .i64 ((y : Nat) : Int), .int .i64 0] ∧ L' = sF K b s ++ (hO :: hP :: L) ∧ SOk N K s ∧ POk K l hO hP ∧ y < s.ns.length ∧ (∀ α, fn N s.ns y α = thA l (vs.map (·.l)) α) ∧ s.ns.length ≤ 2 + costT (vs.map (·.l)) := by
  have cT := fun w hw => tcheck_any (N : Int) aT cap vs hT ll w hw
  rw [hth] at cT
  have ho := ord_of (by omega) hlen hof
  have hv := (thE_ok.1 hth).2.2
  subst hlen
  have hlit : ∀ v ∈ vs, ∀ x ∈ v.l, ∃ k, rk l (varI x) 0 = some k := fun v hvm x hx => ord_rk (by omega) hof (varI_ok (by omega) ((hv v.l (List.mem_map_of_mem hvm)).2 x hx))
  have cO := fun w hw => of_any a c l h hs (by omega) w hw
  have cA := fun w => all_any l.length (by omega) w
  have hofd : decide (ofS l = allS l.length) = true := decide_eq_true hof
  refine calls_in Try.func16 Try.ntmps16 rfl rfl (hw) ?_
  repeat' first
    | (refine J.isJ ?_; first | (first | (refine J.o 6 ?_; refine J.bx (fun c2 => ?_)) | (refine J.o 4 ?_; first | refine J.lR hΓ ?_ (hr := Rd.hd)) | (refine J.fc 53 ?_; refine J.call0 eTCheck rfl rfl (fun w hw => cT w (hw.rdH rT.tl)) ?_) | (refine J.fc 54 ?_; refine J.call0 eOf rfl rfl (fun w hw => cO w (hw.rdH hr.tl)) ?_) | (refine J.fc 55 ?_; refine J.call0 eAllV rfl rfl (fun w hw => cA w) ?_) | (refine J.o 11 ?_; refine J.nA (a := ofS l) (b := allS l.length) hΓ ?_; rw [hofd]) | (refine J.fc 25 ?_; refine J.callx eNew rfl rfl (fun w hw => new_any l a c h hs ho hr.tl hw) ?_; rintro _ _ ⟨b0, K, s, hO, hP, rfl, rfl, so, hns, po⟩; have hn2 : s.ns.length = 2 := (by rw [hns]; rfl); unfold sF; simp only [List.cons_append, List.nil_append]) | (refine J.o 7 ?_; refine J.al hΓ (fun c8 => ?_)) | (refine J.o 14 ?_; refine J.mfV [.pointer (some ⟨c2, 0, none⟩), .pointer (some ⟨c8, 0, none⟩)] hΓ ?_) | (refine J.fc 56 ?_; refine J.callx eTry rfl rfl (fun w hw => try_any so (Q := fun s' y => Res l.length K s s' (costT (vs.map (·.l))) y (thA l (vs.map (·.l)))) eComC [] none 0 [] (slNil _) (by show 0 ≤ 1000; omega) (L := [(c8, ptrS b0)] :: hO :: hP :: [(c2, thO (l.length : Int) aT vs.length cap)] :: L) (fun x hx => by cases hx) rfl (fun Lx w hw => comC_any so po h8 (l.length : Int) aT cap vs hT ll hlit (by omega) (RdH.app Lx rT.tl.tl.tl.tl) (RdH.app Lx RdH.hd.tl.tl) (Rd.app Lx Rd.hd.tl.tl.tl) (Rd.app Lx Rd.hd) hw) (H.sel (l := [_, _, _, _, _, _, _, _]) (M := L) hw [1, 2, 3, 4, 0, 5, 6, 7])) ?_; rintro _ _ ⟨s1, y1, rfl, rfl, ad1, f1⟩; unfold ptrS) | (refine J.o 4 ?_; refine J.lR hΓ ?_ (hr := Rd.app _ Rd.hd))) | (first | (refine J.o 0 ?_; refine J.ev' hΓ ?_) | refine J.nil ?_ | (refine J.o 4 ?_; first | refine J.lR hΓ ?_) | (refine J.o 3 ?_; first | refine J.ev' hΓ ?_) | (refine J.o 5 ?_; first | refine J.t0 hΓ ?_) | (refine J.o 6 ?_; refine J.bx (fun _ => ?_)) | (refine J.o 7 ?_; refine J.al hΓ (fun _ => ?_)) | (refine J.o 10 ?_; refine J.ev' hΓ ?_) | (refine J.o 11 ?_; refine J.ev' hΓ ?_)) | ((fail_if_success refine J.wt ?_); refine J.gc rfl rfl (fun hc => ?_) (fun hc => ?_) <;> ((try simp only [decide_eq_true_eq, decide_eq_false_iff_not, beq_iff_eq, beq_eq_false_iff_ne, bne_iff_ne, bne_eq_false_iff_eq, Bool.not_eq_true', Bool.not_eq_false', Bool.not_eq_true, Bool.not_eq_false] at hc) <;> first | (first | (exact absurd rfl hc) | (exfalso; omega) | (exact absurd (hc.symm.trans (by assumption : _ = false)) (by decide)) | (exact absurd (hc.symm.trans (by assumption : _ = true)) (by decide))) | skip)))
    | (first | refine JC.seq ?_ | refine JC.region ?_ | refine JC.ret ?_ | refine JC.skip ?_ | refine thenK.nn ?_ | refine JC.condF rfl ?_ | refine drawK.nn ?_)
    | ((refine JC.drawW [] [] (by kernel_rfl) (by kernel_rfl) ?_))
    | fail
  all_goals first | (exfalso; omega) | skip
  refine ret3f rfl rfl rfl rfl rfl rfl rfl (fun w1 hw => ⟨_, _, rfl, H.sel (l := [_, _, _, _, _, _, _, _]) (M := L) hw [0, 1, 2, 3, 5, 6], b0, K, s1, y1, hO, hP, rfl, rfl, ad1.ok, po, ad1.lt, f1, by have := ad1.le; have h2 : s.ns.length = 2 := (by rw [hns]; rfl); omega⟩)
theorem compile_bad (N : Int) (l : List Int) (a : Option Addr) (c : Nat) (h : Heap) (hs : SlT encI 1 a l h) (hl : l.length ≤ 1000000) (aT : Option Addr) (cap : Nat) (vs : List HV) (hT : Heap) (ll : LLR aT vs hT) (hth : thE N (vs.map (·.l)) ≠ 0) (w : World) (hw : Holds hT w) :
    Calls Try.prog 16 #[.agg ⟨[.int .i64 N, .slice aT vs.length cap]⟩, .slice a l.length c] w fun e w' => e = .returned (.tuple #[.pointer none, .int .i64 0, .int .i64 (thE N (vs.map (·.l)))]) ∧ Below w.heap.size w w' := by
  have q0 : ∀ L, RdH hT L hT := fun L => RdH.old fun _ hh => hh
  have cT := fun w hw => tcheck_any N aT cap vs hT ll w hw
  have hdec : (thE N (vs.map (·.l)) != 0) = true := by simpa using hth
  refine calls_of_JC (R := hT) Try.func16 Try.ntmps16 rfl rfl (hw) ?_
  repeat' first
    | (refine J.isJ ?_; first | (first | (refine J.o 6 ?_; refine J.bx (fun c2 => ?_)) | (refine J.o 4 ?_; first | refine J.lR hΓ ?_ (hr := Rd.hd)) | (refine J.fc 53 ?_; refine J.call0 eTCheck rfl rfl (fun w hw => cT w (hw.rdH (q0 _))) ?_)) | (first | (refine J.o 0 ?_; refine J.ev' hΓ ?_) | refine J.nil ?_ | (refine J.o 4 ?_; first | refine J.lR hΓ ?_) | (refine J.o 3 ?_; first | refine J.ev' hΓ ?_) | (refine J.o 6 ?_; refine J.bx (fun _ => ?_)) | (refine J.o 10 ?_; refine J.ev' hΓ ?_) | (refine J.o 11 ?_; refine J.ev' hΓ ?_)))
    | (first | refine JC.seq ?_ | refine JC.region ?_ | refine JC.ret ?_ | refine thenK.nn ?_ | refine thenK.r ?_ | (refine JC.cond rfl (fun hc => ?_) (fun hc => ?_) <;> ((try simp only [decide_eq_true_eq, decide_eq_false_iff_not, beq_iff_eq, beq_eq_false_iff_ne, bne_iff_ne, bne_eq_false_iff_eq, Bool.not_eq_true', Bool.not_eq_false', Bool.not_eq_true, Bool.not_eq_false] at hc) <;> first | (first | (exact absurd rfl hc) | (exfalso; omega) | (exact absurd (hc.symm.trans (by assumption : _ = false)) (by decide)) | (exact absurd (hc.symm.trans (by assumption : _ = true)) (by decide))) | skip)))
    | (fail)
    | fail
  all_goals first | (exfalso; omega) | skip
  all_goals (refine ret3f rfl rfl rfl rfl rfl rfl rfl (fun w1 hw => ⟨rfl, hw.below⟩))
theorem compile_ord (N : Nat) (l : List Int) (a : Option Addr) (c : Nat) (h : Heap) (hs : SlT encI 1 a l h) (hl : l.length ≤ 1000000) (aT : Option Addr) (cap : Nat) (vs : List HV) (hT : Heap) (ll : LLR aT vs hT) (hth : thE N (vs.map (·.l)) = 0) (hno : ¬ (l.length = N ∧ ofS l = allS N)) (w : World) (hw : Holds (h ++ hT) w) :
    Calls Try.prog 16 #[.agg ⟨[.int .i64 (N : Int), .slice aT vs.length cap]⟩, .slice a l.length c] w fun e w' => e = .returned (.tuple #[.pointer none, .int .i64 0, .int .i64 1]) ∧ Below w.heap.size w w' := by
  have q0 : ∀ L, RdH (h ++ hT) L h := fun L => RdH.old fun _ hh => List.mem_append_left _ hh
  have q1 : ∀ L, RdH (h ++ hT) L hT := fun L => RdH.old fun _ hh => List.mem_append_right _ hh
  have cT := fun w hw => tcheck_any (N : Int) aT cap vs hT ll w hw
  rw [hth] at cT
  have hN : N ≤ 128 := by have := (thE_ok.1 hth).1; omega
  have cO := fun w hw => of_any a c l h hs (by omega) w hw
  have cA := fun w => all_any N hN w
  by_cases hlen : l.length = N
  · have hofd : decide (ofS l = allS N) = false := decide_eq_false (fun g => hno ⟨hlen, g⟩)
    subst hlen
    refine calls_of_JC (R := (h ++ hT)) Try.func16 Try.ntmps16 rfl rfl (hw) ?_
    repeat' first
      | (refine J.isJ ?_; first | (first | (refine J.o 6 ?_; refine J.bx (fun c2 => ?_)) | (refine J.o 4 ?_; first | refine J.lR hΓ ?_ (hr := Rd.hd)) | (refine J.fc 53 ?_; refine J.call0 eTCheck rfl rfl (fun w hw => cT w (hw.rdH (q1 _))) ?_) | (refine J.fc 54 ?_; refine J.call0 eOf rfl rfl (fun w hw => cO w (hw.rdH (q0 _))) ?_) | (refine J.fc 55 ?_; refine J.call0 eAllV rfl rfl (fun w hw => cA w) ?_) | (refine J.o 11 ?_; refine J.nA (a := ofS l) (b := allS l.length) hΓ ?_; rw [hofd])) | (first | (refine J.o 0 ?_; refine J.ev' hΓ ?_) | refine J.nil ?_ | refine J.kd ?_ | (refine J.o 4 ?_; first | refine J.lR hΓ ?_) | (refine J.o 3 ?_; first | refine J.ev' hΓ ?_) | (refine J.o 6 ?_; refine J.bx (fun _ => ?_)) | (refine J.o 10 ?_; refine J.ev' hΓ ?_) | (refine J.o 11 ?_; refine J.ev' hΓ ?_)) | ((fail_if_success refine J.wt ?_); refine J.gc rfl rfl (fun hc => ?_) (fun hc => ?_) <;> ((try simp only [decide_eq_true_eq, decide_eq_false_iff_not, beq_iff_eq, beq_eq_false_iff_ne, bne_iff_ne, bne_eq_false_iff_eq, Bool.not_eq_true', Bool.not_eq_false', Bool.not_eq_true, Bool.not_eq_false] at hc) <;> first | (first | (exact absurd rfl hc) | (exfalso; omega) | (exact absurd (hc.symm.trans (by assumption : _ = false)) (by decide)) | (exact absurd (hc.symm.trans (by assumption : _ = true)) (by decide))) | skip)))
      | (first | refine JC.seq ?_ | refine JC.region ?_ | refine JC.ret ?_ | refine JC.skip ?_ | refine thenK.nn ?_ | refine thenK.r ?_ | refine JC.condT rfl ?_ | refine JC.condF rfl ?_ | refine drawK.nn ?_)
      | ((refine JC.drawW [] [] (by kernel_rfl) (by kernel_rfl) ?_))
      | fail
    all_goals first | (exfalso; omega) | skip
    all_goals (refine ret3f rfl rfl rfl rfl rfl rfl rfl (fun w1 hw => ⟨rfl, hw.below⟩))
  ·
    have hdec : ((l.length : Int) != (N : Int)) = true := by simp; omega
    refine calls_of_JC (R := (h ++ hT)) Try.func16 Try.ntmps16 rfl rfl (hw) ?_
    repeat' first
      | (refine J.isJ ?_; first | (first | (refine J.o 6 ?_; refine J.bx (fun c2 => ?_)) | (refine J.o 4 ?_; first | refine J.lR hΓ ?_ (hr := Rd.hd)) | (refine J.fc 53 ?_; refine J.call0 eTCheck rfl rfl (fun w hw => cT w (hw.rdH (q1 _))) ?_) | (refine J.o 11 ?_; refine J.ev' hΓ ?_; rw [hdec])) | (first | (refine J.o 0 ?_; refine J.ev' hΓ ?_) | refine J.nil ?_ | refine J.kd ?_ | (refine J.o 4 ?_; first | refine J.lR hΓ ?_) | (refine J.o 3 ?_; first | refine J.ev' hΓ ?_) | (refine J.o 6 ?_; refine J.bx (fun _ => ?_)) | (refine J.o 10 ?_; refine J.ev' hΓ ?_) | (refine J.o 11 ?_; refine J.ev' hΓ ?_)) | ((fail_if_success refine J.wt ?_); refine J.gc rfl rfl (fun hc => ?_) (fun hc => ?_) <;> ((try simp only [decide_eq_true_eq, decide_eq_false_iff_not, beq_iff_eq, beq_eq_false_iff_ne, bne_iff_ne, bne_eq_false_iff_eq, Bool.not_eq_true', Bool.not_eq_false', Bool.not_eq_true, Bool.not_eq_false] at hc) <;> first | (first | (exact absurd rfl hc) | (exfalso; omega) | (exact absurd (hc.symm.trans (by assumption : _ = false)) (by decide)) | (exact absurd (hc.symm.trans (by assumption : _ = true)) (by decide))) | skip)))
      | (first | refine JC.seq ?_ | refine JC.region ?_ | refine JC.ret ?_ | refine JC.skip ?_ | refine thenK.nn ?_ | refine thenK.r ?_ | refine JC.condT rfl ?_ | refine JC.condF rfl ?_ | refine drawK.nn ?_)
      | ((refine JC.drawW [] [] (by kernel_rfl) (by kernel_rfl) ?_))
      | fail
    all_goals first | (exfalso; omega) | skip
    all_goals (refine ret3f rfl rfl rfl rfl rfl rfl rfl (fun w1 hw => ⟨rfl, hw.below⟩))
end Go.Proofs.Ytbhgahjeocnfcaa
namespace Go.Proofs.Ytbhgahjeocnfcaa
open Go Go.Cx Go.RowKit
set_option linter.unusedVariables false
set_option linter.unusedSimpArgs false
set_option maxHeartbeats 4000000
attribute [local irreducible] J JC thenK blockK loopK drawK retK QW Qt pel List.set Calls
open Go.Maps Go.Lib
set_option maxRecDepth 8000
attribute [local irreducible] JE Br eK0 eK3 brK pc
theorem eValidR : Entr Try.prog 112 := Entr.of Try.func112 rfl rfl
theorem eCheck05 : Entr Try.prog 52 := Entr.of Try.func52 rfl rfl
theorem validR_any (l n : Int) (hn : 0 ≤ n ∧ n ≤ 128) (w : World) : Calls Try.prog 112 #[.int .i64 l, .int .i64 n] w fun e w' => e = .returned (.bool (validB l n)) ∧ Below w.heap.size w w' := by
  unfold validB
  refine calls_of_JC (R := []) Try.func112 Try.ntmps112 rfl rfl (Holds.nil _) ?_
  repeat' first
    | (refine J.isJ ?_; first | (fail) | (first | (refine J.o 0 ?_; refine J.ev' hΓ ?_) | refine J.nil ?_ | refine J.kd ?_ | (refine J.o 3 ?_; first | refine J.ev' hΓ ?_) | (refine J.o 1 ?_; first | refine J.ng ?_) | (refine J.o 10 ?_; refine J.ev' hΓ ?_) | (refine J.o 11 ?_; refine J.ev' hΓ ?_)) | ((fail_if_success refine J.wt ?_); refine J.gc rfl rfl (fun hc => ?_) (fun hc => ?_) <;> ((try simp only [decide_eq_true_eq, decide_eq_false_iff_not, beq_iff_eq, beq_eq_false_iff_ne, bne_iff_ne, bne_eq_false_iff_eq, Bool.not_eq_true', Bool.not_eq_false', Bool.not_eq_true, Bool.not_eq_false] at hc) <;> first | (first | (exact absurd rfl hc) | (exfalso; omega) | (exact absurd (hc.symm.trans (by assumption : _ = false)) (by decide)) | (exact absurd (hc.symm.trans (by assumption : _ = true)) (by decide))) | skip)))
    | (first | refine JC.seq ?_ | refine JC.region ?_ | refine JC.ret ?_ | refine thenK.nn ?_)
    | (fail)
    | fail
  all_goals first | (exfalso; omega) | skip
  all_goals (refine ret1f rfl rfl rfl (fun w1 hw => ⟨?_, hw.below⟩))
  all_goals (refine congrArg (fun b => Ending.returned (.bool b)) ?_)
  all_goals first | (symm; rw [decide_eq_false_iff_not]; omega) | (rw [decide_eq_decide]; omega) | (symm; rw [decide_eq_true_iff]; omega)
theorem check05_any (N : Int) (a : Option Addr) (cap : Nat) (vs : List HV) (h : Heap) (hr : LLR a vs h) (w : World) (hw : Holds h w) :
    Calls Try.prog 52 #[.agg ⟨[.int .i64 N, .slice a vs.length cap]⟩] w fun e w' => e = .returned (.int .i64 (thE N (vs.map (·.l)))) ∧ Below w.heap.size w w' := by
  have q0 : ∀ L, RdH h L h := fun L => RdH.old fun _ hh => hh
  obtain ⟨ho, hi⟩ := hr
  have hlen : (vs.map (·.l)).length = vs.length := List.length_map _
  by_cases hN : N < 0 ∨ 128 < N
  ·
    have e0 : thE N (vs.map (·.l)) = 6 := by unfold thE; rw [if_pos hN]
    rw [e0]
    refine calls_of_JC (R := h) Try.func52 Try.ntmps52 rfl rfl (hw) ?_
    repeat' first
      | (refine J.isJ ?_; first | ((refine J.o 6 ?_; refine J.bx (fun b1 => ?_))) | (first | (refine J.o 0 ?_; refine J.ev' hΓ ?_) | refine J.nil ?_ | refine J.kd ?_ | (refine J.o 4 ?_; first | refine J.lT default hΓ ?_ | refine J.lR hΓ ?_) | (refine J.o 3 ?_; first | refine J.iJ hΓ ?_ | refine J.ev' hΓ ?_) | (refine J.o 1 ?_; first | refine J.ad ?_) | (refine J.o 6 ?_; refine J.bx (fun _ => ?_)) | (refine J.o 10 ?_; refine J.ev' hΓ ?_) | (refine J.o 11 ?_; refine J.ev' hΓ ?_)) | ((fail_if_success refine J.wt ?_); refine J.gc rfl rfl (fun hc => ?_) (fun hc => ?_) <;> ((try simp only [decide_eq_true_eq, decide_eq_false_iff_not, beq_iff_eq, beq_eq_false_iff_ne, bne_iff_ne, bne_eq_false_iff_eq, Bool.not_eq_true', Bool.not_eq_false', Bool.not_eq_true, Bool.not_eq_false] at hc) <;> first | (first | (exact absurd rfl hc) | (exfalso; omega) | (exact absurd (hc.symm.trans (by assumption : _ = false)) (by decide)) | (exact absurd (hc.symm.trans (by assumption : _ = true)) (by decide))) | skip)))
      | (first | refine JC.seq ?_ | refine JC.region ?_ | refine JC.block ?_ | refine JC.ret ?_ | refine JC.exit ?_ | refine JC.skip ?_ | refine thenK.nn ?_ | refine thenK.r ?_ | refine thenK.x ?_ | refine blockK.nn ?_ | refine blockK.r ?_ | refine blockK.hit rfl ?_ | refine JC.condT rfl ?_ | refine JC.condF rfl ?_ | (refine JC.cond rfl (fun hc => ?_) (fun hc => ?_) <;> ((try simp only [decide_eq_true_eq, decide_eq_false_iff_not, beq_iff_eq, beq_eq_false_iff_ne, bne_iff_ne, bne_eq_false_iff_eq, Bool.not_eq_true', Bool.not_eq_false', Bool.not_eq_true, Bool.not_eq_false] at hc) <;> first | (first | (exact absurd rfl hc) | (exfalso; omega) | (exact absurd (hc.symm.trans (by assumption : _ = false)) (by decide)) | (exact absurd (hc.symm.trans (by assumption : _ = true)) (by decide))) | skip)) | refine drawK.nn ?_ | refine loopK.r ?_ | refine loopK.x ?_)
      | (fail)
      | fail
    all_goals first | (exfalso; omega) | skip
    all_goals (refine ret1f rfl rfl rfl (fun w1 hw => ⟨rfl, hw.below⟩))
  by_cases hT : 4096 < vs.length
  ·
    have e0 : thE N (vs.map (·.l)) = 2 := by unfold thE; rw [if_neg hN, if_pos (by omega)]
    rw [e0]
    refine calls_of_JC (R := h) Try.func52 Try.ntmps52 rfl rfl (hw) ?_
    repeat' first
      | (refine J.isJ ?_; first | ((refine J.o 6 ?_; refine J.bx (fun b1 => ?_))) | (first | (refine J.o 0 ?_; refine J.ev' hΓ ?_) | refine J.nil ?_ | refine J.kd ?_ | (refine J.o 4 ?_; first | refine J.lT default hΓ ?_ | refine J.lR hΓ ?_) | (refine J.o 3 ?_; first | refine J.iJ hΓ ?_ | refine J.ev' hΓ ?_) | (refine J.o 1 ?_; first | refine J.ad ?_) | (refine J.o 6 ?_; refine J.bx (fun _ => ?_)) | (refine J.o 10 ?_; refine J.ev' hΓ ?_) | (refine J.o 11 ?_; refine J.ev' hΓ ?_)) | ((fail_if_success refine J.wt ?_); refine J.gc rfl rfl (fun hc => ?_) (fun hc => ?_) <;> ((try simp only [decide_eq_true_eq, decide_eq_false_iff_not, beq_iff_eq, beq_eq_false_iff_ne, bne_iff_ne, bne_eq_false_iff_eq, Bool.not_eq_true', Bool.not_eq_false', Bool.not_eq_true, Bool.not_eq_false] at hc) <;> first | (first | (exact absurd rfl hc) | (exfalso; omega) | (exact absurd (hc.symm.trans (by assumption : _ = false)) (by decide)) | (exact absurd (hc.symm.trans (by assumption : _ = true)) (by decide))) | skip)))
      | (first | refine JC.seq ?_ | refine JC.region ?_ | refine JC.block ?_ | refine JC.ret ?_ | refine JC.exit ?_ | refine JC.skip ?_ | refine thenK.nn ?_ | refine thenK.r ?_ | refine thenK.x ?_ | refine blockK.nn ?_ | refine blockK.r ?_ | refine blockK.hit rfl ?_ | refine JC.condT rfl ?_ | refine JC.condF rfl ?_ | (refine JC.cond rfl (fun hc => ?_) (fun hc => ?_) <;> ((try simp only [decide_eq_true_eq, decide_eq_false_iff_not, beq_iff_eq, beq_eq_false_iff_ne, bne_iff_ne, bne_eq_false_iff_eq, Bool.not_eq_true', Bool.not_eq_false', Bool.not_eq_true, Bool.not_eq_false] at hc) <;> first | (first | (exact absurd rfl hc) | (exfalso; omega) | (exact absurd (hc.symm.trans (by assumption : _ = false)) (by decide)) | (exact absurd (hc.symm.trans (by assumption : _ = true)) (by decide))) | skip)) | refine drawK.nn ?_ | refine loopK.r ?_ | refine loopK.x ?_)
      | (fail)
      | fail
    all_goals first | (exfalso; omega) | skip
    all_goals (refine ret1f rfl rfl rfl (fun w1 hw => ⟨rfl, hw.below⟩))
  have e0 : thE N (vs.map (·.l)) = clsE N ((vs.drop 0).map (·.l)) := by unfold thE; rw [if_neg hN, if_neg (by omega)]; rfl
  obtain ⟨R0, hR0⟩ : ∃ R0, clsE N ((vs.drop 0).map (·.l)) = R0 := ⟨_, rfl⟩
  rw [e0, hR0]
  refine calls_of_JC (R := h) Try.func52 Try.ntmps52 rfl rfl (hw) ?_
  repeat' first
    | (refine J.isJ ?_; first | ((refine J.o 6 ?_; refine J.bx (fun b1 => ?_))) | (first | (refine J.o 0 ?_; refine J.ev' hΓ ?_) | refine J.nil ?_ | refine J.kd ?_ | (refine J.o 4 ?_; first | refine J.lT default hΓ ?_ | refine J.lR hΓ ?_) | (refine J.o 3 ?_; first | refine J.iJ hΓ ?_ | refine J.ev' hΓ ?_) | (refine J.o 1 ?_; first | refine J.ad ?_) | (refine J.o 6 ?_; refine J.bx (fun _ => ?_)) | (refine J.o 10 ?_; refine J.ev' hΓ ?_) | (refine J.o 11 ?_; refine J.ev' hΓ ?_)) | ((fail_if_success refine J.wt ?_); refine J.gc rfl rfl (fun hc => ?_) (fun hc => ?_) <;> ((try simp only [decide_eq_true_eq, decide_eq_false_iff_not, beq_iff_eq, beq_eq_false_iff_ne, bne_iff_ne, bne_eq_false_iff_eq, Bool.not_eq_true', Bool.not_eq_false', Bool.not_eq_true, Bool.not_eq_false] at hc) <;> first | (first | (exact absurd rfl hc) | (exfalso; omega) | (exact absurd (hc.symm.trans (by assumption : _ = false)) (by decide)) | (exact absurd (hc.symm.trans (by assumption : _ = true)) (by decide))) | skip)))
    | (first | refine JC.seq ?_ | refine JC.region ?_ | refine JC.block ?_ | refine JC.ret ?_ | refine JC.exit ?_ | refine JC.skip ?_ | refine thenK.nn ?_ | refine thenK.r ?_ | refine thenK.x ?_ | refine blockK.nn ?_ | refine blockK.r ?_ | refine blockK.hit rfl ?_ | refine JC.condT rfl ?_ | refine JC.condF rfl ?_ | (refine JC.cond rfl (fun hc => ?_) (fun hc => ?_) <;> ((try simp only [decide_eq_true_eq, decide_eq_false_iff_not, beq_iff_eq, beq_eq_false_iff_ne, bne_iff_ne, bne_eq_false_iff_eq, Bool.not_eq_true', Bool.not_eq_false', Bool.not_eq_true, Bool.not_eq_false] at hc) <;> first | (first | (exact absurd rfl hc) | (exfalso; omega) | (exact absurd (hc.symm.trans (by assumption : _ = false)) (by decide)) | (exact absurd (hc.symm.trans (by assumption : _ = true)) (by decide))) | skip)) | refine drawK.nn ?_ | refine loopK.r ?_ | refine loopK.x ?_)
    | (fail)
    | fail
  all_goals first | (exfalso; omega) | skip
  refine JC.loop (fun i => i == 2 || i == 3 || i == 4 || Nat.ble 17 i) (fun m g L => ∃ (k : Nat), g 3 = .int .i64 (k : Int) ∧ k + m = vs.length ∧ clsE N ((vs.drop k).map (·.l)) = R0 ∧ L = _) vs.length ⟨0, rfl, by omega, hR0, rfl⟩ ?_
  rintro m g L ⟨k, e3, hkm, hRk, rfl⟩
  refine JC.pin 3 e3 ?_
  rcases Nat.lt_or_ge k vs.length with hk | hk
  ·
    rw [drop_g vs k hk, List.map_cons] at hRk
    have hik := hi _ (mem_g vs k hk)
    by_cases hlc : 128 < (vs.getD k default).l.length
    ·
      unfold clsE at hRk
      rw [if_pos hlc] at hRk
      repeat' first
        | (refine J.isJ ?_; first | (first | (refine J.o 3 ?_; refine J.iJ hΓ ?_ (hs := ho)) | (refine J.o 4 ?_; first | refine J.lT default hΓ ?_ (hs := ho) (hr := q0 _))) | (first | (refine J.o 0 ?_; refine J.ev' hΓ ?_) | refine J.nil ?_ | refine J.kd ?_ | (refine J.o 4 ?_; first | refine J.lT default hΓ ?_ | refine J.lR hΓ ?_) | (refine J.o 3 ?_; first | refine J.iJ hΓ ?_ | refine J.ev' hΓ ?_) | (refine J.o 1 ?_; first | refine J.ad ?_) | (refine J.o 6 ?_; refine J.bx (fun _ => ?_)) | (refine J.o 10 ?_; refine J.ev' hΓ ?_) | (refine J.o 11 ?_; refine J.ev' hΓ ?_)) | ((fail_if_success refine J.wt ?_); refine J.gc rfl rfl (fun hc => ?_) (fun hc => ?_) <;> ((try simp only [decide_eq_true_eq, decide_eq_false_iff_not, beq_iff_eq, beq_eq_false_iff_ne, bne_iff_ne, bne_eq_false_iff_eq, Bool.not_eq_true', Bool.not_eq_false', Bool.not_eq_true, Bool.not_eq_false] at hc) <;> first | (first | (exact absurd rfl hc) | (exfalso; omega) | (exact absurd (hc.symm.trans (by assumption : _ = false)) (by decide)) | (exact absurd (hc.symm.trans (by assumption : _ = true)) (by decide))) | skip)))
        | (first | refine JC.seq ?_ | refine JC.region ?_ | refine JC.block ?_ | refine JC.ret ?_ | refine JC.exit ?_ | refine JC.skip ?_ | refine thenK.nn ?_ | refine thenK.r ?_ | refine thenK.x ?_ | refine blockK.nn ?_ | refine blockK.r ?_ | refine blockK.hit rfl ?_ | refine JC.condT rfl ?_ | refine JC.condF rfl ?_ | (refine JC.cond rfl (fun hc => ?_) (fun hc => ?_) <;> ((try simp only [decide_eq_true_eq, decide_eq_false_iff_not, beq_iff_eq, beq_eq_false_iff_ne, bne_iff_ne, bne_eq_false_iff_eq, Bool.not_eq_true', Bool.not_eq_false', Bool.not_eq_true, Bool.not_eq_false] at hc) <;> first | (first | (exact absurd rfl hc) | (exfalso; omega) | (exact absurd (hc.symm.trans (by assumption : _ = false)) (by decide)) | (exact absurd (hc.symm.trans (by assumption : _ = true)) (by decide))) | skip)) | refine drawK.nn ?_ | refine loopK.r ?_ | refine loopK.x ?_)
        | (fail)
        | fail
      all_goals first | (exfalso; omega) | skip
      all_goals (refine ret1f rfl rfl rfl (fun w1 hw => ⟨?_, hw.below⟩))
      rw [hRk]
    unfold clsE at hRk
    rw [if_neg hlc] at hRk
    repeat' first
      | (refine J.isJ ?_; first | (first | (refine J.o 3 ?_; refine J.iJ hΓ ?_ (hs := ho)) | (refine J.o 4 ?_; first | refine J.lT default hΓ ?_ (hs := ho) (hr := q0 _))) | (first | (refine J.o 0 ?_; refine J.ev' hΓ ?_) | refine J.nil ?_ | refine J.kd ?_ | (refine J.o 4 ?_; first | refine J.lT default hΓ ?_ | refine J.lR hΓ ?_) | (refine J.o 3 ?_; first | refine J.iJ hΓ ?_ | refine J.ev' hΓ ?_) | (refine J.o 1 ?_; first | refine J.ad ?_) | (refine J.o 6 ?_; refine J.bx (fun _ => ?_)) | (refine J.o 10 ?_; refine J.ev' hΓ ?_) | (refine J.o 11 ?_; refine J.ev' hΓ ?_)) | ((fail_if_success refine J.wt ?_); refine J.gc rfl rfl (fun hc => ?_) (fun hc => ?_) <;> ((try simp only [decide_eq_true_eq, decide_eq_false_iff_not, beq_iff_eq, beq_eq_false_iff_ne, bne_iff_ne, bne_eq_false_iff_eq, Bool.not_eq_true', Bool.not_eq_false', Bool.not_eq_true, Bool.not_eq_false] at hc) <;> first | (first | (exact absurd rfl hc) | (exfalso; omega) | (exact absurd (hc.symm.trans (by assumption : _ = false)) (by decide)) | (exact absurd (hc.symm.trans (by assumption : _ = true)) (by decide))) | skip)))
      | (first | refine JC.seq ?_ | refine JC.region ?_ | refine JC.block ?_ | refine JC.ret ?_ | refine JC.exit ?_ | refine JC.skip ?_ | refine thenK.nn ?_ | refine thenK.r ?_ | refine thenK.x ?_ | refine blockK.nn ?_ | refine blockK.r ?_ | refine blockK.hit rfl ?_ | refine JC.condT rfl ?_ | refine JC.condF rfl ?_ | (refine JC.cond rfl (fun hc => ?_) (fun hc => ?_) <;> ((try simp only [decide_eq_true_eq, decide_eq_false_iff_not, beq_iff_eq, beq_eq_false_iff_ne, bne_iff_ne, bne_eq_false_iff_eq, Bool.not_eq_true', Bool.not_eq_false', Bool.not_eq_true, Bool.not_eq_false] at hc) <;> first | (first | (exact absurd rfl hc) | (exfalso; omega) | (exact absurd (hc.symm.trans (by assumption : _ = false)) (by decide)) | (exact absurd (hc.symm.trans (by assumption : _ = true)) (by decide))) | skip)) | refine drawK.nn ?_ | refine loopK.r ?_ | refine loopK.x ?_)
      | (fail)
      | fail
    all_goals first | (exfalso; omega) | skip
    refine JC.loop (fun i => i == 2 || i == 4 || Nat.ble 31 i) (fun m g L => ∃ (j : Nat), g 4 = .int .i64 (j : Int) ∧ j + m = (vs.getD k default).l.length ∧ litsE N ((vs.getD k default).l.drop j) = litsE N (vs.getD k default).l ∧ L = _) (vs.getD k default).l.length ⟨0, rfl, by omega, rfl, rfl⟩ ?_
    rintro m3 g3 L3 ⟨j, e4, hjm, hLj, rfl⟩
    refine JC.pin 4 e4 ?_
    rcases Nat.lt_or_ge j (vs.getD k default).l.length with hj | hj
    ·
      rw [drop_g _ j hj, litsE_cons] at hLj
      have cV := fun w => validR_any ((vs.getD k default).l.getD j default) N (by omega) w
      cases hv : validB ((vs.getD k default).l.getD j default) N with
      | true =>
        rw [hv] at cV
        rw [hv, if_pos rfl] at hLj
        repeat' first
          | (refine J.isJ ?_; first | (first | (refine J.o 3 ?_; first | refine J.iJ hΓ ?_ (hs := ho) | refine J.iJ hΓ ?_ (hs := hik)) | (refine J.o 4 ?_; first | refine J.lT default hΓ ?_ (hs := hik) (hr := q0 _) | refine J.lT default hΓ ?_ (hs := ho) (hr := q0 _)) | (refine J.fc 112 ?_; refine J.call0 eValidR rfl rfl (fun w hw => cV w) ?_)) | (first | (refine J.o 0 ?_; refine J.ev' hΓ ?_) | refine J.nil ?_ | refine J.kd ?_ | (refine J.o 4 ?_; first | refine J.lT default hΓ ?_ | refine J.lR hΓ ?_) | (refine J.o 3 ?_; first | refine J.iJ hΓ ?_ | refine J.ev' hΓ ?_) | (refine J.o 1 ?_; first | refine J.ad ?_) | (refine J.o 6 ?_; refine J.bx (fun _ => ?_)) | (refine J.o 10 ?_; refine J.ev' hΓ ?_) | (refine J.o 11 ?_; refine J.ev' hΓ ?_)) | ((fail_if_success refine J.wt ?_); refine J.gc rfl rfl (fun hc => ?_) (fun hc => ?_) <;> ((try simp only [decide_eq_true_eq, decide_eq_false_iff_not, beq_iff_eq, beq_eq_false_iff_ne, bne_iff_ne, bne_eq_false_iff_eq, Bool.not_eq_true', Bool.not_eq_false', Bool.not_eq_true, Bool.not_eq_false] at hc) <;> first | (first | (exact absurd rfl hc) | (exfalso; omega) | (exact absurd (hc.symm.trans (by assumption : _ = false)) (by decide)) | (exact absurd (hc.symm.trans (by assumption : _ = true)) (by decide))) | skip)))
          | (first | refine JC.seq ?_ | refine JC.region ?_ | refine JC.block ?_ | refine JC.ret ?_ | refine JC.exit ?_ | refine JC.skip ?_ | refine thenK.nn ?_ | refine thenK.r ?_ | refine thenK.x ?_ | refine blockK.nn ?_ | refine blockK.r ?_ | refine blockK.hit rfl ?_ | refine JC.condT rfl ?_ | refine JC.condF rfl ?_ | (refine JC.cond rfl (fun hc => ?_) (fun hc => ?_) <;> ((try simp only [decide_eq_true_eq, decide_eq_false_iff_not, beq_iff_eq, beq_eq_false_iff_ne, bne_iff_ne, bne_eq_false_iff_eq, Bool.not_eq_true', Bool.not_eq_false', Bool.not_eq_true, Bool.not_eq_false] at hc) <;> first | (first | (exact absurd rfl hc) | (exfalso; omega) | (exact absurd (hc.symm.trans (by assumption : _ = false)) (by decide)) | (exact absurd (hc.symm.trans (by assumption : _ = true)) (by decide))) | skip)) | refine drawK.nn ?_ | refine loopK.r ?_ | refine loopK.x ?_)
          | ((refine JC.drawW [] [] (by kernel_rfl) (by kernel_rfl) ?_))
          | fail
        all_goals first | (exfalso; omega) | skip
        all_goals refine loopK.nn (m3 - 1) (by omega) (by repeat (first | refine Ag.upd rfl ?_ | exact Ag.hv | refine Ag.hv2 (fun i hi => by simp at hi ⊢; omega) ?_)) ⟨j + 1, ?_, by omega, hLj, rfl⟩
        all_goals (show Value.int .i64 _ = _; congr 1)
      | false =>
        rw [hv] at cV
        rw [hv, if_neg (by decide)] at hLj
        rw [if_neg (by rw [← hLj]; decide)] at hRk
        repeat' first
          | (refine J.isJ ?_; first | (first | (refine J.o 3 ?_; first | refine J.iJ hΓ ?_ (hs := ho) | refine J.iJ hΓ ?_ (hs := hik)) | (refine J.o 4 ?_; first | refine J.lT default hΓ ?_ (hs := hik) (hr := q0 _) | refine J.lT default hΓ ?_ (hs := ho) (hr := q0 _)) | (refine J.fc 112 ?_; refine J.call0 eValidR rfl rfl (fun w hw => cV w) ?_)) | (first | (refine J.o 0 ?_; refine J.ev' hΓ ?_) | refine J.nil ?_ | refine J.kd ?_ | (refine J.o 4 ?_; first | refine J.lT default hΓ ?_ | refine J.lR hΓ ?_) | (refine J.o 3 ?_; first | refine J.iJ hΓ ?_ | refine J.ev' hΓ ?_) | (refine J.o 1 ?_; first | refine J.ad ?_) | (refine J.o 6 ?_; refine J.bx (fun _ => ?_)) | (refine J.o 10 ?_; refine J.ev' hΓ ?_) | (refine J.o 11 ?_; refine J.ev' hΓ ?_)) | ((fail_if_success refine J.wt ?_); refine J.gc rfl rfl (fun hc => ?_) (fun hc => ?_) <;> ((try simp only [decide_eq_true_eq, decide_eq_false_iff_not, beq_iff_eq, beq_eq_false_iff_ne, bne_iff_ne, bne_eq_false_iff_eq, Bool.not_eq_true', Bool.not_eq_false', Bool.not_eq_true, Bool.not_eq_false] at hc) <;> first | (first | (exact absurd rfl hc) | (exfalso; omega) | (exact absurd (hc.symm.trans (by assumption : _ = false)) (by decide)) | (exact absurd (hc.symm.trans (by assumption : _ = true)) (by decide))) | skip)))
          | (first | refine JC.seq ?_ | refine JC.region ?_ | refine JC.block ?_ | refine JC.ret ?_ | refine JC.exit ?_ | refine JC.skip ?_ | refine thenK.nn ?_ | refine thenK.r ?_ | refine thenK.x ?_ | refine blockK.nn ?_ | refine blockK.r ?_ | refine blockK.hit rfl ?_ | refine JC.condT rfl ?_ | refine JC.condF rfl ?_ | (refine JC.cond rfl (fun hc => ?_) (fun hc => ?_) <;> ((try simp only [decide_eq_true_eq, decide_eq_false_iff_not, beq_iff_eq, beq_eq_false_iff_ne, bne_iff_ne, bne_eq_false_iff_eq, Bool.not_eq_true', Bool.not_eq_false', Bool.not_eq_true, Bool.not_eq_false] at hc) <;> first | (first | (exact absurd rfl hc) | (exfalso; omega) | (exact absurd (hc.symm.trans (by assumption : _ = false)) (by decide)) | (exact absurd (hc.symm.trans (by assumption : _ = true)) (by decide))) | skip)) | refine drawK.nn ?_ | refine loopK.r ?_ | refine loopK.x ?_)
          | ((refine JC.drawW [] [] (by kernel_rfl) (by kernel_rfl) ?_))
          | fail
        all_goals first | (exfalso; omega) | skip
        all_goals (refine ret1f rfl rfl rfl (fun w1 hw => ⟨?_, hw.below⟩))
        rw [hRk]
    ·
      rw [List.drop_of_length_le hj] at hLj
      have hz : litsE N (vs.getD k default).l = 0 := hLj.symm
      rw [if_pos hz] at hRk
      repeat' first
        | (refine J.isJ ?_; first | (first | (refine J.o 3 ?_; first | refine J.iJ hΓ ?_ (hs := ho)) | (refine J.o 4 ?_; first | refine J.lT default hΓ ?_ (hs := ho) (hr := q0 _))) | (first | (refine J.o 0 ?_; refine J.ev' hΓ ?_) | refine J.nil ?_ | refine J.kd ?_ | (refine J.o 4 ?_; first | refine J.lT default hΓ ?_ | refine J.lR hΓ ?_) | (refine J.o 3 ?_; first | refine J.iJ hΓ ?_ | refine J.ev' hΓ ?_) | (refine J.o 1 ?_; first | refine J.ad ?_) | (refine J.o 6 ?_; refine J.bx (fun _ => ?_)) | (refine J.o 10 ?_; refine J.ev' hΓ ?_) | (refine J.o 11 ?_; refine J.ev' hΓ ?_)) | ((fail_if_success refine J.wt ?_); refine J.gc rfl rfl (fun hc => ?_) (fun hc => ?_) <;> ((try simp only [decide_eq_true_eq, decide_eq_false_iff_not, beq_iff_eq, beq_eq_false_iff_ne, bne_iff_ne, bne_eq_false_iff_eq, Bool.not_eq_true', Bool.not_eq_false', Bool.not_eq_true, Bool.not_eq_false] at hc) <;> first | (first | (exact absurd rfl hc) | (exfalso; omega) | (exact absurd (hc.symm.trans (by assumption : _ = false)) (by decide)) | (exact absurd (hc.symm.trans (by assumption : _ = true)) (by decide))) | skip)))
        | (first | refine JC.seq ?_ | refine JC.region ?_ | refine JC.block ?_ | refine JC.ret ?_ | refine JC.exit ?_ | refine JC.skip ?_ | refine thenK.nn ?_ | refine thenK.r ?_ | refine thenK.x ?_ | refine blockK.nn ?_ | refine blockK.r ?_ | refine blockK.hit rfl ?_ | refine JC.condT rfl ?_ | refine JC.condF rfl ?_ | (refine JC.cond rfl (fun hc => ?_) (fun hc => ?_) <;> ((try simp only [decide_eq_true_eq, decide_eq_false_iff_not, beq_iff_eq, beq_eq_false_iff_ne, bne_iff_ne, bne_eq_false_iff_eq, Bool.not_eq_true', Bool.not_eq_false', Bool.not_eq_true, Bool.not_eq_false] at hc) <;> first | (first | (exact absurd rfl hc) | (exfalso; omega) | (exact absurd (hc.symm.trans (by assumption : _ = false)) (by decide)) | (exact absurd (hc.symm.trans (by assumption : _ = true)) (by decide))) | skip)) | refine drawK.nn ?_ | refine loopK.r ?_ | refine loopK.x ?_)
        | ((refine JC.drawW [] [] (by kernel_rfl) (by kernel_rfl) ?_))
        | fail
      all_goals first | (exfalso; omega) | skip
      all_goals refine loopK.nn (m - 1) (by omega) (by repeat (first | refine Ag.upd rfl ?_ | exact Ag.hv | refine Ag.hv2 (fun i hi => by simp at hi ⊢; omega) ?_)) ⟨k + 1, ?_, by omega, hRk, rfl⟩
      all_goals (show Value.int .i64 _ = _; congr 1)
  ·
    rw [List.drop_of_length_le hk] at hRk
    repeat' first
      | (refine J.isJ ?_; first | (fail) | (first | (refine J.o 0 ?_; refine J.ev' hΓ ?_) | refine J.nil ?_ | refine J.kd ?_ | (refine J.o 4 ?_; first | refine J.lT default hΓ ?_ | refine J.lR hΓ ?_) | (refine J.o 3 ?_; first | refine J.iJ hΓ ?_ | refine J.ev' hΓ ?_) | (refine J.o 1 ?_; first | refine J.ad ?_) | (refine J.o 6 ?_; refine J.bx (fun _ => ?_)) | (refine J.o 10 ?_; refine J.ev' hΓ ?_) | (refine J.o 11 ?_; refine J.ev' hΓ ?_)) | ((fail_if_success refine J.wt ?_); refine J.gc rfl rfl (fun hc => ?_) (fun hc => ?_) <;> ((try simp only [decide_eq_true_eq, decide_eq_false_iff_not, beq_iff_eq, beq_eq_false_iff_ne, bne_iff_ne, bne_eq_false_iff_eq, Bool.not_eq_true', Bool.not_eq_false', Bool.not_eq_true, Bool.not_eq_false] at hc) <;> first | (first | (exact absurd rfl hc) | (exfalso; omega) | (exact absurd (hc.symm.trans (by assumption : _ = false)) (by decide)) | (exact absurd (hc.symm.trans (by assumption : _ = true)) (by decide))) | skip)))
      | (first | refine JC.seq ?_ | refine JC.region ?_ | refine JC.block ?_ | refine JC.ret ?_ | refine JC.exit ?_ | refine JC.skip ?_ | refine thenK.nn ?_ | refine thenK.r ?_ | refine thenK.x ?_ | refine blockK.nn ?_ | refine blockK.r ?_ | refine blockK.hit rfl ?_ | refine JC.condT rfl ?_ | refine JC.condF rfl ?_ | (refine JC.cond rfl (fun hc => ?_) (fun hc => ?_) <;> ((try simp only [decide_eq_true_eq, decide_eq_false_iff_not, beq_iff_eq, beq_eq_false_iff_ne, bne_iff_ne, bne_eq_false_iff_eq, Bool.not_eq_true', Bool.not_eq_false', Bool.not_eq_true, Bool.not_eq_false] at hc) <;> first | (first | (exact absurd rfl hc) | (exfalso; omega) | (exact absurd (hc.symm.trans (by assumption : _ = false)) (by decide)) | (exact absurd (hc.symm.trans (by assumption : _ = true)) (by decide))) | skip)) | refine drawK.nn ?_ | refine loopK.r ?_ | refine loopK.x ?_)
      | (fail)
      | fail
    all_goals first | (exfalso; omega) | skip
    all_goals (refine ret1f rfl rfl rfl (fun w1 hw => ⟨?_, hw.below⟩))
    rw [← hRk]; rfl
end Go.Proofs.Ytbhgahjeocnfcaa
namespace Go.Proofs.Ytbhgahjeocnfcaa
open Go Go.Cx Go.RowKit
set_option linter.unusedVariables false
set_option linter.unusedSimpArgs false
set_option maxHeartbeats 4000000
attribute [local irreducible] J JC thenK blockK loopK drawK retK QW Qt pel List.set Calls
set_option maxRecDepth 8000
attribute [local irreducible] JE Br eK0 eK3 brK pc
def encS (s : Nat × Nat) : List Value := [.int .u64 (s.1 : Int), .int .u64 (s.2 : Int)]
theorem take_one {α : Type} [Inhabited α] (l : List α) (k : Nat) (hk : k < l.length) : l.take k ++ [l.getD k default] = l.take (k + 1) := (take_g l k hk).symm
theorem with_ofP (s : Nat × Nat) (hok : okS s) (v : Int) (hv : 1 ≤ v ∧ v ≤ 128) : ofP (upTo s 128 ++ [v]) = withS s v := by
  refine set_ext (ofP_ok _) (ok_with hok v) (fun u h1 h2 => ?_)
  have a := ofP_has (upTo s 128 ++ [v]) u
  have b := has_with s v u hv
  rw [List.mem_append, upTo_mem, List.mem_singleton] at a
  cases h3 : hasB (ofP (upTo s 128 ++ [v])) u <;> cases h4 : hasB (withS s v) u <;> first | rfl | (exfalso; simp_all)
theorem eWith3 : Entr Try.prog 89 := Entr.of Try.func89 rfl rfl
theorem with3_any (s : Nat × Nat) (hok : okS s) (v : Int) (hv : 1 ≤ v ∧ v ≤ 128) (w : World) :
    Calls Try.prog 89 #[sv s, .int .i64 v] w fun e w' => e = .returned (sv (withS s v)) ∧ Below w.heap.size w w' := by
  have hlen := upTo_len s 128
  have hwo := with_ofP s hok v hv
  have cO : ∀ (a : Option Addr) (cap : Nat) (h : Heap), SlT encI 1 a (upTo s 128 ++ [v]) h → ∀ w, Holds h w → Calls Try.prog 127 #[.slice a ((upTo s 128).length + 1) cap] w fun e w' => e = .returned (sv (withS s v)) ∧ Below w.heap.size w w' := fun a cap h hs w hw => by
    have e : (upTo s 128).length + 1 = (upTo s 128 ++ [v]).length := by simp
    rw [← hwo, e]; exact of3_any a cap _ h hs (by rw [List.length_append]; simp only [List.length_cons, List.length_nil]; omega) w hw
  refine calls_of_JC (R := []) Try.func89 Try.ntmps89 rfl rfl (Holds.nil _) ?_
  repeat' first
    | (refine J.isJ ?_; first | (first | (refine J.o 0 ?_; refine J.ev' hΓ ?_) | refine J.nil ?_ | (refine J.o 4 ?_; first | refine J.e1 hΓ ?_) | (refine J.o 3 ?_; first | refine J.ev' hΓ ?_) | (refine J.o 5 ?_; first | refine J.t1 hΓ ?_) | (refine J.o 6 ?_; refine J.bx (fun _ => ?_)) | (refine J.o 7 ?_; refine J.al hΓ (fun _ => ?_)) | (refine J.o 9 ?_; refine J.bl hΓ (fun _ => ?_)) | (refine J.o 10 ?_; first | refine J.ev' hΓ ?_) | (refine J.o 11 ?_; first | refine J.ev' hΓ ?_)) | (first | (refine J.fc 133 ?_; refine J.call1 eList3 rfl rfl (fun w hw => list3_any s hok w) ?_; rintro _ hl ⟨al, cl, rfl, ol⟩) | (refine J.app1 (enc := encI) [v] hΓ rfl rfl rfl rfl rfl rfl rfl ol rfl rfl rfl rfl (by omega) (by omega) (by omega) (fun a3 cap3 h3 o3 => ?_)) | (refine J.fc 127 ?_; refine J.call0 eOf3 rfl rfl (fun w hw => cO _ _ _ o3.sl w (hw.rdH (by first | exact RdH.hd | exact RdH.hd.tl | exact RdH.hd.tl.tl | exact RdH.hd.tl.tl.tl | exact RdH.hd.tl.tl.tl.tl | exact RdH.hd.tl.tl.tl.tl.tl | exact RdH.hd.tl.tl.tl.tl.tl.tl | exact RdH.hd.tl.tl.tl.tl.tl.tl.tl | exact RdH.old (fun _ hh => hh) | assumption))) ?_)))
    | (first | refine JC.seq ?_ | refine JC.region ?_ | refine JC.ret ?_ | refine thenK.nn ?_)
    | fail
  all_goals first | (exfalso; omega) | exact retC hΓ rfl rfl rfl (by first | exact Rd.hd | exact Rd.hd.tl | exact Rd.hd.tl.tl) rfl (fun w1 hw => ⟨rfl, hw.below⟩)
def ints : Nat → List Int
  | 0 => []
  | k + 1 => ints k ++ [(k : Int) + 1]
theorem ints_mem : ∀ (k : Nat) (u : Int), u ∈ ints k ↔ 1 ≤ u ∧ u ≤ k
  | 0, u => by simp [ints]; omega
  | k + 1, u => by
    rw [ints, List.mem_append, ints_mem k u, List.mem_singleton]
    constructor
    · rintro (h | h) <;> omega
    · intro h; by_cases hu : u = k + 1
      · exact .inr hu
      · exact .inl ⟨h.1, by omega⟩
theorem mark_snoc : ∀ (l : List Int) (v : Int) (x : List Bool), mark (l ++ [v]) x = if 1 ≤ v ∧ v ≤ 128 then (mark l x).set v.toNat true else mark l x
  | [], v, x => by rw [List.nil_append, mark, mark, mark]
  | u :: l, v, x => by rw [List.cons_append, mark, mark_snoc l, mark]
def allP (n : Int) : Nat × Nat := ofP (ints (if n < 128 then n.toNat else 128))
theorem allP_has (n u : Int) : hasB (allP n) u = true ↔ 1 ≤ u ∧ u ≤ 128 ∧ u ≤ n := by
  unfold allP
  rw [ofP_has, ints_mem]
  split <;> omega
theorem ints_succ (k : Nat) : ints (k + 1) = ints k ++ [(k : Int) + 1] := rfl
attribute [local irreducible] ints mark
theorem eAll3 : Entr Try.prog 128 := Entr.of Try.func128 rfl rfl
set_option maxRecDepth 20000 in
theorem all3_any (n : Int) (w : World) : Calls Try.prog 128 #[.int .i64 n] w fun e w' => e = .returned (sv (allP n)) ∧ Below w.heap.size w w' := by
  refine calls_of_JC (R := []) Try.func128 Try.ntmps128 rfl rfl (Holds.nil _) ?_
  repeat' first
    | (refine J.isJ ?_; first | (first | (refine J.o 0 ?_; refine J.ev' hΓ ?_) | refine J.nil ?_ | refine J.kd ?_ | (refine J.o 3 ?_; first | refine J.iJ hΓ ?_ | refine J.ev' hΓ ?_) | (refine J.o 1 ?_; first | refine J.ad ?_) | (refine J.o 5 ?_; first | refine J.t1 hΓ ?_ | refine J.tT _ default hΓ (fun _ _ => ?_)) | (refine J.o 7 ?_; refine J.al hΓ (fun _ => ?_)) | (refine J.o 10 ?_; first | refine J.ev' hΓ ?_) | (refine J.o 11 ?_; first | refine J.ev' hΓ ?_)) | ((refine J.fc 151 ?_; refine J.call1 eNone3 rfl rfl (fun w hw => none_any w) ?_; rintro _ hx ⟨bx, rfl, ox⟩)) | ((fail_if_success refine J.wt ?_); refine J.gc rfl rfl (fun hc => ?_) (fun hc => ?_) <;> ((try simp only [decide_eq_true_eq, decide_eq_false_iff_not, beq_iff_eq, beq_eq_false_iff_ne, bne_iff_ne, bne_eq_false_iff_eq, Bool.not_eq_true', Bool.not_eq_false', Bool.not_eq_true, Bool.not_eq_false] at hc) <;> first | (first | (exact absurd rfl hc) | (exfalso; omega) | (exact absurd (hc.symm.trans (by assumption : _ = false)) (by decide)) | (exact absurd (hc.symm.trans (by assumption : _ = true)) (by decide))) | skip)))
    | (first | refine JC.seq ?_ | refine JC.region ?_ | refine JC.block ?_ | refine JC.ret ?_ | refine JC.exit ?_ | refine JC.skip ?_ | refine thenK.nn ?_ | refine thenK.x ?_ | refine blockK.nn ?_ | refine blockK.hit rfl ?_ | refine JC.condF rfl ?_ | (refine JC.cond rfl (fun hc => ?_) (fun hc => ?_) <;> ((try simp only [decide_eq_true_eq, decide_eq_false_iff_not, beq_iff_eq, beq_eq_false_iff_ne, bne_iff_ne, bne_eq_false_iff_eq, Bool.not_eq_true', Bool.not_eq_false', Bool.not_eq_true, Bool.not_eq_false] at hc) <;> first | (first | (exact absurd rfl hc) | (exfalso; omega) | (exact absurd (hc.symm.trans (by assumption : _ = false)) (by decide)) | (exact absurd (hc.symm.trans (by assumption : _ = true)) (by decide))) | skip)) | refine loopK.x ?_)
    | fail
  have hm0 : (if n < 128 then n.toNat else 128) ≤ 128 := by split <;> omega
  have hm1 : ∀ k : Nat, k < (if n < 128 then n.toNat else 128) ↔ k < 128 ∧ (k : Int) + 1 ≤ n := fun k => by split <;> omega
  unfold allP
  generalize (if n < 128 then n.toNat else 128) = M at *
  refine JC.loop (fun i => i == 4 || Nat.ble 6 i) (fun m g L' => ∃ (k : Nat) (hx : Heap), g 4 = .int .i64 ((k : Int) + 1) ∧ k + m = M ∧ OwT encBo 1 4 (some ⟨bx, 0, none⟩) 129 (mark (ints k) (List.replicate 129 false)) hx ∧ L' = [hx, _]) M ⟨0, _, rfl, by omega, by unfold ints mark; exact ox, rfl⟩ ?_
  rintro m g L' ⟨k, hx, e4, hkm, ox', rfl⟩
  refine JC.pin 4 e4 ?_
  clear e4 ox
  have hml : (mark (ints k) (List.replicate 129 false)).length = 129 := by rw [mark_len, List.length_replicate]
  by_cases hk : k < M
  case neg =>
    obtain rfl : k = M := by omega
    have hno : ¬ (k < 128 ∧ (k : Int) + 1 ≤ n) := fun h => hk ((hm1 k).2 h)
    have cS := fun w hw => set_any (some ⟨bx, 0, none⟩) 129 _ hx ox'.sl hml w hw
    rw [hml] at cS
    have e : setP (mark (ints k) (List.replicate 129 false)) = ofP (ints k) := rfl
    rw [e] at cS
    by_cases h1 : k < 128
    · have h2 : n < (k : Int) + 1 := by omega
      repeat' first
        | (refine J.isJ ?_; first | (first | (refine J.o 0 ?_; refine J.ev' hΓ ?_) | refine J.nil ?_ | refine J.kd ?_ | (refine J.o 3 ?_; first | refine J.iJ hΓ ?_ | refine J.ev' hΓ ?_) | (refine J.o 1 ?_; first | refine J.ad ?_) | (refine J.o 5 ?_; first | refine J.t1 hΓ ?_ | refine J.tT _ default hΓ (fun _ _ => ?_)) | (refine J.o 7 ?_; refine J.al hΓ (fun _ => ?_)) | (refine J.o 10 ?_; first | refine J.ev' hΓ ?_) | (refine J.o 11 ?_; first | refine J.ev' hΓ ?_)) | ((refine J.fc 152 ?_; refine J.call0 eSet3 rfl rfl (fun w hw => cS w (hw.rdH (by first | exact RdH.hd | exact RdH.hd.tl | exact RdH.hd.tl.tl | exact RdH.hd.tl.tl.tl | exact RdH.hd.tl.tl.tl.tl | exact RdH.hd.tl.tl.tl.tl.tl | exact RdH.hd.tl.tl.tl.tl.tl.tl | exact RdH.hd.tl.tl.tl.tl.tl.tl.tl | exact RdH.old (fun _ hh => hh) | assumption))) ?_)) | ((fail_if_success refine J.wt ?_); refine J.gc rfl rfl (fun hc => ?_) (fun hc => ?_) <;> ((try simp only [decide_eq_true_eq, decide_eq_false_iff_not, beq_iff_eq, beq_eq_false_iff_ne, bne_iff_ne, bne_eq_false_iff_eq, Bool.not_eq_true', Bool.not_eq_false', Bool.not_eq_true, Bool.not_eq_false] at hc) <;> first | (first | (exact absurd rfl hc) | (exfalso; omega) | (exact absurd (hc.symm.trans (by assumption : _ = false)) (by decide)) | (exact absurd (hc.symm.trans (by assumption : _ = true)) (by decide))) | skip)))
        | (first | refine JC.seq ?_ | refine JC.region ?_ | refine JC.block ?_ | refine JC.ret ?_ | refine JC.exit ?_ | refine JC.skip ?_ | refine thenK.nn ?_ | refine thenK.x ?_ | refine blockK.nn ?_ | refine blockK.hit rfl ?_ | refine JC.condF rfl ?_ | (refine JC.cond rfl (fun hc => ?_) (fun hc => ?_) <;> ((try simp only [decide_eq_true_eq, decide_eq_false_iff_not, beq_iff_eq, beq_eq_false_iff_ne, bne_iff_ne, bne_eq_false_iff_eq, Bool.not_eq_true', Bool.not_eq_false', Bool.not_eq_true, Bool.not_eq_false] at hc) <;> first | (first | (exact absurd rfl hc) | (exfalso; omega) | (exact absurd (hc.symm.trans (by assumption : _ = false)) (by decide)) | (exact absurd (hc.symm.trans (by assumption : _ = true)) (by decide))) | skip)) | refine loopK.x ?_)
        | fail
      all_goals first | (exfalso; omega) | exact retC hΓ rfl rfl rfl (Rd.tl Rd.hd) rfl (fun w1 hw => ⟨rfl, hw.below⟩)
    ·
      repeat' first
        | (refine J.isJ ?_; first | (first | (refine J.o 0 ?_; refine J.ev' hΓ ?_) | refine J.nil ?_ | refine J.kd ?_ | (refine J.o 3 ?_; first | refine J.iJ hΓ ?_ | refine J.ev' hΓ ?_) | (refine J.o 1 ?_; first | refine J.ad ?_) | (refine J.o 5 ?_; first | refine J.t1 hΓ ?_ | refine J.tT _ default hΓ (fun _ _ => ?_)) | (refine J.o 7 ?_; refine J.al hΓ (fun _ => ?_)) | (refine J.o 10 ?_; first | refine J.ev' hΓ ?_) | (refine J.o 11 ?_; first | refine J.ev' hΓ ?_)) | ((refine J.fc 152 ?_; refine J.call0 eSet3 rfl rfl (fun w hw => cS w (hw.rdH (by first | exact RdH.hd | exact RdH.hd.tl | exact RdH.hd.tl.tl | exact RdH.hd.tl.tl.tl | exact RdH.hd.tl.tl.tl.tl | exact RdH.hd.tl.tl.tl.tl.tl | exact RdH.hd.tl.tl.tl.tl.tl.tl | exact RdH.hd.tl.tl.tl.tl.tl.tl.tl | exact RdH.old (fun _ hh => hh) | assumption))) ?_)) | ((fail_if_success refine J.wt ?_); refine J.gc rfl rfl (fun hc => ?_) (fun hc => ?_) <;> ((try simp only [decide_eq_true_eq, decide_eq_false_iff_not, beq_iff_eq, beq_eq_false_iff_ne, bne_iff_ne, bne_eq_false_iff_eq, Bool.not_eq_true', Bool.not_eq_false', Bool.not_eq_true, Bool.not_eq_false] at hc) <;> first | (first | (exact absurd rfl hc) | (exfalso; omega) | (exact absurd (hc.symm.trans (by assumption : _ = false)) (by decide)) | (exact absurd (hc.symm.trans (by assumption : _ = true)) (by decide))) | skip)))
        | (first | refine JC.seq ?_ | refine JC.region ?_ | refine JC.block ?_ | refine JC.ret ?_ | refine JC.exit ?_ | refine JC.skip ?_ | refine thenK.nn ?_ | refine thenK.x ?_ | refine blockK.nn ?_ | refine blockK.hit rfl ?_ | refine JC.condF rfl ?_ | (refine JC.cond rfl (fun hc => ?_) (fun hc => ?_) <;> ((try simp only [decide_eq_true_eq, decide_eq_false_iff_not, beq_iff_eq, beq_eq_false_iff_ne, bne_iff_ne, bne_eq_false_iff_eq, Bool.not_eq_true', Bool.not_eq_false', Bool.not_eq_true, Bool.not_eq_false] at hc) <;> first | (first | (exact absurd rfl hc) | (exfalso; omega) | (exact absurd (hc.symm.trans (by assumption : _ = false)) (by decide)) | (exact absurd (hc.symm.trans (by assumption : _ = true)) (by decide))) | skip)) | refine loopK.x ?_)
        | fail
      all_goals first | (exfalso; omega) | exact retC hΓ rfl rfl rfl (Rd.tl Rd.hd) rfl (fun w1 hw => ⟨rfl, hw.below⟩)
  obtain ⟨h1, h2⟩ := (hm1 k).1 hk
  have hnx : mark (ints (k + 1)) (List.replicate 129 false) = (mark (ints k) (List.replicate 129 false)).set ((k : Int) + 1).toNat true := by
    rw [ints_succ, mark_snoc, if_pos (by omega)]
  repeat' first
    | (refine J.isJ ?_; (first | (first | (refine J.o 0 ?_; refine J.ev' hΓ ?_) | refine J.nil ?_ | refine J.kd ?_ | (refine J.o 3 ?_; first | refine J.iJ hΓ ?_ | refine J.ev' hΓ ?_) | (refine J.o 1 ?_; first | refine J.ad ?_) | (refine J.o 5 ?_; first | refine J.t1 hΓ ?_ | refine J.tT _ default hΓ (fun _ _ => ?_)) | (refine J.o 7 ?_; refine J.al hΓ (fun _ => ?_)) | (refine J.o 10 ?_; first | refine J.ev' hΓ ?_) | (refine J.o 11 ?_; first | refine J.ev' hΓ ?_)) | ((fail_if_success refine J.wt ?_); refine J.gc rfl rfl (fun hc => ?_) (fun hc => ?_) <;> ((try simp only [decide_eq_true_eq, decide_eq_false_iff_not, beq_iff_eq, beq_eq_false_iff_ne, bne_iff_ne, bne_eq_false_iff_eq, Bool.not_eq_true', Bool.not_eq_false', Bool.not_eq_true, Bool.not_eq_false] at hc) <;> first | (first | (exact absurd rfl hc) | (exfalso; omega) | (exact absurd (hc.symm.trans (by assumption : _ = false)) (by decide)) | (exact absurd (hc.symm.trans (by assumption : _ = true)) (by decide))) | skip))))
    | (first | refine JC.seq ?_ | refine JC.region ?_ | refine JC.block ?_ | refine JC.ret ?_ | refine JC.exit ?_ | refine JC.skip ?_ | refine thenK.nn ?_ | refine thenK.x ?_ | refine blockK.nn ?_ | refine blockK.hit rfl ?_ | refine JC.condF rfl ?_ | (refine JC.cond rfl (fun hc => ?_) (fun hc => ?_) <;> ((try simp only [decide_eq_true_eq, decide_eq_false_iff_not, beq_iff_eq, beq_eq_false_iff_ne, bne_iff_ne, bne_eq_false_iff_eq, Bool.not_eq_true', Bool.not_eq_false', Bool.not_eq_true, Bool.not_eq_false] at hc) <;> first | (first | (exact absurd rfl hc) | (exfalso; omega) | (exact absurd (hc.symm.trans (by assumption : _ = false)) (by decide)) | (exact absurd (hc.symm.trans (by assumption : _ = true)) (by decide))) | skip)) | refine loopK.x ?_)
    | fail
  all_goals first | (exfalso; omega) | skip
  all_goals refine loopK.nn (m - 1) (by omega) (by repeat (first | refine Ag.upd rfl ?_ | exact Ag.hv)) ⟨k + 1, _, ?_, by omega, by rw [hnx]; assumption, rfl⟩
  all_goals (show Value.int .i64 _ = _; congr 1)
def subs : Nat → List (Nat × Nat) → List (Nat × Nat)
  | 0, l => l
  | v + 1, l => subs v (l ++ l.map fun s => withS s ((v : Int) + 1))
def subsP (n : Nat) : List (Nat × Nat) := subs n [(0, 0)]
theorem subs_len : ∀ (v : Nat) (l : List (Nat × Nat)), (subs v l).length = l.length * 2 ^ v
  | 0, l => by simp [subs]
  | v + 1, l => by rw [subs, subs_len v, List.length_append, List.length_map, Nat.pow_succ]; rw [← Nat.two_mul, Nat.mul_comm 2, Nat.mul_assoc, Nat.mul_comm 2]
theorem subs_all (q : Nat × Nat → Prop) : ∀ (v : Nat) (l : List (Nat × Nat)), (∀ s, s ∈ l → q s) → (∀ s (u : Nat), q s → u < v → q (withS s ((u : Int) + 1))) → ∀ s, s ∈ subs v l → q s
  | 0, l, h, _ => h
  | v + 1, l, h, hw => by
    refine subs_all q v _ (fun s hs => ?_) (fun s u h1 h2 => hw s u h1 (by omega))
    rcases List.mem_append.1 hs with hs | hs
    · exact h s hs
    · obtain ⟨t, ht, rfl⟩ := List.mem_map.1 hs
      exact hw t v (h t ht) (by omega)
theorem subsP_ok (n : Nat) (hn : n ≤ 128) : ∀ s, s ∈ subsP n → okS s ∧ ∀ u, hasB s u = true → u ≤ n := by
  refine subs_all (fun s => okS s ∧ ∀ u, hasB s u = true → u ≤ n) n _ (fun s hs => ?_) (fun s u h1 h2 => ⟨ok_with h1.1 _, fun x hx => ?_⟩)
  · obtain rfl := List.mem_singleton.1 hs
    exact ⟨⟨by decide, by decide⟩, fun u hu => by unfold hasB at hu; simp at hu⟩
  · rcases (has_with s _ x (by omega)).1 hx with h | h
    · exact h1.2 x h
    · omega
theorem subs_step (v : Nat) (l : List (Nat × Nat)) : subs (v + 1) l = subs v (l ++ l.map fun s => withS s ((v : Int) + 1)) := rfl
attribute [local irreducible] subs
theorem eSubsets : Entr Try.prog 40 := Entr.of Try.func40 rfl rfl
theorem subsets_any (n : Nat) (hn : n ≤ 16) (w : World) : Calls Try.prog 40 #[.int .i64 (n : Int)] w (Gives (Sls encS 2 53 (subsP n)) w) := by
  have hS : ∀ l, subs 0 l = l := fun l => by unfold subs; rfl
  have hlen0 := subs_len n [(0, 0)]
  have hp16 : 2 ^ n ≤ 2 ^ 16 := Nat.pow_le_pow_right (by omega) hn
  have e16 : (2 : Nat) ^ 16 = 65536 := rfl
  refine calls_of_JC (R := []) Try.func40 Try.ntmps40 rfl rfl (Holds.nil _) ?_
  repeat' first
    | (refine J.isJ ?_; (first | (first | (refine J.o 0 ?_; refine J.ev' hΓ ?_) | refine J.nil ?_ | (refine J.o 4 ?_; first | refine J.lT default hΓ ?_) | (refine J.o 3 ?_; first | refine J.iJ hΓ ?_ | refine J.ev' hΓ ?_) | (refine J.o 1 ?_; first | refine J.ad ?_ | refine J.sb ?_) | (refine J.o 8 ?_; refine J.bd hΓ ?_) | (refine J.o 9 ?_; refine J.bl hΓ (fun _ => ?_)) | (refine J.o 10 ?_; first | refine J.ev' hΓ ?_) | (refine J.o 11 ?_; first | refine J.ev' hΓ ?_))))
    | (first | refine JC.seq ?_ | refine JC.region ?_ | refine JC.block ?_ | refine JC.ret ?_ | refine JC.exit ?_ | refine JC.skip ?_ | refine thenK.nn ?_ | refine thenK.x ?_ | refine blockK.nn ?_ | refine blockK.hit rfl ?_ | refine JC.condF rfl ?_ | (refine JC.cond rfl (fun hc => ?_) (fun hc => ?_) <;> ((try simp only [decide_eq_true_eq, decide_eq_false_iff_not, beq_iff_eq, beq_eq_false_iff_ne, bne_iff_ne, bne_eq_false_iff_eq, Bool.not_eq_true', Bool.not_eq_false', Bool.not_eq_true, Bool.not_eq_false] at hc) <;> first | (first | (exact absurd rfl hc) | (exfalso; omega) | (exact absurd (hc.symm.trans (by assumption : _ = false)) (by decide)) | (exact absurd (hc.symm.trans (by assumption : _ = true)) (by decide))) | skip)) | refine loopK.x ?_)
    | fail
  rename_i b8
  refine JC.loop (fun i => i == 3 || i == 4 || i == 5 || i == 6 || Nat.ble 10 i) (fun v g L' => ∃ (l : List (Nat × Nat)) (a3 : Option Addr) (cap3 : Nat) (hl : Heap), g 4 = .int .i64 (v : Int) ∧ g 3 = .slice a3 l.length cap3 ∧ OwT encS 2 53 a3 cap3 l hl ∧ subs v l = subsP n ∧ l.length * 2 ^ v = 2 ^ n ∧ v ≤ n ∧ (∀ s, s ∈ l → okS s) ∧ L' = [hl]) n
    ⟨[(0, 0)], some ⟨b8, 0, none⟩, 1, _, rfl, rfl, ⟨fun _ => rfl, .inr ⟨b8, [.int .u64 0, .int .u64 0], rfl, rfl, rfl, Nat.le_refl _, rfl⟩⟩, rfl, by simp, Nat.le_refl _, fun s hs => by obtain rfl := List.mem_singleton.1 hs; exact ⟨by decide, by decide⟩, rfl⟩ ?_
  rintro v g L' ⟨l, a3, cap3, hl, e4, e3, ol, hsub, hcnt, hvn, hok, rfl⟩
  refine JC.pin 4 e4 (JC.pin 3 e3 ?_)
  clear e4 e3
  have hll : l.length ≤ 65536 := by
    have h1 : 1 ≤ 2 ^ v := Nat.one_le_two_pow
    have h2 : l.length * 1 ≤ l.length * 2 ^ v := Nat.mul_le_mul_left _ h1
    omega
  cases v with
  | zero =>
    rw [hS] at hsub
    rw [← hsub]
    repeat' first
      | (refine J.isJ ?_; (first | (first | (refine J.o 0 ?_; refine J.ev' hΓ ?_) | refine J.nil ?_ | (refine J.o 4 ?_; first | refine J.lT default hΓ ?_) | (refine J.o 3 ?_; first | refine J.iJ hΓ ?_ | refine J.ev' hΓ ?_) | (refine J.o 1 ?_; first | refine J.ad ?_ | refine J.sb ?_) | (refine J.o 8 ?_; refine J.bd hΓ ?_) | (refine J.o 9 ?_; refine J.bl hΓ (fun _ => ?_)) | (refine J.o 10 ?_; first | refine J.ev' hΓ ?_) | (refine J.o 11 ?_; first | refine J.ev' hΓ ?_))))
      | (first | refine JC.seq ?_ | refine JC.region ?_ | refine JC.block ?_ | refine JC.ret ?_ | refine JC.exit ?_ | refine JC.skip ?_ | refine thenK.nn ?_ | refine thenK.x ?_ | refine blockK.nn ?_ | refine blockK.hit rfl ?_ | refine JC.condF rfl ?_ | (refine JC.cond rfl (fun hc => ?_) (fun hc => ?_) <;> ((try simp only [decide_eq_true_eq, decide_eq_false_iff_not, beq_iff_eq, beq_eq_false_iff_ne, bne_iff_ne, bne_eq_false_iff_eq, Bool.not_eq_true', Bool.not_eq_false', Bool.not_eq_true, Bool.not_eq_false] at hc) <;> first | (first | (exact absurd rfl hc) | (exfalso; omega) | (exact absurd (hc.symm.trans (by assumption : _ = false)) (by decide)) | (exact absurd (hc.symm.trans (by assumption : _ = true)) (by decide))) | skip)) | refine loopK.x ?_)
      | fail
    all_goals first | (exfalso; omega) | exact ret1f rfl rfl rfl (fun w1 hw => Gives.of hw ⟨_, _, rfl, ol⟩)
  | succ v =>
    rw [subs_step] at hsub
    have hlpos : 0 < l.length := by
      rcases Nat.eq_zero_or_pos l.length with h | h
      · rw [h, Nat.zero_mul] at hcnt
        have := Nat.two_pow_pos n
        omega
      · exact h
    repeat' first
      | (refine J.isJ ?_; first | (first | (refine J.o 0 ?_; refine J.ev' hΓ ?_) | refine J.nil ?_ | (refine J.o 4 ?_; first | refine J.lT default hΓ ?_) | (refine J.o 3 ?_; first | refine J.iJ hΓ ?_ | refine J.ev' hΓ ?_) | (refine J.o 1 ?_; first | refine J.ad ?_ | refine J.sb ?_) | (refine J.o 8 ?_; refine J.bd hΓ ?_) | (refine J.o 9 ?_; refine J.bl hΓ (fun _ => ?_)) | (refine J.o 10 ?_; first | refine J.ev' hΓ ?_) | (refine J.o 11 ?_; first | refine J.ev' hΓ ?_)) | ((refine J.nilF (J.appS (enc := encS) (us := l) hΓ rfl rfl rfl rfl rfl rfl rfl (OwT.nil (fun _ => rfl)) rfl ol.sl rfl RdH.hd.tl (fun _ => rfl) hlpos (by omega) (by omega) (fun a5 cap5 h5 o5 => ?_)))))
      | (first | refine JC.seq ?_ | refine JC.region ?_ | refine JC.block ?_ | refine JC.ret ?_ | refine JC.exit ?_ | refine JC.skip ?_ | refine thenK.nn ?_ | refine thenK.x ?_ | refine blockK.nn ?_ | refine blockK.hit rfl ?_ | refine JC.condF rfl ?_ | (refine JC.cond rfl (fun hc => ?_) (fun hc => ?_) <;> ((try simp only [decide_eq_true_eq, decide_eq_false_iff_not, beq_iff_eq, beq_eq_false_iff_ne, bne_iff_ne, bne_eq_false_iff_eq, Bool.not_eq_true', Bool.not_eq_false', Bool.not_eq_true, Bool.not_eq_false] at hc) <;> first | (first | (exact absurd rfl hc) | (exfalso; omega) | (exact absurd (hc.symm.trans (by assumption : _ = false)) (by decide)) | (exact absurd (hc.symm.trans (by assumption : _ = true)) (by decide))) | skip)) | refine loopK.x ?_)
      | fail
    all_goals first | (exfalso; omega) | skip
    refine JC.loop (fun i => i == 5 || i == 6 || Nat.ble 17 i) (fun m g L' => ∃ (i : Nat) (a6 : Option Addr) (cap6 : Nat) (h6 : Heap), g 6 = .int .i64 (i : Int) ∧ g 5 = .slice a6 (l.length + i) cap6 ∧ i + m = l.length ∧ OwT encS 2 53 a6 cap6 (l ++ (l.take i).map fun s => withS s ((v : Int) + 1)) h6 ∧ L' = [h6, hl]) l.length
      ⟨0, _, _, _, rfl, by show Value.slice _ _ _ = _; congr 1; omega, by omega, by rw [List.take_zero, List.map_nil, List.append_nil]; exact o5, rfl⟩ ?_
    rintro m g2 L' ⟨i, a6, cap6, h6, e6, e5, him, o6, rfl⟩
    refine JC.pin 6 e6 (JC.pin 5 e5 ?_)
    clear e6 e5 o5
    rcases Nat.lt_or_ge i l.length with hi | hi
    case inl =>
      have hmem : l.getD i default ∈ l := by
        rw [List.getD_eq_getElem?_getD, List.getElem?_eq_getElem hi]
        exact List.getElem_mem hi
      have hlen6 : (l ++ (l.take i).map fun s => withS s ((v : Int) + 1)).length = l.length + i := by rw [List.length_append, List.length_map, List.length_take]; omega
      have cW := fun w => with3_any (l.getD i default) (hok _ hmem) ((v : Int) + 1) (by omega) w
      have ev1 : ((v + 1 : Nat) : Int) = (v : Int) + 1 := by omega
      rw [← ev1] at cW
      have hnx : l ++ (l.take (i + 1)).map (fun s => withS s ((v : Int) + 1)) = l ++ (l.take i).map (fun s => withS s ((v : Int) + 1)) ++ [withS (l.getD i default) ((v + 1 : Nat) : Int)] := by
        rw [← take_one l i hi, List.map_append, ev1]; simp
      repeat' first
        | (refine J.isJ ?_; first | (first | (refine J.o 0 ?_; refine J.ev' hΓ ?_) | refine J.nil ?_ | (refine J.o 4 ?_; first | refine J.lT default hΓ ?_) | (refine J.o 3 ?_; first | refine J.iJ hΓ ?_ | refine J.ev' hΓ ?_) | (refine J.o 1 ?_; first | refine J.ad ?_ | refine J.sb ?_) | (refine J.o 8 ?_; refine J.bd hΓ ?_) | (refine J.o 9 ?_; refine J.bl hΓ (fun _ => ?_)) | (refine J.o 10 ?_; first | refine J.ev' hΓ ?_) | (refine J.o 11 ?_; first | refine J.ev' hΓ ?_)) | (first | (refine J.fc 89 ?_; refine J.call0 eWith3 rfl rfl (fun w hw => cW w) ?_) | (refine J.app1 (enc := encS) [withS (l.getD i default) ((v + 1 : Nat) : Int)] hΓ rfl rfl rfl rfl rfl rfl rfl o6 hlen6 rfl rfl rfl (by omega) (by omega) (by omega) (fun a7 cap7 h7 o7 => ?_))))
        | (first | refine JC.seq ?_ | refine JC.region ?_ | refine JC.block ?_ | refine JC.ret ?_ | refine JC.exit ?_ | refine JC.skip ?_ | refine thenK.nn ?_ | refine thenK.x ?_ | refine blockK.nn ?_ | refine blockK.hit rfl ?_ | refine JC.condF rfl ?_ | (refine JC.cond rfl (fun hc => ?_) (fun hc => ?_) <;> ((try simp only [decide_eq_true_eq, decide_eq_false_iff_not, beq_iff_eq, beq_eq_false_iff_ne, bne_iff_ne, bne_eq_false_iff_eq, Bool.not_eq_true', Bool.not_eq_false', Bool.not_eq_true, Bool.not_eq_false] at hc) <;> first | (first | (exact absurd rfl hc) | (exfalso; omega) | (exact absurd (hc.symm.trans (by assumption : _ = false)) (by decide)) | (exact absurd (hc.symm.trans (by assumption : _ = true)) (by decide))) | skip)) | refine loopK.x ?_)
        | fail
      all_goals first | (exfalso; omega) | skip
      all_goals refine loopK.nn (m - 1) (by omega) (by repeat (first | refine Ag.upd rfl ?_ | exact Ag.hv)) ⟨i + 1, _, _, _, ?_, ?_, by omega, by rw [hnx]; exact o7, rfl⟩
      · show Value.int .i64 _ = _; congr 1
      · rfl
    have hi' : i = l.length := by omega
    subst hi'
    rw [List.take_length] at o6
    have hl2 : (l ++ l.map fun s => withS s ((v : Int) + 1)).length = l.length + l.length := by rw [List.length_append, List.length_map]
    repeat' first
      | (refine J.isJ ?_; (first | (first | (refine J.o 0 ?_; refine J.ev' hΓ ?_) | refine J.nil ?_ | (refine J.o 4 ?_; first | refine J.lT default hΓ ?_) | (refine J.o 3 ?_; first | refine J.iJ hΓ ?_ | refine J.ev' hΓ ?_) | (refine J.o 1 ?_; first | refine J.ad ?_ | refine J.sb ?_) | (refine J.o 8 ?_; refine J.bd hΓ ?_) | (refine J.o 9 ?_; refine J.bl hΓ (fun _ => ?_)) | (refine J.o 10 ?_; first | refine J.ev' hΓ ?_) | (refine J.o 11 ?_; first | refine J.ev' hΓ ?_))))
      | (first | refine JC.seq ?_ | refine JC.region ?_ | refine JC.block ?_ | refine JC.ret ?_ | refine JC.exit ?_ | refine JC.skip ?_ | refine thenK.nn ?_ | refine thenK.x ?_ | refine blockK.nn ?_ | refine blockK.hit rfl ?_ | refine JC.condF rfl ?_ | (refine JC.cond rfl (fun hc => ?_) (fun hc => ?_) <;> ((try simp only [decide_eq_true_eq, decide_eq_false_iff_not, beq_iff_eq, beq_eq_false_iff_ne, bne_iff_ne, bne_eq_false_iff_eq, Bool.not_eq_true', Bool.not_eq_false', Bool.not_eq_true, Bool.not_eq_false] at hc) <;> first | (first | (exact absurd rfl hc) | (exfalso; omega) | (exact absurd (hc.symm.trans (by assumption : _ = false)) (by decide)) | (exact absurd (hc.symm.trans (by assumption : _ = true)) (by decide))) | skip)) | refine loopK.x ?_)
      | fail
    all_goals first | (exfalso; omega) | skip
    all_goals refine loopK.np v [hl] [h6] (by omega) (by repeat (first | refine Ag.upd rfl ?_ | exact Ag.hv | refine Ag.hv2 (fun i hi => by simp at hi ⊢; omega) ?_)) (List.Perm.swap _ _ _) ⟨_, _, _, _, ?_, ?_, o6, hsub, ?_, by omega, ?_, rfl⟩
    · show Value.int .i64 _ = _; congr 1; omega
    · rw [hl2]; rfl
    · rw [hl2, ← hcnt, Nat.pow_succ, ← Nat.two_mul]; rw [Nat.mul_comm 2, Nat.mul_assoc, Nat.mul_comm 2]
    · intro s hs
      rcases List.mem_append.1 hs with hs | hs
      · exact hok s hs
      · obtain ⟨t, ht, rfl⟩ := List.mem_map.1 hs
        exact ok_with (hok t ht) _
end Go.Proofs.Ytbhgahjeocnfcaa
namespace Go.Proofs.Ytbhgahjeocnfcaa
open Go Go.Cx Go.RowKit
set_option linter.unusedVariables false
set_option linter.unusedSimpArgs false
set_option maxHeartbeats 4000000
attribute [local irreducible] J JC thenK blockK loopK drawK retK QW Qt pel List.set Calls
open Go.Maps Go.Lib
set_option maxRecDepth 8000
attribute [local irreducible] JE Br eK0 eK3 brK pc
theorem ints_len : ∀ n, (ints n).length = n
  | 0 => by unfold ints; rfl
  | n + 1 => by rw [ints_succ, List.length_append, ints_len n]; rfl
def smallP (n : Int) (N : Int) (T : List (List Int)) : Prop := 0 ≤ N ∧ N ≤ n ∧ T.length ≤ 30 ∧ (∀ c ∈ T, c.length ≤ 10) ∧ thE N T = 0
instance (n N : Int) (T : List (List Int)) : Decidable (smallP n N T) := by unfold smallP; exact inferInstance
end Go.Proofs.Ytbhgahjeocnfcaa
namespace Go.Proofs.Ytbhgahjeocnfcaa
open Go Go.Cx Go.RowKit
set_option linter.unusedVariables false
set_option linter.unusedSimpArgs false
set_option maxHeartbeats 4000000
attribute [local irreducible] J JC thenK blockK loopK drawK retK QW Qt pel List.set Calls
open Go.Maps Go.Lib
set_option maxRecDepth 8000
attribute [local irreducible] JE Br eK0 eK3 brK pc
abbrev BF := (Nat → Bool) → Bool
section
variable {P : Program} {n : Nat} {w0 : World} {R : Heap} {l0 : List Oper} {K : Exit → Fr → List Heap → Prop} {f : Fr} {L : List Heap} {rest : List (Nat × Oper)} {κ : Nat}
variable {d : Nat} {ty : TypeId} {pos : String} {aft : Array Edge} {g : Option (Nat × Bool)} {t u : TypeId} {x y : Operand}
theorem J.neF {Γ : List (Nat × TI)} {a b : Nat} (hΓ : Fits P Γ) (h : a = b) (k : J P n w0 R l0 K rest (upd f d (.bool false)) L) (hg : wantB n f l0 ⟨some d, .binOp .neq t x y u, ty, pos, aft, g⟩ = true := by exact rfl) (hx : Cx.ev n f x = .int .i64 (a : Int) := by exact rfl) (hy : Cx.ev n f y = .int .i64 (b : Int) := by exact rfl) (hv : pureEv Γ (Cx.ev n f) (.binOp .neq t x y u) = some (.bool ((a : Int) != (b : Int))) := by exact rfl) : J P n w0 R l0 K ((κ, ⟨some d, .binOp .neq t x y u, ty, pos, aft, g⟩) :: rest) f L := by
  subst h
  have e : ((a : Int) != (a : Int)) = false := by simp
  rw [e] at hv
  exact J.ev hΓ hg hv k
end
def cntF (n : Nat) (g : BF) : Nat := ((List.range (2 ^ n)).map fun r => g (asg n r)).count true
theorem count_map_not (l : List (Nat → Bool)) (g : BF) : (l.map g).count true + (l.map fun a => !g a).count true = l.length := by
  induction l with
  | nil => rfl
  | cons x l ih =>
    simp only [List.map_cons, List.count_cons, List.length_cons]
    cases g x <;> simp <;> omega
theorem cntF_map (n : Nat) (g : BF) : cntF n g = (((List.range (2 ^ n)).map (asg n)).map g).count true := by unfold cntF; rw [List.map_map]; rfl
theorem cntF_not (n : Nat) (g : BF) : cntF n g + cntF n (fun α => !g α) = 2 ^ n := by
  rw [cntF_map, cntF_map, count_map_not, List.length_map, List.length_range]
theorem cntF_le (n : Nat) (g : BF) : cntF n g ≤ 2 ^ n := by have := cntF_not n g; omega
end Go.Proofs.Ytbhgahjeocnfcaa
namespace Go.Proofs.Ytbhgahjeocnfcaa
open Go Go.Cx Go.RowKit
set_option linter.unusedVariables false
set_option linter.unusedSimpArgs false
set_option maxHeartbeats 4000000
attribute [local irreducible] J JC thenK blockK loopK drawK retK QW Qt pel List.set Calls
open Go.Maps Go.Lib
set_option maxRecDepth 8000
attribute [local irreducible] JE Br eK0 eK3 brK pc
theorem natI_len (l : List Nat) : (natI l).length = l.length := List.length_map _
theorem natI_get (l : List Nat) {k : Nat} (h : k < l.length) : (natI l).getD k default = ((l.getD k 0 : Nat) : Int) := by
  unfold natI
  rw [List.getD_eq_getElem?_getD, List.getD_eq_getElem?_getD, List.getElem?_map, List.getElem?_eq_getElem h]; rfl
end Go.Proofs.Ytbhgahjeocnfcaa
namespace Go.Proofs.Ytbhgahjeocnfcaa
open Go Go.Cx Go.RowKit
set_option linter.unusedVariables false
set_option linter.unusedSimpArgs false
set_option maxHeartbeats 4000000
attribute [local irreducible] J JC thenK blockK loopK drawK retK QW Qt pel List.set Calls
open Go.Maps Go.Lib
set_option maxRecDepth 8000
attribute [local irreducible] JE Br eK0 eK3 brK pc
def fillL (T : Nat → Bool) (N q : Nat) : List Bool := (List.range q).map T ++ List.replicate (N - q) false
theorem fill_0 (T : Nat → Bool) (N : Nat) : fillL T N 0 = List.replicate N false := by simp [fillL]
theorem fill_n (T : Nat → Bool) (N : Nat) : fillL T N N = (List.range N).map T := by simp [fillL]
theorem fill_len (T : Nat → Bool) {N q : Nat} (h : q ≤ N) : (fillL T N q).length = N := by simp [fillL]; omega
theorem fill_s (T : Nat → Bool) {N q : Nat} (h : q < N) : (fillL T N q).set q (T q) = fillL T N (q + 1) := by
  unfold fillL
  have e : N - q = (N - (q + 1)) + 1 := by omega
  rw [e, List.replicate_succ, List.set_append_right _ _ (by simp), List.range_succ, List.map_append]
  simp
def tabF (n : Nat) (g : BF) : List Bool := (List.range (2 ^ n)).map fun r => g (asg n r)
theorem tabF_len (n : Nat) (g : BF) : (tabF n g).length = 2 ^ n := by simp [tabF]
theorem tabF_get (n : Nat) (g : BF) {r : Nat} (h : r < 2 ^ n) : (tabF n g).getD r default = g (asg n r) := by
  unfold tabF
  rw [List.getD_eq_getElem?_getD, List.getElem?_map, List.getElem?_range h]; rfl
theorem eConst : Entr Try.prog 86 := Entr.of Try.func86 rfl rfl
theorem eBit : Entr Try.prog 131 := Entr.of Try.func131 rfl rfl
theorem bit_any (a : Option Addr) (c n k : Nat) (hk : k < n) (hn : n ≤ 8) (w : World) : Calls Try.prog 131 #[.slice a n c, .int .i64 (k : Int)] w fun e w' => e = .returned (.int .i64 ((2 ^ (n - 1 - k) : Nat) : Int)) ∧ Below w.heap.size w w' := by
  have h2 : 2 ^ (n - 1 - k) ≤ 2 ^ 8 := Nat.pow_le_pow_right (by omega) (by omega)
  refine calls_of_JC (R := []) Try.func131 Try.ntmps131 rfl rfl (Holds.nil _) ?_
  repeat' first
    | (refine J.isJ ?_; first | ((refine J.o 1 ?_; first | refine J.gsub (b := 1) ?_ | refine J.gsub ?_ | refine J.gshl (a := 1) (j := n - 1 - k) ?_ (hj := (by show n - 1 - k ≤ 64; omega)) (hw := wI64 (by omega)))) | (first | (refine J.o 0 ?_; refine J.ev' hΓ ?_) | refine J.nil ?_ | (refine J.o 3 ?_; first | refine J.ev' hΓ ?_) | (refine J.o 10 ?_; refine J.ev' hΓ ?_) | (refine J.o 11 ?_; refine J.ev' hΓ ?_)))
    | (first | refine JC.seq ?_ | refine JC.region ?_ | refine JC.ret ?_ | refine thenK.nn ?_)
    | (fail)
    | fail
  all_goals first | (exfalso; omega) | skip
  all_goals (refine ret1f rfl rfl rfl (fun w1 hw => ⟨?_, hw.below⟩))
  rw [Nat.one_mul]
theorem const_any (n : Nat) (hn : n ≤ 8) (v : Bool) (w : World) : Calls Try.prog 86 #[.int .i64 (n : Int), .bool v] w (Gives (Sls encBo 1 4 (List.replicate (2 ^ n) v)) w) := by
  have h2 : 2 ^ n ≤ 2 ^ 8 := Nat.pow_le_pow_right (by omega) (by omega)
  refine calls_of_JC (R := []) Try.func86 Try.ntmps86 rfl rfl (Holds.nil _) ?_
  repeat' first
    | (refine J.isJ ?_; first | (first | (refine J.o 1 ?_; refine J.gshl (a := 1) (j := n) ?_ (hj := (by show n ≤ 64; omega)) (hw := wI64 (by omega))) | (refine J.o 9 ?_; refine J.make (enc := encBo) (m := 1 * 2 ^ n) false hΓ rfl rfl rfl rfl rfl rfl (fun _ => rfl) (by omega) (by omega) (fun bp hp0 op0 => ?_))) | (first | (refine J.o 0 ?_; refine J.ev' hΓ ?_) | refine J.nil ?_ | (refine J.o 3 ?_; first | refine J.iJ hΓ ?_ | refine J.ev' hΓ ?_) | (refine J.o 1 ?_; first | refine J.ad ?_) | (refine J.o 5 ?_; first | refine J.tT _ default hΓ (fun _ _ => ?_)) | (refine J.o 10 ?_; refine J.ev' hΓ ?_) | (refine J.o 11 ?_; refine J.ev' hΓ ?_)))
    | (first | refine JC.seq ?_ | refine JC.region ?_ | refine JC.block ?_ | refine JC.ret ?_ | refine JC.exit ?_ | refine JC.skip ?_ | refine thenK.nn ?_ | refine thenK.x ?_ | refine blockK.nn ?_ | refine blockK.hit rfl ?_ | (refine JC.cond rfl (fun hc => ?_) (fun hc => ?_) <;> ((try simp only [decide_eq_true_eq, decide_eq_false_iff_not, beq_iff_eq, beq_eq_false_iff_ne, bne_iff_ne, bne_eq_false_iff_eq, Bool.not_eq_true', Bool.not_eq_false', Bool.not_eq_true, Bool.not_eq_false] at hc) <;> first | (first | (exact absurd rfl hc) | (exfalso; omega) | (exact absurd (hc.symm.trans (by assumption : _ = false)) (by decide)) | (exact absurd (hc.symm.trans (by assumption : _ = true)) (by decide))) | skip)) | refine loopK.x ?_)
    | (fail)
    | fail
  all_goals first | (exfalso; omega) | skip
  have hl : (List.replicate (1 * 2 ^ n) false).length = 1 * 2 ^ n := by simp
  refine JC.loop (fun i => i == 6 || Nat.ble 10 i) (fun m g L' => ∃ q h', g 6 = .int .i64 ((q : Nat) : Int) ∧ q + m = 1 * 2 ^ n ∧ OwT encBo 1 4 (some ⟨bp, 0, none⟩) (1 * 2 ^ n) (fillL (fun _ => v) (1 * 2 ^ n) q) h' ∧ L' = [h']) (1 * 2 ^ n) ⟨0, _, rfl, by omega, by rw [fill_0]; exact op0, rfl⟩ ?_
  rintro m g L' ⟨q, h', e6, hq, o4, rfl⟩
  refine JC.pin 6 e6 ?_
  have hfl := fill_len (fun _ => v) (N := 1 * 2 ^ n) (q := q) (by omega)
  rcases Nat.lt_or_ge q (1 * 2 ^ n) with hlt | hge
  ·
    repeat' first
      | (refine J.isJ ?_; first | ((refine J.o 5 ?_; refine J.tT (enc := encBo) v default hΓ (fun h5 o5 => ?_) (ho := o4))) | (first | (refine J.o 0 ?_; refine J.ev' hΓ ?_) | refine J.nil ?_ | (refine J.o 3 ?_; first | refine J.iJ hΓ ?_ | refine J.ev' hΓ ?_) | (refine J.o 1 ?_; first | refine J.ad ?_) | (refine J.o 5 ?_; first | refine J.tT _ default hΓ (fun _ _ => ?_)) | (refine J.o 10 ?_; refine J.ev' hΓ ?_) | (refine J.o 11 ?_; refine J.ev' hΓ ?_)))
      | (first | refine JC.seq ?_ | refine JC.region ?_ | refine JC.block ?_ | refine JC.ret ?_ | refine JC.exit ?_ | refine JC.skip ?_ | refine thenK.nn ?_ | refine thenK.x ?_ | refine blockK.nn ?_ | refine blockK.hit rfl ?_ | (refine JC.cond rfl (fun hc => ?_) (fun hc => ?_) <;> ((try simp only [decide_eq_true_eq, decide_eq_false_iff_not, beq_iff_eq, beq_eq_false_iff_ne, bne_iff_ne, bne_eq_false_iff_eq, Bool.not_eq_true', Bool.not_eq_false', Bool.not_eq_true, Bool.not_eq_false] at hc) <;> first | (first | (exact absurd rfl hc) | (exfalso; omega) | (exact absurd (hc.symm.trans (by assumption : _ = false)) (by decide)) | (exact absurd (hc.symm.trans (by assumption : _ = true)) (by decide))) | skip)) | refine loopK.x ?_)
      | (fail)
      | fail
    all_goals first | (exfalso; omega) | skip
    rw [fill_s (fun _ => v) hlt] at o5
    refine loopK.nn (m - 1) (by omega) (by repeat (first | refine Ag.upd rfl ?_ | exact Ag.hv)) ⟨q + 1, h5, ?_, by omega, o5, rfl⟩
    show Value.int .i64 _ = _; congr 1
  ·
    repeat' first
      | (refine J.isJ ?_; first | (fail) | (first | (refine J.o 0 ?_; refine J.ev' hΓ ?_) | refine J.nil ?_ | (refine J.o 3 ?_; first | refine J.iJ hΓ ?_ | refine J.ev' hΓ ?_) | (refine J.o 1 ?_; first | refine J.ad ?_) | (refine J.o 5 ?_; first | refine J.tT _ default hΓ (fun _ _ => ?_)) | (refine J.o 10 ?_; refine J.ev' hΓ ?_) | (refine J.o 11 ?_; refine J.ev' hΓ ?_)))
      | (first | refine JC.seq ?_ | refine JC.region ?_ | refine JC.block ?_ | refine JC.ret ?_ | refine JC.exit ?_ | refine JC.skip ?_ | refine thenK.nn ?_ | refine thenK.x ?_ | refine blockK.nn ?_ | refine blockK.hit rfl ?_ | (refine JC.cond rfl (fun hc => ?_) (fun hc => ?_) <;> ((try simp only [decide_eq_true_eq, decide_eq_false_iff_not, beq_iff_eq, beq_eq_false_iff_ne, bne_iff_ne, bne_eq_false_iff_eq, Bool.not_eq_true', Bool.not_eq_false', Bool.not_eq_true, Bool.not_eq_false] at hc) <;> first | (first | (exact absurd rfl hc) | (exfalso; omega) | (exact absurd (hc.symm.trans (by assumption : _ = false)) (by decide)) | (exact absurd (hc.symm.trans (by assumption : _ = true)) (by decide))) | skip)) | refine loopK.x ?_)
      | (fail)
      | fail
    all_goals first | (exfalso; omega) | skip
    obtain rfl : q = 1 * 2 ^ n := by omega
    rw [fill_n] at o4
    have e : (List.range (1 * 2 ^ n)).map (fun _ => v) = List.replicate (2 ^ n) v := by rw [Nat.one_mul, List.map_const', List.length_range]
    rw [e] at o4
    exact ret1f rfl rfl rfl (fun w1 hw => Gives.of hw ⟨_, _, by simp, o4⟩)
end Go.Proofs.Ytbhgahjeocnfcaa
namespace Go.Proofs.Ytbhgahjeocnfcaa
open Go Go.Cx Go.RowKit
set_option linter.unusedVariables false
set_option linter.unusedSimpArgs false
set_option maxHeartbeats 4000000
attribute [local irreducible] J JC thenK blockK loopK drawK retK QW Qt pel List.set Calls
open Go.Maps Go.Lib
set_option maxRecDepth 8000
attribute [local irreducible] JE Br eK0 eK3 brK pc
theorem and_pw (q m : Nat) : q &&& 2 ^ m = (q / 2 ^ m % 2) * 2 ^ m := by
  apply Nat.eq_of_testBit_eq
  intro i
  rw [Nat.testBit_and, Nat.testBit_two_pow, Nat.mul_comm, show 2 ^ m * (q / 2 ^ m % 2) = 2 ^ m * (q / 2 ^ m % 2) + 0 from rfl, Nat.testBit_two_pow_mul_add _ (Nat.two_pow_pos m)]
  rcases Nat.lt_trichotomy i m with h | h | h
  · simp [h]; omega
  · subst h; simp [Nat.testBit_eq_decide_div_mod_eq]
  · rw [if_neg (by omega)]
    have : m ≠ i := by omega
    simp [this]
    have h2 : q / 2 ^ m % 2 < 2 := Nat.mod_lt _ (by decide)
    apply Nat.testBit_lt_two_pow
    exact Nat.lt_of_lt_of_le h2 (by rw [show 2 = 2 ^ 1 from rfl]; exact Nat.pow_le_pow_right (by decide) (by omega))
def gi (m : Nat) (b : Bool) (q : Nat) : Nat := q - (q &&& 2 ^ m) + (if b then 2 ^ m else 0)
theorem q_split (q m : Nat) : q = 2 ^ m * (2 * (q / 2 ^ (m + 1)) + q / 2 ^ m % 2) + q % 2 ^ m := by
  have h1 := Nat.div_add_mod q (2 ^ m)
  have h2 := Nat.div_add_mod (q / 2 ^ m) 2
  have h3 : q / 2 ^ m / 2 = q / 2 ^ (m + 1) := by rw [Nat.div_div_eq_div_mul, Nat.pow_succ]
  rw [h3] at h2
  rw [h2, h1]
theorem gi_eq (m : Nat) (b : Bool) (q : Nat) : gi m b q = 2 ^ m * (2 * (q / 2 ^ (m + 1)) + (if b then 1 else 0)) + q % 2 ^ m := by
  have h := q_split q m
  unfold gi
  rw [and_pw]
  have e : q - q / 2 ^ m % 2 * 2 ^ m = 2 ^ m * (2 * (q / 2 ^ (m + 1))) + q % 2 ^ m := by
    rw [Nat.mul_add] at h
    have : q / 2 ^ m % 2 * 2 ^ m = 2 ^ m * (q / 2 ^ m % 2) := Nat.mul_comm _ _
    omega
  rw [e]
  cases b
  · simp
  · simp only [if_true]; rw [Nat.mul_add]; omega
theorem gi_bit (m : Nat) (b : Bool) (q j : Nat) : (gi m b q).testBit j = if j = m then b else q.testBit j := by
  have hlo : q % 2 ^ m < 2 ^ m := Nat.mod_lt _ (Nat.two_pow_pos m)
  rw [gi_eq, Nat.testBit_two_pow_mul_add _ hlo]
  have hq : q.testBit j = (2 ^ m * (2 * (q / 2 ^ (m + 1)) + q / 2 ^ m % 2) + q % 2 ^ m).testBit j := by rw [← q_split]
  rw [hq, Nat.testBit_two_pow_mul_add _ hlo]
  by_cases h : j < m
  · rw [if_pos h, if_pos h, if_neg (by omega)]
  · rw [if_neg h, if_neg h]
    by_cases he : j = m
    · subst he
      rw [if_pos rfl, Nat.sub_self, Nat.testBit_zero]
      cases b <;> simp <;> omega
    · rw [if_neg he]
      obtain ⟨i, hi⟩ : ∃ i, j - m = i + 1 := ⟨j - m - 1, by omega⟩
      rw [hi, Nat.testBit_succ, Nat.testBit_succ]
      congr 1
      cases b <;> simp <;> omega
theorem gi_lt {n m : Nat} (hm : m < n) (b : Bool) {q : Nat} (hq : q < 2 ^ n) : gi m b q < 2 ^ n := by
  apply Nat.lt_pow_two_of_testBit
  intro i hi
  rw [gi_bit, if_neg (by omega)]
  exact Nat.testBit_lt_two_pow (Nat.lt_of_lt_of_le hq (Nat.pow_le_pow_right (by decide) hi))
end Go.Proofs.Ytbhgahjeocnfcaa
namespace Go.Proofs.Ytbhgahjeocnfcaa
open Go Go.Cx Go.RowKit
set_option linter.unusedVariables false
set_option linter.unusedSimpArgs false
set_option maxHeartbeats 4000000
attribute [local irreducible] J JC thenK blockK loopK drawK retK QW Qt pel List.set Calls
open Go.Maps Go.Lib
set_option maxRecDepth 8000
attribute [local irreducible] JE Br eK0 eK3 brK pc
theorem and_bit (q m : Nat) : decide (q &&& 2 ^ m = 0) = !(q.testBit m) := by
  rw [and_pw, Nat.testBit_eq_decide_div_mod_eq]
  have h2 : q / 2 ^ m % 2 < 2 := Nat.mod_lt _ (by decide)
  have hp := Nat.two_pow_pos m
  rcases (show q / 2 ^ m % 2 = 0 ∨ q / 2 ^ m % 2 = 1 by omega) with h | h
  · rw [h]; simp
  · rw [h]; simp
end Go.Proofs.Ytbhgahjeocnfcaa
namespace Go.Proofs.Ytbhgahjeocnfcaa
open Go Go.Cx Go.RowKit
set_option linter.unusedVariables false
set_option linter.unusedSimpArgs false
set_option maxHeartbeats 4000000
attribute [local irreducible] J JC thenK blockK loopK drawK retK QW Qt pel List.set Calls
open Go.Maps Go.Lib
set_option maxRecDepth 8000
attribute [local irreducible] JE Br eK0 eK3 brK pc
structure TV where
  a : Option Addr
  c : Nat
  g : BF
instance : Inhabited TV := ⟨⟨none, 0, fun _ => false⟩⟩
theorem own_le {α : Type} {enc : α → List Value} {size : Nat} {e : TypeId} {a : Option Addr} {cap : Nat} {ts : List α} {h : Heap} (o : OwT enc size e a cap ts h) : ts.length ≤ cap := by
  rcases o.row with ⟨_, rfl, rfl, _⟩ | ⟨_, _, _, _, _, h, _⟩
  · exact Nat.le_refl _
  · exact h
end Go.Proofs.Ytbhgahjeocnfcaa
namespace Go.Proofs.Ytbhgahjeocnfcaa
open Go Go.Cx Go.RowKit
set_option linter.unusedVariables false
set_option linter.unusedSimpArgs false
set_option maxHeartbeats 4000000
attribute [local irreducible] J JC thenK blockK loopK drawK retK QW Qt pel List.set Calls
open Go.Maps Go.Lib
set_option maxRecDepth 8000
attribute [local irreducible] JE Br eK0 eK3 brK pc
def idxQ (b : Nat → Bool) (n : Nat) : Nat → Nat
  | 0 => 0
  | k + 1 => idxQ b n k + (if b k then 2 ^ (n - 1 - k) else 0)
theorem idxQ_ok (b : Nat → Bool) (n : Nat) : ∀ k, k ≤ n → idxQ b n k < 2 ^ n ∧ ∀ j, j < n → (idxQ b n k).testBit (n - 1 - j) = (decide (j < k) && b j)
  | 0, _ => ⟨Nat.two_pow_pos n, fun j hj => by simp [idxQ]⟩
  | k + 1, hk => by
    obtain ⟨h1, h2⟩ := idxQ_ok b n k (by omega)
    have hz : idxQ b n k &&& 2 ^ (n - 1 - k) = 0 := by
      have := and_bit (idxQ b n k) (n - 1 - k)
      rw [h2 k (by omega)] at this
      simpa using this
    have e : idxQ b n (k + 1) = gi (n - 1 - k) (b k) (idxQ b n k) := by unfold gi; rw [hz]; rfl
    rw [e]
    refine ⟨gi_lt (by omega) _ h1, fun j hj => ?_⟩
    rw [gi_bit]
    by_cases hjk : j = k
    · subst hjk; rw [if_pos rfl]; simp
    · rw [if_neg (by omega), h2 j hj]
      have : decide (j < k) = decide (j < k + 1) := decide_eq_decide.2 (by omega)
      rw [this]
theorem eIndex : Entr Try.prog 87 := Entr.of Try.func87 rfl rfl
theorem index_any (l : List Int) (a : Option Addr) (c : Nat) (h : Heap) (hs : SlT encI 1 a l h) (h8 : l.length ≤ 8) (x : Nat × Nat) (hx : okS x) (w : World) (hw : Holds h w) :
    Calls Try.prog 87 #[.slice a l.length c, sv x] w fun e w' => e = .returned (.int .i64 (idxQ (asgS l x) l.length l.length : Int)) ∧ Below w.heap.size w w' := by
  have h2n := pow8 h8
  have q0 : ∀ L, RdH h L h := fun L => RdH.old fun _ hh => hh
  refine calls_of_JC (R := h) Try.func87 Try.ntmps87 rfl rfl (hw) ?_
  repeat' first
    | (refine J.isJ ?_; first | ((refine J.o 6 ?_; refine J.bx (fun b3 => ?_))) | (first | (refine J.o 0 ?_; refine J.ev' hΓ ?_) | refine J.nil ?_ | (refine J.o 4 ?_; first | refine J.lT default hΓ ?_ | refine J.lR hΓ ?_) | (refine J.o 3 ?_; first | refine J.iJ hΓ ?_ | refine J.ev' hΓ ?_) | (refine J.o 1 ?_; first | refine J.ad ?_) | (refine J.o 6 ?_; refine J.bx (fun _ => ?_)) | (refine J.o 10 ?_; refine J.ev' hΓ ?_) | (refine J.o 11 ?_; refine J.ev' hΓ ?_)))
    | (first | refine JC.seq ?_ | refine JC.region ?_ | refine JC.block ?_ | refine JC.ret ?_ | refine JC.exit ?_ | refine JC.skip ?_ | refine thenK.nn ?_ | refine thenK.x ?_ | refine blockK.nn ?_ | refine blockK.hit rfl ?_ | refine JC.condT rfl ?_ | refine JC.condF rfl ?_ | (refine JC.cond rfl (fun hc => ?_) (fun hc => ?_) <;> ((try simp only [decide_eq_true_eq, decide_eq_false_iff_not, beq_iff_eq, beq_eq_false_iff_ne, bne_iff_ne, bne_eq_false_iff_eq, Bool.not_eq_true', Bool.not_eq_false', Bool.not_eq_true, Bool.not_eq_false] at hc) <;> first | (first | (exact absurd rfl hc) | (exfalso; omega) | (exact absurd (hc.symm.trans (by assumption : _ = false)) (by decide)) | (exact absurd (hc.symm.trans (by assumption : _ = true)) (by decide))) | skip)) | refine drawK.nn ?_ | refine loopK.x ?_)
    | (fail)
    | fail
  all_goals first | (exfalso; omega) | skip
  refine JC.loop (fun i => i == 5 || i == 6 || Nat.ble 7 i) (fun m g L => ∃ k : Nat, g 6 = .int .i64 (k : Int) ∧ g 5 = .int .i64 ((idxQ (asgS l x) l.length k : Nat) : Int) ∧ k + m = l.length ∧ L = _) l.length ⟨0, rfl, rfl, by omega, rfl⟩ ?_
  rintro m g L ⟨k, e6, e5, hkm, rfl⟩
  refine JC.pin 6 e6 ?_
  refine JC.pin 5 e5 ?_
  have hb := (idxQ_ok (asgS l x) l.length k (by omega)).1
  rcases Nat.lt_or_ge k l.length with hlt | hge
  ·
    have hb1 := (idxQ_ok (asgS l x) l.length (k + 1) (by omega)).1
    have hd : asgS l x k = hasB x (l.getD k default) := rfl
    cases hh : hasB x (l.getD k default) with
    | true =>
      have cH := fun w => refHas_any x hx (l.getD k default) w
      rw [hh] at cH
      have he : idxQ (asgS l x) l.length (k + 1) = idxQ (asgS l x) l.length k + 2 ^ (l.length - 1 - k) := by show _ + (if asgS l x k then _ else _) = _; rw [hd, hh]; rfl
      repeat' first
        | (refine J.isJ ?_; first | (first | (refine J.o 1 ?_; refine J.gadd (b := 2 ^ (l.length - 1 - k)) ?_ (hw := wI64 (by omega))) | (refine J.o 4 ?_; refine J.lT default hΓ ?_ (hs := hs) (hr := q0 _)) | (refine J.fc 130 ?_; refine J.call0 eHasR rfl rfl (fun w hw => cH w) ?_) | (refine J.fc 131 ?_; refine J.call0 eBit rfl rfl (fun w hw => bit_any a c l.length k hlt h8 w) ?_)) | (first | (refine J.o 0 ?_; refine J.ev' hΓ ?_) | refine J.nil ?_ | (refine J.o 4 ?_; first | refine J.lT default hΓ ?_ | refine J.lR hΓ ?_) | (refine J.o 3 ?_; first | refine J.iJ hΓ ?_ | refine J.ev' hΓ ?_) | (refine J.o 1 ?_; first | refine J.ad ?_) | (refine J.o 6 ?_; refine J.bx (fun _ => ?_)) | (refine J.o 10 ?_; refine J.ev' hΓ ?_) | (refine J.o 11 ?_; refine J.ev' hΓ ?_)))
        | (first | refine JC.seq ?_ | refine JC.region ?_ | refine JC.block ?_ | refine JC.ret ?_ | refine JC.exit ?_ | refine JC.skip ?_ | refine thenK.nn ?_ | refine thenK.x ?_ | refine blockK.nn ?_ | refine blockK.hit rfl ?_ | refine JC.condT rfl ?_ | refine JC.condF rfl ?_ | (refine JC.cond rfl (fun hc => ?_) (fun hc => ?_) <;> ((try simp only [decide_eq_true_eq, decide_eq_false_iff_not, beq_iff_eq, beq_eq_false_iff_ne, bne_iff_ne, bne_eq_false_iff_eq, Bool.not_eq_true', Bool.not_eq_false', Bool.not_eq_true, Bool.not_eq_false] at hc) <;> first | (first | (exact absurd rfl hc) | (exfalso; omega) | (exact absurd (hc.symm.trans (by assumption : _ = false)) (by decide)) | (exact absurd (hc.symm.trans (by assumption : _ = true)) (by decide))) | skip)) | refine drawK.nn ?_ | refine loopK.x ?_)
        | ((first | refine JC.drawO [(1,0),(0,1),(0,2),(0,3),(1,4),(1,5)] (by decide +kernel) (by decide +kernel) ?_))
        | fail
      all_goals first | (exfalso; omega) | skip
      refine loopK.nn (m - 1) (by omega) (by repeat (first | refine Ag.upd rfl ?_ | exact Ag.hv)) ⟨k + 1, ?_, ?_, by omega, rfl⟩
      · show Value.int .i64 _ = _; congr 1
      · show Value.int .i64 _ = _; rw [he]
    | false =>
      have cH := fun w => refHas_any x hx (l.getD k default) w
      rw [hh] at cH
      have he : idxQ (asgS l x) l.length (k + 1) = idxQ (asgS l x) l.length k := by show _ + (if asgS l x k then _ else _) = _; rw [hd, hh]; rfl
      repeat' first
        | (refine J.isJ ?_; first | (first | (refine J.o 4 ?_; refine J.lT default hΓ ?_ (hs := hs) (hr := q0 _)) | (refine J.fc 130 ?_; refine J.call0 eHasR rfl rfl (fun w hw => cH w) ?_)) | (first | (refine J.o 0 ?_; refine J.ev' hΓ ?_) | refine J.nil ?_ | (refine J.o 4 ?_; first | refine J.lT default hΓ ?_ | refine J.lR hΓ ?_) | (refine J.o 3 ?_; first | refine J.iJ hΓ ?_ | refine J.ev' hΓ ?_) | (refine J.o 1 ?_; first | refine J.ad ?_) | (refine J.o 6 ?_; refine J.bx (fun _ => ?_)) | (refine J.o 10 ?_; refine J.ev' hΓ ?_) | (refine J.o 11 ?_; refine J.ev' hΓ ?_)))
        | (first | refine JC.seq ?_ | refine JC.region ?_ | refine JC.block ?_ | refine JC.ret ?_ | refine JC.exit ?_ | refine JC.skip ?_ | refine thenK.nn ?_ | refine thenK.x ?_ | refine blockK.nn ?_ | refine blockK.hit rfl ?_ | refine JC.condT rfl ?_ | refine JC.condF rfl ?_ | (refine JC.cond rfl (fun hc => ?_) (fun hc => ?_) <;> ((try simp only [decide_eq_true_eq, decide_eq_false_iff_not, beq_iff_eq, beq_eq_false_iff_ne, bne_iff_ne, bne_eq_false_iff_eq, Bool.not_eq_true', Bool.not_eq_false', Bool.not_eq_true, Bool.not_eq_false] at hc) <;> first | (first | (exact absurd rfl hc) | (exfalso; omega) | (exact absurd (hc.symm.trans (by assumption : _ = false)) (by decide)) | (exact absurd (hc.symm.trans (by assumption : _ = true)) (by decide))) | skip)) | refine drawK.nn ?_ | refine loopK.x ?_)
        | ((first | refine JC.drawO [(1,0),(0,1),(0,2),(0,3),(1,4),(1,5)] (by decide +kernel) (by decide +kernel) ?_))
        | fail
      all_goals first | (exfalso; omega) | skip
      refine loopK.nn (m - 1) (by omega) (by repeat (first | refine Ag.upd rfl ?_ | exact Ag.hv)) ⟨k + 1, ?_, ?_, by omega, rfl⟩
      · show Value.int .i64 _ = _; congr 1
      · show Value.int .i64 _ = _; rw [he]
  ·
    repeat' first
      | (refine J.isJ ?_; first | (fail) | (first | (refine J.o 0 ?_; refine J.ev' hΓ ?_) | refine J.nil ?_ | (refine J.o 4 ?_; first | refine J.lT default hΓ ?_ | refine J.lR hΓ ?_) | (refine J.o 3 ?_; first | refine J.iJ hΓ ?_ | refine J.ev' hΓ ?_) | (refine J.o 1 ?_; first | refine J.ad ?_) | (refine J.o 6 ?_; refine J.bx (fun _ => ?_)) | (refine J.o 10 ?_; refine J.ev' hΓ ?_) | (refine J.o 11 ?_; refine J.ev' hΓ ?_)))
      | (first | refine JC.seq ?_ | refine JC.region ?_ | refine JC.block ?_ | refine JC.ret ?_ | refine JC.exit ?_ | refine JC.skip ?_ | refine thenK.nn ?_ | refine thenK.x ?_ | refine blockK.nn ?_ | refine blockK.hit rfl ?_ | refine JC.condT rfl ?_ | refine JC.condF rfl ?_ | (refine JC.cond rfl (fun hc => ?_) (fun hc => ?_) <;> ((try simp only [decide_eq_true_eq, decide_eq_false_iff_not, beq_iff_eq, beq_eq_false_iff_ne, bne_iff_ne, bne_eq_false_iff_eq, Bool.not_eq_true', Bool.not_eq_false', Bool.not_eq_true, Bool.not_eq_false] at hc) <;> first | (first | (exact absurd rfl hc) | (exfalso; omega) | (exact absurd (hc.symm.trans (by assumption : _ = false)) (by decide)) | (exact absurd (hc.symm.trans (by assumption : _ = true)) (by decide))) | skip)) | refine drawK.nn ?_ | refine loopK.x ?_)
      | (fail)
      | fail
    all_goals first | (exfalso; omega) | skip
    obtain rfl : k = l.length := by omega
    all_goals (refine ret1f rfl rfl rfl (fun w1 hw => ⟨rfl, hw.below⟩))
end Go.Proofs.Ytbhgahjeocnfcaa
namespace Go.Proofs.Ytbhgahjeocnfcaa
open Go Go.Cx Go.RowKit
set_option linter.unusedVariables false
set_option linter.unusedSimpArgs false
set_option maxHeartbeats 4000000
attribute [local irreducible] J JC thenK blockK loopK drawK retK QW Qt pel List.set Calls
open Go.Maps Go.Lib
set_option maxRecDepth 8000
attribute [local irreducible] JE Br eK0 eK3 brK pc
theorem eSame : Entr Try.prog 153 := Entr.of Try.func153 rfl rfl
theorem list_eq {f g : List Bool} (hl : f.length = g.length) (h : ∀ j, j < f.length → f.getD j default = g.getD j default) : f = g := by
  refine List.ext_getElem hl fun i h1 h2 => ?_
  have := h i h1
  rw [List.getD_eq_getElem?_getD, List.getD_eq_getElem?_getD, List.getElem?_eq_getElem h1, List.getElem?_eq_getElem h2] at this
  exact this
theorem same_any (f g : List Bool) (af ag : Option Addr) (cf cg : Nat) (h : Heap) (sf : SlT encBo 1 af f h) (sg : SlT encBo 1 ag g h) (hl : f.length ≤ 100000) (hl2 : g.length ≤ 100000) (w : World) (hw1 : Holds h w) :
    Calls Try.prog 153 #[.slice af f.length cf, .slice ag g.length cg] w fun e w' => e = .returned (.bool (decide (f = g))) ∧ Below w.heap.size w w' := by
  have q0 : ∀ L, RdH h L h := fun L => RdH.old fun _ hh => hh
  refine calls_of_JC (R := h) Try.func153 Try.ntmps153 rfl rfl (hw1) ?_
  repeat' first
    | (refine J.isJ ?_; first | (fail) | (first | (refine J.o 0 ?_; refine J.ev' hΓ ?_) | refine J.nil ?_ | refine J.kd ?_ | (refine J.o 4 ?_; first | refine J.lT default hΓ ?_) | (refine J.o 3 ?_; first | refine J.iJ hΓ ?_ | refine J.ev' hΓ ?_) | (refine J.o 1 ?_; first | refine J.ad ?_) | (refine J.o 10 ?_; refine J.ev' hΓ ?_) | (refine J.o 11 ?_; refine J.ev' hΓ ?_)) | ((fail_if_success refine J.wt ?_); refine J.gc rfl rfl (fun hc => ?_) (fun hc => ?_) <;> ((try simp only [decide_eq_true_eq, decide_eq_false_iff_not, beq_iff_eq, beq_eq_false_iff_ne, bne_iff_ne, bne_eq_false_iff_eq, Bool.not_eq_true', Bool.not_eq_false', Bool.not_eq_true, Bool.not_eq_false] at hc) <;> first | (first | (exact absurd rfl hc) | (exfalso; omega) | (exact absurd (hc.symm.trans (by assumption : _ = false)) (by decide)) | (exact absurd (hc.symm.trans (by assumption : _ = true)) (by decide))) | skip)))
    | (first | refine JC.seq ?_ | refine JC.region ?_ | refine JC.block ?_ | refine JC.ret ?_ | refine JC.exit ?_ | refine JC.skip ?_ | refine thenK.nn ?_ | refine thenK.r ?_ | refine thenK.x ?_ | refine blockK.nn ?_ | refine blockK.r ?_ | refine blockK.hit rfl ?_ | refine JC.condT rfl ?_ | refine JC.condF rfl ?_ | (refine JC.cond rfl (fun hc => ?_) (fun hc => ?_) <;> ((try simp only [decide_eq_true_eq, decide_eq_false_iff_not, beq_iff_eq, beq_eq_false_iff_ne, bne_iff_ne, bne_eq_false_iff_eq, Bool.not_eq_true', Bool.not_eq_false', Bool.not_eq_true, Bool.not_eq_false] at hc) <;> first | (first | (exact absurd rfl hc) | (exfalso; omega) | (exact absurd (hc.symm.trans (by assumption : _ = false)) (by decide)) | (exact absurd (hc.symm.trans (by assumption : _ = true)) (by decide))) | skip)) | refine drawK.nn ?_ | refine loopK.r ?_ | refine loopK.x ?_)
    | (fail)
    | fail
  all_goals first | (exfalso; omega) | skip
  refine JC.loop (fun i => i == 5 || Nat.ble 6 i) (fun m gg L => ∃ q : Nat, gg 5 = .int .i64 (q : Int) ∧ q + m = min f.length g.length ∧ (∀ j, j < q → f.getD j default = g.getD j default) ∧ L = []) (min f.length g.length) ⟨0, rfl, by omega, fun j hj => absurd hj (Nat.not_lt_zero _), rfl⟩ ?_
  rintro m gg L ⟨q, e5, hqm, heq, rfl⟩
  refine JC.pin 5 e5 ?_
  rcases Nat.lt_or_ge q (min f.length g.length) with hlt | hge
  ·
    by_cases hq : f.getD q default = g.getD q default
    ·
      obtain ⟨bv, hbv⟩ : ∃ bv, f.getD q default = bv := ⟨_, rfl⟩
      have hbv2 := hbv
      rw [hq] at hbv2
      cases bv
      all_goals
        repeat' first
          | (refine J.isJ ?_; first | (first | (refine J.o 3 ?_; first | refine J.iJ hΓ ?_ (hs := sf) | refine J.iJ hΓ ?_ (hs := sg)) | (refine J.o 4 ?_; first | (refine J.lT default hΓ ?_ (hs := sf) (hr := q0 _); rw [hbv]) | (refine J.lT default hΓ ?_ (hs := sg) (hr := q0 _); rw [hbv2]))) | (first | (refine J.o 0 ?_; refine J.ev' hΓ ?_) | refine J.nil ?_ | refine J.kd ?_ | (refine J.o 4 ?_; first | refine J.lT default hΓ ?_) | (refine J.o 3 ?_; first | refine J.iJ hΓ ?_ | refine J.ev' hΓ ?_) | (refine J.o 1 ?_; first | refine J.ad ?_) | (refine J.o 10 ?_; refine J.ev' hΓ ?_) | (refine J.o 11 ?_; refine J.ev' hΓ ?_)) | ((fail_if_success refine J.wt ?_); refine J.gc rfl rfl (fun hc => ?_) (fun hc => ?_) <;> ((try simp only [decide_eq_true_eq, decide_eq_false_iff_not, beq_iff_eq, beq_eq_false_iff_ne, bne_iff_ne, bne_eq_false_iff_eq, Bool.not_eq_true', Bool.not_eq_false', Bool.not_eq_true, Bool.not_eq_false] at hc) <;> first | (first | (exact absurd rfl hc) | (exfalso; omega) | (exact absurd (hc.symm.trans (by assumption : _ = false)) (by decide)) | (exact absurd (hc.symm.trans (by assumption : _ = true)) (by decide))) | skip)))
          | (first | refine JC.seq ?_ | refine JC.region ?_ | refine JC.block ?_ | refine JC.ret ?_ | refine JC.exit ?_ | refine JC.skip ?_ | refine thenK.nn ?_ | refine thenK.r ?_ | refine thenK.x ?_ | refine blockK.nn ?_ | refine blockK.r ?_ | refine blockK.hit rfl ?_ | refine JC.condT rfl ?_ | refine JC.condF rfl ?_ | (refine JC.cond rfl (fun hc => ?_) (fun hc => ?_) <;> ((try simp only [decide_eq_true_eq, decide_eq_false_iff_not, beq_iff_eq, beq_eq_false_iff_ne, bne_iff_ne, bne_eq_false_iff_eq, Bool.not_eq_true', Bool.not_eq_false', Bool.not_eq_true, Bool.not_eq_false] at hc) <;> first | (first | (exact absurd rfl hc) | (exfalso; omega) | (exact absurd (hc.symm.trans (by assumption : _ = false)) (by decide)) | (exact absurd (hc.symm.trans (by assumption : _ = true)) (by decide))) | skip)) | refine drawK.nn ?_ | refine loopK.r ?_ | refine loopK.x ?_)
          | ((refine JC.drawW [] [] (by kernel_rfl) (by kernel_rfl) ?_))
          | fail
        all_goals first | (exfalso; omega) | skip
        refine loopK.nn (m - 1) (by omega) (by repeat (first | refine Ag.upd rfl ?_ | exact Ag.hv)) ⟨q + 1, ?_, by omega, fun j hj => ?_, rfl⟩
        · show Value.int .i64 _ = _; congr 1
        · rcases Nat.lt_or_ge j q with g1 | g1
          · exact heq j g1
          · obtain rfl : j = q := by omega
            exact hq
    ·
      have hne : f ≠ g := fun e => hq (by rw [e])
      rw [decide_eq_false hne]
      obtain ⟨bv, hbv⟩ : ∃ bv, f.getD q default = bv := ⟨_, rfl⟩
      have hbv2 : g.getD q default = !bv := by rw [hbv] at hq; cases bv <;> cases hg : g.getD q default <;> simp_all
      cases bv
      all_goals
        repeat' first
          | (refine J.isJ ?_; first | (first | (refine J.o 3 ?_; first | refine J.iJ hΓ ?_ (hs := sf) | refine J.iJ hΓ ?_ (hs := sg)) | (refine J.o 4 ?_; first | (refine J.lT default hΓ ?_ (hs := sf) (hr := q0 _); rw [hbv]) | (refine J.lT default hΓ ?_ (hs := sg) (hr := q0 _); rw [hbv2]))) | (first | (refine J.o 0 ?_; refine J.ev' hΓ ?_) | refine J.nil ?_ | refine J.kd ?_ | (refine J.o 4 ?_; first | refine J.lT default hΓ ?_) | (refine J.o 3 ?_; first | refine J.iJ hΓ ?_ | refine J.ev' hΓ ?_) | (refine J.o 1 ?_; first | refine J.ad ?_) | (refine J.o 10 ?_; refine J.ev' hΓ ?_) | (refine J.o 11 ?_; refine J.ev' hΓ ?_)) | ((fail_if_success refine J.wt ?_); refine J.gc rfl rfl (fun hc => ?_) (fun hc => ?_) <;> ((try simp only [decide_eq_true_eq, decide_eq_false_iff_not, beq_iff_eq, beq_eq_false_iff_ne, bne_iff_ne, bne_eq_false_iff_eq, Bool.not_eq_true', Bool.not_eq_false', Bool.not_eq_true, Bool.not_eq_false] at hc) <;> first | (first | (exact absurd rfl hc) | (exfalso; omega) | (exact absurd (hc.symm.trans (by assumption : _ = false)) (by decide)) | (exact absurd (hc.symm.trans (by assumption : _ = true)) (by decide))) | skip)))
          | (first | refine JC.seq ?_ | refine JC.region ?_ | refine JC.block ?_ | refine JC.ret ?_ | refine JC.exit ?_ | refine JC.skip ?_ | refine thenK.nn ?_ | refine thenK.r ?_ | refine thenK.x ?_ | refine blockK.nn ?_ | refine blockK.r ?_ | refine blockK.hit rfl ?_ | refine JC.condT rfl ?_ | refine JC.condF rfl ?_ | (refine JC.cond rfl (fun hc => ?_) (fun hc => ?_) <;> ((try simp only [decide_eq_true_eq, decide_eq_false_iff_not, beq_iff_eq, beq_eq_false_iff_ne, bne_iff_ne, bne_eq_false_iff_eq, Bool.not_eq_true', Bool.not_eq_false', Bool.not_eq_true, Bool.not_eq_false] at hc) <;> first | (first | (exact absurd rfl hc) | (exfalso; omega) | (exact absurd (hc.symm.trans (by assumption : _ = false)) (by decide)) | (exact absurd (hc.symm.trans (by assumption : _ = true)) (by decide))) | skip)) | refine drawK.nn ?_ | refine loopK.r ?_ | refine loopK.x ?_)
          | ((refine JC.drawW [] [] (by kernel_rfl) (by kernel_rfl) ?_))
          | fail
        all_goals first | (exfalso; omega) | skip
        all_goals (refine ret1f rfl rfl rfl (fun w1 hw => ⟨rfl, hw.below⟩))
  ·
    repeat' first
      | (refine J.isJ ?_; first | (fail) | (first | (refine J.o 0 ?_; refine J.ev' hΓ ?_) | refine J.nil ?_ | refine J.kd ?_ | (refine J.o 4 ?_; first | refine J.lT default hΓ ?_) | (refine J.o 3 ?_; first | refine J.iJ hΓ ?_ | refine J.ev' hΓ ?_) | (refine J.o 1 ?_; first | refine J.ad ?_) | (refine J.o 10 ?_; refine J.ev' hΓ ?_) | (refine J.o 11 ?_; refine J.ev' hΓ ?_)) | ((fail_if_success refine J.wt ?_); refine J.gc rfl rfl (fun hc => ?_) (fun hc => ?_) <;> ((try simp only [decide_eq_true_eq, decide_eq_false_iff_not, beq_iff_eq, beq_eq_false_iff_ne, bne_iff_ne, bne_eq_false_iff_eq, Bool.not_eq_true', Bool.not_eq_false', Bool.not_eq_true, Bool.not_eq_false] at hc) <;> first | (first | (exact absurd rfl hc) | (exfalso; omega) | (exact absurd (hc.symm.trans (by assumption : _ = false)) (by decide)) | (exact absurd (hc.symm.trans (by assumption : _ = true)) (by decide))) | skip)))
      | (first | refine JC.seq ?_ | refine JC.region ?_ | refine JC.block ?_ | refine JC.ret ?_ | refine JC.exit ?_ | refine JC.skip ?_ | refine thenK.nn ?_ | refine thenK.r ?_ | refine thenK.x ?_ | refine blockK.nn ?_ | refine blockK.r ?_ | refine blockK.hit rfl ?_ | refine JC.condT rfl ?_ | refine JC.condF rfl ?_ | (refine JC.cond rfl (fun hc => ?_) (fun hc => ?_) <;> ((try simp only [decide_eq_true_eq, decide_eq_false_iff_not, beq_iff_eq, beq_eq_false_iff_ne, bne_iff_ne, bne_eq_false_iff_eq, Bool.not_eq_true', Bool.not_eq_false', Bool.not_eq_true, Bool.not_eq_false] at hc) <;> first | (first | (exact absurd rfl hc) | (exfalso; omega) | (exact absurd (hc.symm.trans (by assumption : _ = false)) (by decide)) | (exact absurd (hc.symm.trans (by assumption : _ = true)) (by decide))) | skip)) | refine drawK.nn ?_ | refine loopK.r ?_ | refine loopK.x ?_)
      | (fail)
      | fail
    all_goals first | (exfalso; omega) | skip
    all_goals (refine ret1f rfl rfl rfl (fun w1 hw => ⟨?_, hw.below⟩))
    all_goals (refine congrArg (fun b => Ending.returned (.bool b)) ?_)
    all_goals first | (rw [Bool.eq_iff_iff, decide_eq_true_iff]; simp only [beq_iff_eq]; exact ⟨fun e => list_eq (by omega) fun j hj => heq j (by omega), fun e => by rw [e]⟩) | trace_state
end Go.Proofs.Ytbhgahjeocnfcaa
