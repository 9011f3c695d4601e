/- SiftPairs: part 6. -/
import Derived.Test.YtbhgahjeocnfcaaPaE
import Derived.RangeFuncNested
import Derived.RangeFuncBound
import Derived.RangeFuncCalls
import Derived.RangeFuncLeaves
import Derived.TacticsIn
import Derived.OrdersIn
import Derived.LoopNIn
namespace Go.Proofs.Ytbhgahjeocnfcaa
open Go Go.Cx Go.RowKit
set_option linter.unusedVariables false
set_option linter.unusedSimpArgs false
set_option maxHeartbeats 4000000
attribute [local irreducible] J JC thenK blockK loopK roundK drawK retK QW Qt pel List.set Calls
open Go.Maps Go.Lib
set_option maxRecDepth 8000
attribute [local irreducible] JE Br eK0 eK3 brK pc
def litA (order : List Int) (l : Int) (α : Nat → Bool) : Bool := if l < 0 then !α ((rk order (varI l) 0).getD 0) else α ((rk order (varI l) 0).getD 0)
def clA (order : List Int) (c : List Int) (α : Nat → Bool) : Bool := c.any fun l => litA order l α
def thA (order : List Int) (T : List (List Int)) (α : Nat → Bool) : Bool := T.all fun c => clA order c α
def costT : List (List Int) → Nat
  | [] => 0
  | c :: T => c.length * 20 + 255 + costT T
theorem costT_len : ∀ T : List (List Int), T.length ≤ costT T
  | [] => Nat.le_refl _
  | c :: T => by have := costT_len T; rw [costT, List.length_cons]; omega
theorem costT_app : ∀ (a b : List (List Int)), costT (a ++ b) = costT a + costT b
  | [], b => by rw [List.nil_append, costT, Nat.zero_add]
  | c :: a, b => by rw [List.cons_append, costT, costT, costT_app a b]; omega
theorem clA_s (order : List Int) (c : List Int) {j : Nat} (h : j < c.length) (α : Nat → Bool) : clA order (c.take (j + 1)) α = Bool.or (clA order (c.take j) α) (litA order (c.getD j default) α) := by
  unfold clA; rw [take_g c j h, List.any_append]; simp
theorem thA_s (order : List Int) (vs : List HV) {i : Nat} (h : i < vs.length) (α : Nat → Bool) : thA order ((vs.take (i + 1)).map (·.l)) α = (thA order ((vs.take i).map (·.l)) α && clA order (vs.getD i default).l α) := by
  unfold thA; rw [take_g vs i h, List.map_append, List.all_append]; simp
theorem litA_neg {order : List Int} {l : Int} {k : Nat} {α : Nat → Bool} (h : l < 0) (hk : rk order (varI l) 0 = some k) : litA order l α = !α k := by unfold litA; rw [if_pos h, hk]; rfl
theorem litA_pos {order : List Int} {l : Int} {k : Nat} {α : Nat → Bool} (h : ¬ l < 0) (hk : rk order (varI l) 0 = some k) : litA order l α = α k := by unfold litA; rw [if_neg h, hk]; rfl
theorem RdH.app {R : Heap} {L : List Heap} {h : Heap} (M : List Heap) (r : RdH R L h) : RdH R (M ++ L) h := fun x hx => Rd.app M (r x hx)
theorem rbS2 {R : Heap} (K : KS) (b : Nat) (s : SS) (M : List Heap) : Rd R (sF K b s ++ M) b (.cells ⟨[.slice K.ao K.no K.co, .map (some K.bp), .slice s.an s.ns.length s.cn, .map (some K.bu), .map (some K.bi)]⟩ 104 (0, 0)) := by unfold sF stO; exact Rd.hd
theorem addv_any {n : Nat} {K : KS} {s : SS} (so : SOk n K s) (k : Nat) (hk : k < n) (hfull : s.ns.length + 1 ≤ 1048576) {w0 w : World} {R : Heap} {L : List Heap} {b0 : Nat} (hw : H w0 R (sF K b0 s ++ L) w) :
    Calls Try.prog 58 #[.pointer (some ⟨b0, 0, none⟩), ek3 ⟨k, 0, 1⟩] w fun e w' => ∃ v L', e = .returned v ∧ H w0 R L' w' ∧ ∃ s' y, v = .int .i64 ((y : Nat) : Int) ∧ L' = sF K b0 s' ++ L ∧ Res n K s s' 1 y (fun α => α k) := by
  have two := so.wf.two
  refine (add_any so ⟨k, 0, 1⟩ hk (show 0 < s.ns.length by omega) (show 1 < s.ns.length by omega) (show k < (nd s.ns 0).p by rw [so.wf.c0]; exact hk) (show k < (nd s.ns 1).p by rw [so.wf.c1]; exact hk) (by omega) hw).mono ?_
  rintro e w' ⟨v, L', h1, h2, s1, y1, h3, h4, ad1, it1⟩
  refine ⟨v, L', h1, h2, s1, y1, h3, h4, ad1, fun α => ?_⟩
  rw [it1 α]
  show (if α k then fn n s1.ns 1 α else fn n s1.ns 0 α) = α k
  rw [fn_0 ad1.ok.wf, fn_1 ad1.ok.wf]
  cases α k <;> rfl
theorem ch3_any {n : Nat} {K : KS} {s : SS} (so : SOk n K s) (a b c : Nat) (ha : a < s.ns.length) (hb : b < s.ns.length) (hc : c < s.ns.length) (hfull : s.ns.length + (2 ^ n - 1) ≤ 1048576) {w0 w : World} {R : Heap} {L : List Heap} {b0 : Nat} (hw : H w0 R (sF K b0 s ++ L) w) :
    Calls Try.prog 60 #[.pointer (some ⟨b0, 0, none⟩), .int .i64 (a : Int), .int .i64 (b : Int), .int .i64 (c : Int)] w fun e w' => ∃ v L', e = .returned v ∧ H w0 R L' w' ∧ ∃ s' y, v = .int .i64 ((y : Nat) : Int) ∧ L' = sF K b0 s' ++ L ∧ Res n K s s' (2 ^ n - 1) y (fun α => if fn n s.ns a α then fn n s.ns b α else fn n s.ns c α) := by
  refine (choose_any so ⟨a, b, c⟩ ⟨ha, hb, hc⟩ hfull hw).mono ?_
  rintro e w' ⟨v, L', h1, h2, s1, y1, h3, h4, ad1, it1⟩
  refine ⟨v, L', h1, h2, s1, y1, h3, h4, ad1, fun α => ?_⟩
  have he := it1.eq α
  dsimp only at he
  rw [he, fn_ext so.wf ad1.ext ha, fn_ext so.wf ad1.ext hb, fn_ext so.wf ad1.ext hc]
theorem ch3_lev {n : Nat} {K : KS} {s : SS} (so : SOk n K s) (a b c : Nat) (ha : a < s.ns.length) (hb : b < s.ns.length) (hc : c < s.ns.length) {m : Nat} {Φ : Nat → List ((Nat → Bool) → Bool)} (lv : Lev n Φ m) {G : (Nat → Bool) → Bool} (hG : ∀ α, (if fn n s.ns a α then fn n s.ns b α else fn n s.ns c α) = G α) (hi : InL n Φ 0 G) (hfull : s.ns.length + m < 1048576) {w0 w : World} {R : Heap} {L : List Heap} {b0 : Nat} (hw : H w0 R (sF K b0 s ++ L) w) :
    Calls Try.prog 60 #[.pointer (some ⟨b0, 0, none⟩), .int .i64 (a : Int), .int .i64 (b : Int), .int .i64 (c : Int)] w fun e w' => ∃ v L', e = .returned v ∧ H w0 R L' w' ∧ ∃ s' y, v = .int .i64 ((y : Nat) : Int) ∧ L' = sF K b0 s' ++ L ∧ Res n K s s' m y G := by
  have e : iteF n s.ns ⟨a, b, c⟩ = G := funext hG
  refine (choose_lev so ⟨a, b, c⟩ ⟨ha, hb, hc⟩ lv (by rw [e]; exact hi) hfull hw).mono ?_
  rintro e w' ⟨v, L', h1, h2, s1, y1, h3, h4, ad1, it1⟩
  refine ⟨v, L', h1, h2, s1, y1, h3, h4, ad1, fun α => ?_⟩
  have he := it1.eq α
  dsimp only at he
  rw [he, fn_ext so.wf ad1.ext ha, fn_ext so.wf ad1.ext hb, fn_ext so.wf ad1.ext hc, hG]
def posA (order c : List Int) (i : Nat) : Bool := c.any fun l => !decide (l < 0) && decide (rk order (varI l) 0 = some i)
def negA (order c : List Int) (i : Nat) : Bool := c.any fun l => decide (l < 0) && decide (rk order (varI l) 0 = some i)
theorem clA_cl {order c : List Int} {n : Nat} (h : ∀ l ∈ c, ∃ k, k < n ∧ rk order (varI l) 0 = some k) : clA order c = clF n (posA order c) (negA order c) 0 := by
  funext α
  rw [Bool.eq_iff_iff, clF_iff]
  unfold clA posA negA
  rw [List.any_eq_true]
  constructor
  · rintro ⟨l, hl, ht⟩
    obtain ⟨k, hk, hr⟩ := h l hl
    refine ⟨k, hk, Nat.zero_le _, ?_⟩
    by_cases hn : l < 0
    · rw [litA_neg hn hr] at ht
      refine .inr ⟨List.any_eq_true.2 ⟨l, hl, ?_⟩, by simpa using ht⟩
      rw [decide_eq_true hn, decide_eq_true hr]; rfl
    · rw [litA_pos hn hr] at ht
      refine .inl ⟨List.any_eq_true.2 ⟨l, hl, ?_⟩, ht⟩
      rw [decide_eq_false hn, decide_eq_true hr]; rfl
  · rintro ⟨k, hk, _, ⟨h1, h2⟩ | ⟨h1, h2⟩⟩
    · obtain ⟨l, hl, g⟩ := List.any_eq_true.1 h1
      rw [Bool.and_eq_true, Bool.not_eq_true', decide_eq_false_iff_not, decide_eq_true_iff] at g
      exact ⟨l, hl, by rw [litA_pos g.1 g.2]; exact h2⟩
    · obtain ⟨l, hl, g⟩ := List.any_eq_true.1 h1
      rw [Bool.and_eq_true, decide_eq_true_iff, decide_eq_true_iff] at g
      exact ⟨l, hl, by rw [litA_neg g.1 g.2, h2]; rfl⟩
theorem inl_not (n k : Nat) (hk : k < n) : InL n (fun j => if j = k then [(fun α : Nat → Bool => !α k)] else []) 0 (fun α => !α k) := .inr ⟨k, Nat.zero_le _, by omega, by dsimp only; rw [if_pos rfl]; exact List.mem_cons_self⟩
theorem inl_cl (n : Nat) (P Q : Nat → Bool) : InL n (fun j => [clF n P Q j]) 0 (clF n P Q 0) := .inr ⟨0, Nat.zero_le _, Nat.zero_le _, List.mem_cons_self⟩
theorem eComC : Entr Try.prog 57 := Entr.of Try.func57 rfl rfl
theorem eCom : Entr Try.prog 16 := Entr.of Try.func16 rfl rfl
def thO (N : Int) (a : Option Addr) (m cap : Nat) : Obj := .cells ⟨[.int .i64 N, .slice a m cap]⟩ 24 (0, 0)
theorem comC_any {n : Nat} {K : KS} {s : SS} (so : SOk n K s) {order : List Int} {hO hP : Heap} (po : POk K order hO hP) (h8 : n ≤ 8) (N : Int) (a : Option Addr) (cap : Nat) (vs : List HV) (hT : Heap) (ll : LLR a vs hT) (hlit : ∀ v ∈ vs, ∀ l ∈ v.l, ∃ k, rk order (varI l) 0 = some k) (hfull : s.ns.length + costT (vs.map (·.l)) ≤ 1048576) {w0 w : World} {R : Heap} {L : List Heap} {b0 c2 c8 : Nat} (rT : RdH R L hT) (rP : RdH R L hP) (r0 : Rd R L c2 (thO N a vs.length cap)) (r1 : Rd R L c8 (ptrS b0)) (hw : H w0 R (sF K b0 s ++ L) w) :
    Calls Try.prog 57 #[.pointer (some ⟨c2, 0, none⟩), .pointer (some ⟨c8, 0, none⟩)] w fun e w' => ∃ v L', e = .returned v ∧ H w0 R L' w' ∧ ∃ s' y, v = .int .i64 ((y : Nat) : Int) ∧ L' = sF K b0 s' ++ L ∧ Res n K s s' (costT (vs.map (·.l))) y (thA order (vs.map (·.l))) := by
  have h2n := pow8 h8
  have hno := so.no
  have hpl := po.len
  have pm := po.pm
  have two := so.wf.two
  unfold thO at r0
  unfold ptrS at r1
  obtain ⟨ho, hi⟩ := ll
  have hctk : ∀ i, i < vs.length → costT ((vs.take (i + 1)).map (·.l)) = costT ((vs.take i).map (·.l)) + ((vs.getD i default).l.length * 20 + 255) := fun i h => by rw [take_g vs i h, List.map_append, costT_app]; rfl
  have hcle : ∀ i, i ≤ vs.length → costT ((vs.take i).map (·.l)) ≤ costT (vs.map (·.l)) := fun i h => by
    have : vs.map (·.l) = (vs.take i).map (·.l) ++ (vs.drop i).map (·.l) := by rw [← List.map_append, List.take_append_drop]
    rw [this, costT_app]; omega
  have hvl := costT_len (vs.map (·.l))
  rw [List.length_map] at hvl
  refine calls_in Try.func57 Try.ntmps57 rfl rfl (hw) ?_
  repeat' first
    | (refine J.isJ ?_; first | ((refine J.o 4 ?_; first | refine J.lR hΓ ?_ (hr := Rd.app _ r0))) | (first | (refine J.o 0 ?_; refine J.ev' hΓ ?_) | refine J.nil ?_ | (refine J.o 4 ?_; first | refine J.lT default hΓ ?_ | refine J.lR hΓ ?_) | (refine J.o 3 ?_; first | refine J.iJ hΓ ?_ | refine J.ev' hΓ ?_) | (refine J.o 1 ?_; first | refine J.ad ?_) | (refine J.o 8 ?_; refine J.bd hΓ ?_) | (refine J.o 10 ?_; refine J.ev' hΓ ?_) | (refine J.o 11 ?_; refine J.ev' hΓ ?_)))
    | (first | refine JC.seq ?_ | refine JC.region ?_ | refine JC.block ?_ | refine JC.ret ?_ | refine JC.exit ?_ | refine JC.skip ?_ | refine thenK.nn ?_ | refine thenK.x ?_ | refine blockK.nn ?_ | refine blockK.hit rfl ?_ | (refine JC.cond rfl (fun hc => ?_) (fun hc => ?_) <;> ((try simp only [decide_eq_true_eq, decide_eq_false_iff_not, beq_iff_eq, beq_eq_false_iff_ne, bne_iff_ne, bne_eq_false_iff_eq, Bool.not_eq_true', Bool.not_eq_false', Bool.not_eq_true, Bool.not_eq_false] at hc) <;> first | (first | (exact absurd rfl hc) | (exfalso; omega) | (exact absurd (hc.symm.trans (by assumption : _ = false)) (by decide)) | (exact absurd (hc.symm.trans (by assumption : _ = true)) (by decide))) | skip)) | refine drawK.nn ?_ | refine loopK.x ?_)
    | (fail)
    | fail
  all_goals first | (exfalso; omega) | skip
  refine JC.loop (fun i => (Nat.ble 3 i && Nat.ble i 9) || Nat.ble 13 i) (fun m g L' => ∃ i s1 y, g 13 = .int .i64 ((i : Nat) : Int) ∧ g 3 = .int .i64 ((y : Nat) : Int) ∧ i + m = vs.length ∧ Adds n K s s1 (costT ((vs.take i).map (·.l))) y ∧ (∀ α, fn n s1.ns y α = thA order ((vs.take i).map (·.l)) α) ∧ L' = sF K b0 s1 ++ L) vs.length ⟨0, s, 1, rfl, rfl, by omega, (Adds.refl so (by omega)).mono (Nat.zero_le _), fun α => fn_1 so.wf α, rfl⟩ ?_
  rintro m g L' ⟨i, s1, y, e13, e3, him, ad, hfn, rfl⟩
  refine JC.pin 13 e13 ?_
  refine JC.pin 3 e3 ?_
  have adl := ad.le
  have two1 := ad.ok.wf.two
  rcases Nat.lt_or_ge i vs.length with hlt | hge
  ·
    have hc1 := hctk i hlt
    have hc2 := hcle (i + 1) hlt
    have hmv := mem_g vs i hlt
    have hik := hi _ hmv
    have hlv := hlit _ hmv
    repeat' first
      | (refine J.isJ ?_; first | ((refine J.o 4 ?_; first | refine J.lT default hΓ ?_ (hs := ho) (hr := RdH.app _ rT))) | (first | (refine J.o 0 ?_; refine J.ev' hΓ ?_) | refine J.nil ?_ | (refine J.o 4 ?_; first | refine J.lT default hΓ ?_ | refine J.lR hΓ ?_) | (refine J.o 3 ?_; first | refine J.iJ hΓ ?_ | refine J.ev' hΓ ?_) | (refine J.o 1 ?_; first | refine J.ad ?_) | (refine J.o 8 ?_; refine J.bd hΓ ?_) | (refine J.o 10 ?_; refine J.ev' hΓ ?_) | (refine J.o 11 ?_; refine J.ev' hΓ ?_)))
      | (first | refine JC.seq ?_ | refine JC.region ?_ | refine JC.block ?_ | refine JC.ret ?_ | refine JC.exit ?_ | refine JC.skip ?_ | refine thenK.nn ?_ | refine thenK.x ?_ | refine blockK.nn ?_ | refine blockK.hit rfl ?_ | (refine JC.cond rfl (fun hc => ?_) (fun hc => ?_) <;> ((try simp only [decide_eq_true_eq, decide_eq_false_iff_not, beq_iff_eq, beq_eq_false_iff_ne, bne_iff_ne, bne_eq_false_iff_eq, Bool.not_eq_true', Bool.not_eq_false', Bool.not_eq_true, Bool.not_eq_false] at hc) <;> first | (first | (exact absurd rfl hc) | (exfalso; omega) | (exact absurd (hc.symm.trans (by assumption : _ = false)) (by decide)) | (exact absurd (hc.symm.trans (by assumption : _ = true)) (by decide))) | skip)) | refine drawK.nn ?_ | refine loopK.x ?_)
      | (fail)
      | fail
    all_goals first | (exfalso; omega) | skip
    refine JC.loop (fun i => (Nat.ble 6 i && Nat.ble i 9) || (Nat.ble 19 i && Nat.ble i 42)) (fun m2 g2 L' => ∃ j s2 y2, g2 19 = .int .i64 ((j : Nat) : Int) ∧ g2 6 = .int .i64 ((y2 : Nat) : Int) ∧ j + m2 = (vs.getD i default).l.length ∧ Adds n K s1 s2 (j * 20) y2 ∧ (∀ α, fn n s2.ns y2 α = clA order ((vs.getD i default).l.take j) α) ∧ L' = sF K b0 s2 ++ L) (vs.getD i default).l.length ⟨0, s1, 0, rfl, rfl, by omega, (Adds.refl ad.ok (by omega)).mono (Nat.zero_le _), fun α => fn_0 ad.ok.wf α, rfl⟩ ?_
    rintro m2 g2 L' ⟨j, s2, y2, e19, e6, hjm, ad2, hfn2, rfl⟩
    refine JC.pin 19 e19 ?_
    refine JC.pin 6 e6 ?_
    have adl2 := ad2.le
    have two2 := ad2.ok.wf.two
    rcases Nat.lt_or_ge j (vs.getD i default).l.length with hj | hj
    ·
      obtain ⟨k, hk⟩ := hlv _ (mem_g (vs.getD i default).l j hj)
      have hkn : k < n := by obtain ⟨_, h2, _⟩ := rk_some hk; omega
      have hvr : -9223372036854775808 ≤ varI ((vs.getD i default).l.getD j default) ∧ varI ((vs.getD i default).l.getD j default) ≤ 9223372036854775807 := by unfold varI; split <;> (try split) <;> omega
      have hkey := keyI _ hvr
      have hget : mget (order.zipIdx 0) (varI ((vs.getD i default).l.getD j default)) = some k := by rw [mget_zip, hk]
      have hcl := clA_cl (order := order) (c := (vs.getD i default).l.take (j + 1)) (n := n) fun l hl => by
        obtain ⟨q, hq⟩ := hlv l (List.mem_of_mem_take hl)
        have := (rk_some hq).2.1
        exact ⟨q, by omega, hq⟩
      have hN3 : ∀ {s3 : SS} {y3 : Nat}, SOk n K s3 → (∀ α, fn n s3.ns y3 α = α k) → ∀ α, (if fn n s3.ns y3 α then fn n s3.ns 0 α else fn n s3.ns 1 α) = !α k := fun so3 f3 α => by
        rw [f3, fn_0 so3.wf, fn_1 so3.wf]; cases α k <;> rfl
      have hN4 : ∀ {s3 s4 : SS} {y3 y4 m3 m4 : Nat}, (vs.getD i default).l.getD j default < 0 → Adds n K s2 s3 m3 y3 → Adds n K s3 s4 m4 y4 → (∀ α, fn n s3.ns y3 α = α k) → (∀ α, fn n s4.ns y4 α = !α k) → ∀ α, (if fn n s4.ns y4 α then fn n s4.ns 1 α else fn n s4.ns y2 α) = clF n (posA order ((vs.getD i default).l.take (j + 1))) (negA order ((vs.getD i default).l.take (j + 1))) 0 α := fun hg ad3 ad4 f3 f4 α => by
        rw [← hcl, f4, fn_1 ad4.ok.wf, clA_s _ _ hj, litA_neg hg hk, fn_ext ad2.ok.wf (ad3.ext.trans ad4.ext) ad2.lt, hfn2]
        cases α k <;> cases clA order ((vs.getD i default).l.take j) α <;> rfl
      have hN5 : ∀ {s3 : SS} {y3 m3 : Nat}, ¬ (vs.getD i default).l.getD j default < 0 → Adds n K s2 s3 m3 y3 → (∀ α, fn n s3.ns y3 α = α k) → ∀ α, (if fn n s3.ns y3 α then fn n s3.ns 1 α else fn n s3.ns y2 α) = clF n (posA order ((vs.getD i default).l.take (j + 1))) (negA order ((vs.getD i default).l.take (j + 1))) 0 α := fun hg ad3 f3 α => by
        rw [← hcl, f3, fn_1 ad3.ok.wf, clA_s _ _ hj, litA_pos hg hk, fn_ext ad2.ok.wf ad3.ext ad2.lt, hfn2]
        cases α k <;> cases clA order ((vs.getD i default).l.take j) α <;> rfl
      have hjb : j * 20 + 20 ≤ (vs.getD i default).l.length * 20 := by omega
      repeat' first
        | (refine J.isJ ?_; first | (first | (refine J.o 4 ?_; first | refine J.lR hΓ ?_ (hr := Rd.app _ r1) | refine J.lR hΓ ?_ (hr := rbS2 K b0 s2 L) | refine J.lT default hΓ ?_ (hs := hik) (hr := RdH.app _ rT)) | (refine J.fc 59 ?_; refine J.call0 eVarL rfl rfl (fun w hw => varL_any _ w) ?_) | (refine J.o 9 ?_; refine J.lk (a := varI ((vs.getD i default).l.getD j default)) keyedI ekI_inj pm (RdH.app _ rP) hkey hΓ ?_; rw [hget]) | (refine J.fc 58 ?_; refine J.callx eAdd rfl rfl (fun w hw => addv_any ad2.ok k hkn (by omega) hw) ?_; rintro _ _ ⟨s3, y3, rfl, rfl, ad3, f3⟩; have adl3 := ad3.le; have two3 := ad3.ok.wf.two) | (refine J.fc 60 ?_; first | (refine J.callx eCh rfl rfl (fun w hw => ch3_lev ad3.ok y3 0 1 ad3.lt (by omega) (by omega) (lev_not n k) (hN3 ad3.ok f3) (inl_not n k hkn) (by omega) hw) ?_; rintro _ _ ⟨s4, y4, rfl, rfl, ad4, f4⟩; have adl4 := ad4.le; have two4 := ad4.ok.wf.two) | (refine J.callx eCh rfl rfl (fun w hw => ch3_lev ad4.ok y4 1 y2 ad4.lt (by omega) (ad4.old (ad3.old ad2.lt)) (lev_cl n _ _) (hN4 (by omega) ad3 ad4 f3 f4) (inl_cl n _ _) (by omega) hw) ?_; rintro _ _ ⟨s5, y5, rfl, rfl, ad5, f5⟩) | (refine J.callx eCh rfl rfl (fun w hw => ch3_lev ad3.ok y3 1 y2 ad3.lt (by omega) (ad3.old ad2.lt) (lev_cl n _ _) (hN5 (by omega) ad3 f3) (inl_cl n _ _) (by omega) hw) ?_; rintro _ _ ⟨s5, y5, rfl, rfl, ad5, f5⟩))) | (first | (refine J.o 0 ?_; refine J.ev' hΓ ?_) | refine J.nil ?_ | (refine J.o 4 ?_; first | refine J.lT default hΓ ?_ | refine J.lR hΓ ?_) | (refine J.o 3 ?_; first | refine J.iJ hΓ ?_ | refine J.ev' hΓ ?_) | (refine J.o 1 ?_; first | refine J.ad ?_) | (refine J.o 8 ?_; refine J.bd hΓ ?_) | (refine J.o 10 ?_; refine J.ev' hΓ ?_) | (refine J.o 11 ?_; refine J.ev' hΓ ?_)))
        | (first | refine JC.seq ?_ | refine JC.region ?_ | refine JC.block ?_ | refine JC.ret ?_ | refine JC.exit ?_ | refine JC.skip ?_ | refine thenK.nn ?_ | refine thenK.x ?_ | refine blockK.nn ?_ | refine blockK.hit rfl ?_ | (refine JC.cond rfl (fun hc => ?_) (fun hc => ?_) <;> ((try simp only [decide_eq_true_eq, decide_eq_false_iff_not, beq_iff_eq, beq_eq_false_iff_ne, bne_iff_ne, bne_eq_false_iff_eq, Bool.not_eq_true', Bool.not_eq_false', Bool.not_eq_true, Bool.not_eq_false] at hc) <;> first | (first | (exact absurd rfl hc) | (exfalso; omega) | (exact absurd (hc.symm.trans (by assumption : _ = false)) (by decide)) | (exact absurd (hc.symm.trans (by assumption : _ = true)) (by decide))) | skip)) | refine drawK.nn ?_ | refine loopK.x ?_)
        | ((refine JC.drawO [(1,0),(1,1),(0,2),(0,3),(1,4),(0,5),(1,6),(1,7),(0,8),(2,9),(0,10)] (by decide +kernel) (by decide +kernel) ?_))
        | fail
      all_goals first | (exfalso; omega) | skip
      · refine loopK.nn (m2 - 1) (by omega) (by repeat (first | refine Ag.upd rfl ?_ | exact Ag.hv | refine Ag.hv2 (fun i hi => by simp at hi ⊢; omega) ?_)) ⟨j + 1, s5, y5, ?_, rfl, by omega, (((ad2.trans ad3).trans ad4).trans ad5).mono (by omega), fun α => ?_, rfl⟩
        · show Value.int .i64 _ = _; congr 1
        · have h3 := f3 α
          have h4 := f4 α
          have h5 := f5 α
          dsimp only at h3 h4 h5
          rw [h5, hcl]
      · refine loopK.nn (m2 - 1) (by omega) (by repeat (first | refine Ag.upd rfl ?_ | exact Ag.hv | refine Ag.hv2 (fun i hi => by simp at hi ⊢; omega) ?_)) ⟨j + 1, s5, y5, ?_, rfl, by omega, ((ad2.trans ad3).trans ad5).mono (by omega), fun α => ?_, rfl⟩
        · show Value.int .i64 _ = _; congr 1
        · have h3 := f3 α
          have h5 := f5 α
          dsimp only at h3 h5
          rw [h5, hcl]
    ·
      repeat' first
        | (refine J.isJ ?_; first | (first | (refine J.o 4 ?_; refine J.lR hΓ ?_ (hr := Rd.app _ r1)) | (refine J.fc 60 ?_; refine J.callx eCh rfl rfl (fun w hw => ch3_any ad2.ok y y2 0 (ad2.old ad.lt) ad2.lt (by omega) (by omega) hw) ?_; rintro _ _ ⟨s3, y3, rfl, rfl, ad3, f3⟩)) | (first | (refine J.o 0 ?_; refine J.ev' hΓ ?_) | refine J.nil ?_ | (refine J.o 4 ?_; first | refine J.lT default hΓ ?_ | refine J.lR hΓ ?_) | (refine J.o 3 ?_; first | refine J.iJ hΓ ?_ | refine J.ev' hΓ ?_) | (refine J.o 1 ?_; first | refine J.ad ?_) | (refine J.o 8 ?_; refine J.bd hΓ ?_) | (refine J.o 10 ?_; refine J.ev' hΓ ?_) | (refine J.o 11 ?_; refine J.ev' hΓ ?_)))
        | (first | refine JC.seq ?_ | refine JC.region ?_ | refine JC.block ?_ | refine JC.ret ?_ | refine JC.exit ?_ | refine JC.skip ?_ | refine thenK.nn ?_ | refine thenK.x ?_ | refine blockK.nn ?_ | refine blockK.hit rfl ?_ | (refine JC.cond rfl (fun hc => ?_) (fun hc => ?_) <;> ((try simp only [decide_eq_true_eq, decide_eq_false_iff_not, beq_iff_eq, beq_eq_false_iff_ne, bne_iff_ne, bne_eq_false_iff_eq, Bool.not_eq_true', Bool.not_eq_false', Bool.not_eq_true, Bool.not_eq_false] at hc) <;> first | (first | (exact absurd rfl hc) | (exfalso; omega) | (exact absurd (hc.symm.trans (by assumption : _ = false)) (by decide)) | (exact absurd (hc.symm.trans (by assumption : _ = true)) (by decide))) | skip)) | refine drawK.nn ?_ | refine loopK.x ?_)
        | (fail)
        | fail
      all_goals first | (exfalso; omega) | skip
      rw [List.take_of_length_le hj] at hfn2
      have hje : j = (vs.getD i default).l.length := by omega
      subst hje
      refine loopK.nn (m - 1) (by omega) (by repeat (first | refine Ag.upd rfl ?_ | exact Ag.hv | refine Ag.hv2 (fun i hi => by simp at hi ⊢; omega) ?_)) ⟨i + 1, s3, y3, ?_, rfl, by omega, ((ad.trans ad2).trans ad3).mono (by omega), fun α => ?_, rfl⟩
      · show Value.int .i64 _ = _; congr 1
      · have h3 := f3 α
        dsimp only at h3
        rw [h3, thA_s _ _ hlt, fn_0 ad2.ok.wf, fn_ext ad.ok.wf ad2.ext ad.lt, hfn, hfn2]
        cases thA order ((vs.take i).map (·.l)) α <;> rfl
  ·
    repeat' first
      | (refine J.isJ ?_; first | (fail) | (first | (refine J.o 0 ?_; refine J.ev' hΓ ?_) | refine J.nil ?_ | (refine J.o 4 ?_; first | refine J.lT default hΓ ?_ | refine J.lR hΓ ?_) | (refine J.o 3 ?_; first | refine J.iJ hΓ ?_ | refine J.ev' hΓ ?_) | (refine J.o 1 ?_; first | refine J.ad ?_) | (refine J.o 8 ?_; refine J.bd hΓ ?_) | (refine J.o 10 ?_; refine J.ev' hΓ ?_) | (refine J.o 11 ?_; refine J.ev' hΓ ?_)))
      | (first | refine JC.seq ?_ | refine JC.region ?_ | refine JC.block ?_ | refine JC.ret ?_ | refine JC.exit ?_ | refine JC.skip ?_ | refine thenK.nn ?_ | refine thenK.x ?_ | refine blockK.nn ?_ | refine blockK.hit rfl ?_ | (refine JC.cond rfl (fun hc => ?_) (fun hc => ?_) <;> ((try simp only [decide_eq_true_eq, decide_eq_false_iff_not, beq_iff_eq, beq_eq_false_iff_ne, bne_iff_ne, bne_eq_false_iff_eq, Bool.not_eq_true', Bool.not_eq_false', Bool.not_eq_true, Bool.not_eq_false] at hc) <;> first | (first | (exact absurd rfl hc) | (exfalso; omega) | (exact absurd (hc.symm.trans (by assumption : _ = false)) (by decide)) | (exact absurd (hc.symm.trans (by assumption : _ = true)) (by decide))) | skip)) | refine drawK.nn ?_ | refine loopK.x ?_)
      | (fail)
      | fail
    all_goals first | (exfalso; omega) | skip
    rw [List.take_of_length_le hge] at hfn ad
    refine ret1f rfl rfl rfl (fun w1 hw => ⟨_, _, rfl, hw, s1, y, rfl, rfl, ad, hfn⟩)
theorem cnt_all : ∀ k, k ≤ 128 → cntS (allS k) = k
  | 0, _ => by unfold cntS allS; rw [pc_zero]
  | k + 1, h => by
    have hh : hasB (allS k) ((k : Int) + 1) = false := by
      cases hh : hasB (allS k) ((k : Int) + 1) with
      | false => rfl
      | true => exact absurd ((has_all k _ (by omega)).1 hh) (by omega)
    rw [allS, cnt_with, cnt_all k (by omega), if_pos ⟨by omega, by omega, hh⟩]
theorem ord_of {l : List Int} {N : Nat} (hN : N ≤ 128) (h1 : l.length = N) (h2 : ofS l = allS N) : okOrd l := by
  rw [← ord_iff, h2, cnt_all N hN, h1]
theorem ord_rk {l : List Int} {N : Nat} (hN : N ≤ 128) (h2 : ofS l = allS N) {u : Int} (hu : 1 ≤ u ∧ u ≤ N) : ∃ k, rk l u 0 = some k := by
  cases h : rk l u 0 with
  | some k => exact ⟨k, rfl⟩
  | none =>
    rw [rk_none] at h
    have h3 := (has_all N u hN).2 hu
    rw [← h2] at h3
    unfold ofS at h3
    rcases (ofS_has l (0, 0) u).1 h3 with h4 | h4
    · rw [has_zero] at h4; cases h4
    · exact absurd h4.1 h
theorem varI_ok {x : Int} {N : Nat} (hN : N ≤ 128) (h : x ≠ 0 ∧ -(N : Int) ≤ x ∧ x ≤ N) : 1 ≤ varI x ∧ varI x ≤ N := by
  unfold varI; split <;> (try split) <;> omega
theorem compile_any (N : Nat) (l : List Int) (a : Option Addr) (c : Nat) (h : Heap) (hs : SlT encI 1 a l h) (aT : Option Addr) (cap : Nat) (vs : List HV) (hT : Heap) (ll : LLR aT vs hT) (hth : thE N (vs.map (·.l)) = 0) (hlen : l.length = N) (hof : ofS l = allS N) (h8 : N ≤ 8) (hcost : 2 + costT (vs.map (·.l)) ≤ 1048576) {w0 w : World} {R : Heap} {L : List Heap} (hr : RdH R L h) (rT : RdH R L hT) (hw : H w0 R L w) :
    Calls Try.prog 16 #[.agg ⟨[.int .i64 (N : Int), .slice aT vs.length cap]⟩, .slice a l.length c] w fun e w' => ∃ v L', e = .returned v ∧ H w0 R L' w' ∧ ∃ b K s y hO hP, v = .tuple #[.pointer (some ⟨b, 0, none⟩), .int .i64 ((y : Nat) : Int), .int .i64 0] ∧ L' = sF K b s ++ (hO :: hP :: L) ∧ SOk N K s ∧ POk K l hO hP ∧ y < s.ns.length ∧ (∀ α, fn N s.ns y α = thA l (vs.map (·.l)) α) ∧ s.ns.length ≤ 2 + costT (vs.map (·.l)) := by
  have cT := fun w hw => tcheck_any (N : Int) aT cap vs hT ll w hw
  rw [hth] at cT
  have ho := ord_of (by omega) hlen hof
  have hv := (thE_ok.1 hth).2.2
  subst hlen
  have hlit : ∀ v ∈ vs, ∀ x ∈ v.l, ∃ k, rk l (varI x) 0 = some k := fun v hvm x hx => ord_rk (by omega) hof (varI_ok (by omega) ((hv v.l (List.mem_map_of_mem hvm)).2 x hx))
  have cO := fun w hw => of_any a c l h hs (by omega) w hw
  have cA := fun w => all_any l.length (by omega) w
  have hofd : decide (ofS l = allS l.length) = true := decide_eq_true hof
  refine calls_in Try.func16 Try.ntmps16 rfl rfl (hw) ?_
  repeat' first
    | (refine J.isJ ?_; first | (first | (refine J.o 6 ?_; refine J.bx (fun c2 => ?_)) | (refine J.o 4 ?_; first | refine J.lR hΓ ?_ (hr := Rd.hd)) | (refine J.fc 53 ?_; refine J.call0 eTCheck rfl rfl (fun w hw => cT w (hw.rdH rT.tl)) ?_) | (refine J.fc 54 ?_; refine J.call0 eOf rfl rfl (fun w hw => cO w (hw.rdH hr.tl)) ?_) | (refine J.fc 55 ?_; refine J.call0 eAllV rfl rfl (fun w hw => cA w) ?_) | (refine J.o 11 ?_; refine J.nA (a := ofS l) (b := allS l.length) hΓ ?_; rw [hofd]) | (refine J.fc 25 ?_; refine J.callx eNew rfl rfl (fun w hw => new_any l a c h hs ho hr.tl hw) ?_; rintro _ _ ⟨b0, K, s, hO, hP, rfl, rfl, so, hns, po⟩; have hn2 : s.ns.length = 2 := (by rw [hns]; rfl); unfold sF; simp only [List.cons_append, List.nil_append]) | (refine J.o 7 ?_; refine J.al hΓ (fun c8 => ?_)) | (refine J.o 14 ?_; refine J.mfV [.pointer (some ⟨c2, 0, none⟩), .pointer (some ⟨c8, 0, none⟩)] hΓ ?_) | (refine J.fc 56 ?_; refine J.callx eTry rfl rfl (fun w hw => try_any so (Q := fun s' y => Res l.length K s s' (costT (vs.map (·.l))) y (thA l (vs.map (·.l)))) eComC [] none 0 [] (slNil _) (by show 0 ≤ 1000; omega) (L := [(c8, ptrS b0)] :: hO :: hP :: [(c2, thO (l.length : Int) aT vs.length cap)] :: L) (fun x hx => by cases hx) rfl (fun Lx w hw => comC_any so po h8 (l.length : Int) aT cap vs hT ll hlit (by omega) (RdH.app Lx rT.tl.tl.tl.tl) (RdH.app Lx RdH.hd.tl.tl) (Rd.app Lx Rd.hd.tl.tl.tl) (Rd.app Lx Rd.hd) hw) (H.sel (l := [_, _, _, _, _, _, _, _]) (M := L) hw [1, 2, 3, 4, 0, 5, 6, 7])) ?_; rintro _ _ ⟨s1, y1, rfl, rfl, ad1, f1⟩; unfold ptrS) | (refine J.o 4 ?_; refine J.lR hΓ ?_ (hr := Rd.app _ Rd.hd))) | (first | (refine J.o 0 ?_; refine J.ev' hΓ ?_) | refine J.nil ?_ | (refine J.o 4 ?_; first | refine J.lR hΓ ?_) | (refine J.o 3 ?_; first | refine J.ev' hΓ ?_) | (refine J.o 5 ?_; first | refine J.t0 hΓ ?_) | (refine J.o 6 ?_; refine J.bx (fun _ => ?_)) | (refine J.o 7 ?_; refine J.al hΓ (fun _ => ?_)) | (refine J.o 10 ?_; refine J.ev' hΓ ?_) | (refine J.o 11 ?_; refine J.ev' hΓ ?_)) | ((fail_if_success refine J.wt ?_); refine J.gc rfl rfl (fun hc => ?_) (fun hc => ?_) <;> ((try simp only [decide_eq_true_eq, decide_eq_false_iff_not, beq_iff_eq, beq_eq_false_iff_ne, bne_iff_ne, bne_eq_false_iff_eq, Bool.not_eq_true', Bool.not_eq_false', Bool.not_eq_true, Bool.not_eq_false] at hc) <;> first | (first | (exact absurd rfl hc) | (exfalso; omega) | (exact absurd (hc.symm.trans (by assumption : _ = false)) (by decide)) | (exact absurd (hc.symm.trans (by assumption : _ = true)) (by decide))) | skip)))
    | (first | refine JC.seq ?_ | refine JC.region ?_ | refine JC.ret ?_ | refine JC.skip ?_ | refine thenK.nn ?_ | refine JC.condF rfl ?_ | refine drawK.nn ?_)
    | ((refine JC.drawW [] [] (by kernel_rfl) (by kernel_rfl) ?_))
    | fail
  all_goals first | (exfalso; omega) | skip
  refine ret3f rfl rfl rfl rfl rfl rfl rfl (fun w1 hw => ⟨_, _, rfl, H.sel (l := [_, _, _, _, _, _, _, _]) (M := L) hw [0, 1, 2, 3, 5, 6], b0, K, s1, y1, hO, hP, rfl, rfl, ad1.ok, po, ad1.lt, f1, by have := ad1.le; have h2 : s.ns.length = 2 := (by rw [hns]; rfl); omega⟩)
end Go.Proofs.Ytbhgahjeocnfcaa
namespace Go.Proofs.Ytbhgahjeocnfcaa
open Go Go.Cx Go.RowKit
set_option linter.unusedVariables false
set_option linter.unusedSimpArgs false
set_option maxHeartbeats 4000000
attribute [local irreducible] J JC thenK blockK loopK roundK drawK retK QW Qt pel List.set Calls
set_option maxRecDepth 8000
attribute [local irreducible] JE Br eK0 eK3 brK pc
def ints : Nat → List Int
  | 0 => []
  | k + 1 => ints k ++ [(k : Int) + 1]
theorem ints_mem : ∀ (k : Nat) (u : Int), u ∈ ints k ↔ 1 ≤ u ∧ u ≤ k
  | 0, u => by simp [ints]; omega
  | k + 1, u => by
    rw [ints, List.mem_append, ints_mem k u, List.mem_singleton]
    constructor
    · rintro (h | h) <;> omega
    · intro h; by_cases hu : u = k + 1
      · exact .inr hu
      · exact .inl ⟨h.1, by omega⟩
theorem ints_succ (k : Nat) : ints (k + 1) = ints k ++ [(k : Int) + 1] := rfl
attribute [local irreducible] ints
end Go.Proofs.Ytbhgahjeocnfcaa
namespace Go.Proofs.Ytbhgahjeocnfcaa
open Go Go.Cx Go.RowKit
set_option linter.unusedVariables false
set_option linter.unusedSimpArgs false
set_option maxHeartbeats 4000000
attribute [local irreducible] J JC thenK blockK loopK roundK drawK retK QW Qt pel List.set Calls
open Go.Maps Go.Lib
set_option maxRecDepth 8000
attribute [local irreducible] JE Br eK0 eK3 brK pc
theorem eUpTo : Entr Try.prog 50 := Entr.of Try.func50 rfl rfl
theorem eOrder31 : Entr Try.prog 15 := Entr.of Try.func15 rfl rfl
theorem eSame3 : Entr Try.prog 18 := Entr.of Try.func18 rfl rfl
theorem ints_len : ∀ n, (ints n).length = n
  | 0 => by unfold ints; rfl
  | n + 1 => by rw [ints_succ, List.length_append, ints_len n]; rfl
theorem upTo_any (n : Nat) (hn : n ≤ 1000) (w : World) : Calls Try.prog 50 #[.int .i64 (n : Int)] w (Gives (Sls encI 1 3 (ints n)) w) := by
  refine calls_of_JC (R := []) Try.func50 Try.ntmps50 rfl rfl (Holds.nil _) ?_
  repeat' first
    | (refine J.isJ ?_; first | (fail) | (first | (refine J.o 0 ?_; refine J.ev' hΓ ?_) | refine J.nil ?_ | (refine J.o 3 ?_; first | refine J.ev' hΓ ?_) | (refine J.o 1 ?_; first | refine J.ad ?_) | (refine J.o 9 ?_; refine J.bl hΓ (fun _ => ?_)) | (refine J.o 10 ?_; refine J.ev' hΓ ?_) | (refine J.o 11 ?_; refine J.ev' hΓ ?_)))
    | (first | refine JC.seq ?_ | refine JC.region ?_ | refine JC.block ?_ | refine JC.ret ?_ | refine JC.exit ?_ | refine JC.skip ?_ | refine thenK.nn ?_ | refine thenK.x ?_ | refine blockK.nn ?_ | refine blockK.hit rfl ?_ | (refine JC.cond rfl (fun hc => ?_) (fun hc => ?_) <;> ((try simp only [decide_eq_true_eq, decide_eq_false_iff_not, beq_iff_eq, beq_eq_false_iff_ne, bne_iff_ne, bne_eq_false_iff_eq, Bool.not_eq_true', Bool.not_eq_false', Bool.not_eq_true, Bool.not_eq_false] at hc) <;> first | (first | (exact absurd rfl hc) | (exfalso; omega) | (exact absurd (hc.symm.trans (by assumption : _ = false)) (by decide)) | (exact absurd (hc.symm.trans (by assumption : _ = true)) (by decide))) | skip)) | refine loopK.x ?_)
    | (fail)
    | fail
  all_goals first | (exfalso; omega) | skip
  refine JC.nilF ?_
  refine JC.loop (fun i => i == 3 || i == 4 || Nat.ble 5 i) (fun m g L => ∃ (k : Nat) (a : Option Addr) (c : Nat) (h : Heap), g 4 = .int .i64 ((k + 1 : Nat) : Int) ∧ g 3 = .slice a (ints k).length c ∧ k + m = n ∧ OwT encI 1 3 a c (ints k) h ∧ L = [h]) n ⟨0, none, 0, [], rfl, by unfold ints; rfl, by omega, by unfold ints; exact OwT.nil (fun _ => rfl), rfl⟩ ?_
  rintro m g L ⟨k, a, c, h, e4, e3, hkm, oo, rfl⟩
  refine JC.pin 4 e4 (JC.pin 3 e3 ?_)
  have hil := ints_len k
  rcases Nat.lt_or_ge k n with hk | hk
  ·
    have hs := ints_succ k
    repeat' first
      | (refine J.isJ ?_; first | ((refine J.o 9 ?_; first | (first | (refine J.ap1 (enc := encI) [((k + 1 : Nat) : Int)] hΓ (fun a2 c2 h2 o2 => ?_))))) | (first | (refine J.o 0 ?_; refine J.ev' hΓ ?_) | refine J.nil ?_ | (refine J.o 3 ?_; first | refine J.ev' hΓ ?_) | (refine J.o 1 ?_; first | refine J.ad ?_) | (refine J.o 9 ?_; refine J.bl hΓ (fun _ => ?_)) | (refine J.o 10 ?_; refine J.ev' hΓ ?_) | (refine J.o 11 ?_; refine J.ev' hΓ ?_)))
      | (first | refine JC.seq ?_ | refine JC.region ?_ | refine JC.block ?_ | refine JC.ret ?_ | refine JC.exit ?_ | refine JC.skip ?_ | refine thenK.nn ?_ | refine thenK.x ?_ | refine blockK.nn ?_ | refine blockK.hit rfl ?_ | (refine JC.cond rfl (fun hc => ?_) (fun hc => ?_) <;> ((try simp only [decide_eq_true_eq, decide_eq_false_iff_not, beq_iff_eq, beq_eq_false_iff_ne, bne_iff_ne, bne_eq_false_iff_eq, Bool.not_eq_true', Bool.not_eq_false', Bool.not_eq_true, Bool.not_eq_false] at hc) <;> first | (first | (exact absurd rfl hc) | (exfalso; omega) | (exact absurd (hc.symm.trans (by assumption : _ = false)) (by decide)) | (exact absurd (hc.symm.trans (by assumption : _ = true)) (by decide))) | skip)) | refine loopK.x ?_)
      | (fail)
      | fail
    all_goals first | (exfalso; omega) | skip
    have e : ints k ++ [((k + 1 : Nat) : Int)] = ints (k + 1) := hs.symm
    rw [e] at o2
    refine loopK.nn (m - 1) (by omega) (by repeat (first | refine Ag.upd rfl ?_ | exact Ag.hv)) ⟨k + 1, a2, c2, h2, ?_, ?_, by omega, o2, rfl⟩
    · show Value.int .i64 _ = _; congr 1
    · show Value.slice _ _ _ = _; rw [e]
  ·
    obtain rfl : k = n := by omega
    repeat' first
      | (refine J.isJ ?_; first | (fail) | (first | (refine J.o 0 ?_; refine J.ev' hΓ ?_) | refine J.nil ?_ | (refine J.o 3 ?_; first | refine J.ev' hΓ ?_) | (refine J.o 1 ?_; first | refine J.ad ?_) | (refine J.o 9 ?_; refine J.bl hΓ (fun _ => ?_)) | (refine J.o 10 ?_; refine J.ev' hΓ ?_) | (refine J.o 11 ?_; refine J.ev' hΓ ?_)))
      | (first | refine JC.seq ?_ | refine JC.region ?_ | refine JC.block ?_ | refine JC.ret ?_ | refine JC.exit ?_ | refine JC.skip ?_ | refine thenK.nn ?_ | refine thenK.x ?_ | refine blockK.nn ?_ | refine blockK.hit rfl ?_ | (refine JC.cond rfl (fun hc => ?_) (fun hc => ?_) <;> ((try simp only [decide_eq_true_eq, decide_eq_false_iff_not, beq_iff_eq, beq_eq_false_iff_ne, bne_iff_ne, bne_eq_false_iff_eq, Bool.not_eq_true', Bool.not_eq_false', Bool.not_eq_true, Bool.not_eq_false] at hc) <;> first | (first | (exact absurd rfl hc) | (exfalso; omega) | (exact absurd (hc.symm.trans (by assumption : _ = false)) (by decide)) | (exact absurd (hc.symm.trans (by assumption : _ = true)) (by decide))) | skip)) | refine loopK.x ?_)
      | (fail)
      | fail
    all_goals first | (exfalso; omega) | skip
    exact ret1f rfl rfl rfl (fun w1 hw => Gives.of hw ⟨_, _, rfl, oo⟩)
def smallP (n : Int) (N : Int) (T : List (List Int)) : Prop := 0 ≤ N ∧ N ≤ n ∧ T.length ≤ 30 ∧ (∀ c ∈ T, c.length ≤ 10) ∧ thE N T = 0
instance (n N : Int) (T : List (List Int)) : Decidable (smallP n N T) := by unfold smallP; exact inferInstance
theorem same3_any (f g : List Int) (af ag : Option Addr) (cf cg : Nat) (h : Heap) (sf : SlT encI 1 af f h) (sg : SlT encI 1 ag g h) (hl : f.length ≤ 100000) (hl2 : g.length ≤ 100000) (w : World) (hw1 : Holds h w) :
    Calls Try.prog 18 #[.slice af f.length cf, .slice ag g.length cg] w fun e w' => e = .returned (.bool (decide (f = g))) ∧ Below w.heap.size w w' := by
  have q0 : ∀ L, RdH h L h := fun L => RdH.old fun _ hh => hh
  by_cases hlen : f.length = g.length
  case neg =>
    rw [decide_eq_false (fun e => hlen (by rw [e]))]
    refine calls_of_JC (R := h) Try.func18 Try.ntmps18 rfl rfl (hw1) ?_
    repeat' first
      | (refine J.isJ ?_; first | (fail) | (first | (refine J.o 0 ?_; refine J.ev' hΓ ?_) | refine J.nil ?_ | (refine J.o 4 ?_; first | refine J.lT default hΓ ?_) | (refine J.o 3 ?_; first | refine J.iJ hΓ ?_ | refine J.ev' hΓ ?_) | (refine J.o 1 ?_; first | refine J.ad ?_) | (refine J.o 10 ?_; refine J.ev' hΓ ?_) | (refine J.o 11 ?_; refine J.ev' hΓ ?_)))
      | (first | refine JC.seq ?_ | refine JC.region ?_ | refine JC.block ?_ | refine JC.ret ?_ | refine JC.exit ?_ | refine JC.skip ?_ | refine thenK.nn ?_ | refine thenK.r ?_ | refine thenK.x ?_ | refine blockK.nn ?_ | refine blockK.r ?_ | refine blockK.hit rfl ?_ | refine JC.condT rfl ?_ | refine JC.condF rfl ?_ | (refine JC.cond rfl (fun hc => ?_) (fun hc => ?_) <;> ((try simp only [decide_eq_true_eq, decide_eq_false_iff_not, beq_iff_eq, beq_eq_false_iff_ne, bne_iff_ne, bne_eq_false_iff_eq, Bool.not_eq_true', Bool.not_eq_false', Bool.not_eq_true, Bool.not_eq_false] at hc) <;> first | (first | (exact absurd rfl hc) | (exfalso; omega) | (exact absurd (hc.symm.trans (by assumption : _ = false)) (by decide)) | (exact absurd (hc.symm.trans (by assumption : _ = true)) (by decide))) | skip)) | refine drawK.nn ?_ | refine loopK.r ?_ | refine loopK.x ?_)
      | (fail)
      | fail
    all_goals first | (exfalso; omega) | skip
    all_goals (refine ret1f rfl rfl rfl (fun w1 hw => ⟨rfl, hw.below⟩))
  refine calls_of_JC (R := h) Try.func18 Try.ntmps18 rfl rfl (hw1) ?_
  repeat' first
    | (refine J.isJ ?_; first | (fail) | (first | (refine J.o 0 ?_; refine J.ev' hΓ ?_) | refine J.nil ?_ | (refine J.o 4 ?_; first | refine J.lT default hΓ ?_) | (refine J.o 3 ?_; first | refine J.iJ hΓ ?_ | refine J.ev' hΓ ?_) | (refine J.o 1 ?_; first | refine J.ad ?_) | (refine J.o 10 ?_; refine J.ev' hΓ ?_) | (refine J.o 11 ?_; refine J.ev' hΓ ?_)))
    | (first | refine JC.seq ?_ | refine JC.region ?_ | refine JC.block ?_ | refine JC.ret ?_ | refine JC.exit ?_ | refine JC.skip ?_ | refine thenK.nn ?_ | refine thenK.r ?_ | refine thenK.x ?_ | refine blockK.nn ?_ | refine blockK.r ?_ | refine blockK.hit rfl ?_ | refine JC.condT rfl ?_ | refine JC.condF rfl ?_ | (refine JC.cond rfl (fun hc => ?_) (fun hc => ?_) <;> ((try simp only [decide_eq_true_eq, decide_eq_false_iff_not, beq_iff_eq, beq_eq_false_iff_ne, bne_iff_ne, bne_eq_false_iff_eq, Bool.not_eq_true', Bool.not_eq_false', Bool.not_eq_true, Bool.not_eq_false] at hc) <;> first | (first | (exact absurd rfl hc) | (exfalso; omega) | (exact absurd (hc.symm.trans (by assumption : _ = false)) (by decide)) | (exact absurd (hc.symm.trans (by assumption : _ = true)) (by decide))) | skip)) | refine drawK.nn ?_ | refine loopK.r ?_ | refine loopK.x ?_)
    | (fail)
    | fail
  all_goals first | (exfalso; omega) | skip
  refine JC.loop (fun i => i == 4 || i == 5 || Nat.ble 11 i) (fun m gg L => ∃ q : Nat, gg 5 = .int .i64 (q : Int) ∧ q + m = f.length ∧ (∀ j, j < q → f.getD j default = g.getD j default) ∧ L = []) f.length ⟨0, rfl, by omega, fun j hj => absurd hj (Nat.not_lt_zero _), rfl⟩ ?_
  rintro m gg L ⟨q, e5, hqm, heq, rfl⟩
  refine JC.pin 5 e5 ?_
  rcases Nat.lt_or_ge q f.length with hq | hq
  ·
    by_cases hx : f.getD q default = g.getD q default
    ·
      have hd : (f.getD q default != g.getD q default) = false := by rw [hx]; simp
      repeat' first
        | (refine J.isJ ?_; first | (first | (refine J.o 3 ?_; first | refine J.iJ hΓ ?_ (hs := sf) | refine J.iJ hΓ ?_ (hs := sg)) | (refine J.o 4 ?_; first | refine J.lT default hΓ ?_ (hs := sf) (hr := q0 _) | refine J.lT default hΓ ?_ (hs := sg) (hr := q0 _)) | (refine J.o 11 ?_; refine J.ev' hΓ ?_; rw [hd])) | (first | (refine J.o 0 ?_; refine J.ev' hΓ ?_) | refine J.nil ?_ | (refine J.o 4 ?_; first | refine J.lT default hΓ ?_) | (refine J.o 3 ?_; first | refine J.iJ hΓ ?_ | refine J.ev' hΓ ?_) | (refine J.o 1 ?_; first | refine J.ad ?_) | (refine J.o 10 ?_; refine J.ev' hΓ ?_) | (refine J.o 11 ?_; refine J.ev' hΓ ?_)))
        | (first | refine JC.seq ?_ | refine JC.region ?_ | refine JC.block ?_ | refine JC.ret ?_ | refine JC.exit ?_ | refine JC.skip ?_ | refine thenK.nn ?_ | refine thenK.r ?_ | refine thenK.x ?_ | refine blockK.nn ?_ | refine blockK.r ?_ | refine blockK.hit rfl ?_ | refine JC.condT rfl ?_ | refine JC.condF rfl ?_ | (refine JC.cond rfl (fun hc => ?_) (fun hc => ?_) <;> ((try simp only [decide_eq_true_eq, decide_eq_false_iff_not, beq_iff_eq, beq_eq_false_iff_ne, bne_iff_ne, bne_eq_false_iff_eq, Bool.not_eq_true', Bool.not_eq_false', Bool.not_eq_true, Bool.not_eq_false] at hc) <;> first | (first | (exact absurd rfl hc) | (exfalso; omega) | (exact absurd (hc.symm.trans (by assumption : _ = false)) (by decide)) | (exact absurd (hc.symm.trans (by assumption : _ = true)) (by decide))) | skip)) | refine drawK.nn ?_ | refine loopK.r ?_ | refine loopK.x ?_)
        | ((refine JC.drawW [] [] (by kernel_rfl) (by kernel_rfl) ?_))
        | fail
      all_goals first | (exfalso; omega) | skip
      refine loopK.nn (m - 1) (by omega) (by repeat (first | refine Ag.upd rfl ?_ | exact Ag.hv)) ⟨q + 1, ?_, by omega, fun j hj => ?_, rfl⟩
      · show Value.int .i64 _ = _; congr 1
      · rcases Nat.lt_or_ge j q with g1 | g1
        · exact heq j g1
        · obtain rfl : j = q := by omega
          exact hx
    ·
      have hd : (f.getD q default != g.getD q default) = true := by simpa using hx
      rw [decide_eq_false (fun e => hx (by rw [e]))]
      repeat' first
        | (refine J.isJ ?_; first | (first | (refine J.o 3 ?_; first | refine J.iJ hΓ ?_ (hs := sf) | refine J.iJ hΓ ?_ (hs := sg)) | (refine J.o 4 ?_; first | refine J.lT default hΓ ?_ (hs := sf) (hr := q0 _) | refine J.lT default hΓ ?_ (hs := sg) (hr := q0 _)) | (refine J.o 11 ?_; refine J.ev' hΓ ?_; rw [hd])) | (first | (refine J.o 0 ?_; refine J.ev' hΓ ?_) | refine J.nil ?_ | (refine J.o 4 ?_; first | refine J.lT default hΓ ?_) | (refine J.o 3 ?_; first | refine J.iJ hΓ ?_ | refine J.ev' hΓ ?_) | (refine J.o 1 ?_; first | refine J.ad ?_) | (refine J.o 10 ?_; refine J.ev' hΓ ?_) | (refine J.o 11 ?_; refine J.ev' hΓ ?_)))
        | (first | refine JC.seq ?_ | refine JC.region ?_ | refine JC.block ?_ | refine JC.ret ?_ | refine JC.exit ?_ | refine JC.skip ?_ | refine thenK.nn ?_ | refine thenK.r ?_ | refine thenK.x ?_ | refine blockK.nn ?_ | refine blockK.r ?_ | refine blockK.hit rfl ?_ | refine JC.condT rfl ?_ | refine JC.condF rfl ?_ | (refine JC.cond rfl (fun hc => ?_) (fun hc => ?_) <;> ((try simp only [decide_eq_true_eq, decide_eq_false_iff_not, beq_iff_eq, beq_eq_false_iff_ne, bne_iff_ne, bne_eq_false_iff_eq, Bool.not_eq_true', Bool.not_eq_false', Bool.not_eq_true, Bool.not_eq_false] at hc) <;> first | (first | (exact absurd rfl hc) | (exfalso; omega) | (exact absurd (hc.symm.trans (by assumption : _ = false)) (by decide)) | (exact absurd (hc.symm.trans (by assumption : _ = true)) (by decide))) | skip)) | refine drawK.nn ?_ | refine loopK.r ?_ | refine loopK.x ?_)
        | ((refine JC.drawW [] [] (by kernel_rfl) (by kernel_rfl) ?_))
        | fail
      all_goals first | (exfalso; omega) | skip
      all_goals (refine ret1f rfl rfl rfl (fun w1 hw => ⟨rfl, hw.below⟩))
  ·
    have he : f = g := by
      refine List.ext_getElem hlen fun i h1 h2 => ?_
      have := heq i (by omega)
      rw [List.getD_eq_getElem?_getD, List.getD_eq_getElem?_getD, List.getElem?_eq_getElem h1, List.getElem?_eq_getElem h2] at this
      exact this
    rw [decide_eq_true he]
    repeat' first
      | (refine J.isJ ?_; first | (fail) | (first | (refine J.o 0 ?_; refine J.ev' hΓ ?_) | refine J.nil ?_ | (refine J.o 4 ?_; first | refine J.lT default hΓ ?_) | (refine J.o 3 ?_; first | refine J.iJ hΓ ?_ | refine J.ev' hΓ ?_) | (refine J.o 1 ?_; first | refine J.ad ?_) | (refine J.o 10 ?_; refine J.ev' hΓ ?_) | (refine J.o 11 ?_; refine J.ev' hΓ ?_)))
      | (first | refine JC.seq ?_ | refine JC.region ?_ | refine JC.block ?_ | refine JC.ret ?_ | refine JC.exit ?_ | refine JC.skip ?_ | refine thenK.nn ?_ | refine thenK.r ?_ | refine thenK.x ?_ | refine blockK.nn ?_ | refine blockK.r ?_ | refine blockK.hit rfl ?_ | refine JC.condT rfl ?_ | refine JC.condF rfl ?_ | (refine JC.cond rfl (fun hc => ?_) (fun hc => ?_) <;> ((try simp only [decide_eq_true_eq, decide_eq_false_iff_not, beq_iff_eq, beq_eq_false_iff_ne, bne_iff_ne, bne_eq_false_iff_eq, Bool.not_eq_true', Bool.not_eq_false', Bool.not_eq_true, Bool.not_eq_false] at hc) <;> first | (first | (exact absurd rfl hc) | (exfalso; omega) | (exact absurd (hc.symm.trans (by assumption : _ = false)) (by decide)) | (exact absurd (hc.symm.trans (by assumption : _ = true)) (by decide))) | skip)) | refine drawK.nn ?_ | refine loopK.r ?_ | refine loopK.x ?_)
      | (fail)
      | fail
    all_goals first | (exfalso; omega) | skip
    all_goals (refine ret1f rfl rfl rfl (fun w1 hw => ⟨rfl, hw.below⟩))
end Go.Proofs.Ytbhgahjeocnfcaa
namespace Go.Proofs.Ytbhgahjeocnfcaa
open Go Go.Cx Go.RowKit
set_option linter.unusedVariables false
set_option linter.unusedSimpArgs false
set_option maxHeartbeats 4000000
attribute [local irreducible] J JC thenK blockK loopK roundK drawK retK QW Qt pel List.set Calls
open Go.Maps Go.Lib
set_option maxRecDepth 8000
attribute [local irreducible] JE Br eK0 eK3 brK pc
def mapD (b : Nat) : Obj := .cells ⟨[.map (some b)]⟩ 40 (0, 0)
end Go.Proofs.Ytbhgahjeocnfcaa
namespace Go.Proofs.Ytbhgahjeocnfcaa
open Go Go.Cx Go.RowKit
set_option linter.unusedVariables false
set_option linter.unusedSimpArgs false
set_option maxHeartbeats 4000000
attribute [local irreducible] J JC thenK blockK loopK roundK drawK retK QW Qt pel List.set Calls
open Go.Maps Go.Lib
set_option maxRecDepth 8000
attribute [local irreducible] JE Br eK0 eK3 brK pc
abbrev BF := (Nat → Bool) → Bool
end Go.Proofs.Ytbhgahjeocnfcaa
namespace Go.Proofs.Ytbhgahjeocnfcaa
open Go Go.Cx Go.RowKit
set_option linter.unusedVariables false
set_option linter.unusedSimpArgs false
set_option maxHeartbeats 4000000
attribute [local irreducible] J JC thenK blockK loopK roundK drawK retK QW Qt pel List.set Calls
open Go.Maps Go.Lib
set_option maxRecDepth 8000
attribute [local irreducible] JE Br eK0 eK3 brK pc
theorem natI_len (l : List Nat) : (natI l).length = l.length := List.length_map _
theorem lvls_len (n : Nat) (ns : List N3) (i : Nat) : ∀ m, ((List.range m).flatMap (lvl n ns i)).length = 2 ^ m - 1
  | 0 => rfl
  | m + 1 => by
    have := Nat.one_le_two_pow (n := m)
    rw [List.range_succ, List.flatMap_append, List.length_append, lvls_len n ns i m, List.flatMap_cons, List.flatMap_nil, List.append_nil, lvl_len, Nat.pow_succ]; omega
theorem rch_len {n : Nat} {ns : List N3} (w : WF n ns) {i : Nat} (hi : i < ns.length) {A : List Nat} (hn : A.Nodup) (h : ∀ x ∈ A, Rch ns i x) : A.length ≤ 2 ^ n + 1 := by
  have hs : ∀ x ∈ A, x ∈ 0 :: 1 :: (List.range n).flatMap (lvl n ns i) := fun x hx => by
    rcases Nat.lt_or_ge x 2 with h2 | h2
    · have : x = 0 ∨ x = 1 := by omega
      rcases this with rfl | rfl <;> simp
    · have hr := h x hx
      have hp := w.pl x h2 (hr.lt w hi)
      refine List.mem_cons_of_mem _ (List.mem_cons_of_mem _ (List.mem_flatMap.2 ⟨(nd ns x).p, List.mem_range.2 hp, ?_⟩))
      exact ((lvl_iff w hi hp).2 ⟨hr, h2, rfl⟩).1
  have := nodup_sub _ _ hn hs
  have h1 := Nat.one_le_two_pow (n := n)
  rw [List.length_cons, List.length_cons, lvls_len] at this
  omega
end Go.Proofs.Ytbhgahjeocnfcaa
namespace Go.Proofs.Ytbhgahjeocnfcaa
open Go Go.Cx Go.RowKit
set_option linter.unusedVariables false
set_option linter.unusedSimpArgs false
set_option maxHeartbeats 4000000
attribute [local irreducible] J JC thenK blockK loopK roundK drawK retK QW Qt pel List.set Calls
open Go.Maps Go.Lib
set_option maxRecDepth 8000
attribute [local irreducible] JE Br eK0 eK3 brK pc
def tabF (n : Nat) (g : BF) : List Bool := (List.range (2 ^ n)).map fun r => g (asg n r)
end Go.Proofs.Ytbhgahjeocnfcaa
namespace Go.Proofs.Ytbhgahjeocnfcaa
open Go Go.Cx Go.RowKit
set_option linter.unusedVariables false
set_option linter.unusedSimpArgs false
set_option maxHeartbeats 4000000
attribute [local irreducible] J JC thenK blockK loopK roundK drawK retK QW Qt pel List.set Calls
open Go.Maps Go.Lib
set_option maxRecDepth 8000
attribute [local irreducible] JE Br eK0 eK3 brK pc
theorem Order_any {n : Nat} {K : KS} {s : SS} (so : SOk n K s) {order : List Int} {hO hP : Heap} (po : POk K order hO hP) (b : Nat) (w : World) (hw : Holds (stR K b s hO) w) :
    Calls Try.prog 19 #[.pointer (some ⟨b, 0, none⟩)] w (Gives (fun v g => ∃ a' c', v = .slice a' order.length c' ∧ OwT encI 1 3 a' c' order g) w) := by
  have hpl := po.len
  have hn := ord_le order po.ok
  have hso : SlT encI 1 K.ao order (stR K b s hO) := po.ow.sl.sub fun y hy => List.mem_cons_of_mem _ (List.mem_append_right _ hy)
  have rb : ∀ L, Rd (stR K b s hO) L b (stO K s.an s.ns.length s.cn) := fun L => Rd.old List.mem_cons_self
  have q0 : ∀ L, RdH (stR K b s hO) L (stR K b s hO) := fun L => RdH.old fun _ hh => hh
  have cC := fun w hw => clone_any K.ao K.co order (stR K b s hO) hso (by omega) w hw
  rw [← hpl] at cC ⊢
  unfold stO at rb
  refine calls_of_JC (R := (stR K b s hO)) Try.func19 Try.ntmps19 rfl rfl (hw) ?_
  repeat' first
    | (refine J.isJ ?_; first | (first | (refine J.o 11 ?_; refine J.pN hΓ ?_) | (refine J.o 4 ?_; refine J.lR hΓ ?_ (hr := rb _)) | (refine J.fc 63 ?_; refine J.call1 eClone rfl rfl (fun w hw => cC w (hw.rdH (q0 _))) ?_; rintro _ hg ⟨a1, c1, rfl, o1⟩)) | (first | (refine J.o 0 ?_; refine J.ev' hΓ ?_) | refine J.nil ?_ | (refine J.o 4 ?_; first | refine J.lR hΓ ?_) | (refine J.o 3 ?_; first | refine J.ev' hΓ ?_) | (refine J.o 10 ?_; refine J.ev' hΓ ?_) | (refine J.o 11 ?_; refine J.ev' hΓ ?_)))
    | (first | refine JC.seq ?_ | refine JC.region ?_ | refine JC.ret ?_ | refine JC.skip ?_ | refine thenK.nn ?_ | refine JC.condF rfl ?_)
    | (fail)
    | fail
  all_goals first | (exfalso; omega) | skip
  all_goals exact ret1f rfl rfl rfl (fun w1 hw => Gives.of hw ⟨a1, c1, rfl, o1⟩)
end Go.Proofs.Ytbhgahjeocnfcaa
namespace Go.Proofs.Ytbhgahjeocnfcaa
open Go Go.Cx Go.RowKit
set_option linter.unusedVariables false
set_option linter.unusedSimpArgs false
set_option maxHeartbeats 4000000
attribute [local irreducible] J JC thenK blockK loopK roundK drawK retK QW Qt pel List.set Calls
open Go.Maps Go.Lib
set_option maxRecDepth 8000
attribute [local irreducible] JE Br eK0 eK3 brK pc
structure TV where
  a : Option Addr
  c : Nat
  g : BF
instance : Inhabited TV := ⟨⟨none, 0, fun _ => false⟩⟩
theorem own_le {α : Type} {enc : α → List Value} {size : Nat} {e : TypeId} {a : Option Addr} {cap : Nat} {ts : List α} {h : Heap} (o : OwT enc size e a cap ts h) : ts.length ≤ cap := by
  rcases o.row with ⟨_, rfl, rfl, _⟩ | ⟨_, _, _, _, _, h, _⟩
  · exact Nat.le_refl _
  · exact h
end Go.Proofs.Ytbhgahjeocnfcaa
namespace Go.Proofs.Ytbhgahjeocnfcaa
open Go Go.Cx Go.RowKit
set_option linter.unusedVariables false
set_option linter.unusedSimpArgs false
set_option maxHeartbeats 4000000
attribute [local irreducible] J JC thenK blockK loopK roundK drawK retK QW Qt pel List.set Calls
open Go.Maps Go.Lib
set_option maxRecDepth 8000
attribute [local irreducible] JE Br eK0 eK3 brK pc
section
variable {P : Program} {n : Nat} {w0 : World} {R : Heap} {l0 : List Oper} {K : Exit → Fr → List Heap → Prop} {f : Fr} {L : List Heap} {rest : List (Nat × Oper)} {κ : Nat}
variable {Γ : List (Nat × TI)} {d : Nat} {ty : TypeId} {pos : String} {aft : Array Edge} {g : Option (Nat × Bool)} {t e : TypeId} {x y : Operand} {a : Option Addr} {len cap : Nat}
theorem J.slG {ki : IntKind} {i : Int} (m sz : Nat) {s1 b1 : Nat} {z1 : Option Value} {te : TI} (hΓ : Fits P Γ)
    (kk : J P n w0 R l0 K rest (upd f d (.slice (if cap = m then a else a.map (·.add (m * sz))) (len - m) (cap - m))) L)
    (hg : wantB n f l0 ⟨some d, .slice t x (some y) none none, ty, pos, aft, g⟩ = true := by exact rfl) (hx : Cx.ev n f x = .slice a len cap := by exact rfl) (hy : Cx.ev n f y = .int ki i := by exact rfl) (ht : Go.Cx.look Γ t = some ⟨.slice e, s1, z1, b1⟩ := by exact rfl) (hte : Go.Cx.look Γ e = some te := by exact rfl) (hsz : te.size = sz := by exact rfl) (hm : i = (m : Int) := by omega) (h1 : m ≤ len := by omega) (h2 : len ≤ cap := by omega) :
    J P n w0 R l0 K ((κ, ⟨some d, .slice t x (some y) none none, ty, pos, aft, g⟩) :: rest) f L :=
  J.p hg (fun w => by
    subst hm
    subst hsz
    have hu : P.underlying t = some (.slice e) := (hΓ t _ ht).1
    have he : P.elem t = e := by unfold Program.elem; rw [hu]
    have hu' : P.underlying t = some (.slice (P.elem t)) := by rw [he]; exact hu
    have : (Instr.sliceAt t (.slice a len cap) (some (.int ki (m : Int))) none none).run P w = .ok (.slice (if cap = m then a else a.map (·.add (m * te.size))) (len - m) (cap - m)) w := by
      rw [run_sliceAt_slice w t _ _ _ _ hu', run_slice_l w t a len cap hu' ki (m : Int) (by omega) (by omega), he, sizeOf_run hΓ hte w]
      simp [sliced, Result.andThen]
    simp only [execOp, hx, hy, Sem.run_bind, Option.map_some, Option.map_none]
    rw [this]
    rfl) kk
end
structure BW where
  a : Option Addr
  c : Nat
  l : List Bool
instance : Inhabited BW := ⟨⟨none, 0, []⟩⟩
end Go.Proofs.Ytbhgahjeocnfcaa
namespace Go.Proofs.Ytbhgahjeocnfcaa
open Go Go.Cx Go.RowKit
set_option linter.unusedVariables false
set_option linter.unusedSimpArgs false
set_option maxHeartbeats 4000000
attribute [local irreducible] J JC thenK blockK loopK roundK drawK retK QW Qt pel List.set Calls
open Go.Maps Go.Lib
set_option maxRecDepth 8000
attribute [local irreducible] JE Br eK0 eK3 brK pc
theorem fn_lt {n : Nat} {ns : List N3} (w : WF n ns) {a b : Nat → Bool} : ∀ (m i : Nat), n - (nd ns i).p ≤ m → i < ns.length → (∀ k, k < n → a k = b k) → fn n ns i a = fn n ns i b
  | m, i, hm, hi, hab => by
    rcases Nat.lt_or_ge i 2 with h2 | h2
    · unfold fn; rw [ev_const _ _ _ h2, ev_const _ _ _ h2]
    · have hp := w.pl i h2 hi
      have hl := w.lp i h2 hi
      have hh := w.hp i h2 hi
      obtain ⟨m', rfl⟩ : ∃ m', m = m' + 1 := ⟨m - 1, by omega⟩
      rw [fn_node w a h2 hi, fn_node w b h2 hi, hab _ hp, fn_lt w m' _ (by omega) (w.ll i h2 hi) hab, fn_lt w m' _ (by omega) (w.hl i h2 hi) hab]
theorem fn_low {n : Nat} {ns : List N3} (w : WF n ns) {i : Nat} (h2 : 2 ≤ i) (hi : i < ns.length) {g : BF} (hg : ∀ α, fn n ns i α = g α) (α : Nat → Bool) : fn n ns (nd ns i).l α = g (up α (nd ns i).p false) := by
  rw [← hg, fn_node w _ h2 hi, up_eq]
  exact (fn_up w α false (w.ll i h2 hi) (w.lp i h2 hi)).symm
theorem fn_high {n : Nat} {ns : List N3} (w : WF n ns) {i : Nat} (h2 : 2 ≤ i) (hi : i < ns.length) {g : BF} (hg : ∀ α, fn n ns i α = g α) (α : Nat → Bool) : fn n ns (nd ns i).h α = g (up α (nd ns i).p true) := by
  rw [← hg, fn_node w _ h2 hi, up_eq]
  exact (fn_up w α true (w.hl i h2 hi) (w.hp i h2 hi)).symm
theorem Bel.size {n : Nat} {ns : List N3} (w : WF n ns) {a : Nat} (ha : a < ns.length) {l : List Int} (b : Bel ns a l) {g : BF} (hg : ∀ α, fn n ns a α = g α) : l.length = sizeT n (tabF n g) := by
  have : tab n ns a = tabF n g := by
    unfold tab blk tabF
    exact List.map_congr_left fun r _ => hg _
  rw [← this]
  exact size_eq w ha b.nodup b.mem
end Go.Proofs.Ytbhgahjeocnfcaa
namespace Go.Proofs.Ytbhgahjeocnfcaa
open Go Go.Cx Go.RowKit
set_option linter.unusedVariables false
set_option linter.unusedSimpArgs false
set_option maxHeartbeats 4000000
attribute [local irreducible] J JC thenK blockK loopK roundK drawK retK QW Qt pel List.set Calls
open Go.Maps Go.Lib
set_option maxRecDepth 8000
attribute [local irreducible] JE Br eK0 eK3 brK pc
abbrev VF := (Int → Bool) → Bool
def asgV (l : List Int) (β : Int → Bool) : Nat → Bool := fun k => β (l.getD k default)
def betaV (l : List Int) (α : Nat → Bool) : Int → Bool := fun v => match rk l v 0 with
  | some k => α k
  | none => false
theorem beta_at {l : List Int} (hn : l.Nodup) (α : Nat → Bool) {k : Nat} (hk : k < l.length) : betaV l α (l.getD k default) = α k := by
  unfold betaV; rw [rk_at hn hk]
theorem mem_at {l : List Int} {v : Int} (h : v ∈ l) : ∃ k, k < l.length ∧ l.getD k default = v := by
  obtain ⟨k, hk, e⟩ := List.mem_iff_getElem.1 h
  exact ⟨k, hk, by rw [List.getD_eq_getElem?_getD, List.getElem?_eq_getElem hk]; exact e⟩
def Says (ns : List N3) (l : List Int) (y : Nat) (F : VF) : Prop := y < ns.length ∧ ∀ β, fn l.length ns y (asgV l β) = F β
def gF (l : List Int) (F : VF) : BF := fun α => F (betaV l α)
theorem Says.fn {ns : List N3} {l : List Int} (hn : l.Nodup) (w : WF l.length ns) {y : Nat} {F : VF} (h : Says ns l y F) (α : Nat → Bool) : fn l.length ns y α = gF l F α := by
  unfold gF
  rw [← h.2]
  exact fn_lt w _ y (Nat.le_refl _) h.1 fun k hk => (beta_at hn α hk).symm
def ovr (k : Nat) (γ α : Nat → Bool) : Nat → Bool := fun i => if i < k then γ i else α i
theorem fn_low2 {n : Nat} {ns : List N3} (w : WF n ns) {i : Nat} (h2 : 2 ≤ i) (hi : i < ns.length) (α : Nat → Bool) : fn n ns (nd ns i).l α = fn n ns i (up α (nd ns i).p false) := fn_low w h2 hi (g := fn n ns i) (fun _ => rfl) α
theorem fn_high2 {n : Nat} {ns : List N3} (w : WF n ns) {i : Nat} (h2 : 2 ≤ i) (hi : i < ns.length) (α : Nat → Bool) : fn n ns (nd ns i).h α = fn n ns i (up α (nd ns i).p true) := fn_high w h2 hi (g := fn n ns i) (fun _ => rfl) α
theorem fn_rch {n : Nat} {ns : List N3} (w : WF n ns) {r : Nat} (hr : r < ns.length) (γ : Nat → Bool) : ∀ k, k ≤ n → ∃ j, Rch ns r j ∧ k ≤ (nd ns j).p ∧ ∀ α, fn n ns j α = fn n ns r (ovr k γ α)
  | 0, _ => ⟨r, .refl, Nat.zero_le _, fun α => by
      have : ovr 0 γ α = α := by funext i; unfold ovr; rw [if_neg (Nat.not_lt_zero _)]
      rw [this]⟩
  | k + 1, hk => by
    obtain ⟨j, h1, h2, h3⟩ := fn_rch w hr γ k (by omega)
    have hj := h1.lt w hr
    have e : ∀ α, ovr (k + 1) γ α = ovr k γ (up α k (γ k)) := fun α => by
      funext i
      unfold ovr up
      by_cases g1 : i < k
      · rw [if_pos (by omega), if_pos g1]
      · rw [if_neg g1]
        by_cases g2 : i = k
        · rw [if_pos (by omega), if_pos g2, g2]
        · rw [if_neg (by omega), if_neg g2]
    rcases Nat.lt_or_ge k (nd ns j).p with hlt | hge
    · exact ⟨j, h1, hlt, fun α => by rw [e, ← h3, fn_up w α _ hj hlt]⟩
    · have hp : (nd ns j).p = k := by omega
      have hj2 := w.nonconst (show (nd ns j).p < n by omega)
      have hl := w.lp j hj2 hj
      have hh := w.hp j hj2 hj
      cases hg : γ k with
      | false => exact ⟨(nd ns j).l, h1.low hj2, by omega, fun α => by rw [e, ← h3, fn_low2 w hj2 hj, hp, hg]⟩
      | true => exact ⟨(nd ns j).h, h1.high hj2, by omega, fun α => by rw [e, ← h3, fn_high2 w hj2 hj, hp, hg]⟩
def restr (P : List Int) (γ β : Int → Bool) : Int → Bool := fun v => if v ∈ P then γ v else β v
theorem ord_zero {l : List Int} (ho : okOrd l) : (default : Int) ∉ l := fun h => by
  have := ho.1 _ h
  have e : (default : Int) = 0 := rfl
  omega
theorem getD_inj {l : List Int} (hn : l.Nodup) {i k : Nat} (hi : i < l.length) (hk : k < l.length) (e : l.getD i default = l.getD k default) : i = k := by
  have h1 := rk_at hn hi
  rw [e, rk_at hn hk] at h1
  injection h1 with h1
  exact h1.symm
theorem take_at {l : List Int} (hn : l.Nodup) {i k : Nat} (hi : i < l.length) (hk : k ≤ l.length) : l.getD i default ∈ l.take k ↔ i < k := by
  constructor
  · intro h
    obtain ⟨j, hj, e⟩ := List.mem_iff_getElem.1 h
    rw [List.length_take] at hj
    have hjl : j < l.length := by omega
    have e2 : l.getD j default = l.getD i default := by
      rw [List.getElem_take] at e
      rw [← e, List.getD_eq_getElem?_getD, List.getElem?_eq_getElem hjl]; rfl
    have := getD_inj hn hjl hi e2
    omega
  · intro h
    rw [List.getD_eq_getElem?_getD, List.getElem?_eq_getElem hi]
    exact List.mem_iff_getElem.2 ⟨i, by rw [List.length_take]; omega, by rw [List.getElem_take]; rfl⟩
theorem Says.restr {ns : List N3} {l : List Int} (hn : l.Nodup) (w : WF l.length ns) {r : Nat} {F : VF} (h : Says ns l r F) {k : Nat} (hk : k ≤ l.length) (γ : Nat → Bool) (β : Int → Bool) : Go.Proofs.Ytbhgahjeocnfcaa.fn l.length ns r (ovr k γ (asgV l β)) = F (Go.Proofs.Ytbhgahjeocnfcaa.restr (l.take k) (betaV l γ) β) := by
  rw [← h.2]
  refine fn_lt w _ r (Nat.le_refl _) h.1 fun i hi => ?_
  unfold ovr asgV Go.Proofs.Ytbhgahjeocnfcaa.restr
  by_cases h1 : i < k
  · rw [if_pos h1, if_pos ((take_at hn hi hk).2 h1), beta_at hn γ hi]
  · rw [if_neg h1, if_neg (fun g => h1 ((take_at hn hi hk).1 g))]
def Left (l : List Int) (F : VF) (k : Nat) (G : VF) : Prop := ∃ γ : Int → Bool, ∀ β, G β = F (restr (l.take k) γ β)
theorem left_rch {ns : List N3} {l : List Int} (hn : l.Nodup) (w : WF l.length ns) {r : Nat} {F : VF} (h : Says ns l r F) {k : Nat} (hk : k ≤ l.length) {G : VF} (hl : Left l F k G) : ∃ j, Rch ns r j ∧ k ≤ (nd ns j).p ∧ Says ns l j G := by
  obtain ⟨γ, hg⟩ := hl
  obtain ⟨j, h1, h2, h3⟩ := fn_rch w h.1 (asgV l γ) k hk
  refine ⟨j, h1, h2, h1.lt w h.1, fun β => ?_⟩
  rw [h3, h.restr hn w hk, hg]
  congr 1
  funext v
  unfold Go.Proofs.Ytbhgahjeocnfcaa.restr
  by_cases hv : v ∈ l.take k
  · rw [if_pos hv, if_pos hv]
    obtain ⟨i, hi, e⟩ := mem_at (List.mem_of_mem_take hv)
    rw [← e, beta_at hn _ hi]
    rfl
  · rw [if_neg hv, if_neg hv]
def Deps (F : VF) (v : Int) : Prop := ∃ β : Int → Bool, F (fun u => if u = v then false else β u) ≠ F (fun u => if u = v then true else β u)
theorem asg_upd {l : List Int} (ho : okOrd l) {k : Nat} (hk : k < l.length) (b : Bool) (β : Int → Bool) : asgV l (fun u => if u = l.getD k default then b else β u) = up (asgV l β) k b := by
  funext i
  unfold asgV up
  dsimp only
  rcases Nat.lt_or_ge i l.length with hi | hi
  · by_cases h : i = k
    · rw [h, if_pos rfl, if_pos rfl]
    · have : l.getD i default ≠ l.getD k default := fun e => h (getD_inj ho.2 hi hk e)
      rw [if_neg this, if_neg h]
  · have hd : l.getD i default = (default : Int) := by rw [List.getD_eq_getElem?_getD, List.getElem?_eq_none hi]; rfl
    have hz : (default : Int) ≠ l.getD k default := fun e => ord_zero ho (by rw [e]; exact mem_g l k hk)
    rw [if_neg (show ¬ i = k by omega), hd, if_neg hz]
theorem Says.top {ns : List N3} {l : List Int} (ho : okOrd l) (w : WF l.length ns) {j : Nat} {G : VF} (h : Says ns l j G) {k : Nat} (hk : k < l.length) (hkp : k ≤ (nd ns j).p) : (nd ns j).p = k ↔ Deps G (l.getD k default) := by
  constructor
  · intro e
    have h2 := w.nonconst (show (nd ns j).p < l.length by omega)
    apply Classical.byContradiction
    intro hd
    refine w.ne j h2 h.1 (w.eq (w.ll j h2 h.1) (w.hl j h2 h.1) fun α => ?_)
    rw [fn_low2 w h2 h.1, fn_high2 w h2 h.1, e]
    have hα : ∀ b, Go.Proofs.Ytbhgahjeocnfcaa.fn l.length ns j (up α k b) = G (fun u => if u = l.getD k default then b else betaV l α u) := fun b => by
      rw [← h.2, asg_upd ho hk]
      refine fn_lt w _ j (Nat.le_refl _) h.1 fun i hi => ?_
      unfold up
      split
      · rfl
      · exact (beta_at ho.2 α hi).symm
    rw [hα, hα]
    apply Classical.byContradiction
    intro hne
    exact hd ⟨betaV l α, hne⟩
  · rintro ⟨β, hne⟩
    rcases Nat.lt_or_ge k (nd ns j).p with g | g
    · exfalso
      apply hne
      rw [← h.2, ← h.2, asg_upd ho hk, asg_upd ho hk, fn_up w _ _ h.1 g, fn_up w _ _ h.1 g]
    · omega
end Go.Proofs.Ytbhgahjeocnfcaa
namespace Go.Proofs.Ytbhgahjeocnfcaa
open Go Go.Cx Go.RowKit
set_option linter.unusedVariables false
set_option linter.unusedSimpArgs false
set_option maxHeartbeats 4000000
attribute [local irreducible] J JC thenK blockK loopK roundK drawK retK QW Qt pel List.set Calls
open Go.Maps Go.Lib
set_option maxRecDepth 8000
attribute [local irreducible] JE Br eK0 eK3 brK pc
def encK (k : Nat) : List Value := [.int .u8 (k : Int)]
def OrdV (n : Nat) (v : Value) (h : Heap) : Prop := ∃ a l c, v = .slice a l.length c ∧ l.Perm (ints n) ∧ OwT encI 1 3 a c l h
theorem pickP {l : List Int} {k : Nat} (hk : k < l.length) : (l.getD k default :: (l.take k ++ l.drop (k + 1))).Perm l := by
  have h1 := (List.take_append_drop k l).symm
  rw [drop_g l k hk] at h1
  conv => rhs; rw [h1]
  exact List.perm_middle.symm
theorem order31_any (n : Nat) (hn : n ≤ 128) (ks : List Nat) (ak : Option Addr) (ck : Nat) (hk : Heap) (hs : SlT encK 1 ak ks hk) (hkl : ks.length ≤ 9223372036854775807) (hkb : ∀ k ∈ ks, k < 256) (w : World) (hw1 : Holds hk w) :
    Calls Try.prog 15 #[.int .i64 (n : Int), .slice ak ks.length ck] w (Gives (OrdV n) w) := by
  have q0 : ∀ L, RdH hk L hk := fun L => RdH.old fun _ hh => hh
  have hil := ints_len n
  refine calls_of_JC (R := hk) Try.func15 Try.ntmps15 rfl rfl (hw1) ?_
  repeat' first
    | (refine J.isJ ?_; first | ((refine J.fc 50 ?_; refine J.call1 eUpTo rfl rfl (fun w hw => upTo_any n (by omega) w) ?_; rintro _ hR ⟨aR, cR, rfl, oR⟩)) | (first | (refine J.o 0 ?_; refine J.ev' hΓ ?_) | refine J.nil ?_ | (refine J.o 4 ?_; first | refine J.lT default hΓ ?_) | (refine J.o 3 ?_; first | refine J.iJ hΓ ?_ | refine J.ev' hΓ ?_) | (refine J.o 1 ?_; first | refine J.ad ?_) | (refine J.o 9 ?_; refine J.bl hΓ (fun _ => ?_)) | (refine J.o 10 ?_; refine J.ev' hΓ ?_) | (refine J.o 11 ?_; refine J.ev' hΓ ?_)))
    | (first | refine JC.seq ?_ | refine JC.region ?_ | refine JC.block ?_ | refine JC.ret ?_ | refine JC.exit ?_ | refine JC.skip ?_ | refine thenK.nn ?_ | refine thenK.x ?_ | refine blockK.nn ?_ | refine blockK.hit rfl ?_ | (refine JC.cond rfl (fun hc => ?_) (fun hc => ?_) <;> ((try simp only [decide_eq_true_eq, decide_eq_false_iff_not, beq_iff_eq, beq_eq_false_iff_ne, bne_iff_ne, bne_eq_false_iff_eq, Bool.not_eq_true', Bool.not_eq_false', Bool.not_eq_true, Bool.not_eq_false] at hc) <;> first | (first | (exact absurd rfl hc) | (exfalso; omega) | (exact absurd (hc.symm.trans (by assumption : _ = false)) (by decide)) | (exact absurd (hc.symm.trans (by assumption : _ = true)) (by decide))) | skip)) | refine drawK.nn ?_ | refine loopK.x ?_)
    | (fail)
    | fail
  all_goals first | (exfalso; omega) | skip
  refine JC.nilF ?_
  refine JC.loop (fun i => i == 5 || i == 6 || i == 7 || i == 8 || Nat.ble 11 i) (fun m g L => ∃ (i : Nat) (out rest : List Int) (aO : Option Addr) (cO : Nat) (hO : Heap) (aR : Option Addr) (cR : Nat) (hR : Heap), g 7 = .int .i64 (i : Int) ∧ g 6 = .slice aO out.length cO ∧ g 5 = .slice aR rest.length cR ∧ rest.length = m ∧ i + m = n ∧ (out ++ rest).Perm (ints n) ∧ OwT encI 1 3 aO cO out hO ∧ OwT encI 1 3 aR cR rest hR ∧ L = [hO, hR]) n ⟨0, [], ints n, none, 0, [], aR, cR, hR, rfl, rfl, rfl, hil, by omega, by rw [List.nil_append], OwT.nil (fun _ => rfl), oR, rfl⟩ ?_
  clear oR
  rintro m g L ⟨i, out, rest, aO, cO, hO, aR, cR, hR, e7, e6, e5, hrm, him, hpm, oO, oR, rfl⟩
  refine JC.pin 7 e7 (JC.pin 6 e6 (JC.pin 5 e5 ?_))
  have hol : out.length + rest.length = n := by have := hpm.length_eq; rw [List.length_append, hil] at this; exact this
  have hcR := own_le oR
  rcases Nat.eq_zero_or_pos rest.length with h0 | h0
  ·
    repeat' first
      | (refine J.isJ ?_; first | (fail) | (first | (refine J.o 0 ?_; refine J.ev' hΓ ?_) | refine J.nil ?_ | (refine J.o 4 ?_; first | refine J.lT default hΓ ?_) | (refine J.o 3 ?_; first | refine J.iJ hΓ ?_ | refine J.ev' hΓ ?_) | (refine J.o 1 ?_; first | refine J.ad ?_) | (refine J.o 9 ?_; refine J.bl hΓ (fun _ => ?_)) | (refine J.o 10 ?_; refine J.ev' hΓ ?_) | (refine J.o 11 ?_; refine J.ev' hΓ ?_)))
      | (first | refine JC.seq ?_ | refine JC.region ?_ | refine JC.block ?_ | refine JC.ret ?_ | refine JC.exit ?_ | refine JC.skip ?_ | refine thenK.nn ?_ | refine thenK.x ?_ | refine blockK.nn ?_ | refine blockK.hit rfl ?_ | (refine JC.cond rfl (fun hc => ?_) (fun hc => ?_) <;> ((try simp only [decide_eq_true_eq, decide_eq_false_iff_not, beq_iff_eq, beq_eq_false_iff_ne, bne_iff_ne, bne_eq_false_iff_eq, Bool.not_eq_true', Bool.not_eq_false', Bool.not_eq_true, Bool.not_eq_false] at hc) <;> first | (first | (exact absurd rfl hc) | (exfalso; omega) | (exact absurd (hc.symm.trans (by assumption : _ = false)) (by decide)) | (exact absurd (hc.symm.trans (by assumption : _ = true)) (by decide))) | skip)) | refine drawK.nn ?_ | refine loopK.x ?_)
      | (fail)
      | fail
    all_goals first | (exfalso; omega) | skip
    have hr : rest = [] := List.eq_nil_of_length_eq_zero h0
    rw [hr, List.append_nil] at hpm
    exact ret1f rfl rfl rfl (fun w1 hw => Gives.of (H.sel (l := [_, _]) (M := []) hw [0]) ⟨_, _, _, rfl, hpm, oO⟩)
  ·
    obtain ⟨q, hq⟩ : ∃ q, q = if i < ks.length then ks.getD i default % rest.length else 0 := ⟨_, rfl⟩
    have hqr : q < rest.length := by rw [hq]; split; exact Nat.mod_lt _ h0; exact h0
    have hpk := pickP hqr
    have hnew : ((out ++ [rest.getD q default]) ++ (rest.take q ++ rest.drop (q + 1))).Perm (ints n) := by
      refine List.Perm.trans ?_ hpm
      rw [List.append_assoc]
      exact List.Perm.append_left _ hpk
    have hnl : (rest.take q ++ rest.drop (q + 1)).length = m - 1 := by rw [List.length_append, List.length_take, List.length_drop]; omega
    have hsT := slT_take oR.sl q
    have hsD := slT_drop oR.sl (q + 1) cR hcR
    have htl : (rest.take q).length = q := by rw [List.length_take]; omega
    have hdl : (rest.drop (q + 1)).length = rest.length - (q + 1) := List.length_drop
    by_cases hi : i < ks.length
    ·
      rw [if_pos hi] at hq
      have hkm := hkb _ (mem_g ks i hi)
      have hq2 : Value.int .i64 ((ks.getD i default % rest.length : Nat) : Int) = .int .i64 (q : Int) := by rw [hq]
      repeat' first
        | (refine J.isJ ?_; first | (first | (refine J.o 3 ?_; first | refine J.iJ hΓ ?_ (hs := hs) | refine J.iJ hΓ ?_ (hs := oR.sl)) | (refine J.o 4 ?_; first | refine J.lT default hΓ ?_ (hs := hs) (hr := q0 _) | refine J.lT default hΓ ?_ (hs := oR.sl) (hr := RdH.hd.tl) | refine J.lT default hΓ ?_ (hs := oR.sl) (hr := RdH.hd)) | (refine J.o 2 ?_; refine J.gcv hΓ ?_ (hk := wI64 (by omega))) | (refine J.o 1 ?_; refine J.grem (a := ks.getD i default) (b := rest.length) ?_; rw [hq2]) | (refine J.o 13 ?_; first | refine J.slF (m := q) hΓ ?_ | refine J.slG (q + 1) 1 hΓ ?_) | (refine J.o 9 ?_; first | (refine J.apA hΓ (lit_nil _ _) (us := rest.take q) hsT RdH.hd.tl.tl (fun a3 c3 h3 o3 => ?_); rw [List.nil_append] at o3; rw [List.nil_append]) | refine J.apA hΓ o3 (us := rest.drop (q + 1)) hsD RdH.hd.tl.tl (fun a4 c4 h4 o4 => ?_)) | (refine J.o 9 ?_; first | (first | (refine J.ap1 (enc := encI) [rest.getD q default] hΓ (fun a2 c2 h2 o2 => ?_))))) | (first | (refine J.o 0 ?_; refine J.ev' hΓ ?_) | refine J.nil ?_ | (refine J.o 4 ?_; first | refine J.lT default hΓ ?_) | (refine J.o 3 ?_; first | refine J.iJ hΓ ?_ | refine J.ev' hΓ ?_) | (refine J.o 1 ?_; first | refine J.ad ?_) | (refine J.o 9 ?_; refine J.bl hΓ (fun _ => ?_)) | (refine J.o 10 ?_; refine J.ev' hΓ ?_) | (refine J.o 11 ?_; refine J.ev' hΓ ?_)))
        | (first | refine JC.seq ?_ | refine JC.region ?_ | refine JC.block ?_ | refine JC.ret ?_ | refine JC.exit ?_ | refine JC.skip ?_ | refine thenK.nn ?_ | refine thenK.x ?_ | refine blockK.nn ?_ | refine blockK.hit rfl ?_ | (refine JC.cond rfl (fun hc => ?_) (fun hc => ?_) <;> ((try simp only [decide_eq_true_eq, decide_eq_false_iff_not, beq_iff_eq, beq_eq_false_iff_ne, bne_iff_ne, bne_eq_false_iff_eq, Bool.not_eq_true', Bool.not_eq_false', Bool.not_eq_true, Bool.not_eq_false] at hc) <;> first | (first | (exact absurd rfl hc) | (exfalso; omega) | (exact absurd (hc.symm.trans (by assumption : _ = false)) (by decide)) | (exact absurd (hc.symm.trans (by assumption : _ = true)) (by decide))) | skip)) | refine drawK.nn ?_ | refine loopK.x ?_)
        | ((first | refine JC.drawO [(0,1),(0,2),(0,3),(0,5),(0,6),(0,7),(0,8),(3,0),(2,4),(2,9),(0,10)] (by decide +kernel) (by decide +kernel) ?_ | refine JC.drawO [(0,1),(0,2),(0,3),(0,5),(0,6),(0,7),(0,8),(2,0),(2,4),(2,9),(0,10)] (by decide +kernel) (by decide +kernel) ?_ | refine JC.drawO [(0,1),(0,2),(0,3),(0,5),(0,6),(0,7),(0,8),(3,0),(3,4),(3,9),(0,10)] (by decide +kernel) (by decide +kernel) ?_))
        | fail
      all_goals first | (exfalso; omega) | skip
      refine loopK.np (m - 1) [hR] [h2, h4] (by omega) (by repeat (first | refine Ag.upd rfl ?_ | exact Ag.hv)) (List.reverse_perm [hR, h2, h4]) ⟨i + 1, out ++ [rest.getD q default], rest.take q ++ rest.drop (q + 1), a2, c2, h2, a4, c4, h4, ?_, rfl, rfl, hnl, by omega, hnew, o2, o4, rfl⟩
      show Value.int .i64 _ = _; congr 1
    ·
      rw [if_neg hi] at hq
      have hq2 : Value.int .i64 0 = .int .i64 (q : Int) := by rw [hq]; rfl
      subst hq
      repeat' first
        | (refine J.isJ ?_; first | (first | (refine J.o 3 ?_; first | refine J.iJ hΓ ?_ (hs := oR.sl)) | (refine J.o 4 ?_; first | refine J.lT default hΓ ?_ (hs := oR.sl) (hr := RdH.hd.tl) | refine J.lT default hΓ ?_ (hs := oR.sl) (hr := RdH.hd)) | (refine J.o 13 ?_; first | refine J.slF (m := 0) hΓ ?_ | refine J.slG (0 + 1) 1 hΓ ?_) | (refine J.o 9 ?_; first | (refine J.apA hΓ (lit_nil _ _) (us := rest.take 0) hsT RdH.hd.tl.tl (fun a3 c3 h3 o3 => ?_); rw [List.nil_append] at o3; rw [List.nil_append]) | refine J.apA hΓ o3 (us := rest.drop (0 + 1)) hsD RdH.hd.tl.tl (fun a4 c4 h4 o4 => ?_)) | (refine J.o 9 ?_; first | (first | (refine J.ap1 (enc := encI) [rest.getD 0 default] hΓ (fun a2 c2 h2 o2 => ?_))))) | (first | (refine J.o 0 ?_; refine J.ev' hΓ ?_) | refine J.nil ?_ | (refine J.o 4 ?_; first | refine J.lT default hΓ ?_) | (refine J.o 3 ?_; first | refine J.iJ hΓ ?_ | refine J.ev' hΓ ?_) | (refine J.o 1 ?_; first | refine J.ad ?_) | (refine J.o 9 ?_; refine J.bl hΓ (fun _ => ?_)) | (refine J.o 10 ?_; refine J.ev' hΓ ?_) | (refine J.o 11 ?_; refine J.ev' hΓ ?_)))
        | (first | refine JC.seq ?_ | refine JC.region ?_ | refine JC.block ?_ | refine JC.ret ?_ | refine JC.exit ?_ | refine JC.skip ?_ | refine thenK.nn ?_ | refine thenK.x ?_ | refine blockK.nn ?_ | refine blockK.hit rfl ?_ | (refine JC.cond rfl (fun hc => ?_) (fun hc => ?_) <;> ((try simp only [decide_eq_true_eq, decide_eq_false_iff_not, beq_iff_eq, beq_eq_false_iff_ne, bne_iff_ne, bne_eq_false_iff_eq, Bool.not_eq_true', Bool.not_eq_false', Bool.not_eq_true, Bool.not_eq_false] at hc) <;> first | (first | (exact absurd rfl hc) | (exfalso; omega) | (exact absurd (hc.symm.trans (by assumption : _ = false)) (by decide)) | (exact absurd (hc.symm.trans (by assumption : _ = true)) (by decide))) | skip)) | refine drawK.nn ?_ | refine loopK.x ?_)
        | ((first | refine JC.drawO [(0,1),(0,2),(0,3),(0,5),(0,6),(0,7),(0,8),(3,0),(2,4),(2,9),(0,10)] (by decide +kernel) (by decide +kernel) ?_ | refine JC.drawO [(0,1),(0,2),(0,3),(0,5),(0,6),(0,7),(0,8),(2,0),(2,4),(2,9),(0,10)] (by decide +kernel) (by decide +kernel) ?_ | refine JC.drawO [(0,1),(0,2),(0,3),(0,5),(0,6),(0,7),(0,8),(3,0),(3,4),(3,9),(0,10)] (by decide +kernel) (by decide +kernel) ?_))
        | fail
      all_goals first | (exfalso; omega) | skip
      refine loopK.np (m - 1) [hR] [h2, h4] (by omega) (by repeat (first | refine Ag.upd rfl ?_ | exact Ag.hv)) (List.reverse_perm [hR, h2, h4]) ⟨i + 1, out ++ [rest.getD 0 default], rest.take 0 ++ rest.drop (0 + 1), a2, c2, h2, a4, c4, h4, ?_, rfl, rfl, hnl, by omega, hnew, o2, o4, rfl⟩
      show Value.int .i64 _ = _; congr 1
end Go.Proofs.Ytbhgahjeocnfcaa
namespace Go.Proofs.Ytbhgahjeocnfcaa
open Go Go.Cx Go.RowKit
set_option linter.unusedVariables false
set_option linter.unusedSimpArgs false
set_option maxHeartbeats 4000000
attribute [local irreducible] J JC thenK blockK loopK roundK drawK retK QW Qt pel List.set Calls
theorem c_u8 : Try.prog.cellsOf 5 = 1 := by kernel_rfl
theorem reads_u8 (W : World) : Reads Try.prog W 5 encK (fun k => k < 256) := by
  intro A ec base spare held fuel cs x h
  obtain ⟨k, e0, g0⟩ := reads_int Try.underlying5 A ec base spare held fuel cs x h
  obtain ⟨k', rfl, hk⟩ := u8_wf g0
  exact ⟨k', e0, hk⟩
theorem reads_u8s (W : World) : Reads Try.prog W 25 (encSl (α := Nat)) (GoodSl W encK 1 (fun k => k < 256)) :=
  reads_slice Try.underlying25 c_u8 (by decide) (fun _ => rfl) (reads_u8 W)
end Go.Proofs.Ytbhgahjeocnfcaa
namespace Go.Cx
open Go Go.RowKit
set_option linter.unusedVariables false
set_option linter.unusedSimpArgs false
def FR (r : Option Nat) : Fence := { Fence.wide with round := r }
theorem oper_in {P : Program} {r : Option Nat} {m : Nat} {o : Oper} {a : Act} {w : World} {next : Act → World → Prop} {Q : Exit → Act → World → Prop} (hd : ∀ c, o.op ≠ .defer c) (h : o.wp P a w next Q) : o.wpIn (FR r) m P a w next Q := by
  refine ⟨fun _ _ => trivial, ?_⟩
  rw [Oper.semAt_eq _ _ _ hd]
  unfold Oper.wp at h
  cases hr : (execOp a.eval o).run P w with
  | ok x w' =>
    rw [hr] at h
    cases x with
    | value v => exact h
    | skip => exact h
    | defer d => exact h
    | enter f args =>
      refine ⟨fun h => (by cases h), ?_⟩
      have h1 : CallsIn Fence.wide (m - 1) P f args w' _ := callsIn_wide.2 h
      have h2 : CallsIn (FR r) (m - 1) P f args w' _ := h1
      refine h2.mono fun e w'' hh => ?_
      cases e <;> exact hh
    | row row args =>
      refine ⟨fun h => (by cases h), ?_⟩
      intro c cs _
      obtain ⟨v, w'', r1, s1⟩ := h c cs
      exact ⟨v, w'', r1, stepsIn_wide.2 s1⟩
    | _ => exact h.elim
  | halt x w' =>
    rw [hr] at h
    cases x <;> exact h
theorem LX.plainIn {P : Program} {r : Option Nat} {m : Nat} {ops : Array Oper} {Q : Exit → Act → World → Prop} : ∀ {l : List Oper} {a : Act} {C : World → Prop}, (∀ o ∈ l, ∀ c, o.op ≠ .defer c) → LX P ops Q (zipK [] l) a C → ∀ w, C w → wpListIn (FR r) m P ops Q l a w
  | [], a, C, _, h, w, hw => h w hw
  | o :: l, a, C, hd, h, w, hw => by
    have h1 : lop P ops Q o (fun a' w' => ∃ C' : World → Prop, ((0 : Nat) ≠ 0 → ∀ w, C' w → C w) ∧ C' w' ∧ LX P ops Q (zipK [] l) a' C') a w := h w hw
    have hd2 : ∀ x ∈ l, ∀ c, x.op ≠ .defer c := fun x hx => hd x (List.mem_cons_of_mem _ hx)
    unfold lop at h1
    unfold wpListIn
    split
    · rename_i hg
      rw [if_pos hg] at h1
      exact oper_in (hd o List.mem_cons_self) (Oper.wp_mono (fun a' w' ⟨C', _, hC, hl⟩ => LX.plainIn hd2 hl w' hC) h1)
    · rename_i hg
      rw [if_neg hg] at h1
      obtain ⟨C', _, hC, hl⟩ := h1
      exact ⟨fun _ _ => trivial, LX.plainIn hd2 hl w hC⟩
def noDefer (l : List Oper) : Bool := l.all fun o => match o.op with | .defer _ => false | _ => true
theorem noDefer_ok {l : List Oper} (h : noDefer l = true) : ∀ o ∈ l, ∀ c, o.op ≠ .defer c := fun o ho c e => by
  have := List.all_eq_true.1 h o ho
  rw [e] at this
  cases this
def JR (rd : Option Nat) (m : Nat) (P : Program) (n : Nat) (w0 : World) (R : Heap) (c : Code) (K : Exit → Fr → List Heap → Prop) (f : Fr) (L : List Heap) : Prop :=
  ∀ a w, Rep n f a → H w0 R L w → c.wpIn (FR rd) m P (QW n w0 R K) a w
section
variable {rd : Option Nat} {m : Nat} {P : Program} {n : Nat} {w0 : World} {R : Heap} {l0 : List Oper} {K : Exit → Fr → List Heap → Prop} {f : Fr} {L : List Heap} {o : Oper} {rest : List (Nat × Oper)} {κ : Nat}
def thenR (rd : Option Nat) (m : Nat) (P : Program) (n : Nat) (w0 : World) (R : Heap) (y : Code) (K : Exit → Fr → List Heap → Prop) : Exit → Fr → List Heap → Prop
  | .normal, f, L => JR rd m P n w0 R y K f L
  | e, f, L => K e f L
theorem JR.seq {x y : Code} (h : JR rd m P n w0 R x (thenR rd m P n w0 R y K) f L) : JR rd m P n w0 R (.seq x y) K f L := fun a w ha hw => by
  refine wpIn_seq (wpIn_mono (h a w ha hw) ?_)
  intro e a' w' q
  cases e <;> first | exact q | (obtain ⟨f', L', ha', hw', hk⟩ := q; first | exact hk a' w' ha' hw' | exact ⟨f', L', ha', hw', hk⟩)
theorem JR.skip (h : K .normal f L) : JR rd m P n w0 R .skip K f L := fun _ _ ha hw => wpIn_skip ⟨f, L, ha, hw, h⟩
theorem JR.exit {id : Nat} (h : K (.exit id) f L) : JR rd m P n w0 R (.exit id) K f L := fun _ _ ha hw => wpIn_exit ⟨f, L, ha, hw, h⟩
theorem JR.region {id : Nat} {l : List Oper} (hd : noDefer l = true) (h : J P n w0 R l K (zipK [] l) f L) : JR rd m P n w0 R (.region id l.toArray false) K f L := fun a w ha hw => wpIn_region_lit (LX.plainIn (noDefer_ok hd) (h a ha) w hw)
theorem JR.condT {c : Operand} {x y : Code} (hc : ev n f c = .bool true) (ht : JR rd m P n w0 R x K f L) : JR rd m P n w0 R (.cond c x y) K f L := fun a w ha hw =>
  wpIn_cond_true (by rw [ha.eval]; exact hc) (ht a w ha hw)
theorem JR.condF {c : Operand} {x y : Code} (hc : ev n f c = .bool false) (ht : JR rd m P n w0 R y K f L) : JR rd m P n w0 R (.cond c x y) K f L := fun a w ha hw =>
  wpIn_cond_false (by rw [ha.eval]; exact hc) (ht a w ha hw)
theorem JR.cond {c : Operand} {x y : Code} {b : Bool} (hc : ev n f c = .bool b) (ht : b = true → JR rd m P n w0 R x K f L) (hf : b = false → JR rd m P n w0 R y K f L) : JR rd m P n w0 R (.cond c x y) K f L := fun a w ha hw =>
  wpIn_cond_split (by rw [ha.eval]; exact hc) (fun hb => ht hb a w ha hw) (fun hb => hf hb a w ha hw)
theorem JR.block {id : Nat} {c : Code} (h : JR rd m P n w0 R c (blockK id K) f L) : JR rd m P n w0 R (.block id c) K f L := fun a w ha hw => by
  refine wpIn_block (wpIn_mono (h a w ha hw) ?_)
  intro e a' w' q
  cases e with
  | exit i =>
    obtain ⟨f', L', ha', hw', hk⟩ := q
    simp only [Exit.inBlock]
    by_cases hi : i = id
    · subst hi
      rw [if_pos rfl]
      have : Nat.beq i i = true := by simp
      simp only [blockK, this, cond_true] at hk
      exact ⟨f', L', ha', hw', hk⟩
    · rw [if_neg hi]
      have : Nat.beq i id = false := by
        cases hb : Nat.beq i id
        · rfl
        · exact absurd (Nat.eq_of_beq_eq_true hb) hi
      simp only [blockK, this, cond_false] at hk
      exact ⟨f', L', ha', hw', hk⟩
  | _ => exact q
theorem thenR.nn {y : Code} (h : JR rd m P n w0 R y K f L) : thenR rd m P n w0 R y K .normal f L := h
theorem thenR.x {y : Code} {id : Nat} (h : K (.exit id) f L) : thenR rd m P n w0 R y K (.exit id) f L := h
theorem JR.pin {c : Code} (i : Nat) {v : Value} (e : f i = v) (k : JR rd m P n w0 R c K (upd f i v) L) : JR rd m P n w0 R c K f L := by
  have : upd f i v = f := funext fun j => by
    by_cases h : j = i
    · subst h; rw [upd_same, e]
    · exact upd_ne f v h
  rw [this] at k
  exact k
end
end Go.Cx
namespace Go.Cx
open Go Go.RowKit
set_option linter.unusedVariables false
set_option linter.unusedSimpArgs false
def dfr (ds : List Deferred) (a : Act) : Act := { a with defers := a.defers ++ ds }
theorem dfr_nil (a : Act) : dfr [] a = a := by unfold dfr; rw [List.append_nil]
theorem dfr_put (ds : List Deferred) (a : Act) (d : Option Tmp) (v : Value) : (dfr ds a).put d v = dfr ds (a.put d v) := by cases d <;> rfl
theorem oper_dfr {P : Program} {ds : List Deferred} {o : Oper} {a : Act} {w : World} {next next' : Act → World → Prop} {Q Q' : Exit → Act → World → Prop} (hn : ∀ a w, next a w → next' (dfr ds a) w) (hp : ∀ c a w, ¬ Q (.panic c) a w) (hl : ∀ a w, ¬ Q .outgrown a w) (h : o.wp P a w next Q) : o.wp P (dfr ds a) w next' Q' := by
  unfold Oper.wp at *
  have he : (dfr ds a).eval = a.eval := rfl
  rw [he]
  generalize (execOp a.eval o).run P w = r at *
  cases r with
  | ok x w' =>
    cases x <;> simp only [Oper.upon] at h ⊢ <;>
      first
        | (rw [dfr_put]; exact hn _ _ h)
        | exact (by have := hn _ _ h; rw [← dfr_put] at this; exact this)
        | exact Calls.mono h (fun e w'' he => by cases e <;> first | (have := hn _ _ he; rw [← dfr_put] at this; exact this) | exact absurd he (hp _ _ _) | (obtain ⟨a, w, h⟩ := he; exact absurd h (hl _ _)))
        | exact Rows.mono h (fun _ _ he => by have := hn _ _ he; rw [← dfr_put] at this; exact this)
        | exact h.elim
  | halt x w' => cases x <;> simp only [Oper.upon] at h ⊢ <;> first | exact absurd h (hp _ _ _) | exact h.elim
section
variable {ds : List Deferred} {m : Nat} {P : Program} {n : Nat} {w0 : World} {R : Heap} {l0 : List Oper} {K : Exit → Fr → List Heap → Prop} {f : Fr} {L : List Heap} {o : Oper} {fuel : Nat} {listed : Array Bool} {Q : Exit → Act → World → Prop}
def JA (ds : List Deferred) (m : Nat) (P : Program) (n : Nat) (w0 : World) (R : Heap) (l0 : List Oper) (Q : Exit → Act → World → Prop) (fuel : Nat) (listed : Array Bool) (f : Fr) (L : List Heap) : Prop :=
  ∀ a w, Rep n f a → H w0 R L w → wpAnyIn (FR none) m P .any l0.toArray Q fuel listed (dfr ds a) w
theorem JA.start {id : Nat} (hm : P.follows .mixedOrders = true) (h : JA ds m P n w0 R l0 Q l0.length (Array.replicate l0.length false) f L) {a : Act} {w : World} (ha : Rep n f a) (hw : H w0 R L w) : (Code.region id l0.toArray true).wpIn (FR none) m P Q (dfr ds a) w := by
  refine wpIn_region_any hm ?_
  have := h a _ ha (hw.drew (w.drawn + 1))
  simpa using this
theorem JA.done (hr : Region.ready .any l0.toArray listed = []) (h : ∀ a w, Rep n f a → H w0 R L w → Q .normal (dfr ds a) w) : JA ds m P n w0 R l0 Q fuel listed f L := fun a w ha hw => wpAnyIn_done hr (h a w ha hw) fuel
def JO (ds : List Deferred) (m : Nat) (P : Program) (n : Nat) (w0 : World) (R : Heap) (l0 : List Oper) (Q : Exit → Act → World → Prop) (fuel : Nat) (listed : Array Bool) (f : Fr) (L : List Heap) (i : Nat) : Prop :=
  ∀ a w, Rep n f a → H w0 R L w → wpOpIn (FR none) m P l0.toArray Q i (wpAnyIn (FR none) m P .any l0.toArray Q fuel (listed.setIfInBounds i true)) (dfr ds a) w
theorem JA.all {rs : List Nat} (hr : Region.ready .any l0.toArray listed = rs) (hne : rs ≠ []) (h : ∀ i ∈ rs, JO ds m P n w0 R l0 Q fuel listed f L i) : JA ds m P n w0 R l0 Q (fuel + 1) listed f L := fun a w ha hw => wpAnyIn_all hr hne fun i hi => h i hi a w ha hw
theorem JA.one {i : Nat} (hr : Region.ready .any l0.toArray listed = [i]) (h : JO ds m P n w0 R l0 Q fuel listed f L i) : JA ds m P n w0 R l0 Q (fuel + 1) listed f L := JA.all hr (by simp) fun j hj => by rw [List.mem_singleton.1 hj]; exact h
theorem JA.two {i j : Nat} (hr : Region.ready .any l0.toArray listed = [i, j]) (h : JO ds m P n w0 R l0 Q fuel listed f L i) (k : JO ds m P n w0 R l0 Q fuel listed f L j) : JA ds m P n w0 R l0 Q (fuel + 1) listed f L := JA.all hr (by simp) fun x hx => by
  rcases List.mem_cons.1 hx with rfl | hx
  · exact h
  · rw [List.mem_singleton.1 hx]; exact k
def nextK (ds : List Deferred) (m : Nat) (P : Program) (n : Nat) (w0 : World) (R : Heap) (l0 : List Oper) (Q : Exit → Act → World → Prop) (fuel : Nat) (listed : Array Bool) : Exit → Fr → List Heap → Prop
  | .normal, f, L => JA ds m P n w0 R l0 Q fuel listed f L
  | _, _, _ => False
theorem nextK.nn (h : JA ds m P n w0 R l0 Q fuel listed f L) : nextK ds m P n w0 R l0 Q fuel listed .normal f L := h
theorem JO.of {i : Nat} (hi : l0.toArray[i]? = some o) (hd : ∀ c, o.op ≠ .defer c) (h : J P n w0 R l0 (nextK ds m P n w0 R l0 Q fuel (listed.setIfInBounds i true)) [(2, o)] f L) : JO ds m P n w0 R l0 Q fuel listed f L i := fun a w ha hw => by
  have h1 := h a ha w hw
  have hnext : ∀ a' w', (∃ C' : World → Prop, ((0 : Nat) ≠ 0 → ∀ w, C' w → H w0 R L w) ∧ C' w' ∧ LX P l0.toArray (QW n w0 R (nextK ds m P n w0 R l0 Q fuel (listed.setIfInBounds i true))) [] a' C') → wpAnyIn (FR none) m P .any l0.toArray Q fuel (listed.setIfInBounds i true) (dfr ds a') w' := fun a' w' ⟨C', _, hC, hl⟩ => by
    obtain ⟨f', L', ha', hw', hk⟩ := hl w' hC
    exact hk a' w' ha' hw'
  unfold wpOpIn
  rw [hi]
  unfold lop at h1
  dsimp only
  have hwa : Region.wanted o (yielded l0.toArray (dfr ds a).tmps) = Region.wanted o (yielded l0.toArray a.tmps) := rfl
  rw [hwa]
  split
  · rename_i hg
    rw [if_pos hg] at h1
    exact oper_in hd (oper_dfr hnext (fun c a w q => by obtain ⟨_, _, _, _, q⟩ := q; exact q.elim) (fun a w q => q) h1)
  · rename_i hg
    rw [if_neg hg] at h1
    refine ⟨fun _ _ => trivial, ?_⟩
    rw [dfr_put]
    exact hnext _ _ h1
theorem JA.quiet {i : Nat} (hi : l0.toArray[i]? = some o) (hs : Region.noSelect l0.toArray = true) (hf : Region.free .any l0.toArray listed i = true) (hr : (Region.ready .any l0.toArray listed).contains i = true) (hab : ∀ (w : World) (a : Act), o.about P w a.eval = none) (hQ : ∀ c a w, ¬ Q (.panic c) a w) (h : J P n w0 R l0 (nextK ds m P n w0 R l0 Q fuel (listed.setIfInBounds i true)) [(0, o)] f L) : JA ds m P n w0 R l0 Q (fuel + 1) listed f L := fun a w ha hw => by
  obtain ⟨v, hy, hl⟩ := h a ha
  obtain ⟨f', L', ha', hw', hk⟩ := hl w hw
  refine wpAnyIn_take rfl hi hs hf hr (fun c a w q => absurd q (hQ _ _ _)) (v := v) ⟨hy, fun w => hab w (dfr ds a)⟩ ?_
  rw [dfr_put]
  exact hk _ _ ha' hw'
theorem yield_run {l : Nat} {x : Operand} {xs : List Operand} {ats : Array TypeId} {vs : List Value} {dst : Option Tmp} {ty : TypeId} {pos : String} {aft : Array Edge} {g : Option (Nat × Bool)} (hx : Cx.ev n f x = .func (.yield l) ⟨[]⟩ ⟨[]⟩) (ha : argsEv (Cx.ev n f) xs = some vs) (w : World) :
    (execOp (Cx.ev n f) ⟨dst, .call ⟨.value x, ⟨xs⟩, ats⟩, ty, pos, aft, g⟩).run P w = (Instr.yield l ⟨vs⟩).run P w := by
  have h1 : (⟨xs⟩ : Array Operand).map (Cx.ev n f) = ⟨vs⟩ := by rw [← argsEv_eq ha]; simp
  simp only [execOp, resolve, h1, hx, Deferred.ofValue, Sem.run_bind, Sem.run_pure, Result.andThen_ok, invoke]
  simp
theorem JO.yield {i l d : Nat} {x : Operand} {xs : List Operand} {ats : Array TypeId} {vs : List Value} {ty : TypeId} {pos : String} {aft : Array Edge} {g : Option (Nat × Bool)} {Φ : Value → List Heap → Prop} (hi : l0.toArray[i]? = some ⟨some d, .call ⟨.value x, ⟨xs⟩, ats⟩, ty, pos, aft, g⟩) (hg : wantB n f l0 ⟨some d, .call ⟨.value x, ⟨xs⟩, ats⟩, ty, pos, aft, g⟩ = true) (hx : Cx.ev n f x = .func (.yield l) ⟨[]⟩ ⟨[]⟩) (ha : argsEv (Cx.ev n f) xs = some vs)
    (hy : ∀ w, H w0 R L w → ∃ fn tmps assign body, (Instr.yield l ⟨vs⟩).run P w = .ok (.round l fn tmps assign body) w ∧ RoundIn (FR none) (m - 1) P l fn tmps assign body w fun e w' => ∃ v L', e = .returned v ∧ H w0 R L' w' ∧ Φ v L')
    (k : ∀ v L', Φ v L' → JA ds m P n w0 R l0 Q fuel (listed.setIfInBounds i true) (upd f d v) L') : JO ds m P n w0 R l0 Q fuel listed f L i := fun a w hra hw => by
  unfold wpOpIn
  rw [hi]
  dsimp only
  have hwa : (dfr ds a).tmps = a.tmps := rfl
  rw [hwa, if_pos ((hra.wanted l0 ⟨some d, .call ⟨.value x, ⟨xs⟩, ats⟩, ty, pos, aft, g⟩).trans hg)]
  refine ⟨fun _ _ => trivial, ?_⟩
  have he : (dfr ds a).eval = a.eval := rfl
  rw [Oper.semAt_eq _ _ _ (fun c => by intro h; cases h), he, hra.eval, yield_run hx ha]
  obtain ⟨fn, tmps, assign, body, hr, hround⟩ := hy w hw
  rw [hr]
  refine ⟨fun h => (by cases h), hround.mono ?_⟩
  rintro e w' ⟨v, L', rfl, hw', hP⟩
  show wpAnyIn _ _ _ _ _ _ _ _ _ _
  rw [dfr_put]
  exact k v L' hP _ _ (hra.put (some d) v) hw'
theorem JA.meet {fuel' : Nat} {listed' : Array Bool} (M : Fr → Fr → List Heap → Prop) (fin : ∀ g Lx, M f g Lx → JA ds m P n w0 R l0 Q fuel' listed' g Lx) (h : (∀ g Lx, M f g Lx → JA ds m P n w0 R l0 Q fuel' listed' g Lx) → JA ds m P n w0 R l0 Q fuel listed f L) : JA ds m P n w0 R l0 Q fuel listed f L := h fin
theorem JA.perm {L' : List Heap} (hp : L.Perm L') (k : JA ds m P n w0 R l0 Q fuel listed f L') : JA ds m P n w0 R l0 Q fuel listed f L := fun a w ha hw => k a w ha (hw.perm hp)
theorem JA.pin (i : Nat) {v : Value} (e : f i = v) (k : JA ds m P n w0 R l0 Q fuel listed (upd f i v) L) : JA ds m P n w0 R l0 Q fuel listed f L := by
  have : upd f i v = f := funext fun j => by
    by_cases h : j = i
    · subst h; rw [upd_same, e]
    · exact upd_ne f v h
  rw [this] at k
  exact k
theorem JA.at {listed' : Array Bool} (hl : listed = listed') (k : JA ds m P n w0 R l0 Q fuel listed' f L) : JA ds m P n w0 R l0 Q fuel listed f L := hl ▸ k
theorem JA.fin (hr : Region.ready .any l0.toArray listed = []) (hk : K .normal f L) : JA [] m P n w0 R l0 (QW n w0 R K) fuel listed f L := JA.done hr fun a w ha hw => by
  rw [dfr_nil]
  exact ⟨f, L, ha, hw, hk⟩
end
end Go.Cx
namespace Go.Cx
open Go Go.RowKit
set_option linter.unusedVariables false
set_option linter.unusedSimpArgs false
theorem H.turn {w0 w : World} {R : Heap} {L : List Heap} {b : Nat} {o : Obj} (o' : Obj) (h : H w0 R ([(b, o)] :: L) w) : H w0 R ([(b, o')] :: L) (w.putObj b o') := by
  have hb := h.rd (Rd.hd (R := R) (L := L) (g := b) (o := o))
  exact h.grew (grownBy_putObj' w b o') (World.putObj_heap_same (Array.getElem?_eq_some_iff.1 hb).1)
section
variable {m : Nat} {P : Program} {n : Nat} {w0 : World} {R : Heap} {f : Fr} {L : List Heap} {l : Nat} {r : Loop}
def rndK (w0 : World) (R : Heap) (l : Nat) (r : Loop) (Φ : Value → List Heap → Prop) : Exit → Fr → List Heap → Prop
  | .normal, _, L => ∃ L2, (∀ w, H w0 R L w → H w0 R ([(l, .loop { r with state := .busy })] :: L2) w) ∧ Φ (.bool true) ([(l, .loop { r with state := .ready, pending := none })] :: L2)
  | .ret, _, L => ∃ L2, (∀ w, H w0 R L w → H w0 R ([(l, .loop { r with state := .busy })] :: L2) w) ∧ Φ (.bool false) ([(l, .loop { r with state := .done, pending := some .ret })] :: L2)
  | .exit id, _, L => ∃ L2, (∀ w, H w0 R L w → H w0 R ([(l, .loop { r with state := .busy })] :: L2) w) ∧ Φ (.bool false) ([(l, .loop { r with state := .done, pending := some (.exit id) })] :: L2)
  | _, _, _ => False
def asgK (m : Nat) (P : Program) (n : Nat) (w0 : World) (R : Heap) (l : Nat) (r : Loop) (Φ : Value → List Heap → Prop) : Exit → Fr → List Heap → Prop
  | .normal, f, L => ∃ L2, (∀ w, H w0 R L w → H w0 R ([(l, .loop r)] :: L2) w) ∧ JR (some l) m P n w0 R r.body (rndK w0 R l r Φ) f ([(l, .loop { r with state := .busy })] :: L2)
  | _, _, _ => False
theorem round_any {vs : List Value} {Φ : Value → List Heap → Prop} (hst : r.state = .ready) (hsz : vs.length = r.params.size) (ha0 : Rep n f { tmps := (r.params.zip ⟨vs⟩).foldl (fun tmps (t, a) => tmps.setIfInBounds t a) r.tmps, defers := [] })
    (hasg : JR (some l) m P n w0 R r.assign (asgK m P n w0 R l r Φ) f ([(l, .loop r)] :: L)) {w : World} (hw : H w0 R ([(l, .loop r)] :: L) w) :
    ∃ fn tmps assign body, (Instr.yield l ⟨vs⟩).run P w = .ok (.round l fn tmps assign body) w ∧ RoundIn (FR none) m P l fn tmps assign body w fun e w' => ∃ v L', e = .returned v ∧ H w0 R L' w' ∧ Φ v L' := by
  have hl := hw.rd (Rd.hd (R := R) (L := L) (g := l) (o := .loop r))
  refine ⟨_, _, _, _, run_yield (P := P) (args := ⟨vs⟩) hl hsz, roundIn_of_wpIn (F := FR none) trivial ?_⟩
  refine wpIn_mono (hasg _ w ha0 hw) ?_
  intro e a1 w1 q
  cases e with
  | normal =>
    obtain ⟨f1, L1, ha1, hw1, L2, hto, hbody⟩ := q
    have hw2 := hto w1 hw1
    have hl2 := hw2.rd (Rd.hd (R := R) (L := L2) (g := l) (o := .loop r))
    refine ⟨_, run_beginRound hl2 hst, ?_⟩
    have hw3 := H.turn (.loop { r with state := .busy }) hw2
    refine wpIn_mono (hbody a1 _ ha1 hw3) ?_
    intro e a3 w3 q
    have fin : ∀ (jump : Option Code) (L4 : List Heap), H w0 R ([(l, .loop { r with state := .busy })] :: L4) w3 →
        (Instr.endRound l jump).run P w3 = .ok (.bool jump.isNone) (w3.putObj l (.loop { r with state := if jump.isNone then .ready else .done, pending := jump })) ∧ H w0 R ([(l, .loop { r with state := if jump.isNone then .ready else .done, pending := jump })] :: L4) (w3.putObj l (.loop { r with state := if jump.isNone then .ready else .done, pending := jump })) := fun jump L4 h4 =>
      ⟨run_endRound (r := { r with state := .busy }) jump (h4.rd (Rd.hd (R := R) (L := L4) (g := l) (o := .loop { r with state := .busy }))), H.turn _ h4⟩
    cases e with
    | normal =>
      obtain ⟨f3, L3, ha3, hw3, L4, hto, hP⟩ := q
      obtain ⟨h1, h2⟩ := fin none L4 (hto _ hw3)
      exact ⟨_, _, h1, _, _, rfl, h2, hP⟩
    | ret =>
      obtain ⟨f3, L3, ha3, hw3, L4, hto, hP⟩ := q
      obtain ⟨h1, h2⟩ := fin (some .ret) L4 (hto _ hw3)
      exact ⟨_, _, h1, _, _, rfl, h2, hP⟩
    | exit id =>
      obtain ⟨f3, L3, ha3, hw3, L4, hto, hP⟩ := q
      obtain ⟨h1, h2⟩ := fin (some (.exit id)) L4 (hto _ hw3)
      exact ⟨_, _, h1, _, _, rfl, h2, hP⟩
    | goto t => obtain ⟨_, _, _, _, q⟩ := q; exact q.elim
    | panic c => obtain ⟨_, _, _, _, q⟩ := q; exact q.elim
    | outgrown => exact q.elim
  | ret => obtain ⟨_, _, _, _, q⟩ := q; exact q.elim
  | exit id => obtain ⟨_, _, _, _, q⟩ := q; exact q.elim
  | goto t => obtain ⟨_, _, _, _, q⟩ := q; exact q.elim
  | panic c => obtain ⟨_, _, _, _, q⟩ := q; exact q.elim
  | outgrown => exact q.elim
def recL (fn : FuncId) (tmps : Array Value) (ps : Array Tmp) (assign body : Code) (D : Nat) : Loop := { state := .ready, pending := none, fn, tmps, params := ps, assign, body, defers := D }
theorem rangeF_any {g : Operand} {ps : Array Tmp} {assign body : Code} {gf : FuncId} {lb : List Value} {Q : Exit → Act → World → Prop} {Ψ : List Heap → Prop} (hg : Cx.ev n f g = .func (.func gf) ⟨[]⟩ ⟨lb⟩) (he : Entr P gf)
    (hit : ∀ (fn D : Nat) (tmps : Array Value) (w1 : World), Rep n f { tmps := tmps, defers := [] } → H w0 R ([(D + 1, .loop (recL fn tmps ps assign body D))] :: [(D, .deferred (some []))] :: L) w1 →
      CallsIn (FR none) (m - 1) P gf ⟨.func (.yield (D + 1)) ⟨[]⟩ ⟨[]⟩ :: lb⟩ w1 fun e w' => ∃ v L', e = .returned v ∧ H w0 R ([(D + 1, .loop (recL fn tmps ps assign body D))] :: [(D, .deferred (some []))] :: L') w' ∧ Ψ L')
    (hk : ∀ (D : Nat) L', Ψ L' → ∀ a w, Rep n f a → H w0 R ([(D, .deferred (some []))] :: L') w → Q .normal (dfr [{ target := .collected D, args := #[] }] a) w)
    {a : Act} {w : World} (ha : Rep n f a) (hw : H w0 R L w) : (Code.rangeFunc g ps assign body).wpIn (FR none) m P Q a w := by
  refine wpIn_rangeFunc fun fn _ => ?_
  have h1 := hw.alloc (.deferred (some []))
  have h2 := h1.alloc (.loop (recL fn a.tmps ps assign body w.heap.size))
  rw [World.size_alloc] at h2
  have ha2 : Rep n f { tmps := a.tmps, defers := [] } := ⟨ha.1, rfl, ha.2.2⟩
  have hda : a.defers = [] := ha.2.1
  have hga : a.eval g = .func (.func gf) ⟨[]⟩ ⟨lb⟩ := by rw [ha.eval]; exact hg
  obtain ⟨W1, hW1⟩ : ∃ W1, (w.alloc (.deferred (some []))).alloc (.loop (recL fn a.tmps ps assign body w.heap.size)) = W1 := ⟨_, rfl⟩
  rw [hW1] at h2
  refine ⟨w.heap.size + 1, [{ target := .collected w.heap.size, args := #[] }], W1, { target := .fn (.func gf) ⟨lb⟩, args := #[.func (.yield (w.heap.size + 1)) #[] #[]] }, W1, gf, ⟨.func (.yield (w.heap.size + 1)) ⟨[]⟩ ⟨[]⟩ :: lb⟩, W1, ?_, ?_, fun _ _ => trivial, ?_, fun h => (by cases h), ?_⟩
  · rw [← hW1]; exact run_enterLoop_outer fn a.tmps ps assign body
  · simp only [resolve, hga]
    simp [go_sem]
  · have := he ⟨.func (.yield (w.heap.size + 1)) ⟨[]⟩ ⟨[]⟩ :: lb⟩ W1
    simpa [invoke, go_sem] using this
  · refine (hit fn w.heap.size a.tmps W1 ha2 h2).mono ?_
    rintro e w' ⟨v, L', rfl, hw', hP⟩
    have hl := hw'.rd (Rd.hd (R := R) (L := [(w.heap.size, .deferred (some []))] :: L') (g := w.heap.size + 1) (o := .loop (recL fn a.tmps ps assign body w.heap.size)))
    refine ⟨none, _, run_endLoop (r := recL fn a.tmps ps assign body w.heap.size) hl (by intro h; cases h), ?_⟩
    have h3 := (H.turn (.loop { recL fn a.tmps ps assign body w.heap.size with state := .exhausted }) hw').drop
    have hd : ({ a with defers := [{ target := .collected w.heap.size, args := #[] }] ++ a.defers } : Act) = dfr [{ target := .collected w.heap.size, args := #[] }] a := by unfold dfr; rw [hda]; rfl
    show Q .normal _ _
    rw [hd]
    exact hk _ _ hP a _ ha h3
theorem leaves_D {fn : Func} {Post : Ending → World → Prop} {D : Nat} {a : Act} {w : World} (ha : Rep n f a) (hw : H w0 R ([(D, .deferred (some []))] :: L) w) (hr : retK P fn n w0 R Post .ret f ([(D, .deferred none)] :: L)) : bodyPostM (FR none) m P fn Post .ret (dfr [{ target := .collected D, args := #[] }] a) w := by
  have hk := hw.rd (Rd.hd (R := R) (L := L) (g := D) (o := .deferred (some [])))
  have hda : (dfr [{ target := .collected D, args := #[] }] a).defers = [{ target := .collected D, args := #[] }] := by
    show a.defers ++ _ = _
    rw [ha.2.1]; rfl
  show LeavesInM (FR none) m P fn _ Post _ .returning w
  rw [hda]
  obtain ⟨v, h1, h2⟩ := hr a _ ha (H.turn (.deferred none) hw)
  exact ⟨(by intro h; cases h), .inl ⟨D, _, rfl, run_takeDeferred hk, ⟨v, h1, h2⟩⟩⟩
theorem calls_of_D {fid : FuncId} {fn : Func} {c : Code} {args : List Value} {Post : Ending → World → Prop} {w : World} (hf : P.funcs[fid]? = some fn) (hn : fn.ntmps = n) (hb : fn.body = some c) (hsz : Nat.ble args.length n = true) (hw : H w0 R L w)
    (h : ∀ a, Rep n (fr0 args) a → c.wpIn (FR none) m P (bodyPostM (FR none) m P fn Post) a w) : Calls P fid args.toArray w Post := by
  have h1 : CallsIn Fence.wide m P fid args.toArray w Post := callsIn_of_wp_marks (F := Fence.wide) hf hb trivial (by
    rw [hn]
    exact h _ (fr0_rep (Nat.le_of_ble_eq_true hsz)))
  exact callsIn_wide.1 h1
def JW (ds : List Deferred) (m : Nat) (P : Program) (n : Nat) (w0 : World) (R : Heap) (c : Code) (Q : Exit → Act → World → Prop) (f : Fr) (L : List Heap) : Prop :=
  ∀ a w, Rep n f a → H w0 R L w → c.wpIn (FR none) m P Q (dfr ds a) w
def toW (m : Nat) (P : Program) (n : Nat) (w0 : World) (R : Heap) (y : Code) (Q : Exit → Act → World → Prop) : Exit → Fr → List Heap → Prop
  | .normal, f, L => JW [] m P n w0 R y Q f L
  | _, _, _ => False
theorem toW.nn {y : Code} {Q : Exit → Act → World → Prop} (h : JW [] m P n w0 R y Q f L) : toW m P n w0 R y Q .normal f L := h
theorem JW.seqC {x y : Code} {Q : Exit → Act → World → Prop} (h : JC P n w0 R x (toW m P n w0 R y Q) f L) : JW [] m P n w0 R (.seq x y) Q f L := fun a w ha hw => by
  rw [dfr_nil]
  refine wpIn_seq (wpIn_mono (wpIn_wide.2 (h a w ha hw) : x.wpIn (FR none) m P _ a w) ?_)
  intro e a' w' q
  cases e with
  | normal =>
    obtain ⟨f', L', ha', hw', hk⟩ := q
    have := hk a' w' ha' hw'
    rw [dfr_nil] at this
    exact this
  | ret => obtain ⟨_, _, _, _, q⟩ := q; exact q.elim
  | exit id => obtain ⟨_, _, _, _, q⟩ := q; exact q.elim
  | goto t => obtain ⟨_, _, _, _, q⟩ := q; exact q.elim
  | panic c => obtain ⟨_, _, _, _, q⟩ := q; exact q.elim
  | outgrown => exact q.elim
end
end Go.Cx
namespace Go.Cx
open Go Go.RowKit
set_option linter.unusedVariables false
set_option linter.unusedSimpArgs false
section
variable {rd : Option Nat} {m : Nat} {P : Program} {n : Nat} {w0 : World} {R : Heap} {K : Exit → Fr → List Heap → Prop} {f : Fr} {L : List Heap}
theorem JR.draw {id : Nat} {l0 : List Oper} (hm : P.follows .mixedOrders = true) (h : JA [] m P n w0 R l0 (QW n w0 R K) l0.length (Array.replicate l0.length false) f L) : JR none m P n w0 R (.region id l0.toArray true) K f L := fun a w ha hw => by
  have := JA.start (id := id) hm h ha hw
  rwa [dfr_nil] at this
theorem roundsR {c : Code} (ws : Nat → Bool) (I : Nat → Fr → List Heap → Prop) (f0 : Fr) (round : ∀ k g L', I k g L' → JR rd m P n w0 R c (loopK ws f0 I k K) (havoc ws f0 g) L') : ∀ k j, j ≤ k → ∀ g L', Ag ws f0 g → I j g L' → ∀ a w, Rep n g a → H w0 R L' w → Code.roundsIn (FR rd) m P c (QW n w0 R K) (k + 1) a w
  | k, j, hj, g, L', hag, hI, a, w, ha, hw => by
    have hr := round j g L' hI
    rw [hag.eq] at hr
    show c.wpIn _ _ _ _ _ _
    refine wpIn_mono (hr a w ha hw) ?_
    intro e a' w' q
    cases e with
    | normal =>
      obtain ⟨f', L'', ha', hw', h1, m', h2, J, L3, hp, h3⟩ := q
      cases k with
      | zero => omega
      | succ k => exact roundsR ws I f0 round k m' (by omega) f' L3 h1 h3 a' w' ha' (hw'.perm hp).drops
    | ret => exact q
    | exit id => exact q
    | goto t => exact q
    | panic c => exact q
    | outgrown => exact q
theorem JR.loop {c : Code} (ws : Nat → Bool) (I : Nat → Fr → List Heap → Prop) (m0 : Nat) (h0 : I m0 f L)
    (round : ∀ k g L', I k g L' → JR rd m P n w0 R c (loopK ws f I k K) (havoc ws f g) L') : JR rd m P n w0 R (.loop c) K f L := fun a w ha hw =>
  wpIn_loop_rounds (m0 + 1) (roundsR ws I f round m0 m0 (Nat.le_refl _) f L Ag.rfl' h0 a w ha hw)
theorem calls_inR {fid : FuncId} {fn : Func} {c : Code} {args : List Value} {Post : Ending → World → Prop} {w : World}
    (hf : P.funcs[fid]? = some fn) (hn : fn.ntmps = n) (hb : fn.body = some c) (hsz : Nat.ble args.length n = true) (hH : H w0 R L w) (h : JR none m P n w0 R c (retK P fn n w0 R Post) (fr0 args) L) : CallsIn (FR none) m P fid args.toArray w Post := by
  refine callsIn_of_wp hf hb trivial ?_
  rw [hn]
  refine wpIn_mono (h _ w (fr0_rep (Nat.le_of_ble_eq_true hsz)) hH) ?_
  intro e a' w' q
  cases e with
  | normal =>
    obtain ⟨f', L', ha', hw', hk⟩ := q
    obtain ⟨v, h1, h2⟩ := hk a' w' ha' hw'
    exact ⟨ha'.2.1, v, h1, h2⟩
  | ret =>
    obtain ⟨f', L', ha', hw', hk⟩ := q
    obtain ⟨v, h1, h2⟩ := hk a' w' ha' hw'
    exact ⟨ha'.2.1, v, h1, h2⟩
  | exit i => obtain ⟨_, _, _, _, hk⟩ := q; exact hk.elim
  | goto i => obtain ⟨_, _, _, _, hk⟩ := q; exact hk.elim
  | panic i => obtain ⟨_, _, _, _, hk⟩ := q; exact hk.elim
  | outgrown => exact q.elim
def noP (K : Exit → Fr → List Heap → Prop) : Prop := ∀ c f L, ¬ K (.panic c) f L
theorem noP.thenR {y : Code} (h : noP K) : noP (thenR rd m P n w0 R y K) := h
theorem noP.blockK {id : Nat} (h : noP K) : noP (Cx.blockK id K) := h
theorem noP.loopK {ws : Nat → Bool} {f0 : Fr} {I : Nat → Fr → List Heap → Prop} {k : Nat} (h : noP K) : noP (Cx.loopK ws f0 I k K) := h
theorem noP.retK {fn : Func} {Post : Ending → World → Prop} : noP (Cx.retK P fn n w0 R Post) := fun _ _ _ h => h
theorem noP.qw (h : noP K) : ∀ c a w, ¬ QW n w0 R K (.panic c) a w := fun c a w ⟨f, L, _, _, q⟩ => h c f L q
end
end Go.Cx
namespace Go.Proofs.Ytbhgahjeocnfcaa
open Go Go.Cx Go.RowKit
set_option linter.unusedVariables false
set_option linter.unusedSimpArgs false
set_option maxHeartbeats 4000000
attribute [local irreducible] J JC thenK blockK loopK roundK drawK retK QW Qt pel List.set Calls
open Go.Maps Go.Lib
set_option maxRecDepth 8000
attribute [local irreducible] JE Br eK0 eK3 brK pc
theorem mput_keep {κ β : Type} [DecidableEq κ] {m : List (κ × β)} {x z : κ} {y v : β} (h : (z, v) ∈ m) : ∃ v', (z, v') ∈ mput m x y := by
  have : z ∈ (mput m x y).map (·.1) := by
    rw [mput_keys]
    have hz : z ∈ m.map (·.1) := List.mem_map.2 ⟨_, h, rfl⟩
    split
    · exact hz
    · exact List.mem_append_left _ hz
  obtain ⟨p, hp, e⟩ := List.mem_map.1 this
  exact ⟨p.2, by rw [← e]; exact hp⟩
structure ROk (n : Nat) (o l : List Int) (ns ts : List N3) (m : List (Int × Nat)) : Prop where
  at_ : ∀ (a y : Nat), ((a : Int), y) ∈ m → a < ns.length ∧ y < ts.length ∧ ∀ β, fn n ts y (asgV l β) = fn n ns a (asgV o β)
  two : ∀ a : Nat, a < 2 → ∃ y, ((a : Int), y) ∈ m
theorem ROk.ext {n : Nat} {o l : List Int} {ns ts us : List N3} {m : List (Int × Nat)} (w : WF n ts) (h : ROk n o l ns ts m) (e : Ext ts us) : ROk n o l ns us m := ⟨fun a y hm => by
  obtain ⟨h1, h2, h3⟩ := h.at_ a y hm
  exact ⟨h1, Nat.lt_of_lt_of_le h2 e.le, fun β => by rw [fn_ext w e h2, h3]⟩, h.two⟩
theorem ROk.put {n : Nat} {o l : List Int} {ns ts : List N3} {m : List (Int × Nat)} (h : ROk n o l ns ts m) {a y : Nat} (h1 : a < ns.length) (h2 : y < ts.length) (h3 : ∀ β, fn n ts y (asgV l β) = fn n ns a (asgV o β)) : ROk n o l ns ts (mput m (a : Int) y) := ⟨fun b z hm => by
  rcases mput_mem hm with hm | ⟨e1, e2⟩
  · exact h.at_ b z hm
  · obtain rfl : b = a := by omega
    subst e2
    exact ⟨h1, h2, h3⟩, fun b hb => by
  obtain ⟨z, hz⟩ := h.two b hb
  exact mput_keep hz⟩
def fnR (c1 c2 c3 c4 : Nat) : Obj := .cells ⟨[.func (.func 117) ⟨[]⟩ ⟨[.pointer (some ⟨c1, 0, none⟩), .pointer (some ⟨c2, 0, none⟩), .pointer (some ⟨c3, 0, none⟩), .pointer (some ⟨c4, 0, none⟩)]⟩]⟩ 38 (0, 0)
theorem eRebC : Entr Try.prog 117 := Entr.of Try.func117 rfl rfl
theorem eReb2 : Entr Try.prog 62 := Entr.of Try.func62 rfl rfl
theorem stR_of2 {R : Heap} {L : List Heap} {K : KS} {b : Nat} {s : SS} {hO : Heap} (r : RdH R L (stR K b s hO)) {w0 w : World} (hw : H w0 R L w) : Holds (stR K b s hO) w := hw.rdH r
set_option maxHeartbeats 16000000 in
theorem rebC_any {n : Nat} {K Kt : KS} {s : SS} {o l : List Int} {hO hP hO2 hP2 : Heap} (so : SOk n K s) (po : POk K o hO hP) (pt : POk Kt l hO2 hP2) (hKt : Kt.no = n) (h8 : n ≤ 8) (hm : ∀ v, v ∈ o → v ∈ l) (bs bt c1 c2 c3 c4 bd : Nat) : ∀ (d a : Nat) (t : SS) (m : List (Int × Nat)) (hD : Heap), n ≤ (nd s.ns a).p + d → SOk n Kt t → a < s.ns.length → t.ns.length + (2 ^ d - 1) * 256 ≤ 1048576 → MapT Try.prog 3 ekI evI m bd hD → ROk n o l s.ns t.ns m →
    ∀ {w0 w : World} {R : Heap} {L : List Heap}, H w0 R (sF Kt bt t ++ (hO2 :: hP2 :: hD :: L)) w → RdH R L (stR K bs s hO) → Rd R L c1 (mapD bd) → Rd R L c2 (ptrS bs) → Rd R L c3 (ptrS bt) → Rd R L c4 (fnR c1 c2 c3 c4) →
    Calls Try.prog 117 #[.int .i64 (a : Int), .pointer (some ⟨c1, 0, none⟩), .pointer (some ⟨c2, 0, none⟩), .pointer (some ⟨c3, 0, none⟩), .pointer (some ⟨c4, 0, none⟩)] w fun e w' => ∃ v L', e = .returned v ∧ H w0 R L' w' ∧ ∃ t' m' hD' y, v = .tuple #[.int .i64 ((y : Nat) : Int), .int .i64 0] ∧ L' = sF Kt bt t' ++ (hO2 :: hP2 :: hD' :: L) ∧ MapT Try.prog 3 ekI evI m' bd hD' ∧ ROk n o l s.ns t'.ns m' ∧ Adds n Kt t t' ((2 ^ d - 1) * 256) y ∧ ∀ β, fn n t'.ns y (asgV l β) = fn n s.ns a (asgV o β) := by
  have h2n := pow8 h8
  intro d
  induction d using Nat.strongRecOn with
  | ind d ih =>
  intro a t m hD hp st ha hfull mp ro w0 w R L hw rS r1 r2 r3 r4
  have sm := so.sm
  have wf := so.wf
  have hno := so.no
  have hpl := po.len
  have hkey := keyI (a : Int) (by omega)
  have r1' := r1
  have r2' := r2
  have r3' := r3
  have r4' := r4
  unfold mapD at r1'
  unfold ptrS at r2' r3'
  unfold fnR at r4'
  unfold sF at hw
  simp only [List.cons_append, List.nil_append] at hw
  cases hget : mget m (a : Int) with
  | some y =>
    obtain ⟨_, hy, hfy⟩ := ro.at_ a y (mget_mem hget)
    refine calls_in Try.func117 Try.ntmps117 rfl rfl (hw) ?_
    repeat' first
      | (refine J.isJ ?_; first | (first | (refine J.o 4 ?_; refine J.lR hΓ ?_ (hr := r1'.tl.tl.tl.tl.tl.tl.tl)) | (refine J.o 9 ?_; refine J.lk (a := (a : Int)) keyedI ekI_inj mp (by first | exact RdH.hd | exact RdH.hd.tl | exact RdH.hd.tl.tl | exact RdH.hd.tl.tl.tl | exact RdH.hd.tl.tl.tl.tl | exact RdH.hd.tl.tl.tl.tl.tl | exact RdH.hd.tl.tl.tl.tl.tl.tl | exact RdH.hd.tl.tl.tl.tl.tl.tl.tl | exact RdH.old (fun _ hh => hh) | assumption) hkey hΓ ?_; rw [hget])) | (first | (refine J.o 0 ?_; refine J.ev' hΓ ?_) | refine J.nil ?_ | (refine J.o 4 ?_; first | refine J.lR hΓ ?_) | (refine J.o 3 ?_; first | refine J.ev' hΓ ?_) | (refine J.o 10 ?_; refine J.ev' hΓ ?_) | (refine J.o 11 ?_; refine J.ev' hΓ ?_)))
      | (first | refine JC.seq ?_ | refine JC.region ?_ | refine JC.ret ?_ | refine JC.skip ?_ | refine thenK.nn ?_ | refine thenK.r ?_ | refine JC.condT rfl ?_ | refine JC.condF rfl ?_)
      | (fail)
      | fail
    all_goals first | (exfalso; omega) | skip
    refine ret2f rfl rfl rfl rfl rfl (fun w1 hw => ⟨_, _, rfl, hw, t, m, hD, y, rfl, rfl, mp, ro, ⟨st, Ext.refl _, by omega, hy⟩, hfy⟩)
  | none =>
    have h2 : 2 ≤ a := by
      rcases Nat.lt_or_ge a 2 with g | g
      · obtain ⟨y, hy⟩ := ro.two a g
        exact absurd hy (mget_out hget y)
      · exact g
    have hpn := wf.pl a h2 ha
    have hll := wf.ll a h2 ha
    have hhl := wf.hl a h2 ha
    have hlp := wf.lp a h2 ha
    have hhp := wf.hp a h2 ha
    have hvo : o.getD (nd s.ns a).p default ∈ o := mem_g o _ (by omega)
    obtain ⟨k, hk⟩ : ∃ k, rk l (o.getD (nd s.ns a).p default) 0 = some k := by
      cases h : rk l (o.getD (nd s.ns a).p default) 0 with
      | some k => exact ⟨k, rfl⟩
      | none => exact absurd (hm _ hvo) (rk_none.1 h)
    have hv := po.ok.1 _ hvo
    have hd2 : 2 ^ d = 2 ^ (d - 1) + 2 ^ (d - 1) := by rw [← Nat.mul_two, ← Nat.pow_succ, show (d - 1).succ = d by omega]
    have hd0 : 0 < 2 ^ (d - 1) := Nat.pow_pos (by decide)
    have cP := fun w hw => Parts_node so po bs a h2 ha w hw
    refine calls_in Try.func117 Try.ntmps117 rfl rfl (hw) ?_
    repeat' first
      | (refine J.isJ ?_; first | (first | (refine J.o 4 ?_; first | refine J.lR hΓ ?_ (hr := r1'.tl.tl.tl.tl.tl.tl.tl) | refine J.lR hΓ ?_ (hr := r2'.tl.tl.tl.tl.tl.tl.tl) | refine J.lR hΓ ?_ (hr := r3'.tl.tl.tl.tl.tl.tl.tl) | refine J.lR hΓ ?_ (hr := r4'.tl.tl.tl.tl.tl.tl.tl)) | (refine J.o 9 ?_; refine J.lk (a := (a : Int)) keyedI ekI_inj mp (by first | exact RdH.hd | exact RdH.hd.tl | exact RdH.hd.tl.tl | exact RdH.hd.tl.tl.tl | exact RdH.hd.tl.tl.tl.tl | exact RdH.hd.tl.tl.tl.tl.tl | exact RdH.hd.tl.tl.tl.tl.tl.tl | exact RdH.hd.tl.tl.tl.tl.tl.tl.tl | exact RdH.old (fun _ hh => hh) | assumption) hkey hΓ ?_; rw [hget]) | (refine J.fc 66 ?_; refine J.call0 eParts rfl rfl (fun w hw => cP w (stR_of2 rS.tl.tl.tl.tl.tl.tl.tl hw)) ?_) | (refine J.fc 26 ?_; refine J.callx eVarS rfl rfl (fun w hw => Var_any st pt _ (by omega) k hk (by omega) (L := hD :: L) hw) ?_; rintro _ _ ⟨t1, x1, rfl, rfl, ad1, f1⟩; unfold sF; simp only [List.cons_append, List.nil_append])) | (first | (refine J.o 0 ?_; refine J.ev' hΓ ?_) | refine J.nil ?_ | (refine J.o 4 ?_; first | refine J.lR hΓ ?_) | (refine J.o 3 ?_; first | refine J.ev' hΓ ?_) | (refine J.o 10 ?_; refine J.ev' hΓ ?_) | (refine J.o 11 ?_; refine J.ev' hΓ ?_)))
      | (first | refine JC.seq ?_ | refine JC.region ?_ | refine JC.ret ?_ | refine JC.skip ?_ | refine thenK.nn ?_ | refine thenK.r ?_ | refine JC.condT rfl ?_ | refine JC.condF rfl ?_)
      | (fail)
      | fail
    all_goals first | (exfalso; omega) | skip
    have l1 := ad1.le
    refine J.isJ ?_
    refine J.o 9 ?_
    refine J.callvx eRebC rfl rfl rfl (fun w hw => ih (d - 1) (by omega) (nd s.ns a).l t1 m hD (by omega) ad1.ok hll (by omega) mp (ro.ext st.wf ad1.ext) (L := L) hw rS r1 r2 r3 r4) ?_
    rintro _ _ ⟨t2, m2, hD2, y2, rfl, rfl, mp2, ro2, ad2, f2⟩
    have l2 := ad2.le
    unfold sF
    simp only [List.cons_append, List.nil_append]
    repeat' first
      | (refine J.isJ ?_; first | ((refine J.o 4 ?_; refine J.lR hΓ ?_ (hr := r4'.tl.tl.tl.tl.tl.tl.tl))) | (first | (refine J.o 0 ?_; refine J.ev' hΓ ?_) | refine J.nil ?_ | (refine J.o 4 ?_; first | refine J.lR hΓ ?_) | (refine J.o 3 ?_; first | refine J.ev' hΓ ?_) | (refine J.o 10 ?_; refine J.ev' hΓ ?_) | (refine J.o 11 ?_; refine J.ev' hΓ ?_)))
      | (first | refine JC.seq ?_ | refine JC.region ?_ | refine JC.ret ?_ | refine JC.skip ?_ | refine thenK.nn ?_ | refine thenK.r ?_ | refine JC.condT rfl ?_ | refine JC.condF rfl ?_)
      | (fail)
      | fail
    all_goals first | (exfalso; omega) | skip
    refine J.isJ ?_
    refine J.o 9 ?_
    refine J.callvx eRebC rfl rfl rfl (fun w hw => ih (d - 1) (by omega) (nd s.ns a).h t2 m2 hD2 (by omega) ad2.ok hhl (by omega) mp2 ro2 (L := L) hw rS r1 r2 r3 r4) ?_
    rintro _ _ ⟨t3, m3, hD3, y3, rfl, rfl, mp3, ro3, ad3, f3⟩
    have l3 := ad3.le
    unfold sF
    simp only [List.cons_append, List.nil_append]
    repeat' first
      | (refine J.isJ ?_; first | (first | (refine J.o 4 ?_; first | refine J.lR hΓ ?_ (hr := r3'.tl.tl.tl.tl.tl.tl.tl)) | (refine J.fc 118 ?_; refine J.callx eIf rfl rfl (fun w hw => If_any ad3.ok x1 (ad3.old (ad2.old ad1.lt)) y3 ad3.lt y2 (ad3.old ad2.lt) (by omega) (L := hO2 :: hP2 :: hD3 :: L) hw) ?_; rintro _ _ ⟨t4, y4, rfl, rfl, ad4, f4⟩; unfold sF; simp only [List.cons_append, List.nil_append]) | (refine J.o 4 ?_; refine J.lR hΓ ?_ (hr := r1'.tl.tl.tl.tl.tl.tl.tl)) | (refine J.o 9 ?_; refine J.perm (bring_perm 6 _) ?_; refine J.mup (a := (a : Int)) (ev := evI) y4 keyedI ekI_inj mp3 hkey hΓ (fun h4 mt4 => ?_))) | (first | (refine J.o 0 ?_; refine J.ev' hΓ ?_) | refine J.nil ?_ | (refine J.o 4 ?_; first | refine J.lR hΓ ?_) | (refine J.o 3 ?_; first | refine J.ev' hΓ ?_) | (refine J.o 10 ?_; refine J.ev' hΓ ?_) | (refine J.o 11 ?_; refine J.ev' hΓ ?_)))
      | (first | refine JC.seq ?_ | refine JC.region ?_ | refine JC.ret ?_ | refine JC.skip ?_ | refine thenK.nn ?_ | refine thenK.r ?_ | refine JC.condT rfl ?_ | refine JC.condF rfl ?_)
      | (fail)
      | fail
    all_goals first | (exfalso; omega) | skip
    have l4 := ad4.le
    have e12 := ad1.ext.trans ad2.ext
    have e23 := ad2.ext.trans ad3.ext
    have hff : ∀ β, fn n t4.ns y4 (asgV l β) = fn n s.ns a (asgV o β) := fun β => by
      have hβ : asgV l β k = β (o.getD (nd s.ns a).p default) := by
        unfold asgV
        have := (rk_some hk).2.2
        rw [Nat.sub_zero] at this
        rw [this]
      have h1 := f1 (asgV l β)
      dsimp only at h1
      rw [hβ] at h1
      rw [f4]
      dsimp only
      rw [fn_ext ad1.ok.wf e23 ad1.lt, h1, f3, fn_ext ad2.ok.wf ad3.ext ad2.lt, f2, fn_node wf _ h2 ha]
      rfl
    have ro4 := (ro3.ext ad3.ok.wf ad4.ext).put ha ad4.lt hff
    refine ret2f rfl rfl rfl rfl rfl (fun w1 hw => ⟨_, _, rfl, H.sel (l := [_, _, _, _, _, _, _]) (M := L) hw [1, 2, 3, 4, 5, 6, 0], t4, _, h4, y4, rfl, rfl, mt4, ro4, (((ad1.trans ad2).trans ad3).trans ad4).mono (by omega), hff⟩)
end Go.Proofs.Ytbhgahjeocnfcaa
namespace Go.Proofs.Ytbhgahjeocnfcaa
open Go Go.Cx Go.RowKit
set_option linter.unusedVariables false
set_option linter.unusedSimpArgs false
set_option maxHeartbeats 4000000
attribute [local irreducible] J JC thenK blockK loopK roundK drawK retK QW Qt pel List.set Calls
open Go.Maps Go.Lib
set_option maxRecDepth 8000
attribute [local irreducible] JE Br eK0 eK3 brK pc
structure Stv (F : VF) (l : List Int) (K : KS) (s : SS) (y : Nat) (hO hP : Heap) : Prop where
  so : SOk l.length K s
  po : POk K l hO hP
  sy : Says s.ns l y F
theorem Stv.ho {F : VF} {l : List Int} {K : KS} {s : SS} {y : Nat} {hO hP : Heap} (st : Stv F l K s y hO hP) : okOrd l := st.po.ok
theorem ROk.start {n : Nat} {o l : List Int} {ns ts : List N3} (w : WF n ns) (w2 : WF n ts) : ROk n o l ns ts [((0 : Int), 0), ((1 : Int), 1)] := by
  have h1 := w.two
  have h2 := w2.two
  refine ⟨fun a y hm => ?_, fun a ha => ?_⟩
  · rcases List.mem_cons.1 hm with e | hm
    · obtain ⟨e1, e2⟩ := Prod.mk.inj e
      obtain rfl : a = 0 := by omega
      subst e2
      exact ⟨by omega, by omega, fun β => by rw [fn_0 w, fn_0 w2]⟩
    · obtain ⟨e1, e2⟩ := Prod.mk.inj (List.mem_singleton.1 hm)
      obtain rfl : a = 1 := by omega
      subst e2
      exact ⟨by omega, by omega, fun β => by rw [fn_1 w, fn_1 w2]⟩
  · rcases (by omega : a = 0 ∨ a = 1) with rfl | rfl
    · exact ⟨0, List.mem_cons_self⟩
    · exact ⟨1, List.mem_cons_of_mem _ List.mem_cons_self⟩
def RebQ (F : VF) (l : List Int) (L : List Heap) (v : Value) (L' : List Heap) : Prop := ∃ bt Kt t y hO2 hP2, v = .tuple #[.pointer (some ⟨bt, 0, none⟩), .int .i64 ((y : Nat) : Int), .int .i64 0] ∧ L' = sF Kt bt t ++ (hO2 :: hP2 :: L) ∧ Stv F l Kt t y hO2 hP2
set_option maxHeartbeats 16000000 in
theorem rebuilt_any {F : VF} {o : List Int} {K : KS} {s : SS} {a : Nat} {hO hP : Heap} (sv : Stv F o K s a hO hP) (h8 : o.length ≤ 8) (l : List Int) (hlen : l.length = o.length) (ho : okOrd l) (hm : ∀ v, v ∈ o → v ∈ l) (al : Option Addr) (cl : Nat) (hl : Heap) (hs : SlT encI 1 al l hl) {w0 w : World} {R : Heap} {L : List Heap} {bs : Nat} (rS : RdH R L (stR K bs s hO)) (rl : RdH R L hl) (hw : H w0 R L w) :
    Calls Try.prog 62 #[.pointer (some ⟨bs, 0, none⟩), .int .i64 (a : Int), .slice al l.length cl] w fun e w' => ∃ v L', e = .returned v ∧ H w0 R L' w' ∧ RebQ F l L v L' := by
  have h2n : 2 ^ o.length ≤ 2 ^ 8 := Nat.pow_le_pow_right (by decide) h8
  have so := sv.so
  have ha := sv.sy.1
  refine calls_in Try.func62 Try.ntmps62 rfl rfl (hw) ?_
  refine JC.seq ?_
  refine JC.region ?_
  refine J.isJ ?_
  refine J.o 6 ?_
  refine J.bx (fun c2 => ?_)
  repeat' first
    | (refine J.isJ ?_; first | (first | (refine J.o 7 ?_; first | refine J.al (t := 30) hΓ (fun c3 => ?_) | refine J.al (t := 40) hΓ (fun c1 => ?_) | refine J.al (t := 38) hΓ (fun c4 => ?_)) | (refine J.o 14 ?_; refine J.mfV [.pointer (some ⟨c1, 0, none⟩), .pointer (some ⟨c2, 0, none⟩), .pointer (some ⟨c3, 0, none⟩), .pointer (some ⟨c4, 0, none⟩)] hΓ ?_) | (refine J.fc 25 ?_; refine J.callx eNew rfl rfl (fun w hw => new_any l al cl hl hs ho rl.tl hw) ?_; rintro _ _ ⟨bt, Kt, t, hO2, hP2, rfl, rfl, st, hns, pt⟩; have hlt : t.ns.length = 2 := (by rw [hns]; rfl); unfold sF; simp only [List.cons_append, List.nil_append]) | (refine J.o 9 ?_; first | refine J.mkm (fun bd => ?_) | refine J.ins (ev := evI) 0 keyedI ekI_inj (MapT.nil _) (keyI 0 (by omega)) hΓ (fun h1 mp1 => ?_) | refine J.ins (ev := evI) 1 keyedI ekI_inj mp1 (keyI 1 (by omega)) hΓ (fun hD mp => ?_))) | (first | (refine J.o 0 ?_; refine J.ev' hΓ ?_) | refine J.nil ?_ | (refine J.o 4 ?_; first | refine J.lR hΓ ?_) | (refine J.o 3 ?_; first | refine J.ev' hΓ ?_) | (refine J.o 5 ?_; first | refine J.t0 hΓ ?_) | (refine J.o 6 ?_; refine J.bx (fun _ => ?_)) | (refine J.o 7 ?_; refine J.al hΓ (fun _ => ?_)) | (refine J.o 10 ?_; refine J.ev' hΓ ?_) | (refine J.o 11 ?_; refine J.ev' hΓ ?_)))
    | (first | refine JC.seq ?_ | refine JC.region ?_ | refine JC.ret ?_ | refine JC.skip ?_ | refine thenK.nn ?_ | refine JC.condF rfl ?_)
    | (fail)
    | fail
  all_goals first | (exfalso; omega) | skip
  rw [hlen] at st
  have hin : ∀ β, fn o.length s.ns a (asgV o β) = F β := sv.sy.2
  have hpw : 0 < 2 ^ o.length := Nat.pow_pos (by decide)
  refine J.isJ ?_
  refine J.o 9 ?_
  refine J.callvx eRebC rfl rfl rfl (fun w hw => rebC_any so sv.po pt st.no h8 hm bs bt c1 c2 c3 c4 bd o.length a t _ hD (by omega) st ha (by omega) mp (ROk.start so.wf st.wf) (L := [(c4, fnR c1 c2 c3 c4)] :: [(c1, mapD bd)] :: [(c3, ptrS bt)] :: [(c2, ptrS bs)] :: L) (H.sel (l := [_, _, _, _, _, _, _, _, _, _, _]) (M := L) hw [4, 5, 6, 7, 8, 9, 2, 0, 1, 3, 10]) rS.tl.tl.tl.tl Rd.hd.tl Rd.hd.tl.tl.tl Rd.hd.tl.tl Rd.hd) ?_
  rintro _ _ ⟨t2, m2, hD2, y2, rfl, rfl, mp2, ro2, ad2, f2⟩
  unfold sF
  simp only [List.cons_append, List.nil_append]
  repeat' first
    | (refine J.isJ ?_; first | (first | (refine J.o 4 ?_; refine J.lR hΓ ?_ (hr := Rd.hd.tl.tl.tl.tl.tl.tl.tl.tl.tl))) | (first | (refine J.o 0 ?_; refine J.ev' hΓ ?_) | refine J.nil ?_ | (refine J.o 4 ?_; first | refine J.lR hΓ ?_) | (refine J.o 3 ?_; first | refine J.ev' hΓ ?_) | (refine J.o 5 ?_; first | refine J.t0 hΓ ?_) | (refine J.o 6 ?_; refine J.bx (fun _ => ?_)) | (refine J.o 7 ?_; refine J.al hΓ (fun _ => ?_)) | (refine J.o 10 ?_; refine J.ev' hΓ ?_) | (refine J.o 11 ?_; refine J.ev' hΓ ?_)))
    | (first | refine JC.seq ?_ | refine JC.region ?_ | refine JC.ret ?_ | refine JC.skip ?_ | refine thenK.nn ?_ | refine JC.condF rfl ?_)
    | (fail)
    | fail
  all_goals first | (exfalso; omega) | skip
  refine ret3f rfl rfl rfl rfl rfl rfl rfl (fun w1 hw => ⟨_, _, rfl, H.sel (l := [_, _, _, _, _, _, _, _, _, _, _]) (M := L) hw [0, 1, 2, 3, 4, 5], bt, Kt, t2, y2, hO2, hP2, rfl, rfl, ?_⟩)
  have ok2 := ad2.ok
  have lt2 := ad2.lt
  rw [← hlen] at ok2 f2
  exact ⟨ok2, pt, lt2, fun β => by rw [f2, hlen]; exact hin β⟩
theorem stR_b {R : Heap} {L : List Heap} {K : KS} {b : Nat} {s : SS} {hO : Heap} (r : RdH R L (stR K b s hO)) : Rd R L b (stO K s.an s.ns.length s.cn) := r _ List.mem_cons_self
theorem stR_N {R : Heap} {L : List Heap} {K : KS} {b : Nat} {s : SS} {hO : Heap} (r : RdH R L (stR K b s hO)) : RdH R L s.hN := fun x hx => r x (List.mem_cons_of_mem _ (List.mem_append_left _ hx))
theorem stR_hd {R : Heap} {K : KS} {b : Nat} {s : SS} {hO hP : Heap} (M : List Heap) : RdH R (sF K b s ++ (hO :: hP :: M)) (stR K b s hO) := fun x hx => by
  rcases List.mem_cons.1 hx with rfl | hx
  · exact (Rd.hd : Rd R (sF K b s ++ (hO :: hP :: M)) b _)
  · rcases List.mem_append.1 hx with h | h
    · exact (RdH.hd.tl : RdH R (sF K b s ++ (hO :: hP :: M)) s.hN) x h
    · exact (RdH.hd.tl.tl.tl.tl : RdH R (sF K b s ++ (hO :: hP :: M)) hO) x h
theorem stR_tl {R : Heap} {L : List Heap} {h : Heap} (r : RdH R L h) (K : KS) (b : Nat) (s : SS) (hO hP : Heap) : RdH R (sF K b s ++ (hO :: hP :: L)) h := RdH.app (sF K b s) r.tl.tl
end Go.Proofs.Ytbhgahjeocnfcaa
namespace Go.Proofs.Ytbhgahjeocnfcaa
open Go Go.Cx Go.RowKit
set_option linter.unusedVariables false
set_option linter.unusedSimpArgs false
set_option maxHeartbeats 4000000
attribute [local irreducible] J JC thenK blockK loopK roundK drawK retK QW Qt pel List.set Calls
open Go.Maps Go.Lib
set_option maxRecDepth 8000
attribute [local irreducible] JE Br eK0 eK3 brK pc
def swp (o : List Int) (p : Nat) : List Int := (o.set p (o.getD (p + 1) default)).set (p + 1) (o.getD p default)
theorem swp_len (o : List Int) (p : Nat) : (swp o p).length = o.length := by simp [swp]
theorem swp_get (o : List Int) {p : Nat} (hp : p + 1 < o.length) (i : Nat) : (swp o p).getD i default = if i = p then o.getD (p + 1) default else if i = p + 1 then o.getD p default else o.getD i default := by
  unfold swp
  rw [List.getD_eq_getElem?_getD, List.getElem?_set, List.getElem?_set, List.length_set]
  by_cases h1 : i = p
  · rw [if_pos h1, h1, if_neg (by omega), if_pos rfl, if_pos (by omega)]; rfl
  · rw [if_neg h1]
    by_cases h2 : i = p + 1
    · rw [if_pos h2, if_pos h2.symm, if_pos (by omega)]; rfl
    · rw [if_neg h2, if_neg (fun g => h2 g.symm), if_neg (fun g => h1 g.symm), List.getD_eq_getElem?_getD]
theorem swp_perm (o : List Int) {p : Nat} (hp : p + 1 < o.length) : (swp o p).Perm o := by
  have e1 : o = o.take p ++ o.getD p default :: o.getD (p + 1) default :: o.drop (p + 2) := by
    have h1 := (List.take_append_drop p o).symm
    have h2 := drop_g o p (by omega)
    have h3 := drop_g o (p + 1) hp
    rw [h2, h3] at h1
    exact h1
  have e2 : swp o p = o.take p ++ o.getD (p + 1) default :: o.getD p default :: o.drop (p + 2) := by
    refine List.ext_getElem (by rw [swp_len]; conv => lhs; rw [e1]
                                simp) fun i h1 h2 => ?_
    have hg : ∀ (l : List Int) (h : i < l.length), l[i] = l.getD i default := fun l h => by rw [List.getD_eq_getElem?_getD, List.getElem?_eq_getElem h]; rfl
    rw [hg _ h1, hg _ h2, swp_get o hp]
    rw [swp_len] at h1
    have ht : (o.take p).length = p := by rw [List.length_take]; omega
    rcases Nat.lt_trichotomy i p with g | g | g
    · rw [if_neg (by omega), if_neg (by omega), List.getD_eq_getElem?_getD, List.getD_eq_getElem?_getD, List.getElem?_append_left (by omega), List.getElem?_take_of_lt g]
    · subst g
      rw [if_pos rfl, List.getD_eq_getElem?_getD (l := _ ++ _), List.getElem?_append_right (by omega), ht, Nat.sub_self]; rfl
    · rw [if_neg (by omega), List.getD_eq_getElem?_getD (l := _ ++ _), List.getElem?_append_right (by omega), ht]
      by_cases g2 : i = p + 1
      · rw [if_pos g2, g2, show p + 1 - p = 1 by omega]; rfl
      · obtain ⟨j, hj⟩ : ∃ j, i - p = j + 2 := ⟨i - p - 2, by omega⟩
        rw [if_neg g2, hj, List.getElem?_cons_succ, List.getElem?_cons_succ, List.getElem?_drop, List.getD_eq_getElem?_getD, show p + 2 + j = i by omega]
  rw [e2]
  conv => rhs; rw [e1]
  exact List.Perm.append_left _ (List.Perm.swap _ _ _)
theorem swp_ord {o : List Int} (h : okOrd o) {p : Nat} (hp : p + 1 < o.length) : okOrd (swp o p) :=
  ⟨fun v hv => h.1 v ((swp_perm o hp).mem_iff.1 hv), (swp_perm o hp).nodup_iff.2 h.2⟩
theorem eSwap : Entr Try.prog 17 := Entr.of Try.func17 rfl rfl
theorem eChecked : Entr Try.prog 61 := Entr.of Try.func61 rfl rfl
theorem checked_any {n : Nat} {K : KS} {s : SS} (so : SOk n K s) (b a : Nat) (ha : a < s.ns.length) {hO : Heap} {w0 w : World} {R : Heap} {L : List Heap} (rS : RdH R L (stR K b s hO)) (hw : H w0 R L w) :
    Calls Try.prog 61 #[.pointer (some ⟨b, 0, none⟩), .int .i64 (a : Int)] w fun e w' => ∃ v L', e = .returned v ∧ H w0 R L' w' ∧ v = .int .i64 0 ∧ L' = L := by
  refine calls_in Try.func61 Try.ntmps61 rfl rfl (hw) ?_
  repeat' first
    | (refine J.isJ ?_; first | (first | (refine J.o 11 ?_; refine J.pN hΓ ?_) | (refine J.fc 20 ?_; refine J.callx eSize rfl rfl (fun w hw => Size_any so b a ha (stR_b rS) (stR_N rS) hw) ?_; rintro _ _ ⟨l, rfl, rfl, bel⟩)) | (first | (refine J.o 0 ?_; refine J.ev' hΓ ?_) | refine J.nil ?_ | (refine J.o 3 ?_; first | refine J.ev' hΓ ?_) | (refine J.o 10 ?_; refine J.ev' hΓ ?_) | (refine J.o 11 ?_; refine J.ev' hΓ ?_)))
    | (first | refine JC.seq ?_ | refine JC.region ?_ | refine JC.ret ?_ | refine JC.skip ?_ | refine thenK.nn ?_ | refine JC.condF rfl ?_)
    | (fail)
    | fail
  all_goals first | (exfalso; omega) | skip
  refine ret1f rfl rfl rfl (fun w1 hw => ⟨_, _, rfl, hw, rfl, rfl⟩)
theorem rebuilt_n {F : VF} {o : List Int} {K : KS} {s : SS} {a : Nat} {hO hP : Heap} (sv : Stv F o K s a hO hP) (h8 : o.length ≤ 8) (l : List Int) (nl : Nat) (hnl : l.length = nl) (hlen : l.length = o.length) (ho : okOrd l) (hm : ∀ v, v ∈ o → v ∈ l) (al : Option Addr) (cl : Nat) (hl : Heap) (hs : SlT encI 1 al l hl) {w0 w : World} {R : Heap} {L : List Heap} {bs : Nat} (rS : RdH R L (stR K bs s hO)) (rl : RdH R L hl) (hw : H w0 R L w) :
    Calls Try.prog 62 #[.pointer (some ⟨bs, 0, none⟩), .int .i64 (a : Int), .slice al nl cl] w fun e w' => ∃ v L', e = .returned v ∧ H w0 R L' w' ∧ RebQ F l L v L' := by
  subst hnl
  exact rebuilt_any sv h8 l hlen ho hm al cl hl hs rS rl hw
theorem H.drop6 {K : KS} {b : Nat} {s : SS} {hO hP h : Heap} {L : List Heap} {w0 w : World} {R : Heap} (hw : H w0 R (sF K b s ++ (hO :: hP :: h :: L)) w) : H w0 R (sF K b s ++ (hO :: hP :: L)) w := H.sel (l := [_, _, _, _, _, _, _]) (M := L) hw [0, 1, 2, 3, 4, 5]
theorem Swap_any {F : VF} {o : List Int} {K : KS} {s : SS} {a : Nat} {hO hP : Heap} (sv : Stv F o K s a hO hP) (h8 : o.length ≤ 8) (p : Nat) (hp : p + 1 < o.length) {w0 w : World} {R : Heap} {L : List Heap} {bs : Nat} (rS : RdH R L (stR K bs s hO)) (hw : H w0 R L w) :
    Calls Try.prog 17 #[.pointer (some ⟨bs, 0, none⟩), .int .i64 (a : Int), .int .i64 (p : Int)] w fun e w' => ∃ v L', e = .returned v ∧ H w0 R L' w' ∧ RebQ F (swp o p) L v L' := by
  have so := sv.so
  have ha := sv.sy.1
  have hsl : (swp o p).length = o.length := swp_len o p
  have cO := fun w hw => Order_any so sv.po bs w hw
  have hg1 : (o.set p (o.getD (p + 1) default)).length = o.length := by simp
  refine calls_in Try.func17 Try.ntmps17 rfl rfl (hw) ?_
  repeat' first
    | (refine J.isJ ?_; first | (first | (refine J.fc 61 ?_; refine J.callx eChecked rfl rfl (fun w hw => checked_any so bs a ha rS hw) ?_; rintro _ _ ⟨rfl, rfl⟩) | (refine J.fc 19 ?_; refine J.call1 eOrder rfl rfl (fun w hw => cO w (stR_of2 rS hw)) ?_; rintro _ ho ⟨ao, co, rfl, oo⟩) | (refine J.o 3 ?_; refine J.iJ hΓ ?_ (hs := oo.sl)) | (refine J.o 4 ?_; refine J.lT default hΓ ?_ (hs := oo.sl) (hr := RdH.hd)) | (refine J.o 5 ?_; first | refine J.tT (enc := encI) (o.getD (p + 1) default) default hΓ (fun h5 o5 => ?_) (ho := oo))) | (first | (refine J.o 0 ?_; refine J.ev' hΓ ?_) | refine J.nil ?_ | (refine J.o 4 ?_; first | refine J.lT default hΓ ?_) | (refine J.o 3 ?_; first | refine J.iJ hΓ ?_ | refine J.ev' hΓ ?_) | (refine J.o 1 ?_; first | refine J.ad ?_ | refine J.sb ?_) | (refine J.o 5 ?_; first | refine J.tT _ default hΓ (fun _ _ => ?_)) | (refine J.o 10 ?_; refine J.ev' hΓ ?_) | (refine J.o 11 ?_; refine J.ev' hΓ ?_)))
    | (first | refine JC.seq ?_ | refine JC.region ?_ | refine JC.ret ?_ | refine JC.skip ?_ | refine thenK.nn ?_ | refine JC.condF rfl ?_ | (refine JC.cond rfl (fun hc => ?_) (fun hc => ?_) <;> ((try simp only [decide_eq_true_eq, decide_eq_false_iff_not, beq_iff_eq, beq_eq_false_iff_ne, bne_iff_ne, bne_eq_false_iff_eq, Bool.not_eq_true', Bool.not_eq_false', Bool.not_eq_true, Bool.not_eq_false] at hc) <;> first | (first | (exact absurd rfl hc) | (exfalso; omega) | (exact absurd (hc.symm.trans (by assumption : _ = false)) (by decide)) | (exact absurd (hc.symm.trans (by assumption : _ = true)) (by decide))) | skip)) | refine drawK.nn ?_)
    | ((refine JC.drawO [(0,0),(0,1),(0,2),(0,3),(0,4),(0,5),(0,6),(0,7),(0,8),(1,9),(0,10),(0,11),(0,12),(1,13),(0,14),(2,15),(0,16),(2,17)] (by decide +kernel) (by decide +kernel) ?_))
    | fail
  all_goals first | (exfalso; omega) | skip
  rename_i h6 o6
  have hq : ((p : Int) + 1).toNat = p + 1 := by omega
  rw [hq] at o6
  have o7 : OwT encI 1 3 ao co (swp o p) h6 := o6
  repeat' first
    | (refine J.isJ ?_; first | ((refine J.fc 62 ?_; refine J.callx eReb2 rfl rfl (fun w hw => rebuilt_n sv h8 (swp o p) o.length hsl hsl (swp_ord sv.ho hp) (fun v hv => (swp_perm o hp).mem_iff.2 hv) ao co h6 o7.sl rS.tl RdH.hd hw) ?_; rintro _ _ ⟨bt, Kt, t, y, hO2, hP2, rfl, rfl, sv2⟩)) | (first | (refine J.o 0 ?_; refine J.ev' hΓ ?_) | refine J.nil ?_ | (refine J.o 4 ?_; first | refine J.lT default hΓ ?_) | (refine J.o 3 ?_; first | refine J.iJ hΓ ?_ | refine J.ev' hΓ ?_) | (refine J.o 1 ?_; first | refine J.ad ?_ | refine J.sb ?_) | (refine J.o 5 ?_; first | refine J.tT _ default hΓ (fun _ _ => ?_)) | (refine J.o 10 ?_; refine J.ev' hΓ ?_) | (refine J.o 11 ?_; refine J.ev' hΓ ?_)))
    | (first | refine JC.seq ?_ | refine JC.region ?_ | refine JC.ret ?_ | refine JC.skip ?_ | refine thenK.nn ?_ | refine JC.condF rfl ?_ | (refine JC.cond rfl (fun hc => ?_) (fun hc => ?_) <;> ((try simp only [decide_eq_true_eq, decide_eq_false_iff_not, beq_iff_eq, beq_eq_false_iff_ne, bne_iff_ne, bne_eq_false_iff_eq, Bool.not_eq_true', Bool.not_eq_false', Bool.not_eq_true, Bool.not_eq_false] at hc) <;> first | (first | (exact absurd rfl hc) | (exfalso; omega) | (exact absurd (hc.symm.trans (by assumption : _ = false)) (by decide)) | (exact absurd (hc.symm.trans (by assumption : _ = true)) (by decide))) | skip)) | refine drawK.nn ?_)
    | (fail)
    | fail
  all_goals first | (exfalso; omega) | skip
  refine ret3f rfl rfl rfl rfl rfl rfl rfl (fun w1 hw => ⟨_, _, rfl, H.drop6 hw, bt, Kt, t, y, hO2, hP2, rfl, rfl, sv2⟩)
end Go.Proofs.Ytbhgahjeocnfcaa
namespace Go.Proofs.Ytbhgahjeocnfcaa
open Go Go.Cx Go.RowKit
set_option linter.unusedVariables false
set_option linter.unusedSimpArgs false
set_option maxHeartbeats 4000000
attribute [local irreducible] J JC thenK blockK loopK roundK drawK retK QW Qt pel List.set Calls
open Go.Maps Go.Lib
set_option maxRecDepth 8000
attribute [local irreducible] JE Br eK0 eK3 brK pc
section
variable {P : Program} {n : Nat} {w0 : World} {R : Heap} {l0 : List Oper} {K : Exit → Fr → List Heap → Prop} {f : Fr} {L : List Heap} {rest : List (Nat × Oper)} {κ : Nat}
variable {d : Nat} {ty : TypeId} {pos : String} {aft : Array Edge} {g : Option (Nat × Bool)} {t u : TypeId} {x y : Operand}
theorem J.eqT2 {Γ : List (Nat × TI)} {a b : Nat} (hΓ : Fits P Γ) (h : a = b) (k : J P n w0 R l0 K rest (upd f d (.bool true)) L) (hg : wantB n f l0 ⟨some d, .binOp .eql t x y u, ty, pos, aft, g⟩ = true := by exact rfl) (hx : Cx.ev n f x = .int .i64 (a : Int) := by exact rfl) (hy : Cx.ev n f y = .int .i64 (b : Int) := by exact rfl) (hv : pureEv Γ (Cx.ev n f) (.binOp .eql t x y u) = some (.bool ((a : Int) == (b : Int))) := by exact rfl) : J P n w0 R l0 K ((κ, ⟨some d, .binOp .eql t x y u, ty, pos, aft, g⟩) :: rest) f L := by
  subst h
  have e : ((a : Int) == (a : Int)) = true := by simp
  rw [e] at hv
  exact J.ev hΓ hg hv k
end
end Go.Proofs.Ytbhgahjeocnfcaa
namespace Go.Proofs.Ytbhgahjeocnfcaa
open Go Go.Cx Go.RowKit
set_option linter.unusedVariables false
set_option linter.unusedSimpArgs false
set_option maxHeartbeats 4000000
attribute [local irreducible] J JC thenK blockK loopK roundK drawK retK QW Qt pel List.set Calls
open Go.Maps Go.Lib
set_option maxRecDepth 8000
attribute [local irreducible] JE Br eK0 eK3 brK pc
def litT (b : Int → Bool) (l : Int) : Bool := if l < 0 then !b (-l) else b l
def evT (b : Int → Bool) (T : List (List Int)) : Bool := T.all fun c => c.any (litT b)
def okTh (N : Nat) (T : List (List Int)) : Prop := N ≤ 128 ∧ T.length ≤ 4096 ∧ ∀ c ∈ T, c.length ≤ 128 ∧ ∀ x ∈ c, x ≠ 0 ∧ -(N : Int) ≤ x ∧ x ≤ N
theorem okTh_iff {N : Nat} {T : List (List Int)} : thE (N : Int) T = 0 ↔ okTh N T := by
  rw [thE_ok]
  unfold okTh
  constructor
  · rintro ⟨h1, h2, h3⟩; exact ⟨by omega, h2, h3⟩
  · rintro ⟨h1, h2, h3⟩; exact ⟨⟨by omega, by omega⟩, h2, h3⟩
end Go.Proofs.Ytbhgahjeocnfcaa
