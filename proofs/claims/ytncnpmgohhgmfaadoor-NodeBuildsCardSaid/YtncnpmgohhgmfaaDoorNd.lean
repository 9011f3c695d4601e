/- Keys tell nodes apart; a builder's state; put. -/
import Derived.Test.YtncnpmgohhgmfaaDoorNc
import Derived.Test.YtncnpmgohhgmfaaDoorCxY
import Derived.Maps.Keyed
import Derived.StringKeys
namespace Go.Proofs.YtncnpmgohhgmfaaDoor
open Go Go.Cx Go.RowKit
set_option linter.unusedVariables false
set_option linter.unusedSimpArgs false
set_option maxHeartbeats 4000000
attribute [local irreducible] J JC thenK blockK loopK roundK drawK retK QW Qt pel List.set Calls
open Go.Lib
theorem u8_48 {i : Nat} (h : i < 10) : (UInt8.ofNat (48 + i)).toNat = 48 + i := by
  rw [UInt8.toNat_ofNat', Nat.mod_eq_of_lt (by omega)]
theorem dec_byte : ∀ (u : Nat) (b : UInt8), b ∈ decDigits u → 48 ≤ b.toNat := fun u => by
  induction u using Nat.strongRecOn with
  | _ u ih =>
    intro b hb
    rw [decDigits] at hb
    by_cases h : u < 10
    · rw [dif_pos h, List.mem_singleton] at hb; rw [hb, u8_48 h]; omega
    · rw [dif_neg h, List.mem_append] at hb
      rcases hb with hb | hb
      · exact ih _ (by omega) b hb
      · rw [List.mem_singleton] at hb; rw [hb, u8_48 (by omega)]; omega
def valD (l : List UInt8) : Nat := l.foldl (fun a b => 10 * a + (b.toNat - 48)) 0
theorem val_dec : ∀ u : Nat, valD (decDigits u) = u := fun u => by
  induction u using Nat.strongRecOn with
  | _ u ih =>
    rw [decDigits]
    by_cases h : u < 10
    · rw [dif_pos h]; unfold valD; rw [List.foldl_cons, List.foldl_nil, u8_48 h]; omega
    · rw [dif_neg h]
      have := ih (u / 10) (by omega)
      unfold valD at this ⊢
      rw [List.foldl_append, List.foldl_cons, List.foldl_nil, this, u8_48 (by omega)]; omega
theorem itoa_byte (n : Int) (b : UInt8) (h : b ∈ itoa n) : b.toNat ≠ 32 := by
  unfold itoa at h
  split at h
  · rcases List.mem_cons.1 h with rfl | h
    · decide
    · have := dec_byte _ _ h; omega
  · have := dec_byte _ _ h; omega
theorem itoa_inj {a b : Int} (h : itoa a = itoa b) : a = b := by
  have hd : ∀ u, ∀ l, decDigits u ≠ 45 :: l := fun u l e => by
    have := dec_byte u 45 (by rw [e]; exact List.mem_cons_self)
    exact absurd this (by decide)
  unfold itoa at h
  by_cases ha : a < 0 <;> by_cases hb : b < 0
  · rw [if_pos ha, if_pos hb] at h
    have := congrArg valD (List.cons.inj h).2
    rw [val_dec, val_dec] at this; omega
  · rw [if_pos ha, if_neg hb] at h; exact absurd h.symm (hd _ _)
  · rw [if_neg ha, if_pos hb] at h; exact absurd h (hd _ _)
  · rw [if_neg ha, if_neg hb] at h
    have := congrArg valD h
    rw [val_dec, val_dec] at this; omega
theorem word_inj : ∀ (a b r s : List UInt8), (∀ x, x ∈ a → x.toNat ≠ 32) → (∀ x, x ∈ b → x.toNat ≠ 32) → a ++ 32 :: r = b ++ 32 :: s → a = b ∧ r = s
  | [], [], r, s, _, _, h => ⟨rfl, (List.cons.inj h).2⟩
  | [], y :: b, r, s, _, h2, h => absurd (congrArg UInt8.toNat (List.cons.inj h).1).symm (h2 y List.mem_cons_self)
  | x :: a, [], r, s, h1, _, h => absurd (congrArg UInt8.toNat (List.cons.inj h).1) (h1 x List.mem_cons_self)
  | x :: a, y :: b, r, s, h1, h2, h => by
    have h3 := List.cons.inj h
    have := word_inj a b r s (fun z hz => h1 z (List.mem_cons_of_mem _ hz)) (fun z hz => h2 z (List.mem_cons_of_mem _ hz)) h3.2
    exact ⟨by rw [h3.1, this.1], this.2⟩
theorem numS_inj {a b : Int} {r s : List UInt8} (h : numS a ++ r = numS b ++ s) : a = b ∧ r = s := by
  unfold numS at h
  rw [List.append_assoc, List.append_assoc] at h
  have := word_inj _ _ r s (itoa_byte a) (itoa_byte b) h
  exact ⟨itoa_inj this.1, this.2⟩
theorem nums_inj : ∀ (a b : List Int), a.flatMap numS = b.flatMap numS → a = b
  | [], [], _ => rfl
  | [], y :: b, h => by
    rw [List.flatMap_nil, List.flatMap_cons] at h
    unfold numS at h
    simp at h
  | x :: a, [], h => by
    rw [List.flatMap_nil, List.flatMap_cons] at h
    unfold numS at h
    simp at h
  | x :: a, y :: b, h => by
    rw [List.flatMap_cons, List.flatMap_cons] at h
    have h1 := numS_inj h
    rw [h1.1, nums_inj a b h1.2]
theorem keyS_inj {x y : PN} (h : keyS x = keyS y) : x = y := by
  obtain ⟨k, l, i⟩ := x
  obtain ⟨k', l', i'⟩ := y
  unfold keyS at h
  simp only [List.append_assoc] at h
  have h1 := numS_inj h
  have h2 := numS_inj h1.2
  rw [h1.1, h2.1, nums_inj _ _ h2.2]
/-- a node as a map's key, an index as its element -/
def ekN (x : PN) : Value := .string (S (keyS x))
def evN (i : Nat) : Value := .int .i64 (i : Int)
theorem ekN_inj (x y : PN) (h : ekN x = ekN y) : x = y := by
  unfold ekN S at h
  simp only [Value.string.injEq, ByteArray.mk.injEq, Array.mk.injEq] at h
  exact keyS_inj h
theorem sk : Go.Maps.Keyed Tryd.prog 9 := Go.Maps.string_keyed Tryd.underlying9
theorem ekN_key (x : PN) (h1 : i64B x.1) (h2 : i64B x.2.1) (h3 : ∀ k, k ∈ x.2.2 → i64B k) (hl : x.2.2.length ≤ 1000000) : ∃ l, keyOf Tryd.prog 9 (ekN x) = some l := by
  have l1 := numS_len h1
  have l2 := numS_len h2
  have l3 := nums_len x.2.2 h3
  have : (S (keyS x)).size ≤ maxLen := by
    have hm : 30000000 ≤ maxLen := by decide +kernel
    refine Nat.le_trans ?_ hm
    show (keyS x).length ≤ 30000000
    unfold keyS
    rw [List.length_append, List.length_append]
    omega
  exact ⟨_, Go.WideMaps.keyOf_string_mk Tryd.underlying9 this⟩
def keysM : List PN → Nat → List (PN × Nat)
  | [], _ => []
  | x :: B, k => (x, k) :: keysM B (k + 1)
theorem keysM_keys : ∀ (B : List PN) (k : Nat), (keysM B k).map (·.1) = B
  | [], _ => rfl
  | x :: B, k => by show x :: _ = _; rw [keysM_keys B (k + 1)]
theorem keysM_snoc : ∀ (B : List PN) (x : PN) (k : Nat), keysM (B ++ [x]) k = keysM B k ++ [(x, k + B.length)]
  | [], x, k => rfl
  | y :: B, x, k => by
    show (y, k) :: keysM (B ++ [x]) (k + 1) = _
    rw [keysM_snoc B x (k + 1), List.length_cons, show k + 1 + B.length = k + (B.length + 1) by omega]; rfl
theorem mget_keys (x : PN) : ∀ (B : List PN) (k : Nat), mget (keysM B k) x = if x ∈ B then some (idxP B x k).toNat else none
  | [], k => rfl
  | y :: B, k => by
    have ih := mget_keys x B (k + 1)
    unfold mget at ih ⊢
    show Option.map _ (List.find? _ ((y, k) :: keysM B (k + 1))) = _
    rw [List.find?_cons]
    by_cases h : y = x
    · subst h
      rw [if_pos List.mem_cons_self]
      simp [idxP]
    · rw [show decide ((y, k).1 = x) = false from decide_eq_false h]
      show Option.map _ (List.find? _ (keysM B (k + 1))) = _
      rw [ih]
      by_cases h2 : x ∈ B
      · rw [if_pos h2, if_pos (List.mem_cons_of_mem _ h2)]
        rw [idxP, if_neg h]; rfl
      · rw [if_neg h2, if_neg (fun hm => (List.mem_cons.1 hm).elim (fun e => h e.symm) h2)]
theorem mput_keys2 (B : List PN) (x : PN) (h : x ∉ B) : mput (keysM B 0) x B.length = keysM (B ++ [x]) 0 := by
  unfold mput
  rw [keysM_keys, if_neg (by simpa using h), keysM_snoc, Nat.zero_add]
/-- regions that draw; a nil check is a quiet operation -/
def kindsN (lc lw : List Nat) : Nat → List Oper → List Nat
  | _, [] => []
  | i, o :: l => (match o.op with | .nilCheck _ => 0 | op => kd lc lw i op) :: kindsN lc lw (i + 1) l
theorem JC.drawN {P : Program} {n : Nat} {w0 : World} {R : Heap} {K : Exit → Fr → List Heap → Prop} {f : Fr} {L : List Heap} {id : Nat} {l : List Oper} (lc lw : List Nat) (hm : P.follows .mixedOrders = true) (hB : drawB (kindsN lc lw 0 l) l.toArray = true)
    (h : J P n w0 R l (drawK K) (zipK (kindsN lc lw 0 l) l) f L) : JC P n w0 R (.region id l.toArray true) K f L := JC.draw _ hm hB h
/-- a builder's memory: its nodes vs (hi holds their inputs) -/
structure BS (vs : List NV) (a : Option Addr) (cap : Nat) (bm : Nat) (ho hi hm : Heap) : Prop where
  ow : OwT encNV 3 40 a cap vs ho
  ins : ∀ v, v ∈ vs → SlT encI 1 v.a v.l hi
  mp : MapT Tryd.prog 9 ekN evN (keysM (vs.map pnV) 0) bm hm
def bO (n : Int) (a : Option Addr) (len cap bm : Nat) : Obj := .cells ⟨[.int .i64 n, .slice a len cap, .map (some bm)]⟩ 56 (0, 0)
/-- the fragments of a builder at block b -/
def bL (n : Int) (b : Nat) (a : Option Addr) (vs : List NV) (cap bm : Nat) (ho hi hm : Heap) : List Heap := [[(b, bO n a vs.length cap bm)], ho, hi, hm]
/-- a node whose numbers are small -/
structure OkV (v : NV) : Prop where
  k : 0 ≤ v.kind ∧ v.kind ≤ 4
  t : -128 ≤ v.lit ∧ v.lit ≤ 128
  n : v.l.length ≤ 1000000
  i : ∀ k, k ∈ v.l → 0 ≤ k ∧ k ≤ 1000000
theorem ePut : Entr Tryd.prog 41 := Entr.of Tryd.func41 rfl rfl
theorem idx_nat (B : List PN) (x : PN) (h : x ∈ B) : 0 ≤ idxP B x 0 ∧ idxP B x 0 < B.length := by
  have := idxP_bd x B 0 h; omega
theorem put_any (v : NV) (ov : OkV v) {w0 w : World} {R : Heap} {L : List Heap} {n : Int} {b cap bm : Nat} {a : Option Addr} {vs : List NV} {ho hi hm hv : Heap} (hT : Tab w0) (bs : BS vs a cap bm ho hi hm) (hs : SlT encI 1 v.a v.l hv) (hvl : vs.length < 65536) (hw : H w0 R (hv :: (bL n b a vs cap bm ho hi hm ++ L)) w) :
    Calls Tryd.prog 41 #[.pointer (some ⟨b, 0, none⟩), .agg ⟨encNV v⟩] w fun e w' => ∃ v' L', e = .returned v' ∧ H w0 R L' w' ∧ ∃ a' cap' ho' hi' hm' vs', v' = .tuple #[.int .i64 (putP (vs.map pnV) (pnV v)).1, .int .i64 0] ∧ L' = bL n b a' vs' cap' bm ho' hi' hm' ++ L ∧ BS vs' a' cap' bm ho' hi' hm' ∧ vs'.map pnV = (putP (vs.map pnV) (pnV v)).2 ∧ (vs' = vs ∨ vs' = vs ++ [v]) := by
  obtain ⟨ow, ins, mp⟩ := bs
  obtain ⟨⟨k0, k1⟩, ⟨t0, t1⟩, on, oi⟩ := ov
  have h1 : i64B v.kind := ⟨by omega, by omega⟩
  have h2 : i64B v.lit := ⟨by omega, by omega⟩
  have h3 : ∀ k, k ∈ v.l → i64B k := fun k hk => by have := oi k hk; exact ⟨by omega, by omega⟩
  have hkey := ekN_key (pnV v) h1 h2 h3 on
  unfold bL at hw ⊢
  simp only [List.cons_append, List.nil_append] at hw
  by_cases hx : pnV v ∈ vs.map pnV
  · have hget := mget_keys (pnV v) (vs.map pnV) 0
    rw [if_pos hx] at hget
    have hix := idx_nat _ _ hx
    have hp : putP (vs.map pnV) (pnV v) = (idxP (vs.map pnV) (pnV v) 0, vs.map pnV) := if_pos hx
    refine calls_in Tryd.func41 Tryd.ntmps41 rfl rfl (hw) ?_
    unfold bO
    repeat' first
      | (refine J.isJ ?_; first | (first | (refine J.fc 61 ?_; refine J.call0 eKey rfl rfl (fun w hw => key_any v hv hs on h1 h2 h3 w (hT.below hw.below) (hw.rdH RdH.hd.tl)) ?_) | (refine J.lk sk ekN_inj mp (by first | exact RdH.hd | exact RdH.hd.tl | exact RdH.hd.tl.tl | exact RdH.hd.tl.tl.tl | exact RdH.hd.tl.tl.tl.tl | exact RdH.hd.tl.tl.tl.tl.tl | exact RdH.hd.tl.tl.tl.tl.tl.tl | exact RdH.hd.tl.tl.tl.tl.tl.tl.tl | exact RdH.old (fun _ hh => hh) | assumption) hkey hΓ ?_; rw [hget])) | (first | (refine J.o 0 ?_; refine J.ev' hΓ ?_) | refine J.nil ?_ | refine J.kd ?_ | (refine J.o 4 ?_; first | refine J.e0 hΓ ?_ | refine J.e1 hΓ ?_ | refine J.e2 hΓ ?_ | refine J.lT default hΓ ?_ | refine J.lR hΓ ?_) | (refine J.o 3 ?_; first | refine J.iJ hΓ ?_ | refine J.fP hΓ ?_ | refine J.iC hΓ ?_ | refine J.ev' hΓ ?_) | (refine J.o 1 ?_; first | refine J.ad ?_ | refine J.sb ?_ | refine J.ng ?_) | (refine J.o 5 ?_; first | refine J.t0 hΓ ?_ | refine J.t1 hΓ ?_ | refine J.t2 hΓ ?_ | refine J.tT _ default hΓ (fun _ _ => ?_) | refine J.tT1 _ default hΓ (fun _ _ => ?_) | refine J.tT2 _ default hΓ (fun _ _ => ?_)) | (refine J.o 6 ?_; refine J.bx (fun _ => ?_)) | (refine J.o 7 ?_; refine J.al hΓ (fun _ => ?_)) | (refine J.o 8 ?_; refine J.bd hΓ ?_) | (refine J.o 9 ?_; refine J.bl hΓ (fun _ => ?_)) | (refine J.o 10 ?_; refine J.ev' hΓ ?_) | (refine J.o 11 ?_; refine J.ev' hΓ ?_) | refine J.kn ?_) | ((fail_if_success refine J.wt ?_); refine J.gc rfl rfl (fun hc => ?_) (fun hc => ?_) <;> ((try simp only [decide_eq_true_eq, decide_eq_false_iff_not, beq_iff_eq, beq_eq_false_iff_ne, bne_iff_ne, bne_eq_false_iff_eq, Bool.not_eq_true', Bool.not_eq_false', Bool.not_eq_true, Bool.not_eq_false] at hc) <;> first | (first | (exact absurd rfl hc) | (exfalso; omega) | (exact absurd (hc.symm.trans (by assumption : _ = false)) (by decide)) | (exact absurd (hc.symm.trans (by assumption : _ = true)) (by decide))) | skip)))
      | (first | refine JC.seq ?_ | refine JC.region ?_ | refine JC.block ?_ | refine JC.ret ?_ | refine JC.exit ?_ | refine JC.skip ?_ | refine thenK.nn ?_ | refine thenK.r ?_ | refine thenK.x ?_ | refine blockK.nn ?_ | refine blockK.r ?_ | refine blockK.hit rfl ?_ | refine blockK.miss rfl ?_ | refine JC.condT rfl ?_ | refine JC.condF rfl ?_ | (refine JC.cond rfl (fun hc => ?_) (fun hc => ?_) <;> ((try simp only [decide_eq_true_eq, decide_eq_false_iff_not, beq_iff_eq, beq_eq_false_iff_ne, bne_iff_ne, bne_eq_false_iff_eq, Bool.not_eq_true', Bool.not_eq_false', Bool.not_eq_true, Bool.not_eq_false] at hc) <;> first | (first | (exact absurd rfl hc) | (exfalso; omega) | (exact absurd (hc.symm.trans (by assumption : _ = false)) (by decide)) | (exact absurd (hc.symm.trans (by assumption : _ = true)) (by decide))) | skip)) | (refine JC.drawA [] (by kernel_rfl) (by kernel_rfl) ?_) | refine drawK.nn ?_ | refine roundK.nn ?_ | refine roundK.r ?_ | refine roundK.x ?_ | refine loopK.r ?_ | refine loopK.x ?_)
      | (fail)
      | fail
    all_goals first | (exfalso; omega) | skip
    refine ret2f rfl rfl rfl rfl rfl (fun w1 hw => ⟨_, _, rfl, H.sel (l := [_, _, _, _, _, _]) (M := L) hw [2, 3, 4, 5], ?_⟩)
    exact ⟨a, cap, ho, hi, hm, vs, by rw [hp]; congr 3; exact congrArg (Value.int .i64) (Int.toNat_of_nonneg hix.1), rfl, ⟨ow, ins, mp⟩, by rw [hp], .inl rfl⟩
  · have hget := mget_keys (pnV v) (vs.map pnV) 0
    rw [if_neg hx] at hget
    have hp : putP (vs.map pnV) (pnV v) = (((vs.map pnV).length : Int), vs.map pnV ++ [pnV v]) := if_neg hx
    have hms := mput_keys2 (vs.map pnV) (pnV v) hx
    rw [List.length_map] at hms
    have vq : Value.int .i64 (((vs.length + 1 : Nat) : Int) - 1) = evN vs.length := congrArg (Value.int .i64) (by omega)
    have hl2 : (vs ++ [v]).length = vs.length + 1 := by rw [List.length_append]; rfl
    refine calls_in Tryd.func41 Tryd.ntmps41 rfl rfl (hw) ?_
    unfold bO
    repeat' first
      | (refine J.isJ ?_; first | (first | (refine J.fc 61 ?_; refine J.call0 eKey rfl rfl (fun w hw => key_any v hv hs on h1 h2 h3 w (hT.below hw.below) (hw.rdH RdH.hd.tl)) ?_) | (refine J.o 9 ?_; refine J.lk sk ekN_inj mp (by first | exact RdH.hd | exact RdH.hd.tl | exact RdH.hd.tl.tl | exact RdH.hd.tl.tl.tl | exact RdH.hd.tl.tl.tl.tl | exact RdH.hd.tl.tl.tl.tl.tl | exact RdH.hd.tl.tl.tl.tl.tl.tl | exact RdH.hd.tl.tl.tl.tl.tl.tl.tl | exact RdH.old (fun _ hh => hh) | assumption) hkey hΓ ?_; rw [hget]) | ((refine J.o 9 ?_; first | (first | (refine J.ap1 (enc := encNV) [v] hΓ (fun a2 c2 h2 o2 => ?_)) | (refine J.perm (br1.cons _) ?_; refine J.ap1 (enc := encNV) [v] hΓ (fun a2 c2 h2 o2 => ?_)) | (refine J.perm (br2.cons _) ?_; refine J.ap1 (enc := encNV) [v] hΓ (fun a2 c2 h2 o2 => ?_)) | (refine J.perm (br3.cons _) ?_; refine J.ap1 (enc := encNV) [v] hΓ (fun a2 c2 h2 o2 => ?_)) | (refine J.perm (br4.cons _) ?_; refine J.ap1 (enc := encNV) [v] hΓ (fun a2 c2 h2 o2 => ?_)) | (refine J.perm (br5.cons _) ?_; refine J.ap1 (enc := encNV) [v] hΓ (fun a2 c2 h2 o2 => ?_))) | (refine J.perm br1 ?_; first | (refine J.ap1 (enc := encNV) [v] hΓ (fun a2 c2 h2 o2 => ?_)) | (refine J.perm (br1.cons _) ?_; refine J.ap1 (enc := encNV) [v] hΓ (fun a2 c2 h2 o2 => ?_)) | (refine J.perm (br2.cons _) ?_; refine J.ap1 (enc := encNV) [v] hΓ (fun a2 c2 h2 o2 => ?_)) | (refine J.perm (br3.cons _) ?_; refine J.ap1 (enc := encNV) [v] hΓ (fun a2 c2 h2 o2 => ?_)) | (refine J.perm (br4.cons _) ?_; refine J.ap1 (enc := encNV) [v] hΓ (fun a2 c2 h2 o2 => ?_)) | (refine J.perm (br5.cons _) ?_; refine J.ap1 (enc := encNV) [v] hΓ (fun a2 c2 h2 o2 => ?_))) | (refine J.perm br2 ?_; first | (refine J.ap1 (enc := encNV) [v] hΓ (fun a2 c2 h2 o2 => ?_)) | (refine J.perm (br1.cons _) ?_; refine J.ap1 (enc := encNV) [v] hΓ (fun a2 c2 h2 o2 => ?_)) | (refine J.perm (br2.cons _) ?_; refine J.ap1 (enc := encNV) [v] hΓ (fun a2 c2 h2 o2 => ?_)) | (refine J.perm (br3.cons _) ?_; refine J.ap1 (enc := encNV) [v] hΓ (fun a2 c2 h2 o2 => ?_)) | (refine J.perm (br4.cons _) ?_; refine J.ap1 (enc := encNV) [v] hΓ (fun a2 c2 h2 o2 => ?_)) | (refine J.perm (br5.cons _) ?_; refine J.ap1 (enc := encNV) [v] hΓ (fun a2 c2 h2 o2 => ?_)))); rw [hl2]) | (refine J.o 5 ?_; first | (refine J.perm br3 ?_; refine J.t0 hΓ ?_) | (refine J.perm br4 ?_; refine J.t0 hΓ ?_) | (refine J.perm br5 ?_; refine J.t0 hΓ ?_) | (refine J.perm br6 ?_; refine J.t0 hΓ ?_) | (refine J.perm br7 ?_; refine J.t0 hΓ ?_)) | (refine J.o 9 ?_; refine J.perm br5 ?_; refine J.mup (ev := evN) vs.length sk ekN_inj mp hkey hΓ (fun h3 mt3 => ?_) (hv := vq))) | (first | (refine J.o 0 ?_; refine J.ev' hΓ ?_) | refine J.nil ?_ | refine J.kd ?_ | (refine J.o 4 ?_; first | refine J.e0 hΓ ?_ | refine J.e1 hΓ ?_ | refine J.e2 hΓ ?_ | refine J.lT default hΓ ?_ | refine J.lR hΓ ?_) | (refine J.o 3 ?_; first | refine J.iJ hΓ ?_ | refine J.fP hΓ ?_ | refine J.iC hΓ ?_ | refine J.ev' hΓ ?_) | (refine J.o 1 ?_; first | refine J.ad ?_ | refine J.sb ?_ | refine J.ng ?_) | (refine J.o 5 ?_; first | refine J.t0 hΓ ?_ | refine J.t1 hΓ ?_ | refine J.t2 hΓ ?_ | refine J.tT _ default hΓ (fun _ _ => ?_) | refine J.tT1 _ default hΓ (fun _ _ => ?_) | refine J.tT2 _ default hΓ (fun _ _ => ?_)) | (refine J.o 6 ?_; refine J.bx (fun _ => ?_)) | (refine J.o 7 ?_; refine J.al hΓ (fun _ => ?_)) | (refine J.o 8 ?_; refine J.bd hΓ ?_) | (refine J.o 9 ?_; refine J.bl hΓ (fun _ => ?_)) | (refine J.o 10 ?_; refine J.ev' hΓ ?_) | (refine J.o 11 ?_; refine J.ev' hΓ ?_) | refine J.kn ?_) | ((fail_if_success refine J.wt ?_); refine J.gc rfl rfl (fun hc => ?_) (fun hc => ?_) <;> ((try simp only [decide_eq_true_eq, decide_eq_false_iff_not, beq_iff_eq, beq_eq_false_iff_ne, bne_iff_ne, bne_eq_false_iff_eq, Bool.not_eq_true', Bool.not_eq_false', Bool.not_eq_true, Bool.not_eq_false] at hc) <;> first | (first | (exact absurd rfl hc) | (exfalso; omega) | (exact absurd (hc.symm.trans (by assumption : _ = false)) (by decide)) | (exact absurd (hc.symm.trans (by assumption : _ = true)) (by decide))) | skip)))
      | (first | refine JC.seq ?_ | refine JC.region ?_ | refine JC.block ?_ | refine JC.ret ?_ | refine JC.exit ?_ | refine JC.skip ?_ | refine thenK.nn ?_ | refine thenK.r ?_ | refine thenK.x ?_ | refine blockK.nn ?_ | refine blockK.r ?_ | refine blockK.hit rfl ?_ | refine blockK.miss rfl ?_ | refine JC.condT rfl ?_ | refine JC.condF rfl ?_ | (refine JC.cond rfl (fun hc => ?_) (fun hc => ?_) <;> ((try simp only [decide_eq_true_eq, decide_eq_false_iff_not, beq_iff_eq, beq_eq_false_iff_ne, bne_iff_ne, bne_eq_false_iff_eq, Bool.not_eq_true', Bool.not_eq_false', Bool.not_eq_true, Bool.not_eq_false] at hc) <;> first | (first | (exact absurd rfl hc) | (exfalso; omega) | (exact absurd (hc.symm.trans (by assumption : _ = false)) (by decide)) | (exact absurd (hc.symm.trans (by assumption : _ = true)) (by decide))) | skip)) | refine drawK.nn ?_ | refine roundK.nn ?_ | refine roundK.r ?_ | refine roundK.x ?_ | refine loopK.r ?_ | refine loopK.x ?_)
      | ((refine JC.drawN [] [] (by kernel_rfl) (by kernel_rfl) ?_))
      | fail
    all_goals first | (exfalso; omega) | skip
    refine ret2f rfl rfl rfl rfl rfl (fun w1 hw => ⟨_, _, rfl, H.sel (l := [_, _, _, _]) (M := L) (H.sel (l := [_, _, _, _, _, _]) (M := L) hw [5, 4, 1, 2, 0]).mg1 [1, 2, 0, 3], ?_⟩)
    rw [hms] at mt3
    refine ⟨a2, c2, h2, hi ++ hv, h3, vs ++ [v], ?_, ?_, ⟨o2, fun x hx => ?_, ?_⟩, ?_, .inr rfl⟩
    · rw [hp, List.length_map]; exact congrArg (fun t => Value.tuple #[t, .int .i64 0]) vq
    · rw [hl2]; rfl
    · rcases List.mem_append.1 hx with hx | hx
      · exact (ins x hx).sub fun y hy => List.mem_append_left _ hy
      · rw [List.mem_singleton.1 hx]; exact hs.sub fun y hy => List.mem_append_right _ hy
    · rw [List.map_append]; exact mt3
    · rw [hp, List.map_append]; rfl
end Go.Proofs.YtncnpmgohhgmfaaDoor
