/- Nets of builders: marks, places; Clone. -/
import Derived.Test.YtncnpmgohhgmfaaDoorNk
namespace Go.Proofs.YtncnpmgohhgmfaaDoor
open Go Go.Cx Go.RowKit
set_option linter.unusedVariables false
set_option linter.unusedSimpArgs false
set_option maxHeartbeats 4000000
attribute [local irreducible] J JC thenK blockK loopK roundK drawK retK QW Qt pel List.set Calls
attribute [local irreducible] JE Br eK0 eK2 eK3 brK
def b2i (b : Bool) : Int := if b then 1 else 0
/-- inputs stand before their nodes -/
def Ord (B : List PN) : Prop := ∀ (i : Nat) (k : Int), k ∈ inP B i → 0 ≤ k ∧ k < i
def orS (U : List Bool) (l : List Int) (x : Bool) : List Bool := l.foldl (fun U k => U.set k.toNat (U.getD k.toNat false || x)) U
def mk (B : List PN) : Nat → List Bool → List Bool
  | 0, U => U
  | i + 1, U => mk B i (orS U (inP B i) (U.getD i false))
def markN (B : List PN) (r n : Nat) : List Bool := mk B (r + 1) ((List.replicate n false).set r true)
def rk (U : List Bool) : Nat → Int
  | 0 => 0
  | i + 1 => rk U i + b2i (U.getD i false)
def netTo (B : List PN) (U : List Bool) : Nat → List PN
  | 0 => []
  | i + 1 => netTo B U i ++ (if U.getD i false = true then [(kindP B i, litP B i, (inP B i).map fun k => rk U k.toNat)] else [])
/-- P20.5: the net of a root -/
def netP (B : List PN) (r : Nat) : List PN := netTo B (markN B r (r + 1)) (r + 1)
theorem orS_cons (U : List Bool) (k : Int) (l : List Int) (x : Bool) : orS U (k :: l) x = orS (U.set k.toNat (U.getD k.toNat false || x)) l x := rfl
theorem orS_snoc (U : List Bool) (k : Int) (l : List Int) (x : Bool) : orS U (l ++ [k]) x = (orS U l x).set k.toNat ((orS U l x).getD k.toNat false || x) := by
  unfold orS; rw [List.foldl_append]; rfl
theorem orS_len : ∀ (l : List Int) (U : List Bool) (x : Bool), (orS U l x).length = U.length
  | [], U, x => rfl
  | k :: l, U, x => by rw [orS_cons, orS_len l, List.length_set]
theorem mk_len (B : List PN) : ∀ (n : Nat) (U : List Bool), (mk B n U).length = U.length
  | 0, U => rfl
  | n + 1, U => by rw [mk, mk_len B n, orS_len]
theorem getD_set (U : List Bool) (k j : Nat) (y : Bool) : (U.set k y).getD j false = if k = j ∧ k < U.length then y else U.getD j false := by
  simp only [List.getD_eq_getElem?_getD, List.getElem?_set]
  by_cases h : k = j
  · subst h
    by_cases h2 : k < U.length
    · simp [h2]
    · simp [h2]
  · simp [h]
theorem orS_ne : ∀ (l : List Int) (U : List Bool) (x : Bool) (j : Nat), (∀ k, k ∈ l → k.toNat ≠ j) → (orS U l x).getD j false = U.getD j false
  | [], U, x, j, _ => rfl
  | k :: l, U, x, j, h => by
    rw [orS_cons, orS_ne l _ _ _ fun k hk => h k (List.mem_cons_of_mem _ hk), getD_set, if_neg (fun e => h k List.mem_cons_self e.1)]
theorem orS_mono : ∀ (l : List Int) (U : List Bool) (x : Bool) (j : Nat), U.getD j false = true → (orS U l x).getD j false = true
  | [], U, x, j, h => h
  | k :: l, U, x, j, h => by
    rw [orS_cons]
    refine orS_mono l _ _ _ ?_
    rw [getD_set]
    split
    · rename_i e; rw [e.1, h]; rfl
    · exact h
theorem orS_mem : ∀ (l : List Int) (U : List Bool) (j : Nat), (∃ k, k ∈ l ∧ k.toNat = j) → j < U.length → (orS U l true).getD j false = true
  | [], U, j, ⟨k, hk, _⟩, _ => absurd hk List.not_mem_nil
  | k :: l, U, j, ⟨q, hq, hqj⟩, hj => by
    rw [orS_cons]
    rcases List.mem_cons.1 hq with rfl | hq
    · refine orS_mono l _ _ _ ?_
      rw [getD_set, if_pos ⟨hqj, by omega⟩, Bool.or_true]
    · exact orS_mem l _ j ⟨q, hq, hqj⟩ (by rw [List.length_set]; exact hj)
theorem orS_false : ∀ (l : List Int) (U : List Bool), orS U l false = U
  | [], U => rfl
  | k :: l, U => by
    rw [orS_cons, orS_false l, Bool.or_false]
    apply List.ext_getElem?
    intro i
    rw [List.getElem?_set]
    split
    · rename_i h
      subst h
      by_cases h2 : k.toNat < U.length
      · rw [if_pos h2, List.getD_eq_getElem?_getD, List.getElem?_eq_getElem h2]; rfl
      · rw [if_neg h2, List.getElem?_eq_none (by omega)]
    · rfl
theorem mk_mono (B : List PN) : ∀ (n : Nat) (U : List Bool) (j : Nat), U.getD j false = true → (mk B n U).getD j false = true
  | 0, U, j, h => h
  | n + 1, U, j, h => by rw [mk]; exact mk_mono B n _ j (orS_mono _ _ _ _ h)
theorem mk_ge {B : List PN} (hB : Ord B) : ∀ (n : Nat) (U : List Bool) (j : Nat), n ≤ j + 1 → (mk B n U).getD j false = U.getD j false
  | 0, U, j, h => rfl
  | n + 1, U, j, h => by
    rw [mk, mk_ge hB n _ j (by omega), orS_ne]
    intro k hk
    have := hB n k hk
    omega
theorem mk_closed {B : List PN} (hB : Ord B) : ∀ (n : Nat) (U : List Bool), n ≤ U.length → ∀ i, i < n → (mk B n U).getD i false = true → ∀ k, k ∈ inP B i → (mk B n U).getD k.toNat false = true
  | 0, U, _, i, hi, _, _, _ => absurd hi (Nat.not_lt_zero _)
  | n + 1, U, hU, i, hi, h, k, hk => by
    rw [mk] at h ⊢
    by_cases e : i = n
    · subst e
      rw [mk_ge hB i _ i (by omega), orS_ne] at h
      · rw [h]
        refine mk_mono B i _ _ (orS_mem _ _ _ ⟨k, hk, rfl⟩ ?_)
        have := hB i k hk
        omega
      · intro q hq
        have := hB i q hq
        omega
    · exact mk_closed hB n _ (by rw [orS_len]; omega) i (by omega) h k hk
theorem orS_app : ∀ (l : List Int) (U V : List Bool) (x : Bool), (∀ k, k ∈ l → k.toNat < U.length) → orS (U ++ V) l x = orS U l x ++ V
  | [], U, V, x, _ => rfl
  | k :: l, U, V, x, h => by
    have hk := h k List.mem_cons_self
    rw [orS_cons, orS_cons, List.set_append_left _ _ hk, orS_app l _ V x fun q hq => by rw [List.length_set]; exact h q (List.mem_cons_of_mem _ hq)]
    congr 2
    simp [List.getElem?_append, hk]
theorem mk_app {B : List PN} (hB : Ord B) : ∀ (n : Nat) (U V : List Bool), n ≤ U.length → mk B n (U ++ V) = mk B n U ++ V
  | 0, U, V, _ => rfl
  | n + 1, U, V, h => by
    rw [mk, mk, orS_app _ _ _ _ fun k hk => by have := hB n k hk; omega, mk_app hB n _ _ (by rw [orS_len]; omega)]
    congr 3
    simp [List.getElem?_append, show n < U.length by omega]
theorem markN_app {B : List PN} (hB : Ord B) (r n : Nat) (h : r < n) : markN B r n = markN B r (r + 1) ++ List.replicate (n - (r + 1)) false := by
  unfold markN
  rw [← mk_app hB _ _ _ (by simp)]
  congr 1
  rw [← List.set_append_left _ _ (by simp), List.replicate_append_replicate]
  congr 2
  omega
theorem rk_congr (U V : List Bool) : ∀ i, (∀ j, j < i → U.getD j false = V.getD j false) → rk U i = rk V i
  | 0, _ => rfl
  | i + 1, h => by rw [rk, rk, rk_congr U V i fun j hj => h j (by omega), h i (by omega)]
theorem netTo_congr {B : List PN} (hB : Ord B) (U V : List Bool) : ∀ i, (∀ j, j < i → U.getD j false = V.getD j false) → netTo B U i = netTo B V i
  | 0, _ => rfl
  | i + 1, h => by
    have e : (inP B i).map (fun k => rk U k.toNat) = (inP B i).map (fun k => rk V k.toNat) := List.map_congr_left fun k hk => rk_congr U V _ fun j hj => h j (by have := hB i k hk; omega)
    rw [netTo, netTo, netTo_congr hB U V i fun j hj => h j (by omega), h i (by omega), e]
theorem netTo_len (B : List PN) (U : List Bool) : ∀ i, ((netTo B U i).length : Int) = rk U i
  | 0 => rfl
  | i + 1 => by
    rw [netTo, rk, List.length_append]
    have := netTo_len B U i
    cases U.getD i false with
    | true => rw [if_pos rfl]; show ((_ + 1 : Nat) : Int) = _ + 1; omega
    | false => rw [if_neg (by decide)]; show ((_ + 0 : Nat) : Int) = _ + 0; omega
theorem netP_long {B : List PN} (hB : Ord B) (r n : Nat) (h : r < n) : netTo B (markN B r n) (r + 1) = netP B r := by
  refine netTo_congr hB _ _ _ fun j hj => ?_
  rw [markN_app hB r n h, List.getD_eq_getElem?_getD, List.getElem?_append_left, ← List.getD_eq_getElem?_getD]
  unfold markN
  rw [mk_len]
  simp
  omega
section
variable {Γ : List (Nat × TI)} {e : TypeId}
variable {P : Program} {n : Nat} {w0 : World} {R : Heap} {l0 : List Oper} {K : Exit → Fr → List Heap → Prop} {f : Fr} {L : List Heap} {rest : List (Nat × Oper)} {κ : Nat}
variable {d : Nat} {ty : TypeId} {pos : String} {aft : Array Edge} {g : Option (Nat × Bool)} {t u : TypeId} {x y : Operand}
/-- x | y of marks -/
theorem J.oB {p q : Bool} (k : J P n w0 R l0 K rest (upd f d (.int .i64 (b2i (p || q)))) L) (hg : wantB n f l0 ⟨some d, .binOp .or t x y u, ty, pos, aft, g⟩ = true := by exact rfl) (hx : Cx.ev n f x = .int .i64 (b2i p) := by exact rfl) (hy : Cx.ev n f y = .int .i64 (b2i q) := by exact rfl) : J P n w0 R l0 K ((κ, ⟨some d, .binOp .or t x y u, ty, pos, aft, g⟩) :: rest) f L :=
  J.p hg (bin_run hx hy (fun w => by cases p <;> cases q <;> rfl)) k
/-- a slice held against nil -/
theorem J.sN {a : Option Addr} {m c s1 b1 : Nat} {z1 : Option Value} (hΓ : Fits P Γ) (k : J P n w0 R l0 K rest (upd f d (.bool a.isNone)) L) (hg : wantB n f l0 ⟨some d, .binOp .eql t x y u, ty, pos, aft, g⟩ = true := by exact rfl) (hx : Cx.ev n f x = .slice a m c := by exact rfl) (hy : Cx.ev n f y = .slice none 0 0 := by exact rfl) (ht : Go.Cx.look Γ t = some ⟨.slice e, s1, z1, b1⟩ := by exact rfl) : J P n w0 R l0 K ((κ, ⟨some d, .binOp .eql t x y u, ty, pos, aft, g⟩) :: rest) f L :=
  J.p hg (fun w => by
    have hu := (hΓ t _ ht).1
    have h : ∀ d : Nat, (Op.equalIn (d + 1) t (.slice a m c) (.slice none 0 0)).run P w = .ok a.isNone w := fun d => by
      cases a <;> simp [Op.equalIn, run_underlying hu]
    have h2 : (binOp .eql t (.slice a m c) (.slice none 0 0)).run P w = .ok (.bool a.isNone) w := by
      simp only [binOp]
      simp [Op.equal, Op.maxDepth, h 9999]
    have h3 : (eqGuard .eql t x y (.slice a m c) (.slice none 0 0)).run P w = .ok () w := by simp [eqGuard]
    simp only [execOp, hx, hy, Sem.run_bind, h3, Result.andThen_ok, h2]
    rfl) k
end
theorem eClone : Entr Tryd.prog 39 := Entr.of Tryd.func39 rfl rfl
theorem lit_nil (b : Nat) (t : TypeId) : OwT encI 1 t (some ⟨b, 0, none⟩) 0 [] [(b, .cells ⟨[]⟩ t (0, 0))] := ⟨fun _ => rfl, .inr ⟨b, [], rfl, rfl, rfl, Nat.le_refl _, rfl⟩⟩
theorem clone_any (a : Option Addr) (c : Nat) (l : List Int) (h : Heap) (hs : SlT encI 1 a l h) (hl : l.length ≤ 1000000) (w : World) (hw : Holds h w) :
    Calls Tryd.prog 39 #[.slice a l.length c] w (Gives (fun v g => ∃ a' c', v = .slice a' l.length c' ∧ OwT encI 1 3 a' c' l g) w) := by
  have q0 : ∀ L, RdH h L h := fun L => RdH.old fun _ hh => hh
  cases a with
  | none =>
    have h0 : l = [] := by
      cases l with
      | nil => rfl
      | cons x l => obtain ⟨b, off, cs', e', fr, h1, _⟩ := hs.at_ 0 (by simp); cases h1
    subst h0
    refine calls_of_JC (R := h) Tryd.func39 Tryd.ntmps39 rfl rfl (hw) ?_
    repeat' first
      | (refine J.isJ ?_; first | ((refine J.o 11 ?_; refine J.sN hΓ ?_)) | (first | (refine J.o 0 ?_; refine J.ev' hΓ ?_) | refine J.nil ?_ | refine J.kd ?_ | (refine J.o 4 ?_; first | refine J.e0 hΓ ?_ | refine J.e1 hΓ ?_ | refine J.e2 hΓ ?_ | refine J.lT default hΓ ?_ | refine J.lR hΓ ?_) | (refine J.o 3 ?_; first | refine J.iJ hΓ ?_ | refine J.fP hΓ ?_ | refine J.iC hΓ ?_ | refine J.ev' hΓ ?_) | (refine J.o 1 ?_; first | refine J.ad ?_ | refine J.sb ?_ | refine J.ng ?_) | (refine J.o 5 ?_; first | refine J.t0 hΓ ?_ | refine J.t1 hΓ ?_ | refine J.t2 hΓ ?_ | refine J.tT _ default hΓ (fun _ _ => ?_) | refine J.tT1 _ default hΓ (fun _ _ => ?_) | refine J.tT2 _ default hΓ (fun _ _ => ?_)) | (refine J.o 6 ?_; refine J.bx (fun _ => ?_)) | (refine J.o 7 ?_; refine J.al hΓ (fun _ => ?_)) | (refine J.o 8 ?_; refine J.bd hΓ ?_) | (refine J.o 9 ?_; refine J.bl hΓ (fun _ => ?_)) | (refine J.o 10 ?_; refine J.ev' hΓ ?_) | (refine J.o 11 ?_; refine J.ev' hΓ ?_) | refine J.kn ?_) | ((fail_if_success refine J.wt ?_); refine J.gc rfl rfl (fun hc => ?_) (fun hc => ?_) <;> ((try simp only [decide_eq_true_eq, decide_eq_false_iff_not, beq_iff_eq, beq_eq_false_iff_ne, bne_iff_ne, bne_eq_false_iff_eq, Bool.not_eq_true', Bool.not_eq_false', Bool.not_eq_true, Bool.not_eq_false] at hc) <;> first | (first | (exact absurd rfl hc) | (exfalso; omega) | (exact absurd (hc.symm.trans (by assumption : _ = false)) (by decide)) | (exact absurd (hc.symm.trans (by assumption : _ = true)) (by decide))) | skip)))
      | (first | refine JC.seq ?_ | refine JC.region ?_ | refine JC.block ?_ | refine JC.ret ?_ | refine JC.exit ?_ | refine JC.skip ?_ | refine thenK.nn ?_ | refine thenK.r ?_ | refine thenK.x ?_ | refine blockK.nn ?_ | refine blockK.r ?_ | refine blockK.hit rfl ?_ | refine blockK.miss rfl ?_ | refine JC.condT rfl ?_ | refine JC.condF rfl ?_ | (refine JC.cond rfl (fun hc => ?_) (fun hc => ?_) <;> ((try simp only [decide_eq_true_eq, decide_eq_false_iff_not, beq_iff_eq, beq_eq_false_iff_ne, bne_iff_ne, bne_eq_false_iff_eq, Bool.not_eq_true', Bool.not_eq_false', Bool.not_eq_true, Bool.not_eq_false] at hc) <;> first | (first | (exact absurd rfl hc) | (exfalso; omega) | (exact absurd (hc.symm.trans (by assumption : _ = false)) (by decide)) | (exact absurd (hc.symm.trans (by assumption : _ = true)) (by decide))) | skip)) | (refine JC.drawA [] (by kernel_rfl) (by kernel_rfl) ?_) | refine drawK.nn ?_ | refine roundK.nn ?_ | refine roundK.r ?_ | refine roundK.x ?_ | refine loopK.r ?_ | refine loopK.x ?_)
      | (fail)
      | fail
    all_goals first | (exfalso; omega) | skip
    exact ret1f rfl rfl rfl (fun w1 hw => Gives.of hw.nilF ⟨none, 0, rfl, OwT.nil (fun _ => rfl)⟩)
  | some ad =>
    refine calls_of_JC (R := h) Tryd.func39 Tryd.ntmps39 rfl rfl (hw) ?_
    repeat' first
      | (refine J.isJ ?_; first | (first | (refine J.o 11 ?_; refine J.sN hΓ ?_) | (refine J.o 9 ?_; refine J.apA hΓ (lit_nil _ _) hs (q0 _) (fun a2 c2 h2 o2 => ?_))) | (first | (refine J.o 0 ?_; refine J.ev' hΓ ?_) | refine J.nil ?_ | refine J.kd ?_ | (refine J.o 4 ?_; first | refine J.e0 hΓ ?_ | refine J.e1 hΓ ?_ | refine J.e2 hΓ ?_ | refine J.lT default hΓ ?_ | refine J.lR hΓ ?_) | (refine J.o 3 ?_; first | refine J.iJ hΓ ?_ | refine J.fP hΓ ?_ | refine J.iC hΓ ?_ | refine J.ev' hΓ ?_) | (refine J.o 1 ?_; first | refine J.ad ?_ | refine J.sb ?_ | refine J.ng ?_) | (refine J.o 5 ?_; first | refine J.t0 hΓ ?_ | refine J.t1 hΓ ?_ | refine J.t2 hΓ ?_ | refine J.tT _ default hΓ (fun _ _ => ?_) | refine J.tT1 _ default hΓ (fun _ _ => ?_) | refine J.tT2 _ default hΓ (fun _ _ => ?_)) | (refine J.o 6 ?_; refine J.bx (fun _ => ?_)) | (refine J.o 7 ?_; refine J.al hΓ (fun _ => ?_)) | (refine J.o 8 ?_; refine J.bd hΓ ?_) | (refine J.o 9 ?_; refine J.bl hΓ (fun _ => ?_)) | (refine J.o 10 ?_; refine J.ev' hΓ ?_) | (refine J.o 11 ?_; refine J.ev' hΓ ?_) | refine J.kn ?_) | ((fail_if_success refine J.wt ?_); refine J.gc rfl rfl (fun hc => ?_) (fun hc => ?_) <;> ((try simp only [decide_eq_true_eq, decide_eq_false_iff_not, beq_iff_eq, beq_eq_false_iff_ne, bne_iff_ne, bne_eq_false_iff_eq, Bool.not_eq_true', Bool.not_eq_false', Bool.not_eq_true, Bool.not_eq_false] at hc) <;> first | (first | (exact absurd rfl hc) | (exfalso; omega) | (exact absurd (hc.symm.trans (by assumption : _ = false)) (by decide)) | (exact absurd (hc.symm.trans (by assumption : _ = true)) (by decide))) | skip)))
      | (first | refine JC.seq ?_ | refine JC.region ?_ | refine JC.block ?_ | refine JC.ret ?_ | refine JC.exit ?_ | refine JC.skip ?_ | refine thenK.nn ?_ | refine thenK.r ?_ | refine thenK.x ?_ | refine blockK.nn ?_ | refine blockK.r ?_ | refine blockK.hit rfl ?_ | refine blockK.miss rfl ?_ | refine JC.condT rfl ?_ | refine JC.condF rfl ?_ | (refine JC.cond rfl (fun hc => ?_) (fun hc => ?_) <;> ((try simp only [decide_eq_true_eq, decide_eq_false_iff_not, beq_iff_eq, beq_eq_false_iff_ne, bne_iff_ne, bne_eq_false_iff_eq, Bool.not_eq_true', Bool.not_eq_false', Bool.not_eq_true, Bool.not_eq_false] at hc) <;> first | (first | (exact absurd rfl hc) | (exfalso; omega) | (exact absurd (hc.symm.trans (by assumption : _ = false)) (by decide)) | (exact absurd (hc.symm.trans (by assumption : _ = true)) (by decide))) | skip)) | (refine JC.drawA [] (by kernel_rfl) (by kernel_rfl) ?_) | refine drawK.nn ?_ | refine roundK.nn ?_ | refine roundK.r ?_ | refine roundK.x ?_ | refine loopK.r ?_ | refine loopK.x ?_)
      | (fail)
      | fail
    all_goals first | (exfalso; omega) | skip
    rw [List.nil_append] at o2 ⊢
    exact ret1f rfl rfl rfl (fun w1 hw => Gives.of hw ⟨a2, c2, rfl, o2⟩)
end Go.Proofs.YtncnpmgohhgmfaaDoor
