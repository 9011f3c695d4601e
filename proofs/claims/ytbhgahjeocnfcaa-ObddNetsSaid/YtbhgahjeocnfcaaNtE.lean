/- ObddNets: part 5. -/
import Derived.Test.YtbhgahjeocnfcaaNtD
import Derived.Laws.IdiomCopy
import Derived.Laws.CopyRow
namespace Go.Proofs.Ytbhgahjeocnfcaa
open Go Go.Cx Go.RowKit
set_option linter.unusedVariables false
set_option linter.unusedSimpArgs false
set_option maxHeartbeats 4000000
attribute [local irreducible] J JC thenK blockK loopK drawK retK QW Qt pel List.set Calls
set_option maxRecDepth 8000
attribute [local irreducible] JE Br eK0 eK2 eK3 brK pc
def encW (x : Nat) : List Value := [.int .u32 (x : Int)]
def natV (v : Nat) : Value := .agg ⟨[.string (S (bytesN v))]⟩
theorem wB (a : Nat) : IntKind.u8.wrap (a : Int) = ((UInt8.ofNat a).toNat : Int) := by
  rw [IntKind.wrap_u8]
  have : (UInt8.ofNat a).toNat = a % 256 := UInt8.toNat_ofNat'
  rw [this]; rfl
def upB (ws : List Nat) (i : Nat) : List UInt8 := (wbytes ws).take i ++ List.replicate (4 * ws.length - i) 0
theorem upB_len (ws : List Nat) {i : Nat} (h : i ≤ 4 * ws.length) : (upB ws i).length = 4 * ws.length := by
  unfold upB; rw [List.length_append, List.length_take, wbytes_len, List.length_replicate]; omega
theorem upB_set (ws : List Nat) {i : Nat} (h : i < 4 * ws.length) : (upB ws i).set i (UInt8.ofNat (ws.getD (i / 4) 0 / 2 ^ (8 * (i % 4)))) = upB ws (i + 1) := by
  have hb := wbytes_at ws i h
  have hm : UInt8.ofNat (ws.getD (i / 4) 0 / 2 ^ (8 * (i % 4)) % 256) = UInt8.ofNat (ws.getD (i / 4) 0 / 2 ^ (8 * (i % 4))) := by
    apply UInt8.toNat_inj.1
    rw [UInt8.toNat_ofNat', UInt8.toNat_ofNat']; omega
  rw [hm] at hb
  unfold upB
  rw [List.set_append_right _ _ (by rw [List.length_take, wbytes_len]; omega), List.length_take, wbytes_len, Nat.min_eq_left (Nat.le_of_lt h), Nat.sub_self]
  obtain ⟨k, hk⟩ : ∃ k, 4 * ws.length - i = k + 1 := ⟨4 * ws.length - i - 1, by omega⟩
  rw [hk, List.replicate_succ, List.set_cons_zero, List.take_add_one, hb, show 4 * ws.length - (i + 1) = k by omega, List.append_assoc]
  rfl
theorem upB_end (ws : List Nat) : upB ws (4 * ws.length) = wbytes ws := by
  unfold upB
  rw [Nat.sub_self, List.replicate_zero, List.append_nil, List.take_of_length_le (by rw [wbytes_len]; exact Nat.le_refl _)]
theorem trim_step {bs : List UInt8} {n : Nat} (hn : n < bs.length) (h : bs.getD n default = 0) : valB (bs.take (n + 1)) = valB (bs.take n) := by
  have e : bs.take (n + 1) = bs.take n ++ [bs.getD n default] := by
    rw [List.take_add_one, List.getD_eq_getElem?_getD, List.getElem?_eq_getElem hn]; rfl
  rw [e, h, valB_app]; simp [valB]
theorem trim_end {bs : List UInt8} {n v : Nat} (hn : n ≤ bs.length) (hv : valB (bs.take n) = v) (h : n = 0 ∨ bs.getD (n - 1) default ≠ 0) : bs.take n = bytesN v := by
  rw [← hv, bytesN_valB]
  intro hne
  rcases h with h | h
  · subst h; simp at hne
  · have hn0 : n ≠ 0 := fun e => by subst e; simp at hne
    rw [List.getLast_eq_getElem]
    rw [List.getD_eq_getElem?_getD, List.getElem?_eq_getElem (by omega)] at h
    simp only [List.length_take, Nat.min_eq_left hn, List.getElem_take]
    exact h
theorem eFrom : Entr Try.prog 76 := Entr.of Try.func76 rfl rfl
theorem eWords : Entr Try.prog 77 := Entr.of Try.func77 rfl rfl
theorem from_any (a : Option Addr) (c : Nat) (ws : List Nat) (h : Heap) (hs : SlT encW 1 a ws h) (hok : okW ws) (hl : ws.length ≤ 100000) (w : World) (hw : Holds h w) :
    Calls Try.prog 76 #[.slice a ws.length c] w fun e w' => e = .returned (natV (valW ws)) ∧ Below w.heap.size w w' := by
  have q0 : ∀ L, RdH h L h := fun L => RdH.old fun _ hh => hh
  refine calls_of_JC (R := h) Try.func76 Try.ntmps76 rfl rfl (hw) ?_
  repeat' first
    | (refine J.isJ ?_; first | (first | (refine J.o 7 ?_; refine J.al hΓ (fun b2 => ?_)) | (refine J.o 1 ?_; refine J.gmul (a := 4) ?_ (hw := wI64 (by omega))) | (refine J.o 9 ?_; refine J.make (enc := encB) (m := 4 * ws.length) (0 : UInt8) hΓ rfl rfl rfl rfl rfl rfl (fun _ => rfl) (by omega) (by omega) (fun b3 h3 o3 => ?_))) | (first | (refine J.o 0 ?_; refine J.ev' hΓ ?_) | refine J.nil ?_ | refine J.kd ?_ | (refine J.o 4 ?_; first | refine J.lT default hΓ ?_) | (refine J.o 3 ?_; first | refine J.iJ hΓ ?_ | refine J.ev' hΓ ?_) | (refine J.o 1 ?_; first | refine J.ad ?_) | (refine J.o 5 ?_; first | refine J.t1 hΓ ?_ | refine J.tT _ default hΓ (fun _ _ => ?_)) | (refine J.o 7 ?_; refine J.al hΓ (fun _ => ?_)) | (refine J.o 8 ?_; refine J.bd hΓ ?_) | (refine J.o 10 ?_; refine J.ev' hΓ ?_) | (refine J.o 11 ?_; refine J.ev' hΓ ?_)) | ((fail_if_success refine J.wt ?_); refine J.gc rfl rfl (fun hc => ?_) (fun hc => ?_) <;> ((try simp only [decide_eq_true_eq, decide_eq_false_iff_not, beq_iff_eq, beq_eq_false_iff_ne, bne_iff_ne, bne_eq_false_iff_eq, Bool.not_eq_true', Bool.not_eq_false', Bool.not_eq_true, Bool.not_eq_false] at hc) <;> first | (first | (exact absurd rfl hc) | (exfalso; omega) | (exact absurd (hc.symm.trans (by assumption : _ = false)) (by decide)) | (exact absurd (hc.symm.trans (by assumption : _ = true)) (by decide))) | skip)))
    | (first | refine JC.seq ?_ | refine JC.region ?_ | refine JC.block ?_ | refine JC.ret ?_ | refine JC.exit ?_ | refine JC.skip ?_ | refine thenK.nn ?_ | refine thenK.x ?_ | refine blockK.nn ?_ | refine blockK.hit rfl ?_ | refine JC.condF rfl ?_ | (refine JC.cond rfl (fun hc => ?_) (fun hc => ?_) <;> ((try simp only [decide_eq_true_eq, decide_eq_false_iff_not, beq_iff_eq, beq_eq_false_iff_ne, bne_iff_ne, bne_eq_false_iff_eq, Bool.not_eq_true', Bool.not_eq_false', Bool.not_eq_true, Bool.not_eq_false] at hc) <;> first | (first | (exact absurd rfl hc) | (exfalso; omega) | (exact absurd (hc.symm.trans (by assumption : _ = false)) (by decide)) | (exact absurd (hc.symm.trans (by assumption : _ = true)) (by decide))) | skip)) | refine loopK.x ?_)
    | (fail)
    | fail
  all_goals first | (exfalso; omega) | skip
  refine JC.loop (fun i => i == 4 || Nat.ble 12 i) (fun m g L' => ∃ i h', g 12 = .int .i64 ((i : Nat) : Int) ∧ i + m = 4 * ws.length ∧ OwT encB 1 5 (some ⟨b3, 0, none⟩) (4 * ws.length) (upB ws i) h' ∧ L' = [h', [(b2, Obj.cells ⟨[.string ByteArray.empty]⟩ 58 (0, 0))]]) (4 * ws.length) ⟨0, h3, rfl, by omega, o3, rfl⟩ ?_
  rintro m g L' ⟨i, h4, e12, hi, o4, rfl⟩
  refine JC.pin 12 e12 ?_
  rcases Nat.lt_or_ge i (4 * ws.length) with hlt | hge
  · have hu := upB_len ws (show i ≤ 4 * ws.length by omega)
    have hq : i / 4 < ws.length := by omega
    repeat' first
      | (refine J.isJ ?_; first | (first | (refine J.o 1 ?_; first | refine J.gquo (b := 4) ?_ (hw := wI64 (by omega)) | refine J.grem (b := 4) ?_ | refine J.gmul (a := 8) ?_ | refine J.gshr ?_) | (refine J.o 2 ?_; first | refine J.gcv hΓ ?_ (hk := wU64 (by omega)) | refine J.gcv hΓ ?_ (hk := wB _)) | (refine J.o 4 ?_; refine J.lT (0 : Nat) hΓ ?_ (hs := hs) (hr := q0 _)) | (refine J.o 5 ?_; refine J.tT (enc := encB) _ default hΓ (fun h5 o5 => ?_))) | (first | (refine J.o 0 ?_; refine J.ev' hΓ ?_) | refine J.nil ?_ | refine J.kd ?_ | (refine J.o 4 ?_; first | refine J.lT default hΓ ?_) | (refine J.o 3 ?_; first | refine J.iJ hΓ ?_ | refine J.ev' hΓ ?_) | (refine J.o 1 ?_; first | refine J.ad ?_) | (refine J.o 5 ?_; first | refine J.t1 hΓ ?_ | refine J.tT _ default hΓ (fun _ _ => ?_)) | (refine J.o 7 ?_; refine J.al hΓ (fun _ => ?_)) | (refine J.o 8 ?_; refine J.bd hΓ ?_) | (refine J.o 10 ?_; refine J.ev' hΓ ?_) | (refine J.o 11 ?_; refine J.ev' hΓ ?_)) | ((fail_if_success refine J.wt ?_); refine J.gc rfl rfl (fun hc => ?_) (fun hc => ?_) <;> ((try simp only [decide_eq_true_eq, decide_eq_false_iff_not, beq_iff_eq, beq_eq_false_iff_ne, bne_iff_ne, bne_eq_false_iff_eq, Bool.not_eq_true', Bool.not_eq_false', Bool.not_eq_true, Bool.not_eq_false] at hc) <;> first | (first | (exact absurd rfl hc) | (exfalso; omega) | (exact absurd (hc.symm.trans (by assumption : _ = false)) (by decide)) | (exact absurd (hc.symm.trans (by assumption : _ = true)) (by decide))) | skip)))
      | (first | refine JC.seq ?_ | refine JC.region ?_ | refine JC.block ?_ | refine JC.ret ?_ | refine JC.exit ?_ | refine JC.skip ?_ | refine thenK.nn ?_ | refine thenK.x ?_ | refine blockK.nn ?_ | refine blockK.hit rfl ?_ | refine JC.condF rfl ?_ | (refine JC.cond rfl (fun hc => ?_) (fun hc => ?_) <;> ((try simp only [decide_eq_true_eq, decide_eq_false_iff_not, beq_iff_eq, beq_eq_false_iff_ne, bne_iff_ne, bne_eq_false_iff_eq, Bool.not_eq_true', Bool.not_eq_false', Bool.not_eq_true, Bool.not_eq_false] at hc) <;> first | (first | (exact absurd rfl hc) | (exfalso; omega) | (exact absurd (hc.symm.trans (by assumption : _ = false)) (by decide)) | (exact absurd (hc.symm.trans (by assumption : _ = true)) (by decide))) | skip)) | refine loopK.x ?_)
      | (fail)
      | fail
    rw [upB_set ws hlt] at o5
    refine loopK.nn (m - 1) (by omega) (by repeat (first | refine Ag.upd rfl ?_ | exact Ag.hv)) ⟨i + 1, h5, ?_, by omega, o5, rfl⟩
    show Value.int .i64 _ = _; congr 1
  · obtain rfl : i = 4 * ws.length := by omega
    rw [upB_end] at o4
    have hbl := wbytes_len ws
    have hvb := valB_wbytes ws hok
    repeat' first
      | (refine J.isJ ?_; first | (fail) | (first | (refine J.o 0 ?_; refine J.ev' hΓ ?_) | refine J.nil ?_ | refine J.kd ?_ | (refine J.o 4 ?_; first | refine J.lT default hΓ ?_) | (refine J.o 3 ?_; first | refine J.iJ hΓ ?_ | refine J.ev' hΓ ?_) | (refine J.o 1 ?_; first | refine J.ad ?_) | (refine J.o 5 ?_; first | refine J.t1 hΓ ?_ | refine J.tT _ default hΓ (fun _ _ => ?_)) | (refine J.o 7 ?_; refine J.al hΓ (fun _ => ?_)) | (refine J.o 8 ?_; refine J.bd hΓ ?_) | (refine J.o 10 ?_; refine J.ev' hΓ ?_) | (refine J.o 11 ?_; refine J.ev' hΓ ?_)) | ((fail_if_success refine J.wt ?_); refine J.gc rfl rfl (fun hc => ?_) (fun hc => ?_) <;> ((try simp only [decide_eq_true_eq, decide_eq_false_iff_not, beq_iff_eq, beq_eq_false_iff_ne, bne_iff_ne, bne_eq_false_iff_eq, Bool.not_eq_true', Bool.not_eq_false', Bool.not_eq_true, Bool.not_eq_false] at hc) <;> first | (first | (exact absurd rfl hc) | (exfalso; omega) | (exact absurd (hc.symm.trans (by assumption : _ = false)) (by decide)) | (exact absurd (hc.symm.trans (by assumption : _ = true)) (by decide))) | skip)))
      | (first | refine JC.seq ?_ | refine JC.region ?_ | refine JC.block ?_ | refine JC.ret ?_ | refine JC.exit ?_ | refine JC.skip ?_ | refine thenK.nn ?_ | refine thenK.x ?_ | refine blockK.nn ?_ | refine blockK.hit rfl ?_ | refine JC.condF rfl ?_ | (refine JC.cond rfl (fun hc => ?_) (fun hc => ?_) <;> ((try simp only [decide_eq_true_eq, decide_eq_false_iff_not, beq_iff_eq, beq_eq_false_iff_ne, bne_iff_ne, bne_eq_false_iff_eq, Bool.not_eq_true', Bool.not_eq_false', Bool.not_eq_true, Bool.not_eq_false] at hc) <;> first | (first | (exact absurd rfl hc) | (exfalso; omega) | (exact absurd (hc.symm.trans (by assumption : _ = false)) (by decide)) | (exact absurd (hc.symm.trans (by assumption : _ = true)) (by decide))) | skip)) | refine loopK.x ?_)
      | (fail)
      | fail
    all_goals first | (exfalso; omega) | skip
    refine JC.loop (fun i => i == 5 || Nat.ble 32 i) (fun m g L' => g 5 = .int .i64 ((m : Nat) : Int) ∧ m ≤ 4 * ws.length ∧ valB ((wbytes ws).take m) = valW ws ∧ L' = [h4, [(b2, Obj.cells ⟨[.string ByteArray.empty]⟩ 58 (0, 0))]]) (4 * ws.length) ⟨rfl, Nat.le_refl _, by rw [List.take_of_length_le (by omega)]; exact hvb, rfl⟩ ?_
    rintro m2 g2 L' ⟨e5, hm2, hv, rfl⟩
    refine JC.pin 5 e5 ?_
    rcases Nat.eq_zero_or_pos m2 with h0 | hpos
    · subst h0
      have hfin := trim_end (by omega) hv (.inl rfl)
      repeat' first
        | (refine J.isJ ?_; first | (first | (refine J.o 13 ?_; refine J.slF (m := 0) hΓ ?_) | (refine J.o 2 ?_; refine J.cvS (bs := (wbytes ws).take 0) hΓ ?_ (hs := (OwT.take o4 0).sl))) | (first | (refine J.o 0 ?_; refine J.ev' hΓ ?_) | refine J.nil ?_ | refine J.kd ?_ | (refine J.o 4 ?_; first | refine J.lT default hΓ ?_) | (refine J.o 3 ?_; first | refine J.iJ hΓ ?_ | refine J.ev' hΓ ?_) | (refine J.o 1 ?_; first | refine J.ad ?_) | (refine J.o 5 ?_; first | refine J.t1 hΓ ?_ | refine J.tT _ default hΓ (fun _ _ => ?_)) | (refine J.o 7 ?_; refine J.al hΓ (fun _ => ?_)) | (refine J.o 8 ?_; refine J.bd hΓ ?_) | (refine J.o 10 ?_; refine J.ev' hΓ ?_) | (refine J.o 11 ?_; refine J.ev' hΓ ?_)) | ((fail_if_success refine J.wt ?_); refine J.gc rfl rfl (fun hc => ?_) (fun hc => ?_) <;> ((try simp only [decide_eq_true_eq, decide_eq_false_iff_not, beq_iff_eq, beq_eq_false_iff_ne, bne_iff_ne, bne_eq_false_iff_eq, Bool.not_eq_true', Bool.not_eq_false', Bool.not_eq_true, Bool.not_eq_false] at hc) <;> first | (first | (exact absurd rfl hc) | (exfalso; omega) | (exact absurd (hc.symm.trans (by assumption : _ = false)) (by decide)) | (exact absurd (hc.symm.trans (by assumption : _ = true)) (by decide))) | skip)))
        | (first | refine JC.seq ?_ | refine JC.region ?_ | refine JC.block ?_ | refine JC.ret ?_ | refine JC.exit ?_ | refine JC.skip ?_ | refine thenK.nn ?_ | refine thenK.x ?_ | refine blockK.nn ?_ | refine blockK.hit rfl ?_ | refine JC.condF rfl ?_ | (refine JC.cond rfl (fun hc => ?_) (fun hc => ?_) <;> ((try simp only [decide_eq_true_eq, decide_eq_false_iff_not, beq_iff_eq, beq_eq_false_iff_ne, bne_iff_ne, bne_eq_false_iff_eq, Bool.not_eq_true', Bool.not_eq_false', Bool.not_eq_true, Bool.not_eq_false] at hc) <;> first | (first | (exact absurd rfl hc) | (exfalso; omega) | (exact absurd (hc.symm.trans (by assumption : _ = false)) (by decide)) | (exact absurd (hc.symm.trans (by assumption : _ = true)) (by decide))) | skip)) | refine loopK.x ?_)
        | (fail)
        | fail
      all_goals first | (exfalso; omega) | skip
      rw [hfin]
      exact retC hΓ rfl rfl rfl (by first | exact Rd.hd | exact Rd.hd.tl) rfl (fun w1 hw => ⟨rfl, hw.below⟩)
    · by_cases hz : (wbytes ws).getD (m2 - 1) default = 0
      · have hst := trim_step (bs := wbytes ws) (n := m2 - 1) (by omega) hz
        rw [show m2 - 1 + 1 = m2 by omega, hv] at hst
        have hz2 : (((wbytes ws).getD (m2 - 1) default).toNat : Int) = 0 := by rw [hz]; rfl
        repeat' first
          | (refine J.isJ ?_; first | (first | (refine J.o 1 ?_; refine J.gsub (b := 1) ?_)) | (first | (refine J.o 0 ?_; refine J.ev' hΓ ?_) | refine J.nil ?_ | refine J.kd ?_ | (refine J.o 4 ?_; first | refine J.lT default hΓ ?_) | (refine J.o 3 ?_; first | refine J.iJ hΓ ?_ | refine J.ev' hΓ ?_) | (refine J.o 1 ?_; first | refine J.ad ?_) | (refine J.o 5 ?_; first | refine J.t1 hΓ ?_ | refine J.tT _ default hΓ (fun _ _ => ?_)) | (refine J.o 7 ?_; refine J.al hΓ (fun _ => ?_)) | (refine J.o 8 ?_; refine J.bd hΓ ?_) | (refine J.o 10 ?_; refine J.ev' hΓ ?_) | (refine J.o 11 ?_; refine J.ev' hΓ ?_)) | ((fail_if_success refine J.wt ?_); refine J.gc rfl rfl (fun hc => ?_) (fun hc => ?_) <;> ((try simp only [decide_eq_true_eq, decide_eq_false_iff_not, beq_iff_eq, beq_eq_false_iff_ne, bne_iff_ne, bne_eq_false_iff_eq, Bool.not_eq_true', Bool.not_eq_false', Bool.not_eq_true, Bool.not_eq_false] at hc) <;> first | (first | (exact absurd rfl hc) | (exfalso; omega) | (exact absurd (hc.symm.trans (by assumption : _ = false)) (by decide)) | (exact absurd (hc.symm.trans (by assumption : _ = true)) (by decide))) | skip)))
          | (first | refine JC.seq ?_ | refine JC.region ?_ | refine JC.block ?_ | refine JC.ret ?_ | refine JC.exit ?_ | refine JC.skip ?_ | refine thenK.nn ?_ | refine thenK.x ?_ | refine blockK.nn ?_ | refine blockK.hit rfl ?_ | refine JC.condF rfl ?_ | (refine JC.cond rfl (fun hc => ?_) (fun hc => ?_) <;> ((try simp only [decide_eq_true_eq, decide_eq_false_iff_not, beq_iff_eq, beq_eq_false_iff_ne, bne_iff_ne, bne_eq_false_iff_eq, Bool.not_eq_true', Bool.not_eq_false', Bool.not_eq_true, Bool.not_eq_false] at hc) <;> first | (first | (exact absurd rfl hc) | (exfalso; omega) | (exact absurd (hc.symm.trans (by assumption : _ = false)) (by decide)) | (exact absurd (hc.symm.trans (by assumption : _ = true)) (by decide))) | skip)) | refine loopK.x ?_)
          | (fail)
          | fail
        all_goals first | (exfalso; omega) | skip
        refine loopK.nn (m2 - 1) (by omega) (by repeat (first | refine Ag.upd rfl ?_ | exact Ag.hv)) ⟨rfl, by omega, hst.symm, rfl⟩
      · have hfin := trim_end (by omega) hv (.inr hz)
        have hz2 : (((wbytes ws).getD (m2 - 1) default).toNat : Int) ≠ 0 := fun e => hz (by apply UInt8.toNat_inj.1; show _ = 0; omega)
        repeat' first
          | (refine J.isJ ?_; first | (first | (refine J.o 1 ?_; refine J.gsub (b := 1) ?_) | (refine J.o 13 ?_; refine J.slF (m := m2) hΓ ?_) | (refine J.o 2 ?_; refine J.cvS (bs := (wbytes ws).take m2) hΓ ?_ (hs := (OwT.take o4 m2).sl) (hlen := by rw [List.length_take]; omega))) | (first | (refine J.o 0 ?_; refine J.ev' hΓ ?_) | refine J.nil ?_ | refine J.kd ?_ | (refine J.o 4 ?_; first | refine J.lT default hΓ ?_) | (refine J.o 3 ?_; first | refine J.iJ hΓ ?_ | refine J.ev' hΓ ?_) | (refine J.o 1 ?_; first | refine J.ad ?_) | (refine J.o 5 ?_; first | refine J.t1 hΓ ?_ | refine J.tT _ default hΓ (fun _ _ => ?_)) | (refine J.o 7 ?_; refine J.al hΓ (fun _ => ?_)) | (refine J.o 8 ?_; refine J.bd hΓ ?_) | (refine J.o 10 ?_; refine J.ev' hΓ ?_) | (refine J.o 11 ?_; refine J.ev' hΓ ?_)) | ((fail_if_success refine J.wt ?_); refine J.gc rfl rfl (fun hc => ?_) (fun hc => ?_) <;> ((try simp only [decide_eq_true_eq, decide_eq_false_iff_not, beq_iff_eq, beq_eq_false_iff_ne, bne_iff_ne, bne_eq_false_iff_eq, Bool.not_eq_true', Bool.not_eq_false', Bool.not_eq_true, Bool.not_eq_false] at hc) <;> first | (first | (exact absurd rfl hc) | (exfalso; omega) | (exact absurd (hc.symm.trans (by assumption : _ = false)) (by decide)) | (exact absurd (hc.symm.trans (by assumption : _ = true)) (by decide))) | skip)))
          | (first | refine JC.seq ?_ | refine JC.region ?_ | refine JC.block ?_ | refine JC.ret ?_ | refine JC.exit ?_ | refine JC.skip ?_ | refine thenK.nn ?_ | refine thenK.x ?_ | refine blockK.nn ?_ | refine blockK.hit rfl ?_ | refine JC.condF rfl ?_ | (refine JC.cond rfl (fun hc => ?_) (fun hc => ?_) <;> ((try simp only [decide_eq_true_eq, decide_eq_false_iff_not, beq_iff_eq, beq_eq_false_iff_ne, bne_iff_ne, bne_eq_false_iff_eq, Bool.not_eq_true', Bool.not_eq_false', Bool.not_eq_true, Bool.not_eq_false] at hc) <;> first | (first | (exact absurd rfl hc) | (exfalso; omega) | (exact absurd (hc.symm.trans (by assumption : _ = false)) (by decide)) | (exact absurd (hc.symm.trans (by assumption : _ = true)) (by decide))) | skip)) | refine loopK.x ?_)
          | (fail)
          | fail
        all_goals first | (exfalso; omega) | skip
        rw [hfin]
        exact retC hΓ rfl rfl rfl (by first | exact Rd.hd | exact Rd.hd.tl) rfl (fun w1 hw => ⟨rfl, hw.below⟩)
theorem words_any (v : Nat) (hl : (bytesN v).length ≤ 100000) (w : World) :
    Calls Try.prog 77 #[natV v] w (Gives (fun val g => ∃ a c, val = .slice a (wordsB (bytesN v)).length c ∧ OwT encW 1 124 a c (wordsB (bytesN v)) g) w) := by
  unfold natV
  generalize bytesN v = bs at hl ⊢
  have hwl := wordsB_len bs
  refine calls_of_JC (R := []) Try.func77 Try.ntmps77 rfl rfl (Holds.nil _) ?_
  repeat' first
    | (refine J.isJ ?_; first | (first | (refine J.o 6 ?_; refine J.bx (fun b1 => ?_)) | (refine J.o 10 ?_; refine J.ls hΓ ?_) | (refine J.o 1 ?_; first | refine J.gadd (b := 3) ?_ (hw := wI64 (by omega)) | refine J.gquo (b := 4) ?_ (hw := wI64 (by omega))) | (refine J.o 9 ?_; refine J.make (enc := encW) (m := (bs.length + 3) / 4) (0 : Nat) hΓ rfl rfl rfl rfl rfl rfl (fun _ => rfl) (by omega) (by omega) (fun b3 h3 o3 => ?_))) | (first | (refine J.o 0 ?_; refine J.ev' hΓ ?_) | refine J.nil ?_ | (refine J.o 4 ?_; first | refine J.lT default hΓ ?_ | refine J.lR hΓ ?_) | (refine J.o 3 ?_; first | refine J.iJ hΓ ?_ | refine J.ev' hΓ ?_) | (refine J.o 1 ?_; first | refine J.ad ?_) | (refine J.o 5 ?_; first | refine J.tT _ default hΓ (fun _ _ => ?_)) | (refine J.o 6 ?_; refine J.bx (fun _ => ?_)) | (refine J.o 10 ?_; refine J.ev' hΓ ?_) | (refine J.o 11 ?_; refine J.ev' hΓ ?_)))
    | (first | refine JC.seq ?_ | refine JC.region ?_ | refine JC.block ?_ | refine JC.ret ?_ | refine JC.exit ?_ | refine JC.skip ?_ | refine thenK.nn ?_ | refine thenK.x ?_ | refine blockK.nn ?_ | refine blockK.hit rfl ?_ | (refine JC.cond rfl (fun hc => ?_) (fun hc => ?_) <;> ((try simp only [decide_eq_true_eq, decide_eq_false_iff_not, beq_iff_eq, beq_eq_false_iff_ne, bne_iff_ne, bne_eq_false_iff_eq, Bool.not_eq_true', Bool.not_eq_false', Bool.not_eq_true, Bool.not_eq_false] at hc) <;> first | (first | (exact absurd rfl hc) | (exfalso; omega) | (exact absurd (hc.symm.trans (by assumption : _ = false)) (by decide)) | (exact absurd (hc.symm.trans (by assumption : _ = true)) (by decide))) | skip)) | refine drawK.nn ?_ | refine loopK.x ?_)
    | (fail)
    | fail
  all_goals first | (exfalso; omega) | skip
  rw [← wUp_0] at o3
  refine JC.loop (fun i => i == 4 || Nat.ble 14 i) (fun m g L' => ∃ i h', g 14 = .int .i64 ((i : Nat) : Int) ∧ i + m = bs.length ∧ OwT encW 1 124 (some ⟨b3, 0, none⟩) ((bs.length + 3) / 4) (wUp bs i) h' ∧ L' = [h', [(b1, Obj.cells ⟨[.string (S bs)]⟩ 58 (0, 0))]]) bs.length ⟨0, h3, rfl, by omega, o3, rfl⟩ ?_
  rintro m g L' ⟨i, h4, e14, hi, o4, rfl⟩
  refine JC.pin 14 e14 ?_
  have hul := wUp_len bs i
  rcases Nat.lt_or_ge i bs.length with hlt | hge
  · have hq : i / 4 < (bs.length + 3) / 4 := by omega
    have hup := wUp_step bs i hlt
    have hget := wUp_get bs i (i / 4) hq
    have hc8 := u8_lt (bs.getD i 0)
    have hwl4 := wAt_lt bs i (i / 4)
    have hwl5 := wAt_lt bs (i + 1) (i / 4)
    have hp : (bs.getD i 0).toNat * 2 ^ (8 * (i % 4)) < 4294967296 := by
      have : 2 ^ (8 * (i % 4)) ≤ 2 ^ 24 := Nat.pow_le_pow_right (by omega) (by omega)
      have := Nat.mul_le_mul (Nat.le_of_lt_succ hc8) this
      omega
    have hor : (wUp bs i).getD (i / 4) 0 < 4294967296 := by rw [hget]; exact hwl4
    repeat' first
      | (refine J.isJ ?_; first | (first | (refine J.o 10 ?_; refine J.ls hΓ ?_) | (refine J.o 12 ?_; refine J.ix hΓ ?_) | (refine J.o 1 ?_; first | refine J.gquo (b := 4) ?_ (hw := wI64 (by omega)) | refine J.grem (b := 4) ?_ | refine J.gmul (a := 8) ?_ | refine J.gshl ?_ (hw := wU32 hp) | refine J.gor ?_) | (refine J.o 2 ?_; first | refine J.gcv hΓ ?_ (hk := wU64 (by omega)) | refine J.gcv hΓ ?_ (hk := wU32 (by omega))) | (refine J.o 4 ?_; refine J.lT (0 : Nat) hΓ ?_ (hs := o4.sl)) | (refine J.o 5 ?_; refine J.tT (enc := encW) _ default hΓ (fun h5 o5 => ?_))) | (first | (refine J.o 0 ?_; refine J.ev' hΓ ?_) | refine J.nil ?_ | (refine J.o 4 ?_; first | refine J.lT default hΓ ?_ | refine J.lR hΓ ?_) | (refine J.o 3 ?_; first | refine J.iJ hΓ ?_ | refine J.ev' hΓ ?_) | (refine J.o 1 ?_; first | refine J.ad ?_) | (refine J.o 5 ?_; first | refine J.tT _ default hΓ (fun _ _ => ?_)) | (refine J.o 6 ?_; refine J.bx (fun _ => ?_)) | (refine J.o 10 ?_; refine J.ev' hΓ ?_) | (refine J.o 11 ?_; refine J.ev' hΓ ?_)))
      | (first | refine JC.seq ?_ | refine JC.region ?_ | refine JC.block ?_ | refine JC.ret ?_ | refine JC.exit ?_ | refine JC.skip ?_ | refine thenK.nn ?_ | refine thenK.x ?_ | refine blockK.nn ?_ | refine blockK.hit rfl ?_ | (refine JC.cond rfl (fun hc => ?_) (fun hc => ?_) <;> ((try simp only [decide_eq_true_eq, decide_eq_false_iff_not, beq_iff_eq, beq_eq_false_iff_ne, bne_iff_ne, bne_eq_false_iff_eq, Bool.not_eq_true', Bool.not_eq_false', Bool.not_eq_true, Bool.not_eq_false] at hc) <;> first | (first | (exact absurd rfl hc) | (exfalso; omega) | (exact absurd (hc.symm.trans (by assumption : _ = false)) (by decide)) | (exact absurd (hc.symm.trans (by assumption : _ = true)) (by decide))) | skip)) | refine drawK.nn ?_ | refine loopK.x ?_)
      | ((refine JC.drawO [(0,0),(0,1),(0,2),(0,3),(1,4),(0,5),(1,6),(0,7),(0,8),(0,9),(0,10),(0,11),(0,12),(0,13),(0,14),(0,15),(0,16),(2,17)] (by decide +kernel) (by decide +kernel) ?_))
      | fail
    all_goals first | (exfalso; omega) | skip
    rw [hget, ← hup] at o5
    refine loopK.nn (m - 1) (by omega) (by repeat (first | refine Ag.upd rfl ?_ | exact Ag.hv)) ⟨i + 1, h5, ?_, by omega, o5, rfl⟩
    show Value.int .i64 _ = _; congr 1
  · obtain rfl : i = bs.length := by omega
    rw [wUp_end] at o4
    rw [hwl]
    repeat' first
      | (refine J.isJ ?_; first | (fail) | (first | (refine J.o 0 ?_; refine J.ev' hΓ ?_) | refine J.nil ?_ | (refine J.o 4 ?_; first | refine J.lT default hΓ ?_ | refine J.lR hΓ ?_) | (refine J.o 3 ?_; first | refine J.iJ hΓ ?_ | refine J.ev' hΓ ?_) | (refine J.o 1 ?_; first | refine J.ad ?_) | (refine J.o 5 ?_; first | refine J.tT _ default hΓ (fun _ _ => ?_)) | (refine J.o 6 ?_; refine J.bx (fun _ => ?_)) | (refine J.o 10 ?_; refine J.ev' hΓ ?_) | (refine J.o 11 ?_; refine J.ev' hΓ ?_)))
      | (first | refine JC.seq ?_ | refine JC.region ?_ | refine JC.block ?_ | refine JC.ret ?_ | refine JC.exit ?_ | refine JC.skip ?_ | refine thenK.nn ?_ | refine thenK.x ?_ | refine blockK.nn ?_ | refine blockK.hit rfl ?_ | (refine JC.cond rfl (fun hc => ?_) (fun hc => ?_) <;> ((try simp only [decide_eq_true_eq, decide_eq_false_iff_not, beq_iff_eq, beq_eq_false_iff_ne, bne_iff_ne, bne_eq_false_iff_eq, Bool.not_eq_true', Bool.not_eq_false', Bool.not_eq_true, Bool.not_eq_false] at hc) <;> first | (first | (exact absurd rfl hc) | (exfalso; omega) | (exact absurd (hc.symm.trans (by assumption : _ = false)) (by decide)) | (exact absurd (hc.symm.trans (by assumption : _ = true)) (by decide))) | skip)) | refine drawK.nn ?_ | refine loopK.x ?_)
      | (fail)
      | fail
    all_goals first | (exfalso; omega) | skip
    exact ret1f rfl rfl rfl (fun w1 hw => Gives.of (hw.perm br1).drop ⟨_, _, rfl, o4⟩)
end Go.Proofs.Ytbhgahjeocnfcaa
namespace Go.Proofs.Ytbhgahjeocnfcaa
open Go Go.Cx Go.RowKit
set_option linter.unusedVariables false
set_option linter.unusedSimpArgs false
set_option maxHeartbeats 4000000
attribute [local irreducible] J JC thenK blockK loopK drawK retK QW Qt pel List.set Calls
set_option maxRecDepth 8000
attribute [local irreducible] JE Br eK0 eK2 eK3 brK pc
theorem flatW (l : List Nat) : (l.flatMap encW).length = l.length := by
  induction l with
  | nil => rfl
  | cons x l ih => rw [List.flatMap_cons, List.length_append, ih, List.length_cons]; show 1 + _ = _; omega
theorem slW (b : Nat) (l : List Nat) (t : TypeId) : SlT encW 1 (some ⟨b, 0, none⟩) l [(b, .cells ⟨l.flatMap encW⟩ t (0, 0))] :=
  OwT.sl (e := t) (cap := l.length) ⟨fun _ => rfl, .inr ⟨b, _, rfl, rfl, by rw [flatW, Nat.mul_one], Nat.le_refl _, by rw [Nat.mul_one, List.take_of_length_le (by rw [flatW]; exact Nat.le_refl _)]⟩⟩
theorem from_len (a : Option Addr) (c : Nat) (ws : List Nat) (h : Heap) (hs : SlT encW 1 a ws h) (hok : okW ws) {m : Nat} (hm : ws.length = m) (hl : m ≤ 100000) {v : Nat} (hv : valW ws = v) (w : World) (hw : Holds h w) :
    Calls Try.prog 76 #[.slice a m c] w fun e w' => e = .returned (natV v) ∧ Below w.heap.size w w' := by
  subst hm hv
  exact from_any a c ws h hs hok hl w hw
def ofW (v : Nat) : List Nat := [v % 4294967296, v / 2 ^ 32 % 4294967296]
theorem eOfN : Entr Try.prog 123 := Entr.of Try.func123 rfl rfl
theorem ePow2 : Entr Try.prog 31 := Entr.of Try.func31 rfl rfl
theorem eMul : Entr Try.prog 74 := Entr.of Try.func74 rfl rfl
theorem ofN_any (v : Nat) (hv : v < 18446744073709551616) (w : World) : Calls Try.prog 123 #[.int .u64 (v : Int)] w fun e w' => e = .returned (natV v) ∧ Below w.heap.size w w' := by
  have hval : valW [v % 4294967296, v / 2 ^ 32 % 4294967296] = v := by simp only [valW]; omega
  have hok : okW [v % 4294967296, v / 2 ^ 32 % 4294967296] := fun x hx => by
    simp only [List.mem_cons, List.not_mem_nil, or_false] at hx
    rcases hx with rfl | rfl <;> omega
  refine calls_of_JC (R := []) Try.func123 Try.ntmps123 rfl rfl (Holds.nil _) ?_
  repeat' first
    | (refine J.isJ ?_; first | (first | (refine J.o 7 ?_; refine J.al hΓ (fun b2 => ?_)) | (refine J.o 2 ?_; refine J.gcv hΓ ?_ (hk := wT32 _)) | (refine J.o 1 ?_; refine J.gshr (j := 32) ?_) | (refine J.o 9 ?_; refine J.bl hΓ (fun b8 => ?_)) | (refine J.fc 76 ?_; refine J.call0 eFrom rfl rfl (fun w hw => from_any (some ⟨b8, 0, none⟩) 2 (ofW v) _ (slW b8 _ 124) hok (by show 2 ≤ 100000; omega) w (hw.rdH RdH.hd)) ?_)) | (first | (refine J.o 0 ?_; refine J.ev' hΓ ?_) | refine J.nil ?_ | (refine J.o 3 ?_; first | refine J.ev' hΓ ?_) | (refine J.o 5 ?_; first | refine J.t1 hΓ ?_) | (refine J.o 7 ?_; refine J.al hΓ (fun _ => ?_)) | (refine J.o 9 ?_; refine J.bl hΓ (fun _ => ?_)) | (refine J.o 10 ?_; refine J.ev' hΓ ?_) | (refine J.o 11 ?_; refine J.ev' hΓ ?_)))
    | (first | refine JC.seq ?_ | refine JC.region ?_ | refine JC.ret ?_ | refine thenK.nn ?_)
    | (fail)
    | fail
  all_goals first | (exfalso; omega) | skip
  exact retC hΓ rfl rfl rfl (by first | exact Rd.hd | exact Rd.hd.tl) rfl (fun w1 hw => ⟨by rw [show valW (ofW v) = v from hval]; rfl, hw.below⟩)
theorem pow2_any (k : Nat) (hk : k ≤ 4096) (w : World) : Calls Try.prog 31 #[.int .i64 (k : Int)] w fun e w' => e = .returned (natV (2 ^ k)) ∧ Below w.heap.size w w' := by
  have hp : 2 ^ (k % 32) < 4294967296 := by
    have : 2 ^ (k % 32) ≤ 2 ^ 31 := Nat.pow_le_pow_right (by omega) (by omega)
    omega
  have hl : (List.replicate (k / 32 + 1) 0).length = k / 32 + 1 := List.length_replicate
  have hok : okW ((List.replicate (k / 32 + 1) 0).set (k / 32) (1 * 2 ^ (k % 32))) := okW_set (okW_zeros _) _ _ (by rw [Nat.one_mul]; exact hp)
  have hval : valW ((List.replicate (k / 32 + 1) 0).set (k / 32) (1 * 2 ^ (k % 32))) = 2 ^ k := by
    have h1 := valW_set (List.replicate (k / 32 + 1) 0) (k / 32) (1 * 2 ^ (k % 32)) (by rw [hl]; omega)
    have h2 : (List.replicate (k / 32 + 1) 0).getD (k / 32) 0 = 0 := by rw [List.getD_eq_getElem?_getD, List.getElem?_replicate]; split <;> rfl
    rw [h2, valW_zeros, Nat.mul_zero, Nat.zero_add, Nat.add_zero, Nat.one_mul] at h1
    rw [Nat.one_mul, h1, show W32 = 2 ^ 32 from rfl, ← Nat.pow_mul, ← Nat.pow_add, Nat.div_add_mod]
  have hls : ((List.replicate (k / 32 + 1) 0).set (k / 32) (1 * 2 ^ (k % 32))).length = k / 32 + 1 := by rw [List.length_set, hl]
  refine calls_of_JC (R := []) Try.func31 Try.ntmps31 rfl rfl (Holds.nil _) ?_
  repeat' first
    | (refine J.isJ ?_; first | (first | (refine J.o 7 ?_; refine J.al hΓ (fun b2 => ?_)) | (refine J.o 2 ?_; refine J.gcv hΓ ?_ (hk := wU64 (by omega))) | (refine J.o 1 ?_; first | refine J.gquo (b := 32) ?_ (hw := wI64 (by omega)) | refine J.grem (b := 32) ?_ | refine J.gadd (b := 1) ?_ (hw := wI64 (by omega)) | refine J.gshl (a := 1) ?_ (hw := wU32 (by rw [Nat.one_mul]; exact hp))) | (refine J.o 9 ?_; refine J.make (enc := encW) (m := k / 32 + 1) (0 : Nat) hΓ rfl rfl rfl rfl rfl rfl (fun _ => rfl) (by omega) (by omega) (fun b3 h3 o3 => ?_)) | (refine J.o 5 ?_; refine J.tT (enc := encW) _ default hΓ (fun h5 o5 => ?_)) | (refine J.fc 76 ?_; refine J.call0 eFrom rfl rfl (fun w hw => from_len _ _ _ _ o5.sl hok hls (by omega) hval w (hw.rdH RdH.hd)) ?_)) | (first | (refine J.o 0 ?_; refine J.ev' hΓ ?_) | refine J.nil ?_ | (refine J.o 3 ?_; first | refine J.iJ hΓ ?_ | refine J.ev' hΓ ?_) | (refine J.o 5 ?_; first | refine J.t1 hΓ ?_ | refine J.tT _ default hΓ (fun _ _ => ?_)) | (refine J.o 7 ?_; refine J.al hΓ (fun _ => ?_)) | (refine J.o 10 ?_; refine J.ev' hΓ ?_) | (refine J.o 11 ?_; refine J.ev' hΓ ?_)))
    | (first | refine JC.seq ?_ | refine JC.region ?_ | refine JC.ret ?_ | refine JC.skip ?_ | refine thenK.nn ?_ | (refine JC.cond rfl (fun hc => ?_) (fun hc => ?_) <;> ((try simp only [decide_eq_true_eq, decide_eq_false_iff_not, beq_iff_eq, beq_eq_false_iff_ne, bne_iff_ne, bne_eq_false_iff_eq, Bool.not_eq_true', Bool.not_eq_false', Bool.not_eq_true, Bool.not_eq_false] at hc) <;> first | (first | (exact absurd rfl hc) | (exfalso; omega) | (exact absurd (hc.symm.trans (by assumption : _ = false)) (by decide)) | (exact absurd (hc.symm.trans (by assumption : _ = true)) (by decide))) | skip)))
    | (fail)
    | fail
  all_goals first | (exfalso; omega) | skip
  exact retC hΓ rfl rfl rfl (by first | exact Rd.hd | exact Rd.hd.tl) rfl (fun w1 hw => ⟨rfl, hw.below⟩)
theorem mul_any (a b : Nat) (ha : (bytesN a).length ≤ 1000) (hb : (bytesN b).length ≤ 1000) (w : World) : Calls Try.prog 74 #[natV a, natV b] w fun e w' => e = .returned (natV (a * b)) ∧ Below w.heap.size w w' := by
  have lx := wordsB_len (bytesN a)
  have ly := wordsB_len (bytesN b)
  have kx := okW_wordsB (bytesN a)
  have ky := okW_wordsB (bytesN b)
  have vx := valW_wordsB (bytesN a)
  have vy := valW_wordsB (bytesN b)
  rw [valB_bytesN] at vx vy
  have cX := fun w => words_any a (by omega) w
  have cY := fun w => words_any b (by omega) w
  generalize wordsB (bytesN a) = x at lx kx vx cX
  generalize wordsB (bytesN b) = y at ly ky vy cY
  refine calls_of_JC (R := []) Try.func74 Try.ntmps74 rfl rfl (Holds.nil _) ?_
  unfold natV
  repeat' first
    | (refine J.isJ ?_; first | (first | (refine J.o 6 ?_; first | refine J.bx (fun b2 => ?_)) | (refine J.o 7 ?_; refine J.al hΓ (fun b4 => ?_))) | (first | (refine J.o 0 ?_; refine J.ev' hΓ ?_) | refine J.nil ?_ | (refine J.o 4 ?_; first | refine J.lT default hΓ ?_ | refine J.lR hΓ ?_) | (refine J.o 3 ?_; first | refine J.iJ hΓ ?_ | refine J.ev' hΓ ?_) | (refine J.o 1 ?_; first | refine J.ad ?_) | (refine J.o 5 ?_; first | refine J.t0 hΓ ?_ | refine J.tT _ default hΓ (fun _ _ => ?_)) | (refine J.o 6 ?_; refine J.bx (fun _ => ?_)) | (refine J.o 7 ?_; refine J.al hΓ (fun _ => ?_)) | (refine J.o 10 ?_; refine J.ev' hΓ ?_) | (refine J.o 11 ?_; refine J.ev' hΓ ?_)))
    | (first | refine JC.seq ?_ | refine JC.region ?_ | refine JC.block ?_ | refine JC.ret ?_ | refine JC.exit ?_ | refine JC.skip ?_ | refine thenK.nn ?_ | refine thenK.x ?_ | refine blockK.nn ?_ | refine blockK.hit rfl ?_ | (refine JC.cond rfl (fun hc => ?_) (fun hc => ?_) <;> ((try simp only [decide_eq_true_eq, decide_eq_false_iff_not, beq_iff_eq, beq_eq_false_iff_ne, bne_iff_ne, bne_eq_false_iff_eq, Bool.not_eq_true', Bool.not_eq_false', Bool.not_eq_true, Bool.not_eq_false] at hc) <;> first | (first | (exact absurd rfl hc) | (exfalso; omega) | (exact absurd (hc.symm.trans (by assumption : _ = false)) (by decide)) | (exact absurd (hc.symm.trans (by assumption : _ = true)) (by decide))) | skip)) | refine drawK.nn ?_ | refine loopK.x ?_)
    | (fail)
    | fail
  rename_i b3
  refine JC.drawO [(1,0),(1,2),(3,1),(3,3),(0,4),(0,5)] (by kernel_rfl) (by kernel_rfl) ?_
  repeat' first
    | (refine J.isJ ?_; first | (first | (refine J.o 4 ?_; first | refine J.lR hΓ ?_ (hr := Rd.hd.tl.tl) | refine J.lR hΓ ?_ (hr := Rd.hd.tl)) | (refine J.fc 77 ?_; refine J.call1 eWords rfl rfl (fun w hw => cX w) ?_; rintro _ hgx ⟨ax, cx, rfl, ox⟩) | (refine J.fc 77 ?_; refine J.call1 eWords rfl rfl (fun w hw => cY w) ?_; rintro _ hgy ⟨ay, cy, rfl, oy⟩) | (refine J.o 1 ?_; refine J.gadd ?_ (hw := wI64 (by omega))) | (refine J.o 9 ?_; refine J.make (enc := encW) (m := x.length + y.length) (0 : Nat) hΓ rfl rfl rfl rfl rfl rfl (fun _ => rfl) (by omega) (by omega) (fun b7 h7 o7 => ?_))) | (first | (refine J.o 0 ?_; refine J.ev' hΓ ?_) | refine J.nil ?_ | (refine J.o 4 ?_; first | refine J.lT default hΓ ?_ | refine J.lR hΓ ?_) | (refine J.o 3 ?_; first | refine J.iJ hΓ ?_ | refine J.ev' hΓ ?_) | (refine J.o 1 ?_; first | refine J.ad ?_) | (refine J.o 5 ?_; first | refine J.t0 hΓ ?_ | refine J.tT _ default hΓ (fun _ _ => ?_)) | (refine J.o 6 ?_; refine J.bx (fun _ => ?_)) | (refine J.o 7 ?_; refine J.al hΓ (fun _ => ?_)) | (refine J.o 10 ?_; refine J.ev' hΓ ?_) | (refine J.o 11 ?_; refine J.ev' hΓ ?_)))
    | (first | refine JC.seq ?_ | refine JC.region ?_ | refine JC.block ?_ | refine JC.ret ?_ | refine JC.exit ?_ | refine JC.skip ?_ | refine thenK.nn ?_ | refine thenK.x ?_ | refine blockK.nn ?_ | refine blockK.hit rfl ?_ | (refine JC.cond rfl (fun hc => ?_) (fun hc => ?_) <;> ((try simp only [decide_eq_true_eq, decide_eq_false_iff_not, beq_iff_eq, beq_eq_false_iff_ne, bne_iff_ne, bne_eq_false_iff_eq, Bool.not_eq_true', Bool.not_eq_false', Bool.not_eq_true, Bool.not_eq_false] at hc) <;> first | (first | (exact absurd rfl hc) | (exfalso; omega) | (exact absurd (hc.symm.trans (by assumption : _ = false)) (by decide)) | (exact absurd (hc.symm.trans (by assumption : _ = true)) (by decide))) | skip)) | refine drawK.nn ?_ | refine loopK.x ?_)
    | (fail)
    | fail
  all_goals first | (exfalso; omega) | skip
  refine JC.loop (fun i => (Nat.ble 8 i && Nat.ble i 11) || Nat.ble 24 i) (fun m g L' => ∃ i o h', g 24 = .int .i64 ((i : Nat) : Int) ∧ i + m = x.length ∧ MulO x y i o ∧ OwT encW 1 124 (some ⟨b7, 0, none⟩) (x.length + y.length) o h' ∧ L' = [h', hgy, hgx, [(b4, Obj.cells ⟨[.string ByteArray.empty]⟩ 58 (0, 0))], [(b2, Obj.cells ⟨[.string (S (bytesN b))]⟩ 58 (0, 0))], [(b3, Obj.cells ⟨[.string (S (bytesN a))]⟩ 58 (0, 0))]]) x.length ⟨0, _, h7, rfl, by omega, MulO.start x y, o7, rfl⟩ ?_
  rintro m1 g1 L' ⟨i, o, h4, e24, hi, mo, o4, rfl⟩
  refine JC.pin 24 e24 ?_
  have lo := mo.len
  rcases Nat.lt_or_ge i x.length with hlt | hge
  ·
    repeat' first
      | (refine J.isJ ?_; first | (first | (refine J.o 4 ?_; first | refine J.lT (0 : Nat) hΓ ?_ (hs := ox.sl) (hr := RdH.hd.tl.tl))) | (first | (refine J.o 0 ?_; refine J.ev' hΓ ?_) | refine J.nil ?_ | (refine J.o 4 ?_; first | refine J.lT default hΓ ?_ | refine J.lR hΓ ?_) | (refine J.o 3 ?_; first | refine J.iJ hΓ ?_ | refine J.ev' hΓ ?_) | (refine J.o 1 ?_; first | refine J.ad ?_) | (refine J.o 5 ?_; first | refine J.t0 hΓ ?_ | refine J.tT _ default hΓ (fun _ _ => ?_)) | (refine J.o 6 ?_; refine J.bx (fun _ => ?_)) | (refine J.o 7 ?_; refine J.al hΓ (fun _ => ?_)) | (refine J.o 10 ?_; refine J.ev' hΓ ?_) | (refine J.o 11 ?_; refine J.ev' hΓ ?_)))
      | (first | refine JC.seq ?_ | refine JC.region ?_ | refine JC.block ?_ | refine JC.ret ?_ | refine JC.exit ?_ | refine JC.skip ?_ | refine thenK.nn ?_ | refine thenK.x ?_ | refine blockK.nn ?_ | refine blockK.hit rfl ?_ | (refine JC.cond rfl (fun hc => ?_) (fun hc => ?_) <;> ((try simp only [decide_eq_true_eq, decide_eq_false_iff_not, beq_iff_eq, beq_eq_false_iff_ne, bne_iff_ne, bne_eq_false_iff_eq, Bool.not_eq_true', Bool.not_eq_false', Bool.not_eq_true, Bool.not_eq_false] at hc) <;> first | (first | (exact absurd rfl hc) | (exfalso; omega) | (exact absurd (hc.symm.trans (by assumption : _ = false)) (by decide)) | (exact absurd (hc.symm.trans (by assumption : _ = true)) (by decide))) | skip)) | refine drawK.nn ?_ | refine loopK.x ?_)
      | (fail)
      | fail
    all_goals first | (exfalso; omega) | skip
    refine JC.loop (fun i => i == 10 || i == 11 || Nat.ble 31 i) (fun m g L' => ∃ k c o h', g 31 = .int .i64 ((k : Nat) : Int) ∧ k + m = y.length ∧ g 10 = .int .u64 ((c : Nat) : Int) ∧ MulI x y i k o c ∧ OwT encW 1 124 (some ⟨b7, 0, none⟩) (x.length + y.length) o h' ∧ L' = [h', hgy, hgx, [(b4, Obj.cells ⟨[.string ByteArray.empty]⟩ 58 (0, 0))], [(b2, Obj.cells ⟨[.string (S (bytesN b))]⟩ 58 (0, 0))], [(b3, Obj.cells ⟨[.string (S (bytesN a))]⟩ 58 (0, 0))]]) y.length ⟨0, 0, o, h4, rfl, by omega, rfl, mo.inn, o4, rfl⟩ ?_
    rintro m2 g2 L' ⟨k, c, o2, h6, e31, hk, e10, mi, o6, rfl⟩
    refine JC.pin 31 e31 ?_
    refine JC.pin 10 e10 ?_
    have lo2 := mi.len
    have c1 := mi.c1
    rcases Nat.lt_or_ge k y.length with hlt2 | hge2
    · have hik : i + k < o2.length := by omega
      have b1 : o2.getD (i + k) 0 < 4294967296 := okW_get mi.ok (i + k)
      have b2' : x.getD i 0 < 4294967296 := okW_get kx i
      have b3' : y.getD k 0 < 4294967296 := okW_get ky k
      have hfit := mul_fits c1 b1 b2' b3'
      have hstep := mi.step kx ky hlt hlt2
      repeat' first
        | (refine J.isJ ?_; first | (first | (refine J.o 4 ?_; first | refine J.lT (0 : Nat) hΓ ?_ (hs := oy.sl) (hr := RdH.hd.tl) | refine J.lT (0 : Nat) hΓ ?_ (hs := o6.sl) (hr := RdH.hd)) | (refine J.o 1 ?_; first | refine J.gadd ?_ (hw := wI64 (by omega)) | refine J.gadd ?_ (hw := wU64 (by omega)) | refine J.gmul ?_ (hw := wU64 (by omega)) | refine J.gshr (j := 32) ?_) | (refine J.o 2 ?_; first | refine J.gcv hΓ ?_ (hk := wU64 (by omega)) | refine J.gcv hΓ ?_ (hk := wT32 _)) | (refine J.o 5 ?_; refine J.tT (enc := encW) _ default hΓ (fun h5 o5 => ?_))) | (first | (refine J.o 0 ?_; refine J.ev' hΓ ?_) | refine J.nil ?_ | (refine J.o 4 ?_; first | refine J.lT default hΓ ?_ | refine J.lR hΓ ?_) | (refine J.o 3 ?_; first | refine J.iJ hΓ ?_ | refine J.ev' hΓ ?_) | (refine J.o 1 ?_; first | refine J.ad ?_) | (refine J.o 5 ?_; first | refine J.t0 hΓ ?_ | refine J.tT _ default hΓ (fun _ _ => ?_)) | (refine J.o 6 ?_; refine J.bx (fun _ => ?_)) | (refine J.o 7 ?_; refine J.al hΓ (fun _ => ?_)) | (refine J.o 10 ?_; refine J.ev' hΓ ?_) | (refine J.o 11 ?_; refine J.ev' hΓ ?_)))
        | (first | refine JC.seq ?_ | refine JC.region ?_ | refine JC.block ?_ | refine JC.ret ?_ | refine JC.exit ?_ | refine JC.skip ?_ | refine thenK.nn ?_ | refine thenK.x ?_ | refine blockK.nn ?_ | refine blockK.hit rfl ?_ | (refine JC.cond rfl (fun hc => ?_) (fun hc => ?_) <;> ((try simp only [decide_eq_true_eq, decide_eq_false_iff_not, beq_iff_eq, beq_eq_false_iff_ne, bne_iff_ne, bne_eq_false_iff_eq, Bool.not_eq_true', Bool.not_eq_false', Bool.not_eq_true, Bool.not_eq_false] at hc) <;> first | (first | (exact absurd rfl hc) | (exfalso; omega) | (exact absurd (hc.symm.trans (by assumption : _ = false)) (by decide)) | (exact absurd (hc.symm.trans (by assumption : _ = true)) (by decide))) | skip)) | refine drawK.nn ?_ | refine loopK.x ?_)
        | ((refine JC.drawO [(0,0),(0,1),(0,2),(0,3),(0,4),(0,5),(1,6),(0,7),(0,8),(0,9),(0,10),(0,11),(0,12),(1,13),(0,14),(0,15),(0,16),(0,17),(0,18)] (by decide +kernel) (by decide +kernel) ?_))
        | fail
      all_goals first | (exfalso; omega) | skip
      refine loopK.nn (m2 - 1) (by omega) (by repeat (first | refine Ag.upd rfl ?_ | exact Ag.hv)) ⟨k + 1, _, _, h5, ?_, by omega, rfl, hstep, o5, rfl⟩
      show Value.int .i64 _ = _; congr 1
    · obtain rfl : k = y.length := by omega
      have hout := mi.out hlt
      have hik : i + y.length < o2.length := by omega
      repeat' first
        | (refine J.isJ ?_; first | (first | (refine J.o 1 ?_; first | refine J.gadd ?_ (hw := wI64 (by omega))) | (refine J.o 2 ?_; first | refine J.gcv hΓ ?_ (hk := wU32 c1)) | (refine J.o 5 ?_; refine J.tT (enc := encW) _ default hΓ (fun h5 o5 => ?_))) | (first | (refine J.o 0 ?_; refine J.ev' hΓ ?_) | refine J.nil ?_ | (refine J.o 4 ?_; first | refine J.lT default hΓ ?_ | refine J.lR hΓ ?_) | (refine J.o 3 ?_; first | refine J.iJ hΓ ?_ | refine J.ev' hΓ ?_) | (refine J.o 1 ?_; first | refine J.ad ?_) | (refine J.o 5 ?_; first | refine J.t0 hΓ ?_ | refine J.tT _ default hΓ (fun _ _ => ?_)) | (refine J.o 6 ?_; refine J.bx (fun _ => ?_)) | (refine J.o 7 ?_; refine J.al hΓ (fun _ => ?_)) | (refine J.o 10 ?_; refine J.ev' hΓ ?_) | (refine J.o 11 ?_; refine J.ev' hΓ ?_)))
        | (first | refine JC.seq ?_ | refine JC.region ?_ | refine JC.block ?_ | refine JC.ret ?_ | refine JC.exit ?_ | refine JC.skip ?_ | refine thenK.nn ?_ | refine thenK.x ?_ | refine blockK.nn ?_ | refine blockK.hit rfl ?_ | (refine JC.cond rfl (fun hc => ?_) (fun hc => ?_) <;> ((try simp only [decide_eq_true_eq, decide_eq_false_iff_not, beq_iff_eq, beq_eq_false_iff_ne, bne_iff_ne, bne_eq_false_iff_eq, Bool.not_eq_true', Bool.not_eq_false', Bool.not_eq_true, Bool.not_eq_false] at hc) <;> first | (first | (exact absurd rfl hc) | (exfalso; omega) | (exact absurd (hc.symm.trans (by assumption : _ = false)) (by decide)) | (exact absurd (hc.symm.trans (by assumption : _ = true)) (by decide))) | skip)) | refine drawK.nn ?_ | refine loopK.x ?_)
        | (fail)
        | fail
      all_goals first | (exfalso; omega) | skip
      refine loopK.nn (m1 - 1) (by omega) (by repeat (first | refine Ag.upd rfl ?_ | exact Ag.hv | refine Ag.hv2 (fun i hi => by simp at hi ⊢; omega) ?_)) ⟨i + 1, _, h5, ?_, by omega, hout, o5, rfl⟩
      show Value.int .i64 _ = _; congr 1
  · obtain rfl : i = x.length := by omega
    have hval := mo.fin
    rw [vx, vy] at hval
    repeat' first
      | (refine J.isJ ?_; first | (first | (refine J.fc 76 ?_; refine J.call0 eFrom rfl rfl (fun w hw => from_len _ _ _ _ o4.sl mo.ok lo (by omega) hval w (hw.rdH RdH.hd)) ?_) | (refine J.o 5 ?_; first | (refine J.perm br3 ?_; refine J.t0 hΓ ?_) | (refine J.perm br4 ?_; refine J.t0 hΓ ?_) | (refine J.perm br5 ?_; refine J.t0 hΓ ?_) | (refine J.perm br6 ?_; refine J.t0 hΓ ?_) | (refine J.perm br7 ?_; refine J.t0 hΓ ?_))) | (first | (refine J.o 0 ?_; refine J.ev' hΓ ?_) | refine J.nil ?_ | (refine J.o 4 ?_; first | refine J.lT default hΓ ?_ | refine J.lR hΓ ?_) | (refine J.o 3 ?_; first | refine J.iJ hΓ ?_ | refine J.ev' hΓ ?_) | (refine J.o 1 ?_; first | refine J.ad ?_) | (refine J.o 5 ?_; first | refine J.t0 hΓ ?_ | refine J.tT _ default hΓ (fun _ _ => ?_)) | (refine J.o 6 ?_; refine J.bx (fun _ => ?_)) | (refine J.o 7 ?_; refine J.al hΓ (fun _ => ?_)) | (refine J.o 10 ?_; refine J.ev' hΓ ?_) | (refine J.o 11 ?_; refine J.ev' hΓ ?_)))
      | (first | refine JC.seq ?_ | refine JC.region ?_ | refine JC.block ?_ | refine JC.ret ?_ | refine JC.exit ?_ | refine JC.skip ?_ | refine thenK.nn ?_ | refine thenK.x ?_ | refine blockK.nn ?_ | refine blockK.hit rfl ?_ | (refine JC.cond rfl (fun hc => ?_) (fun hc => ?_) <;> ((try simp only [decide_eq_true_eq, decide_eq_false_iff_not, beq_iff_eq, beq_eq_false_iff_ne, bne_iff_ne, bne_eq_false_iff_eq, Bool.not_eq_true', Bool.not_eq_false', Bool.not_eq_true, Bool.not_eq_false] at hc) <;> first | (first | (exact absurd rfl hc) | (exfalso; omega) | (exact absurd (hc.symm.trans (by assumption : _ = false)) (by decide)) | (exact absurd (hc.symm.trans (by assumption : _ = true)) (by decide))) | skip)) | refine drawK.nn ?_ | refine loopK.x ?_)
      | (fail)
      | fail
    all_goals first | (exfalso; omega) | skip
    exact retC hΓ rfl rfl rfl (by first | exact Rd.hd | exact Rd.hd.tl | exact Rd.hd.tl.tl | exact Rd.hd.tl.tl.tl) rfl (fun w1 hw => ⟨rfl, hw.below⟩)
end Go.Proofs.Ytbhgahjeocnfcaa
namespace Go.Proofs.Ytbhgahjeocnfcaa
open Go Go.Cx Go.RowKit
set_option linter.unusedVariables false
set_option linter.unusedSimpArgs false
set_option maxHeartbeats 4000000
attribute [local irreducible] J JC thenK blockK loopK drawK retK QW Qt pel List.set Calls
set_option maxRecDepth 8000
attribute [local irreducible] JE Br eK0 eK2 eK3 brK pc
section
variable {P : Program} {n : Nat} {w0 : World} {R : Heap} {l0 : List Oper} {K : Exit → Fr → List Heap → Prop} {f : Fr} {L : List Heap} {rest : List (Nat × Oper)} {κ : Nat} {Γ : List (Nat × TI)}
variable {d : Nat} {ty : TypeId} {pos : String} {aft : Array Edge} {g : Option (Nat × Bool)} {t u : TypeId} {x y : Operand}
theorem ones_W : ∀ l : List Nat, ones (l.flatMap encW) = true
  | [] => rfl
  | x :: l => by rw [List.flatMap_cons]; show ones (Value.int .u32 (x : Int) :: l.flatMap encW) = true; unfold ones; exact ones_W l
theorem J.cpy {a b : Option Addr} {cap cy e e2 m k s1 b1 b2 : Nat} {z1 z2 : Option Value} {de : TypeDesc} {ts us : List Nat} {h hs : Heap} (hΓ : Fits P Γ) (ho : OwT encW 1 e a cap ts h) (oy : OwT encW 1 e2 b cy us hs) (hr : RdH R L hs) (hle : us.length ≤ ts.length)
    (kk : ∀ h', OwT encW 1 e a cap (us ++ ts.drop us.length) h' → J P n w0 R l0 K rest (upd f d (.int .i64 (us.length : Int))) (h' :: L))
    (hg : wantB n f l0 ⟨some d, .call ⟨.builtin .copy, ⟨[x, y]⟩, ⟨[t, u]⟩⟩, ty, pos, aft, g⟩ = true := by exact rfl) (hx : Cx.ev n f x = .slice a m cap := by exact rfl) (hy : Cx.ev n f y = .slice b k cy := by exact rfl)
    (hm : ts.length = m := by omega) (hk : us.length = k := by first | rfl | omega) (ht : Cx.look Γ t = some ⟨.slice e, s1, z1, b1⟩ := by exact rfl) (he : Cx.look Γ e = some ⟨de, 1, z2, b2⟩ := by exact rfl) :
    J P n w0 R l0 K ((2, ⟨some d, .call ⟨.builtin .copy, ⟨[x, y]⟩, ⟨[t, u]⟩⟩, ty, pos, aft, g⟩) :: rest) f (h :: L) := by
  subst hm hk
  have hu := (hΓ t _ ht).1
  obtain ⟨_, ie, hie, hse, _⟩ := hΓ e _ he
  have hs1 : (P.info? e).map (·.size) = some 1 := by rw [hie]; exact congrArg some hse
  have h2 : (⟨[x, y]⟩ : Array Operand).map (Cx.ev n f) = #[.slice a ts.length cap, .slice b us.length cy] := by simp [hx, hy]
  refine J.v (Φ := fun v L' => ∃ h', v = .int .i64 (us.length : Int) ∧ L' = h' :: L ∧ OwT encW 1 e a cap (us ++ ts.drop us.length) h') hg (fun w hw => ?_) (fun v L' ⟨h', e1, e2, e3⟩ => by subst e1; subst e2; exact kk h' e3)
  rcases Nat.eq_zero_or_pos us.length with h0 | hpos
  · have hun : us = [] := List.eq_nil_of_length_eq_zero h0
    have hrun := run_copy_none (P := P) w t u ty e a b ts.length cap us.length cy hu hs1 (by rw [h0]; exact Nat.zero_min _)
    refine ⟨.int .i64 (us.length : Int), _, w, ?_, hw, h, rfl, rfl, by subst hun; exact ho⟩
    simp only [execOp, resolve, h2, Sem.run_bind, Sem.run_pure, Result.andThen_ok, invoke, builtin]
    rw [hrun, h0]
    rfl
  · rcases oy.row with ⟨_, _, hun, _⟩ | ⟨gb, cs, rfl, rfl, hc1, hc2, hc3⟩
    · subst hun; simp at hpos
    rcases ho.row with ⟨_, _, htn, _⟩ | ⟨ga, ds, rfl, rfl, hd1, hd2, hd3⟩
    · subst htn; exact absurd (Nat.lt_of_lt_of_le hpos hle) (by simp)
    rw [Nat.mul_one] at hc1 hc3 hd1 hd3
    have hga : w.heap[ga]? = some (.cells ds.toArray e (0, 0)) := hw.own (ga, _) (by simp)
    have hgb : w.heap[gb]? = some (.cells cs.toArray e2 (0, 0)) := hw.rd ((hr (gb, _) (by simp)).tl)
    have hadd : ∀ j, (⟨gb, 0, none⟩ : Addr).add j = ⟨gb, j, none⟩ := fun j => by unfold Addr.add; split <;> simp_all
    have hlu := flatW us
    have hlt := flatW ts
    have hrun := run_copy_row (P := P) w t u ty e ga 0 ts.length cap ⟨gb, 0, none⟩ us.length cy ds.toArray e (us.flatMap encW) hu hs1 hga (by rw [hlu]; exact (Nat.min_eq_left hle).symm)
      (fun j v hj => by
        rw [hadd, cell_of_row w gb j cs.toArray e2 (0, 0) hgb]
        rw [← hc3, List.getElem?_take] at hj
        split at hj
        · simpa using hj
        · cases hj) (by rw [hlu]; simp only [List.size_toArray, Nat.zero_add]; omega) (ones_ok (ones_W us))
    have hw2 := hw.write (w' := w.setRow ga (ds.toArray.toList.take 0 ++ us.flatMap encW ++ ds.toArray.toList.drop (0 + (us.flatMap encW).length)).toArray) rfl rfl rfl (by simp) (setRow_heap w ga _ _ e _ hga) (fun k hk => setRow_other _ _ _ _ hk)
    refine ⟨.int .i64 (us.length : Int), _, _, ?_, hw2, _, rfl, rfl, ⟨ho.len, .inr ⟨ga, _, rfl, rfl, ?_, ?_, ?_⟩⟩⟩
    · simp only [execOp, resolve, h2, Sem.run_bind, Sem.run_pure, Result.andThen_ok, invoke, builtin]
      rw [hrun, hlu]
      rfl
    · simp only [List.take_zero, List.nil_append, Nat.zero_add, List.length_append, List.length_drop, hlu, Nat.mul_one]
      omega
    · rw [List.length_append, List.length_drop]; omega
    · have e1 : (us ++ ts.drop us.length).length = ts.length := by rw [List.length_append, List.length_drop]; omega
      rw [e1, Nat.mul_one, List.flatMap_append]
      simp only [List.take_zero, List.nil_append, Nat.zero_add, hlu]
      have e2 : ds.take ts.length = ts.flatMap encW := hd3
      have e3 : (ts.flatMap encW).drop us.length = (ts.drop us.length).flatMap encW := by
        conv => lhs; rw [← List.take_append_drop us.length ts, List.flatMap_append]
        rw [List.drop_append_of_le_length (by rw [flatW, List.length_take]; omega), List.drop_of_length_le (by rw [flatW, List.length_take]; omega)]; rfl
      rw [← e3, ← e2, List.take_append, hlu, List.take_of_length_le (by rw [hlu]; exact hle), List.drop_take]
end
theorem eAddN : Entr Try.prog 124 := Entr.of Try.func124 rfl rfl
theorem add_any2 (a b : Nat) (ha : (bytesN a).length ≤ 1000) (hb : (bytesN b).length ≤ 1000) (w : World) : Calls Try.prog 124 #[natV a, natV b] w fun e w' => e = .returned (natV (a + b)) ∧ Below w.heap.size w w' := by
  have lx := wordsB_len (bytesN a)
  have ly := wordsB_len (bytesN b)
  have kx := okW_wordsB (bytesN a)
  have ky := okW_wordsB (bytesN b)
  have vx := valW_wordsB (bytesN a)
  have vy := valW_wordsB (bytesN b)
  rw [valB_bytesN] at vx vy
  have cX := fun w => words_any a (by omega) w
  have cY := fun w => words_any b (by omega) w
  generalize wordsB (bytesN a) = x at lx kx vx cX
  generalize wordsB (bytesN b) = y at ly ky vy cY
  rcases Nat.lt_or_ge x.length y.length with hxy | hxy
  ·
    have hle : x.length ≤ y.length := by omega
    have hst := AddI.start ky kx hle
    have hdr : (List.replicate (y.length + 1) 0).drop x.length = List.replicate (y.length + 1 - x.length) 0 := List.drop_replicate
    refine calls_of_JC (R := []) Try.func124 Try.ntmps124 rfl rfl (Holds.nil _) ?_
    unfold natV
    repeat' first
      | (refine J.isJ ?_; first | (first | (refine J.o 6 ?_; first | refine J.bx (fun b2 => ?_)) | (refine J.o 7 ?_; refine J.al hΓ (fun b4 => ?_))) | (first | (refine J.o 0 ?_; refine J.ev' hΓ ?_) | refine J.nil ?_ | (refine J.o 4 ?_; first | refine J.lT default hΓ ?_ | refine J.lR hΓ ?_) | (refine J.o 3 ?_; first | refine J.iJ hΓ ?_ | refine J.ev' hΓ ?_) | (refine J.o 1 ?_; first | refine J.ad ?_) | (refine J.o 5 ?_; first | refine J.t0 hΓ ?_ | refine J.tT _ default hΓ (fun _ _ => ?_)) | (refine J.o 6 ?_; refine J.bx (fun _ => ?_)) | (refine J.o 7 ?_; refine J.al hΓ (fun _ => ?_)) | (refine J.o 10 ?_; refine J.ev' hΓ ?_) | (refine J.o 11 ?_; refine J.ev' hΓ ?_)))
      | (first | refine JC.seq ?_ | refine JC.region ?_ | refine JC.block ?_ | refine JC.ret ?_ | refine JC.exit ?_ | refine JC.skip ?_ | refine thenK.nn ?_ | refine thenK.x ?_ | refine blockK.nn ?_ | refine blockK.hit rfl ?_ | (refine JC.cond rfl (fun hc => ?_) (fun hc => ?_) <;> ((try simp only [decide_eq_true_eq, decide_eq_false_iff_not, beq_iff_eq, beq_eq_false_iff_ne, bne_iff_ne, bne_eq_false_iff_eq, Bool.not_eq_true', Bool.not_eq_false', Bool.not_eq_true, Bool.not_eq_false] at hc) <;> first | (first | (exact absurd rfl hc) | (exfalso; omega) | (exact absurd (hc.symm.trans (by assumption : _ = false)) (by decide)) | (exact absurd (hc.symm.trans (by assumption : _ = true)) (by decide))) | skip)) | refine drawK.nn ?_ | refine loopK.x ?_)
      | (fail)
      | fail
    rename_i b3
    refine JC.drawO [(1,0),(1,2),(3,1),(3,3),(0,4),(0,5)] (by kernel_rfl) (by kernel_rfl) ?_
    repeat' first
      | (refine J.isJ ?_; first | (first | (refine J.o 4 ?_; first | refine J.lR hΓ ?_ (hr := Rd.hd.tl.tl) | refine J.lR hΓ ?_ (hr := Rd.hd.tl)) | (refine J.fc 77 ?_; refine J.call1 eWords rfl rfl (fun w hw => cX w) ?_; rintro _ hgx ⟨ax, cx, rfl, ox⟩) | (refine J.fc 77 ?_; refine J.call1 eWords rfl rfl (fun w hw => cY w) ?_; rintro _ hgy ⟨ay, cy, rfl, oy⟩) | (refine J.o 1 ?_; refine J.gadd (b := 1) ?_ (hw := wI64 (by omega))) | (refine J.o 9 ?_; first | refine J.make (enc := encW) (m := y.length + 1) (0 : Nat) hΓ rfl rfl rfl rfl rfl rfl (fun _ => rfl) (by omega) (by omega) (fun b7 h7 o7 => ?_) | refine J.cpy hΓ o7 ox (RdH.hd.tl) (by rw [List.length_replicate]; omega) (fun h8 o8 => ?_) (hm := List.length_replicate))) | (first | (refine J.o 0 ?_; refine J.ev' hΓ ?_) | refine J.nil ?_ | (refine J.o 4 ?_; first | refine J.lT default hΓ ?_ | refine J.lR hΓ ?_) | (refine J.o 3 ?_; first | refine J.iJ hΓ ?_ | refine J.ev' hΓ ?_) | (refine J.o 1 ?_; first | refine J.ad ?_) | (refine J.o 5 ?_; first | refine J.t0 hΓ ?_ | refine J.tT _ default hΓ (fun _ _ => ?_)) | (refine J.o 6 ?_; refine J.bx (fun _ => ?_)) | (refine J.o 7 ?_; refine J.al hΓ (fun _ => ?_)) | (refine J.o 10 ?_; refine J.ev' hΓ ?_) | (refine J.o 11 ?_; refine J.ev' hΓ ?_)))
      | (first | refine JC.seq ?_ | refine JC.region ?_ | refine JC.block ?_ | refine JC.ret ?_ | refine JC.exit ?_ | refine JC.skip ?_ | refine thenK.nn ?_ | refine thenK.x ?_ | refine blockK.nn ?_ | refine blockK.hit rfl ?_ | (refine JC.cond rfl (fun hc => ?_) (fun hc => ?_) <;> ((try simp only [decide_eq_true_eq, decide_eq_false_iff_not, beq_iff_eq, beq_eq_false_iff_ne, bne_iff_ne, bne_eq_false_iff_eq, Bool.not_eq_true', Bool.not_eq_false', Bool.not_eq_true, Bool.not_eq_false] at hc) <;> first | (first | (exact absurd rfl hc) | (exfalso; omega) | (exact absurd (hc.symm.trans (by assumption : _ = false)) (by decide)) | (exact absurd (hc.symm.trans (by assumption : _ = true)) (by decide))) | skip)) | refine drawK.nn ?_ | refine loopK.x ?_)
      | (fail)
      | fail
    all_goals first | (exfalso; omega) | skip
    rw [hdr] at o8
    refine JC.loop (fun i => i == 8 || i == 9 || Nat.ble 30 i) (fun m g L' => ∃ i c o h', g 30 = .int .i64 ((i : Nat) : Int) ∧ i + m = y.length ∧ g 8 = .int .u64 ((c : Nat) : Int) ∧ AddI y x i o c ∧ OwT encW 1 124 (some ⟨b7, 0, none⟩) (y.length + 1) o h' ∧ L' = [h', hgy, hgx, [(b4, Obj.cells ⟨[.string ByteArray.empty]⟩ 58 (0, 0))], [(b2, Obj.cells ⟨[.string (S (bytesN b))]⟩ 58 (0, 0))], [(b3, Obj.cells ⟨[.string (S (bytesN a))]⟩ 58 (0, 0))]]) y.length ⟨0, 0, _, h8, rfl, by omega, rfl, hst, o8, rfl⟩ ?_
    rintro m1 g1 L' ⟨i, c, o, h4, e30, hi, e8, ai, o4, rfl⟩
    refine JC.pin 30 e30 ?_
    refine JC.pin 8 e8 ?_
    have lo := ai.len
    have c1 := ai.c1
    rcases Nat.lt_or_ge i y.length with hlt | hge
    · have b1 : o.getD i 0 < 4294967296 := okW_get ai.ok i
      have b2' : y.getD i 0 < 4294967296 := okW_get ky i
      have hstep := ai.step ky hlt
      repeat' first
        | (refine J.isJ ?_; first | (first | (refine J.o 4 ?_; first | refine J.lT (0 : Nat) hΓ ?_ (hs := oy.sl) (hr := RdH.hd.tl) | refine J.lT (0 : Nat) hΓ ?_ (hs := o4.sl) (hr := RdH.hd)) | (refine J.o 1 ?_; first | refine J.gadd ?_ (hw := wU64 (by omega)) | refine J.gshr (j := 32) ?_) | (refine J.o 2 ?_; first | refine J.gcv hΓ ?_ (hk := wU64 (by omega)) | refine J.gcv hΓ ?_ (hk := wT32 _)) | (refine J.o 5 ?_; refine J.tT (enc := encW) _ default hΓ (fun h5 o5 => ?_))) | (first | (refine J.o 0 ?_; refine J.ev' hΓ ?_) | refine J.nil ?_ | (refine J.o 4 ?_; first | refine J.lT default hΓ ?_ | refine J.lR hΓ ?_) | (refine J.o 3 ?_; first | refine J.iJ hΓ ?_ | refine J.ev' hΓ ?_) | (refine J.o 1 ?_; first | refine J.ad ?_) | (refine J.o 5 ?_; first | refine J.t0 hΓ ?_ | refine J.tT _ default hΓ (fun _ _ => ?_)) | (refine J.o 6 ?_; refine J.bx (fun _ => ?_)) | (refine J.o 7 ?_; refine J.al hΓ (fun _ => ?_)) | (refine J.o 10 ?_; refine J.ev' hΓ ?_) | (refine J.o 11 ?_; refine J.ev' hΓ ?_)))
        | (first | refine JC.seq ?_ | refine JC.region ?_ | refine JC.block ?_ | refine JC.ret ?_ | refine JC.exit ?_ | refine JC.skip ?_ | refine thenK.nn ?_ | refine thenK.x ?_ | refine blockK.nn ?_ | refine blockK.hit rfl ?_ | (refine JC.cond rfl (fun hc => ?_) (fun hc => ?_) <;> ((try simp only [decide_eq_true_eq, decide_eq_false_iff_not, beq_iff_eq, beq_eq_false_iff_ne, bne_iff_ne, bne_eq_false_iff_eq, Bool.not_eq_true', Bool.not_eq_false', Bool.not_eq_true, Bool.not_eq_false] at hc) <;> first | (first | (exact absurd rfl hc) | (exfalso; omega) | (exact absurd (hc.symm.trans (by assumption : _ = false)) (by decide)) | (exact absurd (hc.symm.trans (by assumption : _ = true)) (by decide))) | skip)) | refine drawK.nn ?_ | refine loopK.x ?_)
        | ((refine JC.drawO [(0,0),(0,1),(0,2),(0,3),(1,4),(0,5),(0,6),(0,7),(0,8),(1,9),(0,10),(0,11),(0,12),(0,13)] (by decide +kernel) (by decide +kernel) ?_))
        | fail
      all_goals first | (exfalso; omega) | skip
      refine loopK.nn (m1 - 1) (by omega) (by repeat (first | refine Ag.upd rfl ?_ | exact Ag.hv)) ⟨i + 1, _, _, h5, ?_, by omega, rfl, hstep, o5, rfl⟩
      show Value.int .i64 _ = _; congr 1
    · obtain rfl : i = y.length := by omega
      obtain ⟨hok, hval⟩ := ai.fin hle
      have hval2 : valW (o.set y.length c) = a + b := by rw [hval]; omega
      have hls : (o.set y.length c).length = y.length + 1 := by rw [List.length_set, lo]
      have hik : y.length < o.length := by omega
      repeat' first
        | (refine J.isJ ?_; first | (first | (refine J.o 2 ?_; refine J.gcv hΓ ?_ (hk := wU32 (by omega))) | (refine J.o 5 ?_; first | refine J.tT (enc := encW) _ default hΓ (fun h5 o5 => ?_)) | (refine J.fc 76 ?_; refine J.call0 eFrom rfl rfl (fun w hw => from_len _ _ _ _ o5.sl hok hls (by omega) hval2 w (hw.rdH RdH.hd)) ?_) | (refine J.o 5 ?_; first | (refine J.perm br3 ?_; refine J.t0 hΓ ?_) | (refine J.perm br4 ?_; refine J.t0 hΓ ?_) | (refine J.perm br5 ?_; refine J.t0 hΓ ?_) | (refine J.perm br6 ?_; refine J.t0 hΓ ?_) | (refine J.perm br7 ?_; refine J.t0 hΓ ?_))) | (first | (refine J.o 0 ?_; refine J.ev' hΓ ?_) | refine J.nil ?_ | (refine J.o 4 ?_; first | refine J.lT default hΓ ?_ | refine J.lR hΓ ?_) | (refine J.o 3 ?_; first | refine J.iJ hΓ ?_ | refine J.ev' hΓ ?_) | (refine J.o 1 ?_; first | refine J.ad ?_) | (refine J.o 5 ?_; first | refine J.t0 hΓ ?_ | refine J.tT _ default hΓ (fun _ _ => ?_)) | (refine J.o 6 ?_; refine J.bx (fun _ => ?_)) | (refine J.o 7 ?_; refine J.al hΓ (fun _ => ?_)) | (refine J.o 10 ?_; refine J.ev' hΓ ?_) | (refine J.o 11 ?_; refine J.ev' hΓ ?_)))
        | (first | refine JC.seq ?_ | refine JC.region ?_ | refine JC.block ?_ | refine JC.ret ?_ | refine JC.exit ?_ | refine JC.skip ?_ | refine thenK.nn ?_ | refine thenK.x ?_ | refine blockK.nn ?_ | refine blockK.hit rfl ?_ | (refine JC.cond rfl (fun hc => ?_) (fun hc => ?_) <;> ((try simp only [decide_eq_true_eq, decide_eq_false_iff_not, beq_iff_eq, beq_eq_false_iff_ne, bne_iff_ne, bne_eq_false_iff_eq, Bool.not_eq_true', Bool.not_eq_false', Bool.not_eq_true, Bool.not_eq_false] at hc) <;> first | (first | (exact absurd rfl hc) | (exfalso; omega) | (exact absurd (hc.symm.trans (by assumption : _ = false)) (by decide)) | (exact absurd (hc.symm.trans (by assumption : _ = true)) (by decide))) | skip)) | refine drawK.nn ?_ | refine loopK.x ?_)
        | (fail)
        | fail
      all_goals first | (exfalso; omega) | skip
      exact retC hΓ rfl rfl rfl (by first | exact Rd.hd | exact Rd.hd.tl | exact Rd.hd.tl.tl | exact Rd.hd.tl.tl.tl) rfl (fun w1 hw => ⟨rfl, hw.below⟩)
  ·
    have hle : y.length ≤ x.length := by omega
    have hst := AddI.start kx ky hle
    have hdr : (List.replicate (x.length + 1) 0).drop y.length = List.replicate (x.length + 1 - y.length) 0 := List.drop_replicate
    refine calls_of_JC (R := []) Try.func124 Try.ntmps124 rfl rfl (Holds.nil _) ?_
    unfold natV
    repeat' first
      | (refine J.isJ ?_; first | (first | (refine J.o 6 ?_; first | refine J.bx (fun b2 => ?_)) | (refine J.o 7 ?_; refine J.al hΓ (fun b4 => ?_))) | (first | (refine J.o 0 ?_; refine J.ev' hΓ ?_) | refine J.nil ?_ | (refine J.o 4 ?_; first | refine J.lT default hΓ ?_ | refine J.lR hΓ ?_) | (refine J.o 3 ?_; first | refine J.iJ hΓ ?_ | refine J.ev' hΓ ?_) | (refine J.o 1 ?_; first | refine J.ad ?_) | (refine J.o 5 ?_; first | refine J.t0 hΓ ?_ | refine J.tT _ default hΓ (fun _ _ => ?_)) | (refine J.o 6 ?_; refine J.bx (fun _ => ?_)) | (refine J.o 7 ?_; refine J.al hΓ (fun _ => ?_)) | (refine J.o 10 ?_; refine J.ev' hΓ ?_) | (refine J.o 11 ?_; refine J.ev' hΓ ?_)))
      | (first | refine JC.seq ?_ | refine JC.region ?_ | refine JC.block ?_ | refine JC.ret ?_ | refine JC.exit ?_ | refine JC.skip ?_ | refine thenK.nn ?_ | refine thenK.x ?_ | refine blockK.nn ?_ | refine blockK.hit rfl ?_ | (refine JC.cond rfl (fun hc => ?_) (fun hc => ?_) <;> ((try simp only [decide_eq_true_eq, decide_eq_false_iff_not, beq_iff_eq, beq_eq_false_iff_ne, bne_iff_ne, bne_eq_false_iff_eq, Bool.not_eq_true', Bool.not_eq_false', Bool.not_eq_true, Bool.not_eq_false] at hc) <;> first | (first | (exact absurd rfl hc) | (exfalso; omega) | (exact absurd (hc.symm.trans (by assumption : _ = false)) (by decide)) | (exact absurd (hc.symm.trans (by assumption : _ = true)) (by decide))) | skip)) | refine drawK.nn ?_ | refine loopK.x ?_)
      | (fail)
      | fail
    rename_i b3
    refine JC.drawO [(1,0),(1,2),(3,1),(3,3),(0,4),(0,5)] (by kernel_rfl) (by kernel_rfl) ?_
    repeat' first
      | (refine J.isJ ?_; first | (first | (refine J.o 4 ?_; first | refine J.lR hΓ ?_ (hr := Rd.hd.tl.tl) | refine J.lR hΓ ?_ (hr := Rd.hd.tl)) | (refine J.fc 77 ?_; refine J.call1 eWords rfl rfl (fun w hw => cX w) ?_; rintro _ hgx ⟨ax, cx, rfl, ox⟩) | (refine J.fc 77 ?_; refine J.call1 eWords rfl rfl (fun w hw => cY w) ?_; rintro _ hgy ⟨ay, cy, rfl, oy⟩) | (refine J.o 1 ?_; refine J.gadd (b := 1) ?_ (hw := wI64 (by omega))) | (refine J.o 9 ?_; first | refine J.make (enc := encW) (m := x.length + 1) (0 : Nat) hΓ rfl rfl rfl rfl rfl rfl (fun _ => rfl) (by omega) (by omega) (fun b7 h7 o7 => ?_) | refine J.cpy hΓ o7 oy (RdH.hd) (by rw [List.length_replicate]; omega) (fun h8 o8 => ?_) (hm := List.length_replicate))) | (first | (refine J.o 0 ?_; refine J.ev' hΓ ?_) | refine J.nil ?_ | (refine J.o 4 ?_; first | refine J.lT default hΓ ?_ | refine J.lR hΓ ?_) | (refine J.o 3 ?_; first | refine J.iJ hΓ ?_ | refine J.ev' hΓ ?_) | (refine J.o 1 ?_; first | refine J.ad ?_) | (refine J.o 5 ?_; first | refine J.t0 hΓ ?_ | refine J.tT _ default hΓ (fun _ _ => ?_)) | (refine J.o 6 ?_; refine J.bx (fun _ => ?_)) | (refine J.o 7 ?_; refine J.al hΓ (fun _ => ?_)) | (refine J.o 10 ?_; refine J.ev' hΓ ?_) | (refine J.o 11 ?_; refine J.ev' hΓ ?_)))
      | (first | refine JC.seq ?_ | refine JC.region ?_ | refine JC.block ?_ | refine JC.ret ?_ | refine JC.exit ?_ | refine JC.skip ?_ | refine thenK.nn ?_ | refine thenK.x ?_ | refine blockK.nn ?_ | refine blockK.hit rfl ?_ | (refine JC.cond rfl (fun hc => ?_) (fun hc => ?_) <;> ((try simp only [decide_eq_true_eq, decide_eq_false_iff_not, beq_iff_eq, beq_eq_false_iff_ne, bne_iff_ne, bne_eq_false_iff_eq, Bool.not_eq_true', Bool.not_eq_false', Bool.not_eq_true, Bool.not_eq_false] at hc) <;> first | (first | (exact absurd rfl hc) | (exfalso; omega) | (exact absurd (hc.symm.trans (by assumption : _ = false)) (by decide)) | (exact absurd (hc.symm.trans (by assumption : _ = true)) (by decide))) | skip)) | refine drawK.nn ?_ | refine loopK.x ?_)
      | (fail)
      | fail
    all_goals first | (exfalso; omega) | skip
    rw [hdr] at o8
    refine JC.loop (fun i => i == 8 || i == 9 || Nat.ble 30 i) (fun m g L' => ∃ i c o h', g 30 = .int .i64 ((i : Nat) : Int) ∧ i + m = x.length ∧ g 8 = .int .u64 ((c : Nat) : Int) ∧ AddI x y i o c ∧ OwT encW 1 124 (some ⟨b7, 0, none⟩) (x.length + 1) o h' ∧ L' = [h', hgy, hgx, [(b4, Obj.cells ⟨[.string ByteArray.empty]⟩ 58 (0, 0))], [(b2, Obj.cells ⟨[.string (S (bytesN b))]⟩ 58 (0, 0))], [(b3, Obj.cells ⟨[.string (S (bytesN a))]⟩ 58 (0, 0))]]) x.length ⟨0, 0, _, h8, rfl, by omega, rfl, hst, o8, rfl⟩ ?_
    rintro m1 g1 L' ⟨i, c, o, h4, e30, hi, e8, ai, o4, rfl⟩
    refine JC.pin 30 e30 ?_
    refine JC.pin 8 e8 ?_
    have lo := ai.len
    have c1 := ai.c1
    rcases Nat.lt_or_ge i x.length with hlt | hge
    · have b1 : o.getD i 0 < 4294967296 := okW_get ai.ok i
      have b2' : x.getD i 0 < 4294967296 := okW_get kx i
      have hstep := ai.step kx hlt
      repeat' first
        | (refine J.isJ ?_; first | (first | (refine J.o 4 ?_; first | refine J.lT (0 : Nat) hΓ ?_ (hs := ox.sl) (hr := RdH.hd.tl.tl) | refine J.lT (0 : Nat) hΓ ?_ (hs := o4.sl) (hr := RdH.hd)) | (refine J.o 1 ?_; first | refine J.gadd ?_ (hw := wU64 (by omega)) | refine J.gshr (j := 32) ?_) | (refine J.o 2 ?_; first | refine J.gcv hΓ ?_ (hk := wU64 (by omega)) | refine J.gcv hΓ ?_ (hk := wT32 _)) | (refine J.o 5 ?_; refine J.tT (enc := encW) _ default hΓ (fun h5 o5 => ?_))) | (first | (refine J.o 0 ?_; refine J.ev' hΓ ?_) | refine J.nil ?_ | (refine J.o 4 ?_; first | refine J.lT default hΓ ?_ | refine J.lR hΓ ?_) | (refine J.o 3 ?_; first | refine J.iJ hΓ ?_ | refine J.ev' hΓ ?_) | (refine J.o 1 ?_; first | refine J.ad ?_) | (refine J.o 5 ?_; first | refine J.t0 hΓ ?_ | refine J.tT _ default hΓ (fun _ _ => ?_)) | (refine J.o 6 ?_; refine J.bx (fun _ => ?_)) | (refine J.o 7 ?_; refine J.al hΓ (fun _ => ?_)) | (refine J.o 10 ?_; refine J.ev' hΓ ?_) | (refine J.o 11 ?_; refine J.ev' hΓ ?_)))
        | (first | refine JC.seq ?_ | refine JC.region ?_ | refine JC.block ?_ | refine JC.ret ?_ | refine JC.exit ?_ | refine JC.skip ?_ | refine thenK.nn ?_ | refine thenK.x ?_ | refine blockK.nn ?_ | refine blockK.hit rfl ?_ | (refine JC.cond rfl (fun hc => ?_) (fun hc => ?_) <;> ((try simp only [decide_eq_true_eq, decide_eq_false_iff_not, beq_iff_eq, beq_eq_false_iff_ne, bne_iff_ne, bne_eq_false_iff_eq, Bool.not_eq_true', Bool.not_eq_false', Bool.not_eq_true, Bool.not_eq_false] at hc) <;> first | (first | (exact absurd rfl hc) | (exfalso; omega) | (exact absurd (hc.symm.trans (by assumption : _ = false)) (by decide)) | (exact absurd (hc.symm.trans (by assumption : _ = true)) (by decide))) | skip)) | refine drawK.nn ?_ | refine loopK.x ?_)
        | ((refine JC.drawO [(0,0),(0,1),(0,2),(0,3),(1,4),(0,5),(0,6),(0,7),(0,8),(1,9),(0,10),(0,11),(0,12),(0,13)] (by decide +kernel) (by decide +kernel) ?_))
        | fail
      all_goals first | (exfalso; omega) | skip
      refine loopK.nn (m1 - 1) (by omega) (by repeat (first | refine Ag.upd rfl ?_ | exact Ag.hv)) ⟨i + 1, _, _, h5, ?_, by omega, rfl, hstep, o5, rfl⟩
      show Value.int .i64 _ = _; congr 1
    · obtain rfl : i = x.length := by omega
      obtain ⟨hok, hval⟩ := ai.fin hle
      have hval2 : valW (o.set x.length c) = a + b := by rw [hval]; omega
      have hls : (o.set x.length c).length = x.length + 1 := by rw [List.length_set, lo]
      have hik : x.length < o.length := by omega
      repeat' first
        | (refine J.isJ ?_; first | (first | (refine J.o 2 ?_; refine J.gcv hΓ ?_ (hk := wU32 (by omega))) | (refine J.o 5 ?_; first | refine J.tT (enc := encW) _ default hΓ (fun h5 o5 => ?_)) | (refine J.fc 76 ?_; refine J.call0 eFrom rfl rfl (fun w hw => from_len _ _ _ _ o5.sl hok hls (by omega) hval2 w (hw.rdH RdH.hd)) ?_) | (refine J.o 5 ?_; first | (refine J.perm br3 ?_; refine J.t0 hΓ ?_) | (refine J.perm br4 ?_; refine J.t0 hΓ ?_) | (refine J.perm br5 ?_; refine J.t0 hΓ ?_) | (refine J.perm br6 ?_; refine J.t0 hΓ ?_) | (refine J.perm br7 ?_; refine J.t0 hΓ ?_))) | (first | (refine J.o 0 ?_; refine J.ev' hΓ ?_) | refine J.nil ?_ | (refine J.o 4 ?_; first | refine J.lT default hΓ ?_ | refine J.lR hΓ ?_) | (refine J.o 3 ?_; first | refine J.iJ hΓ ?_ | refine J.ev' hΓ ?_) | (refine J.o 1 ?_; first | refine J.ad ?_) | (refine J.o 5 ?_; first | refine J.t0 hΓ ?_ | refine J.tT _ default hΓ (fun _ _ => ?_)) | (refine J.o 6 ?_; refine J.bx (fun _ => ?_)) | (refine J.o 7 ?_; refine J.al hΓ (fun _ => ?_)) | (refine J.o 10 ?_; refine J.ev' hΓ ?_) | (refine J.o 11 ?_; refine J.ev' hΓ ?_)))
        | (first | refine JC.seq ?_ | refine JC.region ?_ | refine JC.block ?_ | refine JC.ret ?_ | refine JC.exit ?_ | refine JC.skip ?_ | refine thenK.nn ?_ | refine thenK.x ?_ | refine blockK.nn ?_ | refine blockK.hit rfl ?_ | (refine JC.cond rfl (fun hc => ?_) (fun hc => ?_) <;> ((try simp only [decide_eq_true_eq, decide_eq_false_iff_not, beq_iff_eq, beq_eq_false_iff_ne, bne_iff_ne, bne_eq_false_iff_eq, Bool.not_eq_true', Bool.not_eq_false', Bool.not_eq_true, Bool.not_eq_false] at hc) <;> first | (first | (exact absurd rfl hc) | (exfalso; omega) | (exact absurd (hc.symm.trans (by assumption : _ = false)) (by decide)) | (exact absurd (hc.symm.trans (by assumption : _ = true)) (by decide))) | skip)) | refine drawK.nn ?_ | refine loopK.x ?_)
        | (fail)
        | fail
      all_goals first | (exfalso; omega) | skip
      exact retC hΓ rfl rfl rfl (by first | exact Rd.hd | exact Rd.hd.tl | exact Rd.hd.tl.tl | exact Rd.hd.tl.tl.tl) rfl (fun w1 hw => ⟨rfl, hw.below⟩)
end Go.Proofs.Ytbhgahjeocnfcaa
namespace Go.Proofs.Ytbhgahjeocnfcaa
open Go Go.Cx Go.RowKit
set_option linter.unusedVariables false
set_option linter.unusedSimpArgs false
set_option maxHeartbeats 4000000
attribute [local irreducible] J JC thenK blockK loopK drawK retK QW Qt pel List.set Calls
open Go.Maps
set_option maxRecDepth 8000
attribute [local irreducible] JE Br eK0 eK2 eK3 brK
def JQ (P : Program) (n : Nat) (w0 : World) (R : Heap) (c : Code) (Q : Exit → Act → World → Prop) (f : Fr) (L : List Heap) : Prop := ∀ a w, Rep n f a → H w0 R L w → c.wp P Q a w
def qK (P : Program) (n : Nat) (w0 : World) (R : Heap) (y : Code) (Q : Exit → Act → World → Prop) : Exit → Fr → List Heap → Prop
  | .normal, f, L => JQ P n w0 R y Q f L
  | _, _, _ => False
section
variable {P : Program} {n : Nat} {w0 : World} {R : Heap} {f : Fr} {L : List Heap} {x y : Code} {Q : Exit → Act → World → Prop} {Γ : List (Nat × TI)}
theorem qK.nn (h : JQ P n w0 R y Q f L) : qK P n w0 R y Q .normal f L := h
theorem JQ.seq (h : JC P n w0 R x (qK P n w0 R y Q) f L) : JQ P n w0 R (.seq x y) Q f L := fun a w ha hw => by
  unfold JC at h
  refine wp_seq (wp_mono (h a w ha hw) ?_)
  intro e a' w' q
  unfold QW at q
  cases e <;> first | (obtain ⟨f', L', ha', hw', hk⟩ := q; first | exact hk a' w' ha' hw' | exact hk.elim) | exact q.elim
theorem calls_JQ {fid : FuncId} {fn : Func} {c : Code} {n : Nat} {args : List Value} {w w0 : World} {R : Heap} {L : List Heap} {Post : Ending → World → Prop}
    (hf : P.funcs[fid]? = some fn) (hn : fn.ntmps = n) (hb : fn.body = some c) (hsz : Nat.ble args.length n = true) (hH : H w0 R L w) (h : JQ P n w0 R c (bodyPostD P fn Post) (fr0 args) L) : Calls P fid args.toArray w Post := by
  refine calls_of_wp_defers hf hb ?_
  rw [hn]
  exact h _ w (fr0_rep (Nat.le_of_ble_eq_true hsz)) hH
def RepD (D : List Deferred) (n : Nat) (f : Fr) (a : Act) : Prop := Rep n f { a with defers := [] } ∧ a.defers = D
theorem RepD.of {a : Act} (h : Rep n f a) : RepD [] n f a := ⟨⟨h.1, rfl, h.2.2⟩, h.2.1⟩
theorem RepD.eval {D : List Deferred} {a : Act} (h : RepD D n f a) : a.eval = Cx.ev n f := by
  rw [← h.1.eval]
  funext o; cases o <;> rfl
theorem RepD.put {D : List Deferred} {a : Act} (h : RepD D n f a) (d : Option Tmp) (v : Value) : RepD D n (updO f d v) (a.put d v) := by
  have h1 := h.1.put d v
  cases d with
  | none => exact ⟨h1, h.2⟩
  | some d => exact ⟨h1, h.2⟩
theorem RepD.wanted {D : List Deferred} {a : Act} (h : RepD D n f a) (l : List Oper) (o : Oper) : Region.wanted o (yielded l.toArray a.tmps) = wantB n f l o := h.1.wanted l o
theorem dl_step {D : List Deferred} {ops : List Oper} {l : List Oper} {o : Oper} {a : Act} {w w' : World} {v : Value} (ha : RepD D n f a) (hg : wantB n f ops o = true) (hr : (execOp (Cx.ev n f) o).run P w = .ok (.value v) w')
    (k : ∀ a', RepD D n (updO f o.dst v) a' → wpList P ops.toArray Q l a' w') : wpList P ops.toArray Q (o :: l) a w := by
  unfold wpList
  rw [if_pos (by rw [ha.wanted, hg])]
  refine .inl ?_
  unfold Oper.wp
  rw [ha.eval, hr]
  exact k _ (ha.put _ _)
theorem dl_call {D : List Deferred} {ops : List Oper} {l : List Oper} {o : Oper} {a : Act} {w : World} {fid : FuncId} {args : Array Value} {Φ : Value → List Heap → Prop} (ha : RepD D n f a) (hg : wantB n f ops o = true) (hr : (execOp (Cx.ev n f) o).run P w = .ok (.enter fid args) w)
    (hc : Calls P fid args w fun e w' => ∃ v L', e = .returned v ∧ H w0 R L' w' ∧ Φ v L') (k : ∀ v L' a' w', Φ v L' → H w0 R L' w' → RepD D n (updO f o.dst v) a' → wpList P ops.toArray Q l a' w') : wpList P ops.toArray Q (o :: l) a w := by
  unfold wpList
  rw [if_pos (by rw [ha.wanted, hg])]
  refine .inl ?_
  unfold Oper.wp
  rw [ha.eval, hr]
  refine hc.mono ?_
  rintro e w' ⟨v, L', rfl, hw', hP⟩
  exact k v L' _ w' hP hw' (ha.put _ _)
theorem dl_defer {D : List Deferred} {ops : List Oper} {l : List Oper} {o : Oper} {a : Act} {w : World} {d : Deferred} (ha : RepD D n f a) (hg : wantB n f ops o = true) (hr : (execOp (Cx.ev n f) o).run P w = .ok (.defer d) w)
    (k : ∀ a', RepD (d :: D) n (updO f o.dst undef) a' → wpList P ops.toArray Q l a' w) : wpList P ops.toArray Q (o :: l) a w := by
  unfold wpList
  rw [if_pos (by rw [ha.wanted, hg])]
  refine .inl ?_
  unfold Oper.wp
  rw [ha.eval, hr]
  refine k _ (RepD.put ⟨h_def ha, by rw [ha.2]⟩ _ _)
where h_def {D : List Deferred} {a : Act} {d : Deferred} (ha : RepD D n f a) : Rep n f { ({ a with defers := d :: a.defers } : Act) with defers := [] } := ha.1
theorem dl_st {D : List Deferred} {ops : List Oper} {l : List Oper} {a : Act} {w : World} {t : TypeId} {ti : TI} {x y : Operand} {b off : Nat} {cs cl cs' : List Value} {e : TypeId} {ty : TypeId} {pos : String} {aft : Array Edge} {g : Option (Nat × Bool)} (hΓ : Fits P Γ) (ha : RepD D n f a) (hg : wantB n f ops ⟨none, .store t x y, ty, pos, aft, g⟩ = true)
    (hp : Cx.ev n f x = .pointer (some ⟨b, off, none⟩)) (ht : Cx.look Γ t = some ti) (hv : vcells (Cx.ev n f y) = some cl) (hn : Nat.beq cl.length ti.size = true) (h1 : ones cl = true) (hcs : putE cs off cl = some cs') (hw : H w0 R ([(b, .cells ⟨cs⟩ e (0, 0))] :: L) w)
    (k : ∀ a' w', RepD D n f a' → H w0 R ([(b, .cells ⟨cs'⟩ e (0, 0))] :: L) w' → wpList P ops.toArray Q l a' w') : wpList P ops.toArray Q (⟨none, .store t x y, ty, pos, aft, g⟩ :: l) a w := by
  unfold putE at hcs
  cases hle : Nat.ble (off + cl.length) cs.length with
  | false => rw [hle] at hcs; cases hcs
  | true =>
    rw [hle] at hcs
    simp only [cond_true, forceL_eq, Option.some.injEq] at hcs
    obtain ⟨w', hr, hw'⟩ := store_ok hΓ ht hv hn h1 (Nat.le_of_ble_eq_true hle) hcs hw
    have hx : (execOp (Cx.ev n f) ⟨none, .store t x y, ty, pos, aft, g⟩).run P w = .ok .skip w' := by simp only [execOp, hp, Sem.run_bind]; rw [hr]; rfl
    unfold wpList
    rw [if_pos (by rw [ha.wanted, hg])]
    refine .inl ?_
    unfold Oper.wp
    rw [ha.eval, hx]
    exact k _ _ (ha.put none undef) hw'
theorem resCC {fn : Func} {t u ty uy b c : Nat} {cs ds : List Value} {e e2 : TypeId} {fr fr2 : Nat × Nat} {v x : Value} {D : List Deferred} {a : Act} {w : World} (hΓ : Fits P Γ) (hr : fn.results = #[.cell t ty, .cell u uy]) (ha : RepD D n f a) (hw : H w0 R L w) (ht : Nat.blt t n = true) (hu : Nat.blt u n = true) (hv : f t = .pointer (some ⟨b, 0, none⟩)) (hx : f u = .pointer (some ⟨c, 0, none⟩))
    (hb : Rd R L b (.cells ⟨cs⟩ e fr)) (hc : Rd R L c (.cells ⟨ds⟩ e2 fr2)) (hl : ldEv Γ ty cs 0 = some v) (hm : ldEv Γ uy ds 0 = some x) : (results fn a.tmps).run P w = .ok (.tuple #[v, x]) w := by
  have h1 := ldEv_ok (P := P) hΓ (hw.rd hb) hl
  have g1 := ldEv_ok (P := P) hΓ (hw.rd hc) hm
  unfold Instr.loadAt Instr.sureAddr at h1 g1
  simp only [Sem.run_bind, Sem.run_pure, Result.andThen_ok] at h1 g1
  have h2 := ha.1.getD ht
  rw [hv] at h2
  have h3 : a.tmps[t]?.getD undef = .pointer (some ⟨b, 0, none⟩) := by rw [← h2]; simp [Array.getD_eq_getD_getElem?]
  have h4 := ha.1.getD hu
  rw [hx] at h4
  have h5 : a.tmps[u]?.getD undef = .pointer (some ⟨c, 0, none⟩) := by rw [← h4]; simp [Array.getD_eq_getD_getElem?]
  simp only [results, hr]
  simp [h3, h5, asAddr, Sem.run_bind]
  rw [h1]
  simp only [Result.andThen_ok]
  rw [g1]
  rfl
theorem defer_run {x : Operand} {fv : Fn} {cp : List Value} {ty : TypeId} {pos : String} {aft : Array Edge} {g : Option (Nat × Bool)} (hx : Cx.ev n f x = .func fv ⟨[]⟩ ⟨cp⟩) (w : World) :
    (execOp (Cx.ev n f) ⟨none, .defer ⟨.value x, ⟨[]⟩, ⟨[]⟩⟩, ty, pos, aft, g⟩).run P w = .ok (.defer ⟨.fn fv ⟨cp⟩, ⟨[]⟩⟩) w := by
  have h1 : (⟨[]⟩ : Array Operand).map (Cx.ev n f) = ⟨[]⟩ := by simp
  simp only [execOp, resolve, h1, hx, Deferred.ofValue, Sem.run_bind, Sem.run_pure, Result.andThen_ok]
  rfl
theorem mf_run {fn : Fn} {cs : List Operand} {vs : List Value} {d : Nat} {ty : TypeId} {pos : String} {aft : Array Edge} {g : Option (Nat × Bool)} (hΓ : Fits P Γ) (hv : cs.map (Cx.ev n f) = vs) (w : World) :
    (execOp (Cx.ev n f) ⟨some d, .makeFunc fn ⟨[]⟩ ⟨cs⟩, ty, pos, aft, g⟩).run P w = .ok (.value (.func fn ⟨[]⟩ ⟨vs⟩)) w := pure_ok hΓ (by subst hv; simp [pureEv]) w
end
theorem eTry : Entr Try.prog 56 := Entr.of Try.func56 rfl rfl
theorem tryC_idle (p1 p2 p3 p4 : Addr) (w : World) : CallsD Try.prog 115 #[.pointer (some p1), .pointer (some p2), .pointer (some p3), .pointer (some p4)] .returning w fun e u' w' => e = .returned (.tuple #[]) ∧ u' = .returning ∧ w' = w := by
  refine callsD_of_wpS Try.func115 rfl fun c₀ cs hu => ?_
  apply wpS_seq
  apply wpS_region
  simp [wpOpsS, go_sem, recoverD, hu, Try.ntmps115, Exit.thenS]
  apply wpS_seq
  apply wpS_region
  simp [wpOpsS, go_sem, Exit.thenS]
  refine wpS_cond (t := false) (by simp [Act.eval, Array.replicate]) ?_
  simp only [Bool.false_eq_true, if_false]
  refine wpS_of_wp (wp_skip ?_)
  cases c₀
  simp_all [bodyPostS, results, Try.results115]
theorem try_any {n : Nat} {K : KS} {s : SS} (so : SOk n K s) {Q : SS → Nat → Prop} {fid : FuncId} {caps : List Value} (he : Entr Try.prog fid) {w0 w : World} {R : Heap} {L : List Heap} {b : Nat} (l : List Int) (a : Option Addr) (c : Nat) (h : Heap) (hs : SlT encI 1 a l h) (hl : l.length ≤ 1000) (hrl : RdH R L h) (hin : chkP s.ns.length l = true)
    (hf : ∀ (Lx : List Heap) (w : World), H w0 R (sF K b s ++ (Lx ++ L)) w → Calls Try.prog fid ⟨caps⟩ w fun e w' => ∃ v L', e = .returned v ∧ H w0 R L' w' ∧ ∃ s' y, v = .int .i64 ((y : Nat) : Int) ∧ L' = sF K b s' ++ (Lx ++ L) ∧ Q s' y)
    (hw : H w0 R (sF K b s ++ L) w) :
    Calls Try.prog 56 #[.pointer (some ⟨b, 0, none⟩), .func (.func fid) ⟨[]⟩ ⟨caps⟩, .slice a l.length c] w fun e w' => ∃ v L', e = .returned v ∧ H w0 R L' w' ∧ ∃ s' y, v = .tuple #[.int .i64 ((y : Nat) : Int), .int .i64 0] ∧ L' = sF K b s' ++ L ∧ Q s' y := by
  have two := so.wf.two
  have cChk : ∀ L1 w, H w0 R (sF K b s ++ L1) w → RdH R L1 h → Calls Try.prog 64 #[.pointer (some ⟨b, 0, none⟩), .slice a l.length c] w fun e w' => e = .returned (.int .i64 0) ∧ Below w.heap.size w w' := fun L1 w hw hr => by
    have := check_any K b s.an s.cn s.ns.length two ((b, stO K s.an s.ns.length s.cn) :: h) List.mem_cons_self l a c (hs.sub fun y hy => List.mem_cons_of_mem _ hy) hl w (holds2 (hw.rd Rd.hd) (hw.rdH hr.tl.tl.tl.tl))
    rw [hin, if_pos rfl] at this
    exact this
  unfold sF at hw
  simp only [List.cons_append, List.nil_append] at hw
  refine calls_JQ Try.func56 Try.ntmps56 rfl rfl hw ?_
  refine JQ.seq ?_
  repeat' first
    | (refine J.isJ ?_; first | (first | (refine J.o 6 ?_; refine J.bx (fun b3 => ?_)) | (refine J.o 7 ?_; refine J.al hΓ (fun b6 => ?_))) | (first | (refine J.o 0 ?_; refine J.ev' hΓ ?_) | refine J.nil ?_ | (refine J.o 4 ?_; first | refine J.lR hΓ ?_) | (refine J.o 3 ?_; first | refine J.ev' hΓ ?_) | (refine J.o 5 ?_; first | refine J.t0 hΓ ?_) | (refine J.o 6 ?_; refine J.bx (fun _ => ?_)) | (refine J.o 7 ?_; refine J.al hΓ (fun _ => ?_)) | (refine J.o 10 ?_; refine J.ev' hΓ ?_) | (refine J.o 11 ?_; refine J.ev' hΓ ?_)))
    | (first | refine JC.seq ?_ | refine JC.region ?_ | refine JC.skip ?_ | refine thenK.nn ?_ | refine JC.condF rfl ?_)
    | (fail)
    | fail
  rename_i b5
  refine qK.nn ?_
  refine JQ.seq ?_
  repeat' first
    | (refine J.isJ ?_; first | (first | (refine J.fc 64 ?_; refine J.call0 eCheck rfl rfl (fun w hw => cChk _ w (H.sel (l := [_, _, _, _, _, _, _]) (M := L) hw [3, 4, 5, 6, 0, 1, 2]) hrl.tl.tl.tl) ?_)) | (first | (refine J.o 0 ?_; refine J.ev' hΓ ?_) | refine J.nil ?_ | (refine J.o 4 ?_; first | refine J.lR hΓ ?_) | (refine J.o 3 ?_; first | refine J.ev' hΓ ?_) | (refine J.o 5 ?_; first | refine J.t0 hΓ ?_) | (refine J.o 6 ?_; refine J.bx (fun _ => ?_)) | (refine J.o 7 ?_; refine J.al hΓ (fun _ => ?_)) | (refine J.o 10 ?_; refine J.ev' hΓ ?_) | (refine J.o 11 ?_; refine J.ev' hΓ ?_)))
    | (first | refine JC.seq ?_ | refine JC.region ?_ | refine JC.skip ?_ | refine thenK.nn ?_ | refine JC.condF rfl ?_)
    | (fail)
    | fail
  all_goals first | (exfalso; omega) | skip
  refine qK.nn ?_
  unfold stO
  refine JQ.seq ?_
  repeat' first
    | (refine J.isJ ?_; first | (first | (refine J.o 7 ?_; refine J.al hΓ (fun b9 => ?_)) | (refine J.o 4 ?_; first | refine J.e3 hΓ ?_)) | (first | (refine J.o 0 ?_; refine J.ev' hΓ ?_) | refine J.nil ?_ | (refine J.o 4 ?_; first | refine J.lR hΓ ?_) | (refine J.o 3 ?_; first | refine J.ev' hΓ ?_) | (refine J.o 5 ?_; first | refine J.t0 hΓ ?_) | (refine J.o 6 ?_; refine J.bx (fun _ => ?_)) | (refine J.o 7 ?_; refine J.al hΓ (fun _ => ?_)) | (refine J.o 10 ?_; refine J.ev' hΓ ?_) | (refine J.o 11 ?_; refine J.ev' hΓ ?_)))
    | (first | refine JC.seq ?_ | refine JC.region ?_ | refine JC.skip ?_ | refine thenK.nn ?_ | refine JC.condF rfl ?_)
    | (fail)
    | fail
  refine qK.nn ?_
  intro a1 w1 ha1 hw1
  refine wp_seq (wp_region_lit ?_)
  refine dl_step (RepD.of ha1) rfl (v := .func (.func 115) ⟨[]⟩ ⟨[.pointer (some ⟨b3, 0, none⟩), .pointer (some ⟨b9, 0, none⟩), .pointer (some ⟨b5, 0, none⟩), (.pointer (some ⟨b6, 0, none⟩))]⟩) (mf_run hΓ rfl w1) fun a2 hd2 => ?_
  refine dl_defer hd2 rfl (defer_run rfl w1) fun a3 hd3 => ?_
  unfold wpList
  refine wp_seq (wp_region_lit ?_)
  refine dl_step hd3 rfl (v := .func (.func fid) ⟨[]⟩ ⟨caps⟩) (pure_ok hΓ rfl w1) fun a4 hd4 => ?_
  refine dl_call (args := ⟨caps⟩) (Φ := fun v L' => ∃ s' y, v = .int .i64 ((y : Nat) : Int) ∧ L' = sF K b s' ++ ([(b9, Obj.cells ⟨[.int .i64 (s.ns.length : Int)]⟩ 3 (0, 0))] :: [(b6, Obj.cells ⟨[.int .i64 0]⟩ 31 (0, 0))] :: [(b5, Obj.cells ⟨[.int .i64 0]⟩ 3 (0, 0))] :: [(b3, ptrS b)] :: L) ∧ Q s' y) hd4 rfl (callv_run (vs := []) (cp := caps) he rfl rfl w1) (hf ([(b9, _)] :: [(b6, _)] :: [(b5, _)] :: [(b3, _)] :: []) w1 (H.sel (l := [_, _, _, _, _, _, _, _]) (M := L) hw1 [4, 5, 6, 7, 0, 1, 2, 3])) ?_
  rintro _ _ a5 w2 ⟨s', y, rfl, rfl, hq⟩ hw2 hd5
  unfold sF ptrS at hw2
  simp only [List.cons_append, List.nil_append] at hw2
  refine dl_st hΓ hd5 rfl rfl rfl rfl rfl rfl rfl (H.sel (l := [_, _, _, _, _, _, _, _]) (M := L) hw2 [6, 0, 1, 2, 3, 4, 5, 7]) fun a6 w3 hd6 hw3 => ?_
  refine dl_st hΓ hd6 rfl rfl rfl rfl rfl rfl rfl (H.sel (l := [_, _, _, _, _, _, _, _]) (M := L) hw3 [6, 0, 1, 2, 3, 4, 5, 7]) fun a7 w4 hd7 hw4 => ?_
  unfold wpList
  refine wp_ret ?_
  show Leaves _ _ _ _ a7.defers _ _
  rw [hd7.2]
  refine leaves_cons (f := 115) (args := #[.pointer (some ⟨b3, 0, none⟩), .pointer (some ⟨b9, 0, none⟩), .pointer (some ⟨b5, 0, none⟩), .pointer (some ⟨b6, 0, none⟩)]) (by simp) (by simp [go_sem]) ?_
  refine (tryC_idle _ _ _ _ _).mono ?_
  rintro e u' w5 ⟨rfl, rfl, rfl⟩
  refine ⟨_, resCC hΓ rfl hd7 hw4 rfl rfl rfl rfl Rd.hd.tl Rd.hd rfl rfl, ?_⟩
  exact ⟨_, _, rfl, H.sel (l := [_, _, _, _, _, _, _, _]) (M := L) hw4 [2, 3, 4, 5], s', y, rfl, rfl, hq⟩
end Go.Proofs.Ytbhgahjeocnfcaa
namespace Go.Proofs.Ytbhgahjeocnfcaa
open Go Go.Cx Go.RowKit
set_option linter.unusedVariables false
set_option linter.unusedSimpArgs false
set_option maxHeartbeats 4000000
attribute [local irreducible] J JC thenK blockK loopK drawK retK QW Qt pel List.set Calls
open Go.Maps
set_option maxRecDepth 8000
attribute [local irreducible] JE Br eK0 eK2 eK3 brK
def Res (n : Nat) (K : KS) (s s' : SS) (m y : Nat) (g : (Nat → Bool) → Bool) : Prop := Adds n K s s' m y ∧ ∀ α, fn n s'.ns y α = g α
def intO (a : Nat) : Obj := .cells ⟨[.int .i64 (a : Int)]⟩ 3 (0, 0)
theorem Rd.app {R : Heap} {L : List Heap} {g : Nat} {o : Obj} (M : List Heap) (h : Rd R L g o) : Rd R (M ++ L) g o := by
  induction M with
  | nil => exact h
  | cons x M ih => exact ih.tl
theorem slArg (b : Nat) (l : List Int) (t : TypeId) : SlT encI 1 (some ⟨b, 0, none⟩) l [(b, .cells ⟨l.flatMap encI⟩ t (0, 0))] :=
  have e : (l.flatMap encI).length = l.length := by
    induction l with
    | nil => rfl
    | cons x l ih => rw [List.flatMap_cons, List.length_append, ih, List.length_cons]; show 1 + _ = _; omega
  OwT.sl (e := t) (cap := l.length) ⟨fun _ => rfl, .inr ⟨b, _, rfl, rfl, by rw [e, Nat.mul_one], Nat.le_refl _, by rw [Nat.mul_one, List.take_of_length_le (by rw [e]; exact Nat.le_refl _)]⟩⟩
theorem chk_ok {m : Nat} {l : List Nat} (h : ∀ x ∈ l, x < m) : chkP m (l.map (fun x : Nat => (x : Int))) = true := by
  unfold chkP
  rw [List.all_map, List.all_eq_true]
  intro x hx
  have := h x hx
  show decide (0 ≤ ((x : Nat) : Int) ∧ ((x : Nat) : Int) < (m : Int)) = true
  exact decide_eq_true ⟨by omega, by omega⟩
theorem eNotC : Entr Try.prog 136 := Entr.of Try.func136 rfl rfl
theorem eNot : Entr Try.prog 93 := Entr.of Try.func93 rfl rfl
theorem NotC_any {n : Nat} {K : KS} {s : SS} (so : SOk n K s) (a : Nat) (ha : a < s.ns.length) (hfull : s.ns.length + (2 ^ n - 1) ≤ 1048576) {w0 w : World} {R : Heap} {L : List Heap} {b0 c1 da : Nat} (r1 : Rd R L c1 (ptrS b0)) (ra : Rd R L da (intO a)) (hw : H w0 R (sF K b0 s ++ L) w) :
    Calls Try.prog 136 #[.pointer (some ⟨c1, 0, none⟩), .pointer (some ⟨da, 0, none⟩)] w fun e w' => ∃ v L', e = .returned v ∧ H w0 R L' w' ∧ ∃ s' y, v = .int .i64 ((y : Nat) : Int) ∧ L' = sF K b0 s' ++ L ∧ Res n K s s' (2 ^ n - 1) y (fun α => !(fn n s.ns a α)) := by
  have two := so.wf.two
  unfold ptrS at r1
  unfold sF at hw
  have ra2 := ra
  unfold intO at ra2
  simp only [List.cons_append, List.nil_append] at hw
  refine calls_in Try.func136 Try.ntmps136 rfl rfl (hw) ?_
  repeat' first
    | (refine J.isJ ?_; first | (first | (refine J.o 4 ?_; first | refine J.lR hΓ ?_ (hr := r1.tl.tl.tl.tl) | refine J.lR hΓ ?_ (hr := ra2.tl.tl.tl.tl)) | (refine J.fc 60 ?_; refine J.callx eCh rfl rfl (fun w hw => choose_any so ⟨a, 0, 1⟩ ⟨ha, (show 0 < s.ns.length by omega), (show 1 < s.ns.length by omega)⟩ hfull hw) ?_; rintro _ _ ⟨s1, y1, rfl, rfl, ad1, it1⟩)) | (first | (refine J.o 0 ?_; refine J.ev' hΓ ?_) | refine J.nil ?_ | (refine J.o 4 ?_; first | refine J.lR hΓ ?_) | (refine J.o 3 ?_; first | refine J.ev' hΓ ?_) | (refine J.o 10 ?_; refine J.ev' hΓ ?_) | (refine J.o 11 ?_; refine J.ev' hΓ ?_)))
    | (first | refine JC.seq ?_ | refine JC.region ?_ | refine JC.ret ?_ | refine thenK.nn ?_)
    | (fail)
    | fail
  refine ret1f rfl rfl rfl (fun w1 hw => ⟨_, _, rfl, hw, s1, y1, rfl, rfl, ad1, fun α => ?_⟩)
  have he := it1.eq α
  have ga := fn_ext so.wf ad1.ext ha α
  have z0 := fn_0 ad1.ok.wf α
  have z1 := fn_1 ad1.ok.wf α
  dsimp only at he
  rw [he]
  simp only [ga, z0, z1]
  cases fn n s.ns a α <;> rfl
theorem Not_any {n : Nat} {K : KS} {s : SS} (so : SOk n K s) (a : Nat) (ha : a < s.ns.length) (hfull : s.ns.length + (2 ^ n - 1) ≤ 1048576) {w0 w : World} {R : Heap} {L : List Heap} {b0 : Nat} (hw : H w0 R (sF K b0 s ++ L) w) :
    Calls Try.prog 93 #[.pointer (some ⟨b0, 0, none⟩), .int .i64 (a : Int)] w fun e w' => ∃ v L', e = .returned v ∧ H w0 R L' w' ∧ ∃ s' y, v = .tuple #[.int .i64 ((y : Nat) : Int), .int .i64 0] ∧ L' = sF K b0 s' ++ L ∧ Res n K s s' (2 ^ n - 1) y (fun α => !(fn n s.ns a α)) := by
  unfold sF at hw
  simp only [List.cons_append, List.nil_append] at hw
  refine calls_in Try.func93 Try.ntmps93 rfl rfl (hw) ?_
  refine JC.seq ?_
  refine JC.region ?_
  refine J.isJ ?_
  refine J.o 6 ?_
  refine J.bx (fun c1 => ?_)
  refine J.isJ ?_
  refine J.o 6 ?_
  refine J.bx (fun da => ?_)
  repeat' first
    | (refine J.isJ ?_; first | (first | (refine J.o 14 ?_; refine J.mfV [.pointer (some ⟨c1, 0, none⟩), .pointer (some ⟨da, 0, none⟩)] hΓ ?_) | (refine J.o 4 ?_; first | refine J.lR hΓ ?_ (hr := Rd.hd) | refine J.lR hΓ ?_ (hr := Rd.hd.tl)) | (refine J.o 9 ?_; refine J.bl hΓ (fun ba => ?_)) | (refine J.fc 56 ?_; refine J.callx eTry rfl rfl (fun w hw => try_any so (Q := fun s' y => Res n K s s' (2 ^ n - 1) y (fun α => !(fn n s.ns a α))) eNotC [(a : Int)] (some ⟨ba, 0, none⟩) 1 _ (slArg ba [(a : Int)] 3) (by show 1 ≤ 1000; omega) (L := [(ba, Obj.cells ⟨[.int .i64 (a : Int)]⟩ 3 (0, 0))] :: [(da, intO a)] :: [(c1, ptrS b0)] :: L) (RdH.hd) (chk_ok (l := [a]) (by simp only [List.mem_cons, List.not_mem_nil, or_false, forall_eq_or_imp, forall_eq]; exact ha)) (fun Lx w hw => NotC_any so a ha hfull (Rd.app Lx Rd.hd.tl.tl) (Rd.app Lx Rd.hd.tl) hw) (H.sel (l := [_, _, _, _, _, _, _]) (M := L) hw [3, 4, 5, 6, 0, 1, 2])) ?_; rintro _ _ ⟨s1, y1, rfl, rfl, hq⟩)) | (first | (refine J.o 0 ?_; refine J.ev' hΓ ?_) | refine J.nil ?_ | (refine J.o 4 ?_; first | refine J.lR hΓ ?_) | (refine J.o 3 ?_; first | refine J.ev' hΓ ?_) | (refine J.o 6 ?_; refine J.bx (fun _ => ?_)) | (refine J.o 9 ?_; refine J.bl hΓ (fun _ => ?_)) | (refine J.o 10 ?_; refine J.ev' hΓ ?_) | (refine J.o 11 ?_; refine J.ev' hΓ ?_)))
    | (first | refine JC.seq ?_ | refine JC.region ?_ | refine JC.ret ?_ | refine thenK.nn ?_)
    | (fail)
    | fail
  refine ret2f rfl rfl rfl rfl rfl (fun w1 hw => ⟨_, _, rfl, H.sel (l := [_, _, _, _, _, _, _]) (M := L) hw [0, 1, 2, 3], s1, y1, rfl, rfl, hq⟩)
theorem eAndC : Entr Try.prog 72 := Entr.of Try.func72 rfl rfl
theorem eAnd : Entr Try.prog 28 := Entr.of Try.func28 rfl rfl
theorem AndC_any {n : Nat} {K : KS} {s : SS} (so : SOk n K s) (a : Nat) (ha : a < s.ns.length) (b : Nat) (hb : b < s.ns.length) (hfull : s.ns.length + (2 ^ n - 1) ≤ 1048576) {w0 w : World} {R : Heap} {L : List Heap} {b0 c1 da db : Nat} (r1 : Rd R L c1 (ptrS b0)) (ra : Rd R L da (intO a)) (rb : Rd R L db (intO b)) (hw : H w0 R (sF K b0 s ++ L) w) :
    Calls Try.prog 72 #[.pointer (some ⟨c1, 0, none⟩), .pointer (some ⟨da, 0, none⟩), .pointer (some ⟨db, 0, none⟩)] w fun e w' => ∃ v L', e = .returned v ∧ H w0 R L' w' ∧ ∃ s' y, v = .int .i64 ((y : Nat) : Int) ∧ L' = sF K b0 s' ++ L ∧ Res n K s s' (2 ^ n - 1) y (fun α => (fn n s.ns a α && fn n s.ns b α)) := by
  have two := so.wf.two
  unfold ptrS at r1
  unfold sF at hw
  have ra2 := ra
  unfold intO at ra2
  have rb2 := rb
  unfold intO at rb2
  simp only [List.cons_append, List.nil_append] at hw
  refine calls_in Try.func72 Try.ntmps72 rfl rfl (hw) ?_
  repeat' first
    | (refine J.isJ ?_; first | (first | (refine J.o 4 ?_; first | refine J.lR hΓ ?_ (hr := r1.tl.tl.tl.tl) | refine J.lR hΓ ?_ (hr := ra2.tl.tl.tl.tl) | refine J.lR hΓ ?_ (hr := rb2.tl.tl.tl.tl)) | (refine J.fc 60 ?_; refine J.callx eCh rfl rfl (fun w hw => choose_any so ⟨a, b, 0⟩ ⟨ha, hb, (show 0 < s.ns.length by omega)⟩ hfull hw) ?_; rintro _ _ ⟨s1, y1, rfl, rfl, ad1, it1⟩)) | (first | (refine J.o 0 ?_; refine J.ev' hΓ ?_) | refine J.nil ?_ | (refine J.o 4 ?_; first | refine J.lR hΓ ?_) | (refine J.o 3 ?_; first | refine J.ev' hΓ ?_) | (refine J.o 10 ?_; refine J.ev' hΓ ?_) | (refine J.o 11 ?_; refine J.ev' hΓ ?_)))
    | (first | refine JC.seq ?_ | refine JC.region ?_ | refine JC.ret ?_ | refine thenK.nn ?_)
    | (fail)
    | fail
  refine ret1f rfl rfl rfl (fun w1 hw => ⟨_, _, rfl, hw, s1, y1, rfl, rfl, ad1, fun α => ?_⟩)
  have he := it1.eq α
  have ga := fn_ext so.wf ad1.ext ha α
  have gb := fn_ext so.wf ad1.ext hb α
  have z0 := fn_0 ad1.ok.wf α
  have z1 := fn_1 ad1.ok.wf α
  dsimp only at he
  rw [he]
  simp only [ga, gb, z0, z1]
  cases fn n s.ns a α <;> cases fn n s.ns b α <;> rfl
theorem And_any {n : Nat} {K : KS} {s : SS} (so : SOk n K s) (a : Nat) (ha : a < s.ns.length) (b : Nat) (hb : b < s.ns.length) (hfull : s.ns.length + (2 ^ n - 1) ≤ 1048576) {w0 w : World} {R : Heap} {L : List Heap} {b0 : Nat} (hw : H w0 R (sF K b0 s ++ L) w) :
    Calls Try.prog 28 #[.pointer (some ⟨b0, 0, none⟩), .int .i64 (a : Int), .int .i64 (b : Int)] w fun e w' => ∃ v L', e = .returned v ∧ H w0 R L' w' ∧ ∃ s' y, v = .tuple #[.int .i64 ((y : Nat) : Int), .int .i64 0] ∧ L' = sF K b0 s' ++ L ∧ Res n K s s' (2 ^ n - 1) y (fun α => (fn n s.ns a α && fn n s.ns b α)) := by
  unfold sF at hw
  simp only [List.cons_append, List.nil_append] at hw
  refine calls_in Try.func28 Try.ntmps28 rfl rfl (hw) ?_
  refine JC.seq ?_
  refine JC.region ?_
  refine J.isJ ?_
  refine J.o 6 ?_
  refine J.bx (fun c1 => ?_)
  refine J.isJ ?_
  refine J.o 6 ?_
  refine J.bx (fun da => ?_)
  refine J.isJ ?_
  refine J.o 6 ?_
  refine J.bx (fun db => ?_)
  repeat' first
    | (refine J.isJ ?_; first | (first | (refine J.o 14 ?_; refine J.mfV [.pointer (some ⟨c1, 0, none⟩), .pointer (some ⟨da, 0, none⟩), .pointer (some ⟨db, 0, none⟩)] hΓ ?_) | (refine J.o 4 ?_; first | refine J.lR hΓ ?_ (hr := Rd.hd) | refine J.lR hΓ ?_ (hr := Rd.hd.tl) | refine J.lR hΓ ?_ (hr := Rd.hd.tl.tl)) | (refine J.o 9 ?_; refine J.bl hΓ (fun ba => ?_)) | (refine J.fc 56 ?_; refine J.callx eTry rfl rfl (fun w hw => try_any so (Q := fun s' y => Res n K s s' (2 ^ n - 1) y (fun α => (fn n s.ns a α && fn n s.ns b α))) eAndC [(a : Int), (b : Int)] (some ⟨ba, 0, none⟩) 2 _ (slArg ba [(a : Int), (b : Int)] 3) (by show 2 ≤ 1000; omega) (L := [(ba, Obj.cells ⟨[.int .i64 (a : Int), .int .i64 (b : Int)]⟩ 3 (0, 0))] :: [(db, intO b)] :: [(da, intO a)] :: [(c1, ptrS b0)] :: L) (RdH.hd) (chk_ok (l := [a, b]) (by simp only [List.mem_cons, List.not_mem_nil, or_false, forall_eq_or_imp, forall_eq]; exact ⟨ha, hb⟩)) (fun Lx w hw => AndC_any so a ha b hb hfull (Rd.app Lx Rd.hd.tl.tl.tl) (Rd.app Lx Rd.hd.tl.tl) (Rd.app Lx Rd.hd.tl) hw) (H.sel (l := [_, _, _, _, _, _, _, _]) (M := L) hw [4, 5, 6, 7, 0, 1, 2, 3])) ?_; rintro _ _ ⟨s1, y1, rfl, rfl, hq⟩)) | (first | (refine J.o 0 ?_; refine J.ev' hΓ ?_) | refine J.nil ?_ | (refine J.o 4 ?_; first | refine J.lR hΓ ?_) | (refine J.o 3 ?_; first | refine J.ev' hΓ ?_) | (refine J.o 6 ?_; refine J.bx (fun _ => ?_)) | (refine J.o 9 ?_; refine J.bl hΓ (fun _ => ?_)) | (refine J.o 10 ?_; refine J.ev' hΓ ?_) | (refine J.o 11 ?_; refine J.ev' hΓ ?_)))
    | (first | refine JC.seq ?_ | refine JC.region ?_ | refine JC.ret ?_ | refine thenK.nn ?_)
    | (fail)
    | fail
  refine ret2f rfl rfl rfl rfl rfl (fun w1 hw => ⟨_, _, rfl, H.sel (l := [_, _, _, _, _, _, _, _]) (M := L) hw [0, 1, 2, 3], s1, y1, rfl, rfl, hq⟩)
theorem eOrC : Entr Try.prog 137 := Entr.of Try.func137 rfl rfl
theorem eOr : Entr Try.prog 94 := Entr.of Try.func94 rfl rfl
theorem OrC_any {n : Nat} {K : KS} {s : SS} (so : SOk n K s) (a : Nat) (ha : a < s.ns.length) (b : Nat) (hb : b < s.ns.length) (hfull : s.ns.length + (2 ^ n - 1) ≤ 1048576) {w0 w : World} {R : Heap} {L : List Heap} {b0 c1 da db : Nat} (r1 : Rd R L c1 (ptrS b0)) (ra : Rd R L da (intO a)) (rb : Rd R L db (intO b)) (hw : H w0 R (sF K b0 s ++ L) w) :
    Calls Try.prog 137 #[.pointer (some ⟨c1, 0, none⟩), .pointer (some ⟨da, 0, none⟩), .pointer (some ⟨db, 0, none⟩)] w fun e w' => ∃ v L', e = .returned v ∧ H w0 R L' w' ∧ ∃ s' y, v = .int .i64 ((y : Nat) : Int) ∧ L' = sF K b0 s' ++ L ∧ Res n K s s' (2 ^ n - 1) y (fun α => (Bool.or (fn n s.ns a α) (fn n s.ns b α))) := by
  have two := so.wf.two
  unfold ptrS at r1
  unfold sF at hw
  have ra2 := ra
  unfold intO at ra2
  have rb2 := rb
  unfold intO at rb2
  simp only [List.cons_append, List.nil_append] at hw
  refine calls_in Try.func137 Try.ntmps137 rfl rfl (hw) ?_
  repeat' first
    | (refine J.isJ ?_; first | (first | (refine J.o 4 ?_; first | refine J.lR hΓ ?_ (hr := r1.tl.tl.tl.tl) | refine J.lR hΓ ?_ (hr := ra2.tl.tl.tl.tl) | refine J.lR hΓ ?_ (hr := rb2.tl.tl.tl.tl)) | (refine J.fc 60 ?_; refine J.callx eCh rfl rfl (fun w hw => choose_any so ⟨a, 1, b⟩ ⟨ha, (show 1 < s.ns.length by omega), hb⟩ hfull hw) ?_; rintro _ _ ⟨s1, y1, rfl, rfl, ad1, it1⟩)) | (first | (refine J.o 0 ?_; refine J.ev' hΓ ?_) | refine J.nil ?_ | (refine J.o 4 ?_; first | refine J.lR hΓ ?_) | (refine J.o 3 ?_; first | refine J.ev' hΓ ?_) | (refine J.o 10 ?_; refine J.ev' hΓ ?_) | (refine J.o 11 ?_; refine J.ev' hΓ ?_)))
    | (first | refine JC.seq ?_ | refine JC.region ?_ | refine JC.ret ?_ | refine thenK.nn ?_)
    | (fail)
    | fail
  refine ret1f rfl rfl rfl (fun w1 hw => ⟨_, _, rfl, hw, s1, y1, rfl, rfl, ad1, fun α => ?_⟩)
  have he := it1.eq α
  have ga := fn_ext so.wf ad1.ext ha α
  have gb := fn_ext so.wf ad1.ext hb α
  have z0 := fn_0 ad1.ok.wf α
  have z1 := fn_1 ad1.ok.wf α
  dsimp only at he
  rw [he]
  simp only [ga, gb, z0, z1]
  cases fn n s.ns a α <;> cases fn n s.ns b α <;> rfl
theorem Or_any {n : Nat} {K : KS} {s : SS} (so : SOk n K s) (a : Nat) (ha : a < s.ns.length) (b : Nat) (hb : b < s.ns.length) (hfull : s.ns.length + (2 ^ n - 1) ≤ 1048576) {w0 w : World} {R : Heap} {L : List Heap} {b0 : Nat} (hw : H w0 R (sF K b0 s ++ L) w) :
    Calls Try.prog 94 #[.pointer (some ⟨b0, 0, none⟩), .int .i64 (a : Int), .int .i64 (b : Int)] w fun e w' => ∃ v L', e = .returned v ∧ H w0 R L' w' ∧ ∃ s' y, v = .tuple #[.int .i64 ((y : Nat) : Int), .int .i64 0] ∧ L' = sF K b0 s' ++ L ∧ Res n K s s' (2 ^ n - 1) y (fun α => (Bool.or (fn n s.ns a α) (fn n s.ns b α))) := by
  unfold sF at hw
  simp only [List.cons_append, List.nil_append] at hw
  refine calls_in Try.func94 Try.ntmps94 rfl rfl (hw) ?_
  refine JC.seq ?_
  refine JC.region ?_
  refine J.isJ ?_
  refine J.o 6 ?_
  refine J.bx (fun c1 => ?_)
  refine J.isJ ?_
  refine J.o 6 ?_
  refine J.bx (fun da => ?_)
  refine J.isJ ?_
  refine J.o 6 ?_
  refine J.bx (fun db => ?_)
  repeat' first
    | (refine J.isJ ?_; first | (first | (refine J.o 14 ?_; refine J.mfV [.pointer (some ⟨c1, 0, none⟩), .pointer (some ⟨da, 0, none⟩), .pointer (some ⟨db, 0, none⟩)] hΓ ?_) | (refine J.o 4 ?_; first | refine J.lR hΓ ?_ (hr := Rd.hd) | refine J.lR hΓ ?_ (hr := Rd.hd.tl) | refine J.lR hΓ ?_ (hr := Rd.hd.tl.tl)) | (refine J.o 9 ?_; refine J.bl hΓ (fun ba => ?_)) | (refine J.fc 56 ?_; refine J.callx eTry rfl rfl (fun w hw => try_any so (Q := fun s' y => Res n K s s' (2 ^ n - 1) y (fun α => (Bool.or (fn n s.ns a α) (fn n s.ns b α)))) eOrC [(a : Int), (b : Int)] (some ⟨ba, 0, none⟩) 2 _ (slArg ba [(a : Int), (b : Int)] 3) (by show 2 ≤ 1000; omega) (L := [(ba, Obj.cells ⟨[.int .i64 (a : Int), .int .i64 (b : Int)]⟩ 3 (0, 0))] :: [(db, intO b)] :: [(da, intO a)] :: [(c1, ptrS b0)] :: L) (RdH.hd) (chk_ok (l := [a, b]) (by simp only [List.mem_cons, List.not_mem_nil, or_false, forall_eq_or_imp, forall_eq]; exact ⟨ha, hb⟩)) (fun Lx w hw => OrC_any so a ha b hb hfull (Rd.app Lx Rd.hd.tl.tl.tl) (Rd.app Lx Rd.hd.tl.tl) (Rd.app Lx Rd.hd.tl) hw) (H.sel (l := [_, _, _, _, _, _, _, _]) (M := L) hw [4, 5, 6, 7, 0, 1, 2, 3])) ?_; rintro _ _ ⟨s1, y1, rfl, rfl, hq⟩)) | (first | (refine J.o 0 ?_; refine J.ev' hΓ ?_) | refine J.nil ?_ | (refine J.o 4 ?_; first | refine J.lR hΓ ?_) | (refine J.o 3 ?_; first | refine J.ev' hΓ ?_) | (refine J.o 6 ?_; refine J.bx (fun _ => ?_)) | (refine J.o 9 ?_; refine J.bl hΓ (fun _ => ?_)) | (refine J.o 10 ?_; refine J.ev' hΓ ?_) | (refine J.o 11 ?_; refine J.ev' hΓ ?_)))
    | (first | refine JC.seq ?_ | refine JC.region ?_ | refine JC.ret ?_ | refine thenK.nn ?_)
    | (fail)
    | fail
  refine ret2f rfl rfl rfl rfl rfl (fun w1 hw => ⟨_, _, rfl, H.sel (l := [_, _, _, _, _, _, _, _]) (M := L) hw [0, 1, 2, 3], s1, y1, rfl, rfl, hq⟩)
end Go.Proofs.Ytbhgahjeocnfcaa
namespace Go.Proofs.Ytbhgahjeocnfcaa
open Go Go.Cx Go.RowKit
set_option linter.unusedVariables false
set_option linter.unusedSimpArgs false
set_option maxHeartbeats 4000000
attribute [local irreducible] J JC thenK blockK loopK drawK retK QW Qt pel List.set Calls
open Go.Maps
set_option maxRecDepth 8000
attribute [local irreducible] JE Br eK0 eK2 eK3 brK pc
theorem keyedI : Keyed Try.prog 3 := int_keyed Try.underlying3
def ekI (x : Int) : Value := .int .i64 x
theorem ekI_inj (a b : Int) (h : ekI a = ekI b) : a = b := by unfold ekI at h; injection h
theorem keyI (x : Int) (h : -9223372036854775808 ≤ x ∧ x ≤ 9223372036854775807) : ∃ l, keyOf Try.prog 3 (ekI x) = some l := ⟨_, Go.Maps.keyOf_int_mk (q := .i64) (a := x) Try.underlying3 (by
  show (decide ((-9223372036854775808 : Int) ≤ x) && decide (x ≤ (9223372036854775807 : Int))) = true
  simp [h])⟩
def rk : List Int → Int → Nat → Option Nat
  | [], _, _ => none
  | x :: l, v, s => if x = v then some s else rk l v (s + 1)
theorem mget_zip : ∀ (l : List Int) (v : Int) (s : Nat), mget (l.zipIdx s) v = rk l v s
  | [], _, _ => rfl
  | x :: l, v, s => by
    have ih := mget_zip l v (s + 1)
    unfold mget at ih ⊢
    rw [List.zipIdx_cons, List.find?_cons]
    by_cases h : x = v
    · rw [rk, if_pos h]; simp [h]
    · rw [rk, if_neg h, ← ih]; simp [h]
theorem rk_some : ∀ {l : List Int} {v : Int} {s k : Nat}, rk l v s = some k → s ≤ k ∧ k < s + l.length ∧ l.getD (k - s) default = v
  | [], _, _, _, h => by cases h
  | x :: l, v, s, k, h => by
    rw [rk] at h
    split at h
    · rename_i hx
      injection h with h; subst h
      exact ⟨Nat.le_refl _, by simp, by rw [Nat.sub_self]; exact hx⟩
    · obtain ⟨h1, h2, h3⟩ := rk_some h
      refine ⟨by omega, by simp only [List.length_cons]; omega, ?_⟩
      rw [show k - s = (k - (s + 1)) + 1 by omega]; exact h3
theorem rk_none : ∀ {l : List Int} {v : Int} {s : Nat}, rk l v s = none ↔ v ∉ l
  | [], _, _ => by simp [rk]
  | x :: l, v, s => by
    rw [rk]
    split
    · rename_i hx; simp [hx]
    · rename_i hx
      rw [rk_none (l := l)]
      simp [show ¬ v = x from fun e => hx e.symm]
theorem rk_at {l : List Int} (hn : l.Nodup) {k : Nat} (hk : k < l.length) : rk l (l.getD k default) 0 = some k := by
  cases h : rk l (l.getD k default) 0 with
  | none =>
    rw [rk_none] at h
    exact absurd (mem_g l k hk) h
  | some j =>
    obtain ⟨_, h2, h3⟩ := rk_some h
    rw [Nat.sub_zero] at h3
    rw [Nat.zero_add] at h2
    congr 1
    rw [List.getD_eq_getElem?_getD, List.getD_eq_getElem?_getD, List.getElem?_eq_getElem h2, List.getElem?_eq_getElem hk] at h3
    have h3 : some l[j] = some l[k] := congrArg some h3
    injection h3 with h3
    have hp := List.pairwise_iff_getElem.1 hn
    rcases Nat.lt_trichotomy j k with g | g | g
    · exact absurd h3 (hp j k h2 hk g)
    · exact g
    · exact absurd h3.symm (hp k j hk h2 g)
structure POk (K : KS) (order : List Int) (hO hP : Heap) : Prop where
  ow : OwT encI 1 3 K.ao K.co order hO
  len : K.no = order.length
  ok : okOrd order
  pm : MapT Try.prog 3 ekI evI (order.zipIdx 0) K.bp hP
def ends (n : Nat) : List N3 := [⟨n, 0, 0⟩, ⟨n, 0, 0⟩]
theorem ends_wf (n : Nat) : WF n (ends n) := by
  have hl : (ends n).length = 2 := rfl
  refine ⟨Nat.le_refl _, rfl, rfl, ?_, ?_, ?_, ?_, ?_, ?_, ?_, ?_⟩ <;> intro i h2 hi <;> omega
theorem eNew : Entr Try.prog 25 := Entr.of Try.func25 rfl rfl
theorem eReb : Entr Try.prog 69 := Entr.of Try.func69 rfl rfl
theorem reb_any (x0 x1 : Value) (an : Option Addr) (cn b : Nat) (h0 : frc x0 = some x0) (h1 : frc x1 = some x1) {w0 w : World} {R : Heap} {L : List Heap} (hw : H w0 R ([(b, Obj.cells ⟨[x0, x1, .slice an 2 cn, .map none, .map none]⟩ 104 (0, 0))] :: L) w) :
    Calls Try.prog 69 #[.pointer (some ⟨b, 0, none⟩)] w fun e w' => ∃ v L', e = .returned v ∧ H w0 R L' w' ∧ ∃ bu bi, v = .tuple #[] ∧ L' = [(b, Obj.cells ⟨[x0, x1, .slice an 2 cn, .map (some bu), .map (some bi)]⟩ 104 (0, 0))] :: [(bu, .map ⟨[]⟩ 0)] :: [(bi, .map ⟨[]⟩ 0)] :: L := by
  refine calls_in Try.func69 Try.ntmps69 rfl rfl (hw) ?_
  repeat' first
    | (refine J.isJ ?_; first | (first | (refine J.o 9 ?_; refine J.mkm (fun bi => ?_))) | (first | (refine J.o 0 ?_; refine J.ev' hΓ ?_) | refine J.nil ?_ | (refine J.o 4 ?_; first | refine J.lR hΓ ?_) | (refine J.o 3 ?_; first | refine J.ev' hΓ ?_) | (refine J.o 5 ?_; first | refine J.t2 hΓ ?_) | (refine J.o 10 ?_; refine J.ev' hΓ ?_) | (refine J.o 11 ?_; refine J.ev' hΓ ?_)))
    | (first | refine JC.seq ?_ | refine JC.region ?_ | refine JC.block ?_ | refine JC.exit ?_ | refine thenK.nn ?_ | refine thenK.x ?_ | refine blockK.hit rfl ?_ | refine JC.condF rfl ?_ | refine loopK.x ?_)
    | (fail)
    | fail
  rename_i bu
  refine JC.loop (fun i => i == 2 || Nat.ble 11 i) (fun m g L' => g 2 = .int .i64 2 ∧ L' = [(bi, .map ⟨[]⟩ 0)] :: [(bu, .map ⟨[]⟩ 0)] :: [(b, Obj.cells ⟨[x0, x1, .slice an 2 cn, .map (some bu), .map (some bi)]⟩ 104 (0, 0))] :: L) 1 ⟨rfl, rfl⟩ ?_
  rintro m g L' ⟨e2, rfl⟩
  refine JC.pin 2 e2 ?_
  repeat' first
    | (refine J.isJ ?_; first | (fail) | (first | (refine J.o 0 ?_; refine J.ev' hΓ ?_) | refine J.nil ?_ | (refine J.o 4 ?_; first | refine J.lR hΓ ?_) | (refine J.o 3 ?_; first | refine J.ev' hΓ ?_) | (refine J.o 5 ?_; first | refine J.t2 hΓ ?_) | (refine J.o 10 ?_; refine J.ev' hΓ ?_) | (refine J.o 11 ?_; refine J.ev' hΓ ?_)))
    | (first | refine JC.seq ?_ | refine JC.region ?_ | refine JC.block ?_ | refine JC.exit ?_ | refine thenK.nn ?_ | refine thenK.x ?_ | refine blockK.hit rfl ?_ | refine JC.condF rfl ?_ | refine loopK.x ?_)
    | (fail)
    | fail
  all_goals first | (exfalso; omega) | skip
  all_goals first | refine ret0 rfl (fun w1 hw => ⟨_, _, rfl, H.sel (l := [_, _, _]) (M := L) hw [2, 1, 0], bu, bi, rfl, rfl⟩) | refine ret0n rfl (fun w1 hw => ⟨_, _, rfl, H.sel (l := [_, _, _]) (M := L) hw [2, 1, 0], bu, bi, rfl, rfl⟩)
theorem new_bad (l : List Int) (a : Option Addr) (c : Nat) (h : Heap) (hs : SlT encI 1 a l h) (hl : l.length ≤ 1000000) (ho : ¬ okOrd l) (w : World) (hw : Holds h w) :
    Calls Try.prog 25 #[.slice a l.length c] w fun e w' => e = .returned (.tuple #[.pointer none, .int .i64 1]) ∧ Below w.heap.size w w' := by
  have hle := (cnt_fold l (0, 0)).1
  have hne : cntS (l.foldl withS (0, 0)) ≠ l.length := fun e => ho ((ord_iff l).1 e)
  refine calls_of_JC (R := h) Try.func25 Try.ntmps25 rfl rfl (hw) ?_
  repeat' first
    | (refine J.isJ ?_; first | (first | (refine J.fc 54 ?_; refine J.call0 eOf rfl rfl (fun w hw => of_any a c l h hs hl w (hw.rdH (RdH.old fun _ hh => hh))) ?_) | (refine J.fc 68 ?_; refine J.call0 eLen rfl rfl (fun w hw => len_any _ (okS_of _ _ okS_zero) w) ?_)) | (first | (refine J.o 0 ?_; refine J.ev' hΓ ?_) | refine J.nil ?_ | (refine J.o 3 ?_; first | refine J.ev' hΓ ?_) | (refine J.o 10 ?_; refine J.ev' hΓ ?_) | (refine J.o 11 ?_; refine J.ev' hΓ ?_)))
    | (first | refine JC.seq ?_ | refine JC.region ?_ | refine JC.ret ?_ | refine thenK.nn ?_ | refine thenK.r ?_ | (refine JC.cond rfl (fun hc => ?_) (fun hc => ?_) <;> ((try simp only [decide_eq_true_eq, decide_eq_false_iff_not, beq_iff_eq, beq_eq_false_iff_ne, bne_iff_ne, bne_eq_false_iff_eq, Bool.not_eq_true', Bool.not_eq_false', Bool.not_eq_true, Bool.not_eq_false] at hc) <;> first | (first | (exact absurd rfl hc) | (exfalso; omega) | (exact absurd (hc.symm.trans (by assumption : _ = false)) (by decide)) | (exact absurd (hc.symm.trans (by assumption : _ = true)) (by decide))) | skip)))
    | (fail)
    | fail
  all_goals first | (exfalso; omega) | skip
  all_goals (refine ret2f rfl rfl rfl rfl rfl (fun w1 hw => ⟨rfl, hw.below⟩))
theorem new_any (l : List Int) (a : Option Addr) (c : Nat) (h : Heap) (hs : SlT encI 1 a l h) (ho : okOrd l) {w0 w : World} {R : Heap} {L : List Heap} (hr : RdH R L h) (hw : H w0 R L w) :
    Calls Try.prog 25 #[.slice a l.length c] w fun e w' => ∃ v L', e = .returned v ∧ H w0 R L' w' ∧ ∃ b K s hO hP, v = .tuple #[.pointer (some ⟨b, 0, none⟩), .int .i64 0] ∧ L' = sF K b s ++ (hO :: hP :: L) ∧ SOk l.length K s ∧ s.ns = ends l.length ∧ POk K l hO hP := by
  have hl := ord_le l ho
  have heq : cntS (l.foldl withS (0, 0)) = l.length := (ord_iff l).2 ho
  refine calls_in Try.func25 Try.ntmps25 rfl rfl (hw) ?_
  repeat' first
    | (refine J.isJ ?_; first | (first | (refine J.fc 54 ?_; refine J.call0 eOf rfl rfl (fun w hw => of_any a c l h hs (by omega) w (hw.rdH hr)) ?_) | (refine J.fc 68 ?_; refine J.call0 eLen rfl rfl (fun w hw => len_any _ (okS_of _ _ okS_zero) w) ?_) | (refine J.o 7 ?_; refine J.al hΓ (fun b4 => ?_))) | (first | (refine J.o 0 ?_; refine J.ev' hΓ ?_) | refine J.nil ?_ | (refine J.o 4 ?_; first | refine J.lT default hΓ ?_ | refine J.lR hΓ ?_) | (refine J.o 3 ?_; first | refine J.iJ hΓ ?_ | refine J.ev' hΓ ?_) | (refine J.o 1 ?_; first | refine J.ad ?_) | (refine J.o 5 ?_; first | refine J.t0 hΓ ?_) | (refine J.o 6 ?_; refine J.bx (fun _ => ?_)) | (refine J.o 7 ?_; refine J.al hΓ (fun _ => ?_)) | (refine J.o 8 ?_; refine J.bd hΓ ?_) | (refine J.o 9 ?_; refine J.bl hΓ (fun _ => ?_)) | (refine J.o 10 ?_; refine J.ev' hΓ ?_) | (refine J.o 11 ?_; refine J.ev' hΓ ?_)))
    | (first | refine JC.seq ?_ | refine JC.region ?_ | refine JC.block ?_ | refine JC.ret ?_ | refine JC.exit ?_ | refine JC.skip ?_ | refine thenK.nn ?_ | refine thenK.x ?_ | refine blockK.nn ?_ | refine blockK.hit rfl ?_ | (refine JC.cond rfl (fun hc => ?_) (fun hc => ?_) <;> ((try simp only [decide_eq_true_eq, decide_eq_false_iff_not, beq_iff_eq, beq_eq_false_iff_ne, bne_iff_ne, bne_eq_false_iff_eq, Bool.not_eq_true', Bool.not_eq_false', Bool.not_eq_true, Bool.not_eq_false] at hc) <;> first | (first | (exact absurd rfl hc) | (exfalso; omega) | (exact absurd (hc.symm.trans (by assumption : _ = false)) (by decide)) | (exact absurd (hc.symm.trans (by assumption : _ = true)) (by decide))) | skip)) | refine loopK.x ?_)
    | (fail)
    | fail
  all_goals first | (exfalso; omega) | skip
  refine JC.mid (fun i => i == 5 || Nat.ble 17 i) (fun g L' => ∃ b bp bn a1 c1 hO, g 5 = .pointer (some ⟨b, 0, none⟩) ∧ OwT encI 1 3 a1 c1 l hO ∧ L'.Perm ([(b, Obj.cells ⟨[.slice a1 l.length c1, .map (some bp), .slice (some ⟨bn, 0, none⟩) 2 2, .map none, .map none]⟩ 104 (0, 0))] :: [(bn, Obj.cells ⟨[.int .i64 (l.length : Int), .int .i64 0, .int .i64 0, .int .i64 (l.length : Int), .int .i64 0, .int .i64 0]⟩ 107 (0, 0))] :: [(bp, .map ⟨[]⟩ 0)] :: hO :: [(b4, Obj.cells ⟨[.int .i64 (l.length : Int), .int .i64 0, .int .i64 0]⟩ 107 (0, 0))] :: L)) ?_ ?_
  ·
    refine JC.drawE [[(b4, Obj.cells ⟨[.int .i64 (l.length : Int), .int .i64 0, .int .i64 0]⟩ 107 (0, 0))]] [1, 2, 5, 7] [1, 2, 5, 7] [(0,0),(4,3),(4,4)] 6 _ (by kernel_rfl) (by kernel_rfl) rfl ?_
    repeat' first
      | (refine J.isJ ?_; first | (fail) | (first | (refine J.o 0 ?_; refine J.ev' hΓ ?_) | refine J.nil ?_ | (refine J.o 4 ?_; first | refine J.lT default hΓ ?_ | refine J.lR hΓ ?_) | (refine J.o 3 ?_; first | refine J.iJ hΓ ?_ | refine J.ev' hΓ ?_) | (refine J.o 1 ?_; first | refine J.ad ?_) | (refine J.o 5 ?_; first | refine J.t0 hΓ ?_) | (refine J.o 6 ?_; refine J.bx (fun _ => ?_)) | (refine J.o 7 ?_; refine J.al hΓ (fun _ => ?_)) | (refine J.o 8 ?_; refine J.bd hΓ ?_) | (refine J.o 9 ?_; refine J.bl hΓ (fun _ => ?_)) | (refine J.o 10 ?_; refine J.ev' hΓ ?_) | (refine J.o 11 ?_; refine J.ev' hΓ ?_)))
      | (first | (refine JE.is ?_; first | refine JE.s0 ?_ | refine JE.s3 ?_ | refine JE.nil ?_ | refine JE.s4 rfl (fun w hw => hw.subl (by repeat (first | exact List.nil_sublist _ | exact List.Sublist.refl _ | refine List.Sublist.cons_cons _ ?_ | refine List.Sublist.cons _ ?_))) ?_) | refine eK0.nn ?_ | (refine eK3.is ?_; refine eK3.nn (fun w hw => hw.subl (by repeat (first | exact List.nil_sublist _ | exact List.Sublist.refl _ | refine List.Sublist.cons_cons _ ?_ | refine List.Sublist.cons _ ?_))) ?_) | refine brK.nn ?_)
      | (first | refine JC.seq ?_ | refine JC.region ?_ | refine JC.block ?_ | refine JC.ret ?_ | refine JC.exit ?_ | refine JC.skip ?_ | refine thenK.nn ?_ | refine thenK.x ?_ | refine blockK.nn ?_ | refine blockK.hit rfl ?_ | (refine JC.cond rfl (fun hc => ?_) (fun hc => ?_) <;> ((try simp only [decide_eq_true_eq, decide_eq_false_iff_not, beq_iff_eq, beq_eq_false_iff_ne, bne_iff_ne, bne_eq_false_iff_eq, Bool.not_eq_true', Bool.not_eq_false', Bool.not_eq_true, Bool.not_eq_false] at hc) <;> first | (first | (exact absurd rfl hc) | (exfalso; omega) | (exact absurd (hc.symm.trans (by assumption : _ = false)) (by decide)) | (exact absurd (hc.symm.trans (by assumption : _ = true)) (by decide))) | skip)) | refine loopK.x ?_)
      | (fail)
      | fail
    refine Br.three (c1 := 1) (c2 := 1) (c3 := 1) (m1 := 5) (m2 := 5) (m3 := 5) 1 2 5 [] [] [] (by decide +kernel) rfl rfl rfl (by decide +kernel) rfl (by decide +kernel) rfl (by decide +kernel) rfl ?_ ?_ ?_
    ·
      repeat' first
        | (refine J.isJ ?_; first | (first | (refine J.fc 63 ?_; refine J.call1 eClone rfl rfl (fun w hw => clone_any a c l h hs (by omega) w (hw.rdH (by first | exact hr.tl | exact hr.tl.tl | exact hr.tl.tl.tl))) ?_; rintro _ hg ⟨a1, c1, rfl, o1⟩) | (refine J.o 9 ?_; first | refine J.mkm (fun bp => ?_) | refine J.bl hΓ (fun bn => ?_)) | (refine J.o 6 ?_; refine J.bx (fun b => ?_))) | (first | (refine J.o 0 ?_; refine J.ev' hΓ ?_) | refine J.nil ?_ | (refine J.o 4 ?_; first | refine J.lT default hΓ ?_ | refine J.lR hΓ ?_) | (refine J.o 3 ?_; first | refine J.iJ hΓ ?_ | refine J.ev' hΓ ?_) | (refine J.o 1 ?_; first | refine J.ad ?_) | (refine J.o 5 ?_; first | refine J.t0 hΓ ?_) | (refine J.o 6 ?_; refine J.bx (fun _ => ?_)) | (refine J.o 7 ?_; refine J.al hΓ (fun _ => ?_)) | (refine J.o 8 ?_; refine J.bd hΓ ?_) | (refine J.o 9 ?_; refine J.bl hΓ (fun _ => ?_)) | (refine J.o 10 ?_; refine J.ev' hΓ ?_) | (refine J.o 11 ?_; refine J.ev' hΓ ?_)))
        | (first | (refine JE.is ?_; first | refine JE.s0 ?_ | refine JE.s3 ?_ | refine JE.nil ?_ | refine JE.s4 rfl (fun w hw => hw.subl (by repeat (first | exact List.nil_sublist _ | exact List.Sublist.refl _ | refine List.Sublist.cons_cons _ ?_ | refine List.Sublist.cons _ ?_))) ?_) | refine eK0.nn ?_ | (refine eK3.is ?_; refine eK3.nn (fun w hw => hw.subl (by repeat (first | exact List.nil_sublist _ | exact List.Sublist.refl _ | refine List.Sublist.cons_cons _ ?_ | refine List.Sublist.cons _ ?_))) ?_) | refine brK.nn ?_)
        | (first | refine JC.seq ?_ | refine JC.region ?_ | refine JC.block ?_ | refine JC.ret ?_ | refine JC.exit ?_ | refine JC.skip ?_ | refine thenK.nn ?_ | refine thenK.x ?_ | refine blockK.nn ?_ | refine blockK.hit rfl ?_ | (refine JC.cond rfl (fun hc => ?_) (fun hc => ?_) <;> ((try simp only [decide_eq_true_eq, decide_eq_false_iff_not, beq_iff_eq, beq_eq_false_iff_ne, bne_iff_ne, bne_eq_false_iff_eq, Bool.not_eq_true', Bool.not_eq_false', Bool.not_eq_true, Bool.not_eq_false] at hc) <;> first | (first | (exact absurd rfl hc) | (exfalso; omega) | (exact absurd (hc.symm.trans (by assumption : _ = false)) (by decide)) | (exact absurd (hc.symm.trans (by assumption : _ = true)) (by decide))) | skip)) | refine loopK.x ?_)
        | (fail)
        | fail
      refine Br.two (c1 := 1) (c2 := 1) (m1 := 0) (m2 := 0) 2 5 [(3, 5), (0, 6), (3, 7), (0, 8)] [(3, 2), (0, 6), (3, 7), (0, 8)] (by decide +kernel) rfl rfl (by decide +kernel) rfl (by decide +kernel) rfl ?_ ?_
      ·
        repeat' first
          | (refine J.isJ ?_; first | (first | (refine J.fc 63 ?_; refine J.call1 eClone rfl rfl (fun w hw => clone_any a c l h hs (by omega) w (hw.rdH (by first | exact hr.tl | exact hr.tl.tl | exact hr.tl.tl.tl))) ?_; rintro _ hg ⟨a1, c1, rfl, o1⟩) | (refine J.o 9 ?_; first | refine J.mkm (fun bp => ?_) | refine J.bl hΓ (fun bn => ?_)) | (refine J.o 6 ?_; refine J.bx (fun b => ?_))) | (first | (refine J.o 0 ?_; refine J.ev' hΓ ?_) | refine J.nil ?_ | (refine J.o 4 ?_; first | refine J.lT default hΓ ?_ | refine J.lR hΓ ?_) | (refine J.o 3 ?_; first | refine J.iJ hΓ ?_ | refine J.ev' hΓ ?_) | (refine J.o 1 ?_; first | refine J.ad ?_) | (refine J.o 5 ?_; first | refine J.t0 hΓ ?_) | (refine J.o 6 ?_; refine J.bx (fun _ => ?_)) | (refine J.o 7 ?_; refine J.al hΓ (fun _ => ?_)) | (refine J.o 8 ?_; refine J.bd hΓ ?_) | (refine J.o 9 ?_; refine J.bl hΓ (fun _ => ?_)) | (refine J.o 10 ?_; refine J.ev' hΓ ?_) | (refine J.o 11 ?_; refine J.ev' hΓ ?_)))
          | (first | (refine JE.is ?_; first | refine JE.s0 ?_ | refine JE.s3 ?_ | refine JE.nil ?_ | refine JE.s4 rfl (fun w hw => hw.subl (by repeat (first | exact List.nil_sublist _ | exact List.Sublist.refl _ | refine List.Sublist.cons_cons _ ?_ | refine List.Sublist.cons _ ?_))) ?_) | refine eK0.nn ?_ | (refine eK3.is ?_; refine eK3.nn (fun w hw => hw.subl (by repeat (first | exact List.nil_sublist _ | exact List.Sublist.refl _ | refine List.Sublist.cons_cons _ ?_ | refine List.Sublist.cons _ ?_))) ?_) | refine brK.nn ?_)
          | (first | refine JC.seq ?_ | refine JC.region ?_ | refine JC.block ?_ | refine JC.ret ?_ | refine JC.exit ?_ | refine JC.skip ?_ | refine thenK.nn ?_ | refine thenK.x ?_ | refine blockK.nn ?_ | refine blockK.hit rfl ?_ | (refine JC.cond rfl (fun hc => ?_) (fun hc => ?_) <;> ((try simp only [decide_eq_true_eq, decide_eq_false_iff_not, beq_iff_eq, beq_eq_false_iff_ne, bne_iff_ne, bne_eq_false_iff_eq, Bool.not_eq_true', Bool.not_eq_false', Bool.not_eq_true, Bool.not_eq_false] at hc) <;> first | (first | (exact absurd rfl hc) | (exfalso; omega) | (exact absurd (hc.symm.trans (by assumption : _ = false)) (by decide)) | (exact absurd (hc.symm.trans (by assumption : _ = true)) (by decide))) | skip)) | refine loopK.x ?_)
          | (fail)
          | fail
        refine Br.done (by kernel_rfl) ?_
        refine midK.nn (by repeat (first | refine Ag.upd rfl ?_ | exact Ag.rfl')) ⟨_, _, _, _, _, _, rfl, o1, (List.Perm.cons _ ?_)⟩
        first | exact .refl _ | exact br1 | exact br1.cons _ | exact br2 | exact br2.symm | exact br2.trans (br1.cons _)
      ·
        repeat' first
          | (refine J.isJ ?_; first | (first | (refine J.fc 63 ?_; refine J.call1 eClone rfl rfl (fun w hw => clone_any a c l h hs (by omega) w (hw.rdH (by first | exact hr.tl | exact hr.tl.tl | exact hr.tl.tl.tl))) ?_; rintro _ hg ⟨a1, c1, rfl, o1⟩) | (refine J.o 9 ?_; first | refine J.mkm (fun bp => ?_) | refine J.bl hΓ (fun bn => ?_)) | (refine J.o 6 ?_; refine J.bx (fun b => ?_))) | (first | (refine J.o 0 ?_; refine J.ev' hΓ ?_) | refine J.nil ?_ | (refine J.o 4 ?_; first | refine J.lT default hΓ ?_ | refine J.lR hΓ ?_) | (refine J.o 3 ?_; first | refine J.iJ hΓ ?_ | refine J.ev' hΓ ?_) | (refine J.o 1 ?_; first | refine J.ad ?_) | (refine J.o 5 ?_; first | refine J.t0 hΓ ?_) | (refine J.o 6 ?_; refine J.bx (fun _ => ?_)) | (refine J.o 7 ?_; refine J.al hΓ (fun _ => ?_)) | (refine J.o 8 ?_; refine J.bd hΓ ?_) | (refine J.o 9 ?_; refine J.bl hΓ (fun _ => ?_)) | (refine J.o 10 ?_; refine J.ev' hΓ ?_) | (refine J.o 11 ?_; refine J.ev' hΓ ?_)))
          | (first | (refine JE.is ?_; first | refine JE.s0 ?_ | refine JE.s3 ?_ | refine JE.nil ?_ | refine JE.s4 rfl (fun w hw => hw.subl (by repeat (first | exact List.nil_sublist _ | exact List.Sublist.refl _ | refine List.Sublist.cons_cons _ ?_ | refine List.Sublist.cons _ ?_))) ?_) | refine eK0.nn ?_ | (refine eK3.is ?_; refine eK3.nn (fun w hw => hw.subl (by repeat (first | exact List.nil_sublist _ | exact List.Sublist.refl _ | refine List.Sublist.cons_cons _ ?_ | refine List.Sublist.cons _ ?_))) ?_) | refine brK.nn ?_)
          | (first | refine JC.seq ?_ | refine JC.region ?_ | refine JC.block ?_ | refine JC.ret ?_ | refine JC.exit ?_ | refine JC.skip ?_ | refine thenK.nn ?_ | refine thenK.x ?_ | refine blockK.nn ?_ | refine blockK.hit rfl ?_ | (refine JC.cond rfl (fun hc => ?_) (fun hc => ?_) <;> ((try simp only [decide_eq_true_eq, decide_eq_false_iff_not, beq_iff_eq, beq_eq_false_iff_ne, bne_iff_ne, bne_eq_false_iff_eq, Bool.not_eq_true', Bool.not_eq_false', Bool.not_eq_true, Bool.not_eq_false] at hc) <;> first | (first | (exact absurd rfl hc) | (exfalso; omega) | (exact absurd (hc.symm.trans (by assumption : _ = false)) (by decide)) | (exact absurd (hc.symm.trans (by assumption : _ = true)) (by decide))) | skip)) | refine loopK.x ?_)
          | (fail)
          | fail
        refine Br.done (by kernel_rfl) ?_
        refine midK.nn (by repeat (first | refine Ag.upd rfl ?_ | exact Ag.rfl')) ⟨_, _, _, _, _, _, rfl, o1, (List.Perm.cons _ ?_)⟩
        first | exact .refl _ | exact br1 | exact br1.cons _ | exact br2 | exact br2.symm | exact br2.trans (br1.cons _)
    ·
      repeat' first
        | (refine J.isJ ?_; first | (first | (refine J.fc 63 ?_; refine J.call1 eClone rfl rfl (fun w hw => clone_any a c l h hs (by omega) w (hw.rdH (by first | exact hr.tl | exact hr.tl.tl | exact hr.tl.tl.tl))) ?_; rintro _ hg ⟨a1, c1, rfl, o1⟩) | (refine J.o 9 ?_; first | refine J.mkm (fun bp => ?_) | refine J.bl hΓ (fun bn => ?_)) | (refine J.o 6 ?_; refine J.bx (fun b => ?_))) | (first | (refine J.o 0 ?_; refine J.ev' hΓ ?_) | refine J.nil ?_ | (refine J.o 4 ?_; first | refine J.lT default hΓ ?_ | refine J.lR hΓ ?_) | (refine J.o 3 ?_; first | refine J.iJ hΓ ?_ | refine J.ev' hΓ ?_) | (refine J.o 1 ?_; first | refine J.ad ?_) | (refine J.o 5 ?_; first | refine J.t0 hΓ ?_) | (refine J.o 6 ?_; refine J.bx (fun _ => ?_)) | (refine J.o 7 ?_; refine J.al hΓ (fun _ => ?_)) | (refine J.o 8 ?_; refine J.bd hΓ ?_) | (refine J.o 9 ?_; refine J.bl hΓ (fun _ => ?_)) | (refine J.o 10 ?_; refine J.ev' hΓ ?_) | (refine J.o 11 ?_; refine J.ev' hΓ ?_)))
        | (first | (refine JE.is ?_; first | refine JE.s0 ?_ | refine JE.s3 ?_ | refine JE.nil ?_ | refine JE.s4 rfl (fun w hw => hw.subl (by repeat (first | exact List.nil_sublist _ | exact List.Sublist.refl _ | refine List.Sublist.cons_cons _ ?_ | refine List.Sublist.cons _ ?_))) ?_) | refine eK0.nn ?_ | (refine eK3.is ?_; refine eK3.nn (fun w hw => hw.subl (by repeat (first | exact List.nil_sublist _ | exact List.Sublist.refl _ | refine List.Sublist.cons_cons _ ?_ | refine List.Sublist.cons _ ?_))) ?_) | refine brK.nn ?_)
        | (first | refine JC.seq ?_ | refine JC.region ?_ | refine JC.block ?_ | refine JC.ret ?_ | refine JC.exit ?_ | refine JC.skip ?_ | refine thenK.nn ?_ | refine thenK.x ?_ | refine blockK.nn ?_ | refine blockK.hit rfl ?_ | (refine JC.cond rfl (fun hc => ?_) (fun hc => ?_) <;> ((try simp only [decide_eq_true_eq, decide_eq_false_iff_not, beq_iff_eq, beq_eq_false_iff_ne, bne_iff_ne, bne_eq_false_iff_eq, Bool.not_eq_true', Bool.not_eq_false', Bool.not_eq_true, Bool.not_eq_false] at hc) <;> first | (first | (exact absurd rfl hc) | (exfalso; omega) | (exact absurd (hc.symm.trans (by assumption : _ = false)) (by decide)) | (exact absurd (hc.symm.trans (by assumption : _ = true)) (by decide))) | skip)) | refine loopK.x ?_)
        | (fail)
        | fail
      refine Br.two (c1 := 1) (c2 := 1) (m1 := 0) (m2 := 0) 1 5 [(3, 5), (0, 6), (3, 7), (0, 8)] [(3, 1), (0, 6), (3, 7), (0, 8)] (by decide +kernel) rfl rfl (by decide +kernel) rfl (by decide +kernel) rfl ?_ ?_
      ·
        repeat' first
          | (refine J.isJ ?_; first | (first | (refine J.fc 63 ?_; refine J.call1 eClone rfl rfl (fun w hw => clone_any a c l h hs (by omega) w (hw.rdH (by first | exact hr.tl | exact hr.tl.tl | exact hr.tl.tl.tl))) ?_; rintro _ hg ⟨a1, c1, rfl, o1⟩) | (refine J.o 9 ?_; first | refine J.mkm (fun bp => ?_) | refine J.bl hΓ (fun bn => ?_)) | (refine J.o 6 ?_; refine J.bx (fun b => ?_))) | (first | (refine J.o 0 ?_; refine J.ev' hΓ ?_) | refine J.nil ?_ | (refine J.o 4 ?_; first | refine J.lT default hΓ ?_ | refine J.lR hΓ ?_) | (refine J.o 3 ?_; first | refine J.iJ hΓ ?_ | refine J.ev' hΓ ?_) | (refine J.o 1 ?_; first | refine J.ad ?_) | (refine J.o 5 ?_; first | refine J.t0 hΓ ?_) | (refine J.o 6 ?_; refine J.bx (fun _ => ?_)) | (refine J.o 7 ?_; refine J.al hΓ (fun _ => ?_)) | (refine J.o 8 ?_; refine J.bd hΓ ?_) | (refine J.o 9 ?_; refine J.bl hΓ (fun _ => ?_)) | (refine J.o 10 ?_; refine J.ev' hΓ ?_) | (refine J.o 11 ?_; refine J.ev' hΓ ?_)))
          | (first | (refine JE.is ?_; first | refine JE.s0 ?_ | refine JE.s3 ?_ | refine JE.nil ?_ | refine JE.s4 rfl (fun w hw => hw.subl (by repeat (first | exact List.nil_sublist _ | exact List.Sublist.refl _ | refine List.Sublist.cons_cons _ ?_ | refine List.Sublist.cons _ ?_))) ?_) | refine eK0.nn ?_ | (refine eK3.is ?_; refine eK3.nn (fun w hw => hw.subl (by repeat (first | exact List.nil_sublist _ | exact List.Sublist.refl _ | refine List.Sublist.cons_cons _ ?_ | refine List.Sublist.cons _ ?_))) ?_) | refine brK.nn ?_)
          | (first | refine JC.seq ?_ | refine JC.region ?_ | refine JC.block ?_ | refine JC.ret ?_ | refine JC.exit ?_ | refine JC.skip ?_ | refine thenK.nn ?_ | refine thenK.x ?_ | refine blockK.nn ?_ | refine blockK.hit rfl ?_ | (refine JC.cond rfl (fun hc => ?_) (fun hc => ?_) <;> ((try simp only [decide_eq_true_eq, decide_eq_false_iff_not, beq_iff_eq, beq_eq_false_iff_ne, bne_iff_ne, bne_eq_false_iff_eq, Bool.not_eq_true', Bool.not_eq_false', Bool.not_eq_true, Bool.not_eq_false] at hc) <;> first | (first | (exact absurd rfl hc) | (exfalso; omega) | (exact absurd (hc.symm.trans (by assumption : _ = false)) (by decide)) | (exact absurd (hc.symm.trans (by assumption : _ = true)) (by decide))) | skip)) | refine loopK.x ?_)
          | (fail)
          | fail
        refine Br.done (by kernel_rfl) ?_
        refine midK.nn (by repeat (first | refine Ag.upd rfl ?_ | exact Ag.rfl')) ⟨_, _, _, _, _, _, rfl, o1, (List.Perm.cons _ ?_)⟩
        first | exact .refl _ | exact br1 | exact br1.cons _ | exact br2 | exact br2.symm | exact br2.trans (br1.cons _)
      ·
        repeat' first
          | (refine J.isJ ?_; first | (first | (refine J.fc 63 ?_; refine J.call1 eClone rfl rfl (fun w hw => clone_any a c l h hs (by omega) w (hw.rdH (by first | exact hr.tl | exact hr.tl.tl | exact hr.tl.tl.tl))) ?_; rintro _ hg ⟨a1, c1, rfl, o1⟩) | (refine J.o 9 ?_; first | refine J.mkm (fun bp => ?_) | refine J.bl hΓ (fun bn => ?_)) | (refine J.o 6 ?_; refine J.bx (fun b => ?_))) | (first | (refine J.o 0 ?_; refine J.ev' hΓ ?_) | refine J.nil ?_ | (refine J.o 4 ?_; first | refine J.lT default hΓ ?_ | refine J.lR hΓ ?_) | (refine J.o 3 ?_; first | refine J.iJ hΓ ?_ | refine J.ev' hΓ ?_) | (refine J.o 1 ?_; first | refine J.ad ?_) | (refine J.o 5 ?_; first | refine J.t0 hΓ ?_) | (refine J.o 6 ?_; refine J.bx (fun _ => ?_)) | (refine J.o 7 ?_; refine J.al hΓ (fun _ => ?_)) | (refine J.o 8 ?_; refine J.bd hΓ ?_) | (refine J.o 9 ?_; refine J.bl hΓ (fun _ => ?_)) | (refine J.o 10 ?_; refine J.ev' hΓ ?_) | (refine J.o 11 ?_; refine J.ev' hΓ ?_)))
          | (first | (refine JE.is ?_; first | refine JE.s0 ?_ | refine JE.s3 ?_ | refine JE.nil ?_ | refine JE.s4 rfl (fun w hw => hw.subl (by repeat (first | exact List.nil_sublist _ | exact List.Sublist.refl _ | refine List.Sublist.cons_cons _ ?_ | refine List.Sublist.cons _ ?_))) ?_) | refine eK0.nn ?_ | (refine eK3.is ?_; refine eK3.nn (fun w hw => hw.subl (by repeat (first | exact List.nil_sublist _ | exact List.Sublist.refl _ | refine List.Sublist.cons_cons _ ?_ | refine List.Sublist.cons _ ?_))) ?_) | refine brK.nn ?_)
          | (first | refine JC.seq ?_ | refine JC.region ?_ | refine JC.block ?_ | refine JC.ret ?_ | refine JC.exit ?_ | refine JC.skip ?_ | refine thenK.nn ?_ | refine thenK.x ?_ | refine blockK.nn ?_ | refine blockK.hit rfl ?_ | (refine JC.cond rfl (fun hc => ?_) (fun hc => ?_) <;> ((try simp only [decide_eq_true_eq, decide_eq_false_iff_not, beq_iff_eq, beq_eq_false_iff_ne, bne_iff_ne, bne_eq_false_iff_eq, Bool.not_eq_true', Bool.not_eq_false', Bool.not_eq_true, Bool.not_eq_false] at hc) <;> first | (first | (exact absurd rfl hc) | (exfalso; omega) | (exact absurd (hc.symm.trans (by assumption : _ = false)) (by decide)) | (exact absurd (hc.symm.trans (by assumption : _ = true)) (by decide))) | skip)) | refine loopK.x ?_)
          | (fail)
          | fail
        refine Br.done (by kernel_rfl) ?_
        refine midK.nn (by repeat (first | refine Ag.upd rfl ?_ | exact Ag.rfl')) ⟨_, _, _, _, _, _, rfl, o1, (List.Perm.cons _ ?_)⟩
        first | exact .refl _ | exact br1 | exact br1.cons _ | exact br2 | exact br2.symm | exact br2.trans (br1.cons _)
    ·
      repeat' first
        | (refine J.isJ ?_; first | (first | (refine J.fc 63 ?_; refine J.call1 eClone rfl rfl (fun w hw => clone_any a c l h hs (by omega) w (hw.rdH (by first | exact hr.tl | exact hr.tl.tl | exact hr.tl.tl.tl))) ?_; rintro _ hg ⟨a1, c1, rfl, o1⟩) | (refine J.o 9 ?_; first | refine J.mkm (fun bp => ?_) | refine J.bl hΓ (fun bn => ?_)) | (refine J.o 6 ?_; refine J.bx (fun b => ?_))) | (first | (refine J.o 0 ?_; refine J.ev' hΓ ?_) | refine J.nil ?_ | (refine J.o 4 ?_; first | refine J.lT default hΓ ?_ | refine J.lR hΓ ?_) | (refine J.o 3 ?_; first | refine J.iJ hΓ ?_ | refine J.ev' hΓ ?_) | (refine J.o 1 ?_; first | refine J.ad ?_) | (refine J.o 5 ?_; first | refine J.t0 hΓ ?_) | (refine J.o 6 ?_; refine J.bx (fun _ => ?_)) | (refine J.o 7 ?_; refine J.al hΓ (fun _ => ?_)) | (refine J.o 8 ?_; refine J.bd hΓ ?_) | (refine J.o 9 ?_; refine J.bl hΓ (fun _ => ?_)) | (refine J.o 10 ?_; refine J.ev' hΓ ?_) | (refine J.o 11 ?_; refine J.ev' hΓ ?_)))
        | (first | (refine JE.is ?_; first | refine JE.s0 ?_ | refine JE.s3 ?_ | refine JE.nil ?_ | refine JE.s4 rfl (fun w hw => hw.subl (by repeat (first | exact List.nil_sublist _ | exact List.Sublist.refl _ | refine List.Sublist.cons_cons _ ?_ | refine List.Sublist.cons _ ?_))) ?_) | refine eK0.nn ?_ | (refine eK3.is ?_; refine eK3.nn (fun w hw => hw.subl (by repeat (first | exact List.nil_sublist _ | exact List.Sublist.refl _ | refine List.Sublist.cons_cons _ ?_ | refine List.Sublist.cons _ ?_))) ?_) | refine brK.nn ?_)
        | (first | refine JC.seq ?_ | refine JC.region ?_ | refine JC.block ?_ | refine JC.ret ?_ | refine JC.exit ?_ | refine JC.skip ?_ | refine thenK.nn ?_ | refine thenK.x ?_ | refine blockK.nn ?_ | refine blockK.hit rfl ?_ | (refine JC.cond rfl (fun hc => ?_) (fun hc => ?_) <;> ((try simp only [decide_eq_true_eq, decide_eq_false_iff_not, beq_iff_eq, beq_eq_false_iff_ne, bne_iff_ne, bne_eq_false_iff_eq, Bool.not_eq_true', Bool.not_eq_false', Bool.not_eq_true, Bool.not_eq_false] at hc) <;> first | (first | (exact absurd rfl hc) | (exfalso; omega) | (exact absurd (hc.symm.trans (by assumption : _ = false)) (by decide)) | (exact absurd (hc.symm.trans (by assumption : _ = true)) (by decide))) | skip)) | refine loopK.x ?_)
        | (fail)
        | fail
      refine Br.two (c1 := 1) (c2 := 1) (m1 := 0) (m2 := 0) 1 2 [(3, 2), (0, 6), (3, 7), (0, 8)] [(3, 1), (0, 6), (3, 7), (0, 8)] (by decide +kernel) rfl rfl (by decide +kernel) rfl (by decide +kernel) rfl ?_ ?_
      ·
        repeat' first
          | (refine J.isJ ?_; first | (first | (refine J.fc 63 ?_; refine J.call1 eClone rfl rfl (fun w hw => clone_any a c l h hs (by omega) w (hw.rdH (by first | exact hr.tl | exact hr.tl.tl | exact hr.tl.tl.tl))) ?_; rintro _ hg ⟨a1, c1, rfl, o1⟩) | (refine J.o 9 ?_; first | refine J.mkm (fun bp => ?_) | refine J.bl hΓ (fun bn => ?_)) | (refine J.o 6 ?_; refine J.bx (fun b => ?_))) | (first | (refine J.o 0 ?_; refine J.ev' hΓ ?_) | refine J.nil ?_ | (refine J.o 4 ?_; first | refine J.lT default hΓ ?_ | refine J.lR hΓ ?_) | (refine J.o 3 ?_; first | refine J.iJ hΓ ?_ | refine J.ev' hΓ ?_) | (refine J.o 1 ?_; first | refine J.ad ?_) | (refine J.o 5 ?_; first | refine J.t0 hΓ ?_) | (refine J.o 6 ?_; refine J.bx (fun _ => ?_)) | (refine J.o 7 ?_; refine J.al hΓ (fun _ => ?_)) | (refine J.o 8 ?_; refine J.bd hΓ ?_) | (refine J.o 9 ?_; refine J.bl hΓ (fun _ => ?_)) | (refine J.o 10 ?_; refine J.ev' hΓ ?_) | (refine J.o 11 ?_; refine J.ev' hΓ ?_)))
          | (first | (refine JE.is ?_; first | refine JE.s0 ?_ | refine JE.s3 ?_ | refine JE.nil ?_ | refine JE.s4 rfl (fun w hw => hw.subl (by repeat (first | exact List.nil_sublist _ | exact List.Sublist.refl _ | refine List.Sublist.cons_cons _ ?_ | refine List.Sublist.cons _ ?_))) ?_) | refine eK0.nn ?_ | (refine eK3.is ?_; refine eK3.nn (fun w hw => hw.subl (by repeat (first | exact List.nil_sublist _ | exact List.Sublist.refl _ | refine List.Sublist.cons_cons _ ?_ | refine List.Sublist.cons _ ?_))) ?_) | refine brK.nn ?_)
          | (first | refine JC.seq ?_ | refine JC.region ?_ | refine JC.block ?_ | refine JC.ret ?_ | refine JC.exit ?_ | refine JC.skip ?_ | refine thenK.nn ?_ | refine thenK.x ?_ | refine blockK.nn ?_ | refine blockK.hit rfl ?_ | (refine JC.cond rfl (fun hc => ?_) (fun hc => ?_) <;> ((try simp only [decide_eq_true_eq, decide_eq_false_iff_not, beq_iff_eq, beq_eq_false_iff_ne, bne_iff_ne, bne_eq_false_iff_eq, Bool.not_eq_true', Bool.not_eq_false', Bool.not_eq_true, Bool.not_eq_false] at hc) <;> first | (first | (exact absurd rfl hc) | (exfalso; omega) | (exact absurd (hc.symm.trans (by assumption : _ = false)) (by decide)) | (exact absurd (hc.symm.trans (by assumption : _ = true)) (by decide))) | skip)) | refine loopK.x ?_)
          | (fail)
          | fail
        refine Br.done (by kernel_rfl) ?_
        refine midK.nn (by repeat (first | refine Ag.upd rfl ?_ | exact Ag.rfl')) ⟨_, _, _, _, _, _, rfl, o1, (List.Perm.cons _ ?_)⟩
        first | exact .refl _ | exact br1 | exact br1.cons _ | exact br2 | exact br2.symm | exact br2.trans (br1.cons _)
      ·
        repeat' first
          | (refine J.isJ ?_; first | (first | (refine J.fc 63 ?_; refine J.call1 eClone rfl rfl (fun w hw => clone_any a c l h hs (by omega) w (hw.rdH (by first | exact hr.tl | exact hr.tl.tl | exact hr.tl.tl.tl))) ?_; rintro _ hg ⟨a1, c1, rfl, o1⟩) | (refine J.o 9 ?_; first | refine J.mkm (fun bp => ?_) | refine J.bl hΓ (fun bn => ?_)) | (refine J.o 6 ?_; refine J.bx (fun b => ?_))) | (first | (refine J.o 0 ?_; refine J.ev' hΓ ?_) | refine J.nil ?_ | (refine J.o 4 ?_; first | refine J.lT default hΓ ?_ | refine J.lR hΓ ?_) | (refine J.o 3 ?_; first | refine J.iJ hΓ ?_ | refine J.ev' hΓ ?_) | (refine J.o 1 ?_; first | refine J.ad ?_) | (refine J.o 5 ?_; first | refine J.t0 hΓ ?_) | (refine J.o 6 ?_; refine J.bx (fun _ => ?_)) | (refine J.o 7 ?_; refine J.al hΓ (fun _ => ?_)) | (refine J.o 8 ?_; refine J.bd hΓ ?_) | (refine J.o 9 ?_; refine J.bl hΓ (fun _ => ?_)) | (refine J.o 10 ?_; refine J.ev' hΓ ?_) | (refine J.o 11 ?_; refine J.ev' hΓ ?_)))
          | (first | (refine JE.is ?_; first | refine JE.s0 ?_ | refine JE.s3 ?_ | refine JE.nil ?_ | refine JE.s4 rfl (fun w hw => hw.subl (by repeat (first | exact List.nil_sublist _ | exact List.Sublist.refl _ | refine List.Sublist.cons_cons _ ?_ | refine List.Sublist.cons _ ?_))) ?_) | refine eK0.nn ?_ | (refine eK3.is ?_; refine eK3.nn (fun w hw => hw.subl (by repeat (first | exact List.nil_sublist _ | exact List.Sublist.refl _ | refine List.Sublist.cons_cons _ ?_ | refine List.Sublist.cons _ ?_))) ?_) | refine brK.nn ?_)
          | (first | refine JC.seq ?_ | refine JC.region ?_ | refine JC.block ?_ | refine JC.ret ?_ | refine JC.exit ?_ | refine JC.skip ?_ | refine thenK.nn ?_ | refine thenK.x ?_ | refine blockK.nn ?_ | refine blockK.hit rfl ?_ | (refine JC.cond rfl (fun hc => ?_) (fun hc => ?_) <;> ((try simp only [decide_eq_true_eq, decide_eq_false_iff_not, beq_iff_eq, beq_eq_false_iff_ne, bne_iff_ne, bne_eq_false_iff_eq, Bool.not_eq_true', Bool.not_eq_false', Bool.not_eq_true, Bool.not_eq_false] at hc) <;> first | (first | (exact absurd rfl hc) | (exfalso; omega) | (exact absurd (hc.symm.trans (by assumption : _ = false)) (by decide)) | (exact absurd (hc.symm.trans (by assumption : _ = true)) (by decide))) | skip)) | refine loopK.x ?_)
          | (fail)
          | fail
        refine Br.done (by kernel_rfl) ?_
        refine midK.nn (by repeat (first | refine Ag.upd rfl ?_ | exact Ag.rfl')) ⟨_, _, _, _, _, _, rfl, o1, (List.Perm.cons _ ?_)⟩
        first | exact .refl _ | exact br1 | exact br1.cons _ | exact br2 | exact br2.symm | exact br2.trans (br1.cons _)
  rintro g L' ⟨b, bp, bn, a1, c1, hO, e5, o1, hp⟩
  refine thenK.nn ?_
  refine JC.perm hp ?_
  refine JC.pin 5 e5 ?_
  have hno := ho.2
  repeat' first
    | (refine J.isJ ?_; first | (fail) | (first | (refine J.o 0 ?_; refine J.ev' hΓ ?_) | refine J.nil ?_ | (refine J.o 4 ?_; first | refine J.lT default hΓ ?_ | refine J.lR hΓ ?_) | (refine J.o 3 ?_; first | refine J.iJ hΓ ?_ | refine J.ev' hΓ ?_) | (refine J.o 1 ?_; first | refine J.ad ?_) | (refine J.o 5 ?_; first | refine J.t0 hΓ ?_) | (refine J.o 6 ?_; refine J.bx (fun _ => ?_)) | (refine J.o 7 ?_; refine J.al hΓ (fun _ => ?_)) | (refine J.o 8 ?_; refine J.bd hΓ ?_) | (refine J.o 9 ?_; refine J.bl hΓ (fun _ => ?_)) | (refine J.o 10 ?_; refine J.ev' hΓ ?_) | (refine J.o 11 ?_; refine J.ev' hΓ ?_)))
    | (first | refine JC.seq ?_ | refine JC.region ?_ | refine JC.block ?_ | refine JC.ret ?_ | refine JC.exit ?_ | refine JC.skip ?_ | refine thenK.nn ?_ | refine thenK.x ?_ | refine blockK.nn ?_ | refine blockK.hit rfl ?_ | (refine JC.cond rfl (fun hc => ?_) (fun hc => ?_) <;> ((try simp only [decide_eq_true_eq, decide_eq_false_iff_not, beq_iff_eq, beq_eq_false_iff_ne, bne_iff_ne, bne_eq_false_iff_eq, Bool.not_eq_true', Bool.not_eq_false', Bool.not_eq_true, Bool.not_eq_false] at hc) <;> first | (first | (exact absurd rfl hc) | (exfalso; omega) | (exact absurd (hc.symm.trans (by assumption : _ = false)) (by decide)) | (exact absurd (hc.symm.trans (by assumption : _ = true)) (by decide))) | skip)) | refine loopK.x ?_)
    | (fail)
    | fail
  refine JC.loop (fun i => i == 6 || i == 7 || Nat.ble 27 i) (fun m g L' => ∃ q hP, g 27 = .int .i64 ((q : Nat) : Int) ∧ q + m = l.length ∧ MapT Try.prog 3 ekI evI ((l.take q).zipIdx 0) bp hP ∧ L' = [(b, Obj.cells ⟨[.slice a1 l.length c1, .map (some bp), .slice (some ⟨bn, 0, none⟩) 2 2, .map none, .map none]⟩ 104 (0, 0))] :: [(bn, Obj.cells ⟨[.int .i64 (l.length : Int), .int .i64 0, .int .i64 0, .int .i64 (l.length : Int), .int .i64 0, .int .i64 0]⟩ 107 (0, 0))] :: hP :: hO :: [(b4, Obj.cells ⟨[.int .i64 (l.length : Int), .int .i64 0, .int .i64 0]⟩ 107 (0, 0))] :: L) l.length ⟨0, _, rfl, by omega, MapT.nil _, rfl⟩ ?_
  rintro m g2 L' ⟨q, hP, e27, hq, mp, rfl⟩
  refine JC.pin 27 e27 ?_
  rcases Nat.lt_or_ge q l.length with hlt | hge
  · have hel := mem_g l q hlt
    have hrg := ho.1 _ hel
    have hkey := keyI (l.getD q default) (by omega)
    have hnew : ∀ y, (l.getD q default, y) ∉ (l.take q).zipIdx 0 := by
      refine mget_out ?_
      rw [mget_zip, rk_none]
      intro hm
      have hs2 := List.Nodup.sublist (List.take_sublist (q + 1) l) hno
      rw [take_g l q hlt] at hs2
      exact (List.nodup_append.1 hs2).2.2 _ hm _ (List.mem_singleton_self _) rfl
    repeat' first
      | (refine J.isJ ?_; first | (first | (refine J.o 4 ?_; first | refine J.lT default hΓ ?_ (hs := hs) (hr := hr.tl.tl.tl.tl.tl)) | (refine J.o 9 ?_; refine J.perm br2 ?_; refine J.mup (a := l.getD q default) (ev := evI) q keyedI ekI_inj mp hkey hΓ (fun h3 mp3 => ?_))) | (first | (refine J.o 0 ?_; refine J.ev' hΓ ?_) | refine J.nil ?_ | (refine J.o 4 ?_; first | refine J.lT default hΓ ?_ | refine J.lR hΓ ?_) | (refine J.o 3 ?_; first | refine J.iJ hΓ ?_ | refine J.ev' hΓ ?_) | (refine J.o 1 ?_; first | refine J.ad ?_) | (refine J.o 5 ?_; first | refine J.t0 hΓ ?_) | (refine J.o 6 ?_; refine J.bx (fun _ => ?_)) | (refine J.o 7 ?_; refine J.al hΓ (fun _ => ?_)) | (refine J.o 8 ?_; refine J.bd hΓ ?_) | (refine J.o 9 ?_; refine J.bl hΓ (fun _ => ?_)) | (refine J.o 10 ?_; refine J.ev' hΓ ?_) | (refine J.o 11 ?_; refine J.ev' hΓ ?_)))
      | (first | refine JC.seq ?_ | refine JC.region ?_ | refine JC.block ?_ | refine JC.ret ?_ | refine JC.exit ?_ | refine JC.skip ?_ | refine thenK.nn ?_ | refine thenK.x ?_ | refine blockK.nn ?_ | refine blockK.hit rfl ?_ | (refine JC.cond rfl (fun hc => ?_) (fun hc => ?_) <;> ((try simp only [decide_eq_true_eq, decide_eq_false_iff_not, beq_iff_eq, beq_eq_false_iff_ne, bne_iff_ne, bne_eq_false_iff_eq, Bool.not_eq_true', Bool.not_eq_false', Bool.not_eq_true, Bool.not_eq_false] at hc) <;> first | (first | (exact absurd rfl hc) | (exfalso; omega) | (exact absurd (hc.symm.trans (by assumption : _ = false)) (by decide)) | (exact absurd (hc.symm.trans (by assumption : _ = true)) (by decide))) | skip)) | refine loopK.x ?_)
      | (fail)
      | fail
    all_goals first | (exfalso; omega) | skip
    rw [mput_new q hnew] at mp3
    refine loopK.np (m - 1) [] _ (by omega) (by repeat (first | refine Ag.upd rfl ?_ | exact Ag.hv)) br2.symm ⟨q + 1, h3, ?_, by omega, ?_, rfl⟩
    · show Value.int .i64 _ = _; congr 1
    · rw [take_g l q hlt, List.zipIdx_append]
      rw [List.length_take, Nat.min_eq_left (Nat.le_of_lt hlt), Nat.zero_add]
      exact mp3
  · rw [List.take_of_length_le hge] at mp
    repeat' first
      | (refine J.isJ ?_; first | ((refine J.fc 69 ?_; refine J.callx eReb rfl rfl (fun w hw => reb_any _ _ _ _ _ rfl rfl hw) ?_; rintro _ _ ⟨bu, bi, rfl, rfl⟩)) | (first | (refine J.o 0 ?_; refine J.ev' hΓ ?_) | refine J.nil ?_ | (refine J.o 4 ?_; first | refine J.lT default hΓ ?_ | refine J.lR hΓ ?_) | (refine J.o 3 ?_; first | refine J.iJ hΓ ?_ | refine J.ev' hΓ ?_) | (refine J.o 1 ?_; first | refine J.ad ?_) | (refine J.o 5 ?_; first | refine J.t0 hΓ ?_) | (refine J.o 6 ?_; refine J.bx (fun _ => ?_)) | (refine J.o 7 ?_; refine J.al hΓ (fun _ => ?_)) | (refine J.o 8 ?_; refine J.bd hΓ ?_) | (refine J.o 9 ?_; refine J.bl hΓ (fun _ => ?_)) | (refine J.o 10 ?_; refine J.ev' hΓ ?_) | (refine J.o 11 ?_; refine J.ev' hΓ ?_)))
      | (first | refine JC.seq ?_ | refine JC.region ?_ | refine JC.block ?_ | refine JC.ret ?_ | refine JC.exit ?_ | refine JC.skip ?_ | refine thenK.nn ?_ | refine thenK.x ?_ | refine blockK.nn ?_ | refine blockK.hit rfl ?_ | (refine JC.cond rfl (fun hc => ?_) (fun hc => ?_) <;> ((try simp only [decide_eq_true_eq, decide_eq_false_iff_not, beq_iff_eq, beq_eq_false_iff_ne, bne_iff_ne, bne_eq_false_iff_eq, Bool.not_eq_true', Bool.not_eq_false', Bool.not_eq_true, Bool.not_eq_false] at hc) <;> first | (first | (exact absurd rfl hc) | (exfalso; omega) | (exact absurd (hc.symm.trans (by assumption : _ = false)) (by decide)) | (exact absurd (hc.symm.trans (by assumption : _ = true)) (by decide))) | skip)) | refine loopK.x ?_)
      | (fail)
      | fail
    all_goals first | (exfalso; omega) | skip
    refine ret2f rfl rfl rfl rfl rfl (fun w1 hw => ⟨_, _, rfl, H.sel (l := [_, _, _, _, _, _, _]) (M := L) hw [0, 3, 1, 2, 5, 4], b, ⟨a1, l.length, c1, bp, bu, bi⟩, ⟨some ⟨bn, 0, none⟩, 2, ends l.length, [(bn, _)], [], [(bu, .map ⟨[]⟩ 0)], [], [(bi, .map ⟨[]⟩ 0)]⟩, hO, hP, rfl, rfl, ?_, rfl, ⟨o1, rfl, ho, mp⟩⟩)
    refine ⟨hl, rfl, ends_wf _, by show 2 ≤ _; omega, ?_, MapT.nil _, ⟨fun i h2 hi => absurd (show i < 2 from hi) (by omega), fun x i hx => by cases hx⟩, MapT.nil _, fun x y hx => by cases hx⟩
    exact ⟨fun _ => rfl, .inr ⟨bn, _, rfl, rfl, rfl, Nat.le_refl _, rfl⟩⟩
end Go.Proofs.Ytbhgahjeocnfcaa
