/- EncodeStates' walk. -/
import Derived.Test.YtinpcimogojefaaKc
namespace Go.Proofs.Ytinpcimogojefaa
open Go Go.Cx Go.RowKit
set_option linter.unusedVariables false
set_option linter.unusedSimpArgs false
set_option maxHeartbeats 4000000
attribute [local irreducible] J JC thenK blockK loopK roundK drawK retK QW Qt pel List.set Calls
attribute [local irreducible] JE Br eK0 eK2 eK3 brK
theorem oneSv {n2 : Nat} {s : SV} {hS : Heap} (hs : SIn s hS) : SumsIn (some ⟨n2, 0, none⟩) [s] ((n2, .cells ⟨encSV s⟩ 24 (0, 0)) :: hS) := by
  refine ⟨?_, fun x hx => ?_⟩
  · have : SlT encSV 3 (some ⟨n2, 0, none⟩) [s] [(n2, .cells ⟨encSV s⟩ 24 (0, 0))] := OwT.sl (e := 24) (cap := 1) ⟨fun _ => rfl, .inr ⟨n2, _, rfl, rfl, rfl, Nat.le_refl _, rfl⟩⟩
    exact this.sub (fun x hx => by rw [List.mem_singleton.1 hx]; exact List.mem_cons_self)
  · rw [List.mem_singleton.1 hx]
    exact ⟨hs.c.sub (fun _ hx => List.mem_cons_of_mem _ hx), hs.l.sub (fun _ hx => List.mem_cons_of_mem _ hx)⟩
theorem lightOne {s : SV} {h : Heap} (hs : SIn s h) {w0 w : World} {R : Heap} {L : List Heap} (hw : H w0 R L w) (rh : RdH R L h) {n : Nat} (r2 : Rd R L n (.cells ⟨encSV s⟩ 24 (0, 0))) :
    Calls Try.prog 13 #[.slice (some ⟨n, 0, none⟩) 1 1] w fun e w' => e = .returned (.bool (lightP [s])) ∧ Below w.heap.size w w' :=
  light_any (some ⟨n, 0, none⟩) 1 [s] _ (oneSv hs) (by show 1 ≤ 9223372036854775807; omega) w (fun x h => hw.rd (rdc r2 rh x h))
theorem copyOne {s : SV} {h : Heap} (hs : SIn s h) (hl : lightP [s] = true) {w0 w : World} {R : Heap} {L : List Heap} (hw : H w0 R L w) (rh : RdH R L h) {n : Nat} (r2 : Rd R L n (.cells ⟨encSV s⟩ 24 (0, 0))) :
    Calls Try.prog 15 #[.slice (some ⟨n, 0, none⟩) 1 1] w (Gives (fun v g => ∃ a' cap' t, v = .slice a' [t].length cap' ∧ SumsIn a' [t] g ∧ psV t = psV s) w) := by
  refine (copied_any (some ⟨n, 0, none⟩) 1 [s] _ (oneSv hs) hl w (fun x h => hw.rd (rdc r2 rh x h))).mono ?_
  rintro e w' ⟨v, g, h1, h2, h3, h4, h5, a, cap, ts, h6, h7, h8⟩
  cases ts with
  | nil => simp at h8
  | cons t ts =>
    cases ts with
    | nil => exact ⟨v, g, h1, h2, h3, h4, h5, a, cap, t, h6, h7, by simpa using h8⟩
    | cons u ts => simp at h8
theorem sameOne {s t : SV} {h g : Heap} (hs : SIn s h) {a : Option Addr} {cap : Nat} (ht : SumsIn a [t] g) (hp : psV t = psV s) (hn : t.cs.length ≤ 1000000 ∧ t.ls.length ≤ 1000000) {w0 w : World} {R : Heap} {L : List Heap} (hw : H w0 R L w) (rh : RdH R L h) (rg : RdH R L g) {n : Nat} (r2 : Rd R L n (.cells ⟨encSV s⟩ 24 (0, 0))) :
    Calls Try.prog 19 #[.slice a 1 cap, .slice (some ⟨n, 0, none⟩) 1 1] w fun e w' => e = .returned (.bool true) ∧ Below w.heap.size w w' :=
  sameL_any a (some ⟨n, 0, none⟩) cap 1 [t] [s] g _ ht (oneSv hs) (by simp [hp]) (by show 1 ≤ 1000000; omega) (fun x hx => by rw [List.mem_singleton.1 hx]; exact hn) w (hw.rdH rg) (fun x h => hw.rd (rdc r2 rh x h))
theorem row_tot (l : List (List Int)) (n : Nat) (h : totF l ≤ n) : ∀ r, r ∈ l → r.length ≤ n := fun r hr => Nat.le_trans (totF_mem r l hr) h
theorem stR_small (s : PS) : (stR s).2.length ≤ s.1.length ∧ ∀ r, r ∈ (stR s).2 → r.length ≤ 128 := by
  unfold stR
  split
  · exact ⟨Nat.zero_le _, fun r h => by cases h⟩
  split
  · exact ⟨Nat.zero_le _, fun r h => by cases h⟩
  · rename_i h
    exact ⟨by rw [show (rowsP s).length = s.1.length from rowsF_len _ _ _]; exact Nat.le_refl _, row_tot _ _ (Nat.not_lt.1 h)⟩
/-- rows of the call's own, of known lengths -/
def rowsW : List HV → List Heap → Prop
  | [], [] => True
  | v :: vs, h :: hs => (∃ l, l.length = v.l.length ∧ OwT encI 1 3 v.a v.c l h) ∧ rowsW vs hs
  | _, _ => False
theorem rowsW_of : ∀ (vs : List HV) (hs : List Heap), rowsO vs hs → rowsW vs hs
  | [], [], _ => trivial
  | v :: vs, h :: hs, a => ⟨⟨v.l, rfl, a.1⟩, rowsW_of vs hs a.2⟩
  | [], _ :: _, a => a.elim
  | _ :: _, [], a => a.elim
theorem rowsW_split : ∀ (vs : List HV) (hs : List Heap) (k : Nat), k < vs.length → rowsW vs hs → ∃ pre hk post, hs = pre ++ hk :: post ∧ (∃ l, l.length = (vs.getD k default).l.length ∧ OwT encI 1 3 (vs.getD k default).a (vs.getD k default).c l hk) ∧ ∀ hk', (∃ l, l.length = (vs.getD k default).l.length ∧ OwT encI 1 3 (vs.getD k default).a (vs.getD k default).c l hk') → rowsW vs (pre ++ hk' :: post)
  | [], _, k, hk, _ => by simp at hk
  | v :: vs, [], _, _, a => a.elim
  | v :: vs, h :: hs, 0, _, a => ⟨[], h, hs, rfl, a.1, fun hk' e => ⟨e, a.2⟩⟩
  | v :: vs, h :: hs, k + 1, hk, a => by
    obtain ⟨pre, hk0, post, e1, e2, e3⟩ := rowsW_split vs hs k (by simpa using hk) a.2
    have e : (v :: vs).getD (k + 1) default = vs.getD k default := by simp
    rw [e]
    exact ⟨h :: pre, hk0, post, by rw [e1]; rfl, e2, fun hk' h' => ⟨a.1, e3 hk' h'⟩⟩
theorem copy_one {s t : SV} (hp : psV t = psV s) (h : s.cs.length ≤ 100 ∧ s.ls.length ≤ 100) : t.cs.length ≤ 1000000 ∧ t.ls.length ≤ 1000000 := by
  have h1 : t.cs = s.cs := congrArg (fun x : PS => x.1) hp
  have h2 : t.ls = s.ls := congrArg (fun x : PS => x.2.1) hp
  rw [h1, h2]
  omega
theorem bne_tr (e : Int) : (some (Value.bool (e != e)) : Option Value) = some (.bool false) := by simp
theorem H.part {w0 w : World} {R a b : Heap} {L : List Heap} (h : H w0 R ((a ++ b) :: L) w) : H w0 R (a :: b :: L) w := by rw [H.eq_mg]; exact h
set_option maxHeartbeats 8000000 in
theorem states_walk (s : SV) (h : Heap) (hs : SIn s h) (w : World) (hw : Holds h w) :
    Calls Try.prog 3 #[.agg ⟨encSV s⟩] w fun e w' => e = .returned (.bool true) ∧ Below w.heap.size w w' := by
  have q0 : ∀ L, RdH h L h := fun L => RdH.old fun _ hh => hh
  refine calls_of_JC (R := h) Try.func3 Try.ntmps3 rfl rfl (hw) ?_
  cases hlt : lightP [s] with
  | false =>
    repeat' first
      | (refine J.isJ ?_; first | (first | (refine J.fc 13 ?_; refine J.call0 eLight rfl rfl (fun w hw => hlt ▸ lightOne hs hw (q0 _) (by first | exact Rd.hd | exact Rd.hd.tl)) ?_) | (refine J.fc 14 ?_; refine J.call0 eWorks rfl rfl (fun w hw => works_any w) ?_)) | (first | (refine J.o 0 ?_; refine J.ev' hΓ ?_) | refine J.nil ?_ | refine J.kd ?_ | (refine J.o 4 ?_; first | refine J.e0 hΓ ?_ | refine J.lT default hΓ ?_ | refine J.e1 hΓ ?_ | refine J.e2 hΓ ?_ | refine J.lR hΓ ?_) | (refine J.o 3 ?_; first | refine J.iA hΓ ?_ | refine J.iJ hΓ ?_ | refine J.fP hΓ ?_ | refine J.iC hΓ ?_ | refine J.ev' hΓ ?_) | (refine J.o 1 ?_; first | refine J.ad ?_ | refine J.sb ?_ | refine J.ng ?_ | refine J.mu ?_) | (refine J.o 5 ?_; first | refine J.t0 hΓ ?_ | refine J.t1 hΓ ?_ | refine J.t2 hΓ ?_) | (refine J.o 6 ?_; refine J.bx (fun _ => ?_)) | (refine J.o 7 ?_; refine J.al hΓ (fun _ => ?_)) | (refine J.o 8 ?_; refine J.bd hΓ ?_) | (refine J.o 9 ?_; refine J.bl hΓ (fun _ => ?_)) | (refine J.o 10 ?_; first | refine J.ls hΓ ?_ | refine J.ev' hΓ ?_) | (refine J.o 11 ?_; refine J.ev' hΓ ?_) | refine J.kn ?_) | ((fail_if_success refine J.wt ?_); refine J.gc rfl rfl (fun hc => ?_) (fun hc => ?_) <;> ((try simp only [decide_eq_true_eq, decide_eq_false_iff_not, beq_iff_eq, beq_eq_false_iff_ne, bne_iff_ne, bne_eq_false_iff_eq, Bool.not_eq_true', Bool.not_eq_false', Bool.not_eq_true, Bool.not_eq_false] at hc) <;> first | (first | (exact absurd rfl hc) | (exfalso; omega) | (exact absurd (hc.symm.trans (by assumption : _ = false)) (by decide)) | (exact absurd (hc.symm.trans (by assumption : _ = true)) (by decide))) | skip)))
      | (first | refine JC.seq ?_ | refine JC.region ?_ | refine JC.block ?_ | refine JC.ret ?_ | refine JC.exit ?_ | refine JC.skip ?_ | refine thenK.nn ?_ | refine thenK.r ?_ | refine thenK.x ?_ | refine blockK.nn ?_ | refine blockK.r ?_ | refine blockK.hit rfl ?_ | refine blockK.miss rfl ?_ | refine JC.condT rfl ?_ | refine JC.condF rfl ?_ | (refine JC.cond rfl (fun hc => ?_) (fun hc => ?_) <;> ((try simp only [decide_eq_true_eq, decide_eq_false_iff_not, beq_iff_eq, beq_eq_false_iff_ne, bne_iff_ne, bne_eq_false_iff_eq, Bool.not_eq_true', Bool.not_eq_false', Bool.not_eq_true, Bool.not_eq_false] at hc) <;> first | (first | (exact absurd rfl hc) | (exfalso; omega) | (exact absurd (hc.symm.trans (by assumption : _ = false)) (by decide)) | (exact absurd (hc.symm.trans (by assumption : _ = true)) (by decide))) | skip)) | (refine JC.drawA [] (by kernel_rfl) (by kernel_rfl) ?_) | refine drawK.nn ?_ | refine roundK.nn ?_ | refine roundK.r ?_ | refine roundK.x ?_ | refine loopK.r ?_ | refine loopK.x ?_)
      | (fail)
      | fail
    all_goals first | (exfalso; omega) | exact ret1f rfl rfl rfl (fun w1 hw => ⟨rfl, hw.below⟩)
  | true =>
    have hlt2 := hlt
    unfold lightP at hlt2
    simp only [Bool.and_eq_true, List.all_eq_true, decide_eq_true_eq] at hlt2
    have hsz := hlt2.1 s (List.mem_singleton.2 rfl)
    have hsm := stR_small (psV s)
    have hsm1 : (stR (psV s)).2.length ≤ s.cs.length := hsm.1
    have cSt : ∀ (t : SV) (g : Heap), SIn t g → psV t = psV s → ∀ w, Holds g w → Calls Try.prog 16 #[.agg ⟨encSV t⟩] w (Gives (fun v g => ∃ a cap vs, v = .tuple #[.slice a vs.length cap, .int .i64 (stR (psV s)).1] ∧ LLO a cap vs g ∧ vs.map (·.l) = (stR (psV s)).2) w) := fun t g ht hp w hw => by
      have h1 : t.cs = s.cs := congrArg (fun x : PS => x.1) hp
      have h2 : t.ls = s.ls := congrArg (fun x : PS => x.2.1) hp
      have c := states_any t g ht (by rw [h1]; omega) (by rw [h2]; omega) w hw
      rw [hp] at c
      exact c
    have cRf := fun w hw => statesR_any s h hs (by omega) (by omega) w hw
    have hbf := bne_tr (stR (psV s)).1
    have hT : ∀ r, r ∈ (stR (psV s)).2 → r.length ≤ 1000000 := fun r hr => by have := hsm.2 r hr; omega
    have hT2 : (stR (psV s)).2.length ≤ 1000000 := by omega
    have hT3 := hsm.2
    clear hsm
    generalize (stR (psV s)).1 = ec at *
    generalize (stR (psV s)).2 = eT at *
    have cE : ∀ (a b : Option Addr) (ca cb : Nat) (vs ws : List HV) (hx hy : Heap), LLR a vs hx → LLR b ws hy → vs.map (·.l) = eT → ws.map (·.l) = eT → ∀ w, Holds hx w → Holds hy w → Calls Try.prog 18 #[.slice a vs.length ca, .slice b ws.length cb] w fun e w' => e = .returned (.bool true) ∧ Below w.heap.size w w' := fun a b ca cb vs ws hx hy sx sy e1 e2 w h1 h2 => by
      have c := equalL_any a b ca cb vs ws hx hy (LLS.of sx (by rw [e1]; exact hT2) (by rw [e1]; exact hT)) (LLS.of sy (by rw [e2]; exact hT2) (by rw [e2]; exact hT)) w h1 h2
      rw [e1, e2, decide_eq_true rfl] at c
      exact c
    repeat' first
      | (refine J.isJ ?_; first | (first | (refine J.fc 13 ?_; refine J.call0 eLight rfl rfl (fun w hw => hlt ▸ lightOne hs hw (q0 _) (by first | exact Rd.hd | exact Rd.hd.tl)) ?_) | (refine J.fc 15 ?_; refine J.call1 eCopied rfl rfl (fun w hw => copyOne hs hlt hw (q0 _) (by first | exact Rd.hd | exact Rd.hd.tl)) ?_; rintro _ hcp ⟨ac, kc, t, rfl, hin, hps⟩; have hit := hin.i t (List.mem_singleton.2 rfl); have hio := hin.o) | (refine J.o 4 ?_; first | refine J.e0 hΓ ?_ | refine J.e1 hΓ ?_ | refine J.e2 hΓ ?_ | refine J.e3 hΓ ?_ | refine J.e4 hΓ ?_ | refine J.lR hΓ ?_ (hr := Rd.hd.tl.tl.tl.tl.tl) | refine J.lT default hΓ ?_ (hs := hio) (hr := (by first | exact RdH.hd | exact RdH.hd.tl | exact RdH.hd.tl.tl | exact RdH.hd.tl.tl.tl | exact RdH.hd.tl.tl.tl.tl | exact RdH.hd.tl.tl.tl.tl.tl | exact RdH.hd.tl.tl.tl.tl.tl.tl | exact RdH.hd.tl.tl.tl.tl.tl.tl.tl | exact RdH.old (fun _ hh => hh) | assumption))) | (refine J.fc 16 ?_; refine J.call1 eStates rfl rfl (fun w hw => cSt t _ hit hps w (hw.rdH (by first | exact RdH.hd | exact RdH.hd.tl | exact RdH.hd.tl.tl | exact RdH.hd.tl.tl.tl | exact RdH.hd.tl.tl.tl.tl | exact RdH.hd.tl.tl.tl.tl.tl | exact RdH.hd.tl.tl.tl.tl.tl.tl | exact RdH.hd.tl.tl.tl.tl.tl.tl.tl | exact RdH.old (fun _ hh => hh) | assumption))) ?_; rintro _ hgA ⟨aA, kA, vA, rfl, llA, hvA⟩) | (refine J.fc 17 ?_; refine J.call1 eStatesR rfl rfl (fun w hw => cRf w (hw.rdH (q0 _))) ?_; rintro _ hgB ⟨aB, kB, vB, rfl, llB, hvB⟩) | (refine J.o 11 ?_; refine J.ev' (v := .bool false) hΓ ?_ (h := hbf)) | (refine J.fc 18 ?_; refine J.call0 eEqualL rfl rfl (fun w hw => cE _ _ _ _ _ _ _ _ llA.r llB hvA hvB w (hw.rdH (by first | exact RdH.hd | exact RdH.hd.tl | exact RdH.hd.tl.tl | exact RdH.hd.tl.tl.tl | exact RdH.hd.tl.tl.tl.tl | exact RdH.hd.tl.tl.tl.tl.tl | exact RdH.hd.tl.tl.tl.tl.tl.tl | exact RdH.hd.tl.tl.tl.tl.tl.tl.tl | exact RdH.old (fun _ hh => hh) | assumption)) (hw.rdH (by first | exact RdH.hd | exact RdH.hd.tl | exact RdH.hd.tl.tl | exact RdH.hd.tl.tl.tl | exact RdH.hd.tl.tl.tl.tl | exact RdH.hd.tl.tl.tl.tl.tl | exact RdH.hd.tl.tl.tl.tl.tl.tl | exact RdH.hd.tl.tl.tl.tl.tl.tl.tl | exact RdH.old (fun _ hh => hh) | assumption))) ?_)) | (first | (refine J.o 0 ?_; refine J.ev' hΓ ?_) | refine J.nil ?_ | refine J.kd ?_ | (refine J.o 4 ?_; first | refine J.e0 hΓ ?_ | refine J.lT default hΓ ?_ | refine J.e1 hΓ ?_ | refine J.e2 hΓ ?_ | refine J.lR hΓ ?_) | (refine J.o 3 ?_; first | refine J.iA hΓ ?_ | refine J.iJ hΓ ?_ | refine J.fP hΓ ?_ | refine J.iC hΓ ?_ | refine J.ev' hΓ ?_) | (refine J.o 1 ?_; first | refine J.ad ?_ | refine J.sb ?_ | refine J.ng ?_ | refine J.mu ?_) | (refine J.o 5 ?_; first | refine J.t0 hΓ ?_ | refine J.t1 hΓ ?_ | refine J.t2 hΓ ?_) | (refine J.o 6 ?_; refine J.bx (fun _ => ?_)) | (refine J.o 7 ?_; refine J.al hΓ (fun _ => ?_)) | (refine J.o 8 ?_; refine J.bd hΓ ?_) | (refine J.o 9 ?_; refine J.bl hΓ (fun _ => ?_)) | (refine J.o 10 ?_; first | refine J.ls hΓ ?_ | refine J.ev' hΓ ?_) | (refine J.o 11 ?_; refine J.ev' hΓ ?_) | refine J.kn ?_) | ((fail_if_success refine J.wt ?_); refine J.gc rfl rfl (fun hc => ?_) (fun hc => ?_) <;> ((try simp only [decide_eq_true_eq, decide_eq_false_iff_not, beq_iff_eq, beq_eq_false_iff_ne, bne_iff_ne, bne_eq_false_iff_eq, Bool.not_eq_true', Bool.not_eq_false', Bool.not_eq_true, Bool.not_eq_false] at hc) <;> first | (first | (exact absurd rfl hc) | (exfalso; omega) | (exact absurd (hc.symm.trans (by assumption : _ = false)) (by decide)) | (exact absurd (hc.symm.trans (by assumption : _ = true)) (by decide))) | skip)))
      | (first | refine JC.seq ?_ | refine JC.region ?_ | refine JC.block ?_ | refine JC.ret ?_ | refine JC.exit ?_ | refine JC.skip ?_ | refine thenK.nn ?_ | refine thenK.r ?_ | refine thenK.x ?_ | refine blockK.nn ?_ | refine blockK.r ?_ | refine blockK.hit rfl ?_ | refine blockK.miss rfl ?_ | refine JC.condT rfl ?_ | refine JC.condF rfl ?_ | (refine JC.cond rfl (fun hc => ?_) (fun hc => ?_) <;> ((try simp only [decide_eq_true_eq, decide_eq_false_iff_not, beq_iff_eq, beq_eq_false_iff_ne, bne_iff_ne, bne_eq_false_iff_eq, Bool.not_eq_true', Bool.not_eq_false', Bool.not_eq_true, Bool.not_eq_false] at hc) <;> first | (first | (exact absurd rfl hc) | (exfalso; omega) | (exact absurd (hc.symm.trans (by assumption : _ = false)) (by decide)) | (exact absurd (hc.symm.trans (by assumption : _ = true)) (by decide))) | skip)) | (refine JC.drawA [] (by kernel_rfl) (by kernel_rfl) ?_) | refine drawK.nn ?_ | refine roundK.nn ?_ | refine roundK.r ?_ | refine roundK.x ?_ | refine loopK.r ?_ | refine loopK.x ?_)
      | (fail)
      | fail
    all_goals first | (exfalso; omega) | skip
    rename_i b1 n12 n17
    obtain ⟨g0, hss, rfl, oA, rA⟩ := llA
    have hvl : vA.length ≤ 1000000 := by have := congrArg List.length hvA; rw [List.length_map] at this; omega
    have hvr : ∀ v, v ∈ vA → v.l.length ≤ 128 := fun v hv => hT3 _ (hvA ▸ List.mem_map_of_mem (f := (·.l)) hv)
    refine JC.weak (L' := [g0, hss.flatten, hcp, [(b1, .cells ⟨encSV s⟩ 24 (0, 0))]]) (fun w hw => H.part (H.sel (l := [_, _, _, _, _, _]) (M := []) hw [1, 2, 5])) ?_
    refine JC.gen [(1, .pointer (some ⟨b1, 0, none⟩)), (3, .slice ac 1 kc), (40, .slice aA vA.length kA), (41, .int .i64 vA.length), (42, .int .i64 0)] ⟨rfl, rfl, rfl, rfl, rfl, trivial⟩ (fun F => ?_)
    have hoA := oA.sl
    refine JC.loopG (fun i => i == 9 || i == 10 || Nat.ble 42 i) (fun m g L => ∃ (k : Nat) (hq : List Heap), g 42 = .int .i64 (k : Int) ∧ k + m = vA.length ∧ rowsW vA hq ∧ L = [g0, hq.flatten, hcp, [(b1, .cells ⟨encSV s⟩ 24 (0, 0))]]) vA.length ⟨0, hss, rfl, by omega, rowsW_of _ _ rA, rfl⟩ ?_
    rintro m g L ⟨k, hq, e42, hkm, rw_, rfl⟩
    refine JC.pin 42 e42 ?_
    clear e42
    rcases Nat.lt_or_ge k vA.length with hk | hk
    case inr =>
      repeat' first
        | (refine J.isJ ?_; first | (first | (refine J.o 4 ?_; refine J.e3 hΓ ?_) | (refine J.fc 19 ?_; refine J.call0 eSameL rfl rfl (fun w hw => sameOne hs hin hps (copy_one hps hsz) hw (q0 _) (by first | exact RdH.hd | exact RdH.hd.tl | exact RdH.hd.tl.tl | exact RdH.hd.tl.tl.tl | exact RdH.hd.tl.tl.tl.tl | exact RdH.hd.tl.tl.tl.tl.tl | exact RdH.hd.tl.tl.tl.tl.tl.tl | exact RdH.hd.tl.tl.tl.tl.tl.tl.tl | exact RdH.old (fun _ hh => hh) | assumption) Rd.hd) ?_) | (refine J.fc 14 ?_; refine J.call0 eWorks rfl rfl (fun w hw => works_any w) ?_)) | (first | (refine J.o 0 ?_; refine J.ev' hΓ ?_) | refine J.nil ?_ | refine J.kd ?_ | (refine J.o 4 ?_; first | refine J.e0 hΓ ?_ | refine J.lT default hΓ ?_ | refine J.e1 hΓ ?_ | refine J.e2 hΓ ?_ | refine J.lR hΓ ?_) | (refine J.o 3 ?_; first | refine J.iA hΓ ?_ | refine J.iJ hΓ ?_ | refine J.fP hΓ ?_ | refine J.iC hΓ ?_ | refine J.ev' hΓ ?_) | (refine J.o 1 ?_; first | refine J.ad ?_ | refine J.sb ?_ | refine J.ng ?_ | refine J.mu ?_) | (refine J.o 5 ?_; first | refine J.t0 hΓ ?_ | refine J.t1 hΓ ?_ | refine J.t2 hΓ ?_) | (refine J.o 6 ?_; refine J.bx (fun _ => ?_)) | (refine J.o 7 ?_; refine J.al hΓ (fun _ => ?_)) | (refine J.o 8 ?_; refine J.bd hΓ ?_) | (refine J.o 9 ?_; refine J.bl hΓ (fun _ => ?_)) | (refine J.o 10 ?_; first | refine J.ls hΓ ?_ | refine J.ev' hΓ ?_) | (refine J.o 11 ?_; refine J.ev' hΓ ?_) | refine J.kn ?_) | ((fail_if_success refine J.wt ?_); refine J.gc rfl rfl (fun hc => ?_) (fun hc => ?_) <;> ((try simp only [decide_eq_true_eq, decide_eq_false_iff_not, beq_iff_eq, beq_eq_false_iff_ne, bne_iff_ne, bne_eq_false_iff_eq, Bool.not_eq_true', Bool.not_eq_false', Bool.not_eq_true, Bool.not_eq_false] at hc) <;> first | (first | (exact absurd rfl hc) | (exfalso; omega) | (exact absurd (hc.symm.trans (by assumption : _ = false)) (by decide)) | (exact absurd (hc.symm.trans (by assumption : _ = true)) (by decide))) | skip)))
        | (first | refine JC.seq ?_ | refine JC.region ?_ | refine JC.block ?_ | refine JC.ret ?_ | refine JC.exit ?_ | refine JC.skip ?_ | refine thenK.nn ?_ | refine thenK.r ?_ | refine thenK.x ?_ | refine blockK.nn ?_ | refine blockK.r ?_ | refine blockK.hit rfl ?_ | refine blockK.miss rfl ?_ | refine JC.condT rfl ?_ | refine JC.condF rfl ?_ | (refine JC.cond rfl (fun hc => ?_) (fun hc => ?_) <;> ((try simp only [decide_eq_true_eq, decide_eq_false_iff_not, beq_iff_eq, beq_eq_false_iff_ne, bne_iff_ne, bne_eq_false_iff_eq, Bool.not_eq_true', Bool.not_eq_false', Bool.not_eq_true, Bool.not_eq_false] at hc) <;> first | (first | (exact absurd rfl hc) | (exfalso; omega) | (exact absurd (hc.symm.trans (by assumption : _ = false)) (by decide)) | (exact absurd (hc.symm.trans (by assumption : _ = true)) (by decide))) | skip)) | (refine JC.drawA [] (by kernel_rfl) (by kernel_rfl) ?_) | refine drawK.nn ?_ | refine roundK.nn ?_ | refine roundK.r ?_ | refine roundK.x ?_ | refine loopK.r ?_ | refine loopK.x ?_)
        | (fail)
        | fail
      all_goals first | (exfalso; omega) | exact ret1f rfl rfl rfl (fun w1 hw => ⟨rfl, hw.below⟩)
    obtain ⟨pre, hk0, post, rfl, ⟨l0, hl0, ol0⟩, hre⟩ := rowsW_split vA hq k hk rw_
    have hvk := hvr _ (mem_g vA k hk)
    have e0 : (pre ++ hk0 :: post).flatten = pre.flatten ++ (hk0 ++ post.flatten) := by simp
    refine JC.weak (L' := [hk0, g0, pre.flatten, post.flatten, hcp, [(b1, .cells ⟨encSV s⟩ 24 (0, 0))]]) (fun w hw => by
      rw [e0] at hw
      have h1 := H.part (H.sel (l := [_, _, _, _]) (M := []) hw [1, 0, 2, 3])
      have h2 := H.part (H.sel (l := [_, _, _, _, _]) (M := []) h1 [1, 0, 2, 3, 4])
      exact H.sel (l := [_, _, _, _, _, _]) (M := []) h2 [0, 3, 2, 1, 4, 5]) ?_
    repeat' first
      | (refine J.isJ ?_; first | ((refine J.o 4 ?_; refine J.lT default hΓ ?_ (hs := hoA) (hr := RdH.hd.tl))) | (first | (refine J.o 0 ?_; refine J.ev' hΓ ?_) | refine J.nil ?_ | refine J.kd ?_ | (refine J.o 4 ?_; first | refine J.e0 hΓ ?_ | refine J.lT default hΓ ?_ | refine J.e1 hΓ ?_ | refine J.e2 hΓ ?_ | refine J.lR hΓ ?_) | (refine J.o 3 ?_; first | refine J.iA hΓ ?_ | refine J.iJ hΓ ?_ | refine J.fP hΓ ?_ | refine J.iC hΓ ?_ | refine J.ev' hΓ ?_) | (refine J.o 1 ?_; first | refine J.ad ?_ | refine J.sb ?_ | refine J.ng ?_ | refine J.mu ?_) | (refine J.o 5 ?_; first | refine J.t0 hΓ ?_ | refine J.t1 hΓ ?_ | refine J.t2 hΓ ?_) | (refine J.o 6 ?_; refine J.bx (fun _ => ?_)) | (refine J.o 7 ?_; refine J.al hΓ (fun _ => ?_)) | (refine J.o 8 ?_; refine J.bd hΓ ?_) | (refine J.o 9 ?_; refine J.bl hΓ (fun _ => ?_)) | (refine J.o 10 ?_; first | refine J.ls hΓ ?_ | refine J.ev' hΓ ?_) | (refine J.o 11 ?_; refine J.ev' hΓ ?_) | refine J.kn ?_) | ((fail_if_success refine J.wt ?_); refine J.gc rfl rfl (fun hc => ?_) (fun hc => ?_) <;> ((try simp only [decide_eq_true_eq, decide_eq_false_iff_not, beq_iff_eq, beq_eq_false_iff_ne, bne_iff_ne, bne_eq_false_iff_eq, Bool.not_eq_true', Bool.not_eq_false', Bool.not_eq_true, Bool.not_eq_false] at hc) <;> first | (first | (exact absurd rfl hc) | (exfalso; omega) | (exact absurd (hc.symm.trans (by assumption : _ = false)) (by decide)) | (exact absurd (hc.symm.trans (by assumption : _ = true)) (by decide))) | skip)))
      | (first | refine JC.seq ?_ | refine JC.region ?_ | refine JC.block ?_ | refine JC.ret ?_ | refine JC.exit ?_ | refine JC.skip ?_ | refine thenK.nn ?_ | refine thenK.r ?_ | refine thenK.x ?_ | refine blockK.nn ?_ | refine blockK.r ?_ | refine blockK.hit rfl ?_ | refine blockK.miss rfl ?_ | refine JC.condT rfl ?_ | refine JC.condF rfl ?_ | (refine JC.cond rfl (fun hc => ?_) (fun hc => ?_) <;> ((try simp only [decide_eq_true_eq, decide_eq_false_iff_not, beq_iff_eq, beq_eq_false_iff_ne, bne_iff_ne, bne_eq_false_iff_eq, Bool.not_eq_true', Bool.not_eq_false', Bool.not_eq_true, Bool.not_eq_false] at hc) <;> first | (first | (exact absurd rfl hc) | (exfalso; omega) | (exact absurd (hc.symm.trans (by assumption : _ = false)) (by decide)) | (exact absurd (hc.symm.trans (by assumption : _ = true)) (by decide))) | skip)) | (refine JC.drawA [] (by kernel_rfl) (by kernel_rfl) ?_) | refine drawK.nn ?_ | refine roundK.nn ?_ | refine roundK.r ?_ | refine roundK.x ?_ | refine loopK.r ?_ | refine loopK.x ?_)
      | (fail)
      | fail
    all_goals first | (exfalso; omega) | skip
    refine JC.loop (fun i => i == 10 || Nat.ble 48 i) (fun m g L => ∃ (j : Nat) (l1 : List Int) (hk1 : Heap), g 48 = .int .i64 (j : Int) ∧ j + m = (vA.getD k default).l.length ∧ l1.length = (vA.getD k default).l.length ∧ OwT encI 1 3 (vA.getD k default).a (vA.getD k default).c l1 hk1 ∧ L = [hk1, g0, pre.flatten, post.flatten, hcp, [(b1, .cells ⟨encSV s⟩ 24 (0, 0))]]) (vA.getD k default).l.length ⟨0, l0, hk0, rfl, by omega, hl0, ol0, rfl⟩ ?_
    rintro m3 g3 L3 ⟨j, l1, hk1, e48, hjm, hl1, ol1, rfl⟩
    refine JC.pin 48 e48 ?_
    clear e48
    rcases Nat.lt_or_ge j (vA.getD k default).l.length with hj | hj
    case inl =>
      have sl1 := ol1.sl
      repeat' first
        | (refine J.isJ ?_; first | ((refine J.o 5 ?_; refine J.tT _ default hΓ (fun _ _ => ?_))) | (first | (refine J.o 0 ?_; refine J.ev' hΓ ?_) | refine J.nil ?_ | refine J.kd ?_ | (refine J.o 4 ?_; first | refine J.e0 hΓ ?_ | refine J.lT default hΓ ?_ | refine J.e1 hΓ ?_ | refine J.e2 hΓ ?_ | refine J.lR hΓ ?_) | (refine J.o 3 ?_; first | refine J.iA hΓ ?_ | refine J.iJ hΓ ?_ | refine J.fP hΓ ?_ | refine J.iC hΓ ?_ | refine J.ev' hΓ ?_) | (refine J.o 1 ?_; first | refine J.ad ?_ | refine J.sb ?_ | refine J.ng ?_ | refine J.mu ?_) | (refine J.o 5 ?_; first | refine J.t0 hΓ ?_ | refine J.t1 hΓ ?_ | refine J.t2 hΓ ?_) | (refine J.o 6 ?_; refine J.bx (fun _ => ?_)) | (refine J.o 7 ?_; refine J.al hΓ (fun _ => ?_)) | (refine J.o 8 ?_; refine J.bd hΓ ?_) | (refine J.o 9 ?_; refine J.bl hΓ (fun _ => ?_)) | (refine J.o 10 ?_; first | refine J.ls hΓ ?_ | refine J.ev' hΓ ?_) | (refine J.o 11 ?_; refine J.ev' hΓ ?_) | refine J.kn ?_) | ((fail_if_success refine J.wt ?_); refine J.gc rfl rfl (fun hc => ?_) (fun hc => ?_) <;> ((try simp only [decide_eq_true_eq, decide_eq_false_iff_not, beq_iff_eq, beq_eq_false_iff_ne, bne_iff_ne, bne_eq_false_iff_eq, Bool.not_eq_true', Bool.not_eq_false', Bool.not_eq_true, Bool.not_eq_false] at hc) <;> first | (first | (exact absurd rfl hc) | (exfalso; omega) | (exact absurd (hc.symm.trans (by assumption : _ = false)) (by decide)) | (exact absurd (hc.symm.trans (by assumption : _ = true)) (by decide))) | skip)))
        | (first | refine JC.seq ?_ | refine JC.region ?_ | refine JC.block ?_ | refine JC.ret ?_ | refine JC.exit ?_ | refine JC.skip ?_ | refine thenK.nn ?_ | refine thenK.r ?_ | refine thenK.x ?_ | refine blockK.nn ?_ | refine blockK.r ?_ | refine blockK.hit rfl ?_ | refine blockK.miss rfl ?_ | refine JC.condT rfl ?_ | refine JC.condF rfl ?_ | (refine JC.cond rfl (fun hc => ?_) (fun hc => ?_) <;> ((try simp only [decide_eq_true_eq, decide_eq_false_iff_not, beq_iff_eq, beq_eq_false_iff_ne, bne_iff_ne, bne_eq_false_iff_eq, Bool.not_eq_true', Bool.not_eq_false', Bool.not_eq_true, Bool.not_eq_false] at hc) <;> first | (first | (exact absurd rfl hc) | (exfalso; omega) | (exact absurd (hc.symm.trans (by assumption : _ = false)) (by decide)) | (exact absurd (hc.symm.trans (by assumption : _ = true)) (by decide))) | skip)) | (refine JC.drawA [] (by kernel_rfl) (by kernel_rfl) ?_) | refine drawK.nn ?_ | refine roundK.nn ?_ | refine roundK.r ?_ | refine roundK.x ?_ | refine loopK.r ?_ | refine loopK.x ?_)
        | (fail)
        | fail
      all_goals first | (exfalso; omega) | skip
      rename_i hn on
      refine loopK.nn (m3 - 1) (by omega) (by repeat (first | refine Ag.upd rfl ?_ | exact Ag.hv)) ⟨j + 1, _, hn, ?_, by omega, ?_, on, rfl⟩
      · show Value.int .i64 _ = _; congr 1
      · rw [List.length_set]; exact hl1
    repeat' first
      | (refine J.isJ ?_; first | (fail) | (first | (refine J.o 0 ?_; refine J.ev' hΓ ?_) | refine J.nil ?_ | refine J.kd ?_ | (refine J.o 4 ?_; first | refine J.e0 hΓ ?_ | refine J.lT default hΓ ?_ | refine J.e1 hΓ ?_ | refine J.e2 hΓ ?_ | refine J.lR hΓ ?_) | (refine J.o 3 ?_; first | refine J.iA hΓ ?_ | refine J.iJ hΓ ?_ | refine J.fP hΓ ?_ | refine J.iC hΓ ?_ | refine J.ev' hΓ ?_) | (refine J.o 1 ?_; first | refine J.ad ?_ | refine J.sb ?_ | refine J.ng ?_ | refine J.mu ?_) | (refine J.o 5 ?_; first | refine J.t0 hΓ ?_ | refine J.t1 hΓ ?_ | refine J.t2 hΓ ?_) | (refine J.o 6 ?_; refine J.bx (fun _ => ?_)) | (refine J.o 7 ?_; refine J.al hΓ (fun _ => ?_)) | (refine J.o 8 ?_; refine J.bd hΓ ?_) | (refine J.o 9 ?_; refine J.bl hΓ (fun _ => ?_)) | (refine J.o 10 ?_; first | refine J.ls hΓ ?_ | refine J.ev' hΓ ?_) | (refine J.o 11 ?_; refine J.ev' hΓ ?_) | refine J.kn ?_) | ((fail_if_success refine J.wt ?_); refine J.gc rfl rfl (fun hc => ?_) (fun hc => ?_) <;> ((try simp only [decide_eq_true_eq, decide_eq_false_iff_not, beq_iff_eq, beq_eq_false_iff_ne, bne_iff_ne, bne_eq_false_iff_eq, Bool.not_eq_true', Bool.not_eq_false', Bool.not_eq_true, Bool.not_eq_false] at hc) <;> first | (first | (exact absurd rfl hc) | (exfalso; omega) | (exact absurd (hc.symm.trans (by assumption : _ = false)) (by decide)) | (exact absurd (hc.symm.trans (by assumption : _ = true)) (by decide))) | skip)))
      | (first | refine JC.seq ?_ | refine JC.region ?_ | refine JC.block ?_ | refine JC.ret ?_ | refine JC.exit ?_ | refine JC.skip ?_ | refine thenK.nn ?_ | refine thenK.r ?_ | refine thenK.x ?_ | refine blockK.nn ?_ | refine blockK.r ?_ | refine blockK.hit rfl ?_ | refine blockK.miss rfl ?_ | refine JC.condT rfl ?_ | refine JC.condF rfl ?_ | (refine JC.cond rfl (fun hc => ?_) (fun hc => ?_) <;> ((try simp only [decide_eq_true_eq, decide_eq_false_iff_not, beq_iff_eq, beq_eq_false_iff_ne, bne_iff_ne, bne_eq_false_iff_eq, Bool.not_eq_true', Bool.not_eq_false', Bool.not_eq_true, Bool.not_eq_false] at hc) <;> first | (first | (exact absurd rfl hc) | (exfalso; omega) | (exact absurd (hc.symm.trans (by assumption : _ = false)) (by decide)) | (exact absurd (hc.symm.trans (by assumption : _ = true)) (by decide))) | skip)) | refine drawK.nn ?_ | refine roundK.nn ?_ | refine roundK.r ?_ | refine roundK.x ?_ | refine loopK.r ?_ | refine loopK.x ?_)
      | (fail)
      | fail
    all_goals first | (exfalso; omega) | skip
    have e1 : (pre ++ hk1 :: post).flatten = pre.flatten ++ (hk1 ++ post.flatten) := by simp
    refine loopK.nn (m - 1) (by omega) (by repeat (first | refine Ag.upd rfl ?_ | exact Ag.hv | refine Ag.hv2 (fun i hi => by simp at hi ⊢; omega) ?_)) ⟨[g0, (pre ++ hk1 :: post).flatten, hcp, [(b1, .cells ⟨encSV s⟩ 24 (0, 0))]], ⟨k + 1, pre ++ hk1 :: post, ?_, by omega, hre hk1 ⟨l1, hl1, ol1⟩, rfl⟩, fun w hw => ?_⟩
    · show Value.int .i64 _ = _; congr 1
    · rw [e1]
      have h1 := H.mg1 (H.sel (l := [_, _, _, _, _, _]) (M := []) hw [0, 3, 2, 1, 4, 5])
      have h2 := H.mg1 (H.sel (l := [_, _, _, _, _]) (M := []) h1 [1, 0, 2, 3, 4])
      exact H.sel (l := [_, _, _, _]) (M := []) h2 [1, 0, 2, 3]
end Go.Proofs.Ytinpcimogojefaa
