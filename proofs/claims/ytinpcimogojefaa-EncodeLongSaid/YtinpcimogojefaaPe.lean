/- EncodeLong's walk. -/
import Derived.Test.YtinpcimogojefaaPd
namespace Go.Proofs.Ytinpcimogojefaa
open Go Go.Cx Go.RowKit
set_option linter.unusedVariables false
set_option linter.unusedSimpArgs false
set_option maxHeartbeats 4000000
attribute [local irreducible] J JC thenK blockK loopK roundK drawK retK QW Qt pel List.set Calls
attribute [local irreducible] JE Br eK0 eK2 eK3 brK
theorem rep_set {α : Type} (a b : α) (k m : Nat) : (List.replicate k a ++ List.replicate (m + 1) b).set k a = List.replicate (k + 1) a ++ List.replicate m b := by
  rw [List.set_append_right _ _ (by simp), List.length_replicate, Nat.sub_self, List.replicate_succ (n := m), List.set_cons_zero, List.replicate_succ', List.append_assoc]
  rfl
theorem rep_getD {α : Type} (a b d : α) (k m : Nat) : (List.replicate k a ++ List.replicate (m + 1) b).getD k d = b := by
  rw [List.getD_eq_getElem?_getD, List.getElem?_append_right (by simp), List.length_replicate, Nat.sub_self, List.replicate_succ]
  rfl
theorem rep_len {α : Type} (a b : α) (k m : Nat) : (List.replicate k a ++ List.replicate m b).length = k + m := by
  rw [List.length_append, List.length_replicate, List.length_replicate]
def svz (k : Int) : SV := ⟨none, 0, [], none, 0, [], k⟩
theorem sum_a (a : Option Addr) (cap : Nat) (w : World) :
    Calls Try.prog 24 #[.int .i64 8, .slice a 16 cap] w (Gives (fun v g => ∃ la lc, v = .agg ⟨[.slice a 16 cap, .slice la 16 lc, .int .i64 8]⟩ ∧ OwT encI 1 3 la lc (litsF 16) g) w) := by
  have c := sumL_any 8 a cap (List.replicate 16 1) [] (by rw [List.length_replicate]; omega) w
  rw [List.length_replicate] at c
  simp only [litsF_len] at c
  exact c
theorem sum_b (a : Option Addr) (cap : Nat) (w : World) :
    Calls Try.prog 24 #[.int .i64 12, .slice a 32 cap] w (Gives (fun v g => ∃ la lc, v = .agg ⟨[.slice a 32 cap, .slice la 32 lc, .int .i64 12]⟩ ∧ OwT encI 1 3 la lc (litsF 32) g) w) := by
  have c := sumL_any 12 a cap (List.replicate 32 1) [] (by rw [List.length_replicate]; omega) w
  rw [List.length_replicate] at c
  simp only [litsF_len] at c
  exact c
def svA (a la : Option Addr) (ca lc : Nat) : SV := ⟨a, ca, List.replicate 16 1, la, lc, litsF 16, 8⟩
def svB (a la : Option Addr) (ca lc : Nat) : SV := ⟨a, ca, List.replicate 16 1 ++ List.replicate 16 1, la, lc, litsF 32, 12⟩
theorem encA (a la : Option Addr) (ca lc : Nat) : encSV (svA a la ca lc) = [.slice a 16 ca, .slice la 16 lc, .int .i64 8] := by
  unfold encSV svA
  simp only [litsF_len, List.length_replicate]
theorem encB (a la : Option Addr) (ca lc : Nat) : encSV (svB a la ca lc) = [.slice a 32 ca, .slice la 32 lc, .int .i64 12] := by
  unfold encSV svB
  simp only [litsF_len, List.length_replicate, List.length_append]
theorem stG (s : SV) (S : PS) (c : Int) (hp : psV s = S) (hc : (stR S).1 = c) {h : Heap} (hs : SIn s h) (hl : s.cs.length ≤ 1000000) (hl2 : s.ls.length ≤ 1000000) (w : World) (hw : Holds h w) :
    Calls Try.prog 16 #[.agg ⟨encSV s⟩] w (Gives (fun v g => ∃ a n cap, v = .tuple #[.slice a n cap, .int .i64 c]) w) := by
  refine (states_any s h hs hl hl2 w hw).mono ?_
  rintro e w' ⟨v, g, h1, h2, h3, h4, h5, a, cap, vs, rfl, _⟩
  rw [hp, hc] at h1
  exact ⟨_, g, h1, h2, h3, h4, h5, a, _, cap, rfl⟩
theorem st_a {a la : Option Addr} {ca lc : Nat} {h1 h2 : Heap} (sa : SlT encI 1 a (List.replicate 16 1) h1) (sl : SlT encI 1 la (litsF 16) h2) (w : World) (hw : Holds (h1 ++ h2) w) :
    Calls Try.prog 16 #[.agg ⟨[.slice a 16 ca, .slice la 16 lc, .int .i64 8]⟩] w (Gives (fun v g => ∃ a n cap, v = .tuple #[.slice a n cap, .int .i64 0]) w) := by
  have c := stG (svA a la ca lc) sA 0 rfl long_a (h := h1 ++ h2) ⟨sa.sub (fun _ hx => List.mem_append_left _ hx), sl.sub (fun _ hx => List.mem_append_right _ hx)⟩ (by show (List.replicate 16 (1 : Int)).length ≤ _; rw [List.length_replicate]; omega) (by show (litsF 16).length ≤ _; rw [litsF_len]; omega) w hw
  rw [encA] at c
  exact c
theorem st_b {a la : Option Addr} {ca lc : Nat} {h1 h2 : Heap} (sa : SlT encI 1 a (List.replicate 16 1 ++ List.replicate 16 1) h1) (sl : SlT encI 1 la (litsF 32) h2) (w : World) (hw : Holds (h1 ++ h2) w) :
    Calls Try.prog 16 #[.agg ⟨[.slice a 32 ca, .slice la 32 lc, .int .i64 12]⟩] w (Gives (fun v g => ∃ a n cap, v = .tuple #[.slice a n cap, .int .i64 2]) w) := by
  have c := stG (svB a la ca lc) sB 2 rfl long_b (h := h1 ++ h2) ⟨sa.sub (fun _ hx => List.mem_append_left _ hx), sl.sub (fun _ hx => List.mem_append_right _ hx)⟩ (by show (List.replicate 16 (1 : Int) ++ List.replicate 16 1).length ≤ _; rw [rep_len]; omega) (by show (litsF 32).length ≤ _; rw [litsF_len]; omega) w hw
  rw [encB] at c
  exact c
theorem enG (n : Int) (a : Option Addr) (cap m : Nat) (ss : List SV) (S : List PS) (c : Int) (h : Heap) (hs : SumsIn a ss h) (hsl : ss.length ≤ 1000000) (hm : m = ss.length) (hp : ss.map psV = S) (hc : (encR n S).1 = c) (w : World) (hw : Holds h w) :
    Calls Try.prog 20 #[.int .i64 n, .slice a m cap] w (Gives (fun v g => ∃ N aa k ka, v = .tuple #[.agg ⟨[.int .i64 N, .slice aa k ka]⟩, .int .i64 c]) w) := by
  refine (encTh n a cap m ss h hs hsl hm w hw).mono ?_
  rintro e w' ⟨v, g, h1, h2, h3, h4, h5, g0, g1, aa, ka, vs, _, rfl, _⟩
  rw [hp, hc] at h1
  exact ⟨_, g, h1, h2, h3, h4, h5, _, aa, _, ka, rfl⟩
theorem oneIn {n2 : Nat} {s : SV} {hS : Heap} (hs : SIn s hS) : SumsIn (some ⟨n2, 0, none⟩) [s] ((n2, .cells ⟨encSV s⟩ 24 (0, 0)) :: hS) := by
  refine ⟨?_, fun x hx => ?_⟩
  · have : SlT encSV 3 (some ⟨n2, 0, none⟩) [s] [(n2, .cells ⟨encSV s⟩ 24 (0, 0))] := OwT.sl (e := 24) (cap := 1) ⟨fun _ => rfl, .inr ⟨n2, _, rfl, rfl, rfl, Nat.le_refl _, rfl⟩⟩
    exact this.sub (fun x hx => by rw [List.mem_singleton.1 hx]; exact List.mem_cons_self)
  · rw [List.mem_singleton.1 hx]
    exact ⟨hs.c.sub (fun _ hx => List.mem_cons_of_mem _ hx), hs.l.sub (fun _ hx => List.mem_cons_of_mem _ hx)⟩
theorem en_c {a la : Option Addr} {ca lc : Nat} {h1 h2 : Heap} (sa : SlT encI 1 a (List.replicate 16 1 ++ List.replicate 16 1) h1) (sl : SlT encI 1 la (litsF 32) h2) {n2 : Nat} (w : World) (hw : Holds ((n2, .cells ⟨[.slice a 32 ca, .slice la 32 lc, .int .i64 12]⟩ 24 (0, 0)) :: (h1 ++ h2)) w) :
    Calls Try.prog 20 #[.int .i64 32, .slice (some ⟨n2, 0, none⟩) 1 1] w (Gives (fun v g => ∃ N aa k ka, v = .tuple #[.agg ⟨[.int .i64 N, .slice aa k ka]⟩, .int .i64 2]) w) := by
  rw [← encB] at hw
  exact enG 32 _ 1 1 [svB a la ca lc] [sB] 2 _ (oneIn ⟨sa.sub (fun _ hx => List.mem_append_left _ hx), sl.sub (fun _ hx => List.mem_append_right _ hx)⟩) (by show 1 ≤ 1000000; omega) rfl rfl long_c w hw
theorem two_own {s : SV} (b : Nat) (t : TypeId) : OwT encSV 3 t (some ⟨b, 0, none⟩) 2 [s, s] [(b, .cells ⟨encSV s ++ encSV s⟩ t (0, 0))] := ⟨fun _ => rfl, .inr ⟨b, _, rfl, rfl, rfl, Nat.le_refl _, rfl⟩⟩
theorem en_d {a la : Option Addr} {ca lc : Nat} {h1 h2 : Heap} (sa : SlT encI 1 a (List.replicate 16 1) h1) (sl : SlT encI 1 la (litsF 16) h2) {n2 : Nat} (w : World) (hw : Holds ((n2, .cells ⟨[.slice a 16 ca, .slice la 16 lc, .int .i64 8] ++ [.slice a 16 ca, .slice la 16 lc, .int .i64 8]⟩ 24 (0, 0)) :: (h1 ++ h2)) w) :
    Calls Try.prog 20 #[.int .i64 16, .slice (some ⟨n2, 0, none⟩) 2 2] w (Gives (fun v g => ∃ N aa k ka, v = .tuple #[.agg ⟨[.int .i64 N, .slice aa k ka]⟩, .int .i64 2]) w) := by
  rw [← encA] at hw
  exact enG 16 _ 2 2 [svA a la ca lc, svA a la ca lc] [sA, sA] 2 _ ⟨(two_own _ _).sl.sub (fun _ hx => by rw [List.mem_singleton.1 hx]; exact List.mem_cons_self), fun s hs => by
    have : s = svA a la ca lc := by simpa using hs
    rw [this]
    exact ⟨sa.sub (fun _ hx => List.mem_cons_of_mem _ (List.mem_append_left _ hx)), sl.sub (fun _ hx => List.mem_cons_of_mem _ (List.mem_append_right _ hx))⟩⟩ (by show 2 ≤ 1000000; omega) rfl rfl long_d w hw
theorem sums_rep {a : Option Addr} {m : Nat} {k : Int} {h : Heap} (o : SlT encSV 3 a (List.replicate m (svz k)) h) : SumsIn a (List.replicate m (svz k)) h := ⟨o, fun s hs => by rw [(List.mem_replicate.1 hs).2]; exact sv0 _ _⟩
theorem en_e {a : Option Addr} {cap m : Nat} {h : Heap} (hm : m = 4097) (o : SlT encSV 3 a (List.replicate m (svz 0)) h) (w : World) (hw : Holds h w) :
    Calls Try.prog 20 #[.int .i64 1, .slice a m cap] w (Gives (fun v g => ∃ N aa k ka, v = .tuple #[.agg ⟨[.int .i64 N, .slice aa k ka]⟩, .int .i64 2]) w) :=
  enG 1 a cap m _ _ 2 h (sums_rep o) (by rw [List.length_replicate]; omega) (by rw [List.length_replicate]) rfl (long_e (by rw [List.length_map, List.length_replicate]; exact hm)) w hw
theorem enH (k : Int) (S : List PS) (T : List (List Int)) {a : Option Addr} {cap m m' : Nat} {h : Heap} (hS : List.replicate m (([], [], k) : PS) = S) (hc : encR 128 S = (0, 128, T)) (hm : m ≤ m') (hm2 : m ≤ 1000000) (o : SlT encSV 3 a (List.replicate m' (svz k)) h) (w : World) (hw : Holds h w) :
    Calls Try.prog 20 #[.int .i64 128, .slice a m cap] w (Gives (fun v g => ∃ aa ka, v = .tuple #[.agg ⟨[.int .i64 128, .slice aa T.length ka]⟩, .int .i64 0]) w) := by
  have o2 := slT_take o m
  rw [List.take_replicate, Nat.min_eq_left hm] at o2
  refine (encTh 128 a cap m _ h (sums_rep o2) (by rw [List.length_replicate]; omega) (by rw [List.length_replicate]) w hw).mono ?_
  rintro e w' ⟨v, g, h1, h2, h3, h4, h5, g0, g1, aa, ka, vs, _, rfl, _, _, hvs⟩
  rw [List.map_replicate] at h1 hvs
  rw [show List.replicate m (psV (svz k)) = S from hS, hc] at h1 hvs
  have hl := congrArg List.length hvs
  rw [List.length_map] at hl
  rw [hl] at h1
  exact ⟨_, g, h1, h2, h3, h4, h5, aa, ka, rfl⟩
set_option maxHeartbeats 16000000 in
set_option maxRecDepth 20000 in
theorem long_walk (w : World) : Calls Try.prog 8 #[] w fun e w' => e = .returned (.bool true) ∧ Below w.heap.size w w' := by
  refine calls_of_JC (R := []) Try.func8 Try.ntmps8 rfl rfl (Holds.nil _) ?_
  repeat' first
    | (refine J.isJ ?_; first | ((refine J.o 9 ?_; refine J.make (enc := encI) (m := 16) (0 : Int) hΓ rfl rfl rfl rfl rfl rfl (fun _ => rfl) (by omega) (by omega) (fun bo ho oo => ?_))) | (first | (refine J.o 0 ?_; refine J.ev' hΓ ?_) | refine J.nil ?_ | refine J.kd ?_ | (refine J.o 4 ?_; first | refine J.e0 hΓ ?_ | refine J.lT default hΓ ?_ | refine J.e1 hΓ ?_ | refine J.e2 hΓ ?_ | refine J.lR hΓ ?_) | (refine J.o 3 ?_; first | refine J.iA hΓ ?_ | refine J.iJ hΓ ?_ | refine J.fP hΓ ?_ | refine J.iC hΓ ?_ | refine J.ev' hΓ ?_) | (refine J.o 1 ?_; first | refine J.ad ?_ | refine J.sb ?_ | refine J.ng ?_ | refine J.mu ?_) | (refine J.o 5 ?_; first | refine J.t0 hΓ ?_ | refine J.t1 hΓ ?_ | refine J.t2 hΓ ?_) | (refine J.o 6 ?_; refine J.bx (fun _ => ?_)) | (refine J.o 7 ?_; refine J.al hΓ (fun _ => ?_)) | (refine J.o 8 ?_; refine J.bd hΓ ?_) | (refine J.o 9 ?_; refine J.bl hΓ (fun _ => ?_)) | (refine J.o 10 ?_; first | refine J.ls hΓ ?_ | refine J.ev' hΓ ?_) | (refine J.o 11 ?_; refine J.ev' hΓ ?_) | refine J.kn ?_) | ((fail_if_success refine J.wt ?_); refine J.gc rfl rfl (fun hc => ?_) (fun hc => ?_) <;> ((try simp only [decide_eq_true_eq, decide_eq_false_iff_not, beq_iff_eq, beq_eq_false_iff_ne, bne_iff_ne, bne_eq_false_iff_eq, Bool.not_eq_true', Bool.not_eq_false', Bool.not_eq_true, Bool.not_eq_false] at hc) <;> first | (first | (exact absurd rfl hc) | (exfalso; omega) | (exact absurd (hc.symm.trans (by assumption : _ = false)) (by decide)) | (exact absurd (hc.symm.trans (by assumption : _ = true)) (by decide))) | skip)))
    | (first | refine JC.seq ?_ | refine JC.region ?_ | refine JC.block ?_ | refine JC.ret ?_ | refine JC.exit ?_ | refine JC.skip ?_ | refine thenK.nn ?_ | refine thenK.r ?_ | refine thenK.x ?_ | refine blockK.nn ?_ | refine blockK.r ?_ | refine blockK.hit rfl ?_ | refine blockK.miss rfl ?_ | refine JC.condT rfl ?_ | refine JC.condF rfl ?_ | (refine JC.cond rfl (fun hc => ?_) (fun hc => ?_) <;> ((try simp only [decide_eq_true_eq, decide_eq_false_iff_not, beq_iff_eq, beq_eq_false_iff_ne, bne_iff_ne, bne_eq_false_iff_eq, Bool.not_eq_true', Bool.not_eq_false', Bool.not_eq_true, Bool.not_eq_false] at hc) <;> first | (first | (exact absurd rfl hc) | (exfalso; omega) | (exact absurd (hc.symm.trans (by assumption : _ = false)) (by decide)) | (exact absurd (hc.symm.trans (by assumption : _ = true)) (by decide))) | skip)) | (refine JC.drawA [] (by kernel_rfl) (by kernel_rfl) ?_) | refine drawK.nn ?_ | refine roundK.nn ?_ | refine roundK.r ?_ | refine roundK.x ?_ | refine loopK.r ?_ | refine loopK.x ?_)
    | (fail)
    | fail
  all_goals first | (exfalso; omega) | skip
  refine JC.gen [(0, .bool false), (1, .slice (some ⟨bo, 0, none⟩) 16 16), (23, .int .i64 16), (24, .int .i64 0)] ⟨rfl, rfl, rfl, rfl, trivial⟩ (fun F => ?_)
  refine JC.loopG (fun i => i == 2 || Nat.ble 24 i) (fun m g L => ∃ (k : Nat) (hk : Heap), g 24 = .int .i64 (k : Int) ∧ k + m = 16 ∧ OwT encI 1 3 (some ⟨bo, 0, none⟩) 16 (List.replicate k 1 ++ List.replicate m 0) hk ∧ L = [hk]) 16 ⟨0, ho, rfl, rfl, oo, rfl⟩ ?_
  rintro m g L ⟨k, hk, e24, hkm, ok, rfl⟩
  refine JC.pin 24 e24 ?_
  clear e24
  have hl16 := rep_len (1 : Int) 0 k m
  cases m with
  | succ m =>
    repeat' first
      | (refine J.isJ ?_; first | (first | (refine J.o 3 ?_; refine J.iJ hΓ ?_ (hlen := by omega)) | (refine J.o 5 ?_; refine J.tT (1 : Int) 0 hΓ (fun h4 o4 => ?_) (hi := by omega))) | (first | (refine J.o 0 ?_; refine J.ev' hΓ ?_) | refine J.nil ?_ | refine J.kd ?_ | (refine J.o 4 ?_; first | refine J.e0 hΓ ?_ | refine J.lT default hΓ ?_ | refine J.e1 hΓ ?_ | refine J.e2 hΓ ?_ | refine J.lR hΓ ?_) | (refine J.o 3 ?_; first | refine J.iA hΓ ?_ | refine J.iJ hΓ ?_ | refine J.fP hΓ ?_ | refine J.iC hΓ ?_ | refine J.ev' hΓ ?_) | (refine J.o 1 ?_; first | refine J.ad ?_ | refine J.sb ?_ | refine J.ng ?_ | refine J.mu ?_) | (refine J.o 5 ?_; first | refine J.t0 hΓ ?_ | refine J.t1 hΓ ?_ | refine J.t2 hΓ ?_) | (refine J.o 6 ?_; refine J.bx (fun _ => ?_)) | (refine J.o 7 ?_; refine J.al hΓ (fun _ => ?_)) | (refine J.o 8 ?_; refine J.bd hΓ ?_) | (refine J.o 9 ?_; refine J.bl hΓ (fun _ => ?_)) | (refine J.o 10 ?_; first | refine J.ls hΓ ?_ | refine J.ev' hΓ ?_) | (refine J.o 11 ?_; refine J.ev' hΓ ?_) | refine J.kn ?_) | ((fail_if_success refine J.wt ?_); refine J.gc rfl rfl (fun hc => ?_) (fun hc => ?_) <;> ((try simp only [decide_eq_true_eq, decide_eq_false_iff_not, beq_iff_eq, beq_eq_false_iff_ne, bne_iff_ne, bne_eq_false_iff_eq, Bool.not_eq_true', Bool.not_eq_false', Bool.not_eq_true, Bool.not_eq_false] at hc) <;> first | (first | (exact absurd rfl hc) | (exfalso; omega) | (exact absurd (hc.symm.trans (by assumption : _ = false)) (by decide)) | (exact absurd (hc.symm.trans (by assumption : _ = true)) (by decide))) | skip)))
      | (first | refine JC.seq ?_ | refine JC.region ?_ | refine JC.block ?_ | refine JC.ret ?_ | refine JC.exit ?_ | refine JC.skip ?_ | refine thenK.nn ?_ | refine thenK.r ?_ | refine thenK.x ?_ | refine blockK.nn ?_ | refine blockK.r ?_ | refine blockK.hit rfl ?_ | refine blockK.miss rfl ?_ | refine JC.condT rfl ?_ | refine JC.condF rfl ?_ | (refine JC.cond rfl (fun hc => ?_) (fun hc => ?_) <;> ((try simp only [decide_eq_true_eq, decide_eq_false_iff_not, beq_iff_eq, beq_eq_false_iff_ne, bne_iff_ne, bne_eq_false_iff_eq, Bool.not_eq_true', Bool.not_eq_false', Bool.not_eq_true, Bool.not_eq_false] at hc) <;> first | (first | (exact absurd rfl hc) | (exfalso; omega) | (exact absurd (hc.symm.trans (by assumption : _ = false)) (by decide)) | (exact absurd (hc.symm.trans (by assumption : _ = true)) (by decide))) | skip)) | refine drawK.nn ?_ | refine roundK.nn ?_ | refine roundK.r ?_ | refine roundK.x ?_ | refine loopK.r ?_ | refine loopK.x ?_)
      | (fail)
      | fail
    all_goals first | (exfalso; omega) | skip
    rw [rep_set] at o4
    refine loopK.nn m (by omega) (by repeat (first | refine Ag.upd rfl ?_ | exact Ag.hv)) ⟨_, ⟨k + 1, h4, ?_, by omega, o4, rfl⟩, fun w hw => hw⟩
    show Value.int .i64 _ = _; congr 1
  | zero =>
    obtain rfl : k = 16 := by omega
    rw [show List.replicate 16 (1 : Int) ++ List.replicate 0 0 = List.replicate 16 1 from List.append_nil _] at ok
    have sk := ok.sl
    have hl1 : (List.replicate 16 (1 : Int)).length = 16 := List.length_replicate
    repeat' first
      | (refine J.isJ ?_; first | (first | (refine J.fc 24 ?_; refine J.call1 eSumL rfl rfl (fun w hw => sum_a _ _ w) ?_; rintro _ hla ⟨la, lc, rfl, ola⟩) | (refine J.o 9 ?_; refine apG hΓ sk sk RdH.hd.tl.tl RdH.hd.tl.tl (fun a2 c2 h2 o2 => ?_) (hlen := hl1) (hm := hl1)) | (refine J.fc 24 ?_; refine J.call1 eSumL rfl rfl (fun w hw => sum_b _ _ w) ?_; rintro _ hlb ⟨lb, kb, rfl, olb⟩) | (refine J.o 4 ?_; first | refine J.lR hΓ ?_ (hr := Rd.hd) | refine J.lR hΓ ?_ (hr := Rd.hd.tl) | refine J.lR hΓ ?_ (hr := Rd.hd.tl.tl) | refine J.lR hΓ ?_ (hr := Rd.hd.tl.tl.tl) | refine J.lR hΓ ?_ (hr := Rd.hd.tl.tl.tl.tl) | refine J.lR hΓ ?_ (hr := Rd.hd.tl.tl.tl.tl.tl) | refine J.lR hΓ ?_ (hr := Rd.hd.tl.tl.tl.tl.tl.tl) | refine J.lR hΓ ?_ (hr := Rd.hd.tl.tl.tl.tl.tl.tl.tl) | refine J.lR hΓ ?_ (hr := Rd.hd.tl.tl.tl.tl.tl.tl.tl.tl) | refine J.lR hΓ ?_ (hr := Rd.hd.tl.tl.tl.tl.tl.tl.tl.tl.tl) | refine J.lR hΓ ?_ (hr := Rd.hd.tl.tl.tl.tl.tl.tl.tl.tl.tl.tl) | refine J.lR hΓ ?_ (hr := Rd.hd.tl.tl.tl.tl.tl.tl.tl.tl.tl.tl.tl) | refine J.lR hΓ ?_ (hr := Rd.hd.tl.tl.tl.tl.tl.tl.tl.tl.tl.tl.tl.tl) | refine J.lR hΓ ?_ (hr := Rd.hd.tl.tl.tl.tl.tl.tl.tl.tl.tl.tl.tl.tl.tl)) | (refine J.fc 16 ?_; refine J.call1 eStates rfl rfl (fun w hw => st_a sk ola.sl w (hw.rdH (RdH.append RdH.hd.tl.tl.tl.tl.tl RdH.hd.tl.tl.tl.tl))) ?_; rintro _ g1 ⟨_, _, _, rfl⟩) | (refine J.fc 16 ?_; refine J.call1 eStates rfl rfl (fun w hw => st_b o2.sl olb.sl w (hw.rdH (RdH.append RdH.hd.tl.tl.tl RdH.hd.tl.tl))) ?_; rintro _ g2 ⟨_, _, _, rfl⟩) | (refine J.fc 20 ?_; refine J.call1 eEncode rfl rfl (fun w hw => en_c o2.sl olb.sl w (fun x h => hw.rd (rdc Rd.hd (RdH.append RdH.hd.tl.tl.tl.tl.tl RdH.hd.tl.tl.tl.tl) x h))) ?_; rintro _ g3 ⟨_, _, _, _, rfl⟩) | (refine J.fc 20 ?_; refine J.call1 eEncode rfl rfl (fun w hw => en_d sk ola.sl w (fun x h => hw.rd (rdc Rd.hd (RdH.append RdH.hd.tl.tl.tl.tl.tl.tl.tl.tl.tl.tl.tl RdH.hd.tl.tl.tl.tl.tl.tl.tl.tl.tl.tl) x h))) ?_; rintro _ g4 ⟨_, _, _, _, rfl⟩) | (refine J.o 9 ?_; refine J.make (enc := encSV) (m := 4097) (svz 0) hΓ rfl rfl rfl rfl rfl rfl (fun _ => rfl) (by omega) (by omega) (fun bm hm om => ?_)) | (refine J.fc 20 ?_; refine J.call1 eEncode rfl rfl (fun w hw => en_e rfl om.sl w (hw.rdH RdH.hd)) ?_; rintro _ g5 ⟨_, _, _, _, rfl⟩) | (refine J.fc 20 ?_; refine J.call1 eEncode rfl rfl (fun w hw => enH 0 _ [] rfl long_f (by omega) (by omega) om.sl w (hw.rdH RdH.hd.tl.tl)) ?_; rintro _ g6 ⟨aF, kF, rfl⟩) | (refine J.o 13 ?_; refine slF (m := 4096) hΓ ?_)) | (first | (refine J.o 0 ?_; refine J.ev' hΓ ?_) | refine J.nil ?_ | refine J.kd ?_ | (refine J.o 4 ?_; first | refine J.e0 hΓ ?_ | refine J.lT default hΓ ?_ | refine J.e1 hΓ ?_ | refine J.e2 hΓ ?_ | refine J.lR hΓ ?_) | (refine J.o 3 ?_; first | refine J.iA hΓ ?_ | refine J.iJ hΓ ?_ | refine J.fP hΓ ?_ | refine J.iC hΓ ?_ | refine J.ev' hΓ ?_) | (refine J.o 1 ?_; first | refine J.ad ?_ | refine J.sb ?_ | refine J.ng ?_ | refine J.mu ?_) | (refine J.o 5 ?_; first | refine J.t0 hΓ ?_ | refine J.t1 hΓ ?_ | refine J.t2 hΓ ?_) | (refine J.o 6 ?_; refine J.bx (fun _ => ?_)) | (refine J.o 7 ?_; refine J.al hΓ (fun _ => ?_)) | (refine J.o 8 ?_; refine J.bd hΓ ?_) | (refine J.o 9 ?_; refine J.bl hΓ (fun _ => ?_)) | (refine J.o 10 ?_; first | refine J.ls hΓ ?_ | refine J.ev' hΓ ?_) | (refine J.o 11 ?_; refine J.ev' hΓ ?_) | refine J.kn ?_) | ((fail_if_success refine J.wt ?_); refine J.gc rfl rfl (fun hc => ?_) (fun hc => ?_) <;> ((try simp only [decide_eq_true_eq, decide_eq_false_iff_not, beq_iff_eq, beq_eq_false_iff_ne, bne_iff_ne, bne_eq_false_iff_eq, Bool.not_eq_true', Bool.not_eq_false', Bool.not_eq_true, Bool.not_eq_false] at hc) <;> first | (first | (exact absurd rfl hc) | (exfalso; omega) | (exact absurd (hc.symm.trans (by assumption : _ = false)) (by decide)) | (exact absurd (hc.symm.trans (by assumption : _ = true)) (by decide))) | skip)))
      | (first | refine JC.seq ?_ | refine JC.region ?_ | refine JC.block ?_ | refine JC.ret ?_ | refine JC.exit ?_ | refine JC.skip ?_ | refine thenK.nn ?_ | refine thenK.r ?_ | refine thenK.x ?_ | refine blockK.nn ?_ | refine blockK.r ?_ | refine blockK.hit rfl ?_ | refine blockK.miss rfl ?_ | refine JC.condT rfl ?_ | refine JC.condF rfl ?_ | (refine JC.cond rfl (fun hc => ?_) (fun hc => ?_) <;> ((try simp only [decide_eq_true_eq, decide_eq_false_iff_not, beq_iff_eq, beq_eq_false_iff_ne, bne_iff_ne, bne_eq_false_iff_eq, Bool.not_eq_true', Bool.not_eq_false', Bool.not_eq_true, Bool.not_eq_false] at hc) <;> first | (first | (exact absurd rfl hc) | (exfalso; omega) | (exact absurd (hc.symm.trans (by assumption : _ = false)) (by decide)) | (exact absurd (hc.symm.trans (by assumption : _ = true)) (by decide))) | skip)) | (refine JC.drawA [] (by kernel_rfl) (by kernel_rfl) ?_) | refine drawK.nn ?_ | refine roundK.nn ?_ | refine roundK.r ?_ | refine roundK.x ?_ | refine loopK.r ?_ | refine loopK.x ?_)
      | (fail)
      | fail
    all_goals first | (exfalso; omega) | skip
    rename_i b16
    refine JC.weak (L' := [hm, [(b16, .cells ⟨[.int .i64 128, .slice aF 0 kF]⟩ 37 (0, 0))]]) (fun w hw => H.sel (l := [_, _, _, _, _, _, _, _, _, _, _, _, _, _, _, _, _, _, _]) (M := []) hw [4, 0]) ?_
    obtain ⟨Mm, hMm⟩ : ∃ M : Nat, M = 4097 := ⟨_, rfl⟩
    rw [← hMm] at om
    refine JC.gen [(0, .bool false), (6, .int .i64 0), (8, .int .i64 2), (10, .int .i64 2), (12, .int .i64 2), (13, .slice (some ⟨bm, 0, none⟩) 4097 4097), (15, .int .i64 2), (16, .pointer (some ⟨b16, 0, none⟩)), (17, .int .i64 0), (73, .int .i64 4097), (74, .int .i64 0)] ⟨rfl, rfl, rfl, rfl, rfl, rfl, rfl, rfl, rfl, rfl, rfl, trivial⟩ (fun F => ?_)
    refine JC.loopG (fun i => i == 18 || Nat.ble 74 i) (fun m g L => ∃ (k : Nat) (hk : Heap), g 74 = .int .i64 (k : Int) ∧ k + m = Mm ∧ OwT encSV 3 24 (some ⟨bm, 0, none⟩) Mm (List.replicate k (svz 1) ++ List.replicate m (svz 0)) hk ∧ L = [hk, [(b16, .cells ⟨[.int .i64 128, .slice aF 0 kF]⟩ 37 (0, 0))]]) Mm ⟨0, hm, rfl, Nat.zero_add _, om, rfl⟩ ?_
    rintro m g L ⟨k, hk, e74, hkm, ok, rfl⟩
    refine JC.pin 74 e74 ?_
    clear e74
    have hlM := rep_len (svz 1) (svz 0) k m
    cases m with
    | succ m =>
      repeat' first
        | (refine J.isJ ?_; first | (first | (refine J.o 3 ?_; refine J.iJ hΓ ?_ (hlen := by omega)) | (refine J.o 5 ?_; refine J.tT (svz 1) (svz 0) hΓ (fun h4 o4 => ?_) (hi := by omega) (hcl := by rw [rep_getD]; exact rfl))) | (first | (refine J.o 0 ?_; refine J.ev' hΓ ?_) | refine J.nil ?_ | refine J.kd ?_ | (refine J.o 4 ?_; first | refine J.e0 hΓ ?_ | refine J.lT default hΓ ?_ | refine J.e1 hΓ ?_ | refine J.e2 hΓ ?_ | refine J.lR hΓ ?_) | (refine J.o 3 ?_; first | refine J.iA hΓ ?_ | refine J.iJ hΓ ?_ | refine J.fP hΓ ?_ | refine J.iC hΓ ?_ | refine J.ev' hΓ ?_) | (refine J.o 1 ?_; first | refine J.ad ?_ | refine J.sb ?_ | refine J.ng ?_ | refine J.mu ?_) | (refine J.o 5 ?_; first | refine J.t0 hΓ ?_ | refine J.t1 hΓ ?_ | refine J.t2 hΓ ?_) | (refine J.o 6 ?_; refine J.bx (fun _ => ?_)) | (refine J.o 7 ?_; refine J.al hΓ (fun _ => ?_)) | (refine J.o 8 ?_; refine J.bd hΓ ?_) | (refine J.o 9 ?_; refine J.bl hΓ (fun _ => ?_)) | (refine J.o 10 ?_; first | refine J.ls hΓ ?_ | refine J.ev' hΓ ?_) | (refine J.o 11 ?_; refine J.ev' hΓ ?_) | refine J.kn ?_) | ((fail_if_success refine J.wt ?_); refine J.gc rfl rfl (fun hc => ?_) (fun hc => ?_) <;> ((try simp only [decide_eq_true_eq, decide_eq_false_iff_not, beq_iff_eq, beq_eq_false_iff_ne, bne_iff_ne, bne_eq_false_iff_eq, Bool.not_eq_true', Bool.not_eq_false', Bool.not_eq_true, Bool.not_eq_false] at hc) <;> first | (first | (exact absurd rfl hc) | (exfalso; omega) | (exact absurd (hc.symm.trans (by assumption : _ = false)) (by decide)) | (exact absurd (hc.symm.trans (by assumption : _ = true)) (by decide))) | skip)))
        | (first | refine JC.seq ?_ | refine JC.region ?_ | refine JC.block ?_ | refine JC.ret ?_ | refine JC.exit ?_ | refine JC.skip ?_ | refine thenK.nn ?_ | refine thenK.r ?_ | refine thenK.x ?_ | refine blockK.nn ?_ | refine blockK.r ?_ | refine blockK.hit rfl ?_ | refine blockK.miss rfl ?_ | refine JC.condT rfl ?_ | refine JC.condF rfl ?_ | (refine JC.cond rfl (fun hc => ?_) (fun hc => ?_) <;> ((try simp only [decide_eq_true_eq, decide_eq_false_iff_not, beq_iff_eq, beq_eq_false_iff_ne, bne_iff_ne, bne_eq_false_iff_eq, Bool.not_eq_true', Bool.not_eq_false', Bool.not_eq_true, Bool.not_eq_false] at hc) <;> first | (first | (exact absurd rfl hc) | (exfalso; omega) | (exact absurd (hc.symm.trans (by assumption : _ = false)) (by decide)) | (exact absurd (hc.symm.trans (by assumption : _ = true)) (by decide))) | skip)) | refine drawK.nn ?_ | refine roundK.nn ?_ | refine roundK.r ?_ | refine roundK.x ?_ | refine loopK.r ?_ | refine loopK.x ?_)
        | (fail)
        | fail
      all_goals first | (exfalso; omega) | skip
      rw [rep_set] at o4
      refine loopK.nn m (by omega) (by repeat (first | refine Ag.upd rfl ?_ | exact Ag.hv)) ⟨_, ⟨k + 1, h4, ?_, by omega, o4, rfl⟩, fun w hw => hw⟩
      show Value.int .i64 _ = _; congr 1
    | zero =>
      obtain rfl : k = Mm := by omega
      rw [show List.replicate k (svz 1) ++ List.replicate 0 (svz 0) = List.replicate k (svz 1) from List.append_nil _] at ok
      have sm := ok.sl
      repeat' first
        | (refine J.isJ ?_; first | (first | (refine J.fc 20 ?_; refine J.call1 eEncode rfl rfl (fun w hw => enH 1 _ (List.replicate 4096 []) rfl long_g (by omega) (by omega) sm w (hw.rdH RdH.hd)) ?_; rintro _ g7 ⟨aG, kG, rfl⟩; rw [List.length_replicate]) | (refine J.o 13 ?_; refine slF (m := 4096) hΓ ?_) | (refine J.o 4 ?_; first | refine J.e0 hΓ ?_ | refine J.e3 hΓ ?_) | (refine J.fc 14 ?_; refine J.call0 eWorks rfl rfl (fun w hw => works_any w) ?_)) | (first | (refine J.o 0 ?_; refine J.ev' hΓ ?_) | refine J.nil ?_ | refine J.kd ?_ | (refine J.o 4 ?_; first | refine J.e0 hΓ ?_ | refine J.lT default hΓ ?_ | refine J.e1 hΓ ?_ | refine J.e2 hΓ ?_ | refine J.lR hΓ ?_) | (refine J.o 3 ?_; first | refine J.iA hΓ ?_ | refine J.iJ hΓ ?_ | refine J.fP hΓ ?_ | refine J.iC hΓ ?_ | refine J.ev' hΓ ?_) | (refine J.o 1 ?_; first | refine J.ad ?_ | refine J.sb ?_ | refine J.ng ?_ | refine J.mu ?_) | (refine J.o 5 ?_; first | refine J.t0 hΓ ?_ | refine J.t1 hΓ ?_ | refine J.t2 hΓ ?_) | (refine J.o 6 ?_; refine J.bx (fun _ => ?_)) | (refine J.o 7 ?_; refine J.al hΓ (fun _ => ?_)) | (refine J.o 8 ?_; refine J.bd hΓ ?_) | (refine J.o 9 ?_; refine J.bl hΓ (fun _ => ?_)) | (refine J.o 10 ?_; first | refine J.ls hΓ ?_ | refine J.ev' hΓ ?_) | (refine J.o 11 ?_; refine J.ev' hΓ ?_) | refine J.kn ?_) | ((fail_if_success refine J.wt ?_); refine J.gc rfl rfl (fun hc => ?_) (fun hc => ?_) <;> ((try simp only [decide_eq_true_eq, decide_eq_false_iff_not, beq_iff_eq, beq_eq_false_iff_ne, bne_iff_ne, bne_eq_false_iff_eq, Bool.not_eq_true', Bool.not_eq_false', Bool.not_eq_true, Bool.not_eq_false] at hc) <;> first | (first | (exact absurd rfl hc) | (exfalso; omega) | (exact absurd (hc.symm.trans (by assumption : _ = false)) (by decide)) | (exact absurd (hc.symm.trans (by assumption : _ = true)) (by decide))) | skip)))
        | (first | refine JC.seq ?_ | refine JC.region ?_ | refine JC.block ?_ | refine JC.ret ?_ | refine JC.exit ?_ | refine JC.skip ?_ | refine thenK.nn ?_ | refine thenK.r ?_ | refine thenK.x ?_ | refine blockK.nn ?_ | refine blockK.r ?_ | refine blockK.hit rfl ?_ | refine blockK.miss rfl ?_ | refine JC.condT rfl ?_ | refine JC.condF rfl ?_ | (refine JC.cond rfl (fun hc => ?_) (fun hc => ?_) <;> ((try simp only [decide_eq_true_eq, decide_eq_false_iff_not, beq_iff_eq, beq_eq_false_iff_ne, bne_iff_ne, bne_eq_false_iff_eq, Bool.not_eq_true', Bool.not_eq_false', Bool.not_eq_true, Bool.not_eq_false] at hc) <;> first | (first | (exact absurd rfl hc) | (exfalso; omega) | (exact absurd (hc.symm.trans (by assumption : _ = false)) (by decide)) | (exact absurd (hc.symm.trans (by assumption : _ = true)) (by decide))) | skip)) | (refine JC.drawA [] (by kernel_rfl) (by kernel_rfl) ?_) | refine drawK.nn ?_ | refine roundK.nn ?_ | refine roundK.r ?_ | refine roundK.x ?_ | refine loopK.r ?_ | refine loopK.x ?_)
        | (fail)
        | fail
      all_goals first | (exfalso; omega) | exact ret1f rfl rfl rfl (fun w1 hw => ⟨rfl, hw.below⟩) | skip
end Go.Proofs.Ytinpcimogojefaa
