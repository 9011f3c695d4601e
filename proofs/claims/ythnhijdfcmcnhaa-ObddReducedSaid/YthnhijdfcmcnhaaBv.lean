/- Var, Parts. -/
import Derived.Test.YthnhijdfcmcnhaaBu
import Derived.Test.YthnhijdfcmcnhaaBt
namespace Go.Proofs.Ythnhijdfcmcnhaa
open Go Go.Cx Go.RowKit
set_option linter.unusedVariables false
set_option linter.unusedSimpArgs false
set_option maxHeartbeats 4000000
attribute [local irreducible] J JC thenK blockK loopK roundK drawK retK QW Qt pel List.set Calls
open Go.Maps
set_option maxRecDepth 8000
attribute [local irreducible] JE Br eK0 eK2 eK3 brK pc
theorem eVarC : Entr Try.prog 73 := Entr.of Try.func73 rfl rfl
theorem eVarS : Entr Try.prog 25 := Entr.of Try.func25 rfl rfl
theorem slNil (h : Heap) : SlT encI 1 none ([] : List Int) h := ⟨fun _ => rfl, fun i hi => absurd hi (Nat.not_lt_zero i)⟩
theorem VarC_any {n : Nat} {K : KS} {s : SS} (so : SOk n K s) (k : Nat) (hk : k < n) (hfull : s.ns.length + 1 ≤ 1048576) {w0 w : World} {R : Heap} {L : List Heap} {b0 c1 d1 : Nat} (r1 : Rd R L c1 (ptrS b0)) (r2 : Rd R L d1 (intO k)) (hw : H w0 R (sF K b0 s ++ L) w) :
    Calls Try.prog 73 #[.pointer (some ⟨c1, 0, none⟩), .pointer (some ⟨d1, 0, none⟩)] w fun e w' => ∃ v L', e = .returned v ∧ H w0 R L' w' ∧ ∃ s' y, v = .int .i64 ((y : Nat) : Int) ∧ L' = sF K b0 s' ++ L ∧ Res n K s s' 1 y (fun α => α k) := by
  have two := so.wf.two
  have n8 := so.n8
  unfold ptrS at r1
  unfold intO at r2
  unfold sF at hw
  simp only [List.cons_append, List.nil_append] at hw
  refine calls_in Try.func73 Try.ntmps73 rfl rfl (hw) ?_
  repeat' first
    | (refine J.isJ ?_; first | (first | (refine J.o 4 ?_; first | refine J.lR hΓ ?_ (hr := r1.tl.tl.tl.tl) | refine J.lR hΓ ?_ (hr := r2.tl.tl.tl.tl)) | (refine J.fc 74 ?_; refine J.callx eAdd rfl rfl (fun w hw => add_any so ⟨k, 0, 1⟩ hk (show 0 < s.ns.length by omega) (show 1 < s.ns.length by omega) (show k < (nd s.ns 0).p by rw [so.wf.c0]; exact hk) (show k < (nd s.ns 1).p by rw [so.wf.c1]; exact hk) (by omega) hw) ?_; rintro _ _ ⟨s1, y1, rfl, rfl, ad1, it1⟩)) | (first | (refine J.o 0 ?_; refine J.ev' hΓ ?_) | refine J.nil ?_ | refine J.kd ?_ | (refine J.o 4 ?_; first | refine J.lT default hΓ ?_ | refine J.lR hΓ ?_) | (refine J.o 3 ?_; first | refine J.iA hΓ ?_ | refine J.iJ hΓ ?_ | refine J.fP hΓ ?_ | refine J.iC hΓ ?_ | refine J.ev' hΓ ?_) | (refine J.o 1 ?_; first | refine J.ad ?_ | refine J.sb ?_ | refine J.ng ?_ | refine J.mu ?_) | (refine J.o 5 ?_; first | refine J.t0 hΓ ?_ | refine J.t1 hΓ ?_ | refine J.t2 hΓ ?_ | refine J.tT _ default hΓ (fun _ _ => ?_) | refine J.tT1 _ default hΓ (fun _ _ => ?_) | refine J.tT2 _ default hΓ (fun _ _ => ?_)) | (refine J.o 6 ?_; refine J.bx (fun _ => ?_)) | (refine J.o 7 ?_; refine J.al hΓ (fun _ => ?_)) | (refine J.o 8 ?_; refine J.bd hΓ ?_) | (refine J.o 9 ?_; refine J.bl hΓ (fun _ => ?_)) | (refine J.o 10 ?_; refine J.ev' hΓ ?_) | (refine J.o 11 ?_; refine J.ev' hΓ ?_) | (refine J.o 14 ?_; refine J.mf hΓ ?_) | refine J.kn ?_) | ((fail_if_success refine J.wt ?_); refine J.gc rfl rfl (fun hc => ?_) (fun hc => ?_) <;> ((try simp only [decide_eq_true_eq, decide_eq_false_iff_not, beq_iff_eq, beq_eq_false_iff_ne, bne_iff_ne, bne_eq_false_iff_eq, Bool.not_eq_true', Bool.not_eq_false', Bool.not_eq_true, Bool.not_eq_false] at hc) <;> first | (first | (exact absurd rfl hc) | (exfalso; omega) | (exact absurd (hc.symm.trans (by assumption : _ = false)) (by decide)) | (exact absurd (hc.symm.trans (by assumption : _ = true)) (by decide))) | skip)))
    | (first | refine JC.seq ?_ | refine JC.region ?_ | refine JC.block ?_ | refine JC.ret ?_ | refine JC.exit ?_ | refine JC.skip ?_ | refine thenK.nn ?_ | refine thenK.r ?_ | refine thenK.x ?_ | refine blockK.nn ?_ | refine blockK.r ?_ | refine blockK.hit rfl ?_ | refine blockK.miss rfl ?_ | refine JC.condT rfl ?_ | refine JC.condF rfl ?_ | (refine JC.cond rfl (fun hc => ?_) (fun hc => ?_) <;> ((try simp only [decide_eq_true_eq, decide_eq_false_iff_not, beq_iff_eq, beq_eq_false_iff_ne, bne_iff_ne, bne_eq_false_iff_eq, Bool.not_eq_true', Bool.not_eq_false', Bool.not_eq_true, Bool.not_eq_false] at hc) <;> first | (first | (exact absurd rfl hc) | (exfalso; omega) | (exact absurd (hc.symm.trans (by assumption : _ = false)) (by decide)) | (exact absurd (hc.symm.trans (by assumption : _ = true)) (by decide))) | skip)) | (refine JC.drawA [] (by kernel_rfl) (by kernel_rfl) ?_) | refine drawK.nn ?_ | refine roundK.nn ?_ | refine roundK.r ?_ | refine roundK.x ?_ | refine loopK.r ?_ | refine loopK.x ?_)
    | (fail)
    | fail
  refine ret1f rfl rfl rfl (fun w1 hw => ⟨_, _, rfl, hw, s1, y1, rfl, rfl, ad1, fun α => ?_⟩)
  rw [it1 α]
  show (if α k then fn n s1.ns 1 α else fn n s1.ns 0 α) = α k
  rw [fn_0 ad1.ok.wf, fn_1 ad1.ok.wf]
  cases α k <;> rfl
theorem Var_any {n : Nat} {K : KS} {s : SS} (so : SOk n K s) {order : List Int} {hO hP : Heap} (po : POk K order hO hP) (v : Int) (hv : -9223372036854775808 ≤ v ∧ v ≤ 9223372036854775807) (k : Nat) (hk : rk order v 0 = some k) (hfull : s.ns.length + 1 ≤ 1048576) {w0 w : World} {R : Heap} {L : List Heap} {b0 : Nat} (hw : H w0 R (sF K b0 s ++ (hO :: hP :: L)) w) :
    Calls Try.prog 25 #[.pointer (some ⟨b0, 0, none⟩), .int .i64 v] w fun e w' => ∃ v L', e = .returned v ∧ H w0 R L' w' ∧ ∃ s' y, v = .tuple #[.int .i64 ((y : Nat) : Int), .int .i64 0] ∧ L' = sF K b0 s' ++ (hO :: hP :: L) ∧ Res n K s s' 1 y (fun α => α k) := by
  have hkn : k < n := by
    obtain ⟨_, h2, _⟩ := rk_some hk
    have := po.len; have := so.no; omega
  have two := so.wf.two
  have pm := po.pm
  have hkey := keyI v hv
  have cChk : ∀ L1 w, H w0 R L1 w → Rd R L1 b0 (stO K s.an s.ns.length s.cn) → Calls Try.prog 72 #[.pointer (some ⟨b0, 0, none⟩), .slice none 0 0] w fun e w' => e = .returned (.int .i64 0) ∧ Below w.heap.size w w' := fun L1 w hw hr =>
    check_any K b0 s.an s.cn s.ns.length two [(b0, stO K s.an s.ns.length s.cn)] (List.mem_singleton_self _) [] none 0 (slNil _) (by show 0 ≤ 1000; omega) w (holds2 (hw.rd hr) (Holds.nil w))
  unfold sF at hw
  simp only [List.cons_append, List.nil_append] at hw
  have hget : mget (order.zipIdx 0) v = some k := by rw [mget_zip, hk]
  refine calls_in Try.func25 Try.ntmps25 rfl rfl (hw) ?_
  refine JC.seq ?_
  refine JC.region ?_
  refine J.isJ ?_
  refine J.o 6 ?_
  refine J.bx (fun c1 => ?_)
  repeat' first
    | (refine J.isJ ?_; first | (first | (refine J.fc 72 ?_; refine J.call0 eCheck rfl rfl (fun w hw => cChk _ w hw Rd.hd.tl) ?_)) | (first | (refine J.o 0 ?_; refine J.ev' hΓ ?_) | refine J.nil ?_ | refine J.kd ?_ | (refine J.o 4 ?_; first | refine J.lT default hΓ ?_ | refine J.lR hΓ ?_) | (refine J.o 3 ?_; first | refine J.iA hΓ ?_ | refine J.iJ hΓ ?_ | refine J.fP hΓ ?_ | refine J.iC hΓ ?_ | refine J.ev' hΓ ?_) | (refine J.o 1 ?_; first | refine J.ad ?_ | refine J.sb ?_ | refine J.ng ?_ | refine J.mu ?_) | (refine J.o 5 ?_; first | refine J.t0 hΓ ?_ | refine J.t1 hΓ ?_ | refine J.t2 hΓ ?_ | refine J.tT _ default hΓ (fun _ _ => ?_) | refine J.tT1 _ default hΓ (fun _ _ => ?_) | refine J.tT2 _ default hΓ (fun _ _ => ?_)) | (refine J.o 6 ?_; refine J.bx (fun _ => ?_)) | (refine J.o 7 ?_; refine J.al hΓ (fun _ => ?_)) | (refine J.o 8 ?_; refine J.bd hΓ ?_) | (refine J.o 9 ?_; refine J.bl hΓ (fun _ => ?_)) | (refine J.o 10 ?_; refine J.ev' hΓ ?_) | (refine J.o 11 ?_; refine J.ev' hΓ ?_) | (refine J.o 14 ?_; refine J.mf hΓ ?_) | refine J.kn ?_) | ((fail_if_success refine J.wt ?_); refine J.gc rfl rfl (fun hc => ?_) (fun hc => ?_) <;> ((try simp only [decide_eq_true_eq, decide_eq_false_iff_not, beq_iff_eq, beq_eq_false_iff_ne, bne_iff_ne, bne_eq_false_iff_eq, Bool.not_eq_true', Bool.not_eq_false', Bool.not_eq_true, Bool.not_eq_false] at hc) <;> first | (first | (exact absurd rfl hc) | (exfalso; omega) | (exact absurd (hc.symm.trans (by assumption : _ = false)) (by decide)) | (exact absurd (hc.symm.trans (by assumption : _ = true)) (by decide))) | skip)))
    | (first | refine JC.seq ?_ | refine JC.region ?_ | refine JC.block ?_ | refine JC.ret ?_ | refine JC.exit ?_ | refine JC.skip ?_ | refine thenK.nn ?_ | refine thenK.r ?_ | refine thenK.x ?_ | refine blockK.nn ?_ | refine blockK.r ?_ | refine blockK.hit rfl ?_ | refine blockK.miss rfl ?_ | refine JC.condT rfl ?_ | refine JC.condF rfl ?_ | (refine JC.cond rfl (fun hc => ?_) (fun hc => ?_) <;> ((try simp only [decide_eq_true_eq, decide_eq_false_iff_not, beq_iff_eq, beq_eq_false_iff_ne, bne_iff_ne, bne_eq_false_iff_eq, Bool.not_eq_true', Bool.not_eq_false', Bool.not_eq_true, Bool.not_eq_false] at hc) <;> first | (first | (exact absurd rfl hc) | (exfalso; omega) | (exact absurd (hc.symm.trans (by assumption : _ = false)) (by decide)) | (exact absurd (hc.symm.trans (by assumption : _ = true)) (by decide))) | skip)) | refine drawK.nn ?_ | refine roundK.nn ?_ | refine roundK.r ?_ | refine roundK.x ?_ | refine loopK.r ?_ | refine loopK.x ?_)
    | (fail)
    | fail
  all_goals first | (exfalso; omega) | skip
  unfold stO
  repeat' first
    | (refine J.isJ ?_; first | (first | (refine J.o 4 ?_; first | refine J.e3 hΓ ?_ | refine J.e4 hΓ ?_) | (refine J.o 9 ?_; refine J.lk (a := v) keyedI ekI_inj pm (by first | exact RdH.hd.tl.tl.tl.tl.tl.tl | exact RdH.hd.tl.tl.tl.tl.tl.tl.tl) hkey hΓ ?_; rw [hget]) | (refine J.o 7 ?_; refine J.al hΓ (fun d1 => ?_)) | (refine J.o 14 ?_; refine J.mfV [.pointer (some ⟨c1, 0, none⟩), .pointer (some ⟨d1, 0, none⟩)] hΓ ?_) | (refine J.fc 66 ?_; refine J.callx eTry rfl rfl (fun w hw => try_any so (Q := fun s' y => Res n K s s' 1 y (fun α => α k)) eVarC [] none 0 [] (slNil _) (by show 0 ≤ 1000; omega) (L := [(d1, intO k)] :: [(c1, ptrS b0)] :: hO :: hP :: L) (fun x hx => by cases hx) rfl (fun Lx w hw => VarC_any so k hkn hfull (Rd.app Lx Rd.hd.tl) (Rd.app Lx Rd.hd) hw) (H.sel (l := [_, _, _, _, _, _, _, _]) (M := L) hw [2, 3, 4, 5, 0, 1, 6, 7])) ?_; rintro _ _ ⟨s1, y1, rfl, rfl, hq⟩)) | (first | (refine J.o 0 ?_; refine J.ev' hΓ ?_) | refine J.nil ?_ | refine J.kd ?_ | (refine J.o 4 ?_; first | refine J.lT default hΓ ?_ | refine J.lR hΓ ?_) | (refine J.o 3 ?_; first | refine J.iA hΓ ?_ | refine J.iJ hΓ ?_ | refine J.fP hΓ ?_ | refine J.iC hΓ ?_ | refine J.ev' hΓ ?_) | (refine J.o 1 ?_; first | refine J.ad ?_ | refine J.sb ?_ | refine J.ng ?_ | refine J.mu ?_) | (refine J.o 5 ?_; first | refine J.t0 hΓ ?_ | refine J.t1 hΓ ?_ | refine J.t2 hΓ ?_ | refine J.tT _ default hΓ (fun _ _ => ?_) | refine J.tT1 _ default hΓ (fun _ _ => ?_) | refine J.tT2 _ default hΓ (fun _ _ => ?_)) | (refine J.o 6 ?_; refine J.bx (fun _ => ?_)) | (refine J.o 7 ?_; refine J.al hΓ (fun _ => ?_)) | (refine J.o 8 ?_; refine J.bd hΓ ?_) | (refine J.o 9 ?_; refine J.bl hΓ (fun _ => ?_)) | (refine J.o 10 ?_; refine J.ev' hΓ ?_) | (refine J.o 11 ?_; refine J.ev' hΓ ?_) | (refine J.o 14 ?_; refine J.mf hΓ ?_) | refine J.kn ?_) | ((fail_if_success refine J.wt ?_); refine J.gc rfl rfl (fun hc => ?_) (fun hc => ?_) <;> ((try simp only [decide_eq_true_eq, decide_eq_false_iff_not, beq_iff_eq, beq_eq_false_iff_ne, bne_iff_ne, bne_eq_false_iff_eq, Bool.not_eq_true', Bool.not_eq_false', Bool.not_eq_true, Bool.not_eq_false] at hc) <;> first | (first | (exact absurd rfl hc) | (exfalso; omega) | (exact absurd (hc.symm.trans (by assumption : _ = false)) (by decide)) | (exact absurd (hc.symm.trans (by assumption : _ = true)) (by decide))) | skip)))
    | (first | refine JC.seq ?_ | refine JC.region ?_ | refine JC.block ?_ | refine JC.ret ?_ | refine JC.exit ?_ | refine JC.skip ?_ | refine thenK.nn ?_ | refine thenK.r ?_ | refine thenK.x ?_ | refine blockK.nn ?_ | refine blockK.r ?_ | refine blockK.hit rfl ?_ | refine blockK.miss rfl ?_ | refine JC.condT rfl ?_ | refine JC.condF rfl ?_ | (refine JC.cond rfl (fun hc => ?_) (fun hc => ?_) <;> ((try simp only [decide_eq_true_eq, decide_eq_false_iff_not, beq_iff_eq, beq_eq_false_iff_ne, bne_iff_ne, bne_eq_false_iff_eq, Bool.not_eq_true', Bool.not_eq_false', Bool.not_eq_true, Bool.not_eq_false] at hc) <;> first | (first | (exact absurd rfl hc) | (exfalso; omega) | (exact absurd (hc.symm.trans (by assumption : _ = false)) (by decide)) | (exact absurd (hc.symm.trans (by assumption : _ = true)) (by decide))) | skip)) | refine drawK.nn ?_ | refine roundK.nn ?_ | refine roundK.r ?_ | refine roundK.x ?_ | refine loopK.r ?_ | refine loopK.x ?_)
    | (fail)
    | fail
  all_goals first | (exfalso; omega) | skip
  refine ret2f rfl rfl rfl rfl rfl (fun w1 hw => ⟨_, _, rfl, H.sel (l := [_, _, _, _, _, _, _, _]) (M := L) hw [0, 1, 2, 3, 6, 7], s1, y1, rfl, rfl, hq⟩)
theorem ret4f {P : Program} {fn : Func} {n : Nat} {w0 : World} {R : Heap} {Post : Ending → World → Prop} {f : Fr} {L : List Heap} {t u s q : Nat} {v x y z : Value} (hr : fn.results = #[.tmp t, .tmp u, .tmp s, .tmp q]) (ht : Nat.blt t n = true) (hu : Nat.blt u n = true) (hs : Nat.blt s n = true) (hq : Nat.blt q n = true) (hv : frc (f t) = some v) (hx : frc (f u) = some x) (hy : frc (f s) = some y) (hz : frc (f q) = some z)
    (h : ∀ w, H w0 R L w → Post (.returned (.tuple #[v, x, y, z])) w) : retK P fn n w0 R Post .ret f L := by
  unfold retK
  exact fun a w ha hw => ⟨.tuple #[a.tmps.getD t undef, a.tmps.getD u undef, a.tmps.getD s undef, a.tmps.getD q undef], by simp [results, hr], by rw [ha.getD ht, frc_eq hv, ha.getD hu, frc_eq hx, ha.getD hs, frc_eq hy, ha.getD hq, frc_eq hz]; exact h w hw⟩
theorem eParts : Entr Try.prog 23 := Entr.of Try.func23 rfl rfl
theorem eEvalS : Entr Try.prog 32 := Entr.of Try.func32 rfl rfl
/-- a store that is there: its memory, to be read -/
structure Sto (n : Nat) (K : KS) (s : SS) (order : List Int) (hO hP : Heap) (b : Nat) (R : Heap) (L : List Heap) : Prop where
  so : SOk n K s
  po : POk K order hO hP
  rb : Rd R L b (stO K s.an s.ns.length s.cn)
  rN : RdH R L s.hN
  rO : RdH R L hO
theorem Sto.of {n : Nat} {K : KS} {s : SS} {order : List Int} {hO hP : Heap} (so : SOk n K s) (po : POk K order hO hP) {b : Nat} {R : Heap} {L : List Heap} : Sto n K s order hO hP b R (sF K b s ++ (hO :: hP :: L)) :=
  ⟨so, po, Rd.hd, RdH.hd.tl, RdH.hd.tl.tl.tl.tl⟩
theorem Sto.chk {n : Nat} {K : KS} {s : SS} {order : List Int} {hO hP : Heap} {b : Nat} {R : Heap} {L : List Heap} (st : Sto n K s order hO hP b R L) {w0 w : World} (hw : H w0 R L w) {h : Heap} {a : Option Addr} {c : Nat} (l : List Int) (hs : SlT encI 1 a l h) (hl : l.length ≤ 1000) (hh : Holds h w) :
    Calls Try.prog 72 #[.pointer (some ⟨b, 0, none⟩), .slice a l.length c] w fun e w' => e = .returned (.int .i64 (if chkP s.ns.length l then 0 else 1)) ∧ Below w.heap.size w w' :=
  check_any K b s.an s.cn s.ns.length st.so.wf.two ((b, stO K s.an s.ns.length s.cn) :: h) List.mem_cons_self l a c (hs.sub fun y hy => List.mem_cons_of_mem _ hy) hl w (holds2 (hw.rd st.rb) hh)
/-- reading contracts: a world that holds the store -/
def stR (K : KS) (b : Nat) (s : SS) (hO : Heap) : Heap := (b, stO K s.an s.ns.length s.cn) :: (s.hN ++ hO)
theorem stR_holds {n : Nat} {K : KS} {s : SS} {order : List Int} {hO hP : Heap} {b : Nat} {R : Heap} {L : List Heap} (st : Sto n K s order hO hP b R L) {w0 w : World} (hw : H w0 R L w) : Holds (stR K b s hO) w :=
  holds2 (hw.rd st.rb) ((hw.rdH st.rN).append (hw.rdH st.rO))
theorem Parts_node {n : Nat} {K : KS} {s : SS} (so : SOk n K s) {order : List Int} {hO hP : Heap} (po : POk K order hO hP) (b a : Nat) (h2 : 2 ≤ a) (ha : a < s.ns.length) (w : World) (hw : Holds (stR K b s hO) w) :
    Calls Try.prog 23 #[.pointer (some ⟨b, 0, none⟩), .int .i64 (a : Int)] w fun e w' => e = .returned (.tuple #[.int .i64 (order.getD (nd s.ns a).p default), .int .i64 ((nd s.ns a).l : Int), .int .i64 ((nd s.ns a).h : Int), .int .i64 0]) ∧ Below w.heap.size w w' := by
  have hp := so.wf.pl a h2 ha
  have hno := so.no
  have hpl := po.len
  have hsm := so.sm
  have hsl : SlT enc3 3 s.an s.ns (stR K b s hO) := so.ow.sl.sub fun y hy => List.mem_cons_of_mem _ (List.mem_append_left _ hy)
  have hso : SlT encI 1 K.ao order (stR K b s hO) := po.ow.sl.sub fun y hy => List.mem_cons_of_mem _ (List.mem_append_right _ hy)
  have rb : ∀ L, Rd (stR K b s hO) L b (stO K s.an s.ns.length s.cn) := fun L => Rd.old List.mem_cons_self
  have q0 : ∀ L, RdH (stR K b s hO) L (stR K b s hO) := fun L => RdH.old fun _ hh => hh
  have cChk : ∀ L1 w1 b1, H w (stR K b s hO) L1 w1 → Rd (stR K b s hO) L1 b1 (intO a) → Calls Try.prog 72 #[.pointer (some ⟨b, 0, none⟩), .slice (some ⟨b1, 0, none⟩) 1 1] w1 fun e w' => e = .returned (.int .i64 0) ∧ Below w1.heap.size w1 w' := fun L1 w1 b1 hw hr => by
    have hc := chk_ok (m := s.ns.length) (l := [a]) (by simp only [List.mem_cons, List.not_mem_nil, or_false, forall_eq]; exact ha)
    have := check_any K b s.an s.cn s.ns.length so.wf.two [(b, stO K s.an s.ns.length s.cn), (b1, intO a)] List.mem_cons_self [(a : Int)] (some ⟨b1, 0, none⟩) 1 ((slArg b1 [(a : Int)] 3).sub fun y hy => List.mem_cons_of_mem _ hy) (by show 1 ≤ 1000; omega) w1 (holds2 (hw.rd (rb _)) (holds2 (hw.rd hr) (Holds.nil _)))
    rw [show chkP s.ns.length [(a : Int)] = true from hc, if_pos rfl] at this
    exact this
  unfold stO at rb
  have hnd : s.ns.getD a default = nd s.ns a := rfl
  have hp1 : (s.ns.getD a default).p < K.no := by rw [hno]; exact hp
  have hp2 : (s.ns.getD a default).p < order.length := by rw [← hpl]; exact hp1
  refine calls_of_JC (R := (stR K b s hO)) Try.func23 Try.ntmps23 rfl rfl (hw) ?_
  repeat' first
    | (refine J.isJ ?_; first | (first | (refine J.o 9 ?_; refine J.bl hΓ (fun b1 => ?_)) | (refine J.fc 72 ?_; refine J.call0 eCheck rfl rfl (fun w hw => cChk _ w _ hw Rd.hd) ?_) | (refine J.o 4 ?_; first | refine J.lR hΓ ?_ (hr := rb _) | (refine J.lT default hΓ ?_ (hs := hsl) (hr := q0 _)) | (refine J.lT default hΓ ?_ (hs := hso) (hr := q0 _)))) | (first | (refine J.o 0 ?_; refine J.ev' hΓ ?_) | refine J.nil ?_ | refine J.kd ?_ | (refine J.o 4 ?_; first | refine J.lT default hΓ ?_ | refine J.lR hΓ ?_) | (refine J.o 3 ?_; first | refine J.iA hΓ ?_ | refine J.iJ hΓ ?_ | refine J.fP hΓ ?_ | refine J.iC hΓ ?_ | refine J.ev' hΓ ?_) | (refine J.o 1 ?_; first | refine J.ad ?_ | refine J.sb ?_ | refine J.ng ?_ | refine J.mu ?_) | (refine J.o 5 ?_; first | refine J.t0 hΓ ?_ | refine J.t1 hΓ ?_ | refine J.t2 hΓ ?_ | refine J.tT _ default hΓ (fun _ _ => ?_) | refine J.tT1 _ default hΓ (fun _ _ => ?_) | refine J.tT2 _ default hΓ (fun _ _ => ?_)) | (refine J.o 6 ?_; refine J.bx (fun _ => ?_)) | (refine J.o 7 ?_; refine J.al hΓ (fun _ => ?_)) | (refine J.o 8 ?_; refine J.bd hΓ ?_) | (refine J.o 9 ?_; refine J.bl hΓ (fun _ => ?_)) | (refine J.o 10 ?_; refine J.ev' hΓ ?_) | (refine J.o 11 ?_; refine J.ev' hΓ ?_) | (refine J.o 14 ?_; refine J.mf hΓ ?_) | refine J.kn ?_) | ((fail_if_success refine J.wt ?_); refine J.gc rfl rfl (fun hc => ?_) (fun hc => ?_) <;> ((try simp only [decide_eq_true_eq, decide_eq_false_iff_not, beq_iff_eq, beq_eq_false_iff_ne, bne_iff_ne, bne_eq_false_iff_eq, Bool.not_eq_true', Bool.not_eq_false', Bool.not_eq_true, Bool.not_eq_false] at hc) <;> first | (first | (exact absurd rfl hc) | (exfalso; omega) | (exact absurd (hc.symm.trans (by assumption : _ = false)) (by decide)) | (exact absurd (hc.symm.trans (by assumption : _ = true)) (by decide))) | skip)))
    | (first | refine JC.seq ?_ | refine JC.region ?_ | refine JC.block ?_ | refine JC.ret ?_ | refine JC.exit ?_ | refine JC.skip ?_ | refine thenK.nn ?_ | refine thenK.r ?_ | refine thenK.x ?_ | refine blockK.nn ?_ | refine blockK.r ?_ | refine blockK.hit rfl ?_ | refine blockK.miss rfl ?_ | refine JC.condT rfl ?_ | refine JC.condF rfl ?_ | (refine JC.cond rfl (fun hc => ?_) (fun hc => ?_) <;> ((try simp only [decide_eq_true_eq, decide_eq_false_iff_not, beq_iff_eq, beq_eq_false_iff_ne, bne_iff_ne, bne_eq_false_iff_eq, Bool.not_eq_true', Bool.not_eq_false', Bool.not_eq_true, Bool.not_eq_false] at hc) <;> first | (first | (exact absurd rfl hc) | (exfalso; omega) | (exact absurd (hc.symm.trans (by assumption : _ = false)) (by decide)) | (exact absurd (hc.symm.trans (by assumption : _ = true)) (by decide))) | skip)) | refine drawK.nn ?_ | refine roundK.nn ?_ | refine roundK.r ?_ | refine roundK.x ?_ | refine loopK.r ?_ | refine loopK.x ?_)
    | ((refine JC.drawO [(0,0),(0,1),(0,2),(1,3),(0,4),(1,5),(0,6),(1,7),(0,8),(1,9),(0,10),(1,11),(0,12),(0,13),(0,14),(0,15)] (by decide +kernel) (by decide +kernel) ?_))
    | fail
  all_goals first | (exfalso; omega) | skip
  refine ret4f rfl rfl rfl rfl rfl rfl rfl rfl rfl (fun w1 hw => ⟨rfl, hw.below⟩)
end Go.Proofs.Ythnhijdfcmcnhaa
