/- SiftKeeps: part 10. -/
import Derived.Test.YtbhgahjeocnfcaaGreatKeI
namespace Go.Proofs.YtbhgahjeocnfcaaGreat
open Go Go.Cx Go.RowKit
set_option linter.unusedVariables false
set_option linter.unusedSimpArgs false
set_option maxHeartbeats 4000000
attribute [local irreducible] J JC thenK blockK loopK roundK drawK retK QW Qt pel List.set Calls
open Go.Maps Go.Lib
set_option maxRecDepth 8000
attribute [local irreducible] JE Br eK0 eK3 brK pc JR thenR JA
section
variable {m : Nat} {P : Program} {n : Nat} {w0 : World} {R : Heap} {f : Fr} {L : List Heap} {Γ : List (Nat × TI)}
theorem JW.rangeB {id : Nat} {g : Operand} {ps : Array Tmp} {assign body y : Code} {gf : FuncId} {lb : List Value} {Q : Exit → Act → World → Prop} {Ψ : List Heap → Prop} (hg : Cx.ev n f g = .func (.func gf) ⟨[]⟩ ⟨lb⟩) (he : Entr P gf)
    (hit : ∀ (fn D : Nat) (tmps : Array Value) (w1 : World), Rep n f { tmps := tmps, defers := [] } → H w0 R ([(D + 1, .loop (recL fn tmps ps assign body D))] :: [(D, .deferred (some []))] :: L) w1 →
      CallsIn (FR none) (m - 1) P gf ⟨.func (.yield (D + 1)) ⟨[]⟩ ⟨[]⟩ :: lb⟩ w1 fun e w' => ∃ v L', e = .returned v ∧ H w0 R ([(D + 1, .loop (recL fn tmps ps assign body D))] :: [(D, .deferred (some []))] :: L') w' ∧ Ψ L')
    (hk : ∀ (D : Nat) L', Ψ L' → JW [{ target := .collected D, args := #[] }] m P n w0 R y Q f ([(D, .deferred (some []))] :: L')) : JW [] m P n w0 R (.block id (.rangeFunc g ps assign body)) (Exit.then (y.wpIn (FR none) m P Q) Q) f L := fun a w ha hw => by
  rw [dfr_nil]
  exact wpIn_block (rangeF_any hg he hit (fun D L' hP a w ha hw => hk D L' hP a w ha hw) ha hw)
theorem JW.seq {ds : List Deferred} {x z : Code} {Q : Exit → Act → World → Prop} (h : JW ds m P n w0 R x (Exit.then (z.wpIn (FR none) m P Q) Q) f L) : JW ds m P n w0 R (.seq x z) Q f L := fun a w ha hw => wpIn_seq (h a w ha hw)
theorem calls_of_JW {fid : FuncId} {fn : Func} {c : Code} {args : List Value} {Post : Ending → World → Prop} {w : World} (hf : P.funcs[fid]? = some fn) (hn : fn.ntmps = n) (hb : fn.body = some c) (hsz : Nat.ble args.length n = true) (hw : H w0 R L w)
    (h : JW [] m P n w0 R c (bodyPostM (FR none) m P fn Post) (fr0 args) L) : Calls P fid args.toArray w Post :=
  calls_of_D hf hn hb hsz hw fun a ha => by
    have := h a w ha hw
    rwa [dfr_nil] at this
theorem JW.drawN {ds : List Deferred} {id : Nat} {l0 : List Oper} {y : Code} {Q : Exit → Act → World → Prop} (hm : P.follows .mixedOrders = true) (h : JA ds m P n w0 R l0 (fun e a w => e = .normal ∧ y.wpIn (FR none) m P Q a w) l0.length (Array.replicate l0.length false) f L) : JW ds m P n w0 R (.seq (.region id l0.toArray true) y) Q f L := fun a w ha hw =>
  wpIn_seq (wpIn_mono (JA.start hm h ha hw) (by rintro e a w ⟨rfl, q⟩; exact q))
theorem JW.weak {ds : List Deferred} {c : Code} {L' : List Heap} {Q : Exit → Act → World → Prop} (hp : ∀ w, H w0 R L w → H w0 R L' w) (k : JW ds m P n w0 R c Q f L') : JW ds m P n w0 R c Q f L := fun a w ha hw => k a w ha (hp w hw)
theorem JW.perm {ds : List Deferred} {c : Code} {L' : List Heap} {Q : Exit → Act → World → Prop} (hp : L.Perm L') (k : JW ds m P n w0 R c Q f L') : JW ds m P n w0 R c Q f L := fun a w ha hw => k a w ha (hw.perm hp)
theorem JW.pin {ds : List Deferred} {c : Code} {Q : Exit → Act → World → Prop} (i : Nat) {v : Value} (e : f i = v) (k : JW ds m P n w0 R c Q (upd f i v) L) : JW ds m P n w0 R c Q f L := by
  have : upd f i v = f := funext fun j => by
    by_cases h : j = i
    · subst h; rw [upd_same, e]
    · exact upd_ne f v h
  rw [this] at k
  exact k
theorem round_tmps (fn : FuncId) (tmps : Array Value) (p : Tmp) (assign body : Code) (D : Nat) (v : Value) : ((recL fn tmps #[p] assign body D).params.zip ⟨[v]⟩).foldl (fun tmps (t, a) => tmps.setIfInBounds t a) (recL fn tmps #[p] assign body D).tmps = tmps.setIfInBounds p v := by simp [recL]
theorem asgK.nn {l : Nat} {r : Loop} {Φ : Value → List Heap → Prop} (L2 : List Heap) (hto : ∀ w, H w0 R L w → H w0 R ([(l, .loop r)] :: L2) w) (h : JR (some l) m P n w0 R r.body (rndK w0 R l r Φ) f ([(l, .loop { r with state := .busy })] :: L2)) : asgK m P n w0 R l r Φ .normal f L := ⟨L2, hto, h⟩
theorem rndK.nn {l : Nat} {r : Loop} {Φ : Value → List Heap → Prop} (L2 : List Heap) (hto : ∀ w, H w0 R L w → H w0 R ([(l, .loop { r with state := .busy })] :: L2) w) (h : Φ (.bool true) ([(l, .loop { r with state := .ready, pending := none })] :: L2)) : rndK w0 R l r Φ .normal f L := ⟨L2, hto, h⟩
theorem resCCC {fn : Func} {t u s ty uy sy b c d : Nat} {cs ds es : List Value} {e e2 e3 : TypeId} {fr fr2 fr3 : Nat × Nat} {v x y : Value} {a : Act} {w : World} (hΓ : Fits P Γ) (hr : fn.results = #[.cell t ty, .cell u uy, .cell s sy]) (ha : Rep n f a) (hw : H w0 R L w) (ht : Nat.blt t n = true) (hu : Nat.blt u n = true) (hs : Nat.blt s n = true) (hv : f t = .pointer (some ⟨b, 0, none⟩)) (hx : f u = .pointer (some ⟨c, 0, none⟩)) (hy : f s = .pointer (some ⟨d, 0, none⟩))
    (hb : Rd R L b (.cells ⟨cs⟩ e fr)) (hc : Rd R L c (.cells ⟨ds⟩ e2 fr2)) (hd : Rd R L d (.cells ⟨es⟩ e3 fr3)) (hl : ldEv Γ ty cs 0 = some v) (hm : ldEv Γ uy ds 0 = some x) (hn : ldEv Γ sy es 0 = some y) : (results fn a.tmps).run P w = .ok (.tuple #[v, x, y]) w := by
  have h1 := ldEv_ok (P := P) hΓ (hw.rd hb) hl
  have g1 := ldEv_ok (P := P) hΓ (hw.rd hc) hm
  have k1 := ldEv_ok (P := P) hΓ (hw.rd hd) hn
  unfold Instr.loadAt Instr.sureAddr at h1 g1 k1
  simp only [Sem.run_bind, Sem.run_pure, Result.andThen_ok] at h1 g1 k1
  have h2 := ha.getD ht
  rw [hv] at h2
  have h3 : a.tmps[t]?.getD undef = .pointer (some ⟨b, 0, none⟩) := by rw [← h2]; simp [Array.getD_eq_getD_getElem?]
  have h4 := ha.getD hu
  rw [hx] at h4
  have h5 : a.tmps[u]?.getD undef = .pointer (some ⟨c, 0, none⟩) := by rw [← h4]; simp [Array.getD_eq_getD_getElem?]
  have h6 := ha.getD hs
  rw [hy] at h6
  have h7 : a.tmps[s]?.getD undef = .pointer (some ⟨d, 0, none⟩) := by rw [← h6]; simp [Array.getD_eq_getD_getElem?]
  simp only [results, hr]
  simp [h3, h5, h7, asAddr, Sem.run_bind]
  rw [h1]
  simp only [Result.andThen_ok]
  rw [g1]
  simp only [Result.andThen_ok]
  rw [k1]
  rfl
theorem retCCC {fn : Func} {Post : Ending → World → Prop} {t u s ty uy sy b c d : Nat} {cs ds es : List Value} {e e2 e3 : TypeId} {fr fr2 fr3 : Nat × Nat} {v x y : Value} (hΓ : Fits P Γ) (hr : fn.results = #[.cell t ty, .cell u uy, .cell s sy]) (ht : Nat.blt t n = true) (hu : Nat.blt u n = true) (hs : Nat.blt s n = true) (hv : f t = .pointer (some ⟨b, 0, none⟩)) (hx : f u = .pointer (some ⟨c, 0, none⟩)) (hy : f s = .pointer (some ⟨d, 0, none⟩))
    (hb : Rd R L b (.cells ⟨cs⟩ e fr)) (hc : Rd R L c (.cells ⟨ds⟩ e2 fr2)) (hd : Rd R L d (.cells ⟨es⟩ e3 fr3)) (hl : ldEv Γ ty cs 0 = some v) (hm : ldEv Γ uy ds 0 = some x) (hn : ldEv Γ sy es 0 = some y) (h : ∀ w, H w0 R L w → Post (.returned (.tuple #[v, x, y])) w) : retK P fn n w0 R Post .ret f L := by
  unfold retK
  exact fun a w ha hw => ⟨_, resCCC hΓ hr ha hw ht hu hs hv hx hy hb hc hd hl hm hn, h w hw⟩
end
theorem eMoved : Entr Tryz.prog 39 := Entr.of Tryz.func39 rfl rfl
theorem insAt_perm (l : List Int) (v : Int) (i : Nat) : (insAt l i v).Perm (v :: l) := by
  unfold insAt
  refine List.perm_middle.trans ?_
  rw [List.take_append_drop]
theorem wo_perm {v : Int} : ∀ {l : List Int}, v ∈ l → l.Nodup → (v :: wo l v).Perm l
  | x :: l, hv, hn => by
    rw [List.nodup_cons] at hn
    by_cases hx : x = v
    · subst hx
      have : wo l x = l := List.filter_eq_self.2 fun y hy => by
        have : y ≠ x := fun e => hn.1 (e ▸ hy)
        simp [this]
      unfold wo at this ⊢
      rw [List.filter_cons_of_neg (by simp), this]
    · have h1 : v ∈ l := by
        rcases List.mem_cons.1 hv with h | h
        · exact absurd h.symm hx
        · exact h
      have := wo_perm h1 hn.2
      unfold wo at this ⊢
      rw [List.filter_cons_of_pos (by simp [hx])]
      exact (List.Perm.swap _ _ _).trans (this.cons x)
theorem ins_perm {l : List Int} {v : Int} (hv : v ∈ l) (hn : l.Nodup) (i : Nat) : (insAt (wo l v) i v).Perm l := (insAt_perm _ _ _).trans (wo_perm hv hn)
theorem okOrd.perm {l o : List Int} (h : okOrd o) (p : l.Perm o) : okOrd l := ⟨fun v hv => h.1 v (p.mem_iff.1 hv), p.nodup_iff.2 h.2⟩
def bestO (sz : List Int → Nat) (rest : List Int) (v : Int) : Nat → List Int
  | 0 => insAt rest 0 v
  | i + 1 => if sz (insAt rest (i + 1) v) < sz (bestO sz rest v i) then insAt rest (i + 1) v else bestO sz rest v i
theorem bestO_perm {l : List Int} {v : Int} (hv : v ∈ l) (hn : l.Nodup) (sz : List Int → Nat) : ∀ i, (bestO sz (wo l v) v i).Perm l
  | 0 => ins_perm hv hn 0
  | i + 1 => by
    unfold bestO
    split
    · exact ins_perm hv hn (i + 1)
    · exact bestO_perm hv hn sz i
def movO (F : VF) (o : List Int) (v : Int) : List Int := bestO (fun l => szF l F) (wo o v) v (o.length - 1)
abbrev cI1 (b : Nat) (x : Int) : Heap := [(b, .cells ⟨[.int .i64 x]⟩ 3 (0, 0))]
abbrev cP1 (b : Nat) (p : Option Addr) : Heap := [(b, .cells ⟨[.pointer p]⟩ 30 (0, 0))]
def mvT (F : VF) (rest : List Int) (v : Int) (bs a b9 b10 b11 : Nat) (L0 : List Heap) : Nat → List Heap → Prop
  | 0, L => L = cP1 b9 (some ⟨bs, 0, none⟩) :: cI1 b10 (a : Int) :: cI1 b11 (-1) :: L0
  | i + 1, L => ∃ bt Kt t y hO2 hP2, Stv F (bestO (fun l => szF l F) rest v i) Kt t y hO2 hP2 ∧ L = cP1 b9 (some ⟨bt, 0, none⟩) :: cI1 b10 ((y : Nat) : Int) :: cI1 b11 ((szF (bestO (fun l => szF l F) rest v i) F : Nat) : Int) :: (sF Kt bt t ++ (hO2 :: hP2 :: L0))
theorem mvT.rd {F : VF} {rest : List Int} {v : Int} {bs a b9 b10 b11 : Nat} {L0 : List Heap} {R h : Heap} (r : RdH R L0 h) : ∀ {i : Nat} {L : List Heap}, mvT F rest v bs a b9 b10 b11 L0 i L → RdH R L h
  | 0, _, hm => by rw [show _ = _ from hm]; exact r.tl.tl.tl
  | i + 1, _, hm => by
    obtain ⟨bt, Kt, t, y, hO2, hP2, _, rfl⟩ := hm
    exact (RdH.app (sF Kt bt t) r.tl.tl).tl.tl.tl
theorem moved_any {F : VF} {o : List Int} {K : KS} {s : SS} {a : Nat} {hO hP : Heap} (sv : Stv F o K s a hO hP) (h8 : o.length ≤ 8) {v : Int} (hv : v ∈ o) {w0 w : World} {R : Heap} {L : List Heap} {bs : Nat} (rS : RdH R L (stR K bs s hO)) (hw : H w0 R L w) :
    Calls Tryz.prog 39 #[.pointer (some ⟨bs, 0, none⟩), .int .i64 (a : Int), .int .i64 v] w fun e w' => ∃ x L', e = .returned x ∧ H w0 R L' w' ∧ RebQ F (movO F o v) L x L' := by
  have hnd := sv.ho.2
  refine calls_of_JW (m := 5) (R := R) (L := L) (w0 := w0) Tryz.func39 Tryz.ntmps39 rfl rfl hw ?_
  refine JW.seqC ?_
  repeat' first
    | (refine J.isJ ?_; first | (first | (refine J.o 6 ?_; refine J.bx (fun _ => ?_)) | (refine J.o 7 ?_; refine J.al hΓ (fun _ => ?_))) | (first | (refine J.o 0 ?_; refine J.ev' hΓ ?_) | refine J.nil ?_ | refine J.kd ?_ | (refine J.o 4 ?_; first | refine J.lR hΓ ?_) | (refine J.o 3 ?_; first | refine J.ev' hΓ ?_) | (refine J.o 5 ?_; first | refine J.t0 hΓ ?_ | refine J.t1 hΓ ?_ | refine J.t2 hΓ ?_) | (refine J.o 6 ?_; refine J.bx (fun _ => ?_)) | (refine J.o 7 ?_; refine J.al hΓ (fun _ => ?_)) | (refine J.o 10 ?_; refine J.ev' hΓ ?_) | (refine J.o 11 ?_; refine J.ev' hΓ ?_)))
    | (first | refine JC.region ?_ | refine blockK.nn ?_)
    | (fail)
    | fail
  rename_i b3 b4 b6 b7 b8
  refine toW.nn ?_
  refine JW.seqC ?_
  refine JC.mid (fun i => i == 9 || i == 10 || i == 11 || i == 17 || i == 18) (fun g L' => ∃ b9 b10 b11, g 9 = .pointer (some ⟨b9, 0, none⟩) ∧ g 10 = .pointer (some ⟨b10, 0, none⟩) ∧ g 11 = .pointer (some ⟨b11, 0, none⟩) ∧ L'.Perm (cP1 b9 (some ⟨bs, 0, none⟩) :: cI1 b10 (a : Int) :: cI1 b11 (-1) :: [(b8, .cells ⟨[.int .i64 0]⟩ 31 (0, 0))] :: cI1 b7 0 :: cP1 b6 none :: cI1 b4 (a : Int) :: cP1 b3 (some ⟨bs, 0, none⟩) :: L)) ?_ ?_
  ·
    refine JC.drawE [cI1 b4 (a : Int), cP1 b3 (some ⟨bs, 0, none⟩)] [2, 3, 4, 5, 6, 7] [2, 3, 4, 5, 6, 7] [(4,0),(4,1)] 6 _ (by kernel_rfl) (by kernel_rfl) rfl ?_
    repeat' first
      | (refine J.isJ ?_; first | (fail) | (first | (refine J.o 0 ?_; refine J.ev' hΓ ?_) | refine J.nil ?_ | refine J.kd ?_ | (refine J.o 4 ?_; first | refine J.lR hΓ ?_) | (refine J.o 3 ?_; first | refine J.ev' hΓ ?_) | (refine J.o 5 ?_; first | refine J.t0 hΓ ?_ | refine J.t1 hΓ ?_ | refine J.t2 hΓ ?_) | (refine J.o 6 ?_; refine J.bx (fun _ => ?_)) | (refine J.o 7 ?_; refine J.al hΓ (fun _ => ?_)) | (refine J.o 10 ?_; refine J.ev' hΓ ?_) | (refine J.o 11 ?_; refine J.ev' hΓ ?_)))
      | (first | (refine JE.is ?_; first | refine JE.s3 ?_ | refine JE.nil ?_ | refine JE.s4 rfl (fun w hw => hw.subl (by repeat (first | exact List.nil_sublist _ | exact List.Sublist.refl _ | refine List.Sublist.cons_cons _ ?_ | refine List.Sublist.cons _ ?_))) ?_) | refine eK0.nn ?_ | (refine eK3.is ?_; refine eK3.nn (fun w hw => hw.subl (by repeat (first | exact List.nil_sublist _ | exact List.Sublist.refl _ | refine List.Sublist.cons_cons _ ?_ | refine List.Sublist.cons _ ?_))) ?_) | refine brK.nn ?_)
      | (first | refine JC.region ?_ | refine blockK.nn ?_)
      | (fail)
      | fail
    refine Br.three (c1 := 1) (c2 := 1) (c3 := 1) (m1 := 5) (m2 := 5) (m3 := 5) 2 3 4 [] [] [] (by decide +kernel) rfl rfl rfl (by decide +kernel) rfl (by decide +kernel) rfl (by decide +kernel) rfl ?_ ?_ ?_
    ·
      repeat' first
        | (refine J.isJ ?_; first | (first | (refine J.o 7 ?_; refine J.al hΓ (fun _ => ?_)) | (refine J.o 5 ?_; first | refine J.t0 hΓ ?_ | refine J.t1 hΓ ?_ | refine J.t2 hΓ ?_)) | (first | (refine J.o 0 ?_; refine J.ev' hΓ ?_) | refine J.nil ?_ | refine J.kd ?_ | (refine J.o 4 ?_; first | refine J.lR hΓ ?_) | (refine J.o 3 ?_; first | refine J.ev' hΓ ?_) | (refine J.o 5 ?_; first | refine J.t0 hΓ ?_ | refine J.t1 hΓ ?_ | refine J.t2 hΓ ?_) | (refine J.o 6 ?_; refine J.bx (fun _ => ?_)) | (refine J.o 7 ?_; refine J.al hΓ (fun _ => ?_)) | (refine J.o 10 ?_; refine J.ev' hΓ ?_) | (refine J.o 11 ?_; refine J.ev' hΓ ?_)))
        | (first | (refine JE.is ?_; first | refine JE.s3 ?_ | refine JE.nil ?_ | refine JE.s4 rfl (fun w hw => hw.subl (by repeat (first | exact List.nil_sublist _ | exact List.Sublist.refl _ | refine List.Sublist.cons_cons _ ?_ | refine List.Sublist.cons _ ?_))) ?_) | refine eK0.nn ?_ | (refine eK3.is ?_; refine eK3.nn (fun w hw => hw.subl (by repeat (first | exact List.nil_sublist _ | exact List.Sublist.refl _ | refine List.Sublist.cons_cons _ ?_ | refine List.Sublist.cons _ ?_))) ?_) | refine brK.nn ?_)
        | (first | refine JC.region ?_ | refine blockK.nn ?_)
        | (fail)
        | fail
      refine Br.two (c1 := 1) (c2 := 1) (m1 := 0) (m2 := 0) 3 4 [(3, 4), (3, 5), (3, 6), (3, 7)] [(3, 3), (3, 5), (3, 6), (3, 7)] (by decide +kernel) rfl rfl (by decide +kernel) rfl (by decide +kernel) rfl ?_ ?_
      ·
        repeat' first
          | (refine J.isJ ?_; first | (first | (refine J.o 7 ?_; refine J.al hΓ (fun _ => ?_)) | (refine J.o 5 ?_; first | refine J.t0 hΓ ?_ | refine J.t1 hΓ ?_ | refine J.t2 hΓ ?_)) | (first | (refine J.o 0 ?_; refine J.ev' hΓ ?_) | refine J.nil ?_ | refine J.kd ?_ | (refine J.o 4 ?_; first | refine J.lR hΓ ?_) | (refine J.o 3 ?_; first | refine J.ev' hΓ ?_) | (refine J.o 5 ?_; first | refine J.t0 hΓ ?_ | refine J.t1 hΓ ?_ | refine J.t2 hΓ ?_) | (refine J.o 6 ?_; refine J.bx (fun _ => ?_)) | (refine J.o 7 ?_; refine J.al hΓ (fun _ => ?_)) | (refine J.o 10 ?_; refine J.ev' hΓ ?_) | (refine J.o 11 ?_; refine J.ev' hΓ ?_)))
          | (first | (refine JE.is ?_; first | refine JE.s3 ?_ | refine JE.nil ?_ | refine JE.s4 rfl (fun w hw => hw.subl (by repeat (first | exact List.nil_sublist _ | exact List.Sublist.refl _ | refine List.Sublist.cons_cons _ ?_ | refine List.Sublist.cons _ ?_))) ?_) | refine eK0.nn ?_ | (refine eK3.is ?_; refine eK3.nn (fun w hw => hw.subl (by repeat (first | exact List.nil_sublist _ | exact List.Sublist.refl _ | refine List.Sublist.cons_cons _ ?_ | refine List.Sublist.cons _ ?_))) ?_) | refine brK.nn ?_)
          | (first | refine JC.region ?_ | refine blockK.nn ?_)
          | (fail)
          | fail
        refine Br.done (by kernel_rfl) ?_
        refine midK.nn (by repeat (first | refine Ag.upd rfl ?_ | exact Ag.rfl')) ⟨_, _, _, rfl, rfl, rfl, ?_⟩
        first | exact .refl _ | exact br1 | exact br1.cons _ | exact br2 | exact br2.symm | exact br2.trans (br1.cons _)
      ·
        repeat' first
          | (refine J.isJ ?_; first | (first | (refine J.o 7 ?_; refine J.al hΓ (fun _ => ?_)) | (refine J.o 5 ?_; first | refine J.t0 hΓ ?_ | refine J.t1 hΓ ?_ | refine J.t2 hΓ ?_)) | (first | (refine J.o 0 ?_; refine J.ev' hΓ ?_) | refine J.nil ?_ | refine J.kd ?_ | (refine J.o 4 ?_; first | refine J.lR hΓ ?_) | (refine J.o 3 ?_; first | refine J.ev' hΓ ?_) | (refine J.o 5 ?_; first | refine J.t0 hΓ ?_ | refine J.t1 hΓ ?_ | refine J.t2 hΓ ?_) | (refine J.o 6 ?_; refine J.bx (fun _ => ?_)) | (refine J.o 7 ?_; refine J.al hΓ (fun _ => ?_)) | (refine J.o 10 ?_; refine J.ev' hΓ ?_) | (refine J.o 11 ?_; refine J.ev' hΓ ?_)))
          | (first | (refine JE.is ?_; first | refine JE.s3 ?_ | refine JE.nil ?_ | refine JE.s4 rfl (fun w hw => hw.subl (by repeat (first | exact List.nil_sublist _ | exact List.Sublist.refl _ | refine List.Sublist.cons_cons _ ?_ | refine List.Sublist.cons _ ?_))) ?_) | refine eK0.nn ?_ | (refine eK3.is ?_; refine eK3.nn (fun w hw => hw.subl (by repeat (first | exact List.nil_sublist _ | exact List.Sublist.refl _ | refine List.Sublist.cons_cons _ ?_ | refine List.Sublist.cons _ ?_))) ?_) | refine brK.nn ?_)
          | (first | refine JC.region ?_ | refine blockK.nn ?_)
          | (fail)
          | fail
        refine Br.done (by kernel_rfl) ?_
        refine midK.nn (by repeat (first | refine Ag.upd rfl ?_ | exact Ag.rfl')) ⟨_, _, _, rfl, rfl, rfl, ?_⟩
        first | exact .refl _ | exact br1 | exact br1.cons _ | exact br2 | exact br2.symm | exact br2.trans (br1.cons _)
    ·
      repeat' first
        | (refine J.isJ ?_; first | (first | (refine J.o 7 ?_; refine J.al hΓ (fun _ => ?_)) | (refine J.o 5 ?_; first | refine J.t0 hΓ ?_ | refine J.t1 hΓ ?_ | refine J.t2 hΓ ?_)) | (first | (refine J.o 0 ?_; refine J.ev' hΓ ?_) | refine J.nil ?_ | refine J.kd ?_ | (refine J.o 4 ?_; first | refine J.lR hΓ ?_) | (refine J.o 3 ?_; first | refine J.ev' hΓ ?_) | (refine J.o 5 ?_; first | refine J.t0 hΓ ?_ | refine J.t1 hΓ ?_ | refine J.t2 hΓ ?_) | (refine J.o 6 ?_; refine J.bx (fun _ => ?_)) | (refine J.o 7 ?_; refine J.al hΓ (fun _ => ?_)) | (refine J.o 10 ?_; refine J.ev' hΓ ?_) | (refine J.o 11 ?_; refine J.ev' hΓ ?_)))
        | (first | (refine JE.is ?_; first | refine JE.s3 ?_ | refine JE.nil ?_ | refine JE.s4 rfl (fun w hw => hw.subl (by repeat (first | exact List.nil_sublist _ | exact List.Sublist.refl _ | refine List.Sublist.cons_cons _ ?_ | refine List.Sublist.cons _ ?_))) ?_) | refine eK0.nn ?_ | (refine eK3.is ?_; refine eK3.nn (fun w hw => hw.subl (by repeat (first | exact List.nil_sublist _ | exact List.Sublist.refl _ | refine List.Sublist.cons_cons _ ?_ | refine List.Sublist.cons _ ?_))) ?_) | refine brK.nn ?_)
        | (first | refine JC.region ?_ | refine blockK.nn ?_)
        | (fail)
        | fail
      refine Br.two (c1 := 1) (c2 := 1) (m1 := 0) (m2 := 0) 2 4 [(3, 4), (3, 5), (3, 6), (3, 7)] [(3, 2), (3, 5), (3, 6), (3, 7)] (by decide +kernel) rfl rfl (by decide +kernel) rfl (by decide +kernel) rfl ?_ ?_
      ·
        repeat' first
          | (refine J.isJ ?_; first | (first | (refine J.o 7 ?_; refine J.al hΓ (fun _ => ?_)) | (refine J.o 5 ?_; first | refine J.t0 hΓ ?_ | refine J.t1 hΓ ?_ | refine J.t2 hΓ ?_)) | (first | (refine J.o 0 ?_; refine J.ev' hΓ ?_) | refine J.nil ?_ | refine J.kd ?_ | (refine J.o 4 ?_; first | refine J.lR hΓ ?_) | (refine J.o 3 ?_; first | refine J.ev' hΓ ?_) | (refine J.o 5 ?_; first | refine J.t0 hΓ ?_ | refine J.t1 hΓ ?_ | refine J.t2 hΓ ?_) | (refine J.o 6 ?_; refine J.bx (fun _ => ?_)) | (refine J.o 7 ?_; refine J.al hΓ (fun _ => ?_)) | (refine J.o 10 ?_; refine J.ev' hΓ ?_) | (refine J.o 11 ?_; refine J.ev' hΓ ?_)))
          | (first | (refine JE.is ?_; first | refine JE.s3 ?_ | refine JE.nil ?_ | refine JE.s4 rfl (fun w hw => hw.subl (by repeat (first | exact List.nil_sublist _ | exact List.Sublist.refl _ | refine List.Sublist.cons_cons _ ?_ | refine List.Sublist.cons _ ?_))) ?_) | refine eK0.nn ?_ | (refine eK3.is ?_; refine eK3.nn (fun w hw => hw.subl (by repeat (first | exact List.nil_sublist _ | exact List.Sublist.refl _ | refine List.Sublist.cons_cons _ ?_ | refine List.Sublist.cons _ ?_))) ?_) | refine brK.nn ?_)
          | (first | refine JC.region ?_ | refine blockK.nn ?_)
          | (fail)
          | fail
        refine Br.done (by kernel_rfl) ?_
        refine midK.nn (by repeat (first | refine Ag.upd rfl ?_ | exact Ag.rfl')) ⟨_, _, _, rfl, rfl, rfl, ?_⟩
        first | exact .refl _ | exact br1 | exact br1.cons _ | exact br2 | exact br2.symm | exact br2.trans (br1.cons _)
      ·
        repeat' first
          | (refine J.isJ ?_; first | (first | (refine J.o 7 ?_; refine J.al hΓ (fun _ => ?_)) | (refine J.o 5 ?_; first | refine J.t0 hΓ ?_ | refine J.t1 hΓ ?_ | refine J.t2 hΓ ?_)) | (first | (refine J.o 0 ?_; refine J.ev' hΓ ?_) | refine J.nil ?_ | refine J.kd ?_ | (refine J.o 4 ?_; first | refine J.lR hΓ ?_) | (refine J.o 3 ?_; first | refine J.ev' hΓ ?_) | (refine J.o 5 ?_; first | refine J.t0 hΓ ?_ | refine J.t1 hΓ ?_ | refine J.t2 hΓ ?_) | (refine J.o 6 ?_; refine J.bx (fun _ => ?_)) | (refine J.o 7 ?_; refine J.al hΓ (fun _ => ?_)) | (refine J.o 10 ?_; refine J.ev' hΓ ?_) | (refine J.o 11 ?_; refine J.ev' hΓ ?_)))
          | (first | (refine JE.is ?_; first | refine JE.s3 ?_ | refine JE.nil ?_ | refine JE.s4 rfl (fun w hw => hw.subl (by repeat (first | exact List.nil_sublist _ | exact List.Sublist.refl _ | refine List.Sublist.cons_cons _ ?_ | refine List.Sublist.cons _ ?_))) ?_) | refine eK0.nn ?_ | (refine eK3.is ?_; refine eK3.nn (fun w hw => hw.subl (by repeat (first | exact List.nil_sublist _ | exact List.Sublist.refl _ | refine List.Sublist.cons_cons _ ?_ | refine List.Sublist.cons _ ?_))) ?_) | refine brK.nn ?_)
          | (first | refine JC.region ?_ | refine blockK.nn ?_)
          | (fail)
          | fail
        refine Br.done (by kernel_rfl) ?_
        refine midK.nn (by repeat (first | refine Ag.upd rfl ?_ | exact Ag.rfl')) ⟨_, _, _, rfl, rfl, rfl, ?_⟩
        first | exact .refl _ | exact br1 | exact br1.cons _ | exact br2 | exact br2.symm | exact br2.trans (br1.cons _)
    ·
      repeat' first
        | (refine J.isJ ?_; first | (first | (refine J.o 7 ?_; refine J.al hΓ (fun _ => ?_)) | (refine J.o 5 ?_; first | refine J.t0 hΓ ?_ | refine J.t1 hΓ ?_ | refine J.t2 hΓ ?_)) | (first | (refine J.o 0 ?_; refine J.ev' hΓ ?_) | refine J.nil ?_ | refine J.kd ?_ | (refine J.o 4 ?_; first | refine J.lR hΓ ?_) | (refine J.o 3 ?_; first | refine J.ev' hΓ ?_) | (refine J.o 5 ?_; first | refine J.t0 hΓ ?_ | refine J.t1 hΓ ?_ | refine J.t2 hΓ ?_) | (refine J.o 6 ?_; refine J.bx (fun _ => ?_)) | (refine J.o 7 ?_; refine J.al hΓ (fun _ => ?_)) | (refine J.o 10 ?_; refine J.ev' hΓ ?_) | (refine J.o 11 ?_; refine J.ev' hΓ ?_)))
        | (first | (refine JE.is ?_; first | refine JE.s3 ?_ | refine JE.nil ?_ | refine JE.s4 rfl (fun w hw => hw.subl (by repeat (first | exact List.nil_sublist _ | exact List.Sublist.refl _ | refine List.Sublist.cons_cons _ ?_ | refine List.Sublist.cons _ ?_))) ?_) | refine eK0.nn ?_ | (refine eK3.is ?_; refine eK3.nn (fun w hw => hw.subl (by repeat (first | exact List.nil_sublist _ | exact List.Sublist.refl _ | refine List.Sublist.cons_cons _ ?_ | refine List.Sublist.cons _ ?_))) ?_) | refine brK.nn ?_)
        | (first | refine JC.region ?_ | refine blockK.nn ?_)
        | (fail)
        | fail
      refine Br.two (c1 := 1) (c2 := 1) (m1 := 0) (m2 := 0) 2 3 [(3, 3), (3, 5), (3, 6), (3, 7)] [(3, 2), (3, 5), (3, 6), (3, 7)] (by decide +kernel) rfl rfl (by decide +kernel) rfl (by decide +kernel) rfl ?_ ?_
      ·
        repeat' first
          | (refine J.isJ ?_; first | (first | (refine J.o 7 ?_; refine J.al hΓ (fun _ => ?_)) | (refine J.o 5 ?_; first | refine J.t0 hΓ ?_ | refine J.t1 hΓ ?_ | refine J.t2 hΓ ?_)) | (first | (refine J.o 0 ?_; refine J.ev' hΓ ?_) | refine J.nil ?_ | refine J.kd ?_ | (refine J.o 4 ?_; first | refine J.lR hΓ ?_) | (refine J.o 3 ?_; first | refine J.ev' hΓ ?_) | (refine J.o 5 ?_; first | refine J.t0 hΓ ?_ | refine J.t1 hΓ ?_ | refine J.t2 hΓ ?_) | (refine J.o 6 ?_; refine J.bx (fun _ => ?_)) | (refine J.o 7 ?_; refine J.al hΓ (fun _ => ?_)) | (refine J.o 10 ?_; refine J.ev' hΓ ?_) | (refine J.o 11 ?_; refine J.ev' hΓ ?_)))
          | (first | (refine JE.is ?_; first | refine JE.s3 ?_ | refine JE.nil ?_ | refine JE.s4 rfl (fun w hw => hw.subl (by repeat (first | exact List.nil_sublist _ | exact List.Sublist.refl _ | refine List.Sublist.cons_cons _ ?_ | refine List.Sublist.cons _ ?_))) ?_) | refine eK0.nn ?_ | (refine eK3.is ?_; refine eK3.nn (fun w hw => hw.subl (by repeat (first | exact List.nil_sublist _ | exact List.Sublist.refl _ | refine List.Sublist.cons_cons _ ?_ | refine List.Sublist.cons _ ?_))) ?_) | refine brK.nn ?_)
          | (first | refine JC.region ?_ | refine blockK.nn ?_)
          | (fail)
          | fail
        refine Br.done (by kernel_rfl) ?_
        refine midK.nn (by repeat (first | refine Ag.upd rfl ?_ | exact Ag.rfl')) ⟨_, _, _, rfl, rfl, rfl, ?_⟩
        first | exact .refl _ | exact br1 | exact br1.cons _ | exact br2 | exact br2.symm | exact br2.trans (br1.cons _)
      ·
        repeat' first
          | (refine J.isJ ?_; first | (first | (refine J.o 7 ?_; refine J.al hΓ (fun _ => ?_)) | (refine J.o 5 ?_; first | refine J.t0 hΓ ?_ | refine J.t1 hΓ ?_ | refine J.t2 hΓ ?_)) | (first | (refine J.o 0 ?_; refine J.ev' hΓ ?_) | refine J.nil ?_ | refine J.kd ?_ | (refine J.o 4 ?_; first | refine J.lR hΓ ?_) | (refine J.o 3 ?_; first | refine J.ev' hΓ ?_) | (refine J.o 5 ?_; first | refine J.t0 hΓ ?_ | refine J.t1 hΓ ?_ | refine J.t2 hΓ ?_) | (refine J.o 6 ?_; refine J.bx (fun _ => ?_)) | (refine J.o 7 ?_; refine J.al hΓ (fun _ => ?_)) | (refine J.o 10 ?_; refine J.ev' hΓ ?_) | (refine J.o 11 ?_; refine J.ev' hΓ ?_)))
          | (first | (refine JE.is ?_; first | refine JE.s3 ?_ | refine JE.nil ?_ | refine JE.s4 rfl (fun w hw => hw.subl (by repeat (first | exact List.nil_sublist _ | exact List.Sublist.refl _ | refine List.Sublist.cons_cons _ ?_ | refine List.Sublist.cons _ ?_))) ?_) | refine eK0.nn ?_ | (refine eK3.is ?_; refine eK3.nn (fun w hw => hw.subl (by repeat (first | exact List.nil_sublist _ | exact List.Sublist.refl _ | refine List.Sublist.cons_cons _ ?_ | refine List.Sublist.cons _ ?_))) ?_) | refine brK.nn ?_)
          | (first | refine JC.region ?_ | refine blockK.nn ?_)
          | (fail)
          | fail
        refine Br.done (by kernel_rfl) ?_
        refine midK.nn (by repeat (first | refine Ag.upd rfl ?_ | exact Ag.rfl')) ⟨_, _, _, rfl, rfl, rfl, ?_⟩
        first | exact .refl _ | exact br1 | exact br1.cons _ | exact br2 | exact br2.symm | exact br2.trans (br1.cons _)
  rintro g L' ⟨b9, b10, b11, e9, e10, e11, hp⟩
  refine toW.nn ?_
  refine JW.perm hp ?_
  refine JW.pin 9 e9 (JW.pin 10 e10 (JW.pin 11 e11 ?_))
  refine JW.seq ?_
  refine JW.seqC ?_
  have cO := fun w hw => Order_any sv.so sv.po bs w hw
  repeat' first
    | (refine J.isJ ?_; first | (first | (refine J.o 4 ?_; refine J.lR hΓ ?_ (hr := Rd.hd.tl.tl.tl.tl.tl.tl.tl)) | (refine J.fc 21 ?_; refine J.call1 eOrder rfl rfl (fun w hw => cO w (stR_of2 rS.tl.tl.tl.tl.tl.tl.tl.tl hw)) ?_; rintro _ hA ⟨aA, cA, rfl, oA⟩) | (refine J.fc 68 ?_; refine J.callx eOrders rfl rfl (fun w hw => orders_any hv (by omega) oA.sl RdH.hd hw) ?_; rintro _ _ ⟨bx2, bx5, bx3, ar, cr, hr, rfl, rfl, oR⟩)) | (first | (refine J.o 0 ?_; refine J.ev' hΓ ?_) | refine J.nil ?_ | refine J.kd ?_ | (refine J.o 4 ?_; first | refine J.lR hΓ ?_) | (refine J.o 3 ?_; first | refine J.ev' hΓ ?_) | (refine J.o 5 ?_; first | refine J.t0 hΓ ?_ | refine J.t1 hΓ ?_ | refine J.t2 hΓ ?_) | (refine J.o 6 ?_; refine J.bx (fun _ => ?_)) | (refine J.o 7 ?_; refine J.al hΓ (fun _ => ?_)) | (refine J.o 10 ?_; refine J.ev' hΓ ?_) | (refine J.o 11 ?_; refine J.ev' hΓ ?_)))
    | (first | refine JC.region ?_ | refine blockK.nn ?_)
    | (fail)
    | fail
  refine toW.nn ?_
  have hwl := wo_len hv hnd
  have hol : 0 < o.length := List.length_pos_of_mem hv
  obtain ⟨L0, hL0⟩ : ∃ L0, [(bx5, Obj.cells ⟨[.slice ar (wo o v).length cr]⟩ 28 (0, 0))] :: hr :: cI1 bx3 v :: [(bx2, Obj.cells ⟨[.slice aA o.length cA]⟩ 28 (0, 0))] :: hA :: L = L0 := ⟨_, rfl⟩
  have rS0 : RdH R L0 (stR K bs s hO) := by rw [← hL0]; exact rS.tl.tl.tl.tl.tl
  obtain ⟨X, hX⟩ : ∃ X : Heap, X = [(bx2, .cells ⟨[.slice aA o.length cA]⟩ 28 (0, 0))] ++ ([(bx5, .cells ⟨[.slice ar (wo o v).length cr]⟩ 28 (0, 0))] ++ ([(bx3, .cells ⟨[.int .i64 v]⟩ 3 (0, 0))] ++ (hA ++ hr))) := ⟨_, rfl⟩
  have rX0 : RdH R L0 X := by
    rw [← hL0, hX]
    exact (RdH.hd.tl.tl.tl).append (RdH.hd.append ((RdH.hd.tl.tl).append ((RdH.hd.tl.tl.tl.tl).append RdH.hd.tl)))
  -- the fragments put in order
  refine JW.weak (L' := cP1 b3 (some ⟨bs, 0, none⟩) :: cI1 b4 (a : Int) :: cP1 b6 none :: cI1 b7 0 :: [(b8, .cells ⟨[.int .i64 0]⟩ 31 (0, 0))] :: cP1 b9 (some ⟨bs, 0, none⟩) :: cI1 b10 (a : Int) :: cI1 b11 (-1) :: L0) (fun w hw => by
    rw [← hL0]
    exact H.sel (l := [_, _, _, _, _, _, _, _, _, _, _, _, _]) (M := L) hw [12, 11, 10, 9, 8, 5, 6, 7, 0, 1, 2, 3, 4]) ?_
  refine JW.rangeB (Ψ := fun L' => ∃ L1, L' = cP1 b3 (some ⟨bs, 0, none⟩) :: cI1 b4 (a : Int) :: cP1 b6 none :: cI1 b7 0 :: [(b8, .cells ⟨[.int .i64 0]⟩ 31 (0, 0))] :: L1 ∧ mvT F (wo o v) v bs a b9 b10 b11 L0 o.length L1) rfl eOrd2 (fun fn D tmps w1 ha1 hw1 => ?_) ?_
  · refine (ord2_any (l := o) (rest := wo o v) (v := v) (by omega) hwl (a := aA) (c := cA) (ar := ar) (cr := cr) (b2 := bx2) (b5 := bx5) (b3 := bx3) (X := X) hX oA.sl oR.sl 4 (D + 1) (fun i L' => ∃ L1, L' = [(D + 1, .loop (recL fn tmps _ _ _ D))] :: [(D, .deferred (some []))] :: cP1 b3 (some ⟨bs, 0, none⟩) :: cI1 b4 (a : Int) :: cP1 b6 none :: cI1 b7 0 :: [(b8, .cells ⟨[.int .i64 0]⟩ 31 (0, 0))] :: L1 ∧ mvT F (wo o v) v bs a b9 b10 b11 L0 i L1) ?_ ?_ ⟨_, rfl, rfl⟩ hw1).mono ?_
    · rintro i _ ⟨L1, rfl, hm⟩
      exact (hm.rd rX0).tl.tl.tl.tl.tl.tl.tl
    · rintro i _ hil ⟨L1, rfl, hm⟩ a6 c6 h6 o6 w hw
      have hw2 := hw.perm (List.Perm.swap _ _ _)
      refine round_any (Φ := fun v' L' => v' = .bool true ∧ _) rfl rfl (by rw [round_tmps]; exact ha1.put (some 23) (.slice a6 (insAt (wo o v) i v).length c6)) ?_ hw2
      have hip := ins_perm hv hnd i
      have hil2 := hip.length_eq
      have rS1 := hm.rd rS0
      refine JR.region rfl ?_
      repeat' first
        | (refine J.isJ ?_; first | (fail) | (first | (refine J.o 0 ?_; refine J.ev' hΓ ?_) | refine J.nil ?_ | refine J.kd ?_ | (refine J.o 4 ?_; first | refine J.lR hΓ ?_) | (refine J.o 3 ?_; first | refine J.ev' hΓ ?_) | (refine J.o 5 ?_; first | refine J.t0 hΓ ?_ | refine J.t1 hΓ ?_ | refine J.t2 hΓ ?_) | (refine J.o 6 ?_; refine J.bx (fun _ => ?_)) | (refine J.o 7 ?_; refine J.al hΓ (fun _ => ?_)) | (refine J.o 10 ?_; refine J.ev' hΓ ?_) | (refine J.o 11 ?_; refine J.ev' hΓ ?_)))
        | (first | refine JR.seq ?_ | refine JR.region (by kernel_rfl) ?_ | refine JR.block ?_ | refine JR.ret ?_ | refine JR.exit ?_ | refine JR.skip ?_ | refine thenR.nn ?_ | refine thenR.r ?_ | refine thenR.x ?_ | refine blockK.nn ?_ | refine JR.condT rfl ?_ | refine JR.condF rfl ?_ | (refine JR.cond rfl (fun hc => ?_) (fun hc => ?_) <;> ((try simp only [decide_eq_true_eq, decide_eq_false_iff_not, beq_iff_eq, beq_eq_false_iff_ne, bne_iff_ne, bne_eq_false_iff_eq, Bool.not_eq_true', Bool.not_eq_false', Bool.not_eq_true, Bool.not_eq_false] at hc) <;> first | (first | (exact absurd rfl hc) | (exfalso; omega) | (exact absurd (hc.symm.trans (by assumption : _ = false)) (by decide)) | (exact absurd (hc.symm.trans (by assumption : _ = true)) (by decide))) | skip)))
        | (fail)
        | fail
      refine asgK.nn (h6 :: [(D, .deferred (some []))] :: cP1 b3 (some ⟨bs, 0, none⟩) :: cI1 b4 (a : Int) :: cP1 b6 none :: cI1 b7 0 :: [(b8, .cells ⟨[.int .i64 0]⟩ 31 (0, 0))] :: L1) (fun w hw => hw) ?_
      repeat' first
        | (refine J.isJ ?_; first | (first | (refine J.o 4 ?_; first | refine J.lR hΓ ?_ (hr := Rd.hd.tl.tl.tl) | refine J.lR hΓ ?_ (hr := Rd.hd.tl.tl.tl.tl)) | (refine J.fc 38 ?_; refine J.callx eReb2 rfl rfl (fun w hw => rebuilt_any sv h8 (insAt (wo o v) i v) hil2 (sv.ho.perm hip) (fun u hu => hip.mem_iff.2 hu) a6 c6 h6 o6.sl rS1.tl.tl.tl.tl.tl.tl.tl.tl RdH.hd.tl hw) ?_; rintro _ _ ⟨bt, Kt, t, y, hO2, hP2, rfl, rfl, sv2⟩) | (refine J.fc 16 ?_; refine J.callx eSize rfl rfl (fun w hw => Size_any sv2.so bt y sv2.sy.1 (stR_b (stR_hd _)) (stR_N (stR_hd _)) hw) ?_; rintro _ _ ⟨l1, rfl, rfl, bel1⟩)) | (first | (refine J.o 0 ?_; refine J.ev' hΓ ?_) | refine J.nil ?_ | refine J.kd ?_ | (refine J.o 4 ?_; first | refine J.lR hΓ ?_) | (refine J.o 3 ?_; first | refine J.ev' hΓ ?_) | (refine J.o 5 ?_; first | refine J.t0 hΓ ?_ | refine J.t1 hΓ ?_ | refine J.t2 hΓ ?_) | (refine J.o 6 ?_; refine J.bx (fun _ => ?_)) | (refine J.o 7 ?_; refine J.al hΓ (fun _ => ?_)) | (refine J.o 10 ?_; refine J.ev' hΓ ?_) | (refine J.o 11 ?_; refine J.ev' hΓ ?_)))
        | (first | refine JR.seq ?_ | refine JR.region (by kernel_rfl) ?_ | refine JR.block ?_ | refine JR.ret ?_ | refine JR.exit ?_ | refine JR.skip ?_ | refine thenR.nn ?_ | refine thenR.r ?_ | refine thenR.x ?_ | refine blockK.nn ?_ | refine JR.condT rfl ?_ | refine JR.condF rfl ?_ | (refine JR.cond rfl (fun hc => ?_) (fun hc => ?_) <;> ((try simp only [decide_eq_true_eq, decide_eq_false_iff_not, beq_iff_eq, beq_eq_false_iff_ne, bne_iff_ne, bne_eq_false_iff_eq, Bool.not_eq_true', Bool.not_eq_false', Bool.not_eq_true, Bool.not_eq_false] at hc) <;> first | (first | (exact absurd rfl hc) | (exfalso; omega) | (exact absurd (hc.symm.trans (by assumption : _ = false)) (by decide)) | (exact absurd (hc.symm.trans (by assumption : _ = true)) (by decide))) | skip)))
        | (fail)
        | fail
      all_goals first | (exfalso; omega) | skip
      have hz1 := sv2.size bel1
      rw [hz1]
      rcases i with _ | i
      · have hm : L1 = _ := hm
        subst hm
        repeat' first
          | (refine J.isJ ?_; first | ((refine J.o 4 ?_; refine J.lR hΓ ?_ (hr := Rd.app _ Rd.hd.tl.tl.tl.tl.tl.tl.tl.tl.tl.tl.tl.tl))) | (first | (refine J.o 0 ?_; refine J.ev' hΓ ?_) | refine J.nil ?_ | refine J.kd ?_ | (refine J.o 4 ?_; first | refine J.lR hΓ ?_) | (refine J.o 3 ?_; first | refine J.ev' hΓ ?_) | (refine J.o 5 ?_; first | refine J.t0 hΓ ?_ | refine J.t1 hΓ ?_ | refine J.t2 hΓ ?_) | (refine J.o 6 ?_; refine J.bx (fun _ => ?_)) | (refine J.o 7 ?_; refine J.al hΓ (fun _ => ?_)) | (refine J.o 10 ?_; refine J.ev' hΓ ?_) | (refine J.o 11 ?_; refine J.ev' hΓ ?_)))
          | (first | refine JR.seq ?_ | refine JR.region (by kernel_rfl) ?_ | refine JR.block ?_ | refine JR.ret ?_ | refine JR.exit ?_ | refine JR.skip ?_ | refine thenR.nn ?_ | refine thenR.r ?_ | refine thenR.x ?_ | refine blockK.nn ?_ | refine JR.condT rfl ?_ | refine JR.condF rfl ?_ | (refine JR.cond rfl (fun hc => ?_) (fun hc => ?_) <;> ((try simp only [decide_eq_true_eq, decide_eq_false_iff_not, beq_iff_eq, beq_eq_false_iff_ne, bne_iff_ne, bne_eq_false_iff_eq, Bool.not_eq_true', Bool.not_eq_false', Bool.not_eq_true, Bool.not_eq_false] at hc) <;> first | (first | (exact absurd rfl hc) | (exfalso; omega) | (exact absurd (hc.symm.trans (by assumption : _ = false)) (by decide)) | (exact absurd (hc.symm.trans (by assumption : _ = true)) (by decide))) | skip)))
          | (fail)
          | fail
        all_goals first | (exfalso; omega) | skip
        refine J.perm ((bring_perm 16 _).trans ((bring_perm 16 _).trans (bring_perm 16 _))) ?_
        repeat' first
          | (refine J.isJ ?_; first | ((refine J.o 5 ?_; first | refine J.t0 hΓ ?_ | refine J.t1 hΓ ?_ | refine J.t2 hΓ ?_)) | (first | (refine J.o 0 ?_; refine J.ev' hΓ ?_) | refine J.nil ?_ | refine J.kd ?_ | (refine J.o 4 ?_; first | refine J.lR hΓ ?_) | (refine J.o 3 ?_; first | refine J.ev' hΓ ?_) | (refine J.o 5 ?_; first | refine J.t0 hΓ ?_ | refine J.t1 hΓ ?_ | refine J.t2 hΓ ?_) | (refine J.o 6 ?_; refine J.bx (fun _ => ?_)) | (refine J.o 7 ?_; refine J.al hΓ (fun _ => ?_)) | (refine J.o 10 ?_; refine J.ev' hΓ ?_) | (refine J.o 11 ?_; refine J.ev' hΓ ?_)))
          | (first | refine JR.seq ?_ | refine JR.region (by kernel_rfl) ?_ | refine JR.block ?_ | refine JR.ret ?_ | refine JR.exit ?_ | refine JR.skip ?_ | refine thenR.nn ?_ | refine thenR.r ?_ | refine thenR.x ?_ | refine blockK.nn ?_ | refine JR.condT rfl ?_ | refine JR.condF rfl ?_ | (refine JR.cond rfl (fun hc => ?_) (fun hc => ?_) <;> ((try simp only [decide_eq_true_eq, decide_eq_false_iff_not, beq_iff_eq, beq_eq_false_iff_ne, bne_iff_ne, bne_eq_false_iff_eq, Bool.not_eq_true', Bool.not_eq_false', Bool.not_eq_true, Bool.not_eq_false] at hc) <;> first | (first | (exact absurd rfl hc) | (exfalso; omega) | (exact absurd (hc.symm.trans (by assumption : _ = false)) (by decide)) | (exact absurd (hc.symm.trans (by assumption : _ = true)) (by decide))) | skip)))
          | (fail)
          | fail
        refine rndK.nn ([(D, .deferred (some []))] :: cP1 b3 (some ⟨bs, 0, none⟩) :: cI1 b4 (a : Int) :: cP1 b6 none :: cI1 b7 0 :: [(b8, .cells ⟨[.int .i64 0]⟩ 31 (0, 0))] :: cP1 b9 (some ⟨bt, 0, none⟩) :: cI1 b10 ((y : Nat) : Int) :: cI1 b11 ((szF (insAt (wo o v) 0 v) F : Nat) : Int) :: (sF Kt bt t ++ (hO2 :: hP2 :: L0))) (fun w hw => H.sel (l := [_, _, _, _, _, _, _, _, _, _, _, _, _, _, _, _, _]) (M := L0) hw [9, 11, 12, 13, 14, 15, 16, 0, 1, 2, 3, 4, 5, 6, 7, 8]) ⟨rfl, _, rfl, bt, Kt, t, y, hO2, hP2, sv2, rfl⟩
      · obtain ⟨b1, K1, s1, y1, hO1, hP1, sv1, rfl⟩ := hm
        repeat' first
          | (refine J.isJ ?_; first | ((refine J.o 4 ?_; refine J.lR hΓ ?_ (hr := Rd.app _ Rd.hd.tl.tl.tl.tl.tl.tl.tl.tl.tl.tl.tl.tl))) | (first | (refine J.o 0 ?_; refine J.ev' hΓ ?_) | refine J.nil ?_ | refine J.kd ?_ | (refine J.o 4 ?_; first | refine J.lR hΓ ?_) | (refine J.o 3 ?_; first | refine J.ev' hΓ ?_) | (refine J.o 5 ?_; first | refine J.t0 hΓ ?_ | refine J.t1 hΓ ?_ | refine J.t2 hΓ ?_) | (refine J.o 6 ?_; refine J.bx (fun _ => ?_)) | (refine J.o 7 ?_; refine J.al hΓ (fun _ => ?_)) | (refine J.o 10 ?_; refine J.ev' hΓ ?_) | (refine J.o 11 ?_; refine J.ev' hΓ ?_)))
          | (first | refine JR.seq ?_ | refine JR.region (by kernel_rfl) ?_ | refine JR.block ?_ | refine JR.ret ?_ | refine JR.exit ?_ | refine JR.skip ?_ | refine thenR.nn ?_ | refine thenR.r ?_ | refine thenR.x ?_ | refine blockK.nn ?_ | refine JR.condT rfl ?_ | refine JR.condF rfl ?_ | (refine JR.cond rfl (fun hc => ?_) (fun hc => ?_) <;> ((try simp only [decide_eq_true_eq, decide_eq_false_iff_not, beq_iff_eq, beq_eq_false_iff_ne, bne_iff_ne, bne_eq_false_iff_eq, Bool.not_eq_true', Bool.not_eq_false', Bool.not_eq_true, Bool.not_eq_false] at hc) <;> first | (first | (exact absurd rfl hc) | (exfalso; omega) | (exact absurd (hc.symm.trans (by assumption : _ = false)) (by decide)) | (exact absurd (hc.symm.trans (by assumption : _ = true)) (by decide))) | skip)))
          | (fail)
          | fail
        all_goals first | (exfalso; omega) | skip
        ·
          have hb : bestO (fun l => szF l F) (wo o v) v (i + 1) = insAt (wo o v) (i + 1) v := by unfold bestO; rw [if_pos (by omega)]
          refine J.perm ((bring_perm 16 _).trans ((bring_perm 16 _).trans (bring_perm 16 _))) ?_
          repeat' first
            | (refine J.isJ ?_; first | ((refine J.o 5 ?_; first | refine J.t0 hΓ ?_ | refine J.t1 hΓ ?_ | refine J.t2 hΓ ?_)) | (first | (refine J.o 0 ?_; refine J.ev' hΓ ?_) | refine J.nil ?_ | refine J.kd ?_ | (refine J.o 4 ?_; first | refine J.lR hΓ ?_) | (refine J.o 3 ?_; first | refine J.ev' hΓ ?_) | (refine J.o 5 ?_; first | refine J.t0 hΓ ?_ | refine J.t1 hΓ ?_ | refine J.t2 hΓ ?_) | (refine J.o 6 ?_; refine J.bx (fun _ => ?_)) | (refine J.o 7 ?_; refine J.al hΓ (fun _ => ?_)) | (refine J.o 10 ?_; refine J.ev' hΓ ?_) | (refine J.o 11 ?_; refine J.ev' hΓ ?_)))
            | (first | refine JR.seq ?_ | refine JR.region (by kernel_rfl) ?_ | refine JR.block ?_ | refine JR.ret ?_ | refine JR.exit ?_ | refine JR.skip ?_ | refine thenR.nn ?_ | refine thenR.r ?_ | refine thenR.x ?_ | refine blockK.nn ?_ | refine JR.condT rfl ?_ | refine JR.condF rfl ?_ | (refine JR.cond rfl (fun hc => ?_) (fun hc => ?_) <;> ((try simp only [decide_eq_true_eq, decide_eq_false_iff_not, beq_iff_eq, beq_eq_false_iff_ne, bne_iff_ne, bne_eq_false_iff_eq, Bool.not_eq_true', Bool.not_eq_false', Bool.not_eq_true, Bool.not_eq_false] at hc) <;> first | (first | (exact absurd rfl hc) | (exfalso; omega) | (exact absurd (hc.symm.trans (by assumption : _ = false)) (by decide)) | (exact absurd (hc.symm.trans (by assumption : _ = true)) (by decide))) | skip)))
            | (fail)
            | fail
          refine rndK.nn ([(D, .deferred (some []))] :: cP1 b3 (some ⟨bs, 0, none⟩) :: cI1 b4 (a : Int) :: cP1 b6 none :: cI1 b7 0 :: [(b8, .cells ⟨[.int .i64 0]⟩ 31 (0, 0))] :: cP1 b9 (some ⟨bt, 0, none⟩) :: cI1 b10 ((y : Nat) : Int) :: cI1 b11 ((szF (insAt (wo o v) (i + 1) v) F : Nat) : Int) :: (sF Kt bt t ++ (hO2 :: hP2 :: L0))) (fun w hw => H.sel (l := [_, _, _, _, _, _, _, _, _, _, _, _, _, _, _, _, _, _, _, _, _, _, _]) (M := L0) hw [9, 11, 12, 13, 14, 15, 16, 0, 1, 2, 3, 4, 5, 6, 7, 8]) ⟨rfl, _, rfl, bt, Kt, t, y, hO2, hP2, by rw [hb]; exact sv2, by rw [hb]⟩
        ·
          have hb : bestO (fun l => szF l F) (wo o v) v (i + 1) = bestO (fun l => szF l F) (wo o v) v i := by
            conv => lhs; unfold bestO
            rw [if_neg (by omega)]
          refine rndK.nn ([(D, .deferred (some []))] :: cP1 b3 (some ⟨bs, 0, none⟩) :: cI1 b4 (a : Int) :: cP1 b6 none :: cI1 b7 0 :: [(b8, .cells ⟨[.int .i64 0]⟩ 31 (0, 0))] :: cP1 b9 (some ⟨b1, 0, none⟩) :: cI1 b10 ((y1 : Nat) : Int) :: cI1 b11 ((szF (bestO (fun l => szF l F) (wo o v) v i) F : Nat) : Int) :: (sF K1 b1 s1 ++ (hO1 :: hP1 :: L0))) (fun w hw => H.sel (l := [_, _, _, _, _, _, _, _, _, _, _, _, _, _, _, _, _, _, _, _, _, _, _]) (M := L0) hw [6, 8, 9, 10, 11, 12, 13, 14, 15, 16, 17, 18, 19, 20, 21, 22]) ⟨rfl, _, rfl, b1, K1, s1, y1, hO1, hP1, by rw [hb]; exact sv1, by rw [hb]⟩
    · rintro e w' ⟨v', L', rfl, hw', L1, rfl, hm⟩
      exact ⟨v', _, rfl, hw', L1, rfl, hm⟩
  · rintro D _ ⟨L1, rfl, hm⟩
    subst hL0
    obtain ⟨k, hk⟩ : ∃ k, o.length = k + 1 := ⟨o.length - 1, by omega⟩
    have hmov : bestO (fun l => szF l F) (wo o v) v k = movO F o v := by
      unfold movO
      rw [hk]
      rfl
    rw [hk] at hm
    obtain ⟨bt, Kt, t, y, hO2, hP2, svt, rfl⟩ := hm
    refine JW.perm ((bring_perm 5 _).trans ((bring_perm 5 _).trans (bring_perm 5 _))) ?_
    refine JW.drawN (by decide +kernel) ?_
    refine JA.two (i := 0) (j := 1) (by decide +kernel) ?_ ?_
    ·
      refine JO.of rfl (fun c h => by cases h) ?_
      (refine J.isJ ?_; refine J.o 4 ?_; refine J.lR hΓ ?_ (hr := Rd.hd.tl.tl.tl.tl.tl.tl))
      (refine J.nil ?_; refine nextK.nn ?_)
      refine JA.two (i := 1) (j := 2) (by decide +kernel) ?_ ?_
      ·
        refine JO.of rfl (fun c h => by cases h) ?_
        (refine J.isJ ?_; refine J.o 4 ?_; refine J.lR hΓ ?_ (hr := Rd.hd.tl.tl.tl.tl.tl.tl.tl))
        (refine J.nil ?_; refine nextK.nn ?_)
        refine JA.one (i := 2) (by decide +kernel) ?_
        refine JO.of rfl (fun c h => by cases h) ?_
        (refine J.isJ ?_; refine J.o 5 ?_; refine J.t0 hΓ ?_)
        (refine J.nil ?_; refine nextK.nn ?_)
        refine JA.one (i := 3) (by decide +kernel) ?_
        refine JO.of rfl (fun c h => by cases h) ?_
        (refine J.isJ ?_; refine J.o 5 ?_; refine J.t1 hΓ ?_)
        (refine J.nil ?_; refine nextK.nn ?_)
        refine JA.one (i := 4) (by decide +kernel) ?_
        refine JO.of rfl (fun c h => by cases h) ?_
        (refine J.isJ ?_; refine J.o 5 ?_; refine J.t2 hΓ ?_)
        (refine J.nil ?_; refine nextK.nn ?_)
        refine JA.done (by decide +kernel) fun a w ha hw => ⟨rfl, wpIn_ret (leaves_D ha (hw.perm (bring_perm 3 _)) ?_)⟩
        exact retCCC hΓ rfl rfl rfl rfl rfl rfl rfl (Rd.hd.tl) (Rd.hd.tl.tl) (Rd.hd.tl.tl.tl) rfl rfl rfl (fun w hw => ⟨_, _, rfl, H.sel (l := [_, _, _, _, _, _, _, _, _, _, _, _, _, _, _, _, _, _, _, _]) (M := L) hw [9, 10, 11, 12, 13, 14], bt, Kt, t, y, hO2, hP2, rfl, rfl, hmov ▸ svt⟩)
      ·
        refine JO.of rfl (fun c h => by cases h) ?_
        (refine J.isJ ?_; refine J.o 5 ?_; refine J.t0 hΓ ?_)
        (refine J.nil ?_; refine nextK.nn ?_)
        refine JA.one (i := 1) (by decide +kernel) ?_
        refine JO.of rfl (fun c h => by cases h) ?_
        (refine J.isJ ?_; refine J.o 4 ?_; refine J.lR hΓ ?_ (hr := Rd.hd.tl.tl.tl.tl.tl.tl.tl))
        (refine J.nil ?_; refine nextK.nn ?_)
        refine JA.one (i := 3) (by decide +kernel) ?_
        refine JO.of rfl (fun c h => by cases h) ?_
        (refine J.isJ ?_; refine J.o 5 ?_; refine J.t1 hΓ ?_)
        (refine J.nil ?_; refine nextK.nn ?_)
        refine JA.one (i := 4) (by decide +kernel) ?_
        refine JO.of rfl (fun c h => by cases h) ?_
        (refine J.isJ ?_; refine J.o 5 ?_; refine J.t2 hΓ ?_)
        (refine J.nil ?_; refine nextK.nn ?_)
        refine JA.done (by decide +kernel) fun a w ha hw => ⟨rfl, wpIn_ret (leaves_D ha (hw.perm (bring_perm 3 _)) ?_)⟩
        exact retCCC hΓ rfl rfl rfl rfl rfl rfl rfl (Rd.hd.tl) (Rd.hd.tl.tl) (Rd.hd.tl.tl.tl) rfl rfl rfl (fun w hw => ⟨_, _, rfl, H.sel (l := [_, _, _, _, _, _, _, _, _, _, _, _, _, _, _, _, _, _, _, _]) (M := L) hw [9, 10, 11, 12, 13, 14], bt, Kt, t, y, hO2, hP2, rfl, rfl, hmov ▸ svt⟩)
    ·
      refine JO.of rfl (fun c h => by cases h) ?_
      (refine J.isJ ?_; refine J.o 4 ?_; refine J.lR hΓ ?_ (hr := Rd.hd.tl.tl.tl.tl.tl.tl.tl))
      (refine J.nil ?_; refine nextK.nn ?_)
      refine JA.one (i := 0) (by decide +kernel) ?_
      refine JO.of rfl (fun c h => by cases h) ?_
      (refine J.isJ ?_; refine J.o 4 ?_; refine J.lR hΓ ?_ (hr := Rd.hd.tl.tl.tl.tl.tl.tl))
      (refine J.nil ?_; refine nextK.nn ?_)
      refine JA.one (i := 2) (by decide +kernel) ?_
      refine JO.of rfl (fun c h => by cases h) ?_
      (refine J.isJ ?_; refine J.o 5 ?_; refine J.t0 hΓ ?_)
      (refine J.nil ?_; refine nextK.nn ?_)
      refine JA.one (i := 3) (by decide +kernel) ?_
      refine JO.of rfl (fun c h => by cases h) ?_
      (refine J.isJ ?_; refine J.o 5 ?_; refine J.t1 hΓ ?_)
      (refine J.nil ?_; refine nextK.nn ?_)
      refine JA.one (i := 4) (by decide +kernel) ?_
      refine JO.of rfl (fun c h => by cases h) ?_
      (refine J.isJ ?_; refine J.o 5 ?_; refine J.t2 hΓ ?_)
      (refine J.nil ?_; refine nextK.nn ?_)
      refine JA.done (by decide +kernel) fun a w ha hw => ⟨rfl, wpIn_ret (leaves_D ha (hw.perm (bring_perm 3 _)) ?_)⟩
      exact retCCC hΓ rfl rfl rfl rfl rfl rfl rfl (Rd.hd.tl) (Rd.hd.tl.tl) (Rd.hd.tl.tl.tl) rfl rfl rfl (fun w hw => ⟨_, _, rfl, H.sel (l := [_, _, _, _, _, _, _, _, _, _, _, _, _, _, _, _, _, _, _, _]) (M := L) hw [9, 10, 11, 12, 13, 14], bt, Kt, t, y, hO2, hP2, rfl, rfl, hmov ▸ svt⟩)
end Go.Proofs.YtbhgahjeocnfcaaGreat
namespace Go.Proofs.YtbhgahjeocnfcaaGreat
open Go Go.Cx Go.RowKit
set_option linter.unusedVariables false
set_option linter.unusedSimpArgs false
set_option maxHeartbeats 4000000
attribute [local irreducible] J JC thenK blockK loopK roundK drawK retK QW Qt pel List.set Calls
open Go.Maps Go.Lib
set_option maxRecDepth 8000
attribute [local irreducible] JE Br eK0 eK3 brK pc
theorem eInsC : Entr Tryz.prog 84 := Entr.of Tryz.func84 rfl rfl
theorem ePdqC : Entr Tryz.prog 63 := Entr.of Tryz.func63 rfl rfl
theorem eSortF : Entr Tryz.prog 36 := Entr.of Tryz.func36 rfl rfl
theorem eBLen : Entr Tryz.prog 64 := Entr.of Tryz.func64 rfl rfl
structure CmpOk (fc : FuncId) (lb : List Value) (cm : Int → Int → Int) (l : List Int) (hM : Heap) : Prop where
  en : Entr Tryz.prog fc
  gv : ∀ x ∈ l, ∀ y ∈ l, ∀ w, Holds hM w → Calls Tryz.prog fc ⟨[.int .i64 x, .int .i64 y] ++ lb⟩ w fun e w' => e = .returned (.int .i64 (cm x y)) ∧ Below w.heap.size w w'
  tot : ∀ x ∈ l, ∀ y ∈ l, x ≠ y → ¬ cm x y < 0 → cm y x < 0
  tr : ∀ x ∈ l, ∀ y ∈ l, ∀ z ∈ l, cm x y < 0 → cm y z < 0 → cm x z < 0
def SrtI (cm : Int → Int → Int) (d : List Int) (i j : Nat) : Prop := ∀ p q, p < q → q ≤ i → q ≠ j → cm (d.getD p default) (d.getD q default) < 0
def SrtO (cm : Int → Int → Int) (d : List Int) (i : Nat) : Prop := ∀ p q, p < q → q < i → cm (d.getD p default) (d.getD q default) < 0
theorem getD_mem {d : List Int} {k : Nat} (h : k < d.length) : d.getD k default ∈ d := by
  rw [List.getD_eq_getElem?_getD, List.getElem?_eq_getElem h]
  exact List.getElem_mem h
theorem SrtI.step {cm : Int → Int → Int} {d : List Int} {i j : Nat} (h : SrtI cm d i (j + 1)) (hi : i < d.length) (hj : j + 1 ≤ i) (hc : cm (d.getD (j + 1) default) (d.getD j default) < 0) : SrtI cm (swp d j) i j := fun p q hpq hq hne => by
  have hd : j + 1 < d.length := by omega
  rw [swp_get d hd, swp_get d hd]
  by_cases h1 : q = j + 1
  · subst h1
    rw [if_neg (by omega : ¬ j + 1 = j), if_pos rfl]
    by_cases h2 : p = j
    · rw [if_pos h2]; exact hc
    · rw [if_neg h2, if_neg (by omega)]
      exact h p j (by omega) (by omega) (by omega)
  · rw [if_neg hne, if_neg h1]
    by_cases h2 : p = j
    · rw [if_pos h2]; exact h (j + 1) q (by omega) hq h1
    · rw [if_neg h2]
      by_cases h3 : p = j + 1
      · rw [if_pos h3]; exact h j q (by omega) hq h1
      · rw [if_neg h3]; exact h p q hpq hq h1
theorem SrtI.done {cm : Int → Int → Int} {l d : List Int} {i j : Nat} {fc : FuncId} {lb : List Value} {hM : Heap} (cok : CmpOk fc lb cm l hM) (hp : d.Perm l) (hn : l.Nodup) (h : SrtI cm d i j) (hi : i < d.length) (hj : j ≤ i) (hc : j = 0 ∨ ¬ cm (d.getD j default) (d.getD (j - 1) default) < 0) : SrtO cm d (i + 1) := fun p q hpq hq => by
  have hm : ∀ k, k < d.length → d.getD k default ∈ l := fun k hk => hp.mem_iff.1 (getD_mem hk)
  by_cases h1 : q = j
  · subst h1
    rcases hc with h0 | hc
    · omega
    · have hne : d.getD q default ≠ d.getD (q - 1) default := fun e => by
        have := getD_inj (hp.nodup_iff.2 hn) (by omega) (by omega) e
        omega
      have h2 := cok.tot _ (hm q (by omega)) _ (hm (q - 1) (by omega)) hne hc
      by_cases h3 : p = q - 1
      · rw [h3]; exact h2
      · exact cok.tr _ (hm p (by omega)) _ (hm (q - 1) (by omega)) _ (hm q (by omega)) (h p (q - 1) (by omega) (by omega) (by omega)) h2
  · exact h p q hpq (by omega) h1
theorem insC_any {fc : FuncId} {lb : List Value} {cm : Int → Int → Int} {l : List Int} {hM : Heap} (cok : CmpOk fc lb cm l hM) (hn : l.Nodup) (hl : l.length ≤ 12) {a : Option Addr} {c : Nat} {hQ : Heap} (oQ : OwT encI 1 3 a c l hQ) {w0 w : World} {R : Heap} {L : List Heap} (rM : RdH R L hM) (hw : H w0 R (hQ :: L) w) :
    Calls Tryz.prog 84 #[.slice a l.length c, .int .i64 0, .int .i64 (l.length : Int), .func (.func fc) ⟨[]⟩ ⟨lb⟩] w fun e w' => ∃ v L', e = .returned v ∧ H w0 R L' w' ∧ ∃ d hD, v = .tuple #[] ∧ L' = hD :: L ∧ d.Perm l ∧ SrtO cm d d.length ∧ OwT encI 1 3 a c d hD := by
  refine calls_in Tryz.func84 Tryz.ntmps84 rfl rfl (hw) ?_
  repeat' first
    | (refine J.isJ ?_; first | (fail) | (first | (refine J.o 0 ?_; refine J.ev' hΓ ?_) | refine J.nil ?_ | refine J.kd ?_ | (refine J.o 4 ?_; first | refine J.lT default hΓ ?_) | (refine J.o 3 ?_; first | refine J.iJ hΓ ?_ | refine J.ev' hΓ ?_) | (refine J.o 1 ?_; first | refine J.ad ?_ | refine J.sb ?_) | (refine J.o 5 ?_; first | refine J.tT _ default hΓ (fun _ _ => ?_)) | (refine J.o 10 ?_; refine J.ev' hΓ ?_) | (refine J.o 11 ?_; refine J.ev' hΓ ?_)) | ((fail_if_success refine J.wt ?_); refine J.gc rfl rfl (fun hc => ?_) (fun hc => ?_) <;> ((try simp only [decide_eq_true_eq, decide_eq_false_iff_not, beq_iff_eq, beq_eq_false_iff_ne, bne_iff_ne, bne_eq_false_iff_eq, Bool.not_eq_true', Bool.not_eq_false', Bool.not_eq_true, Bool.not_eq_false] at hc) <;> first | (first | (exact absurd rfl hc) | (exfalso; omega) | (exact absurd (hc.symm.trans (by assumption : _ = false)) (by decide)) | (exact absurd (hc.symm.trans (by assumption : _ = true)) (by decide))) | skip)))
    | (first | refine JC.seq ?_ | refine JC.region ?_ | refine JC.block ?_ | refine JC.exit ?_ | refine JC.skip ?_ | refine thenK.nn ?_ | refine thenK.x ?_ | refine blockK.nn ?_ | refine blockK.hit rfl ?_ | refine JC.condF rfl ?_ | (refine JC.cond rfl (fun hc => ?_) (fun hc => ?_) <;> ((try simp only [decide_eq_true_eq, decide_eq_false_iff_not, beq_iff_eq, beq_eq_false_iff_ne, bne_iff_ne, bne_eq_false_iff_eq, Bool.not_eq_true', Bool.not_eq_false', Bool.not_eq_true, Bool.not_eq_false] at hc) <;> first | (first | (exact absurd rfl hc) | (exfalso; omega) | (exact absurd (hc.symm.trans (by assumption : _ = false)) (by decide)) | (exact absurd (hc.symm.trans (by assumption : _ = true)) (by decide))) | skip)) | refine drawK.nn ?_ | refine loopK.x ?_)
    | (fail)
    | fail
  all_goals first | (exfalso; omega) | skip
  refine JC.loop (fun i => i == 8 || i == 9 || Nat.ble 12 i) (fun k g L' => ∃ (i : Nat) (d : List Int) (hD : Heap), g 8 = .int .i64 (i : Int) ∧ i + k = l.length + 1 ∧ 1 ≤ i ∧ L' = hD :: L ∧ d.Perm l ∧ SrtO cm d i ∧ OwT encI 1 3 a c d hD) l.length ⟨1, l, hQ, rfl, by omega, Nat.le_refl _, rfl, .refl _, fun p q h1 h2 => by omega, oQ⟩ ?_
  rintro k g _ ⟨i, d, hD, e8, hik, hi1, rfl, hp, hs, oD⟩
  have hdl : d.length = l.length := hp.length_eq
  refine JC.pin 8 e8 ?_
  rcases Nat.lt_or_ge i l.length with hil | hil
  case inr =>
    repeat' first
      | (refine J.isJ ?_; first | (fail) | (first | (refine J.o 0 ?_; refine J.ev' hΓ ?_) | refine J.nil ?_ | refine J.kd ?_ | (refine J.o 4 ?_; first | refine J.lT default hΓ ?_) | (refine J.o 3 ?_; first | refine J.iJ hΓ ?_ | refine J.ev' hΓ ?_) | (refine J.o 1 ?_; first | refine J.ad ?_ | refine J.sb ?_) | (refine J.o 5 ?_; first | refine J.tT _ default hΓ (fun _ _ => ?_)) | (refine J.o 10 ?_; refine J.ev' hΓ ?_) | (refine J.o 11 ?_; refine J.ev' hΓ ?_)) | ((fail_if_success refine J.wt ?_); refine J.gc rfl rfl (fun hc => ?_) (fun hc => ?_) <;> ((try simp only [decide_eq_true_eq, decide_eq_false_iff_not, beq_iff_eq, beq_eq_false_iff_ne, bne_iff_ne, bne_eq_false_iff_eq, Bool.not_eq_true', Bool.not_eq_false', Bool.not_eq_true, Bool.not_eq_false] at hc) <;> first | (first | (exact absurd rfl hc) | (exfalso; omega) | (exact absurd (hc.symm.trans (by assumption : _ = false)) (by decide)) | (exact absurd (hc.symm.trans (by assumption : _ = true)) (by decide))) | skip)))
      | (first | refine JC.seq ?_ | refine JC.region ?_ | refine JC.block ?_ | refine JC.exit ?_ | refine JC.skip ?_ | refine thenK.nn ?_ | refine thenK.x ?_ | refine blockK.nn ?_ | refine blockK.hit rfl ?_ | refine JC.condF rfl ?_ | (refine JC.cond rfl (fun hc => ?_) (fun hc => ?_) <;> ((try simp only [decide_eq_true_eq, decide_eq_false_iff_not, beq_iff_eq, beq_eq_false_iff_ne, bne_iff_ne, bne_eq_false_iff_eq, Bool.not_eq_true', Bool.not_eq_false', Bool.not_eq_true, Bool.not_eq_false] at hc) <;> first | (first | (exact absurd rfl hc) | (exfalso; omega) | (exact absurd (hc.symm.trans (by assumption : _ = false)) (by decide)) | (exact absurd (hc.symm.trans (by assumption : _ = true)) (by decide))) | skip)) | refine drawK.nn ?_ | refine loopK.x ?_)
      | (fail)
      | fail
    all_goals first | (exfalso; omega) | skip
    refine ret0n rfl (fun w hw => ⟨_, _, rfl, hw, d, hD, rfl, rfl, hp, ?_, oD⟩)
    exact fun p q h1 h2 => hs p q h1 (by omega)
  repeat' first
    | (refine J.isJ ?_; first | (fail) | (first | (refine J.o 0 ?_; refine J.ev' hΓ ?_) | refine J.nil ?_ | refine J.kd ?_ | (refine J.o 4 ?_; first | refine J.lT default hΓ ?_) | (refine J.o 3 ?_; first | refine J.iJ hΓ ?_ | refine J.ev' hΓ ?_) | (refine J.o 1 ?_; first | refine J.ad ?_ | refine J.sb ?_) | (refine J.o 5 ?_; first | refine J.tT _ default hΓ (fun _ _ => ?_)) | (refine J.o 10 ?_; refine J.ev' hΓ ?_) | (refine J.o 11 ?_; refine J.ev' hΓ ?_)) | ((fail_if_success refine J.wt ?_); refine J.gc rfl rfl (fun hc => ?_) (fun hc => ?_) <;> ((try simp only [decide_eq_true_eq, decide_eq_false_iff_not, beq_iff_eq, beq_eq_false_iff_ne, bne_iff_ne, bne_eq_false_iff_eq, Bool.not_eq_true', Bool.not_eq_false', Bool.not_eq_true, Bool.not_eq_false] at hc) <;> first | (first | (exact absurd rfl hc) | (exfalso; omega) | (exact absurd (hc.symm.trans (by assumption : _ = false)) (by decide)) | (exact absurd (hc.symm.trans (by assumption : _ = true)) (by decide))) | skip)))
    | (first | refine JC.seq ?_ | refine JC.region ?_ | refine JC.block ?_ | refine JC.exit ?_ | refine JC.skip ?_ | refine thenK.nn ?_ | refine thenK.x ?_ | refine blockK.nn ?_ | refine blockK.hit rfl ?_ | refine JC.condF rfl ?_ | (refine JC.cond rfl (fun hc => ?_) (fun hc => ?_) <;> ((try simp only [decide_eq_true_eq, decide_eq_false_iff_not, beq_iff_eq, beq_eq_false_iff_ne, bne_iff_ne, bne_eq_false_iff_eq, Bool.not_eq_true', Bool.not_eq_false', Bool.not_eq_true, Bool.not_eq_false] at hc) <;> first | (first | (exact absurd rfl hc) | (exfalso; omega) | (exact absurd (hc.symm.trans (by assumption : _ = false)) (by decide)) | (exact absurd (hc.symm.trans (by assumption : _ = true)) (by decide))) | skip)) | refine drawK.nn ?_ | refine loopK.x ?_)
    | (fail)
    | fail
  all_goals first | (exfalso; omega) | skip
  refine JC.loop (fun i => i == 9 || Nat.ble 18 i) (fun k2 g L' => ∃ (j : Nat) (d : List Int) (hD : Heap), g 9 = .int .i64 (j : Int) ∧ j = k2 ∧ j ≤ i ∧ L' = hD :: L ∧ d.Perm l ∧ SrtI cm d i j ∧ OwT encI 1 3 a c d hD) i ⟨i, d, hD, rfl, rfl, Nat.le_refl _, rfl, hp, fun p q h1 h2 h3 => hs p q h1 (by omega), oD⟩ ?_
  clear oD hs hp hdl hD d
  rintro k2 g2 _ ⟨j, d, hD, e9, rfl, hji, rfl, hp, hs, oD⟩
  have hdl : d.length = l.length := hp.length_eq
  have hm : ∀ k, k < l.length → d.getD k default ∈ l := fun k hk => hp.mem_iff.1 (getD_mem (by omega))
  refine JC.pin 9 e9 ?_
  rcases Nat.eq_zero_or_pos j with hj0 | hj0
  case inl =>
    subst hj0
    have hs1 := hs.done cok hp hn (by omega) (by omega) (.inl rfl)
    repeat' first
      | (refine J.isJ ?_; first | (fail) | (first | (refine J.o 0 ?_; refine J.ev' hΓ ?_) | refine J.nil ?_ | refine J.kd ?_ | (refine J.o 4 ?_; first | refine J.lT default hΓ ?_) | (refine J.o 3 ?_; first | refine J.iJ hΓ ?_ | refine J.ev' hΓ ?_) | (refine J.o 1 ?_; first | refine J.ad ?_ | refine J.sb ?_) | (refine J.o 5 ?_; first | refine J.tT _ default hΓ (fun _ _ => ?_)) | (refine J.o 10 ?_; refine J.ev' hΓ ?_) | (refine J.o 11 ?_; refine J.ev' hΓ ?_)) | ((fail_if_success refine J.wt ?_); refine J.gc rfl rfl (fun hc => ?_) (fun hc => ?_) <;> ((try simp only [decide_eq_true_eq, decide_eq_false_iff_not, beq_iff_eq, beq_eq_false_iff_ne, bne_iff_ne, bne_eq_false_iff_eq, Bool.not_eq_true', Bool.not_eq_false', Bool.not_eq_true, Bool.not_eq_false] at hc) <;> first | (first | (exact absurd rfl hc) | (exfalso; omega) | (exact absurd (hc.symm.trans (by assumption : _ = false)) (by decide)) | (exact absurd (hc.symm.trans (by assumption : _ = true)) (by decide))) | skip)))
      | (first | refine JC.seq ?_ | refine JC.region ?_ | refine JC.block ?_ | refine JC.exit ?_ | refine JC.skip ?_ | refine thenK.nn ?_ | refine thenK.x ?_ | refine blockK.nn ?_ | refine blockK.hit rfl ?_ | refine JC.condF rfl ?_ | (refine JC.cond rfl (fun hc => ?_) (fun hc => ?_) <;> ((try simp only [decide_eq_true_eq, decide_eq_false_iff_not, beq_iff_eq, beq_eq_false_iff_ne, bne_iff_ne, bne_eq_false_iff_eq, Bool.not_eq_true', Bool.not_eq_false', Bool.not_eq_true, Bool.not_eq_false] at hc) <;> first | (first | (exact absurd rfl hc) | (exfalso; omega) | (exact absurd (hc.symm.trans (by assumption : _ = false)) (by decide)) | (exact absurd (hc.symm.trans (by assumption : _ = true)) (by decide))) | skip)) | refine drawK.nn ?_ | refine loopK.x ?_)
      | ((refine JC.drawA [] (by decide +kernel) (by decide +kernel) ?_))
      | fail
    all_goals first | (exfalso; omega) | skip
    refine loopK.nn (k - 1) (by omega) (by repeat (first | refine Ag.upd rfl ?_ | exact Ag.hv | refine Ag.hv2 (fun i hi => by simp at hi ⊢; omega) ?_)) ⟨i + 1, d, hD, ?_, by omega, by omega, rfl, hp, hs1, oD⟩
    show Value.int .i64 _ = _; congr 1
  obtain ⟨j, rfl⟩ : ∃ m, j = m + 1 := ⟨j - 1, by omega⟩
  have hq : (((j + 1 : Nat) : Int) - 1).toNat = j := by omega
  have hj1 : j + 1 < d.length := by omega
  repeat' first
    | (refine J.isJ ?_; first | (first | (refine J.o 3 ?_; refine J.iJ hΓ ?_ (hs := oD.sl)) | (refine J.o 4 ?_; refine J.lT default hΓ ?_ (hs := oD.sl) (hr := RdH.hd)) | (refine J.o 9 ?_; refine J.callv0 cok.en rfl rfl rfl (fun w hw => cok.gv _ (hm _ (by omega)) _ (hm _ (by omega)) w (hw.rdH rM.tl)) ?_) | (refine J.o 5 ?_; first | refine J.tT (enc := encI) (d.getD j default) default hΓ (fun h5 o5 => ?_) (ho := oD))) | (first | (refine J.o 0 ?_; refine J.ev' hΓ ?_) | refine J.nil ?_ | refine J.kd ?_ | (refine J.o 4 ?_; first | refine J.lT default hΓ ?_) | (refine J.o 3 ?_; first | refine J.iJ hΓ ?_ | refine J.ev' hΓ ?_) | (refine J.o 1 ?_; first | refine J.ad ?_ | refine J.sb ?_) | (refine J.o 5 ?_; first | refine J.tT _ default hΓ (fun _ _ => ?_)) | (refine J.o 10 ?_; refine J.ev' hΓ ?_) | (refine J.o 11 ?_; refine J.ev' hΓ ?_)) | ((fail_if_success refine J.wt ?_); refine J.gc rfl rfl (fun hc => ?_) (fun hc => ?_) <;> ((try simp only [decide_eq_true_eq, decide_eq_false_iff_not, beq_iff_eq, beq_eq_false_iff_ne, bne_iff_ne, bne_eq_false_iff_eq, Bool.not_eq_true', Bool.not_eq_false', Bool.not_eq_true, Bool.not_eq_false] at hc) <;> first | (first | (exact absurd rfl hc) | (exfalso; omega) | (exact absurd (hc.symm.trans (by assumption : _ = false)) (by decide)) | (exact absurd (hc.symm.trans (by assumption : _ = true)) (by decide))) | skip)))
    | (first | refine JC.seq ?_ | refine JC.region ?_ | refine JC.block ?_ | refine JC.exit ?_ | refine JC.skip ?_ | refine thenK.nn ?_ | refine thenK.x ?_ | refine blockK.nn ?_ | refine blockK.hit rfl ?_ | refine JC.condF rfl ?_ | (refine JC.cond rfl (fun hc => ?_) (fun hc => ?_) <;> ((try simp only [decide_eq_true_eq, decide_eq_false_iff_not, beq_iff_eq, beq_eq_false_iff_ne, bne_iff_ne, bne_eq_false_iff_eq, Bool.not_eq_true', Bool.not_eq_false', Bool.not_eq_true, Bool.not_eq_false] at hc) <;> first | (first | (exact absurd rfl hc) | (exfalso; omega) | (exact absurd (hc.symm.trans (by assumption : _ = false)) (by decide)) | (exact absurd (hc.symm.trans (by assumption : _ = true)) (by decide))) | skip)) | refine drawK.nn ?_ | refine loopK.x ?_)
    | (first | (refine JC.drawO [(0,0),(0,1),(0,2),(0,3),(0,4),(0,5),(0,6),(0,7),(0,8),(1,9),(0,10),(0,11),(0,12),(1,13),(0,14),(2,15),(0,16),(2,17)] (by decide +kernel) (by decide +kernel) ?_) | (refine JC.drawA [] (by decide +kernel) (by decide +kernel) ?_))
    | fail
  all_goals first | (exfalso; omega) | skip
  · rename_i _ h5 o5 h6 o6
    rw [hq] at hc o6
    have o7 : OwT encI 1 3 a c (swp d j) h6 := by
      unfold swp
      rw [List.set_comm _ _ (by omega)]
      exact o6
    refine loopK.nn j (by omega) (by repeat (first | refine Ag.upd rfl ?_ | exact Ag.hv | refine Ag.hv2 (fun i hi => by simp at hi ⊢; omega) ?_)) ⟨j, swp d j, h6, ?_, rfl, by omega, rfl, (swp_perm d hj1).trans hp, hs.step (by omega) hji hc, o7⟩
    show Value.int .i64 _ = _; congr 1; omega
  · rw [hq] at hc
    have hs1 := hs.done cok hp hn (by omega) hji (.inr hc)
    refine loopK.nn (k - 1) (by omega) (by repeat (first | refine Ag.upd rfl ?_ | exact Ag.hv | refine Ag.hv2 (fun i hi => by simp at hi ⊢; omega) ?_)) ⟨i + 1, d, hD, ?_, by omega, by omega, rfl, hp, hs1, oD⟩
    show Value.int .i64 _ = _; congr 1
theorem pdqC_any {fc : FuncId} {lb : List Value} {cm : Int → Int → Int} {l : List Int} {hM : Heap} (cok : CmpOk fc lb cm l hM) (hn : l.Nodup) (hl : l.length ≤ 12) {a : Option Addr} {c : Nat} {hQ : Heap} (oQ : OwT encI 1 3 a c l hQ) (x : Int) {w0 w : World} {R : Heap} {L : List Heap} (rM : RdH R L hM) (hw : H w0 R (hQ :: L) w) :
    Calls Tryz.prog 63 #[.slice a l.length c, .int .i64 0, .int .i64 (l.length : Int), .int .i64 x, .func (.func fc) ⟨[]⟩ ⟨lb⟩] w fun e w' => ∃ v L', e = .returned v ∧ H w0 R L' w' ∧ ∃ d hD, v = .tuple #[] ∧ L' = hD :: L ∧ d.Perm l ∧ SrtO cm d d.length ∧ OwT encI 1 3 a c d hD := by
  refine calls_in Tryz.func63 Tryz.ntmps63 rfl rfl (hw) ?_
  repeat' first
    | (refine J.isJ ?_; first | ((refine J.fc 84 ?_; refine J.callx eInsC rfl rfl (fun w hw => insC_any cok hn hl oQ rM hw) ?_; rintro _ _ ⟨d, hD, rfl, rfl, h1, h2, h3⟩)) | (first | (refine J.o 0 ?_; refine J.ev' hΓ ?_) | refine J.nil ?_ | (refine J.o 3 ?_; first | refine J.ev' hΓ ?_) | (refine J.o 1 ?_; first | refine J.sb ?_) | (refine J.o 10 ?_; refine J.ev' hΓ ?_) | (refine J.o 11 ?_; refine J.ev' hΓ ?_)))
    | (first | refine JC.seq ?_ | refine JC.region ?_ | refine JC.block ?_ | refine JC.ret ?_ | refine thenK.nn ?_ | refine thenK.r ?_ | refine blockK.r ?_ | (refine JC.cond rfl (fun hc => ?_) (fun hc => ?_) <;> ((try simp only [decide_eq_true_eq, decide_eq_false_iff_not, beq_iff_eq, beq_eq_false_iff_ne, bne_iff_ne, bne_eq_false_iff_eq, Bool.not_eq_true', Bool.not_eq_false', Bool.not_eq_true, Bool.not_eq_false] at hc) <;> first | (first | (exact absurd rfl hc) | (exfalso; omega) | (exact absurd (hc.symm.trans (by assumption : _ = false)) (by decide)) | (exact absurd (hc.symm.trans (by assumption : _ = true)) (by decide))) | skip)) | refine roundK.r ?_)
    | ((refine JC.rounds 0 ?_))
    | fail
  all_goals first | (exfalso; omega) | skip
  all_goals first | exact ret0 rfl (fun w hw => ⟨_, _, rfl, hw, d, hD, rfl, rfl, h1, h2, h3⟩) | exact ret0n rfl (fun w hw => ⟨_, _, rfl, hw, d, hD, rfl, rfl, h1, h2, h3⟩)
theorem sortF_any {fc : FuncId} {lb : List Value} {cm : Int → Int → Int} {l : List Int} {hM : Heap} (cok : CmpOk fc lb cm l hM) (hn : l.Nodup) (hl : l.length ≤ 12) {a : Option Addr} {c : Nat} {hQ : Heap} (oQ : OwT encI 1 3 a c l hQ) {w0 w : World} {R : Heap} {L : List Heap} (rM : RdH R L hM) (hw : H w0 R (hQ :: L) w) :
    Calls Tryz.prog 36 #[.slice a l.length c, .func (.func fc) ⟨[]⟩ ⟨lb⟩] w fun e w' => ∃ v L', e = .returned v ∧ H w0 R L' w' ∧ ∃ d hD, v = .tuple #[] ∧ L' = hD :: L ∧ d.Perm l ∧ SrtO cm d d.length ∧ OwT encI 1 3 a c d hD := by
  refine calls_in Tryz.func36 Tryz.ntmps36 rfl rfl (hw) ?_
  repeat' first
    | (refine J.isJ ?_; first | (first | (refine J.o 2 ?_; refine J.cv _ hΓ ?_) | (refine J.fc 64 ?_; refine J.call0 eBLen rfl rfl (fun w hw => (Tryz.bits_Len _ w (by omega) (by omega)).mono (by rintro e w' ⟨rfl, rfl⟩; exact ⟨rfl, Below.refl _ _⟩)) ?_) | (refine J.fc 63 ?_; refine J.callx ePdqC rfl rfl (fun w hw => pdqC_any cok hn hl oQ _ rM hw) ?_; rintro _ _ ⟨d, hD, rfl, rfl, h1, h2, h3⟩)) | (first | (refine J.o 0 ?_; refine J.ev' hΓ ?_) | refine J.nil ?_ | (refine J.o 3 ?_; first | refine J.ev' hΓ ?_) | (refine J.o 10 ?_; refine J.ev' hΓ ?_) | (refine J.o 11 ?_; refine J.ev' hΓ ?_)))
    | (first | refine JC.seq ?_ | refine JC.region ?_ | refine thenK.nn ?_)
    | (fail)
    | fail
  all_goals first | (exfalso; omega) | skip
  all_goals first | exact ret0 rfl (fun w hw => ⟨_, _, rfl, hw, d, hD, rfl, rfl, h1, h2, h3⟩) | exact ret0n rfl (fun w hw => ⟨_, _, rfl, hw, d, hD, rfl, rfl, h1, h2, h3⟩)
end Go.Proofs.YtbhgahjeocnfcaaGreat
namespace Go.Proofs.YtbhgahjeocnfcaaGreat
open Go Go.Cx Go.RowKit
set_option linter.unusedVariables false
set_option linter.unusedSimpArgs false
set_option maxHeartbeats 4000000
attribute [local irreducible] J JC thenK blockK loopK roundK drawK retK QW Qt pel List.set Calls
open Go.Maps Go.Lib
set_option maxRecDepth 8000
attribute [local irreducible] JE Br eK0 eK3 brK pc
section
variable {P : Program} {n : Nat} {w0 : World} {R : Heap} {K0 : Exit → Fr → List Heap → Prop} {f : Fr} {L : List Heap} {l0 : List Oper} {rest : List (Nat × Oper)} {q : Nat}
variable {Γ : List (Nat × TI)} {d : Nat} {ty : TypeId} {pos : String} {aft : Array Edge} {g : Option (Nat × Bool)}
variable {κ : Type} [DecidableEq κ] {kt e : TypeId} {ek : κ → Value}
theorem J.lkN {t : TypeId} {m x : Operand} {mm : List (κ × Nat)} {b : Nat} {h : Heap} {a : κ} {s1 s2 b1 b2 : Nat} {z1 : Option Value} {de : TypeDesc} (c : Nat) (K : Keyed P kt) (inj : ∀ x y, ek x = ek y → x = y) (mt : MapT P kt ek evI mm b h) (hr : RdH R L h) (hkey : ∃ l, keyOf P kt (ek a) = some l) (hΓ : Fits P Γ) (hget : (mget mm a).getD 0 = c)
    (k : J P n w0 R l0 K0 rest (upd f d (.int .i64 (c : Int))) L)
    (hg : wantB n f l0 ⟨some d, .lookup t m x false, ty, pos, aft, g⟩ = true := by exact rfl) (hm : Cx.ev n f m = .map (some b) := by exact rfl) (hx : Cx.ev n f x = ek a := by exact rfl) (ht : Go.Cx.look Γ t = some ⟨.map kt e, s1, z1, b1⟩ := by exact rfl) (he : Go.Cx.look Γ e = some ⟨de, s2, some (.int .i64 0), b2⟩ := by exact rfl) :
    J P n w0 R l0 K0 ((q + 1, ⟨some d, .lookup t m x false, ty, pos, aft, g⟩) :: rest) f L := by
  refine J.lk K inj mt hr hkey hΓ ?_ hg hm hx ht he
  subst hget
  cases hmm : mget mm a with
  | some y => rw [hmm] at k; exact k
  | none => rw [hmm] at k; exact k
end
end Go.Proofs.YtbhgahjeocnfcaaGreat
namespace Go.Proofs.YtbhgahjeocnfcaaGreat
open Go Go.Cx Go.RowKit
set_option linter.unusedVariables false
set_option linter.unusedSimpArgs false
set_option maxHeartbeats 4000000
attribute [local irreducible] J JC thenK blockK loopK roundK drawK retK QW Qt pel List.set Calls
open Go.Maps Go.Lib
set_option maxRecDepth 8000
attribute [local irreducible] JE Br eK0 eK3 brK pc
theorem eCmpS : Entr Tryz.prog 37 := Entr.of Tryz.func37 rfl rfl
theorem eSift : Entr Tryz.prog 10 := Entr.of Tryz.func10 rfl rfl
def cmS (W : Int → Nat) (x y : Int) : Int := if W x ≠ W y then (W y : Int) - W x else x - y
theorem cmpS_any {mm : List (Int × Nat)} {bm b8 : Nat} {hm : Heap} {W : Int → Nat} (mt : MapT Tryz.prog 3 ekI evI mm bm hm) (hW : ∀ u, (mget mm u).getD 0 = W u) (hb : ∀ u, W u ≤ 1000) (x y : Int) (hx : 1 ≤ x ∧ x ≤ 128) (hy : 1 ≤ y ∧ y ≤ 128) (w : World) (hw : Holds ([(b8, .cells ⟨[.map (some bm)]⟩ 67 (0, 0))] ++ hm) w) :
    Calls Tryz.prog 37 #[.int .i64 x, .int .i64 y, .pointer (some ⟨b8, 0, none⟩)] w fun e w' => e = .returned (.int .i64 (cmS W x y)) ∧ Below w.heap.size w w' := by
  have hbx := hb x
  have hby := hb y
  have q8 : ∀ L, Rd ([(b8, .cells ⟨[.map (some bm)]⟩ 67 (0, 0))] ++ hm) L b8 (.cells ⟨[.map (some bm)]⟩ 67 (0, 0)) := fun L => Rd.old (by simp)
  have qm : ∀ L, RdH ([(b8, .cells ⟨[.map (some bm)]⟩ 67 (0, 0))] ++ hm) L hm := fun L => RdH.old fun _ hh => List.mem_append_right _ hh
  have kx := keyI x (by omega)
  have ky := keyI y (by omega)
  unfold cmS
  by_cases hxy : W x = W y
  ·
    rw [if_neg (by simpa using hxy)]
    refine calls_of_JC (R := ([(b8, .cells ⟨[.map (some bm)]⟩ 67 (0, 0))] ++ hm)) Tryz.func37 Tryz.ntmps37 rfl rfl (hw) ?_
    repeat' first
      | (refine J.isJ ?_; first | (first | (refine J.o 4 ?_; refine J.lR hΓ ?_ (hr := q8 _)) | (refine J.o 9 ?_; first | refine J.lkN (a := x) (W x) keyedI ekI_inj mt (qm _) kx hΓ (hW x) ?_ | refine J.lkN (a := y) (W y) keyedI ekI_inj mt (qm _) ky hΓ (hW y) ?_)) | (first | (refine J.o 0 ?_; refine J.ev' hΓ ?_) | refine J.nil ?_ | (refine J.o 4 ?_; first | refine J.lR hΓ ?_) | (refine J.o 3 ?_; first | refine J.ev' hΓ ?_) | (refine J.o 1 ?_; first | refine J.sb ?_) | (refine J.o 10 ?_; refine J.ev' hΓ ?_) | (refine J.o 11 ?_; refine J.ev' hΓ ?_)))
      | (first | refine JC.seq ?_ | refine JC.region ?_ | refine JC.ret ?_ | refine JC.skip ?_ | refine thenK.nn ?_ | refine thenK.r ?_ | (refine JC.cond rfl (fun hc => ?_) (fun hc => ?_) <;> ((try simp only [decide_eq_true_eq, decide_eq_false_iff_not, beq_iff_eq, beq_eq_false_iff_ne, bne_iff_ne, bne_eq_false_iff_eq, Bool.not_eq_true', Bool.not_eq_false', Bool.not_eq_true, Bool.not_eq_false] at hc) <;> first | (first | (exact absurd rfl hc) | (exfalso; omega) | (exact absurd (hc.symm.trans (by assumption : _ = false)) (by decide)) | (exact absurd (hc.symm.trans (by assumption : _ = true)) (by decide))) | skip)))
      | (fail)
      | fail
    all_goals first | (exfalso; omega) | skip
    all_goals exact ret1f rfl rfl rfl (fun w1 hw => ⟨rfl, hw.below⟩)
  ·
    rw [if_pos hxy]
    refine calls_of_JC (R := ([(b8, .cells ⟨[.map (some bm)]⟩ 67 (0, 0))] ++ hm)) Tryz.func37 Tryz.ntmps37 rfl rfl (hw) ?_
    repeat' first
      | (refine J.isJ ?_; first | (first | (refine J.o 4 ?_; refine J.lR hΓ ?_ (hr := q8 _)) | (refine J.o 9 ?_; first | refine J.lkN (a := x) (W x) keyedI ekI_inj mt (qm _) kx hΓ (hW x) ?_ | refine J.lkN (a := y) (W y) keyedI ekI_inj mt (qm _) ky hΓ (hW y) ?_)) | (first | (refine J.o 0 ?_; refine J.ev' hΓ ?_) | refine J.nil ?_ | (refine J.o 4 ?_; first | refine J.lR hΓ ?_) | (refine J.o 3 ?_; first | refine J.ev' hΓ ?_) | (refine J.o 1 ?_; first | refine J.sb ?_) | (refine J.o 10 ?_; refine J.ev' hΓ ?_) | (refine J.o 11 ?_; refine J.ev' hΓ ?_)))
      | (first | refine JC.seq ?_ | refine JC.region ?_ | refine JC.ret ?_ | refine JC.skip ?_ | refine thenK.nn ?_ | refine thenK.r ?_ | (refine JC.cond rfl (fun hc => ?_) (fun hc => ?_) <;> ((try simp only [decide_eq_true_eq, decide_eq_false_iff_not, beq_iff_eq, beq_eq_false_iff_ne, bne_iff_ne, bne_eq_false_iff_eq, Bool.not_eq_true', Bool.not_eq_false', Bool.not_eq_true, Bool.not_eq_false] at hc) <;> first | (first | (exact absurd rfl hc) | (exfalso; omega) | (exact absurd (hc.symm.trans (by assumption : _ = false)) (by decide)) | (exact absurd (hc.symm.trans (by assumption : _ = true)) (by decide))) | skip)))
      | (fail)
      | fail
    all_goals first | (exfalso; omega) | skip
    all_goals exact ret1f rfl rfl rfl (fun w1 hw => ⟨rfl, hw.below⟩)
theorem cmS_ok {W : Int → Nat} {mm : List (Int × Nat)} {bm b8 : Nat} {hm : Heap} (mt : MapT Tryz.prog 3 ekI evI mm bm hm) (hW : ∀ u, (mget mm u).getD 0 = W u) (hb : ∀ u, W u ≤ 1000) {o : List Int} (ho : okOrd o) : CmpOk 37 [.pointer (some ⟨b8, 0, none⟩)] (cmS W) o ([(b8, .cells ⟨[.map (some bm)]⟩ 67 (0, 0))] ++ hm) :=
  ⟨eCmpS, fun x hx y hy w hw => cmpS_any mt hW hb x y (ho.1 x hx) (ho.1 y hy) w hw, fun x _ y _ hne h => by
    unfold cmS at h ⊢
    split at h <;> split <;> omega, fun x _ y _ z _ h1 h2 => by
    unfold cmS at h1 h2 ⊢
    split at h1 <;> split at h2 <;> split <;> omega⟩
def WtOf (ns : List N3) (o : List Int) (r : Nat) (W : Int → Nat) : Prop := ∃ S : List Nat, S.Nodup ∧ (∀ x, x ∈ S ↔ 2 ≤ x ∧ Rch ns r x) ∧ ∀ v, W v = cntV ns o S v
def sftO (F : VF) (q o : List Int) : List Int := q.foldl (fun o v => movO F o v) o
theorem movO_perm (F : VF) {o : List Int} {v : Int} (hv : v ∈ o) (hn : o.Nodup) : (movO F o v).Perm o := bestO_perm hv hn _ _
theorem sftO_perm (F : VF) : ∀ (q o : List Int), (∀ v ∈ q, v ∈ o) → o.Nodup → (sftO F q o).Perm o
  | [], o, _, _ => .refl _
  | v :: q, o, hv, hn => by
    have h1 := movO_perm F (hv v List.mem_cons_self) hn
    exact (sftO_perm F q (movO F o v) (fun u hu => h1.mem_iff.2 (hv u (List.mem_cons_of_mem _ hu))) (h1.nodup_iff.2 hn)).trans h1
theorem sftO_snoc (F : VF) (q : List Int) (v : Int) (o : List Int) : sftO F (q ++ [v]) o = movO F (sftO F q o) v := by
  unfold sftO
  rw [List.foldl_append]
  rfl
set_option maxHeartbeats 16000000 in
theorem Sift_any {F : VF} {o : List Int} {K : KS} {s : SS} {a : Nat} {hO hP : Heap} (sv : Stv F o K s a hO hP) (h8 : o.length ≤ 8) {w0 w : World} {R : Heap} {L : List Heap} {bs : Nat} (rS : RdH R L (stR K bs s hO)) (hw : H w0 R L w) :
    Calls Tryz.prog 10 #[.pointer (some ⟨bs, 0, none⟩), .int .i64 (a : Int)] w fun e w' => ∃ x L', e = .returned x ∧ H w0 R L' w' ∧ ∃ W q, WtOf s.ns o a W ∧ q.Perm o ∧ SrtO (cmS W) q q.length ∧ RebQ F (sftO F q o) L x L' := by
  have so := sv.so
  have ha := sv.sy.1
  have hnd := sv.ho.2
  have cO := fun w hw => Order_any so sv.po bs w hw
  have hol := so.no
  have hpl := sv.po.len
  refine calls_in Tryz.func10 Tryz.ntmps10 rfl rfl (hw) ?_
  repeat' first
    | (refine J.isJ ?_; first | (first | (refine J.fc 34 ?_; refine J.callx eChecked rfl rfl (fun w hw => checked_any so bs a ha rS hw) ?_; rintro _ _ ⟨rfl, rfl⟩) | (refine J.fc 35 ?_; refine J.call1 eWeights rfl rfl (fun w hw => weights_any so sv.po (by omega) bs a ha w (stR_of2 rS hw)) ?_; rintro _ hm ⟨bm, mm, S, rfl, mt, hSn, hSm, hSc⟩) | (refine J.o 7 ?_; refine J.al hΓ (fun b8 => ?_)) | (refine J.fc 21 ?_; refine J.call1 eOrder rfl rfl (fun w hw => cO w (stR_of2 rS.tl.tl hw)) ?_; rintro _ hQ ⟨aQ, cQ, rfl, oQ⟩) | (refine J.o 14 ?_; refine J.mf hΓ ?_)) | (first | (refine J.o 0 ?_; refine J.ev' hΓ ?_) | refine J.nil ?_ | (refine J.o 4 ?_; first | refine J.lT default hΓ ?_) | (refine J.o 3 ?_; first | refine J.iJ hΓ ?_ | refine J.ev' hΓ ?_) | (refine J.o 1 ?_; first | refine J.ad ?_) | (refine J.o 5 ?_; first | refine J.t0 hΓ ?_) | (refine J.o 7 ?_; refine J.al hΓ (fun _ => ?_)) | (refine J.o 10 ?_; refine J.ev' hΓ ?_) | (refine J.o 11 ?_; refine J.ev' hΓ ?_) | (refine J.o 14 ?_; refine J.mf hΓ ?_)))
    | (first | refine JC.seq ?_ | refine JC.region ?_ | refine JC.block ?_ | refine JC.ret ?_ | refine JC.exit ?_ | refine JC.skip ?_ | refine thenK.nn ?_ | refine thenK.x ?_ | refine blockK.nn ?_ | refine blockK.hit rfl ?_ | refine JC.condF rfl ?_ | (refine JC.cond rfl (fun hc => ?_) (fun hc => ?_) <;> ((try simp only [decide_eq_true_eq, decide_eq_false_iff_not, beq_iff_eq, beq_eq_false_iff_ne, bne_iff_ne, bne_eq_false_iff_eq, Bool.not_eq_true', Bool.not_eq_false', Bool.not_eq_true, Bool.not_eq_false] at hc) <;> first | (first | (exact absurd rfl hc) | (exfalso; omega) | (exact absurd (hc.symm.trans (by assumption : _ = false)) (by decide)) | (exact absurd (hc.symm.trans (by assumption : _ = true)) (by decide))) | skip)) | refine loopK.x ?_)
    | (fail)
    | fail
  all_goals first | (exfalso; omega) | skip
  rename_i L
  have hW : ∀ u, (mget mm u).getD 0 = cntV s.ns o S u := hSc
  have hWb : ∀ u, cntV s.ns o S u ≤ 1000 := fun u => by
    have h1 : cntV s.ns o S u ≤ S.length := List.length_filter_le _ _
    have h2 := rch_len so.wf ha hSn (fun x hx => ((hSm x).1 hx).2)
    have h3 := pow8 h8
    omega
  obtain ⟨W, hWd⟩ : ∃ W : Int → Nat, W = fun u => cntV s.ns o S u := ⟨_, rfl⟩
  have cok := cmS_ok (b8 := b8) mt (W := W) (fun u => by rw [hWd]; exact hSc u) (fun u => by rw [hWd]; exact hWb u) sv.ho
  have cO := fun w hw => Order_any so sv.po bs w hw
  repeat' first
    | (refine J.isJ ?_; first | (first | (refine J.fc 36 ?_; refine J.callx eSortF rfl rfl (fun w hw => sortF_any cok hnd (by omega) oQ (RdH.hd.append RdH.hd.tl) hw) ?_; rintro _ _ ⟨q, hD, rfl, rfl, hqp, hqs, oD⟩) | (refine J.fc 21 ?_; refine J.call1 eOrder rfl rfl (fun w hw => cO w (stR_of2 rS.tl.tl.tl hw)) ?_; rintro _ hQ2 ⟨aQ2, cQ2, rfl, oQ2⟩) | (refine J.fc 38 ?_; refine J.callx eReb2 rfl rfl (fun w hw => rebuilt_any sv h8 o rfl sv.ho (fun v h => h) aQ2 cQ2 hQ2 oQ2.sl rS.tl.tl.tl.tl RdH.hd hw) ?_; rintro _ _ ⟨b1, K1, s1, y1, hO1, hP1, rfl, rfl, sv1⟩)) | (first | (refine J.o 0 ?_; refine J.ev' hΓ ?_) | refine J.nil ?_ | (refine J.o 4 ?_; first | refine J.lT default hΓ ?_) | (refine J.o 3 ?_; first | refine J.iJ hΓ ?_ | refine J.ev' hΓ ?_) | (refine J.o 1 ?_; first | refine J.ad ?_) | (refine J.o 5 ?_; first | refine J.t0 hΓ ?_) | (refine J.o 7 ?_; refine J.al hΓ (fun _ => ?_)) | (refine J.o 10 ?_; refine J.ev' hΓ ?_) | (refine J.o 11 ?_; refine J.ev' hΓ ?_) | (refine J.o 14 ?_; refine J.mf hΓ ?_)))
    | (first | refine JC.seq ?_ | refine JC.region ?_ | refine JC.block ?_ | refine JC.ret ?_ | refine JC.exit ?_ | refine JC.skip ?_ | refine thenK.nn ?_ | refine thenK.x ?_ | refine blockK.nn ?_ | refine blockK.hit rfl ?_ | refine JC.condF rfl ?_ | (refine JC.cond rfl (fun hc => ?_) (fun hc => ?_) <;> ((try simp only [decide_eq_true_eq, decide_eq_false_iff_not, beq_iff_eq, beq_eq_false_iff_ne, bne_iff_ne, bne_eq_false_iff_eq, Bool.not_eq_true', Bool.not_eq_false', Bool.not_eq_true, Bool.not_eq_false] at hc) <;> first | (first | (exact absurd rfl hc) | (exfalso; omega) | (exact absurd (hc.symm.trans (by assumption : _ = false)) (by decide)) | (exact absurd (hc.symm.trans (by assumption : _ = true)) (by decide))) | skip)) | refine loopK.x ?_)
    | (fail)
    | fail
  all_goals first | (exfalso; omega) | skip
  have hql := hqp.length_eq
  refine JC.weak (L' := sF K1 b1 s1 ++ (hO1 :: hP1 :: hD :: L)) (fun w hw => H.sel (l := [_, _, _, _, _, _, _, _, _, _]) (M := L) hw [0, 1, 2, 3, 4, 5, 7]) ?_
  refine JC.loopG (fun i => i == 10 || i == 11 || i == 12 || i == 14 || Nat.ble 40 i) (fun m g L' => ∃ (i : Nat) (b : Nat) (K : KS) (s : SS) (y : Nat) (hO hP : Heap), g 40 = .int .i64 (i : Int) ∧ g 10 = .pointer (some ⟨b, 0, none⟩) ∧ g 11 = .int .i64 ((y : Nat) : Int) ∧ g 12 = .int .i64 0 ∧ i + m = o.length ∧ Stv F (sftO F (q.take i) o) K s y hO hP ∧ L' = sF K b s ++ (hO :: hP :: hD :: L)) o.length ⟨0, b1, K1, s1, y1, hO1, hP1, rfl, rfl, rfl, rfl, by omega, sv1, rfl⟩ ?_
  rintro m g _ ⟨i, b, Kc, sc, yc, hOc, hPc, e40, e10, e11, e12, him, svc, rfl⟩
  refine JC.pin 40 e40 (JC.pin 10 e10 (JC.pin 11 e11 (JC.pin 12 e12 ?_)))
  rcases Nat.lt_or_ge i o.length with hil | hil
  case inr =>
    obtain rfl : i = o.length := by omega
    rw [← hql, List.take_length] at svc
    repeat' first
      | (refine J.isJ ?_; first | (fail) | (first | (refine J.o 0 ?_; refine J.ev' hΓ ?_) | refine J.nil ?_ | (refine J.o 4 ?_; first | refine J.lT default hΓ ?_) | (refine J.o 3 ?_; first | refine J.iJ hΓ ?_ | refine J.ev' hΓ ?_) | (refine J.o 1 ?_; first | refine J.ad ?_) | (refine J.o 5 ?_; first | refine J.t0 hΓ ?_) | (refine J.o 7 ?_; refine J.al hΓ (fun _ => ?_)) | (refine J.o 10 ?_; refine J.ev' hΓ ?_) | (refine J.o 11 ?_; refine J.ev' hΓ ?_) | (refine J.o 14 ?_; refine J.mf hΓ ?_)))
      | (first | refine JC.seq ?_ | refine JC.region ?_ | refine JC.block ?_ | refine JC.ret ?_ | refine JC.exit ?_ | refine JC.skip ?_ | refine thenK.nn ?_ | refine thenK.x ?_ | refine blockK.nn ?_ | refine blockK.hit rfl ?_ | refine JC.condF rfl ?_ | (refine JC.cond rfl (fun hc => ?_) (fun hc => ?_) <;> ((try simp only [decide_eq_true_eq, decide_eq_false_iff_not, beq_iff_eq, beq_eq_false_iff_ne, bne_iff_ne, bne_eq_false_iff_eq, Bool.not_eq_true', Bool.not_eq_false', Bool.not_eq_true, Bool.not_eq_false] at hc) <;> first | (first | (exact absurd rfl hc) | (exfalso; omega) | (exact absurd (hc.symm.trans (by assumption : _ = false)) (by decide)) | (exact absurd (hc.symm.trans (by assumption : _ = true)) (by decide))) | skip)) | refine loopK.x ?_)
      | (fail)
      | fail
    all_goals first | (exfalso; omega) | skip
    exact ret3f rfl rfl rfl rfl rfl rfl rfl (fun w1 hw => ⟨_, _, rfl, H.drop6 hw, W, q, ⟨S, hSn, hSm, fun v => by rw [hWd]⟩, hqp, hqs, b, Kc, sc, yc, hOc, hPc, rfl, rfl, svc⟩)
  have hpc := sftO_perm F (q.take i) o (fun v hv => hqp.mem_iff.1 (List.mem_of_mem_take hv)) hnd
  have hlc := hpc.length_eq
  have hqi : q.getD i default ∈ sftO F (q.take i) o := hpc.mem_iff.2 (hqp.mem_iff.1 (getD_mem (by omega)))
  have hmv : movO F (sftO F (q.take i) o) (q.getD i default) = sftO F (q.take (i + 1)) o := by
    rw [← sftO_snoc, List.take_succ_eq_append_getElem (by omega), List.getD_eq_getElem?_getD, List.getElem?_eq_getElem (by omega)]
    rfl
  repeat' first
    | (refine J.isJ ?_; first | (first | (refine J.o 3 ?_; refine J.iJ hΓ ?_ (hs := oD.sl)) | (refine J.o 4 ?_; refine J.lT default hΓ ?_ (hs := oD.sl) (hr := RdH.app (sF Kc b sc) RdH.hd.tl.tl)) | (refine J.fc 39 ?_; refine J.callx eMoved rfl rfl (fun w hw => moved_any svc (by omega) hqi (stR_hd _) hw) ?_; rintro _ _ ⟨b2, K2, s2, y2, hO2, hP2, rfl, rfl, sv2⟩)) | (first | (refine J.o 0 ?_; refine J.ev' hΓ ?_) | refine J.nil ?_ | (refine J.o 4 ?_; first | refine J.lT default hΓ ?_) | (refine J.o 3 ?_; first | refine J.iJ hΓ ?_ | refine J.ev' hΓ ?_) | (refine J.o 1 ?_; first | refine J.ad ?_) | (refine J.o 5 ?_; first | refine J.t0 hΓ ?_) | (refine J.o 7 ?_; refine J.al hΓ (fun _ => ?_)) | (refine J.o 10 ?_; refine J.ev' hΓ ?_) | (refine J.o 11 ?_; refine J.ev' hΓ ?_) | (refine J.o 14 ?_; refine J.mf hΓ ?_)))
    | (first | refine JC.seq ?_ | refine JC.region ?_ | refine JC.block ?_ | refine JC.ret ?_ | refine JC.exit ?_ | refine JC.skip ?_ | refine thenK.nn ?_ | refine thenK.x ?_ | refine blockK.nn ?_ | refine blockK.hit rfl ?_ | refine JC.condF rfl ?_ | (refine JC.cond rfl (fun hc => ?_) (fun hc => ?_) <;> ((try simp only [decide_eq_true_eq, decide_eq_false_iff_not, beq_iff_eq, beq_eq_false_iff_ne, bne_iff_ne, bne_eq_false_iff_eq, Bool.not_eq_true', Bool.not_eq_false', Bool.not_eq_true, Bool.not_eq_false] at hc) <;> first | (first | (exact absurd rfl hc) | (exfalso; omega) | (exact absurd (hc.symm.trans (by assumption : _ = false)) (by decide)) | (exact absurd (hc.symm.trans (by assumption : _ = true)) (by decide))) | skip)) | refine loopK.x ?_)
    | (fail)
    | fail
  all_goals first | (exfalso; omega) | skip
  rw [hmv] at sv2
  refine loopK.nn (m - 1) (by omega) (by repeat (first | refine Ag.upd rfl ?_ | exact Ag.hv | refine Ag.hv2 (fun i hi => by simp at hi ⊢; omega) ?_)) ⟨_, ⟨i + 1, b2, K2, s2, y2, hO2, hP2, ?_, rfl, rfl, rfl, by omega, sv2, rfl⟩, fun w hw => H.sel (l := [_, _, _, _, _, _, _, _, _, _, _, _, _]) (M := L) hw [0, 1, 2, 3, 4, 5, 12]⟩
  show Value.int .i64 _ = _; congr 1
end Go.Proofs.YtbhgahjeocnfcaaGreat
namespace Go.Proofs.YtbhgahjeocnfcaaGreat
open Go Go.Cx Go.RowKit
set_option linter.unusedVariables false
set_option linter.unusedSimpArgs false
set_option maxHeartbeats 4000000
attribute [local irreducible] J JC thenK blockK loopK roundK drawK retK QW Qt pel List.set Calls
open Go.Maps Go.Lib
set_option maxRecDepth 8000
theorem bestO_le (sz : List Int → Nat) (rest : List Int) (v : Int) : ∀ i j, j ≤ i → sz (bestO sz rest v i) ≤ sz (insAt rest j v)
  | 0, j, h => by
    obtain rfl : j = 0 := by omega
    exact Nat.le_refl _
  | i + 1, j, h => by
    have ih := bestO_le sz rest v i
    unfold bestO
    split
    · rcases Nat.lt_or_ge j (i + 1) with g | g
      · have := ih j (by omega); omega
      · obtain rfl : j = i + 1 := by omega
        exact Nat.le_refl _
    · rcases Nat.lt_or_ge j (i + 1) with g | g
      · exact ih j (by omega)
      · obtain rfl : j = i + 1 := by omega
        omega
theorem ins_wo {v : Int} : ∀ {l : List Int}, v ∈ l → l.Nodup → ∃ i, i < l.length ∧ insAt (wo l v) i v = l
  | x :: l, hv, hn => by
    rw [List.nodup_cons] at hn
    by_cases hx : x = v
    · subst hx
      have : wo l x = l := List.filter_eq_self.2 fun y hy => by
        have : y ≠ x := fun e => hn.1 (e ▸ hy)
        simp [this]
      refine ⟨0, by simp, ?_⟩
      unfold wo at this ⊢
      rw [List.filter_cons_of_neg (by simp), this]
      simp [insAt]
    · have h1 : v ∈ l := by
        rcases List.mem_cons.1 hv with h | h
        · exact absurd h.symm hx
        · exact h
      obtain ⟨i, hi, e⟩ := ins_wo h1 hn.2
      refine ⟨i + 1, by simpa using hi, ?_⟩
      unfold wo at e ⊢
      rw [List.filter_cons_of_pos (by simp [hx])]
      unfold insAt at e ⊢
      rw [List.take_succ_cons, List.drop_succ_cons, List.cons_append, e]
theorem movO_le (F : VF) {o : List Int} {v : Int} (hv : v ∈ o) (hn : o.Nodup) : szF (movO F o v) F ≤ szF o F := by
  obtain ⟨i, hi, e⟩ := ins_wo hv hn
  have := bestO_le (fun l => szF l F) (wo o v) v (o.length - 1) i (by omega)
  rw [e] at this
  exact this
theorem sftO_le (F : VF) : ∀ (q o : List Int), (∀ v ∈ q, v ∈ o) → o.Nodup → szF (sftO F q o) F ≤ szF o F
  | [], o, _, _ => Nat.le_refl _
  | v :: q, o, hv, hn => by
    have h1 := movO_perm F (hv v List.mem_cons_self) hn
    have h2 := sftO_le F q (movO F o v) (fun u hu => h1.mem_iff.2 (hv u (List.mem_cons_of_mem _ hu))) (h1.nodup_iff.2 hn)
    exact Nat.le_trans h2 (movO_le F (hv v List.mem_cons_self) hn)
end Go.Proofs.YtbhgahjeocnfcaaGreat
namespace Go.Proofs.YtbhgahjeocnfcaaGreat
open Go Go.Cx Go.RowKit
set_option linter.unusedVariables false
set_option linter.unusedSimpArgs false
set_option maxHeartbeats 4000000
attribute [local irreducible] J JC thenK blockK loopK roundK drawK retK QW Qt pel List.set Calls
open Go.Maps Go.Lib
set_option maxRecDepth 8000
attribute [local irreducible] JE Br eK0 eK3 brK pc
theorem Stv.count {F : VF} {l : List Int} {K : KS} {s : SS} {y : Nat} {hO hP : Heap} (sv : Stv F l K s y hO hP) : 2 ^ (nd s.ns y).p * cN l.length s.ns y = cntF l.length (gF l F) := by
  rw [tab_count sv.so.wf sv.sy.1]
  unfold tab blk cntF
  congr 1
  exact List.map_congr_left fun r _ => sv.sy.fn sv.ho.2 sv.so.wf _
set_option maxHeartbeats 16000000 in
theorem keeps31_any (N : Int) (aT : Option Addr) (cap : Nat) (vs : List HV) (hT : Heap) (ll : LLR aT vs hT) (ks : List Nat) (ak : Option Addr) (ck : Nat) (hk : Heap) (hs : SlT encK 1 ak ks hk) (hkl : ks.length ≤ 9223372036854775807) (hkb : ∀ k ∈ ks, k < 256) (p : Nat) (hpb : p < 256) (x0 : Nat × Nat) (hx0 : okS x0) (w : World) (hw1 : Holds (hT ++ hk) w) :
    Calls Tryz.prog 4 #[.agg ⟨[.int .i64 N, .slice aT vs.length cap]⟩, .slice ak ks.length ck, .int .u8 (p : Int), sv x0] w fun e w' => e = .returned (.bool true) ∧ Below w.heap.size w w' := by
  have qT : ∀ L, RdH (hT ++ hk) L hT := fun L => RdH.old fun _ hh => List.mem_append_left _ hh
  have qK : ∀ L, RdH (hT ++ hk) L hk := fun L => RdH.old fun _ hh => List.mem_append_right _ hh
  have cS := fun w hw => small_any 8 (by omega) N aT cap vs hT ll w hw
  by_cases hsm : smallP 8 N (vs.map (·.l))
  case neg =>
    rw [decide_eq_false hsm] at cS
    refine calls_of_JC (R := (hT ++ hk)) Tryz.func4 Tryz.ntmps4 rfl rfl (hw1) ?_
    repeat' first
      | (refine J.isJ ?_; first | (first | (refine J.o 6 ?_; first | refine J.bx (t := 24) (fun _ => ?_) | refine J.bx (t := 44) (fun _ => ?_)) | (refine J.o 4 ?_; refine J.lR hΓ ?_ (hr := Rd.hd.tl)) | (refine J.fc 5 ?_; refine J.call0 eSmall rfl rfl (fun w hw => cS w (hw.rdH (qT _))) ?_) | (refine J.fc 6 ?_; refine J.call0 eWorks31 rfl rfl (fun w hw => works31_any w) ?_)) | (first | (refine J.o 0 ?_; refine J.ev' hΓ ?_) | refine J.nil ?_ | refine J.kd ?_ | (refine J.o 4 ?_; first | refine J.lR hΓ ?_) | (refine J.o 3 ?_; first | refine J.ev' hΓ ?_) | (refine J.o 5 ?_; first | refine J.t0 hΓ ?_) | (refine J.o 6 ?_; refine J.bx (fun _ => ?_)) | (refine J.o 7 ?_; refine J.al hΓ (fun _ => ?_)) | (refine J.o 10 ?_; refine J.ev' hΓ ?_) | (refine J.o 11 ?_; refine J.ev' hΓ ?_)) | ((fail_if_success refine J.wt ?_); refine J.gc rfl rfl (fun hc => ?_) (fun hc => ?_) <;> ((try simp only [decide_eq_true_eq, decide_eq_false_iff_not, beq_iff_eq, beq_eq_false_iff_ne, bne_iff_ne, bne_eq_false_iff_eq, Bool.not_eq_true', Bool.not_eq_false', Bool.not_eq_true, Bool.not_eq_false] at hc) <;> first | (first | (exact absurd rfl hc) | (exfalso; omega) | (exact absurd (hc.symm.trans (by assumption : _ = false)) (by decide)) | (exact absurd (hc.symm.trans (by assumption : _ = true)) (by decide))) | skip)))
      | (first | refine JC.seq ?_ | refine JC.region ?_ | refine JC.ret ?_ | refine JC.skip ?_ | refine thenK.nn ?_ | refine thenK.r ?_ | refine JC.condT rfl ?_ | refine JC.condF rfl ?_ | (refine JC.cond rfl (fun hc => ?_) (fun hc => ?_) <;> ((try simp only [decide_eq_true_eq, decide_eq_false_iff_not, beq_iff_eq, beq_eq_false_iff_ne, bne_iff_ne, bne_eq_false_iff_eq, Bool.not_eq_true', Bool.not_eq_false', Bool.not_eq_true, Bool.not_eq_false] at hc) <;> first | (first | (exact absurd rfl hc) | (exfalso; omega) | (exact absurd (hc.symm.trans (by assumption : _ = false)) (by decide)) | (exact absurd (hc.symm.trans (by assumption : _ = true)) (by decide))) | skip)) | refine drawK.nn ?_)
      | (fail)
      | fail
    all_goals first | (exfalso; omega) | skip
    all_goals (refine ret1f rfl rfl rfl (fun w1 hw => ⟨rfl, hw.below⟩))
  rw [decide_eq_true hsm] at cS
  obtain ⟨n, rfl, hn8, hok, hco⟩ := smallP_ok (n := 8) (by omega) hsm
  rcases Nat.lt_or_ge n 2 with h2 | h2
  ·
    refine calls_of_JC (R := (hT ++ hk)) Tryz.func4 Tryz.ntmps4 rfl rfl (hw1) ?_
    repeat' first
      | (refine J.isJ ?_; first | (first | (refine J.o 6 ?_; first | refine J.bx (t := 24) (fun _ => ?_) | refine J.bx (t := 44) (fun _ => ?_)) | (refine J.o 4 ?_; refine J.lR hΓ ?_ (hr := Rd.hd.tl)) | (refine J.fc 5 ?_; refine J.call0 eSmall rfl rfl (fun w hw => cS w (hw.rdH (qT _))) ?_) | (refine J.fc 6 ?_; refine J.call0 eWorks31 rfl rfl (fun w hw => works31_any w) ?_)) | (first | (refine J.o 0 ?_; refine J.ev' hΓ ?_) | refine J.nil ?_ | refine J.kd ?_ | (refine J.o 4 ?_; first | refine J.lR hΓ ?_) | (refine J.o 3 ?_; first | refine J.ev' hΓ ?_) | (refine J.o 5 ?_; first | refine J.t0 hΓ ?_) | (refine J.o 6 ?_; refine J.bx (fun _ => ?_)) | (refine J.o 7 ?_; refine J.al hΓ (fun _ => ?_)) | (refine J.o 10 ?_; refine J.ev' hΓ ?_) | (refine J.o 11 ?_; refine J.ev' hΓ ?_)) | ((fail_if_success refine J.wt ?_); refine J.gc rfl rfl (fun hc => ?_) (fun hc => ?_) <;> ((try simp only [decide_eq_true_eq, decide_eq_false_iff_not, beq_iff_eq, beq_eq_false_iff_ne, bne_iff_ne, bne_eq_false_iff_eq, Bool.not_eq_true', Bool.not_eq_false', Bool.not_eq_true, Bool.not_eq_false] at hc) <;> first | (first | (exact absurd rfl hc) | (exfalso; omega) | (exact absurd (hc.symm.trans (by assumption : _ = false)) (by decide)) | (exact absurd (hc.symm.trans (by assumption : _ = true)) (by decide))) | skip)))
      | (first | refine JC.seq ?_ | refine JC.region ?_ | refine JC.ret ?_ | refine JC.skip ?_ | refine thenK.nn ?_ | refine thenK.r ?_ | refine JC.condT rfl ?_ | refine JC.condF rfl ?_ | (refine JC.cond rfl (fun hc => ?_) (fun hc => ?_) <;> ((try simp only [decide_eq_true_eq, decide_eq_false_iff_not, beq_iff_eq, beq_eq_false_iff_ne, bne_iff_ne, bne_eq_false_iff_eq, Bool.not_eq_true', Bool.not_eq_false', Bool.not_eq_true, Bool.not_eq_false] at hc) <;> first | (first | (exact absurd rfl hc) | (exfalso; omega) | (exact absurd (hc.symm.trans (by assumption : _ = false)) (by decide)) | (exact absurd (hc.symm.trans (by assumption : _ = true)) (by decide))) | skip)) | refine drawK.nn ?_)
      | (fail)
      | fail
    all_goals first | (exfalso; omega) | skip
    all_goals (refine ret1f rfl rfl rfl (fun w1 hw => ⟨rfl, hw.below⟩))
  obtain ⟨q, hq⟩ : ∃ q, q = p % (n - 1) := ⟨_, rfl⟩
  have hqn : q < n - 1 := by rw [hq]; exact Nat.mod_lt _ (by omega)
  have hqv : Value.int .i64 ((p % (n - 1) : Nat) : Int) = .int .i64 (q : Int) := by rw [hq]
  obtain ⟨x, hx⟩ : ∃ x, x = cutS x0 (allS n) := ⟨_, rfl⟩
  have hxo : okS x := hx ▸ okS_cut hx0
  have hxs : ∀ u, hasB x u = true → u ≤ n := fun u hu => by
    rw [hx, has_cut, Bool.and_eq_true] at hu
    exact ((has_all n u (by omega)).1 hu.2).2
  have cC := fun w => cut_any x0 (allS n) hx0 (okS_all n) w
  rw [← hx] at cC
  have cA := fun w => all_any n (by omega) w
  refine calls_of_JC (R := (hT ++ hk)) Tryz.func4 Tryz.ntmps4 rfl rfl (hw1) ?_
  repeat' first
    | (refine J.isJ ?_; first | (first | (refine J.o 6 ?_; first | refine J.bx (t := 24) (fun _ => ?_) | refine J.bx (t := 44) (fun _ => ?_)) | (refine J.o 4 ?_; first | refine J.e0 hΓ ?_ | refine J.e1 hΓ ?_) | (refine J.fc 5 ?_; refine J.call0 eSmall rfl rfl (fun w hw => cS w (hw.rdH (qT _))) ?_) | (refine J.fc 14 ?_; refine J.call0 eAllV rfl rfl (fun w hw => cA w) ?_) | (refine J.fc 13 ?_; refine J.call0 eCut rfl rfl (fun w hw => cC w) ?_)) | (first | (refine J.o 0 ?_; refine J.ev' hΓ ?_) | refine J.nil ?_ | refine J.kd ?_ | (refine J.o 4 ?_; first | refine J.lR hΓ ?_) | (refine J.o 3 ?_; first | refine J.ev' hΓ ?_) | (refine J.o 5 ?_; first | refine J.t0 hΓ ?_) | (refine J.o 6 ?_; refine J.bx (fun _ => ?_)) | (refine J.o 7 ?_; refine J.al hΓ (fun _ => ?_)) | (refine J.o 10 ?_; refine J.ev' hΓ ?_) | (refine J.o 11 ?_; refine J.ev' hΓ ?_)) | ((fail_if_success refine J.wt ?_); refine J.gc rfl rfl (fun hc => ?_) (fun hc => ?_) <;> ((try simp only [decide_eq_true_eq, decide_eq_false_iff_not, beq_iff_eq, beq_eq_false_iff_ne, bne_iff_ne, bne_eq_false_iff_eq, Bool.not_eq_true', Bool.not_eq_false', Bool.not_eq_true, Bool.not_eq_false] at hc) <;> first | (first | (exact absurd rfl hc) | (exfalso; omega) | (exact absurd (hc.symm.trans (by assumption : _ = false)) (by decide)) | (exact absurd (hc.symm.trans (by assumption : _ = true)) (by decide))) | skip)))
    | (first | refine JC.seq ?_ | refine JC.region ?_ | refine JC.ret ?_ | refine JC.skip ?_ | refine thenK.nn ?_ | refine thenK.r ?_ | refine JC.condT rfl ?_ | refine JC.condF rfl ?_ | (refine JC.cond rfl (fun hc => ?_) (fun hc => ?_) <;> ((try simp only [decide_eq_true_eq, decide_eq_false_iff_not, beq_iff_eq, beq_eq_false_iff_ne, bne_iff_ne, bne_eq_false_iff_eq, Bool.not_eq_true', Bool.not_eq_false', Bool.not_eq_true, Bool.not_eq_false] at hc) <;> first | (first | (exact absurd rfl hc) | (exfalso; omega) | (exact absurd (hc.symm.trans (by assumption : _ = false)) (by decide)) | (exact absurd (hc.symm.trans (by assumption : _ = true)) (by decide))) | skip)) | refine drawK.nn ?_)
    | (first | (refine JC.drawO [(1,0),(0,1),(1,2),(1,3),(1,4),(2,5)] (by decide +kernel) (by decide +kernel) ?_) | (refine JC.drawO [(1,0),(0,1),(1,2),(0,3),(3,4),(2,5),(0,6),(0,7),(0,8),(0,9),(0,10),(0,11),(0,12)] (by decide +kernel) (by decide +kernel) ?_))
    | fail
  all_goals first | (exfalso; omega) | skip
  rename_i bT bX
  repeat' first
    | (refine J.isJ ?_; first | (first | (refine J.fc 7 ?_; refine J.call1 eOrder31 rfl rfl (fun w hw => order31_any n (by omega) ks ak ck hk hs hkl hkb w (hw.rdH (qK _))) ?_; rintro _ hO ⟨aO, l, cO, rfl, hp, oO⟩; have hll : l.length = n := (by rw [hp.length_eq, ints_len])) | (refine J.fc 8 ?_; refine J.callx eCom rfl rfl (fun w hw => compile_V n hn8 l hp aO cO hO oO.sl aT cap vs hT ll _ rfl hok hco RdH.hd (qT _) hw) ?_; rintro _ _ ⟨b1, K1, s1, y1, hO1, hP1, rfl, rfl, sv1⟩; have hc1 := sv1.count) | (refine J.fc 15 ?_; (refine J.callx eCountS rfl rfl (fun w hw => Count_any sv1.so b1 y1 sv1.sy.1 (stR_b (stR_hd _)) (stR_N (stR_hd _)) hw) ?_; rintro _ _ ⟨rfl, rfl⟩; rw [hc1])) | (refine J.o 7 ?_; refine J.al hΓ (fun b12 => ?_))) | (first | (refine J.o 0 ?_; refine J.ev' hΓ ?_) | refine J.nil ?_ | refine J.kd ?_ | (refine J.o 4 ?_; first | refine J.lR hΓ ?_) | (refine J.o 3 ?_; first | refine J.ev' hΓ ?_) | (refine J.o 5 ?_; first | refine J.t0 hΓ ?_) | (refine J.o 6 ?_; refine J.bx (fun _ => ?_)) | (refine J.o 7 ?_; refine J.al hΓ (fun _ => ?_)) | (refine J.o 10 ?_; refine J.ev' hΓ ?_) | (refine J.o 11 ?_; refine J.ev' hΓ ?_)) | ((fail_if_success refine J.wt ?_); refine J.gc rfl rfl (fun hc => ?_) (fun hc => ?_) <;> ((try simp only [decide_eq_true_eq, decide_eq_false_iff_not, beq_iff_eq, beq_eq_false_iff_ne, bne_iff_ne, bne_eq_false_iff_eq, Bool.not_eq_true', Bool.not_eq_false', Bool.not_eq_true, Bool.not_eq_false] at hc) <;> first | (first | (exact absurd rfl hc) | (exfalso; omega) | (exact absurd (hc.symm.trans (by assumption : _ = false)) (by decide)) | (exact absurd (hc.symm.trans (by assumption : _ = true)) (by decide))) | skip)))
    | (first | refine JC.seq ?_ | refine JC.region ?_ | refine JC.ret ?_ | refine JC.skip ?_ | refine thenK.nn ?_ | refine thenK.r ?_ | refine JC.condT rfl ?_ | refine JC.condF rfl ?_ | (refine JC.cond rfl (fun hc => ?_) (fun hc => ?_) <;> ((try simp only [decide_eq_true_eq, decide_eq_false_iff_not, beq_iff_eq, beq_eq_false_iff_ne, bne_iff_ne, bne_eq_false_iff_eq, Bool.not_eq_true', Bool.not_eq_false', Bool.not_eq_true, Bool.not_eq_false] at hc) <;> first | (first | (exact absurd rfl hc) | (exfalso; omega) | (exact absurd (hc.symm.trans (by assumption : _ = false)) (by decide)) | (exact absurd (hc.symm.trans (by assumption : _ = true)) (by decide))) | skip)) | refine drawK.nn ?_)
    | (fail)
    | fail
  all_goals first | (exfalso; omega) | skip
  obtain ⟨T, hTd⟩ : ∃ T, vs.map (·.l) = T := ⟨_, rfl⟩
  have hpq := swp_perm l (p := q) (by omega)
  have hnd := sv1.ho.2
  have cE := fun w hw => evalT_any n aT cap vs x hxo hT ll hok hxs w hw
  rw [hTd] at cE sv1 ⊢
  obtain ⟨C, hC⟩ : ∃ C, cntF l.length (gF l (thF T)) = C := ⟨_, rfl⟩
  rw [hC]
  repeat' first
    | (refine J.isJ ?_; first | (first | (refine J.o 2 ?_; refine J.gcv hΓ ?_ (hk := wI64 (by omega))) | (refine J.o 1 ?_; first | refine J.gsub (a := n) (b := 1) ?_ | (refine J.grem (a := p) (b := n - 1) ?_; rw [hqv])) | (refine J.o 4 ?_; first | refine J.lR hΓ ?_ (hr := (Rd.app _ Rd.hd.tl.tl.tl.tl).tl) | refine J.lR hΓ ?_ (hr := Rd.app _ (Rd.app _ (Rd.app _ Rd.hd.tl.tl.tl.tl).tl.tl.tl).tl.tl) | refine J.lR hΓ ?_ (hr := Rd.app _ (Rd.app _ (Rd.app _ Rd.hd.tl.tl.tl).tl.tl.tl).tl.tl)) | (refine J.fc 16 ?_; (refine J.callx eSize rfl rfl (fun w hw => Size_any sv1.so b1 y1 sv1.sy.1 (stR_b (stR_hd _).tl) (stR_N (stR_hd _).tl) hw) ?_; rintro _ _ ⟨l1, rfl, rfl, bel1⟩)) | (refine J.fc 17 ?_; (refine J.callx eSwap rfl rfl (fun w hw => Swap_any sv1 (by omega) q (by omega) (stR_hd _).tl hw) ?_; rintro _ _ ⟨b2, K2, s2, y2, hO2, hP2, rfl, rfl, sv2⟩)) | (refine J.fc 10 ?_; refine J.callx eSift rfl rfl (fun w hw => Sift_any sv1 (by omega) (stR_tl (stR_hd _).tl K2 b2 s2 hO2 hP2) hw) ?_; rintro _ _ ⟨W, Q, wt, hqp, hqs, b3, K3, s3, y3, hO3, hP3, rfl, rfl, sv3⟩) | (refine J.fc 18 ?_; refine J.call0 eEvalT rfl rfl (fun w hw => cE w (hw.rdH (qT _))) ?_)) | (first | (refine J.o 0 ?_; refine J.ev' hΓ ?_) | refine J.nil ?_ | refine J.kd ?_ | (refine J.o 4 ?_; first | refine J.lR hΓ ?_) | (refine J.o 3 ?_; first | refine J.ev' hΓ ?_) | (refine J.o 5 ?_; first | refine J.t0 hΓ ?_) | (refine J.o 6 ?_; refine J.bx (fun _ => ?_)) | (refine J.o 7 ?_; refine J.al hΓ (fun _ => ?_)) | (refine J.o 10 ?_; refine J.ev' hΓ ?_) | (refine J.o 11 ?_; refine J.ev' hΓ ?_)) | ((fail_if_success refine J.wt ?_); refine J.gc rfl rfl (fun hc => ?_) (fun hc => ?_) <;> ((try simp only [decide_eq_true_eq, decide_eq_false_iff_not, beq_iff_eq, beq_eq_false_iff_ne, bne_iff_ne, bne_eq_false_iff_eq, Bool.not_eq_true', Bool.not_eq_false', Bool.not_eq_true, Bool.not_eq_false] at hc) <;> first | (first | (exact absurd rfl hc) | (exfalso; omega) | (exact absurd (hc.symm.trans (by assumption : _ = false)) (by decide)) | (exact absurd (hc.symm.trans (by assumption : _ = true)) (by decide))) | skip)))
    | (first | refine JC.seq ?_ | refine JC.region ?_ | refine JC.ret ?_ | refine JC.skip ?_ | refine thenK.nn ?_ | refine thenK.r ?_ | refine JC.condT rfl ?_ | refine JC.condF rfl ?_ | (refine JC.cond rfl (fun hc => ?_) (fun hc => ?_) <;> ((try simp only [decide_eq_true_eq, decide_eq_false_iff_not, beq_iff_eq, beq_eq_false_iff_ne, bne_iff_ne, bne_eq_false_iff_eq, Bool.not_eq_true', Bool.not_eq_false', Bool.not_eq_true, Bool.not_eq_false] at hc) <;> first | (first | (exact absurd rfl hc) | (exfalso; omega) | (exact absurd (hc.symm.trans (by assumption : _ = false)) (by decide)) | (exact absurd (hc.symm.trans (by assumption : _ = true)) (by decide))) | skip)) | refine drawK.nn ?_)
    | (fail)
    | fail
  all_goals first | (exfalso; omega) | skip
  have hr3 := sftO_perm (thF T) Q l (fun v hv => hqp.mem_iff.1 hv) hnd
  have hz3 := sftO_le (thF T) Q l (fun v hv => hqp.mem_iff.1 hv) hnd
  obtain ⟨o3, ho3⟩ : ∃ o3, sftO (thF T) Q l = o3 := ⟨_, rfl⟩
  obtain ⟨o2, ho2⟩ : ∃ o2, swp l q = o2 := ⟨_, rfl⟩
  rw [ho3] at sv3 hr3 hz3
  rw [ho2] at sv2 hpq
  have hc2 := sv2.count.trans ((cntF_perm (hpq.nodup_iff.2 hnd) hnd (fun v => hpq.mem_iff) (thF T)).trans hC)
  have hc3 := sv3.count.trans ((cntF_perm (hr3.nodup_iff.2 hnd) hnd (fun v => hr3.mem_iff) (thF T)).trans hC)
  have ev2 : fn o2.length s2.ns y2 (asgS o2 x) = evT (hasB x) T := sv2.sy.2 (hasB x)
  have ev3 : fn o3.length s3.ns y3 (asgS o3 x) = evT (hasB x) T := sv3.sy.2 (hasB x)
  have cV2 := fun w hw => Eval_any sv2.so sv2.po b2 y2 sv2.sy.1 x hxo w hw
  have cV3 := fun w hw => Eval_any sv3.so sv3.po b3 y3 sv3.sy.1 x hxo w hw
  rw [ev2] at cV2
  rw [ev3] at cV3
  have hof : ofS o3 = allS n := of_ints (by omega) (hr3.trans hp)
  have hl3 := hr3.length_eq
  clear cE ev2 ev3
  generalize evT (hasB x) T = bv at *
  repeat' first
    | (refine J.isJ ?_; first | (first | (refine J.fc 15 ?_; first | (refine J.callx eCountS rfl rfl (fun w hw => Count_any sv2.so b2 y2 sv2.sy.1 (stR_b (stR_tl (stR_hd _) K3 b3 s3 hO3 hP3)) (stR_N (stR_tl (stR_hd _) K3 b3 s3 hO3 hP3)) hw) ?_; rintro _ _ ⟨rfl, rfl⟩; rw [hc2]) | (refine J.callx eCountS rfl rfl (fun w hw => Count_any sv3.so b3 y3 sv3.sy.1 (stR_b (stR_hd _).tl) (stR_N (stR_hd _).tl) hw) ?_; rintro _ _ ⟨rfl, rfl⟩; rw [hc3])) | (refine J.o 7 ?_; refine J.al hΓ (fun _ => ?_)) | (refine J.fc 16 ?_; (refine J.callx eSize rfl rfl (fun w hw => Size_any sv3.so b3 y3 sv3.sy.1 (stR_b (stR_hd _).tl.tl) (stR_N (stR_hd _).tl.tl) hw) ?_; rintro _ _ ⟨l3, rfl, rfl, bel3⟩))) | (first | (refine J.o 0 ?_; refine J.ev' hΓ ?_) | refine J.nil ?_ | refine J.kd ?_ | (refine J.o 4 ?_; first | refine J.lR hΓ ?_) | (refine J.o 3 ?_; first | refine J.ev' hΓ ?_) | (refine J.o 5 ?_; first | refine J.t0 hΓ ?_) | (refine J.o 6 ?_; refine J.bx (fun _ => ?_)) | (refine J.o 7 ?_; refine J.al hΓ (fun _ => ?_)) | (refine J.o 10 ?_; refine J.ev' hΓ ?_) | (refine J.o 11 ?_; refine J.ev' hΓ ?_)) | ((fail_if_success refine J.wt ?_); refine J.gc rfl rfl (fun hc => ?_) (fun hc => ?_) <;> ((try simp only [decide_eq_true_eq, decide_eq_false_iff_not, beq_iff_eq, beq_eq_false_iff_ne, bne_iff_ne, bne_eq_false_iff_eq, Bool.not_eq_true', Bool.not_eq_false', Bool.not_eq_true, Bool.not_eq_false] at hc) <;> first | (first | (exact absurd rfl hc) | (exfalso; omega) | (exact absurd (hc.symm.trans (by assumption : _ = false)) (by decide)) | (exact absurd (hc.symm.trans (by assumption : _ = true)) (by decide))) | skip)))
    | (first | refine JC.seq ?_ | refine JC.region ?_ | refine JC.ret ?_ | refine JC.skip ?_ | refine thenK.nn ?_ | refine thenK.r ?_ | refine JC.condT rfl ?_ | refine JC.condF rfl ?_ | (refine JC.cond rfl (fun hc => ?_) (fun hc => ?_) <;> ((try simp only [decide_eq_true_eq, decide_eq_false_iff_not, beq_iff_eq, beq_eq_false_iff_ne, bne_iff_ne, bne_eq_false_iff_eq, Bool.not_eq_true', Bool.not_eq_false', Bool.not_eq_true, Bool.not_eq_false] at hc) <;> first | (first | (exact absurd rfl hc) | (exfalso; omega) | (exact absurd (hc.symm.trans (by assumption : _ = false)) (by decide)) | (exact absurd (hc.symm.trans (by assumption : _ = true)) (by decide))) | skip)) | refine drawK.nn ?_)
    | (fail)
    | fail
  all_goals first | (exfalso; omega) | skip
  have hle : l3.length ≤ l1.length := by rw [sv3.size bel3, sv1.size bel1]; exact hz3
  cases bv
  all_goals (
    repeat' first
      | (refine J.isJ ?_; first | (first | (refine J.o 4 ?_; first | refine J.lR hΓ ?_ (hr := Rd.hd) | refine J.lR hΓ ?_ (hr := Rd.hd.tl) | refine J.lR hΓ ?_ (hr := (Rd.app _ (Rd.app _ Rd.hd.tl.tl).tl.tl).tl.tl) | refine J.lR hΓ ?_ (hr := (Rd.app _ (Rd.app _ (Rd.app _ Rd.hd.tl.tl.tl).tl.tl.tl).tl.tl).tl.tl) | refine J.lR hΓ ?_ (hr := (Rd.app _ (Rd.app _ (Rd.app _ Rd.hd.tl.tl.tl.tl).tl.tl.tl).tl.tl).tl.tl.tl)) | (refine J.o 11 ?_; first | refine J.eN hΓ ?_ | (refine J.eA (a := ofS o3) (b := allS n) hΓ ?_; rw [decide_eq_true hof])) | (refine J.fc 19 ?_; first | refine J.call0 eEvalS rfl rfl (fun w hw => cV2 w (stR_of2 (stR_tl (stR_hd _) K3 b3 s3 hO3 hP3).tl.tl hw)) ?_ | refine J.call0 eEvalS rfl rfl (fun w hw => cV3 w (stR_of2 (stR_hd _).tl.tl hw)) ?_) | (refine J.fc 21 ?_; refine J.call1 eOrder rfl rfl (fun w hw => Order_any sv3.so sv3.po b3 w (stR_of2 (stR_hd _).tl.tl hw)) ?_; rintro _ ho ⟨ao, co, rfl, oo⟩) | (refine J.fc 20 ?_; refine J.call0 eOf rfl rfl (fun w hw => of_any ao co o3 ho oo.sl (by omega) w (hw.rdH RdH.hd)) ?_) | (refine J.fc 14 ?_; refine J.call0 eAllV rfl rfl (fun w hw => cA w) ?_) | (refine J.fc 6 ?_; refine J.call0 eWorks31 rfl rfl (fun w hw => works31_any w) ?_)) | (first | (refine J.o 0 ?_; refine J.ev' hΓ ?_) | refine J.nil ?_ | refine J.kd ?_ | (refine J.o 4 ?_; first | refine J.lR hΓ ?_) | (refine J.o 3 ?_; first | refine J.ev' hΓ ?_) | (refine J.o 5 ?_; first | refine J.t0 hΓ ?_) | (refine J.o 6 ?_; refine J.bx (fun _ => ?_)) | (refine J.o 7 ?_; refine J.al hΓ (fun _ => ?_)) | (refine J.o 10 ?_; refine J.ev' hΓ ?_) | (refine J.o 11 ?_; refine J.ev' hΓ ?_)) | ((fail_if_success refine J.wt ?_); refine J.gc rfl rfl (fun hc => ?_) (fun hc => ?_) <;> ((try simp only [decide_eq_true_eq, decide_eq_false_iff_not, beq_iff_eq, beq_eq_false_iff_ne, bne_iff_ne, bne_eq_false_iff_eq, Bool.not_eq_true', Bool.not_eq_false', Bool.not_eq_true, Bool.not_eq_false] at hc) <;> first | (first | (exact absurd rfl hc) | (exfalso; omega) | (exact absurd (hc.symm.trans (by assumption : _ = false)) (by decide)) | (exact absurd (hc.symm.trans (by assumption : _ = true)) (by decide))) | skip)))
      | (first | refine JC.seq ?_ | refine JC.region ?_ | refine JC.ret ?_ | refine JC.skip ?_ | refine thenK.nn ?_ | refine thenK.r ?_ | refine JC.condT rfl ?_ | refine JC.condF rfl ?_ | (refine JC.cond rfl (fun hc => ?_) (fun hc => ?_) <;> ((try simp only [decide_eq_true_eq, decide_eq_false_iff_not, beq_iff_eq, beq_eq_false_iff_ne, bne_iff_ne, bne_eq_false_iff_eq, Bool.not_eq_true', Bool.not_eq_false', Bool.not_eq_true, Bool.not_eq_false] at hc) <;> first | (first | (exact absurd rfl hc) | (exfalso; omega) | (exact absurd (hc.symm.trans (by assumption : _ = false)) (by decide)) | (exact absurd (hc.symm.trans (by assumption : _ = true)) (by decide))) | skip)) | refine drawK.nn ?_)
      | ((refine JC.drawO [(0,0),(0,1),(0,2),(0,3),(0,4),(0,5),(0,6),(0,7),(0,8),(0,9),(0,10),(1,11),(1,12),(0,13),(0,14),(0,15),(1,16),(1,17),(0,18),(0,19),(0,20),(0,21),(0,22),(0,23),(0,24),(0,25),(0,26),(0,27),(1,28),(1,29),(0,30),(0,31),(0,32),(0,33),(0,34),(0,35),(1,36),(1,37),(0,38),(0,39),(0,40),(0,41),(0,42),(0,45),(1,46),(3,43),(1,44),(1,47),(0,48),(0,49),(0,50),(1,51),(0,52),(0,53)] (by decide +kernel) (by decide +kernel) ?_))
      | fail
    all_goals first | (exfalso; omega) | skip
    all_goals (refine ret1f rfl rfl rfl (fun w1 hw => ⟨rfl, hw.below⟩)))
end Go.Proofs.YtbhgahjeocnfcaaGreat
