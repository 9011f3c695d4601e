/- ObddRuns: part 3. -/
import Derived.Test.YthnhijdfcmcnhaaGreatRuB
import Derived.Laws.IdiomCopy
import Derived.Laws.CopyRow
import Derived.Shelf.Strings.Builder1
import Derived.Shelf.Small.Bits
import Derived.Shelf.Small.Wraps
import Derived.Shelf.Strings.BuilderF
import Derived.Shelf.Strings.BuilderK
import Derived.Shelf.Strconv.Itoa0
import Derived.Shelf.Sort.Plain
import Derived.Shelf.Strings.BuilderCap
import Derived.Ground.Names2Prog
import Derived.Shelf.Slices.Clone
import Derived.Shelf.Slices.SearchI
import Derived.Shelf.Slices.In.SortNone
import Derived.Ground.SlgnProg
import Derived.Shelf.SlicesE.Clone
import Derived.Test.YthnhijdfcmcnhaaGreatProg
import Derived.Shelf.SortM.Plain
import Derived.Lib.AppendIntMem
import Derived.Lib.Builder
import Derived.Laws.Externs
namespace Go.Proofs.YthnhijdfcmcnhaaGreat
open Go Go.Cx Go.RowKit
set_option linter.unusedVariables false
set_option linter.unusedSimpArgs false
set_option maxHeartbeats 4000000
attribute [local irreducible] J JC thenK blockK loopK drawK retK QW Qt pel List.set Calls
set_option maxRecDepth 8000
attribute [local irreducible] JE Br eK0 eK3 brK pc
section
variable {P : Program} {n : Nat} {w0 : World} {R : Heap} {l0 : List Oper} {K : Exit → Fr → List Heap → Prop} {f : Fr} {L : List Heap} {rest : List (Nat × Oper)} {κ : Nat} {Γ : List (Nat × TI)}
variable {d : Nat} {ty : TypeId} {pos : String} {aft : Array Edge} {g : Option (Nat × Bool)} {t u : TypeId} {x y : Operand}
theorem ones_W : ∀ l : List Nat, ones (l.flatMap encW) = true
  | [] => rfl
  | x :: l => by rw [List.flatMap_cons]; show ones (Value.int .u32 (x : Int) :: l.flatMap encW) = true; unfold ones; exact ones_W l
theorem J.cpy {a b : Option Addr} {cap cy e e2 m k s1 b1 b2 : Nat} {z1 z2 : Option Value} {de : TypeDesc} {ts us : List Nat} {h hs : Heap} (hΓ : Fits P Γ) (ho : OwT encW 1 e a cap ts h) (oy : OwT encW 1 e2 b cy us hs) (hr : RdH R L hs) (hle : us.length ≤ ts.length)
    (kk : ∀ h', OwT encW 1 e a cap (us ++ ts.drop us.length) h' → J P n w0 R l0 K rest (upd f d (.int .i64 (us.length : Int))) (h' :: L))
    (hg : wantB n f l0 ⟨some d, .call ⟨.builtin .copy, ⟨[x, y]⟩, ⟨[t, u]⟩⟩, ty, pos, aft, g⟩ = true := by exact rfl) (hx : Cx.ev n f x = .slice a m cap := by exact rfl) (hy : Cx.ev n f y = .slice b k cy := by exact rfl)
    (hm : ts.length = m := by omega) (hk : us.length = k := by first | rfl | omega) (ht : Cx.look Γ t = some ⟨.slice e, s1, z1, b1⟩ := by exact rfl) (he : Cx.look Γ e = some ⟨de, 1, z2, b2⟩ := by exact rfl) :
    J P n w0 R l0 K ((2, ⟨some d, .call ⟨.builtin .copy, ⟨[x, y]⟩, ⟨[t, u]⟩⟩, ty, pos, aft, g⟩) :: rest) f (h :: L) := by
  subst hm hk
  have hu := (hΓ t _ ht).1
  obtain ⟨_, ie, hie, hse, _⟩ := hΓ e _ he
  have hs1 : (P.info? e).map (·.size) = some 1 := by rw [hie]; exact congrArg some hse
  have h2 : (⟨[x, y]⟩ : Array Operand).map (Cx.ev n f) = #[.slice a ts.length cap, .slice b us.length cy] := by simp [hx, hy]
  refine J.v (Φ := fun v L' => ∃ h', v = .int .i64 (us.length : Int) ∧ L' = h' :: L ∧ OwT encW 1 e a cap (us ++ ts.drop us.length) h') hg (fun w hw => ?_) (fun v L' ⟨h', e1, e2, e3⟩ => by subst e1; subst e2; exact kk h' e3)
  rcases Nat.eq_zero_or_pos us.length with h0 | hpos
  · have hun : us = [] := List.eq_nil_of_length_eq_zero h0
    have hrun := run_copy_none (P := P) w t u ty e a b ts.length cap us.length cy hu hs1 (by rw [h0]; exact Nat.zero_min _)
    refine ⟨.int .i64 (us.length : Int), _, w, ?_, hw, h, rfl, rfl, by subst hun; exact ho⟩
    simp only [execOp, resolve, h2, Sem.run_bind, Sem.run_pure, Result.andThen_ok, invoke, builtin]
    rw [hrun, h0]
    rfl
  · rcases oy.row with ⟨_, _, hun, _⟩ | ⟨gb, cs, rfl, rfl, hc1, hc2, hc3⟩
    · subst hun; simp at hpos
    rcases ho.row with ⟨_, _, htn, _⟩ | ⟨ga, ds, rfl, rfl, hd1, hd2, hd3⟩
    · subst htn; exact absurd (Nat.lt_of_lt_of_le hpos hle) (by simp)
    rw [Nat.mul_one] at hc1 hc3 hd1 hd3
    have hga : w.heap[ga]? = some (.cells ds.toArray e (0, 0)) := hw.own (ga, _) (by simp)
    have hgb : w.heap[gb]? = some (.cells cs.toArray e2 (0, 0)) := hw.rd ((hr (gb, _) (by simp)).tl)
    have hadd : ∀ j, (⟨gb, 0, none⟩ : Addr).add j = ⟨gb, j, none⟩ := fun j => by unfold Addr.add; split <;> simp_all
    have hlu := flatW us
    have hlt := flatW ts
    have hrun := run_copy_row (P := P) w t u ty e ga 0 ts.length cap ⟨gb, 0, none⟩ us.length cy ds.toArray e (us.flatMap encW) hu hs1 hga (by rw [hlu]; exact (Nat.min_eq_left hle).symm)
      (fun j v hj => by
        rw [hadd, cell_of_row w gb j cs.toArray e2 (0, 0) hgb]
        rw [← hc3, List.getElem?_take] at hj
        split at hj
        · simpa using hj
        · cases hj) (by rw [hlu]; simp only [List.size_toArray, Nat.zero_add]; omega) (ones_ok (ones_W us))
    have hw2 := hw.write (w' := w.setRow ga (ds.toArray.toList.take 0 ++ us.flatMap encW ++ ds.toArray.toList.drop (0 + (us.flatMap encW).length)).toArray) rfl rfl rfl (by simp) (setRow_heap w ga _ _ e _ hga) (fun k hk => setRow_other _ _ _ _ hk)
    refine ⟨.int .i64 (us.length : Int), _, _, ?_, hw2, _, rfl, rfl, ⟨ho.len, .inr ⟨ga, _, rfl, rfl, ?_, ?_, ?_⟩⟩⟩
    · simp only [execOp, resolve, h2, Sem.run_bind, Sem.run_pure, Result.andThen_ok, invoke, builtin]
      rw [hrun, hlu]
      rfl
    · simp only [List.take_zero, List.nil_append, Nat.zero_add, List.length_append, List.length_drop, hlu, Nat.mul_one]
      omega
    · rw [List.length_append, List.length_drop]; omega
    · have e1 : (us ++ ts.drop us.length).length = ts.length := by rw [List.length_append, List.length_drop]; omega
      rw [e1, Nat.mul_one, List.flatMap_append]
      simp only [List.take_zero, List.nil_append, Nat.zero_add, hlu]
      have e2 : ds.take ts.length = ts.flatMap encW := hd3
      have e3 : (ts.flatMap encW).drop us.length = (ts.drop us.length).flatMap encW := by
        conv => lhs; rw [← List.take_append_drop us.length ts, List.flatMap_append]
        rw [List.drop_append_of_le_length (by rw [flatW, List.length_take]; omega), List.drop_of_length_le (by rw [flatW, List.length_take]; omega)]; rfl
      rw [← e3, ← e2, List.take_append, hlu, List.take_of_length_le (by rw [hlu]; exact hle), List.drop_take]
end
theorem eAddN : Entr Tryz.prog 83 := Entr.of Tryz.func83 rfl rfl
theorem add_any2 (a b : Nat) (ha : (bytesN a).length ≤ 1000) (hb : (bytesN b).length ≤ 1000) (w : World) : Calls Tryz.prog 83 #[natV a, natV b] w fun e w' => e = .returned (natV (a + b)) ∧ Below w.heap.size w w' := by
  have lx := wordsB_len (bytesN a)
  have ly := wordsB_len (bytesN b)
  have kx := okW_wordsB (bytesN a)
  have ky := okW_wordsB (bytesN b)
  have vx := valW_wordsB (bytesN a)
  have vy := valW_wordsB (bytesN b)
  rw [valB_bytesN] at vx vy
  have cX := fun w => words_any a (by omega) w
  have cY := fun w => words_any b (by omega) w
  generalize wordsB (bytesN a) = x at lx kx vx cX
  generalize wordsB (bytesN b) = y at ly ky vy cY
  rcases Nat.lt_or_ge x.length y.length with hxy | hxy
  ·
    have hle : x.length ≤ y.length := by omega
    have hst := AddI.start ky kx hle
    have hdr : (List.replicate (y.length + 1) 0).drop x.length = List.replicate (y.length + 1 - x.length) 0 := List.drop_replicate
    refine calls_of_JC (R := []) Tryz.func83 Tryz.ntmps83 rfl rfl (Holds.nil _) ?_
    unfold natV
    repeat' first
      | (refine J.isJ ?_; first | (first | (refine J.o 6 ?_; first | refine J.bx (fun b2 => ?_)) | (refine J.o 7 ?_; refine J.al hΓ (fun b4 => ?_))) | (first | (refine J.o 0 ?_; refine J.ev' hΓ ?_) | refine J.nil ?_ | (refine J.o 4 ?_; first | refine J.lT default hΓ ?_ | refine J.lR hΓ ?_) | (refine J.o 3 ?_; first | refine J.iJ hΓ ?_ | refine J.ev' hΓ ?_) | (refine J.o 1 ?_; first | refine J.ad ?_) | (refine J.o 5 ?_; first | refine J.t0 hΓ ?_ | refine J.tT _ default hΓ (fun _ _ => ?_)) | (refine J.o 6 ?_; refine J.bx (fun _ => ?_)) | (refine J.o 7 ?_; refine J.al hΓ (fun _ => ?_)) | (refine J.o 10 ?_; refine J.ev' hΓ ?_) | (refine J.o 11 ?_; refine J.ev' hΓ ?_)))
      | (first | refine JC.seq ?_ | refine JC.region ?_ | refine JC.block ?_ | refine JC.ret ?_ | refine JC.exit ?_ | refine JC.skip ?_ | refine thenK.nn ?_ | refine thenK.x ?_ | refine blockK.nn ?_ | refine blockK.hit rfl ?_ | (refine JC.cond rfl (fun hc => ?_) (fun hc => ?_) <;> ((try simp only [decide_eq_true_eq, decide_eq_false_iff_not, beq_iff_eq, beq_eq_false_iff_ne, bne_iff_ne, bne_eq_false_iff_eq, Bool.not_eq_true', Bool.not_eq_false', Bool.not_eq_true, Bool.not_eq_false] at hc) <;> first | (first | (exact absurd rfl hc) | (exfalso; omega) | (exact absurd (hc.symm.trans (by assumption : _ = false)) (by decide)) | (exact absurd (hc.symm.trans (by assumption : _ = true)) (by decide))) | skip)) | refine drawK.nn ?_ | refine loopK.x ?_)
      | (fail)
      | fail
    rename_i b3
    refine JC.drawO [(1,0),(1,2),(3,1),(3,3),(0,4),(0,5)] (by kernel_rfl) (by kernel_rfl) ?_
    repeat' first
      | (refine J.isJ ?_; first | (first | (refine J.o 4 ?_; first | refine J.lR hΓ ?_ (hr := Rd.hd.tl.tl) | refine J.lR hΓ ?_ (hr := Rd.hd.tl)) | (refine J.fc 65 ?_; refine J.call1 eWords rfl rfl (fun w hw => cX w) ?_; rintro _ hgx ⟨ax, cx, rfl, ox⟩) | (refine J.fc 65 ?_; refine J.call1 eWords rfl rfl (fun w hw => cY w) ?_; rintro _ hgy ⟨ay, cy, rfl, oy⟩) | (refine J.o 1 ?_; refine J.gadd (b := 1) ?_ (hw := wI64 (by omega))) | (refine J.o 9 ?_; first | refine J.make (enc := encW) (m := y.length + 1) (0 : Nat) hΓ rfl rfl rfl rfl rfl rfl (fun _ => rfl) (by omega) (by omega) (fun b7 h7 o7 => ?_) | refine J.cpy hΓ o7 ox (RdH.hd.tl) (by rw [List.length_replicate]; omega) (fun h8 o8 => ?_) (hm := List.length_replicate))) | (first | (refine J.o 0 ?_; refine J.ev' hΓ ?_) | refine J.nil ?_ | (refine J.o 4 ?_; first | refine J.lT default hΓ ?_ | refine J.lR hΓ ?_) | (refine J.o 3 ?_; first | refine J.iJ hΓ ?_ | refine J.ev' hΓ ?_) | (refine J.o 1 ?_; first | refine J.ad ?_) | (refine J.o 5 ?_; first | refine J.t0 hΓ ?_ | refine J.tT _ default hΓ (fun _ _ => ?_)) | (refine J.o 6 ?_; refine J.bx (fun _ => ?_)) | (refine J.o 7 ?_; refine J.al hΓ (fun _ => ?_)) | (refine J.o 10 ?_; refine J.ev' hΓ ?_) | (refine J.o 11 ?_; refine J.ev' hΓ ?_)))
      | (first | refine JC.seq ?_ | refine JC.region ?_ | refine JC.block ?_ | refine JC.ret ?_ | refine JC.exit ?_ | refine JC.skip ?_ | refine thenK.nn ?_ | refine thenK.x ?_ | refine blockK.nn ?_ | refine blockK.hit rfl ?_ | (refine JC.cond rfl (fun hc => ?_) (fun hc => ?_) <;> ((try simp only [decide_eq_true_eq, decide_eq_false_iff_not, beq_iff_eq, beq_eq_false_iff_ne, bne_iff_ne, bne_eq_false_iff_eq, Bool.not_eq_true', Bool.not_eq_false', Bool.not_eq_true, Bool.not_eq_false] at hc) <;> first | (first | (exact absurd rfl hc) | (exfalso; omega) | (exact absurd (hc.symm.trans (by assumption : _ = false)) (by decide)) | (exact absurd (hc.symm.trans (by assumption : _ = true)) (by decide))) | skip)) | refine drawK.nn ?_ | refine loopK.x ?_)
      | (fail)
      | fail
    all_goals first | (exfalso; omega) | skip
    rw [hdr] at o8
    refine JC.loop (fun i => i == 8 || i == 9 || Nat.ble 30 i) (fun m g L' => ∃ i c o h', g 30 = .int .i64 ((i : Nat) : Int) ∧ i + m = y.length ∧ g 8 = .int .u64 ((c : Nat) : Int) ∧ AddI y x i o c ∧ OwT encW 1 100 (some ⟨b7, 0, none⟩) (y.length + 1) o h' ∧ L' = [h', hgy, hgx, [(b4, Obj.cells ⟨[.string ByteArray.empty]⟩ 57 (0, 0))], [(b2, Obj.cells ⟨[.string (S (bytesN b))]⟩ 57 (0, 0))], [(b3, Obj.cells ⟨[.string (S (bytesN a))]⟩ 57 (0, 0))]]) y.length ⟨0, 0, _, h8, rfl, by omega, rfl, hst, o8, rfl⟩ ?_
    rintro m1 g1 L' ⟨i, c, o, h4, e30, hi, e8, ai, o4, rfl⟩
    refine JC.pin 30 e30 ?_
    refine JC.pin 8 e8 ?_
    have lo := ai.len
    have c1 := ai.c1
    rcases Nat.lt_or_ge i y.length with hlt | hge
    · have b1 : o.getD i 0 < 4294967296 := okW_get ai.ok i
      have b2' : y.getD i 0 < 4294967296 := okW_get ky i
      have hstep := ai.step ky hlt
      repeat' first
        | (refine J.isJ ?_; first | (first | (refine J.o 4 ?_; first | refine J.lT (0 : Nat) hΓ ?_ (hs := oy.sl) (hr := RdH.hd.tl) | refine J.lT (0 : Nat) hΓ ?_ (hs := o4.sl) (hr := RdH.hd)) | (refine J.o 1 ?_; first | refine J.gadd ?_ (hw := wU64 (by omega)) | refine J.gshr (j := 32) ?_) | (refine J.o 2 ?_; first | refine J.gcv hΓ ?_ (hk := wU64 (by omega)) | refine J.gcv hΓ ?_ (hk := wT32 _)) | (refine J.o 5 ?_; refine J.tT (enc := encW) _ default hΓ (fun h5 o5 => ?_))) | (first | (refine J.o 0 ?_; refine J.ev' hΓ ?_) | refine J.nil ?_ | (refine J.o 4 ?_; first | refine J.lT default hΓ ?_ | refine J.lR hΓ ?_) | (refine J.o 3 ?_; first | refine J.iJ hΓ ?_ | refine J.ev' hΓ ?_) | (refine J.o 1 ?_; first | refine J.ad ?_) | (refine J.o 5 ?_; first | refine J.t0 hΓ ?_ | refine J.tT _ default hΓ (fun _ _ => ?_)) | (refine J.o 6 ?_; refine J.bx (fun _ => ?_)) | (refine J.o 7 ?_; refine J.al hΓ (fun _ => ?_)) | (refine J.o 10 ?_; refine J.ev' hΓ ?_) | (refine J.o 11 ?_; refine J.ev' hΓ ?_)))
        | (first | refine JC.seq ?_ | refine JC.region ?_ | refine JC.block ?_ | refine JC.ret ?_ | refine JC.exit ?_ | refine JC.skip ?_ | refine thenK.nn ?_ | refine thenK.x ?_ | refine blockK.nn ?_ | refine blockK.hit rfl ?_ | (refine JC.cond rfl (fun hc => ?_) (fun hc => ?_) <;> ((try simp only [decide_eq_true_eq, decide_eq_false_iff_not, beq_iff_eq, beq_eq_false_iff_ne, bne_iff_ne, bne_eq_false_iff_eq, Bool.not_eq_true', Bool.not_eq_false', Bool.not_eq_true, Bool.not_eq_false] at hc) <;> first | (first | (exact absurd rfl hc) | (exfalso; omega) | (exact absurd (hc.symm.trans (by assumption : _ = false)) (by decide)) | (exact absurd (hc.symm.trans (by assumption : _ = true)) (by decide))) | skip)) | refine drawK.nn ?_ | refine loopK.x ?_)
        | ((refine JC.drawO [(0,0),(0,1),(0,2),(0,3),(1,4),(0,5),(0,6),(0,7),(0,8),(1,9),(0,10),(0,11),(0,12),(0,13)] (by decide +kernel) (by decide +kernel) ?_))
        | fail
      all_goals first | (exfalso; omega) | skip
      refine loopK.nn (m1 - 1) (by omega) (by repeat (first | refine Ag.upd rfl ?_ | exact Ag.hv)) ⟨i + 1, _, _, h5, ?_, by omega, rfl, hstep, o5, rfl⟩
      show Value.int .i64 _ = _; congr 1
    · obtain rfl : i = y.length := by omega
      obtain ⟨hok, hval⟩ := ai.fin hle
      have hval2 : valW (o.set y.length c) = a + b := by rw [hval]; omega
      have hls : (o.set y.length c).length = y.length + 1 := by rw [List.length_set, lo]
      have hik : y.length < o.length := by omega
      repeat' first
        | (refine J.isJ ?_; first | (first | (refine J.o 2 ?_; refine J.gcv hΓ ?_ (hk := wU32 (by omega))) | (refine J.o 5 ?_; first | refine J.tT (enc := encW) _ default hΓ (fun h5 o5 => ?_)) | (refine J.fc 81 ?_; refine J.call0 eFrom rfl rfl (fun w hw => from_len _ _ _ _ o5.sl hok hls (by omega) hval2 w (hw.rdH RdH.hd)) ?_) | (refine J.o 5 ?_; first | (refine J.perm br3 ?_; refine J.t0 hΓ ?_) | (refine J.perm br4 ?_; refine J.t0 hΓ ?_) | (refine J.perm br5 ?_; refine J.t0 hΓ ?_) | (refine J.perm br6 ?_; refine J.t0 hΓ ?_) | (refine J.perm br7 ?_; refine J.t0 hΓ ?_))) | (first | (refine J.o 0 ?_; refine J.ev' hΓ ?_) | refine J.nil ?_ | (refine J.o 4 ?_; first | refine J.lT default hΓ ?_ | refine J.lR hΓ ?_) | (refine J.o 3 ?_; first | refine J.iJ hΓ ?_ | refine J.ev' hΓ ?_) | (refine J.o 1 ?_; first | refine J.ad ?_) | (refine J.o 5 ?_; first | refine J.t0 hΓ ?_ | refine J.tT _ default hΓ (fun _ _ => ?_)) | (refine J.o 6 ?_; refine J.bx (fun _ => ?_)) | (refine J.o 7 ?_; refine J.al hΓ (fun _ => ?_)) | (refine J.o 10 ?_; refine J.ev' hΓ ?_) | (refine J.o 11 ?_; refine J.ev' hΓ ?_)))
        | (first | refine JC.seq ?_ | refine JC.region ?_ | refine JC.block ?_ | refine JC.ret ?_ | refine JC.exit ?_ | refine JC.skip ?_ | refine thenK.nn ?_ | refine thenK.x ?_ | refine blockK.nn ?_ | refine blockK.hit rfl ?_ | (refine JC.cond rfl (fun hc => ?_) (fun hc => ?_) <;> ((try simp only [decide_eq_true_eq, decide_eq_false_iff_not, beq_iff_eq, beq_eq_false_iff_ne, bne_iff_ne, bne_eq_false_iff_eq, Bool.not_eq_true', Bool.not_eq_false', Bool.not_eq_true, Bool.not_eq_false] at hc) <;> first | (first | (exact absurd rfl hc) | (exfalso; omega) | (exact absurd (hc.symm.trans (by assumption : _ = false)) (by decide)) | (exact absurd (hc.symm.trans (by assumption : _ = true)) (by decide))) | skip)) | refine drawK.nn ?_ | refine loopK.x ?_)
        | (fail)
        | fail
      all_goals first | (exfalso; omega) | skip
      exact retC hΓ rfl rfl rfl (by first | exact Rd.hd | exact Rd.hd.tl | exact Rd.hd.tl.tl | exact Rd.hd.tl.tl.tl) rfl (fun w1 hw => ⟨rfl, hw.below⟩)
  ·
    have hle : y.length ≤ x.length := by omega
    have hst := AddI.start kx ky hle
    have hdr : (List.replicate (x.length + 1) 0).drop y.length = List.replicate (x.length + 1 - y.length) 0 := List.drop_replicate
    refine calls_of_JC (R := []) Tryz.func83 Tryz.ntmps83 rfl rfl (Holds.nil _) ?_
    unfold natV
    repeat' first
      | (refine J.isJ ?_; first | (first | (refine J.o 6 ?_; first | refine J.bx (fun b2 => ?_)) | (refine J.o 7 ?_; refine J.al hΓ (fun b4 => ?_))) | (first | (refine J.o 0 ?_; refine J.ev' hΓ ?_) | refine J.nil ?_ | (refine J.o 4 ?_; first | refine J.lT default hΓ ?_ | refine J.lR hΓ ?_) | (refine J.o 3 ?_; first | refine J.iJ hΓ ?_ | refine J.ev' hΓ ?_) | (refine J.o 1 ?_; first | refine J.ad ?_) | (refine J.o 5 ?_; first | refine J.t0 hΓ ?_ | refine J.tT _ default hΓ (fun _ _ => ?_)) | (refine J.o 6 ?_; refine J.bx (fun _ => ?_)) | (refine J.o 7 ?_; refine J.al hΓ (fun _ => ?_)) | (refine J.o 10 ?_; refine J.ev' hΓ ?_) | (refine J.o 11 ?_; refine J.ev' hΓ ?_)))
      | (first | refine JC.seq ?_ | refine JC.region ?_ | refine JC.block ?_ | refine JC.ret ?_ | refine JC.exit ?_ | refine JC.skip ?_ | refine thenK.nn ?_ | refine thenK.x ?_ | refine blockK.nn ?_ | refine blockK.hit rfl ?_ | (refine JC.cond rfl (fun hc => ?_) (fun hc => ?_) <;> ((try simp only [decide_eq_true_eq, decide_eq_false_iff_not, beq_iff_eq, beq_eq_false_iff_ne, bne_iff_ne, bne_eq_false_iff_eq, Bool.not_eq_true', Bool.not_eq_false', Bool.not_eq_true, Bool.not_eq_false] at hc) <;> first | (first | (exact absurd rfl hc) | (exfalso; omega) | (exact absurd (hc.symm.trans (by assumption : _ = false)) (by decide)) | (exact absurd (hc.symm.trans (by assumption : _ = true)) (by decide))) | skip)) | refine drawK.nn ?_ | refine loopK.x ?_)
      | (fail)
      | fail
    rename_i b3
    refine JC.drawO [(1,0),(1,2),(3,1),(3,3),(0,4),(0,5)] (by kernel_rfl) (by kernel_rfl) ?_
    repeat' first
      | (refine J.isJ ?_; first | (first | (refine J.o 4 ?_; first | refine J.lR hΓ ?_ (hr := Rd.hd.tl.tl) | refine J.lR hΓ ?_ (hr := Rd.hd.tl)) | (refine J.fc 65 ?_; refine J.call1 eWords rfl rfl (fun w hw => cX w) ?_; rintro _ hgx ⟨ax, cx, rfl, ox⟩) | (refine J.fc 65 ?_; refine J.call1 eWords rfl rfl (fun w hw => cY w) ?_; rintro _ hgy ⟨ay, cy, rfl, oy⟩) | (refine J.o 1 ?_; refine J.gadd (b := 1) ?_ (hw := wI64 (by omega))) | (refine J.o 9 ?_; first | refine J.make (enc := encW) (m := x.length + 1) (0 : Nat) hΓ rfl rfl rfl rfl rfl rfl (fun _ => rfl) (by omega) (by omega) (fun b7 h7 o7 => ?_) | refine J.cpy hΓ o7 oy (RdH.hd) (by rw [List.length_replicate]; omega) (fun h8 o8 => ?_) (hm := List.length_replicate))) | (first | (refine J.o 0 ?_; refine J.ev' hΓ ?_) | refine J.nil ?_ | (refine J.o 4 ?_; first | refine J.lT default hΓ ?_ | refine J.lR hΓ ?_) | (refine J.o 3 ?_; first | refine J.iJ hΓ ?_ | refine J.ev' hΓ ?_) | (refine J.o 1 ?_; first | refine J.ad ?_) | (refine J.o 5 ?_; first | refine J.t0 hΓ ?_ | refine J.tT _ default hΓ (fun _ _ => ?_)) | (refine J.o 6 ?_; refine J.bx (fun _ => ?_)) | (refine J.o 7 ?_; refine J.al hΓ (fun _ => ?_)) | (refine J.o 10 ?_; refine J.ev' hΓ ?_) | (refine J.o 11 ?_; refine J.ev' hΓ ?_)))
      | (first | refine JC.seq ?_ | refine JC.region ?_ | refine JC.block ?_ | refine JC.ret ?_ | refine JC.exit ?_ | refine JC.skip ?_ | refine thenK.nn ?_ | refine thenK.x ?_ | refine blockK.nn ?_ | refine blockK.hit rfl ?_ | (refine JC.cond rfl (fun hc => ?_) (fun hc => ?_) <;> ((try simp only [decide_eq_true_eq, decide_eq_false_iff_not, beq_iff_eq, beq_eq_false_iff_ne, bne_iff_ne, bne_eq_false_iff_eq, Bool.not_eq_true', Bool.not_eq_false', Bool.not_eq_true, Bool.not_eq_false] at hc) <;> first | (first | (exact absurd rfl hc) | (exfalso; omega) | (exact absurd (hc.symm.trans (by assumption : _ = false)) (by decide)) | (exact absurd (hc.symm.trans (by assumption : _ = true)) (by decide))) | skip)) | refine drawK.nn ?_ | refine loopK.x ?_)
      | (fail)
      | fail
    all_goals first | (exfalso; omega) | skip
    rw [hdr] at o8
    refine JC.loop (fun i => i == 8 || i == 9 || Nat.ble 30 i) (fun m g L' => ∃ i c o h', g 30 = .int .i64 ((i : Nat) : Int) ∧ i + m = x.length ∧ g 8 = .int .u64 ((c : Nat) : Int) ∧ AddI x y i o c ∧ OwT encW 1 100 (some ⟨b7, 0, none⟩) (x.length + 1) o h' ∧ L' = [h', hgy, hgx, [(b4, Obj.cells ⟨[.string ByteArray.empty]⟩ 57 (0, 0))], [(b2, Obj.cells ⟨[.string (S (bytesN b))]⟩ 57 (0, 0))], [(b3, Obj.cells ⟨[.string (S (bytesN a))]⟩ 57 (0, 0))]]) x.length ⟨0, 0, _, h8, rfl, by omega, rfl, hst, o8, rfl⟩ ?_
    rintro m1 g1 L' ⟨i, c, o, h4, e30, hi, e8, ai, o4, rfl⟩
    refine JC.pin 30 e30 ?_
    refine JC.pin 8 e8 ?_
    have lo := ai.len
    have c1 := ai.c1
    rcases Nat.lt_or_ge i x.length with hlt | hge
    · have b1 : o.getD i 0 < 4294967296 := okW_get ai.ok i
      have b2' : x.getD i 0 < 4294967296 := okW_get kx i
      have hstep := ai.step kx hlt
      repeat' first
        | (refine J.isJ ?_; first | (first | (refine J.o 4 ?_; first | refine J.lT (0 : Nat) hΓ ?_ (hs := ox.sl) (hr := RdH.hd.tl.tl) | refine J.lT (0 : Nat) hΓ ?_ (hs := o4.sl) (hr := RdH.hd)) | (refine J.o 1 ?_; first | refine J.gadd ?_ (hw := wU64 (by omega)) | refine J.gshr (j := 32) ?_) | (refine J.o 2 ?_; first | refine J.gcv hΓ ?_ (hk := wU64 (by omega)) | refine J.gcv hΓ ?_ (hk := wT32 _)) | (refine J.o 5 ?_; refine J.tT (enc := encW) _ default hΓ (fun h5 o5 => ?_))) | (first | (refine J.o 0 ?_; refine J.ev' hΓ ?_) | refine J.nil ?_ | (refine J.o 4 ?_; first | refine J.lT default hΓ ?_ | refine J.lR hΓ ?_) | (refine J.o 3 ?_; first | refine J.iJ hΓ ?_ | refine J.ev' hΓ ?_) | (refine J.o 1 ?_; first | refine J.ad ?_) | (refine J.o 5 ?_; first | refine J.t0 hΓ ?_ | refine J.tT _ default hΓ (fun _ _ => ?_)) | (refine J.o 6 ?_; refine J.bx (fun _ => ?_)) | (refine J.o 7 ?_; refine J.al hΓ (fun _ => ?_)) | (refine J.o 10 ?_; refine J.ev' hΓ ?_) | (refine J.o 11 ?_; refine J.ev' hΓ ?_)))
        | (first | refine JC.seq ?_ | refine JC.region ?_ | refine JC.block ?_ | refine JC.ret ?_ | refine JC.exit ?_ | refine JC.skip ?_ | refine thenK.nn ?_ | refine thenK.x ?_ | refine blockK.nn ?_ | refine blockK.hit rfl ?_ | (refine JC.cond rfl (fun hc => ?_) (fun hc => ?_) <;> ((try simp only [decide_eq_true_eq, decide_eq_false_iff_not, beq_iff_eq, beq_eq_false_iff_ne, bne_iff_ne, bne_eq_false_iff_eq, Bool.not_eq_true', Bool.not_eq_false', Bool.not_eq_true, Bool.not_eq_false] at hc) <;> first | (first | (exact absurd rfl hc) | (exfalso; omega) | (exact absurd (hc.symm.trans (by assumption : _ = false)) (by decide)) | (exact absurd (hc.symm.trans (by assumption : _ = true)) (by decide))) | skip)) | refine drawK.nn ?_ | refine loopK.x ?_)
        | ((refine JC.drawO [(0,0),(0,1),(0,2),(0,3),(1,4),(0,5),(0,6),(0,7),(0,8),(1,9),(0,10),(0,11),(0,12),(0,13)] (by decide +kernel) (by decide +kernel) ?_))
        | fail
      all_goals first | (exfalso; omega) | skip
      refine loopK.nn (m1 - 1) (by omega) (by repeat (first | refine Ag.upd rfl ?_ | exact Ag.hv)) ⟨i + 1, _, _, h5, ?_, by omega, rfl, hstep, o5, rfl⟩
      show Value.int .i64 _ = _; congr 1
    · obtain rfl : i = x.length := by omega
      obtain ⟨hok, hval⟩ := ai.fin hle
      have hval2 : valW (o.set x.length c) = a + b := by rw [hval]; omega
      have hls : (o.set x.length c).length = x.length + 1 := by rw [List.length_set, lo]
      have hik : x.length < o.length := by omega
      repeat' first
        | (refine J.isJ ?_; first | (first | (refine J.o 2 ?_; refine J.gcv hΓ ?_ (hk := wU32 (by omega))) | (refine J.o 5 ?_; first | refine J.tT (enc := encW) _ default hΓ (fun h5 o5 => ?_)) | (refine J.fc 81 ?_; refine J.call0 eFrom rfl rfl (fun w hw => from_len _ _ _ _ o5.sl hok hls (by omega) hval2 w (hw.rdH RdH.hd)) ?_) | (refine J.o 5 ?_; first | (refine J.perm br3 ?_; refine J.t0 hΓ ?_) | (refine J.perm br4 ?_; refine J.t0 hΓ ?_) | (refine J.perm br5 ?_; refine J.t0 hΓ ?_) | (refine J.perm br6 ?_; refine J.t0 hΓ ?_) | (refine J.perm br7 ?_; refine J.t0 hΓ ?_))) | (first | (refine J.o 0 ?_; refine J.ev' hΓ ?_) | refine J.nil ?_ | (refine J.o 4 ?_; first | refine J.lT default hΓ ?_ | refine J.lR hΓ ?_) | (refine J.o 3 ?_; first | refine J.iJ hΓ ?_ | refine J.ev' hΓ ?_) | (refine J.o 1 ?_; first | refine J.ad ?_) | (refine J.o 5 ?_; first | refine J.t0 hΓ ?_ | refine J.tT _ default hΓ (fun _ _ => ?_)) | (refine J.o 6 ?_; refine J.bx (fun _ => ?_)) | (refine J.o 7 ?_; refine J.al hΓ (fun _ => ?_)) | (refine J.o 10 ?_; refine J.ev' hΓ ?_) | (refine J.o 11 ?_; refine J.ev' hΓ ?_)))
        | (first | refine JC.seq ?_ | refine JC.region ?_ | refine JC.block ?_ | refine JC.ret ?_ | refine JC.exit ?_ | refine JC.skip ?_ | refine thenK.nn ?_ | refine thenK.x ?_ | refine blockK.nn ?_ | refine blockK.hit rfl ?_ | (refine JC.cond rfl (fun hc => ?_) (fun hc => ?_) <;> ((try simp only [decide_eq_true_eq, decide_eq_false_iff_not, beq_iff_eq, beq_eq_false_iff_ne, bne_iff_ne, bne_eq_false_iff_eq, Bool.not_eq_true', Bool.not_eq_false', Bool.not_eq_true, Bool.not_eq_false] at hc) <;> first | (first | (exact absurd rfl hc) | (exfalso; omega) | (exact absurd (hc.symm.trans (by assumption : _ = false)) (by decide)) | (exact absurd (hc.symm.trans (by assumption : _ = true)) (by decide))) | skip)) | refine drawK.nn ?_ | refine loopK.x ?_)
        | (fail)
        | fail
      all_goals first | (exfalso; omega) | skip
      exact retC hΓ rfl rfl rfl (by first | exact Rd.hd | exact Rd.hd.tl | exact Rd.hd.tl.tl | exact Rd.hd.tl.tl.tl) rfl (fun w1 hw => ⟨rfl, hw.below⟩)
end Go.Proofs.YthnhijdfcmcnhaaGreat
namespace Go.Proofs.YthnhijdfcmcnhaaGreat
open Go Go.Cx Go.RowKit
set_option linter.unusedVariables false
set_option linter.unusedSimpArgs false
set_option maxHeartbeats 4000000
attribute [local irreducible] J JC thenK blockK loopK drawK retK QW Qt pel List.set Calls
open Go.Maps
set_option maxRecDepth 8000
attribute [local irreducible] JE Br eK0 eK3 brK
def JQ (P : Program) (n : Nat) (w0 : World) (R : Heap) (c : Code) (Q : Exit → Act → World → Prop) (f : Fr) (L : List Heap) : Prop := ∀ a w, Rep n f a → H w0 R L w → c.wp P Q a w
def qK (P : Program) (n : Nat) (w0 : World) (R : Heap) (y : Code) (Q : Exit → Act → World → Prop) : Exit → Fr → List Heap → Prop
  | .normal, f, L => JQ P n w0 R y Q f L
  | _, _, _ => False
section
variable {P : Program} {n : Nat} {w0 : World} {R : Heap} {f : Fr} {L : List Heap} {x y : Code} {Q : Exit → Act → World → Prop} {Γ : List (Nat × TI)}
theorem qK.nn (h : JQ P n w0 R y Q f L) : qK P n w0 R y Q .normal f L := h
theorem JQ.seq (h : JC P n w0 R x (qK P n w0 R y Q) f L) : JQ P n w0 R (.seq x y) Q f L := fun a w ha hw => by
  unfold JC at h
  refine wp_seq (wp_mono (h a w ha hw) ?_)
  intro e a' w' q
  unfold QW at q
  cases e <;> first | (obtain ⟨f', L', ha', hw', hk⟩ := q; first | exact hk a' w' ha' hw' | exact hk.elim) | exact q.elim
theorem calls_JQ {fid : FuncId} {fn : Func} {c : Code} {n : Nat} {args : List Value} {w w0 : World} {R : Heap} {L : List Heap} {Post : Ending → World → Prop}
    (hf : P.funcs[fid]? = some fn) (hn : fn.ntmps = n) (hb : fn.body = some c) (hsz : Nat.ble args.length n = true) (hH : H w0 R L w) (h : JQ P n w0 R c (bodyPostD P fn Post) (fr0 args) L) : Calls P fid args.toArray w Post := by
  refine calls_of_wp_defers hf hb ?_
  rw [hn]
  exact h _ w (fr0_rep (Nat.le_of_ble_eq_true hsz)) hH
def RepD (D : List Deferred) (n : Nat) (f : Fr) (a : Act) : Prop := Rep n f { a with defers := [] } ∧ a.defers = D
theorem RepD.of {a : Act} (h : Rep n f a) : RepD [] n f a := ⟨⟨h.1, rfl, h.2.2⟩, h.2.1⟩
theorem RepD.eval {D : List Deferred} {a : Act} (h : RepD D n f a) : a.eval = Cx.ev n f := by
  rw [← h.1.eval]
  funext o; cases o <;> rfl
theorem RepD.put {D : List Deferred} {a : Act} (h : RepD D n f a) (d : Option Tmp) (v : Value) : RepD D n (updO f d v) (a.put d v) := by
  have h1 := h.1.put d v
  cases d with
  | none => exact ⟨h1, h.2⟩
  | some d => exact ⟨h1, h.2⟩
theorem RepD.wanted {D : List Deferred} {a : Act} (h : RepD D n f a) (l : List Oper) (o : Oper) : Region.wanted o (yielded l.toArray a.tmps) = wantB n f l o := h.1.wanted l o
theorem dl_step {D : List Deferred} {ops : List Oper} {l : List Oper} {o : Oper} {a : Act} {w w' : World} {v : Value} (ha : RepD D n f a) (hg : wantB n f ops o = true) (hr : (execOp (Cx.ev n f) o).run P w = .ok (.value v) w')
    (k : ∀ a', RepD D n (updO f o.dst v) a' → wpList P ops.toArray Q l a' w') : wpList P ops.toArray Q (o :: l) a w := by
  unfold wpList
  rw [if_pos (by rw [ha.wanted, hg])]
  refine .inl ?_
  unfold Oper.wp
  rw [ha.eval, hr]
  exact k _ (ha.put _ _)
theorem dl_call {D : List Deferred} {ops : List Oper} {l : List Oper} {o : Oper} {a : Act} {w : World} {fid : FuncId} {args : Array Value} {Φ : Value → List Heap → Prop} (ha : RepD D n f a) (hg : wantB n f ops o = true) (hr : (execOp (Cx.ev n f) o).run P w = .ok (.enter fid args) w)
    (hc : Calls P fid args w fun e w' => ∃ v L', e = .returned v ∧ H w0 R L' w' ∧ Φ v L') (k : ∀ v L' a' w', Φ v L' → H w0 R L' w' → RepD D n (updO f o.dst v) a' → wpList P ops.toArray Q l a' w') : wpList P ops.toArray Q (o :: l) a w := by
  unfold wpList
  rw [if_pos (by rw [ha.wanted, hg])]
  refine .inl ?_
  unfold Oper.wp
  rw [ha.eval, hr]
  refine hc.mono ?_
  rintro e w' ⟨v, L', rfl, hw', hP⟩
  exact k v L' _ w' hP hw' (ha.put _ _)
theorem dl_defer {D : List Deferred} {ops : List Oper} {l : List Oper} {o : Oper} {a : Act} {w : World} {d : Deferred} (ha : RepD D n f a) (hg : wantB n f ops o = true) (hr : (execOp (Cx.ev n f) o).run P w = .ok (.defer d) w)
    (k : ∀ a', RepD (d :: D) n (updO f o.dst undef) a' → wpList P ops.toArray Q l a' w) : wpList P ops.toArray Q (o :: l) a w := by
  unfold wpList
  rw [if_pos (by rw [ha.wanted, hg])]
  refine .inl ?_
  unfold Oper.wp
  rw [ha.eval, hr]
  refine k _ (RepD.put ⟨h_def ha, by rw [ha.2]⟩ _ _)
where h_def {D : List Deferred} {a : Act} {d : Deferred} (ha : RepD D n f a) : Rep n f { ({ a with defers := d :: a.defers } : Act) with defers := [] } := ha.1
theorem dl_st {D : List Deferred} {ops : List Oper} {l : List Oper} {a : Act} {w : World} {t : TypeId} {ti : TI} {x y : Operand} {b off : Nat} {cs cl cs' : List Value} {e : TypeId} {ty : TypeId} {pos : String} {aft : Array Edge} {g : Option (Nat × Bool)} (hΓ : Fits P Γ) (ha : RepD D n f a) (hg : wantB n f ops ⟨none, .store t x y, ty, pos, aft, g⟩ = true)
    (hp : Cx.ev n f x = .pointer (some ⟨b, off, none⟩)) (ht : Cx.look Γ t = some ti) (hv : vcells (Cx.ev n f y) = some cl) (hn : Nat.beq cl.length ti.size = true) (h1 : ones cl = true) (hcs : putE cs off cl = some cs') (hw : H w0 R ([(b, .cells ⟨cs⟩ e (0, 0))] :: L) w)
    (k : ∀ a' w', RepD D n f a' → H w0 R ([(b, .cells ⟨cs'⟩ e (0, 0))] :: L) w' → wpList P ops.toArray Q l a' w') : wpList P ops.toArray Q (⟨none, .store t x y, ty, pos, aft, g⟩ :: l) a w := by
  unfold putE at hcs
  cases hle : Nat.ble (off + cl.length) cs.length with
  | false => rw [hle] at hcs; cases hcs
  | true =>
    rw [hle] at hcs
    simp only [cond_true, forceL_eq, Option.some.injEq] at hcs
    obtain ⟨w', hr, hw'⟩ := store_ok hΓ ht hv hn h1 (Nat.le_of_ble_eq_true hle) hcs hw
    have hx : (execOp (Cx.ev n f) ⟨none, .store t x y, ty, pos, aft, g⟩).run P w = .ok .skip w' := by simp only [execOp, hp, Sem.run_bind]; rw [hr]; rfl
    unfold wpList
    rw [if_pos (by rw [ha.wanted, hg])]
    refine .inl ?_
    unfold Oper.wp
    rw [ha.eval, hx]
    exact k _ _ (ha.put none undef) hw'
theorem resCC {fn : Func} {t u ty uy b c : Nat} {cs ds : List Value} {e e2 : TypeId} {fr fr2 : Nat × Nat} {v x : Value} {D : List Deferred} {a : Act} {w : World} (hΓ : Fits P Γ) (hr : fn.results = #[.cell t ty, .cell u uy]) (ha : RepD D n f a) (hw : H w0 R L w) (ht : Nat.blt t n = true) (hu : Nat.blt u n = true) (hv : f t = .pointer (some ⟨b, 0, none⟩)) (hx : f u = .pointer (some ⟨c, 0, none⟩))
    (hb : Rd R L b (.cells ⟨cs⟩ e fr)) (hc : Rd R L c (.cells ⟨ds⟩ e2 fr2)) (hl : ldEv Γ ty cs 0 = some v) (hm : ldEv Γ uy ds 0 = some x) : (results fn a.tmps).run P w = .ok (.tuple #[v, x]) w := by
  have h1 := ldEv_ok (P := P) hΓ (hw.rd hb) hl
  have g1 := ldEv_ok (P := P) hΓ (hw.rd hc) hm
  unfold Instr.loadAt Instr.sureAddr at h1 g1
  simp only [Sem.run_bind, Sem.run_pure, Result.andThen_ok] at h1 g1
  have h2 := ha.1.getD ht
  rw [hv] at h2
  have h3 : a.tmps[t]?.getD undef = .pointer (some ⟨b, 0, none⟩) := by rw [← h2]; simp [Array.getD_eq_getD_getElem?]
  have h4 := ha.1.getD hu
  rw [hx] at h4
  have h5 : a.tmps[u]?.getD undef = .pointer (some ⟨c, 0, none⟩) := by rw [← h4]; simp [Array.getD_eq_getD_getElem?]
  simp only [results, hr]
  simp [h3, h5, asAddr, Sem.run_bind]
  rw [h1]
  simp only [Result.andThen_ok]
  rw [g1]
  rfl
theorem defer_run {x : Operand} {fv : Fn} {cp : List Value} {ty : TypeId} {pos : String} {aft : Array Edge} {g : Option (Nat × Bool)} (hx : Cx.ev n f x = .func fv ⟨[]⟩ ⟨cp⟩) (w : World) :
    (execOp (Cx.ev n f) ⟨none, .defer ⟨.value x, ⟨[]⟩, ⟨[]⟩⟩, ty, pos, aft, g⟩).run P w = .ok (.defer ⟨.fn fv ⟨cp⟩, ⟨[]⟩⟩) w := by
  have h1 : (⟨[]⟩ : Array Operand).map (Cx.ev n f) = ⟨[]⟩ := by simp
  simp only [execOp, resolve, h1, hx, Deferred.ofValue, Sem.run_bind, Sem.run_pure, Result.andThen_ok]
  rfl
theorem mf_run {fn : Fn} {cs : List Operand} {vs : List Value} {d : Nat} {ty : TypeId} {pos : String} {aft : Array Edge} {g : Option (Nat × Bool)} (hΓ : Fits P Γ) (hv : cs.map (Cx.ev n f) = vs) (w : World) :
    (execOp (Cx.ev n f) ⟨some d, .makeFunc fn ⟨[]⟩ ⟨cs⟩, ty, pos, aft, g⟩).run P w = .ok (.value (.func fn ⟨[]⟩ ⟨vs⟩)) w := pure_ok hΓ (by subst hv; simp [pureEv]) w
end
theorem eTry : Entr Tryz.prog 45 := Entr.of Tryz.func45 rfl rfl
theorem tryC_idle (p1 p2 p3 p4 : Addr) (w : World) : CallsD Tryz.prog 77 #[.pointer (some p1), .pointer (some p2), .pointer (some p3), .pointer (some p4)] .returning w fun e u' w' => e = .returned (.tuple #[]) ∧ u' = .returning ∧ w' = w := by
  refine callsD_of_wpS Tryz.func77 rfl fun c₀ cs hu => ?_
  apply wpS_seq
  apply wpS_region
  simp [wpOpsS, go_sem, recoverD, hu, Tryz.ntmps77, Exit.thenS]
  apply wpS_seq
  apply wpS_region
  simp [wpOpsS, go_sem, Exit.thenS]
  refine wpS_cond (t := false) (by simp [Act.eval, Array.replicate]) ?_
  simp only [Bool.false_eq_true, if_false]
  refine wpS_of_wp (wp_skip ?_)
  cases c₀
  simp_all [bodyPostS, results, Tryz.results77]
theorem try_any {n : Nat} {K : KS} {s : SS} (so : SOk n K s) {Q : SS → Nat → Prop} {fid : FuncId} {caps : List Value} (he : Entr Tryz.prog fid) {w0 w : World} {R : Heap} {L : List Heap} {b : Nat} (l : List Int) (a : Option Addr) (c : Nat) (h : Heap) (hs : SlT encI 1 a l h) (hl : l.length ≤ 1000) (hrl : RdH R L h) (hin : chkP s.ns.length l = true)
    (hf : ∀ (Lx : List Heap) (w : World), H w0 R (sF K b s ++ (Lx ++ L)) w → Calls Tryz.prog fid ⟨caps⟩ w fun e w' => ∃ v L', e = .returned v ∧ H w0 R L' w' ∧ ∃ s' y, v = .int .i64 ((y : Nat) : Int) ∧ L' = sF K b s' ++ (Lx ++ L) ∧ Q s' y)
    (hw : H w0 R (sF K b s ++ L) w) :
    Calls Tryz.prog 45 #[.pointer (some ⟨b, 0, none⟩), .func (.func fid) ⟨[]⟩ ⟨caps⟩, .slice a l.length c] w fun e w' => ∃ v L', e = .returned v ∧ H w0 R L' w' ∧ ∃ s' y, v = .tuple #[.int .i64 ((y : Nat) : Int), .int .i64 0] ∧ L' = sF K b s' ++ L ∧ Q s' y := by
  have two := so.wf.two
  have cChk : ∀ L1 w, H w0 R (sF K b s ++ L1) w → RdH R L1 h → Calls Tryz.prog 44 #[.pointer (some ⟨b, 0, none⟩), .slice a l.length c] w fun e w' => e = .returned (.int .i64 0) ∧ Below w.heap.size w w' := fun L1 w hw hr => by
    have := check_any K b s.an s.cn s.ns.length two ((b, stO K s.an s.ns.length s.cn) :: h) List.mem_cons_self l a c (hs.sub fun y hy => List.mem_cons_of_mem _ hy) hl w (holds2 (hw.rd Rd.hd) (hw.rdH hr.tl.tl.tl.tl))
    rw [hin, if_pos rfl] at this
    exact this
  unfold sF at hw
  simp only [List.cons_append, List.nil_append] at hw
  refine calls_JQ Tryz.func45 Tryz.ntmps45 rfl rfl hw ?_
  refine JQ.seq ?_
  repeat' first
    | (refine J.isJ ?_; first | (first | (refine J.o 6 ?_; refine J.bx (fun b3 => ?_)) | (refine J.o 7 ?_; refine J.al hΓ (fun b6 => ?_))) | (first | (refine J.o 0 ?_; refine J.ev' hΓ ?_) | refine J.nil ?_ | (refine J.o 4 ?_; first | refine J.lR hΓ ?_) | (refine J.o 3 ?_; first | refine J.ev' hΓ ?_) | (refine J.o 5 ?_; first | refine J.t0 hΓ ?_) | (refine J.o 6 ?_; refine J.bx (fun _ => ?_)) | (refine J.o 7 ?_; refine J.al hΓ (fun _ => ?_)) | (refine J.o 10 ?_; refine J.ev' hΓ ?_) | (refine J.o 11 ?_; refine J.ev' hΓ ?_)))
    | (first | refine JC.seq ?_ | refine JC.region ?_ | refine JC.skip ?_ | refine thenK.nn ?_ | refine JC.condF rfl ?_)
    | (fail)
    | fail
  rename_i b5
  refine qK.nn ?_
  refine JQ.seq ?_
  repeat' first
    | (refine J.isJ ?_; first | (first | (refine J.fc 44 ?_; refine J.call0 eCheck rfl rfl (fun w hw => cChk _ w (H.sel (l := [_, _, _, _, _, _, _]) (M := L) hw [3, 4, 5, 6, 0, 1, 2]) hrl.tl.tl.tl) ?_)) | (first | (refine J.o 0 ?_; refine J.ev' hΓ ?_) | refine J.nil ?_ | (refine J.o 4 ?_; first | refine J.lR hΓ ?_) | (refine J.o 3 ?_; first | refine J.ev' hΓ ?_) | (refine J.o 5 ?_; first | refine J.t0 hΓ ?_) | (refine J.o 6 ?_; refine J.bx (fun _ => ?_)) | (refine J.o 7 ?_; refine J.al hΓ (fun _ => ?_)) | (refine J.o 10 ?_; refine J.ev' hΓ ?_) | (refine J.o 11 ?_; refine J.ev' hΓ ?_)))
    | (first | refine JC.seq ?_ | refine JC.region ?_ | refine JC.skip ?_ | refine thenK.nn ?_ | refine JC.condF rfl ?_)
    | (fail)
    | fail
  all_goals first | (exfalso; omega) | skip
  refine qK.nn ?_
  unfold stO
  refine JQ.seq ?_
  repeat' first
    | (refine J.isJ ?_; first | (first | (refine J.o 7 ?_; refine J.al hΓ (fun b9 => ?_)) | (refine J.o 4 ?_; first | refine J.e3 hΓ ?_)) | (first | (refine J.o 0 ?_; refine J.ev' hΓ ?_) | refine J.nil ?_ | (refine J.o 4 ?_; first | refine J.lR hΓ ?_) | (refine J.o 3 ?_; first | refine J.ev' hΓ ?_) | (refine J.o 5 ?_; first | refine J.t0 hΓ ?_) | (refine J.o 6 ?_; refine J.bx (fun _ => ?_)) | (refine J.o 7 ?_; refine J.al hΓ (fun _ => ?_)) | (refine J.o 10 ?_; refine J.ev' hΓ ?_) | (refine J.o 11 ?_; refine J.ev' hΓ ?_)))
    | (first | refine JC.seq ?_ | refine JC.region ?_ | refine JC.skip ?_ | refine thenK.nn ?_ | refine JC.condF rfl ?_)
    | (fail)
    | fail
  refine qK.nn ?_
  intro a1 w1 ha1 hw1
  refine wp_seq (wp_region_lit ?_)
  refine dl_step (RepD.of ha1) rfl (v := .func (.func 77) ⟨[]⟩ ⟨[.pointer (some ⟨b3, 0, none⟩), .pointer (some ⟨b9, 0, none⟩), .pointer (some ⟨b5, 0, none⟩), (.pointer (some ⟨b6, 0, none⟩))]⟩) (mf_run hΓ rfl w1) fun a2 hd2 => ?_
  refine dl_defer hd2 rfl (defer_run rfl w1) fun a3 hd3 => ?_
  unfold wpList
  refine wp_seq (wp_region_lit ?_)
  refine dl_step hd3 rfl (v := .func (.func fid) ⟨[]⟩ ⟨caps⟩) (pure_ok hΓ rfl w1) fun a4 hd4 => ?_
  refine dl_call (args := ⟨caps⟩) (Φ := fun v L' => ∃ s' y, v = .int .i64 ((y : Nat) : Int) ∧ L' = sF K b s' ++ ([(b9, Obj.cells ⟨[.int .i64 (s.ns.length : Int)]⟩ 3 (0, 0))] :: [(b6, Obj.cells ⟨[.int .i64 0]⟩ 38 (0, 0))] :: [(b5, Obj.cells ⟨[.int .i64 0]⟩ 3 (0, 0))] :: [(b3, ptrS b)] :: L) ∧ Q s' y) hd4 rfl (callv_run (vs := []) (cp := caps) he rfl rfl w1) (hf ([(b9, _)] :: [(b6, _)] :: [(b5, _)] :: [(b3, _)] :: []) w1 (H.sel (l := [_, _, _, _, _, _, _, _]) (M := L) hw1 [4, 5, 6, 7, 0, 1, 2, 3])) ?_
  rintro _ _ a5 w2 ⟨s', y, rfl, rfl, hq⟩ hw2 hd5
  unfold sF ptrS at hw2
  simp only [List.cons_append, List.nil_append] at hw2
  refine dl_st hΓ hd5 rfl rfl rfl rfl rfl rfl rfl (H.sel (l := [_, _, _, _, _, _, _, _]) (M := L) hw2 [6, 0, 1, 2, 3, 4, 5, 7]) fun a6 w3 hd6 hw3 => ?_
  refine dl_st hΓ hd6 rfl rfl rfl rfl rfl rfl rfl (H.sel (l := [_, _, _, _, _, _, _, _]) (M := L) hw3 [6, 0, 1, 2, 3, 4, 5, 7]) fun a7 w4 hd7 hw4 => ?_
  unfold wpList
  refine wp_ret ?_
  show Leaves _ _ _ _ a7.defers _ _
  rw [hd7.2]
  refine leaves_cons (f := 77) (args := #[.pointer (some ⟨b3, 0, none⟩), .pointer (some ⟨b9, 0, none⟩), .pointer (some ⟨b5, 0, none⟩), .pointer (some ⟨b6, 0, none⟩)]) (by simp) (by simp [go_sem]) ?_
  refine (tryC_idle _ _ _ _ _).mono ?_
  rintro e u' w5 ⟨rfl, rfl, rfl⟩
  refine ⟨_, resCC hΓ rfl hd7 hw4 rfl rfl rfl rfl Rd.hd.tl Rd.hd rfl rfl, ?_⟩
  exact ⟨_, _, rfl, H.sel (l := [_, _, _, _, _, _, _, _]) (M := L) hw4 [2, 3, 4, 5], s', y, rfl, rfl, hq⟩
end Go.Proofs.YthnhijdfcmcnhaaGreat
namespace Go.Proofs.YthnhijdfcmcnhaaGreat
open Go Go.Cx Go.RowKit
set_option linter.unusedVariables false
set_option linter.unusedSimpArgs false
set_option maxHeartbeats 4000000
attribute [local irreducible] J JC thenK blockK loopK drawK retK QW Qt pel List.set Calls
open Go.Maps
set_option maxRecDepth 8000
attribute [local irreducible] JE Br eK0 eK3 brK
def Res (n : Nat) (K : KS) (s s' : SS) (m y : Nat) (g : (Nat → Bool) → Bool) : Prop := Adds n K s s' m y ∧ ∀ α, fn n s'.ns y α = g α
def intO (a : Nat) : Obj := .cells ⟨[.int .i64 (a : Int)]⟩ 3 (0, 0)
theorem Rd.app {R : Heap} {L : List Heap} {g : Nat} {o : Obj} (M : List Heap) (h : Rd R L g o) : Rd R (M ++ L) g o := by
  induction M with
  | nil => exact h
  | cons x M ih => exact ih.tl
theorem slArg (b : Nat) (l : List Int) (t : TypeId) : SlT encI 1 (some ⟨b, 0, none⟩) l [(b, .cells ⟨l.flatMap encI⟩ t (0, 0))] :=
  have e : (l.flatMap encI).length = l.length := by
    induction l with
    | nil => rfl
    | cons x l ih => rw [List.flatMap_cons, List.length_append, ih, List.length_cons]; show 1 + _ = _; omega
  OwT.sl (e := t) (cap := l.length) ⟨fun _ => rfl, .inr ⟨b, _, rfl, rfl, by rw [e, Nat.mul_one], Nat.le_refl _, by rw [Nat.mul_one, List.take_of_length_le (by rw [e]; exact Nat.le_refl _)]⟩⟩
theorem chk_ok {m : Nat} {l : List Nat} (h : ∀ x ∈ l, x < m) : chkP m (l.map (fun x : Nat => (x : Int))) = true := by
  unfold chkP
  rw [List.all_map, List.all_eq_true]
  intro x hx
  have := h x hx
  show decide (0 ≤ ((x : Nat) : Int) ∧ ((x : Nat) : Int) < (m : Int)) = true
  exact decide_eq_true ⟨by omega, by omega⟩
theorem eNotC : Entr Tryz.prog 50 := Entr.of Tryz.func50 rfl rfl
theorem eNot : Entr Tryz.prog 16 := Entr.of Tryz.func16 rfl rfl
theorem NotC_any {n : Nat} {K : KS} {s : SS} (so : SOk n K s) (a : Nat) (ha : a < s.ns.length) (hfull : s.ns.length + (2 ^ n - 1) ≤ 1048576) {w0 w : World} {R : Heap} {L : List Heap} {b0 c1 da : Nat} (r1 : Rd R L c1 (ptrS b0)) (ra : Rd R L da (intO a)) (hw : H w0 R (sF K b0 s ++ L) w) :
    Calls Tryz.prog 50 #[.pointer (some ⟨c1, 0, none⟩), .pointer (some ⟨da, 0, none⟩)] w fun e w' => ∃ v L', e = .returned v ∧ H w0 R L' w' ∧ ∃ s' y, v = .int .i64 ((y : Nat) : Int) ∧ L' = sF K b0 s' ++ L ∧ Res n K s s' (2 ^ n - 1) y (fun α => !(fn n s.ns a α)) := by
  have two := so.wf.two
  unfold ptrS at r1
  unfold sF at hw
  have ra2 := ra
  unfold intO at ra2
  simp only [List.cons_append, List.nil_append] at hw
  refine calls_in Tryz.func50 Tryz.ntmps50 rfl rfl (hw) ?_
  repeat' first
    | (refine J.isJ ?_; first | (first | (refine J.o 4 ?_; first | refine J.lR hΓ ?_ (hr := r1.tl.tl.tl.tl) | refine J.lR hΓ ?_ (hr := ra2.tl.tl.tl.tl)) | (refine J.fc 51 ?_; refine J.callx eCh rfl rfl (fun w hw => choose_any so ⟨a, 0, 1⟩ ⟨ha, (show 0 < s.ns.length by omega), (show 1 < s.ns.length by omega)⟩ hfull hw) ?_; rintro _ _ ⟨s1, y1, rfl, rfl, ad1, it1⟩)) | (first | (refine J.o 0 ?_; refine J.ev' hΓ ?_) | refine J.nil ?_ | (refine J.o 4 ?_; first | refine J.lR hΓ ?_) | (refine J.o 3 ?_; first | refine J.ev' hΓ ?_) | (refine J.o 10 ?_; refine J.ev' hΓ ?_) | (refine J.o 11 ?_; refine J.ev' hΓ ?_)))
    | (first | refine JC.seq ?_ | refine JC.region ?_ | refine JC.ret ?_ | refine thenK.nn ?_)
    | (fail)
    | fail
  refine ret1f rfl rfl rfl (fun w1 hw => ⟨_, _, rfl, hw, s1, y1, rfl, rfl, ad1, fun α => ?_⟩)
  have he := it1.eq α
  have ga := fn_ext so.wf ad1.ext ha α
  have z0 := fn_0 ad1.ok.wf α
  have z1 := fn_1 ad1.ok.wf α
  dsimp only at he
  rw [he]
  simp only [ga, z0, z1]
  cases fn n s.ns a α <;> rfl
theorem Not_any {n : Nat} {K : KS} {s : SS} (so : SOk n K s) (a : Nat) (ha : a < s.ns.length) (hfull : s.ns.length + (2 ^ n - 1) ≤ 1048576) {w0 w : World} {R : Heap} {L : List Heap} {b0 : Nat} (hw : H w0 R (sF K b0 s ++ L) w) :
    Calls Tryz.prog 16 #[.pointer (some ⟨b0, 0, none⟩), .int .i64 (a : Int)] w fun e w' => ∃ v L', e = .returned v ∧ H w0 R L' w' ∧ ∃ s' y, v = .tuple #[.int .i64 ((y : Nat) : Int), .int .i64 0] ∧ L' = sF K b0 s' ++ L ∧ Res n K s s' (2 ^ n - 1) y (fun α => !(fn n s.ns a α)) := by
  unfold sF at hw
  simp only [List.cons_append, List.nil_append] at hw
  refine calls_in Tryz.func16 Tryz.ntmps16 rfl rfl (hw) ?_
  refine JC.seq ?_
  refine JC.region ?_
  refine J.isJ ?_
  refine J.o 6 ?_
  refine J.bx (fun c1 => ?_)
  refine J.isJ ?_
  refine J.o 6 ?_
  refine J.bx (fun da => ?_)
  repeat' first
    | (refine J.isJ ?_; first | (first | (refine J.o 14 ?_; refine J.mfV [.pointer (some ⟨c1, 0, none⟩), .pointer (some ⟨da, 0, none⟩)] hΓ ?_) | (refine J.o 4 ?_; first | refine J.lR hΓ ?_ (hr := Rd.hd) | refine J.lR hΓ ?_ (hr := Rd.hd.tl)) | (refine J.o 9 ?_; refine J.bl hΓ (fun ba => ?_)) | (refine J.fc 45 ?_; refine J.callx eTry rfl rfl (fun w hw => try_any so (Q := fun s' y => Res n K s s' (2 ^ n - 1) y (fun α => !(fn n s.ns a α))) eNotC [(a : Int)] (some ⟨ba, 0, none⟩) 1 _ (slArg ba [(a : Int)] 3) (by show 1 ≤ 1000; omega) (L := [(ba, Obj.cells ⟨[.int .i64 (a : Int)]⟩ 3 (0, 0))] :: [(da, intO a)] :: [(c1, ptrS b0)] :: L) (RdH.hd) (chk_ok (l := [a]) (by simp only [List.mem_cons, List.not_mem_nil, or_false, forall_eq_or_imp, forall_eq]; exact ha)) (fun Lx w hw => NotC_any so a ha hfull (Rd.app Lx Rd.hd.tl.tl) (Rd.app Lx Rd.hd.tl) hw) (H.sel (l := [_, _, _, _, _, _, _]) (M := L) hw [3, 4, 5, 6, 0, 1, 2])) ?_; rintro _ _ ⟨s1, y1, rfl, rfl, hq⟩)) | (first | (refine J.o 0 ?_; refine J.ev' hΓ ?_) | refine J.nil ?_ | (refine J.o 4 ?_; first | refine J.lR hΓ ?_) | (refine J.o 3 ?_; first | refine J.ev' hΓ ?_) | (refine J.o 6 ?_; refine J.bx (fun _ => ?_)) | (refine J.o 9 ?_; refine J.bl hΓ (fun _ => ?_)) | (refine J.o 10 ?_; refine J.ev' hΓ ?_) | (refine J.o 11 ?_; refine J.ev' hΓ ?_)))
    | (first | refine JC.seq ?_ | refine JC.region ?_ | refine JC.ret ?_ | refine thenK.nn ?_)
    | (fail)
    | fail
  refine ret2f rfl rfl rfl rfl rfl (fun w1 hw => ⟨_, _, rfl, H.sel (l := [_, _, _, _, _, _, _]) (M := L) hw [0, 1, 2, 3], s1, y1, rfl, rfl, hq⟩)
theorem eAndC : Entr Tryz.prog 53 := Entr.of Tryz.func53 rfl rfl
theorem eAnd : Entr Tryz.prog 18 := Entr.of Tryz.func18 rfl rfl
theorem AndC_any {n : Nat} {K : KS} {s : SS} (so : SOk n K s) (a : Nat) (ha : a < s.ns.length) (b : Nat) (hb : b < s.ns.length) (hfull : s.ns.length + (2 ^ n - 1) ≤ 1048576) {w0 w : World} {R : Heap} {L : List Heap} {b0 c1 da db : Nat} (r1 : Rd R L c1 (ptrS b0)) (ra : Rd R L da (intO a)) (rb : Rd R L db (intO b)) (hw : H w0 R (sF K b0 s ++ L) w) :
    Calls Tryz.prog 53 #[.pointer (some ⟨c1, 0, none⟩), .pointer (some ⟨da, 0, none⟩), .pointer (some ⟨db, 0, none⟩)] w fun e w' => ∃ v L', e = .returned v ∧ H w0 R L' w' ∧ ∃ s' y, v = .int .i64 ((y : Nat) : Int) ∧ L' = sF K b0 s' ++ L ∧ Res n K s s' (2 ^ n - 1) y (fun α => (fn n s.ns a α && fn n s.ns b α)) := by
  have two := so.wf.two
  unfold ptrS at r1
  unfold sF at hw
  have ra2 := ra
  unfold intO at ra2
  have rb2 := rb
  unfold intO at rb2
  simp only [List.cons_append, List.nil_append] at hw
  refine calls_in Tryz.func53 Tryz.ntmps53 rfl rfl (hw) ?_
  repeat' first
    | (refine J.isJ ?_; first | (first | (refine J.o 4 ?_; first | refine J.lR hΓ ?_ (hr := r1.tl.tl.tl.tl) | refine J.lR hΓ ?_ (hr := ra2.tl.tl.tl.tl) | refine J.lR hΓ ?_ (hr := rb2.tl.tl.tl.tl)) | (refine J.fc 51 ?_; refine J.callx eCh rfl rfl (fun w hw => choose_any so ⟨a, b, 0⟩ ⟨ha, hb, (show 0 < s.ns.length by omega)⟩ hfull hw) ?_; rintro _ _ ⟨s1, y1, rfl, rfl, ad1, it1⟩)) | (first | (refine J.o 0 ?_; refine J.ev' hΓ ?_) | refine J.nil ?_ | (refine J.o 4 ?_; first | refine J.lR hΓ ?_) | (refine J.o 3 ?_; first | refine J.ev' hΓ ?_) | (refine J.o 10 ?_; refine J.ev' hΓ ?_) | (refine J.o 11 ?_; refine J.ev' hΓ ?_)))
    | (first | refine JC.seq ?_ | refine JC.region ?_ | refine JC.ret ?_ | refine thenK.nn ?_)
    | (fail)
    | fail
  refine ret1f rfl rfl rfl (fun w1 hw => ⟨_, _, rfl, hw, s1, y1, rfl, rfl, ad1, fun α => ?_⟩)
  have he := it1.eq α
  have ga := fn_ext so.wf ad1.ext ha α
  have gb := fn_ext so.wf ad1.ext hb α
  have z0 := fn_0 ad1.ok.wf α
  have z1 := fn_1 ad1.ok.wf α
  dsimp only at he
  rw [he]
  simp only [ga, gb, z0, z1]
  cases fn n s.ns a α <;> cases fn n s.ns b α <;> rfl
theorem And_any {n : Nat} {K : KS} {s : SS} (so : SOk n K s) (a : Nat) (ha : a < s.ns.length) (b : Nat) (hb : b < s.ns.length) (hfull : s.ns.length + (2 ^ n - 1) ≤ 1048576) {w0 w : World} {R : Heap} {L : List Heap} {b0 : Nat} (hw : H w0 R (sF K b0 s ++ L) w) :
    Calls Tryz.prog 18 #[.pointer (some ⟨b0, 0, none⟩), .int .i64 (a : Int), .int .i64 (b : Int)] w fun e w' => ∃ v L', e = .returned v ∧ H w0 R L' w' ∧ ∃ s' y, v = .tuple #[.int .i64 ((y : Nat) : Int), .int .i64 0] ∧ L' = sF K b0 s' ++ L ∧ Res n K s s' (2 ^ n - 1) y (fun α => (fn n s.ns a α && fn n s.ns b α)) := by
  unfold sF at hw
  simp only [List.cons_append, List.nil_append] at hw
  refine calls_in Tryz.func18 Tryz.ntmps18 rfl rfl (hw) ?_
  refine JC.seq ?_
  refine JC.region ?_
  refine J.isJ ?_
  refine J.o 6 ?_
  refine J.bx (fun c1 => ?_)
  refine J.isJ ?_
  refine J.o 6 ?_
  refine J.bx (fun da => ?_)
  refine J.isJ ?_
  refine J.o 6 ?_
  refine J.bx (fun db => ?_)
  repeat' first
    | (refine J.isJ ?_; first | (first | (refine J.o 14 ?_; refine J.mfV [.pointer (some ⟨c1, 0, none⟩), .pointer (some ⟨da, 0, none⟩), .pointer (some ⟨db, 0, none⟩)] hΓ ?_) | (refine J.o 4 ?_; first | refine J.lR hΓ ?_ (hr := Rd.hd) | refine J.lR hΓ ?_ (hr := Rd.hd.tl) | refine J.lR hΓ ?_ (hr := Rd.hd.tl.tl)) | (refine J.o 9 ?_; refine J.bl hΓ (fun ba => ?_)) | (refine J.fc 45 ?_; refine J.callx eTry rfl rfl (fun w hw => try_any so (Q := fun s' y => Res n K s s' (2 ^ n - 1) y (fun α => (fn n s.ns a α && fn n s.ns b α))) eAndC [(a : Int), (b : Int)] (some ⟨ba, 0, none⟩) 2 _ (slArg ba [(a : Int), (b : Int)] 3) (by show 2 ≤ 1000; omega) (L := [(ba, Obj.cells ⟨[.int .i64 (a : Int), .int .i64 (b : Int)]⟩ 3 (0, 0))] :: [(db, intO b)] :: [(da, intO a)] :: [(c1, ptrS b0)] :: L) (RdH.hd) (chk_ok (l := [a, b]) (by simp only [List.mem_cons, List.not_mem_nil, or_false, forall_eq_or_imp, forall_eq]; exact ⟨ha, hb⟩)) (fun Lx w hw => AndC_any so a ha b hb hfull (Rd.app Lx Rd.hd.tl.tl.tl) (Rd.app Lx Rd.hd.tl.tl) (Rd.app Lx Rd.hd.tl) hw) (H.sel (l := [_, _, _, _, _, _, _, _]) (M := L) hw [4, 5, 6, 7, 0, 1, 2, 3])) ?_; rintro _ _ ⟨s1, y1, rfl, rfl, hq⟩)) | (first | (refine J.o 0 ?_; refine J.ev' hΓ ?_) | refine J.nil ?_ | (refine J.o 4 ?_; first | refine J.lR hΓ ?_) | (refine J.o 3 ?_; first | refine J.ev' hΓ ?_) | (refine J.o 6 ?_; refine J.bx (fun _ => ?_)) | (refine J.o 9 ?_; refine J.bl hΓ (fun _ => ?_)) | (refine J.o 10 ?_; refine J.ev' hΓ ?_) | (refine J.o 11 ?_; refine J.ev' hΓ ?_)))
    | (first | refine JC.seq ?_ | refine JC.region ?_ | refine JC.ret ?_ | refine thenK.nn ?_)
    | (fail)
    | fail
  refine ret2f rfl rfl rfl rfl rfl (fun w1 hw => ⟨_, _, rfl, H.sel (l := [_, _, _, _, _, _, _, _]) (M := L) hw [0, 1, 2, 3], s1, y1, rfl, rfl, hq⟩)
theorem eOrC : Entr Tryz.prog 54 := Entr.of Tryz.func54 rfl rfl
theorem eOr : Entr Tryz.prog 20 := Entr.of Tryz.func20 rfl rfl
theorem OrC_any {n : Nat} {K : KS} {s : SS} (so : SOk n K s) (a : Nat) (ha : a < s.ns.length) (b : Nat) (hb : b < s.ns.length) (hfull : s.ns.length + (2 ^ n - 1) ≤ 1048576) {w0 w : World} {R : Heap} {L : List Heap} {b0 c1 da db : Nat} (r1 : Rd R L c1 (ptrS b0)) (ra : Rd R L da (intO a)) (rb : Rd R L db (intO b)) (hw : H w0 R (sF K b0 s ++ L) w) :
    Calls Tryz.prog 54 #[.pointer (some ⟨c1, 0, none⟩), .pointer (some ⟨da, 0, none⟩), .pointer (some ⟨db, 0, none⟩)] w fun e w' => ∃ v L', e = .returned v ∧ H w0 R L' w' ∧ ∃ s' y, v = .int .i64 ((y : Nat) : Int) ∧ L' = sF K b0 s' ++ L ∧ Res n K s s' (2 ^ n - 1) y (fun α => (Bool.or (fn n s.ns a α) (fn n s.ns b α))) := by
  have two := so.wf.two
  unfold ptrS at r1
  unfold sF at hw
  have ra2 := ra
  unfold intO at ra2
  have rb2 := rb
  unfold intO at rb2
  simp only [List.cons_append, List.nil_append] at hw
  refine calls_in Tryz.func54 Tryz.ntmps54 rfl rfl (hw) ?_
  repeat' first
    | (refine J.isJ ?_; first | (first | (refine J.o 4 ?_; first | refine J.lR hΓ ?_ (hr := r1.tl.tl.tl.tl) | refine J.lR hΓ ?_ (hr := ra2.tl.tl.tl.tl) | refine J.lR hΓ ?_ (hr := rb2.tl.tl.tl.tl)) | (refine J.fc 51 ?_; refine J.callx eCh rfl rfl (fun w hw => choose_any so ⟨a, 1, b⟩ ⟨ha, (show 1 < s.ns.length by omega), hb⟩ hfull hw) ?_; rintro _ _ ⟨s1, y1, rfl, rfl, ad1, it1⟩)) | (first | (refine J.o 0 ?_; refine J.ev' hΓ ?_) | refine J.nil ?_ | (refine J.o 4 ?_; first | refine J.lR hΓ ?_) | (refine J.o 3 ?_; first | refine J.ev' hΓ ?_) | (refine J.o 10 ?_; refine J.ev' hΓ ?_) | (refine J.o 11 ?_; refine J.ev' hΓ ?_)))
    | (first | refine JC.seq ?_ | refine JC.region ?_ | refine JC.ret ?_ | refine thenK.nn ?_)
    | (fail)
    | fail
  refine ret1f rfl rfl rfl (fun w1 hw => ⟨_, _, rfl, hw, s1, y1, rfl, rfl, ad1, fun α => ?_⟩)
  have he := it1.eq α
  have ga := fn_ext so.wf ad1.ext ha α
  have gb := fn_ext so.wf ad1.ext hb α
  have z0 := fn_0 ad1.ok.wf α
  have z1 := fn_1 ad1.ok.wf α
  dsimp only at he
  rw [he]
  simp only [ga, gb, z0, z1]
  cases fn n s.ns a α <;> cases fn n s.ns b α <;> rfl
theorem Or_any {n : Nat} {K : KS} {s : SS} (so : SOk n K s) (a : Nat) (ha : a < s.ns.length) (b : Nat) (hb : b < s.ns.length) (hfull : s.ns.length + (2 ^ n - 1) ≤ 1048576) {w0 w : World} {R : Heap} {L : List Heap} {b0 : Nat} (hw : H w0 R (sF K b0 s ++ L) w) :
    Calls Tryz.prog 20 #[.pointer (some ⟨b0, 0, none⟩), .int .i64 (a : Int), .int .i64 (b : Int)] w fun e w' => ∃ v L', e = .returned v ∧ H w0 R L' w' ∧ ∃ s' y, v = .tuple #[.int .i64 ((y : Nat) : Int), .int .i64 0] ∧ L' = sF K b0 s' ++ L ∧ Res n K s s' (2 ^ n - 1) y (fun α => (Bool.or (fn n s.ns a α) (fn n s.ns b α))) := by
  unfold sF at hw
  simp only [List.cons_append, List.nil_append] at hw
  refine calls_in Tryz.func20 Tryz.ntmps20 rfl rfl (hw) ?_
  refine JC.seq ?_
  refine JC.region ?_
  refine J.isJ ?_
  refine J.o 6 ?_
  refine J.bx (fun c1 => ?_)
  refine J.isJ ?_
  refine J.o 6 ?_
  refine J.bx (fun da => ?_)
  refine J.isJ ?_
  refine J.o 6 ?_
  refine J.bx (fun db => ?_)
  repeat' first
    | (refine J.isJ ?_; first | (first | (refine J.o 14 ?_; refine J.mfV [.pointer (some ⟨c1, 0, none⟩), .pointer (some ⟨da, 0, none⟩), .pointer (some ⟨db, 0, none⟩)] hΓ ?_) | (refine J.o 4 ?_; first | refine J.lR hΓ ?_ (hr := Rd.hd) | refine J.lR hΓ ?_ (hr := Rd.hd.tl) | refine J.lR hΓ ?_ (hr := Rd.hd.tl.tl)) | (refine J.o 9 ?_; refine J.bl hΓ (fun ba => ?_)) | (refine J.fc 45 ?_; refine J.callx eTry rfl rfl (fun w hw => try_any so (Q := fun s' y => Res n K s s' (2 ^ n - 1) y (fun α => (Bool.or (fn n s.ns a α) (fn n s.ns b α)))) eOrC [(a : Int), (b : Int)] (some ⟨ba, 0, none⟩) 2 _ (slArg ba [(a : Int), (b : Int)] 3) (by show 2 ≤ 1000; omega) (L := [(ba, Obj.cells ⟨[.int .i64 (a : Int), .int .i64 (b : Int)]⟩ 3 (0, 0))] :: [(db, intO b)] :: [(da, intO a)] :: [(c1, ptrS b0)] :: L) (RdH.hd) (chk_ok (l := [a, b]) (by simp only [List.mem_cons, List.not_mem_nil, or_false, forall_eq_or_imp, forall_eq]; exact ⟨ha, hb⟩)) (fun Lx w hw => OrC_any so a ha b hb hfull (Rd.app Lx Rd.hd.tl.tl.tl) (Rd.app Lx Rd.hd.tl.tl) (Rd.app Lx Rd.hd.tl) hw) (H.sel (l := [_, _, _, _, _, _, _, _]) (M := L) hw [4, 5, 6, 7, 0, 1, 2, 3])) ?_; rintro _ _ ⟨s1, y1, rfl, rfl, hq⟩)) | (first | (refine J.o 0 ?_; refine J.ev' hΓ ?_) | refine J.nil ?_ | (refine J.o 4 ?_; first | refine J.lR hΓ ?_) | (refine J.o 3 ?_; first | refine J.ev' hΓ ?_) | (refine J.o 6 ?_; refine J.bx (fun _ => ?_)) | (refine J.o 9 ?_; refine J.bl hΓ (fun _ => ?_)) | (refine J.o 10 ?_; refine J.ev' hΓ ?_) | (refine J.o 11 ?_; refine J.ev' hΓ ?_)))
    | (first | refine JC.seq ?_ | refine JC.region ?_ | refine JC.ret ?_ | refine thenK.nn ?_)
    | (fail)
    | fail
  refine ret2f rfl rfl rfl rfl rfl (fun w1 hw => ⟨_, _, rfl, H.sel (l := [_, _, _, _, _, _, _, _]) (M := L) hw [0, 1, 2, 3], s1, y1, rfl, rfl, hq⟩)
theorem eIfC : Entr Tryz.prog 56 := Entr.of Tryz.func56 rfl rfl
theorem eIf : Entr Tryz.prog 24 := Entr.of Tryz.func24 rfl rfl
theorem IfC_any {n : Nat} {K : KS} {s : SS} (so : SOk n K s) (a : Nat) (ha : a < s.ns.length) (b : Nat) (hb : b < s.ns.length) (c : Nat) (hc : c < s.ns.length) (hfull : s.ns.length + (2 ^ n - 1) ≤ 1048576) {w0 w : World} {R : Heap} {L : List Heap} {b0 c1 da db dc : Nat} (r1 : Rd R L c1 (ptrS b0)) (ra : Rd R L da (intO a)) (rb : Rd R L db (intO b)) (rc : Rd R L dc (intO c)) (hw : H w0 R (sF K b0 s ++ L) w) :
    Calls Tryz.prog 56 #[.pointer (some ⟨c1, 0, none⟩), .pointer (some ⟨da, 0, none⟩), .pointer (some ⟨db, 0, none⟩), .pointer (some ⟨dc, 0, none⟩)] w fun e w' => ∃ v L', e = .returned v ∧ H w0 R L' w' ∧ ∃ s' y, v = .int .i64 ((y : Nat) : Int) ∧ L' = sF K b0 s' ++ L ∧ Res n K s s' (2 ^ n - 1) y (fun α => (if fn n s.ns a α then fn n s.ns b α else fn n s.ns c α)) := by
  have two := so.wf.two
  unfold ptrS at r1
  unfold sF at hw
  have ra2 := ra
  unfold intO at ra2
  have rb2 := rb
  unfold intO at rb2
  have rc2 := rc
  unfold intO at rc2
  simp only [List.cons_append, List.nil_append] at hw
  refine calls_in Tryz.func56 Tryz.ntmps56 rfl rfl (hw) ?_
  repeat' first
    | (refine J.isJ ?_; first | (first | (refine J.o 4 ?_; first | refine J.lR hΓ ?_ (hr := r1.tl.tl.tl.tl) | refine J.lR hΓ ?_ (hr := ra2.tl.tl.tl.tl) | refine J.lR hΓ ?_ (hr := rb2.tl.tl.tl.tl) | refine J.lR hΓ ?_ (hr := rc2.tl.tl.tl.tl)) | (refine J.fc 51 ?_; refine J.callx eCh rfl rfl (fun w hw => choose_any so ⟨a, b, c⟩ ⟨ha, hb, hc⟩ hfull hw) ?_; rintro _ _ ⟨s1, y1, rfl, rfl, ad1, it1⟩)) | (first | (refine J.o 0 ?_; refine J.ev' hΓ ?_) | refine J.nil ?_ | (refine J.o 4 ?_; first | refine J.lR hΓ ?_) | (refine J.o 3 ?_; first | refine J.ev' hΓ ?_) | (refine J.o 10 ?_; refine J.ev' hΓ ?_) | (refine J.o 11 ?_; refine J.ev' hΓ ?_)))
    | (first | refine JC.seq ?_ | refine JC.region ?_ | refine JC.ret ?_ | refine thenK.nn ?_)
    | (fail)
    | fail
  refine ret1f rfl rfl rfl (fun w1 hw => ⟨_, _, rfl, hw, s1, y1, rfl, rfl, ad1, fun α => ?_⟩)
  have he := it1.eq α
  have ga := fn_ext so.wf ad1.ext ha α
  have gb := fn_ext so.wf ad1.ext hb α
  have gc := fn_ext so.wf ad1.ext hc α
  have z0 := fn_0 ad1.ok.wf α
  have z1 := fn_1 ad1.ok.wf α
  dsimp only at he
  rw [he]
  simp only [ga, gb, gc, z0, z1]
theorem If_any {n : Nat} {K : KS} {s : SS} (so : SOk n K s) (a : Nat) (ha : a < s.ns.length) (b : Nat) (hb : b < s.ns.length) (c : Nat) (hc : c < s.ns.length) (hfull : s.ns.length + (2 ^ n - 1) ≤ 1048576) {w0 w : World} {R : Heap} {L : List Heap} {b0 : Nat} (hw : H w0 R (sF K b0 s ++ L) w) :
    Calls Tryz.prog 24 #[.pointer (some ⟨b0, 0, none⟩), .int .i64 (a : Int), .int .i64 (b : Int), .int .i64 (c : Int)] w fun e w' => ∃ v L', e = .returned v ∧ H w0 R L' w' ∧ ∃ s' y, v = .tuple #[.int .i64 ((y : Nat) : Int), .int .i64 0] ∧ L' = sF K b0 s' ++ L ∧ Res n K s s' (2 ^ n - 1) y (fun α => (if fn n s.ns a α then fn n s.ns b α else fn n s.ns c α)) := by
  unfold sF at hw
  simp only [List.cons_append, List.nil_append] at hw
  refine calls_in Tryz.func24 Tryz.ntmps24 rfl rfl (hw) ?_
  refine JC.seq ?_
  refine JC.region ?_
  refine J.isJ ?_
  refine J.o 6 ?_
  refine J.bx (fun c1 => ?_)
  refine J.isJ ?_
  refine J.o 6 ?_
  refine J.bx (fun da => ?_)
  refine J.isJ ?_
  refine J.o 6 ?_
  refine J.bx (fun db => ?_)
  refine J.isJ ?_
  refine J.o 6 ?_
  refine J.bx (fun dc => ?_)
  repeat' first
    | (refine J.isJ ?_; first | (first | (refine J.o 14 ?_; refine J.mfV [.pointer (some ⟨c1, 0, none⟩), .pointer (some ⟨da, 0, none⟩), .pointer (some ⟨db, 0, none⟩), .pointer (some ⟨dc, 0, none⟩)] hΓ ?_) | (refine J.o 4 ?_; first | refine J.lR hΓ ?_ (hr := Rd.hd) | refine J.lR hΓ ?_ (hr := Rd.hd.tl) | refine J.lR hΓ ?_ (hr := Rd.hd.tl.tl) | refine J.lR hΓ ?_ (hr := Rd.hd.tl.tl.tl)) | (refine J.o 9 ?_; refine J.bl hΓ (fun ba => ?_)) | (refine J.fc 45 ?_; refine J.callx eTry rfl rfl (fun w hw => try_any so (Q := fun s' y => Res n K s s' (2 ^ n - 1) y (fun α => (if fn n s.ns a α then fn n s.ns b α else fn n s.ns c α))) eIfC [(a : Int), (b : Int), (c : Int)] (some ⟨ba, 0, none⟩) 3 _ (slArg ba [(a : Int), (b : Int), (c : Int)] 3) (by show 3 ≤ 1000; omega) (L := [(ba, Obj.cells ⟨[.int .i64 (a : Int), .int .i64 (b : Int), .int .i64 (c : Int)]⟩ 3 (0, 0))] :: [(dc, intO c)] :: [(db, intO b)] :: [(da, intO a)] :: [(c1, ptrS b0)] :: L) (RdH.hd) (chk_ok (l := [a, b, c]) (by simp only [List.mem_cons, List.not_mem_nil, or_false, forall_eq_or_imp, forall_eq]; exact ⟨ha, hb, hc⟩)) (fun Lx w hw => IfC_any so a ha b hb c hc hfull (Rd.app Lx Rd.hd.tl.tl.tl.tl) (Rd.app Lx Rd.hd.tl.tl.tl) (Rd.app Lx Rd.hd.tl.tl) (Rd.app Lx Rd.hd.tl) hw) (H.sel (l := [_, _, _, _, _, _, _, _, _]) (M := L) hw [5, 6, 7, 8, 0, 1, 2, 3, 4])) ?_; rintro _ _ ⟨s1, y1, rfl, rfl, hq⟩)) | (first | (refine J.o 0 ?_; refine J.ev' hΓ ?_) | refine J.nil ?_ | (refine J.o 4 ?_; first | refine J.lR hΓ ?_) | (refine J.o 3 ?_; first | refine J.ev' hΓ ?_) | (refine J.o 6 ?_; refine J.bx (fun _ => ?_)) | (refine J.o 9 ?_; refine J.bl hΓ (fun _ => ?_)) | (refine J.o 10 ?_; refine J.ev' hΓ ?_) | (refine J.o 11 ?_; refine J.ev' hΓ ?_)))
    | (first | refine JC.seq ?_ | refine JC.region ?_ | refine JC.ret ?_ | refine thenK.nn ?_)
    | (fail)
    | fail
  refine ret2f rfl rfl rfl rfl rfl (fun w1 hw => ⟨_, _, rfl, H.sel (l := [_, _, _, _, _, _, _, _, _]) (M := L) hw [0, 1, 2, 3], s1, y1, rfl, rfl, hq⟩)
theorem eXorC : Entr Tryz.prog 55 := Entr.of Tryz.func55 rfl rfl
theorem eXor : Entr Tryz.prog 22 := Entr.of Tryz.func22 rfl rfl
theorem XorC_any {n : Nat} {K : KS} {s : SS} (so : SOk n K s) (a : Nat) (ha : a < s.ns.length) (b : Nat) (hb : b < s.ns.length) (hfull : s.ns.length + ((2 ^ n - 1) + (2 ^ n - 1)) ≤ 1048576) {w0 w : World} {R : Heap} {L : List Heap} {b0 c1 da db : Nat} (r1 : Rd R L c1 (ptrS b0)) (ra : Rd R L da (intO a)) (rb : Rd R L db (intO b)) (hw : H w0 R (sF K b0 s ++ L) w) :
    Calls Tryz.prog 55 #[.pointer (some ⟨c1, 0, none⟩), .pointer (some ⟨da, 0, none⟩), .pointer (some ⟨db, 0, none⟩)] w fun e w' => ∃ v L', e = .returned v ∧ H w0 R L' w' ∧ ∃ s' y, v = .int .i64 ((y : Nat) : Int) ∧ L' = sF K b0 s' ++ L ∧ Res n K s s' ((2 ^ n - 1) + (2 ^ n - 1)) y (fun α => (fn n s.ns a α != fn n s.ns b α)) := by
  have two := so.wf.two
  unfold ptrS at r1
  unfold sF at hw
  have ra2 := ra
  unfold intO at ra2
  have rb2 := rb
  unfold intO at rb2
  simp only [List.cons_append, List.nil_append] at hw
  refine calls_in Tryz.func55 Tryz.ntmps55 rfl rfl (hw) ?_
  repeat' first
    | (refine J.isJ ?_; first | (fail) | (first | (refine J.o 0 ?_; refine J.ev' hΓ ?_) | refine J.nil ?_ | (refine J.o 3 ?_; first | refine J.ev' hΓ ?_) | (refine J.o 10 ?_; refine J.ev' hΓ ?_) | (refine J.o 11 ?_; refine J.ev' hΓ ?_)))
    | (first | refine JC.seq ?_ | refine JC.region ?_ | refine JC.ret ?_ | refine thenK.nn ?_ | refine drawK.nn ?_)
    | (fail)
    | fail
  refine JC.drawD L [(4, 0), (4, 1), (4, 2), (4, 3), (4, 5), (3, 4), (3, 6), (0, 7)] (by kernel_rfl) (by kernel_rfl) ?_
  refine JD.ld hΓ (fun w hw => H.sel (l := [_, _, _, _]) (M := L) hw []) r1 ?_
  refine JD.ld hΓ (fun w hw => H.sel (l := [_, _, _, _]) (M := L) hw []) ra2 ?_
  refine JD.ld hΓ (fun w hw => H.sel (l := [_, _, _, _]) (M := L) hw []) r1 ?_
  refine JD.ld hΓ (fun w hw => H.sel (l := [_, _, _, _]) (M := L) hw []) rb2 ?_
  refine JD.ld hΓ (fun w hw => H.sel (l := [_, _, _, _]) (M := L) hw []) rb2 ?_
  refine JD.callvd eCh rfl rfl rfl (fun w hw => choose_any so ⟨b, 0, 1⟩ ⟨hb, (show 0 < s.ns.length by omega), (show 1 < s.ns.length by omega)⟩ (by omega) hw) ?_
  rintro _ _ ⟨s1, y1, rfl, rfl, ad1, it1⟩
  have l1 := ad1.le
  have e1 := ad1.ext.le
  refine ⟨fun w hw => H.sel (l := [_, _, _, _]) (M := L) hw [], ?_⟩
  unfold sF
  simp only [List.cons_append, List.nil_append]
  refine JD.callvd eCh rfl rfl rfl (fun w hw => choose_any ad1.ok ⟨a, y1, b⟩ ⟨(show a < s1.ns.length by omega), ad1.lt, (show b < s1.ns.length by omega)⟩ (by omega) hw) ?_
  rintro _ _ ⟨s2, y2, rfl, rfl, ad2, it2⟩
  have l2 := ad2.le
  refine ⟨fun w hw => H.sel (l := [_, _, _, _]) (M := L) hw [], ?_⟩
  unfold sF
  simp only [List.cons_append, List.nil_append]
  refine JD.ev hΓ ?_
  refine JD.nil ?_
  repeat' first
    | (refine J.isJ ?_; first | (fail) | (first | (refine J.o 0 ?_; refine J.ev' hΓ ?_) | refine J.nil ?_ | (refine J.o 3 ?_; first | refine J.ev' hΓ ?_) | (refine J.o 10 ?_; refine J.ev' hΓ ?_) | (refine J.o 11 ?_; refine J.ev' hΓ ?_)))
    | (first | refine JC.seq ?_ | refine JC.region ?_ | refine JC.ret ?_ | refine thenK.nn ?_ | refine drawK.nn ?_)
    | (fail)
    | fail
  refine ret1f rfl rfl rfl (fun w1 hw => ⟨_, _, rfl, hw, s2, y2, rfl, rfl, ⟨ad2.ok, ad1.ext.trans ad2.ext, by omega, ad2.lt⟩, fun α => ?_⟩)
  have he := it1.eq α
  have he2 := it2.eq α
  have ga := fn_ext so.wf (ad1.ext.trans ad2.ext) ha α
  have gb := fn_ext so.wf (ad1.ext.trans ad2.ext) hb α
  have gb1 := fn_ext so.wf ad1.ext hb α
  have gy := fn_ext ad1.ok.wf ad2.ext ad1.lt α
  have z0 := fn_0 ad1.ok.wf α
  have z1 := fn_1 ad1.ok.wf α
  dsimp only at he he2
  rw [he2, gy, he]
  simp only [ga, gb, gb1, z0, z1]
  cases fn n s.ns a α <;> cases fn n s.ns b α <;> rfl
theorem Xor_any {n : Nat} {K : KS} {s : SS} (so : SOk n K s) (a : Nat) (ha : a < s.ns.length) (b : Nat) (hb : b < s.ns.length) (hfull : s.ns.length + ((2 ^ n - 1) + (2 ^ n - 1)) ≤ 1048576) {w0 w : World} {R : Heap} {L : List Heap} {b0 : Nat} (hw : H w0 R (sF K b0 s ++ L) w) :
    Calls Tryz.prog 22 #[.pointer (some ⟨b0, 0, none⟩), .int .i64 (a : Int), .int .i64 (b : Int)] w fun e w' => ∃ v L', e = .returned v ∧ H w0 R L' w' ∧ ∃ s' y, v = .tuple #[.int .i64 ((y : Nat) : Int), .int .i64 0] ∧ L' = sF K b0 s' ++ L ∧ Res n K s s' ((2 ^ n - 1) + (2 ^ n - 1)) y (fun α => (fn n s.ns a α != fn n s.ns b α)) := by
  unfold sF at hw
  simp only [List.cons_append, List.nil_append] at hw
  refine calls_in Tryz.func22 Tryz.ntmps22 rfl rfl (hw) ?_
  refine JC.seq ?_
  refine JC.region ?_
  refine J.isJ ?_
  refine J.o 6 ?_
  refine J.bx (fun c1 => ?_)
  refine J.isJ ?_
  refine J.o 6 ?_
  refine J.bx (fun da => ?_)
  refine J.isJ ?_
  refine J.o 6 ?_
  refine J.bx (fun db => ?_)
  repeat' first
    | (refine J.isJ ?_; first | (first | (refine J.o 14 ?_; refine J.mfV [.pointer (some ⟨c1, 0, none⟩), .pointer (some ⟨da, 0, none⟩), .pointer (some ⟨db, 0, none⟩)] hΓ ?_) | (refine J.o 4 ?_; first | refine J.lR hΓ ?_ (hr := Rd.hd) | refine J.lR hΓ ?_ (hr := Rd.hd.tl) | refine J.lR hΓ ?_ (hr := Rd.hd.tl.tl)) | (refine J.o 9 ?_; refine J.bl hΓ (fun ba => ?_)) | (refine J.fc 45 ?_; refine J.callx eTry rfl rfl (fun w hw => try_any so (Q := fun s' y => Res n K s s' ((2 ^ n - 1) + (2 ^ n - 1)) y (fun α => (fn n s.ns a α != fn n s.ns b α))) eXorC [(a : Int), (b : Int)] (some ⟨ba, 0, none⟩) 2 _ (slArg ba [(a : Int), (b : Int)] 3) (by show 2 ≤ 1000; omega) (L := [(ba, Obj.cells ⟨[.int .i64 (a : Int), .int .i64 (b : Int)]⟩ 3 (0, 0))] :: [(db, intO b)] :: [(da, intO a)] :: [(c1, ptrS b0)] :: L) (RdH.hd) (chk_ok (l := [a, b]) (by simp only [List.mem_cons, List.not_mem_nil, or_false, forall_eq_or_imp, forall_eq]; exact ⟨ha, hb⟩)) (fun Lx w hw => XorC_any so a ha b hb hfull (Rd.app Lx Rd.hd.tl.tl.tl) (Rd.app Lx Rd.hd.tl.tl) (Rd.app Lx Rd.hd.tl) hw) (H.sel (l := [_, _, _, _, _, _, _, _]) (M := L) hw [4, 5, 6, 7, 0, 1, 2, 3])) ?_; rintro _ _ ⟨s1, y1, rfl, rfl, hq⟩)) | (first | (refine J.o 0 ?_; refine J.ev' hΓ ?_) | refine J.nil ?_ | (refine J.o 4 ?_; first | refine J.lR hΓ ?_) | (refine J.o 3 ?_; first | refine J.ev' hΓ ?_) | (refine J.o 6 ?_; refine J.bx (fun _ => ?_)) | (refine J.o 9 ?_; refine J.bl hΓ (fun _ => ?_)) | (refine J.o 10 ?_; refine J.ev' hΓ ?_) | (refine J.o 11 ?_; refine J.ev' hΓ ?_)))
    | (first | refine JC.seq ?_ | refine JC.region ?_ | refine JC.ret ?_ | refine thenK.nn ?_)
    | (fail)
    | fail
  refine ret2f rfl rfl rfl rfl rfl (fun w1 hw => ⟨_, _, rfl, H.sel (l := [_, _, _, _, _, _, _, _]) (M := L) hw [0, 1, 2, 3], s1, y1, rfl, rfl, hq⟩)
end Go.Proofs.YthnhijdfcmcnhaaGreat
namespace Go.Proofs.YthnhijdfcmcnhaaGreat
open Go Go.Cx Go.RowKit
set_option linter.unusedVariables false
set_option linter.unusedSimpArgs false
set_option maxHeartbeats 4000000
attribute [local irreducible] J JC thenK blockK loopK drawK retK QW Qt pel List.set Calls
open Go.Maps
set_option maxRecDepth 8000
attribute [local irreducible] JE Br eK0 eK3 brK pc
theorem keyedI : Keyed Tryz.prog 3 := int_keyed Tryz.underlying3
def ekI (x : Int) : Value := .int .i64 x
theorem ekI_inj (a b : Int) (h : ekI a = ekI b) : a = b := by unfold ekI at h; injection h
theorem keyI (x : Int) (h : -9223372036854775808 ≤ x ∧ x ≤ 9223372036854775807) : ∃ l, keyOf Tryz.prog 3 (ekI x) = some l := ⟨_, Go.Maps.keyOf_int_mk (q := .i64) (a := x) Tryz.underlying3 (by
  show (decide ((-9223372036854775808 : Int) ≤ x) && decide (x ≤ (9223372036854775807 : Int))) = true
  simp [h])⟩
def rk : List Int → Int → Nat → Option Nat
  | [], _, _ => none
  | x :: l, v, s => if x = v then some s else rk l v (s + 1)
theorem mget_zip : ∀ (l : List Int) (v : Int) (s : Nat), mget (l.zipIdx s) v = rk l v s
  | [], _, _ => rfl
  | x :: l, v, s => by
    have ih := mget_zip l v (s + 1)
    unfold mget at ih ⊢
    rw [List.zipIdx_cons, List.find?_cons]
    by_cases h : x = v
    · rw [rk, if_pos h]; simp [h]
    · rw [rk, if_neg h, ← ih]; simp [h]
theorem rk_some : ∀ {l : List Int} {v : Int} {s k : Nat}, rk l v s = some k → s ≤ k ∧ k < s + l.length ∧ l.getD (k - s) default = v
  | [], _, _, _, h => by cases h
  | x :: l, v, s, k, h => by
    rw [rk] at h
    split at h
    · rename_i hx
      injection h with h; subst h
      exact ⟨Nat.le_refl _, by simp, by rw [Nat.sub_self]; exact hx⟩
    · obtain ⟨h1, h2, h3⟩ := rk_some h
      refine ⟨by omega, by simp only [List.length_cons]; omega, ?_⟩
      rw [show k - s = (k - (s + 1)) + 1 by omega]; exact h3
theorem rk_none : ∀ {l : List Int} {v : Int} {s : Nat}, rk l v s = none ↔ v ∉ l
  | [], _, _ => by simp [rk]
  | x :: l, v, s => by
    rw [rk]
    split
    · rename_i hx; simp [hx]
    · rename_i hx
      rw [rk_none (l := l)]
      simp [show ¬ v = x from fun e => hx e.symm]
theorem rk_at {l : List Int} (hn : l.Nodup) {k : Nat} (hk : k < l.length) : rk l (l.getD k default) 0 = some k := by
  cases h : rk l (l.getD k default) 0 with
  | none =>
    rw [rk_none] at h
    exact absurd (mem_g l k hk) h
  | some j =>
    obtain ⟨_, h2, h3⟩ := rk_some h
    rw [Nat.sub_zero] at h3
    rw [Nat.zero_add] at h2
    congr 1
    rw [List.getD_eq_getElem?_getD, List.getD_eq_getElem?_getD, List.getElem?_eq_getElem h2, List.getElem?_eq_getElem hk] at h3
    have h3 : some l[j] = some l[k] := congrArg some h3
    injection h3 with h3
    have hp := List.pairwise_iff_getElem.1 hn
    rcases Nat.lt_trichotomy j k with g | g | g
    · exact absurd h3 (hp j k h2 hk g)
    · exact g
    · exact absurd h3.symm (hp k j hk h2 g)
structure POk (K : KS) (order : List Int) (hO hP : Heap) : Prop where
  ow : OwT encI 1 3 K.ao K.co order hO
  len : K.no = order.length
  ok : okOrd order
  pm : MapT Tryz.prog 3 ekI evI (order.zipIdx 0) K.bp hP
def ends (n : Nat) : List N3 := [⟨n, 0, 0⟩, ⟨n, 0, 0⟩]
theorem ends_wf (n : Nat) : WF n (ends n) := by
  have hl : (ends n).length = 2 := rfl
  refine ⟨Nat.le_refl _, rfl, rfl, ?_, ?_, ?_, ?_, ?_, ?_, ?_⟩ <;> intro i h2 hi <;> omega
theorem eNew : Entr Tryz.prog 11 := Entr.of Tryz.func11 rfl rfl
theorem eReb : Entr Tryz.prog 43 := Entr.of Tryz.func43 rfl rfl
theorem reb_any (x0 x1 : Value) (an : Option Addr) (cn b : Nat) (h0 : frc x0 = some x0) (h1 : frc x1 = some x1) {w0 w : World} {R : Heap} {L : List Heap} (hw : H w0 R ([(b, Obj.cells ⟨[x0, x1, .slice an 2 cn, .map none, .map none]⟩ 81 (0, 0))] :: L) w) :
    Calls Tryz.prog 43 #[.pointer (some ⟨b, 0, none⟩)] w fun e w' => ∃ v L', e = .returned v ∧ H w0 R L' w' ∧ ∃ bu bi, v = .tuple #[] ∧ L' = [(b, Obj.cells ⟨[x0, x1, .slice an 2 cn, .map (some bu), .map (some bi)]⟩ 81 (0, 0))] :: [(bu, .map ⟨[]⟩ 0)] :: [(bi, .map ⟨[]⟩ 0)] :: L := by
  refine calls_in Tryz.func43 Tryz.ntmps43 rfl rfl (hw) ?_
  repeat' first
    | (refine J.isJ ?_; first | (first | (refine J.o 9 ?_; refine J.mkm (fun bi => ?_))) | (first | (refine J.o 0 ?_; refine J.ev' hΓ ?_) | refine J.nil ?_ | (refine J.o 4 ?_; first | refine J.lR hΓ ?_) | (refine J.o 3 ?_; first | refine J.ev' hΓ ?_) | (refine J.o 5 ?_; first | refine J.t2 hΓ ?_) | (refine J.o 10 ?_; refine J.ev' hΓ ?_) | (refine J.o 11 ?_; refine J.ev' hΓ ?_)))
    | (first | refine JC.seq ?_ | refine JC.region ?_ | refine JC.block ?_ | refine JC.exit ?_ | refine thenK.nn ?_ | refine thenK.x ?_ | refine blockK.hit rfl ?_ | refine JC.condF rfl ?_ | refine loopK.x ?_)
    | (fail)
    | fail
  rename_i bu
  refine JC.loop (fun i => i == 2 || Nat.ble 11 i) (fun m g L' => g 2 = .int .i64 2 ∧ L' = [(bi, .map ⟨[]⟩ 0)] :: [(bu, .map ⟨[]⟩ 0)] :: [(b, Obj.cells ⟨[x0, x1, .slice an 2 cn, .map (some bu), .map (some bi)]⟩ 81 (0, 0))] :: L) 1 ⟨rfl, rfl⟩ ?_
  rintro m g L' ⟨e2, rfl⟩
  refine JC.pin 2 e2 ?_
  repeat' first
    | (refine J.isJ ?_; first | (fail) | (first | (refine J.o 0 ?_; refine J.ev' hΓ ?_) | refine J.nil ?_ | (refine J.o 4 ?_; first | refine J.lR hΓ ?_) | (refine J.o 3 ?_; first | refine J.ev' hΓ ?_) | (refine J.o 5 ?_; first | refine J.t2 hΓ ?_) | (refine J.o 10 ?_; refine J.ev' hΓ ?_) | (refine J.o 11 ?_; refine J.ev' hΓ ?_)))
    | (first | refine JC.seq ?_ | refine JC.region ?_ | refine JC.block ?_ | refine JC.exit ?_ | refine thenK.nn ?_ | refine thenK.x ?_ | refine blockK.hit rfl ?_ | refine JC.condF rfl ?_ | refine loopK.x ?_)
    | (fail)
    | fail
  all_goals first | (exfalso; omega) | skip
  all_goals first | refine ret0 rfl (fun w1 hw => ⟨_, _, rfl, H.sel (l := [_, _, _]) (M := L) hw [2, 1, 0], bu, bi, rfl, rfl⟩) | refine ret0n rfl (fun w1 hw => ⟨_, _, rfl, H.sel (l := [_, _, _]) (M := L) hw [2, 1, 0], bu, bi, rfl, rfl⟩)
theorem new_bad (l : List Int) (a : Option Addr) (c : Nat) (h : Heap) (hs : SlT encI 1 a l h) (hl : l.length ≤ 1000000) (ho : ¬ okOrd l) (w : World) (hw : Holds h w) :
    Calls Tryz.prog 11 #[.slice a l.length c] w fun e w' => e = .returned (.tuple #[.pointer none, .int .i64 1]) ∧ Below w.heap.size w w' := by
  have hle := (cnt_fold l (0, 0)).1
  have hne : cntS (l.foldl withS (0, 0)) ≠ l.length := fun e => ho ((ord_iff l).1 e)
  refine calls_of_JC (R := h) Tryz.func11 Tryz.ntmps11 rfl rfl (hw) ?_
  repeat' first
    | (refine J.isJ ?_; first | (first | (refine J.fc 41 ?_; refine J.call0 eOf rfl rfl (fun w hw => of_any a c l h hs hl w (hw.rdH (RdH.old fun _ hh => hh))) ?_) | (refine J.fc 40 ?_; refine J.call0 eLen rfl rfl (fun w hw => len_any _ (okS_of _ _ okS_zero) w) ?_)) | (first | (refine J.o 0 ?_; refine J.ev' hΓ ?_) | refine J.nil ?_ | (refine J.o 3 ?_; first | refine J.ev' hΓ ?_) | (refine J.o 10 ?_; refine J.ev' hΓ ?_) | (refine J.o 11 ?_; refine J.ev' hΓ ?_)))
    | (first | refine JC.seq ?_ | refine JC.region ?_ | refine JC.ret ?_ | refine thenK.nn ?_ | refine thenK.r ?_ | (refine JC.cond rfl (fun hc => ?_) (fun hc => ?_) <;> ((try simp only [decide_eq_true_eq, decide_eq_false_iff_not, beq_iff_eq, beq_eq_false_iff_ne, bne_iff_ne, bne_eq_false_iff_eq, Bool.not_eq_true', Bool.not_eq_false', Bool.not_eq_true, Bool.not_eq_false] at hc) <;> first | (first | (exact absurd rfl hc) | (exfalso; omega) | (exact absurd (hc.symm.trans (by assumption : _ = false)) (by decide)) | (exact absurd (hc.symm.trans (by assumption : _ = true)) (by decide))) | skip)))
    | (fail)
    | fail
  all_goals first | (exfalso; omega) | skip
  all_goals (refine ret2f rfl rfl rfl rfl rfl (fun w1 hw => ⟨rfl, hw.below⟩))
theorem new_any (l : List Int) (a : Option Addr) (c : Nat) (h : Heap) (hs : SlT encI 1 a l h) (ho : okOrd l) {w0 w : World} {R : Heap} {L : List Heap} (hr : RdH R L h) (hw : H w0 R L w) :
    Calls Tryz.prog 11 #[.slice a l.length c] w fun e w' => ∃ v L', e = .returned v ∧ H w0 R L' w' ∧ ∃ b K s hO hP, v = .tuple #[.pointer (some ⟨b, 0, none⟩), .int .i64 0] ∧ L' = sF K b s ++ (hO :: hP :: L) ∧ SOk l.length K s ∧ s.ns = ends l.length ∧ POk K l hO hP := by
  have hl := ord_le l ho
  have heq : cntS (l.foldl withS (0, 0)) = l.length := (ord_iff l).2 ho
  refine calls_in Tryz.func11 Tryz.ntmps11 rfl rfl (hw) ?_
  repeat' first
    | (refine J.isJ ?_; first | (first | (refine J.fc 41 ?_; refine J.call0 eOf rfl rfl (fun w hw => of_any a c l h hs (by omega) w (hw.rdH hr)) ?_) | (refine J.fc 40 ?_; refine J.call0 eLen rfl rfl (fun w hw => len_any _ (okS_of _ _ okS_zero) w) ?_) | (refine J.o 7 ?_; refine J.al hΓ (fun b4 => ?_))) | (first | (refine J.o 0 ?_; refine J.ev' hΓ ?_) | refine J.nil ?_ | (refine J.o 4 ?_; first | refine J.lT default hΓ ?_ | refine J.lR hΓ ?_) | (refine J.o 3 ?_; first | refine J.iJ hΓ ?_ | refine J.ev' hΓ ?_) | (refine J.o 1 ?_; first | refine J.ad ?_) | (refine J.o 5 ?_; first | refine J.t0 hΓ ?_) | (refine J.o 6 ?_; refine J.bx (fun _ => ?_)) | (refine J.o 7 ?_; refine J.al hΓ (fun _ => ?_)) | (refine J.o 8 ?_; refine J.bd hΓ ?_) | (refine J.o 9 ?_; refine J.bl hΓ (fun _ => ?_)) | (refine J.o 10 ?_; refine J.ev' hΓ ?_) | (refine J.o 11 ?_; refine J.ev' hΓ ?_)))
    | (first | refine JC.seq ?_ | refine JC.region ?_ | refine JC.block ?_ | refine JC.ret ?_ | refine JC.exit ?_ | refine JC.skip ?_ | refine thenK.nn ?_ | refine thenK.x ?_ | refine blockK.nn ?_ | refine blockK.hit rfl ?_ | (refine JC.cond rfl (fun hc => ?_) (fun hc => ?_) <;> ((try simp only [decide_eq_true_eq, decide_eq_false_iff_not, beq_iff_eq, beq_eq_false_iff_ne, bne_iff_ne, bne_eq_false_iff_eq, Bool.not_eq_true', Bool.not_eq_false', Bool.not_eq_true, Bool.not_eq_false] at hc) <;> first | (first | (exact absurd rfl hc) | (exfalso; omega) | (exact absurd (hc.symm.trans (by assumption : _ = false)) (by decide)) | (exact absurd (hc.symm.trans (by assumption : _ = true)) (by decide))) | skip)) | refine loopK.x ?_)
    | (fail)
    | fail
  all_goals first | (exfalso; omega) | skip
  refine JC.mid (fun i => i == 5 || Nat.ble 17 i) (fun g L' => ∃ b bp bn a1 c1 hO, g 5 = .pointer (some ⟨b, 0, none⟩) ∧ OwT encI 1 3 a1 c1 l hO ∧ L'.Perm ([(b, Obj.cells ⟨[.slice a1 l.length c1, .map (some bp), .slice (some ⟨bn, 0, none⟩) 2 2, .map none, .map none]⟩ 81 (0, 0))] :: [(bn, Obj.cells ⟨[.int .i64 (l.length : Int), .int .i64 0, .int .i64 0, .int .i64 (l.length : Int), .int .i64 0, .int .i64 0]⟩ 74 (0, 0))] :: [(bp, .map ⟨[]⟩ 0)] :: hO :: [(b4, Obj.cells ⟨[.int .i64 (l.length : Int), .int .i64 0, .int .i64 0]⟩ 74 (0, 0))] :: L)) ?_ ?_
  ·
    refine JC.drawE [[(b4, Obj.cells ⟨[.int .i64 (l.length : Int), .int .i64 0, .int .i64 0]⟩ 74 (0, 0))]] [1, 2, 5, 7] [1, 2, 5, 7] [(0,0),(4,3),(4,4)] 6 _ (by kernel_rfl) (by kernel_rfl) rfl ?_
    repeat' first
      | (refine J.isJ ?_; first | (fail) | (first | (refine J.o 0 ?_; refine J.ev' hΓ ?_) | refine J.nil ?_ | (refine J.o 4 ?_; first | refine J.lT default hΓ ?_ | refine J.lR hΓ ?_) | (refine J.o 3 ?_; first | refine J.iJ hΓ ?_ | refine J.ev' hΓ ?_) | (refine J.o 1 ?_; first | refine J.ad ?_) | (refine J.o 5 ?_; first | refine J.t0 hΓ ?_) | (refine J.o 6 ?_; refine J.bx (fun _ => ?_)) | (refine J.o 7 ?_; refine J.al hΓ (fun _ => ?_)) | (refine J.o 8 ?_; refine J.bd hΓ ?_) | (refine J.o 9 ?_; refine J.bl hΓ (fun _ => ?_)) | (refine J.o 10 ?_; refine J.ev' hΓ ?_) | (refine J.o 11 ?_; refine J.ev' hΓ ?_)))
      | (first | (refine JE.is ?_; first | refine JE.s0 ?_ | refine JE.s3 ?_ | refine JE.nil ?_ | refine JE.s4 rfl (fun w hw => hw.subl (by repeat (first | exact List.nil_sublist _ | exact List.Sublist.refl _ | refine List.Sublist.cons_cons _ ?_ | refine List.Sublist.cons _ ?_))) ?_) | refine eK0.nn ?_ | (refine eK3.is ?_; refine eK3.nn (fun w hw => hw.subl (by repeat (first | exact List.nil_sublist _ | exact List.Sublist.refl _ | refine List.Sublist.cons_cons _ ?_ | refine List.Sublist.cons _ ?_))) ?_) | refine brK.nn ?_)
      | (first | refine JC.seq ?_ | refine JC.region ?_ | refine JC.block ?_ | refine JC.ret ?_ | refine JC.exit ?_ | refine JC.skip ?_ | refine thenK.nn ?_ | refine thenK.x ?_ | refine blockK.nn ?_ | refine blockK.hit rfl ?_ | (refine JC.cond rfl (fun hc => ?_) (fun hc => ?_) <;> ((try simp only [decide_eq_true_eq, decide_eq_false_iff_not, beq_iff_eq, beq_eq_false_iff_ne, bne_iff_ne, bne_eq_false_iff_eq, Bool.not_eq_true', Bool.not_eq_false', Bool.not_eq_true, Bool.not_eq_false] at hc) <;> first | (first | (exact absurd rfl hc) | (exfalso; omega) | (exact absurd (hc.symm.trans (by assumption : _ = false)) (by decide)) | (exact absurd (hc.symm.trans (by assumption : _ = true)) (by decide))) | skip)) | refine loopK.x ?_)
      | (fail)
      | fail
    refine Br.three (c1 := 1) (c2 := 1) (c3 := 1) (m1 := 5) (m2 := 5) (m3 := 5) 1 2 5 [] [] [] (by decide +kernel) rfl rfl rfl (by decide +kernel) rfl (by decide +kernel) rfl (by decide +kernel) rfl ?_ ?_ ?_
    ·
      repeat' first
        | (refine J.isJ ?_; first | (first | (refine J.fc 42 ?_; refine J.call1 eClone rfl rfl (fun w hw => clone_any a c l h hs (by omega) w (hw.rdH (by first | exact hr.tl | exact hr.tl.tl | exact hr.tl.tl.tl))) ?_; rintro _ hg ⟨a1, c1, rfl, o1⟩) | (refine J.o 9 ?_; first | refine J.mkm (fun bp => ?_) | refine J.bl hΓ (fun bn => ?_)) | (refine J.o 6 ?_; refine J.bx (fun b => ?_))) | (first | (refine J.o 0 ?_; refine J.ev' hΓ ?_) | refine J.nil ?_ | (refine J.o 4 ?_; first | refine J.lT default hΓ ?_ | refine J.lR hΓ ?_) | (refine J.o 3 ?_; first | refine J.iJ hΓ ?_ | refine J.ev' hΓ ?_) | (refine J.o 1 ?_; first | refine J.ad ?_) | (refine J.o 5 ?_; first | refine J.t0 hΓ ?_) | (refine J.o 6 ?_; refine J.bx (fun _ => ?_)) | (refine J.o 7 ?_; refine J.al hΓ (fun _ => ?_)) | (refine J.o 8 ?_; refine J.bd hΓ ?_) | (refine J.o 9 ?_; refine J.bl hΓ (fun _ => ?_)) | (refine J.o 10 ?_; refine J.ev' hΓ ?_) | (refine J.o 11 ?_; refine J.ev' hΓ ?_)))
        | (first | (refine JE.is ?_; first | refine JE.s0 ?_ | refine JE.s3 ?_ | refine JE.nil ?_ | refine JE.s4 rfl (fun w hw => hw.subl (by repeat (first | exact List.nil_sublist _ | exact List.Sublist.refl _ | refine List.Sublist.cons_cons _ ?_ | refine List.Sublist.cons _ ?_))) ?_) | refine eK0.nn ?_ | (refine eK3.is ?_; refine eK3.nn (fun w hw => hw.subl (by repeat (first | exact List.nil_sublist _ | exact List.Sublist.refl _ | refine List.Sublist.cons_cons _ ?_ | refine List.Sublist.cons _ ?_))) ?_) | refine brK.nn ?_)
        | (first | refine JC.seq ?_ | refine JC.region ?_ | refine JC.block ?_ | refine JC.ret ?_ | refine JC.exit ?_ | refine JC.skip ?_ | refine thenK.nn ?_ | refine thenK.x ?_ | refine blockK.nn ?_ | refine blockK.hit rfl ?_ | (refine JC.cond rfl (fun hc => ?_) (fun hc => ?_) <;> ((try simp only [decide_eq_true_eq, decide_eq_false_iff_not, beq_iff_eq, beq_eq_false_iff_ne, bne_iff_ne, bne_eq_false_iff_eq, Bool.not_eq_true', Bool.not_eq_false', Bool.not_eq_true, Bool.not_eq_false] at hc) <;> first | (first | (exact absurd rfl hc) | (exfalso; omega) | (exact absurd (hc.symm.trans (by assumption : _ = false)) (by decide)) | (exact absurd (hc.symm.trans (by assumption : _ = true)) (by decide))) | skip)) | refine loopK.x ?_)
        | (fail)
        | fail
      refine Br.two (c1 := 1) (c2 := 1) (m1 := 0) (m2 := 0) 2 5 [(3, 5), (0, 6), (3, 7), (0, 8)] [(3, 2), (0, 6), (3, 7), (0, 8)] (by decide +kernel) rfl rfl (by decide +kernel) rfl (by decide +kernel) rfl ?_ ?_
      ·
        repeat' first
          | (refine J.isJ ?_; first | (first | (refine J.fc 42 ?_; refine J.call1 eClone rfl rfl (fun w hw => clone_any a c l h hs (by omega) w (hw.rdH (by first | exact hr.tl | exact hr.tl.tl | exact hr.tl.tl.tl))) ?_; rintro _ hg ⟨a1, c1, rfl, o1⟩) | (refine J.o 9 ?_; first | refine J.mkm (fun bp => ?_) | refine J.bl hΓ (fun bn => ?_)) | (refine J.o 6 ?_; refine J.bx (fun b => ?_))) | (first | (refine J.o 0 ?_; refine J.ev' hΓ ?_) | refine J.nil ?_ | (refine J.o 4 ?_; first | refine J.lT default hΓ ?_ | refine J.lR hΓ ?_) | (refine J.o 3 ?_; first | refine J.iJ hΓ ?_ | refine J.ev' hΓ ?_) | (refine J.o 1 ?_; first | refine J.ad ?_) | (refine J.o 5 ?_; first | refine J.t0 hΓ ?_) | (refine J.o 6 ?_; refine J.bx (fun _ => ?_)) | (refine J.o 7 ?_; refine J.al hΓ (fun _ => ?_)) | (refine J.o 8 ?_; refine J.bd hΓ ?_) | (refine J.o 9 ?_; refine J.bl hΓ (fun _ => ?_)) | (refine J.o 10 ?_; refine J.ev' hΓ ?_) | (refine J.o 11 ?_; refine J.ev' hΓ ?_)))
          | (first | (refine JE.is ?_; first | refine JE.s0 ?_ | refine JE.s3 ?_ | refine JE.nil ?_ | refine JE.s4 rfl (fun w hw => hw.subl (by repeat (first | exact List.nil_sublist _ | exact List.Sublist.refl _ | refine List.Sublist.cons_cons _ ?_ | refine List.Sublist.cons _ ?_))) ?_) | refine eK0.nn ?_ | (refine eK3.is ?_; refine eK3.nn (fun w hw => hw.subl (by repeat (first | exact List.nil_sublist _ | exact List.Sublist.refl _ | refine List.Sublist.cons_cons _ ?_ | refine List.Sublist.cons _ ?_))) ?_) | refine brK.nn ?_)
          | (first | refine JC.seq ?_ | refine JC.region ?_ | refine JC.block ?_ | refine JC.ret ?_ | refine JC.exit ?_ | refine JC.skip ?_ | refine thenK.nn ?_ | refine thenK.x ?_ | refine blockK.nn ?_ | refine blockK.hit rfl ?_ | (refine JC.cond rfl (fun hc => ?_) (fun hc => ?_) <;> ((try simp only [decide_eq_true_eq, decide_eq_false_iff_not, beq_iff_eq, beq_eq_false_iff_ne, bne_iff_ne, bne_eq_false_iff_eq, Bool.not_eq_true', Bool.not_eq_false', Bool.not_eq_true, Bool.not_eq_false] at hc) <;> first | (first | (exact absurd rfl hc) | (exfalso; omega) | (exact absurd (hc.symm.trans (by assumption : _ = false)) (by decide)) | (exact absurd (hc.symm.trans (by assumption : _ = true)) (by decide))) | skip)) | refine loopK.x ?_)
          | (fail)
          | fail
        refine Br.done (by kernel_rfl) ?_
        refine midK.nn (by repeat (first | refine Ag.upd rfl ?_ | exact Ag.rfl')) ⟨_, _, _, _, _, _, rfl, o1, (List.Perm.cons _ ?_)⟩
        first | exact .refl _ | exact br1 | exact br1.cons _ | exact br2 | exact br2.symm | exact br2.trans (br1.cons _)
      ·
        repeat' first
          | (refine J.isJ ?_; first | (first | (refine J.fc 42 ?_; refine J.call1 eClone rfl rfl (fun w hw => clone_any a c l h hs (by omega) w (hw.rdH (by first | exact hr.tl | exact hr.tl.tl | exact hr.tl.tl.tl))) ?_; rintro _ hg ⟨a1, c1, rfl, o1⟩) | (refine J.o 9 ?_; first | refine J.mkm (fun bp => ?_) | refine J.bl hΓ (fun bn => ?_)) | (refine J.o 6 ?_; refine J.bx (fun b => ?_))) | (first | (refine J.o 0 ?_; refine J.ev' hΓ ?_) | refine J.nil ?_ | (refine J.o 4 ?_; first | refine J.lT default hΓ ?_ | refine J.lR hΓ ?_) | (refine J.o 3 ?_; first | refine J.iJ hΓ ?_ | refine J.ev' hΓ ?_) | (refine J.o 1 ?_; first | refine J.ad ?_) | (refine J.o 5 ?_; first | refine J.t0 hΓ ?_) | (refine J.o 6 ?_; refine J.bx (fun _ => ?_)) | (refine J.o 7 ?_; refine J.al hΓ (fun _ => ?_)) | (refine J.o 8 ?_; refine J.bd hΓ ?_) | (refine J.o 9 ?_; refine J.bl hΓ (fun _ => ?_)) | (refine J.o 10 ?_; refine J.ev' hΓ ?_) | (refine J.o 11 ?_; refine J.ev' hΓ ?_)))
          | (first | (refine JE.is ?_; first | refine JE.s0 ?_ | refine JE.s3 ?_ | refine JE.nil ?_ | refine JE.s4 rfl (fun w hw => hw.subl (by repeat (first | exact List.nil_sublist _ | exact List.Sublist.refl _ | refine List.Sublist.cons_cons _ ?_ | refine List.Sublist.cons _ ?_))) ?_) | refine eK0.nn ?_ | (refine eK3.is ?_; refine eK3.nn (fun w hw => hw.subl (by repeat (first | exact List.nil_sublist _ | exact List.Sublist.refl _ | refine List.Sublist.cons_cons _ ?_ | refine List.Sublist.cons _ ?_))) ?_) | refine brK.nn ?_)
          | (first | refine JC.seq ?_ | refine JC.region ?_ | refine JC.block ?_ | refine JC.ret ?_ | refine JC.exit ?_ | refine JC.skip ?_ | refine thenK.nn ?_ | refine thenK.x ?_ | refine blockK.nn ?_ | refine blockK.hit rfl ?_ | (refine JC.cond rfl (fun hc => ?_) (fun hc => ?_) <;> ((try simp only [decide_eq_true_eq, decide_eq_false_iff_not, beq_iff_eq, beq_eq_false_iff_ne, bne_iff_ne, bne_eq_false_iff_eq, Bool.not_eq_true', Bool.not_eq_false', Bool.not_eq_true, Bool.not_eq_false] at hc) <;> first | (first | (exact absurd rfl hc) | (exfalso; omega) | (exact absurd (hc.symm.trans (by assumption : _ = false)) (by decide)) | (exact absurd (hc.symm.trans (by assumption : _ = true)) (by decide))) | skip)) | refine loopK.x ?_)
          | (fail)
          | fail
        refine Br.done (by kernel_rfl) ?_
        refine midK.nn (by repeat (first | refine Ag.upd rfl ?_ | exact Ag.rfl')) ⟨_, _, _, _, _, _, rfl, o1, (List.Perm.cons _ ?_)⟩
        first | exact .refl _ | exact br1 | exact br1.cons _ | exact br2 | exact br2.symm | exact br2.trans (br1.cons _)
    ·
      repeat' first
        | (refine J.isJ ?_; first | (first | (refine J.fc 42 ?_; refine J.call1 eClone rfl rfl (fun w hw => clone_any a c l h hs (by omega) w (hw.rdH (by first | exact hr.tl | exact hr.tl.tl | exact hr.tl.tl.tl))) ?_; rintro _ hg ⟨a1, c1, rfl, o1⟩) | (refine J.o 9 ?_; first | refine J.mkm (fun bp => ?_) | refine J.bl hΓ (fun bn => ?_)) | (refine J.o 6 ?_; refine J.bx (fun b => ?_))) | (first | (refine J.o 0 ?_; refine J.ev' hΓ ?_) | refine J.nil ?_ | (refine J.o 4 ?_; first | refine J.lT default hΓ ?_ | refine J.lR hΓ ?_) | (refine J.o 3 ?_; first | refine J.iJ hΓ ?_ | refine J.ev' hΓ ?_) | (refine J.o 1 ?_; first | refine J.ad ?_) | (refine J.o 5 ?_; first | refine J.t0 hΓ ?_) | (refine J.o 6 ?_; refine J.bx (fun _ => ?_)) | (refine J.o 7 ?_; refine J.al hΓ (fun _ => ?_)) | (refine J.o 8 ?_; refine J.bd hΓ ?_) | (refine J.o 9 ?_; refine J.bl hΓ (fun _ => ?_)) | (refine J.o 10 ?_; refine J.ev' hΓ ?_) | (refine J.o 11 ?_; refine J.ev' hΓ ?_)))
        | (first | (refine JE.is ?_; first | refine JE.s0 ?_ | refine JE.s3 ?_ | refine JE.nil ?_ | refine JE.s4 rfl (fun w hw => hw.subl (by repeat (first | exact List.nil_sublist _ | exact List.Sublist.refl _ | refine List.Sublist.cons_cons _ ?_ | refine List.Sublist.cons _ ?_))) ?_) | refine eK0.nn ?_ | (refine eK3.is ?_; refine eK3.nn (fun w hw => hw.subl (by repeat (first | exact List.nil_sublist _ | exact List.Sublist.refl _ | refine List.Sublist.cons_cons _ ?_ | refine List.Sublist.cons _ ?_))) ?_) | refine brK.nn ?_)
        | (first | refine JC.seq ?_ | refine JC.region ?_ | refine JC.block ?_ | refine JC.ret ?_ | refine JC.exit ?_ | refine JC.skip ?_ | refine thenK.nn ?_ | refine thenK.x ?_ | refine blockK.nn ?_ | refine blockK.hit rfl ?_ | (refine JC.cond rfl (fun hc => ?_) (fun hc => ?_) <;> ((try simp only [decide_eq_true_eq, decide_eq_false_iff_not, beq_iff_eq, beq_eq_false_iff_ne, bne_iff_ne, bne_eq_false_iff_eq, Bool.not_eq_true', Bool.not_eq_false', Bool.not_eq_true, Bool.not_eq_false] at hc) <;> first | (first | (exact absurd rfl hc) | (exfalso; omega) | (exact absurd (hc.symm.trans (by assumption : _ = false)) (by decide)) | (exact absurd (hc.symm.trans (by assumption : _ = true)) (by decide))) | skip)) | refine loopK.x ?_)
        | (fail)
        | fail
      refine Br.two (c1 := 1) (c2 := 1) (m1 := 0) (m2 := 0) 1 5 [(3, 5), (0, 6), (3, 7), (0, 8)] [(3, 1), (0, 6), (3, 7), (0, 8)] (by decide +kernel) rfl rfl (by decide +kernel) rfl (by decide +kernel) rfl ?_ ?_
      ·
        repeat' first
          | (refine J.isJ ?_; first | (first | (refine J.fc 42 ?_; refine J.call1 eClone rfl rfl (fun w hw => clone_any a c l h hs (by omega) w (hw.rdH (by first | exact hr.tl | exact hr.tl.tl | exact hr.tl.tl.tl))) ?_; rintro _ hg ⟨a1, c1, rfl, o1⟩) | (refine J.o 9 ?_; first | refine J.mkm (fun bp => ?_) | refine J.bl hΓ (fun bn => ?_)) | (refine J.o 6 ?_; refine J.bx (fun b => ?_))) | (first | (refine J.o 0 ?_; refine J.ev' hΓ ?_) | refine J.nil ?_ | (refine J.o 4 ?_; first | refine J.lT default hΓ ?_ | refine J.lR hΓ ?_) | (refine J.o 3 ?_; first | refine J.iJ hΓ ?_ | refine J.ev' hΓ ?_) | (refine J.o 1 ?_; first | refine J.ad ?_) | (refine J.o 5 ?_; first | refine J.t0 hΓ ?_) | (refine J.o 6 ?_; refine J.bx (fun _ => ?_)) | (refine J.o 7 ?_; refine J.al hΓ (fun _ => ?_)) | (refine J.o 8 ?_; refine J.bd hΓ ?_) | (refine J.o 9 ?_; refine J.bl hΓ (fun _ => ?_)) | (refine J.o 10 ?_; refine J.ev' hΓ ?_) | (refine J.o 11 ?_; refine J.ev' hΓ ?_)))
          | (first | (refine JE.is ?_; first | refine JE.s0 ?_ | refine JE.s3 ?_ | refine JE.nil ?_ | refine JE.s4 rfl (fun w hw => hw.subl (by repeat (first | exact List.nil_sublist _ | exact List.Sublist.refl _ | refine List.Sublist.cons_cons _ ?_ | refine List.Sublist.cons _ ?_))) ?_) | refine eK0.nn ?_ | (refine eK3.is ?_; refine eK3.nn (fun w hw => hw.subl (by repeat (first | exact List.nil_sublist _ | exact List.Sublist.refl _ | refine List.Sublist.cons_cons _ ?_ | refine List.Sublist.cons _ ?_))) ?_) | refine brK.nn ?_)
          | (first | refine JC.seq ?_ | refine JC.region ?_ | refine JC.block ?_ | refine JC.ret ?_ | refine JC.exit ?_ | refine JC.skip ?_ | refine thenK.nn ?_ | refine thenK.x ?_ | refine blockK.nn ?_ | refine blockK.hit rfl ?_ | (refine JC.cond rfl (fun hc => ?_) (fun hc => ?_) <;> ((try simp only [decide_eq_true_eq, decide_eq_false_iff_not, beq_iff_eq, beq_eq_false_iff_ne, bne_iff_ne, bne_eq_false_iff_eq, Bool.not_eq_true', Bool.not_eq_false', Bool.not_eq_true, Bool.not_eq_false] at hc) <;> first | (first | (exact absurd rfl hc) | (exfalso; omega) | (exact absurd (hc.symm.trans (by assumption : _ = false)) (by decide)) | (exact absurd (hc.symm.trans (by assumption : _ = true)) (by decide))) | skip)) | refine loopK.x ?_)
          | (fail)
          | fail
        refine Br.done (by kernel_rfl) ?_
        refine midK.nn (by repeat (first | refine Ag.upd rfl ?_ | exact Ag.rfl')) ⟨_, _, _, _, _, _, rfl, o1, (List.Perm.cons _ ?_)⟩
        first | exact .refl _ | exact br1 | exact br1.cons _ | exact br2 | exact br2.symm | exact br2.trans (br1.cons _)
      ·
        repeat' first
          | (refine J.isJ ?_; first | (first | (refine J.fc 42 ?_; refine J.call1 eClone rfl rfl (fun w hw => clone_any a c l h hs (by omega) w (hw.rdH (by first | exact hr.tl | exact hr.tl.tl | exact hr.tl.tl.tl))) ?_; rintro _ hg ⟨a1, c1, rfl, o1⟩) | (refine J.o 9 ?_; first | refine J.mkm (fun bp => ?_) | refine J.bl hΓ (fun bn => ?_)) | (refine J.o 6 ?_; refine J.bx (fun b => ?_))) | (first | (refine J.o 0 ?_; refine J.ev' hΓ ?_) | refine J.nil ?_ | (refine J.o 4 ?_; first | refine J.lT default hΓ ?_ | refine J.lR hΓ ?_) | (refine J.o 3 ?_; first | refine J.iJ hΓ ?_ | refine J.ev' hΓ ?_) | (refine J.o 1 ?_; first | refine J.ad ?_) | (refine J.o 5 ?_; first | refine J.t0 hΓ ?_) | (refine J.o 6 ?_; refine J.bx (fun _ => ?_)) | (refine J.o 7 ?_; refine J.al hΓ (fun _ => ?_)) | (refine J.o 8 ?_; refine J.bd hΓ ?_) | (refine J.o 9 ?_; refine J.bl hΓ (fun _ => ?_)) | (refine J.o 10 ?_; refine J.ev' hΓ ?_) | (refine J.o 11 ?_; refine J.ev' hΓ ?_)))
          | (first | (refine JE.is ?_; first | refine JE.s0 ?_ | refine JE.s3 ?_ | refine JE.nil ?_ | refine JE.s4 rfl (fun w hw => hw.subl (by repeat (first | exact List.nil_sublist _ | exact List.Sublist.refl _ | refine List.Sublist.cons_cons _ ?_ | refine List.Sublist.cons _ ?_))) ?_) | refine eK0.nn ?_ | (refine eK3.is ?_; refine eK3.nn (fun w hw => hw.subl (by repeat (first | exact List.nil_sublist _ | exact List.Sublist.refl _ | refine List.Sublist.cons_cons _ ?_ | refine List.Sublist.cons _ ?_))) ?_) | refine brK.nn ?_)
          | (first | refine JC.seq ?_ | refine JC.region ?_ | refine JC.block ?_ | refine JC.ret ?_ | refine JC.exit ?_ | refine JC.skip ?_ | refine thenK.nn ?_ | refine thenK.x ?_ | refine blockK.nn ?_ | refine blockK.hit rfl ?_ | (refine JC.cond rfl (fun hc => ?_) (fun hc => ?_) <;> ((try simp only [decide_eq_true_eq, decide_eq_false_iff_not, beq_iff_eq, beq_eq_false_iff_ne, bne_iff_ne, bne_eq_false_iff_eq, Bool.not_eq_true', Bool.not_eq_false', Bool.not_eq_true, Bool.not_eq_false] at hc) <;> first | (first | (exact absurd rfl hc) | (exfalso; omega) | (exact absurd (hc.symm.trans (by assumption : _ = false)) (by decide)) | (exact absurd (hc.symm.trans (by assumption : _ = true)) (by decide))) | skip)) | refine loopK.x ?_)
          | (fail)
          | fail
        refine Br.done (by kernel_rfl) ?_
        refine midK.nn (by repeat (first | refine Ag.upd rfl ?_ | exact Ag.rfl')) ⟨_, _, _, _, _, _, rfl, o1, (List.Perm.cons _ ?_)⟩
        first | exact .refl _ | exact br1 | exact br1.cons _ | exact br2 | exact br2.symm | exact br2.trans (br1.cons _)
    ·
      repeat' first
        | (refine J.isJ ?_; first | (first | (refine J.fc 42 ?_; refine J.call1 eClone rfl rfl (fun w hw => clone_any a c l h hs (by omega) w (hw.rdH (by first | exact hr.tl | exact hr.tl.tl | exact hr.tl.tl.tl))) ?_; rintro _ hg ⟨a1, c1, rfl, o1⟩) | (refine J.o 9 ?_; first | refine J.mkm (fun bp => ?_) | refine J.bl hΓ (fun bn => ?_)) | (refine J.o 6 ?_; refine J.bx (fun b => ?_))) | (first | (refine J.o 0 ?_; refine J.ev' hΓ ?_) | refine J.nil ?_ | (refine J.o 4 ?_; first | refine J.lT default hΓ ?_ | refine J.lR hΓ ?_) | (refine J.o 3 ?_; first | refine J.iJ hΓ ?_ | refine J.ev' hΓ ?_) | (refine J.o 1 ?_; first | refine J.ad ?_) | (refine J.o 5 ?_; first | refine J.t0 hΓ ?_) | (refine J.o 6 ?_; refine J.bx (fun _ => ?_)) | (refine J.o 7 ?_; refine J.al hΓ (fun _ => ?_)) | (refine J.o 8 ?_; refine J.bd hΓ ?_) | (refine J.o 9 ?_; refine J.bl hΓ (fun _ => ?_)) | (refine J.o 10 ?_; refine J.ev' hΓ ?_) | (refine J.o 11 ?_; refine J.ev' hΓ ?_)))
        | (first | (refine JE.is ?_; first | refine JE.s0 ?_ | refine JE.s3 ?_ | refine JE.nil ?_ | refine JE.s4 rfl (fun w hw => hw.subl (by repeat (first | exact List.nil_sublist _ | exact List.Sublist.refl _ | refine List.Sublist.cons_cons _ ?_ | refine List.Sublist.cons _ ?_))) ?_) | refine eK0.nn ?_ | (refine eK3.is ?_; refine eK3.nn (fun w hw => hw.subl (by repeat (first | exact List.nil_sublist _ | exact List.Sublist.refl _ | refine List.Sublist.cons_cons _ ?_ | refine List.Sublist.cons _ ?_))) ?_) | refine brK.nn ?_)
        | (first | refine JC.seq ?_ | refine JC.region ?_ | refine JC.block ?_ | refine JC.ret ?_ | refine JC.exit ?_ | refine JC.skip ?_ | refine thenK.nn ?_ | refine thenK.x ?_ | refine blockK.nn ?_ | refine blockK.hit rfl ?_ | (refine JC.cond rfl (fun hc => ?_) (fun hc => ?_) <;> ((try simp only [decide_eq_true_eq, decide_eq_false_iff_not, beq_iff_eq, beq_eq_false_iff_ne, bne_iff_ne, bne_eq_false_iff_eq, Bool.not_eq_true', Bool.not_eq_false', Bool.not_eq_true, Bool.not_eq_false] at hc) <;> first | (first | (exact absurd rfl hc) | (exfalso; omega) | (exact absurd (hc.symm.trans (by assumption : _ = false)) (by decide)) | (exact absurd (hc.symm.trans (by assumption : _ = true)) (by decide))) | skip)) | refine loopK.x ?_)
        | (fail)
        | fail
      refine Br.two (c1 := 1) (c2 := 1) (m1 := 0) (m2 := 0) 1 2 [(3, 2), (0, 6), (3, 7), (0, 8)] [(3, 1), (0, 6), (3, 7), (0, 8)] (by decide +kernel) rfl rfl (by decide +kernel) rfl (by decide +kernel) rfl ?_ ?_
      ·
        repeat' first
          | (refine J.isJ ?_; first | (first | (refine J.fc 42 ?_; refine J.call1 eClone rfl rfl (fun w hw => clone_any a c l h hs (by omega) w (hw.rdH (by first | exact hr.tl | exact hr.tl.tl | exact hr.tl.tl.tl))) ?_; rintro _ hg ⟨a1, c1, rfl, o1⟩) | (refine J.o 9 ?_; first | refine J.mkm (fun bp => ?_) | refine J.bl hΓ (fun bn => ?_)) | (refine J.o 6 ?_; refine J.bx (fun b => ?_))) | (first | (refine J.o 0 ?_; refine J.ev' hΓ ?_) | refine J.nil ?_ | (refine J.o 4 ?_; first | refine J.lT default hΓ ?_ | refine J.lR hΓ ?_) | (refine J.o 3 ?_; first | refine J.iJ hΓ ?_ | refine J.ev' hΓ ?_) | (refine J.o 1 ?_; first | refine J.ad ?_) | (refine J.o 5 ?_; first | refine J.t0 hΓ ?_) | (refine J.o 6 ?_; refine J.bx (fun _ => ?_)) | (refine J.o 7 ?_; refine J.al hΓ (fun _ => ?_)) | (refine J.o 8 ?_; refine J.bd hΓ ?_) | (refine J.o 9 ?_; refine J.bl hΓ (fun _ => ?_)) | (refine J.o 10 ?_; refine J.ev' hΓ ?_) | (refine J.o 11 ?_; refine J.ev' hΓ ?_)))
          | (first | (refine JE.is ?_; first | refine JE.s0 ?_ | refine JE.s3 ?_ | refine JE.nil ?_ | refine JE.s4 rfl (fun w hw => hw.subl (by repeat (first | exact List.nil_sublist _ | exact List.Sublist.refl _ | refine List.Sublist.cons_cons _ ?_ | refine List.Sublist.cons _ ?_))) ?_) | refine eK0.nn ?_ | (refine eK3.is ?_; refine eK3.nn (fun w hw => hw.subl (by repeat (first | exact List.nil_sublist _ | exact List.Sublist.refl _ | refine List.Sublist.cons_cons _ ?_ | refine List.Sublist.cons _ ?_))) ?_) | refine brK.nn ?_)
          | (first | refine JC.seq ?_ | refine JC.region ?_ | refine JC.block ?_ | refine JC.ret ?_ | refine JC.exit ?_ | refine JC.skip ?_ | refine thenK.nn ?_ | refine thenK.x ?_ | refine blockK.nn ?_ | refine blockK.hit rfl ?_ | (refine JC.cond rfl (fun hc => ?_) (fun hc => ?_) <;> ((try simp only [decide_eq_true_eq, decide_eq_false_iff_not, beq_iff_eq, beq_eq_false_iff_ne, bne_iff_ne, bne_eq_false_iff_eq, Bool.not_eq_true', Bool.not_eq_false', Bool.not_eq_true, Bool.not_eq_false] at hc) <;> first | (first | (exact absurd rfl hc) | (exfalso; omega) | (exact absurd (hc.symm.trans (by assumption : _ = false)) (by decide)) | (exact absurd (hc.symm.trans (by assumption : _ = true)) (by decide))) | skip)) | refine loopK.x ?_)
          | (fail)
          | fail
        refine Br.done (by kernel_rfl) ?_
        refine midK.nn (by repeat (first | refine Ag.upd rfl ?_ | exact Ag.rfl')) ⟨_, _, _, _, _, _, rfl, o1, (List.Perm.cons _ ?_)⟩
        first | exact .refl _ | exact br1 | exact br1.cons _ | exact br2 | exact br2.symm | exact br2.trans (br1.cons _)
      ·
        repeat' first
          | (refine J.isJ ?_; first | (first | (refine J.fc 42 ?_; refine J.call1 eClone rfl rfl (fun w hw => clone_any a c l h hs (by omega) w (hw.rdH (by first | exact hr.tl | exact hr.tl.tl | exact hr.tl.tl.tl))) ?_; rintro _ hg ⟨a1, c1, rfl, o1⟩) | (refine J.o 9 ?_; first | refine J.mkm (fun bp => ?_) | refine J.bl hΓ (fun bn => ?_)) | (refine J.o 6 ?_; refine J.bx (fun b => ?_))) | (first | (refine J.o 0 ?_; refine J.ev' hΓ ?_) | refine J.nil ?_ | (refine J.o 4 ?_; first | refine J.lT default hΓ ?_ | refine J.lR hΓ ?_) | (refine J.o 3 ?_; first | refine J.iJ hΓ ?_ | refine J.ev' hΓ ?_) | (refine J.o 1 ?_; first | refine J.ad ?_) | (refine J.o 5 ?_; first | refine J.t0 hΓ ?_) | (refine J.o 6 ?_; refine J.bx (fun _ => ?_)) | (refine J.o 7 ?_; refine J.al hΓ (fun _ => ?_)) | (refine J.o 8 ?_; refine J.bd hΓ ?_) | (refine J.o 9 ?_; refine J.bl hΓ (fun _ => ?_)) | (refine J.o 10 ?_; refine J.ev' hΓ ?_) | (refine J.o 11 ?_; refine J.ev' hΓ ?_)))
          | (first | (refine JE.is ?_; first | refine JE.s0 ?_ | refine JE.s3 ?_ | refine JE.nil ?_ | refine JE.s4 rfl (fun w hw => hw.subl (by repeat (first | exact List.nil_sublist _ | exact List.Sublist.refl _ | refine List.Sublist.cons_cons _ ?_ | refine List.Sublist.cons _ ?_))) ?_) | refine eK0.nn ?_ | (refine eK3.is ?_; refine eK3.nn (fun w hw => hw.subl (by repeat (first | exact List.nil_sublist _ | exact List.Sublist.refl _ | refine List.Sublist.cons_cons _ ?_ | refine List.Sublist.cons _ ?_))) ?_) | refine brK.nn ?_)
          | (first | refine JC.seq ?_ | refine JC.region ?_ | refine JC.block ?_ | refine JC.ret ?_ | refine JC.exit ?_ | refine JC.skip ?_ | refine thenK.nn ?_ | refine thenK.x ?_ | refine blockK.nn ?_ | refine blockK.hit rfl ?_ | (refine JC.cond rfl (fun hc => ?_) (fun hc => ?_) <;> ((try simp only [decide_eq_true_eq, decide_eq_false_iff_not, beq_iff_eq, beq_eq_false_iff_ne, bne_iff_ne, bne_eq_false_iff_eq, Bool.not_eq_true', Bool.not_eq_false', Bool.not_eq_true, Bool.not_eq_false] at hc) <;> first | (first | (exact absurd rfl hc) | (exfalso; omega) | (exact absurd (hc.symm.trans (by assumption : _ = false)) (by decide)) | (exact absurd (hc.symm.trans (by assumption : _ = true)) (by decide))) | skip)) | refine loopK.x ?_)
          | (fail)
          | fail
        refine Br.done (by kernel_rfl) ?_
        refine midK.nn (by repeat (first | refine Ag.upd rfl ?_ | exact Ag.rfl')) ⟨_, _, _, _, _, _, rfl, o1, (List.Perm.cons _ ?_)⟩
        first | exact .refl _ | exact br1 | exact br1.cons _ | exact br2 | exact br2.symm | exact br2.trans (br1.cons _)
  rintro g L' ⟨b, bp, bn, a1, c1, hO, e5, o1, hp⟩
  refine thenK.nn ?_
  refine JC.perm hp ?_
  refine JC.pin 5 e5 ?_
  have hno := ho.2
  repeat' first
    | (refine J.isJ ?_; first | (fail) | (first | (refine J.o 0 ?_; refine J.ev' hΓ ?_) | refine J.nil ?_ | (refine J.o 4 ?_; first | refine J.lT default hΓ ?_ | refine J.lR hΓ ?_) | (refine J.o 3 ?_; first | refine J.iJ hΓ ?_ | refine J.ev' hΓ ?_) | (refine J.o 1 ?_; first | refine J.ad ?_) | (refine J.o 5 ?_; first | refine J.t0 hΓ ?_) | (refine J.o 6 ?_; refine J.bx (fun _ => ?_)) | (refine J.o 7 ?_; refine J.al hΓ (fun _ => ?_)) | (refine J.o 8 ?_; refine J.bd hΓ ?_) | (refine J.o 9 ?_; refine J.bl hΓ (fun _ => ?_)) | (refine J.o 10 ?_; refine J.ev' hΓ ?_) | (refine J.o 11 ?_; refine J.ev' hΓ ?_)))
    | (first | refine JC.seq ?_ | refine JC.region ?_ | refine JC.block ?_ | refine JC.ret ?_ | refine JC.exit ?_ | refine JC.skip ?_ | refine thenK.nn ?_ | refine thenK.x ?_ | refine blockK.nn ?_ | refine blockK.hit rfl ?_ | (refine JC.cond rfl (fun hc => ?_) (fun hc => ?_) <;> ((try simp only [decide_eq_true_eq, decide_eq_false_iff_not, beq_iff_eq, beq_eq_false_iff_ne, bne_iff_ne, bne_eq_false_iff_eq, Bool.not_eq_true', Bool.not_eq_false', Bool.not_eq_true, Bool.not_eq_false] at hc) <;> first | (first | (exact absurd rfl hc) | (exfalso; omega) | (exact absurd (hc.symm.trans (by assumption : _ = false)) (by decide)) | (exact absurd (hc.symm.trans (by assumption : _ = true)) (by decide))) | skip)) | refine loopK.x ?_)
    | (fail)
    | fail
  refine JC.loop (fun i => i == 6 || i == 7 || Nat.ble 27 i) (fun m g L' => ∃ q hP, g 27 = .int .i64 ((q : Nat) : Int) ∧ q + m = l.length ∧ MapT Tryz.prog 3 ekI evI ((l.take q).zipIdx 0) bp hP ∧ L' = [(b, Obj.cells ⟨[.slice a1 l.length c1, .map (some bp), .slice (some ⟨bn, 0, none⟩) 2 2, .map none, .map none]⟩ 81 (0, 0))] :: [(bn, Obj.cells ⟨[.int .i64 (l.length : Int), .int .i64 0, .int .i64 0, .int .i64 (l.length : Int), .int .i64 0, .int .i64 0]⟩ 74 (0, 0))] :: hP :: hO :: [(b4, Obj.cells ⟨[.int .i64 (l.length : Int), .int .i64 0, .int .i64 0]⟩ 74 (0, 0))] :: L) l.length ⟨0, _, rfl, by omega, MapT.nil _, rfl⟩ ?_
  rintro m g2 L' ⟨q, hP, e27, hq, mp, rfl⟩
  refine JC.pin 27 e27 ?_
  rcases Nat.lt_or_ge q l.length with hlt | hge
  · have hel := mem_g l q hlt
    have hrg := ho.1 _ hel
    have hkey := keyI (l.getD q default) (by omega)
    have hnew : ∀ y, (l.getD q default, y) ∉ (l.take q).zipIdx 0 := by
      refine mget_out ?_
      rw [mget_zip, rk_none]
      intro hm
      have hs2 := List.Nodup.sublist (List.take_sublist (q + 1) l) hno
      rw [take_g l q hlt] at hs2
      exact (List.nodup_append.1 hs2).2.2 _ hm _ (List.mem_singleton_self _) rfl
    repeat' first
      | (refine J.isJ ?_; first | (first | (refine J.o 4 ?_; first | refine J.lT default hΓ ?_ (hs := hs) (hr := hr.tl.tl.tl.tl.tl)) | (refine J.o 9 ?_; refine J.perm br2 ?_; refine J.mup (a := l.getD q default) (ev := evI) q keyedI ekI_inj mp hkey hΓ (fun h3 mp3 => ?_))) | (first | (refine J.o 0 ?_; refine J.ev' hΓ ?_) | refine J.nil ?_ | (refine J.o 4 ?_; first | refine J.lT default hΓ ?_ | refine J.lR hΓ ?_) | (refine J.o 3 ?_; first | refine J.iJ hΓ ?_ | refine J.ev' hΓ ?_) | (refine J.o 1 ?_; first | refine J.ad ?_) | (refine J.o 5 ?_; first | refine J.t0 hΓ ?_) | (refine J.o 6 ?_; refine J.bx (fun _ => ?_)) | (refine J.o 7 ?_; refine J.al hΓ (fun _ => ?_)) | (refine J.o 8 ?_; refine J.bd hΓ ?_) | (refine J.o 9 ?_; refine J.bl hΓ (fun _ => ?_)) | (refine J.o 10 ?_; refine J.ev' hΓ ?_) | (refine J.o 11 ?_; refine J.ev' hΓ ?_)))
      | (first | refine JC.seq ?_ | refine JC.region ?_ | refine JC.block ?_ | refine JC.ret ?_ | refine JC.exit ?_ | refine JC.skip ?_ | refine thenK.nn ?_ | refine thenK.x ?_ | refine blockK.nn ?_ | refine blockK.hit rfl ?_ | (refine JC.cond rfl (fun hc => ?_) (fun hc => ?_) <;> ((try simp only [decide_eq_true_eq, decide_eq_false_iff_not, beq_iff_eq, beq_eq_false_iff_ne, bne_iff_ne, bne_eq_false_iff_eq, Bool.not_eq_true', Bool.not_eq_false', Bool.not_eq_true, Bool.not_eq_false] at hc) <;> first | (first | (exact absurd rfl hc) | (exfalso; omega) | (exact absurd (hc.symm.trans (by assumption : _ = false)) (by decide)) | (exact absurd (hc.symm.trans (by assumption : _ = true)) (by decide))) | skip)) | refine loopK.x ?_)
      | (fail)
      | fail
    all_goals first | (exfalso; omega) | skip
    rw [mput_new q hnew] at mp3
    refine loopK.np (m - 1) [] _ (by omega) (by repeat (first | refine Ag.upd rfl ?_ | exact Ag.hv)) br2.symm ⟨q + 1, h3, ?_, by omega, ?_, rfl⟩
    · show Value.int .i64 _ = _; congr 1
    · rw [take_g l q hlt, List.zipIdx_append]
      rw [List.length_take, Nat.min_eq_left (Nat.le_of_lt hlt), Nat.zero_add]
      exact mp3
  · rw [List.take_of_length_le hge] at mp
    repeat' first
      | (refine J.isJ ?_; first | ((refine J.fc 43 ?_; refine J.callx eReb rfl rfl (fun w hw => reb_any _ _ _ _ _ rfl rfl hw) ?_; rintro _ _ ⟨bu, bi, rfl, rfl⟩)) | (first | (refine J.o 0 ?_; refine J.ev' hΓ ?_) | refine J.nil ?_ | (refine J.o 4 ?_; first | refine J.lT default hΓ ?_ | refine J.lR hΓ ?_) | (refine J.o 3 ?_; first | refine J.iJ hΓ ?_ | refine J.ev' hΓ ?_) | (refine J.o 1 ?_; first | refine J.ad ?_) | (refine J.o 5 ?_; first | refine J.t0 hΓ ?_) | (refine J.o 6 ?_; refine J.bx (fun _ => ?_)) | (refine J.o 7 ?_; refine J.al hΓ (fun _ => ?_)) | (refine J.o 8 ?_; refine J.bd hΓ ?_) | (refine J.o 9 ?_; refine J.bl hΓ (fun _ => ?_)) | (refine J.o 10 ?_; refine J.ev' hΓ ?_) | (refine J.o 11 ?_; refine J.ev' hΓ ?_)))
      | (first | refine JC.seq ?_ | refine JC.region ?_ | refine JC.block ?_ | refine JC.ret ?_ | refine JC.exit ?_ | refine JC.skip ?_ | refine thenK.nn ?_ | refine thenK.x ?_ | refine blockK.nn ?_ | refine blockK.hit rfl ?_ | (refine JC.cond rfl (fun hc => ?_) (fun hc => ?_) <;> ((try simp only [decide_eq_true_eq, decide_eq_false_iff_not, beq_iff_eq, beq_eq_false_iff_ne, bne_iff_ne, bne_eq_false_iff_eq, Bool.not_eq_true', Bool.not_eq_false', Bool.not_eq_true, Bool.not_eq_false] at hc) <;> first | (first | (exact absurd rfl hc) | (exfalso; omega) | (exact absurd (hc.symm.trans (by assumption : _ = false)) (by decide)) | (exact absurd (hc.symm.trans (by assumption : _ = true)) (by decide))) | skip)) | refine loopK.x ?_)
      | (fail)
      | fail
    all_goals first | (exfalso; omega) | skip
    refine ret2f rfl rfl rfl rfl rfl (fun w1 hw => ⟨_, _, rfl, H.sel (l := [_, _, _, _, _, _, _]) (M := L) hw [0, 3, 1, 2, 5, 4], b, ⟨a1, l.length, c1, bp, bu, bi⟩, ⟨some ⟨bn, 0, none⟩, 2, ends l.length, [(bn, _)], [], [(bu, .map ⟨[]⟩ 0)], [], [(bi, .map ⟨[]⟩ 0)]⟩, hO, hP, rfl, rfl, ?_, rfl, ⟨o1, rfl, ho, mp⟩⟩)
    refine ⟨hl, rfl, ends_wf _, by show 2 ≤ _; omega, ?_, MapT.nil _, ⟨fun i h2 hi => absurd (show i < 2 from hi) (by omega), fun x i hx => by cases hx⟩, MapT.nil _, fun x y hx => by cases hx⟩
    exact ⟨fun _ => rfl, .inr ⟨bn, _, rfl, rfl, rfl, Nat.le_refl _, rfl⟩⟩
end Go.Proofs.YthnhijdfcmcnhaaGreat
namespace Go.Proofs.YthnhijdfcmcnhaaGreat
open Go Go.Cx Go.RowKit
set_option linter.unusedVariables false
set_option linter.unusedSimpArgs false
set_option maxHeartbeats 4000000
attribute [local irreducible] J JC thenK blockK loopK drawK retK QW Qt pel List.set Calls
open Go.Maps
set_option maxRecDepth 8000
attribute [local irreducible] JE Br eK0 eK3 brK pc
theorem eVarC : Entr Tryz.prog 46 := Entr.of Tryz.func46 rfl rfl
theorem eVarS : Entr Tryz.prog 14 := Entr.of Tryz.func14 rfl rfl
theorem slNil (h : Heap) : SlT encI 1 none ([] : List Int) h := ⟨fun _ => rfl, fun i hi => absurd hi (Nat.not_lt_zero i)⟩
theorem VarC_any {n : Nat} {K : KS} {s : SS} (so : SOk n K s) (k : Nat) (hk : k < n) (hfull : s.ns.length + 1 ≤ 1048576) {w0 w : World} {R : Heap} {L : List Heap} {b0 c1 d1 : Nat} (r1 : Rd R L c1 (ptrS b0)) (r2 : Rd R L d1 (intO k)) (hw : H w0 R (sF K b0 s ++ L) w) :
    Calls Tryz.prog 46 #[.pointer (some ⟨c1, 0, none⟩), .pointer (some ⟨d1, 0, none⟩)] w fun e w' => ∃ v L', e = .returned v ∧ H w0 R L' w' ∧ ∃ s' y, v = .int .i64 ((y : Nat) : Int) ∧ L' = sF K b0 s' ++ L ∧ Res n K s s' 1 y (fun α => α k) := by
  have two := so.wf.two
  have n8 := so.n8
  unfold ptrS at r1
  unfold intO at r2
  unfold sF at hw
  simp only [List.cons_append, List.nil_append] at hw
  refine calls_in Tryz.func46 Tryz.ntmps46 rfl rfl (hw) ?_
  repeat' first
    | (refine J.isJ ?_; first | (first | (refine J.o 4 ?_; first | refine J.lR hΓ ?_ (hr := r1.tl.tl.tl.tl) | refine J.lR hΓ ?_ (hr := r2.tl.tl.tl.tl)) | (refine J.fc 47 ?_; refine J.callx eAdd rfl rfl (fun w hw => add_any so ⟨k, 0, 1⟩ hk (show 0 < s.ns.length by omega) (show 1 < s.ns.length by omega) (show k < (nd s.ns 0).p by rw [so.wf.c0]; exact hk) (show k < (nd s.ns 1).p by rw [so.wf.c1]; exact hk) (by omega) hw) ?_; rintro _ _ ⟨s1, y1, rfl, rfl, ad1, it1⟩)) | (first | (refine J.o 0 ?_; refine J.ev' hΓ ?_) | refine J.nil ?_ | (refine J.o 4 ?_; first | refine J.lR hΓ ?_) | (refine J.o 3 ?_; first | refine J.ev' hΓ ?_) | (refine J.o 8 ?_; refine J.bd hΓ ?_) | (refine J.o 10 ?_; refine J.ev' hΓ ?_) | (refine J.o 11 ?_; refine J.ev' hΓ ?_)))
    | (first | refine JC.seq ?_ | refine JC.region ?_ | refine JC.ret ?_ | refine thenK.nn ?_)
    | (fail)
    | fail
  refine ret1f rfl rfl rfl (fun w1 hw => ⟨_, _, rfl, hw, s1, y1, rfl, rfl, ad1, fun α => ?_⟩)
  rw [it1 α]
  show (if α k then fn n s1.ns 1 α else fn n s1.ns 0 α) = α k
  rw [fn_0 ad1.ok.wf, fn_1 ad1.ok.wf]
  cases α k <;> rfl
theorem Var_any {n : Nat} {K : KS} {s : SS} (so : SOk n K s) {order : List Int} {hO hP : Heap} (po : POk K order hO hP) (v : Int) (hv : -9223372036854775808 ≤ v ∧ v ≤ 9223372036854775807) (k : Nat) (hk : rk order v 0 = some k) (hfull : s.ns.length + 1 ≤ 1048576) {w0 w : World} {R : Heap} {L : List Heap} {b0 : Nat} (hw : H w0 R (sF K b0 s ++ (hO :: hP :: L)) w) :
    Calls Tryz.prog 14 #[.pointer (some ⟨b0, 0, none⟩), .int .i64 v] w fun e w' => ∃ v L', e = .returned v ∧ H w0 R L' w' ∧ ∃ s' y, v = .tuple #[.int .i64 ((y : Nat) : Int), .int .i64 0] ∧ L' = sF K b0 s' ++ (hO :: hP :: L) ∧ Res n K s s' 1 y (fun α => α k) := by
  have hkn : k < n := by
    obtain ⟨_, h2, _⟩ := rk_some hk
    have := po.len; have := so.no; omega
  have two := so.wf.two
  have pm := po.pm
  have hkey := keyI v hv
  have cChk : ∀ L1 w, H w0 R L1 w → Rd R L1 b0 (stO K s.an s.ns.length s.cn) → Calls Tryz.prog 44 #[.pointer (some ⟨b0, 0, none⟩), .slice none 0 0] w fun e w' => e = .returned (.int .i64 0) ∧ Below w.heap.size w w' := fun L1 w hw hr =>
    check_any K b0 s.an s.cn s.ns.length two [(b0, stO K s.an s.ns.length s.cn)] (List.mem_singleton_self _) [] none 0 (slNil _) (by show 0 ≤ 1000; omega) w (holds2 (hw.rd hr) (Holds.nil w))
  unfold sF at hw
  simp only [List.cons_append, List.nil_append] at hw
  have hget : mget (order.zipIdx 0) v = some k := by rw [mget_zip, hk]
  refine calls_in Tryz.func14 Tryz.ntmps14 rfl rfl (hw) ?_
  refine JC.seq ?_
  refine JC.region ?_
  refine J.isJ ?_
  refine J.o 6 ?_
  refine J.bx (fun c1 => ?_)
  repeat' first
    | (refine J.isJ ?_; first | (first | (refine J.fc 44 ?_; refine J.call0 eCheck rfl rfl (fun w hw => cChk _ w hw Rd.hd.tl) ?_)) | (first | (refine J.o 0 ?_; refine J.ev' hΓ ?_) | refine J.nil ?_ | (refine J.o 4 ?_; first | refine J.lR hΓ ?_) | (refine J.o 3 ?_; first | refine J.ev' hΓ ?_) | (refine J.o 5 ?_; first | refine J.t0 hΓ ?_) | (refine J.o 6 ?_; refine J.bx (fun _ => ?_)) | (refine J.o 7 ?_; refine J.al hΓ (fun _ => ?_)) | (refine J.o 10 ?_; refine J.ev' hΓ ?_) | (refine J.o 11 ?_; refine J.ev' hΓ ?_)))
    | (first | refine JC.seq ?_ | refine JC.region ?_ | refine JC.ret ?_ | refine JC.skip ?_ | refine thenK.nn ?_ | refine JC.condF rfl ?_)
    | (fail)
    | fail
  all_goals first | (exfalso; omega) | skip
  unfold stO
  repeat' first
    | (refine J.isJ ?_; first | (first | (refine J.o 9 ?_; refine J.lk (a := v) keyedI ekI_inj pm (by first | exact RdH.hd.tl.tl.tl.tl.tl.tl | exact RdH.hd.tl.tl.tl.tl.tl.tl.tl) hkey hΓ ?_; rw [hget]) | (refine J.o 7 ?_; refine J.al hΓ (fun d1 => ?_)) | (refine J.o 14 ?_; refine J.mfV [.pointer (some ⟨c1, 0, none⟩), .pointer (some ⟨d1, 0, none⟩)] hΓ ?_) | (refine J.fc 45 ?_; refine J.callx eTry rfl rfl (fun w hw => try_any so (Q := fun s' y => Res n K s s' 1 y (fun α => α k)) eVarC [] none 0 [] (slNil _) (by show 0 ≤ 1000; omega) (L := [(d1, intO k)] :: [(c1, ptrS b0)] :: hO :: hP :: L) (fun x hx => by cases hx) rfl (fun Lx w hw => VarC_any so k hkn hfull (Rd.app Lx Rd.hd.tl) (Rd.app Lx Rd.hd) hw) (H.sel (l := [_, _, _, _, _, _, _, _]) (M := L) hw [2, 3, 4, 5, 0, 1, 6, 7])) ?_; rintro _ _ ⟨s1, y1, rfl, rfl, hq⟩)) | (first | (refine J.o 0 ?_; refine J.ev' hΓ ?_) | refine J.nil ?_ | (refine J.o 4 ?_; first | refine J.lR hΓ ?_) | (refine J.o 3 ?_; first | refine J.ev' hΓ ?_) | (refine J.o 5 ?_; first | refine J.t0 hΓ ?_) | (refine J.o 6 ?_; refine J.bx (fun _ => ?_)) | (refine J.o 7 ?_; refine J.al hΓ (fun _ => ?_)) | (refine J.o 10 ?_; refine J.ev' hΓ ?_) | (refine J.o 11 ?_; refine J.ev' hΓ ?_)))
    | (first | refine JC.seq ?_ | refine JC.region ?_ | refine JC.ret ?_ | refine JC.skip ?_ | refine thenK.nn ?_ | refine JC.condF rfl ?_)
    | (fail)
    | fail
  all_goals first | (exfalso; omega) | skip
  refine ret2f rfl rfl rfl rfl rfl (fun w1 hw => ⟨_, _, rfl, H.sel (l := [_, _, _, _, _, _, _, _]) (M := L) hw [0, 1, 2, 3, 6, 7], s1, y1, rfl, rfl, hq⟩)
theorem ret4f {P : Program} {fn : Func} {n : Nat} {w0 : World} {R : Heap} {Post : Ending → World → Prop} {f : Fr} {L : List Heap} {t u s q : Nat} {v x y z : Value} (hr : fn.results = #[.tmp t, .tmp u, .tmp s, .tmp q]) (ht : Nat.blt t n = true) (hu : Nat.blt u n = true) (hs : Nat.blt s n = true) (hq : Nat.blt q n = true) (hv : frc (f t) = some v) (hx : frc (f u) = some x) (hy : frc (f s) = some y) (hz : frc (f q) = some z)
    (h : ∀ w, H w0 R L w → Post (.returned (.tuple #[v, x, y, z])) w) : retK P fn n w0 R Post .ret f L := by
  unfold retK
  exact fun a w ha hw => ⟨.tuple #[a.tmps.getD t undef, a.tmps.getD u undef, a.tmps.getD s undef, a.tmps.getD q undef], by simp [results, hr], by rw [ha.getD ht, frc_eq hv, ha.getD hu, frc_eq hx, ha.getD hs, frc_eq hy, ha.getD hq, frc_eq hz]; exact h w hw⟩
theorem eParts : Entr Tryz.prog 28 := Entr.of Tryz.func28 rfl rfl
theorem eEvalS : Entr Tryz.prog 39 := Entr.of Tryz.func39 rfl rfl
def stR (K : KS) (b : Nat) (s : SS) (hO : Heap) : Heap := (b, stO K s.an s.ns.length s.cn) :: (s.hN ++ hO)
theorem Parts_node {n : Nat} {K : KS} {s : SS} (so : SOk n K s) {order : List Int} {hO hP : Heap} (po : POk K order hO hP) (b a : Nat) (h2 : 2 ≤ a) (ha : a < s.ns.length) (w : World) (hw : Holds (stR K b s hO) w) :
    Calls Tryz.prog 28 #[.pointer (some ⟨b, 0, none⟩), .int .i64 (a : Int)] w fun e w' => e = .returned (.tuple #[.int .i64 (order.getD (nd s.ns a).p default), .int .i64 ((nd s.ns a).l : Int), .int .i64 ((nd s.ns a).h : Int), .int .i64 0]) ∧ Below w.heap.size w w' := by
  have hp := so.wf.pl a h2 ha
  have hno := so.no
  have hpl := po.len
  have hsm := so.sm
  have hsl : SlT enc3 3 s.an s.ns (stR K b s hO) := so.ow.sl.sub fun y hy => List.mem_cons_of_mem _ (List.mem_append_left _ hy)
  have hso : SlT encI 1 K.ao order (stR K b s hO) := po.ow.sl.sub fun y hy => List.mem_cons_of_mem _ (List.mem_append_right _ hy)
  have rb : ∀ L, Rd (stR K b s hO) L b (stO K s.an s.ns.length s.cn) := fun L => Rd.old List.mem_cons_self
  have q0 : ∀ L, RdH (stR K b s hO) L (stR K b s hO) := fun L => RdH.old fun _ hh => hh
  have cChk : ∀ L1 w1 b1, H w (stR K b s hO) L1 w1 → Rd (stR K b s hO) L1 b1 (intO a) → Calls Tryz.prog 44 #[.pointer (some ⟨b, 0, none⟩), .slice (some ⟨b1, 0, none⟩) 1 1] w1 fun e w' => e = .returned (.int .i64 0) ∧ Below w1.heap.size w1 w' := fun L1 w1 b1 hw hr => by
    have hc := chk_ok (m := s.ns.length) (l := [a]) (by simp only [List.mem_cons, List.not_mem_nil, or_false, forall_eq]; exact ha)
    have := check_any K b s.an s.cn s.ns.length so.wf.two [(b, stO K s.an s.ns.length s.cn), (b1, intO a)] List.mem_cons_self [(a : Int)] (some ⟨b1, 0, none⟩) 1 ((slArg b1 [(a : Int)] 3).sub fun y hy => List.mem_cons_of_mem _ hy) (by show 1 ≤ 1000; omega) w1 (holds2 (hw.rd (rb _)) (holds2 (hw.rd hr) (Holds.nil _)))
    rw [show chkP s.ns.length [(a : Int)] = true from hc, if_pos rfl] at this
    exact this
  unfold stO at rb
  have hnd : s.ns.getD a default = nd s.ns a := rfl
  have hp1 : (s.ns.getD a default).p < K.no := by rw [hno]; exact hp
  have hp2 : (s.ns.getD a default).p < order.length := by rw [← hpl]; exact hp1
  refine calls_of_JC (R := (stR K b s hO)) Tryz.func28 Tryz.ntmps28 rfl rfl (hw) ?_
  repeat' first
    | (refine J.isJ ?_; first | (first | (refine J.o 9 ?_; refine J.bl hΓ (fun b1 => ?_)) | (refine J.fc 44 ?_; refine J.call0 eCheck rfl rfl (fun w hw => cChk _ w _ hw Rd.hd) ?_) | (refine J.o 4 ?_; first | refine J.lR hΓ ?_ (hr := rb _) | (refine J.lT default hΓ ?_ (hs := hsl) (hr := q0 _)) | (refine J.lT default hΓ ?_ (hs := hso) (hr := q0 _)))) | (first | (refine J.o 0 ?_; refine J.ev' hΓ ?_) | refine J.nil ?_ | (refine J.o 4 ?_; first | refine J.lT default hΓ ?_ | refine J.lR hΓ ?_) | (refine J.o 3 ?_; first | refine J.iJ hΓ ?_ | refine J.ev' hΓ ?_) | (refine J.o 5 ?_; first | refine J.t0 hΓ ?_) | (refine J.o 7 ?_; refine J.al hΓ (fun _ => ?_)) | (refine J.o 9 ?_; refine J.bl hΓ (fun _ => ?_)) | (refine J.o 10 ?_; refine J.ev' hΓ ?_) | (refine J.o 11 ?_; refine J.ev' hΓ ?_)))
    | (first | refine JC.seq ?_ | refine JC.region ?_ | refine JC.ret ?_ | refine JC.skip ?_ | refine thenK.nn ?_ | refine JC.condF rfl ?_ | (refine JC.cond rfl (fun hc => ?_) (fun hc => ?_) <;> ((try simp only [decide_eq_true_eq, decide_eq_false_iff_not, beq_iff_eq, beq_eq_false_iff_ne, bne_iff_ne, bne_eq_false_iff_eq, Bool.not_eq_true', Bool.not_eq_false', Bool.not_eq_true, Bool.not_eq_false] at hc) <;> first | (first | (exact absurd rfl hc) | (exfalso; omega) | (exact absurd (hc.symm.trans (by assumption : _ = false)) (by decide)) | (exact absurd (hc.symm.trans (by assumption : _ = true)) (by decide))) | skip)) | refine drawK.nn ?_)
    | ((refine JC.drawO [(0,0),(0,1),(0,2),(1,3),(0,4),(1,5),(0,6),(1,7),(0,8),(1,9),(0,10),(1,11),(0,12),(0,13),(0,14),(0,15)] (by decide +kernel) (by decide +kernel) ?_))
    | fail
  all_goals first | (exfalso; omega) | skip
  refine ret4f rfl rfl rfl rfl rfl rfl rfl rfl rfl (fun w1 hw => ⟨rfl, hw.below⟩)
end Go.Proofs.YthnhijdfcmcnhaaGreat
namespace Go.Proofs.YthnhijdfcmcnhaaGreat
open Go Go.Cx
set_option linter.unusedVariables false
set_option linter.unusedSimpArgs false
def asg (n i : Nat) : Nat → Bool := fun k => decide (k < n) && i.testBit (n - 1 - k)
theorem asg_hi {n m r k : Nat} (hm : n - k = m + 1) : asg n (r + 2 ^ m) k = !(asg n r k) := by
  unfold asg
  have e : n - 1 - k = m := by omega
  have hk : k < n := by omega
  rw [e, decide_eq_true hk, Bool.true_and, Bool.true_and, Nat.add_comm, Nat.testBit_two_pow_add_eq]
theorem asg_lt {n m r k : Nat} (hm : n - k = m + 1) (h : r < 2 ^ m) : asg n r k = false := by
  unfold asg
  have e : n - 1 - k = m := by omega
  rw [e, Nat.testBit_lt_two_pow h, Bool.and_false]
theorem asg_other {n m r k j : Nat} (hm : n - k = m + 1) (hj : k < j) : asg n (r + 2 ^ m) j = asg n r j := by
  unfold asg
  by_cases hn : j < n
  · rw [decide_eq_true hn, Bool.true_and, Bool.true_and, Nat.add_comm, Nat.testBit_two_pow_add_gt (by omega)]
  · rw [decide_eq_false hn, Bool.false_and, Bool.false_and]
def blk (n : Nat) (ns : List N3) (k i : Nat) : List Bool := (List.range (2 ^ (n - k))).map fun r => fn n ns i (asg n r)
def tab (n : Nat) (ns : List N3) (i : Nat) : List Bool := blk n ns 0 i
theorem range_two (m : Nat) : List.range (2 ^ (m + 1)) = List.range (2 ^ m) ++ (List.range (2 ^ m)).map (· + 2 ^ m) := by
  rw [Nat.pow_succ, Nat.mul_two, List.range_add]
  congr 1
  exact List.map_congr_left fun a _ => Nat.add_comm _ _
theorem blk_len (n : Nat) (ns : List N3) (k i : Nat) : (blk n ns k i).length = 2 ^ (n - k) := by simp [blk]
theorem blk_later {n : Nat} {ns : List N3} (w : WF n ns) {k i : Nat} (hi : i < ns.length) (hk : k < (nd ns i).p) : blk n ns k i = blk n ns (k + 1) i ++ blk n ns (k + 1) i := by
  have := w.ple hi
  obtain ⟨m, hm⟩ : ∃ m, n - k = m + 1 := ⟨n - k - 1, by omega⟩
  unfold blk
  rw [hm, show n - (k + 1) = m by omega, range_two, List.map_append, List.map_map]
  congr 1
  refine List.map_congr_left fun r hr => fn_dep w _ i (Nat.le_refl _) hi fun j hj => asg_other hm (by omega)
theorem blk_node {n : Nat} {ns : List N3} (w : WF n ns) {i : Nat} (h2 : 2 ≤ i) (hi : i < ns.length) :
    blk n ns (nd ns i).p i = blk n ns ((nd ns i).p + 1) (nd ns i).l ++ blk n ns ((nd ns i).p + 1) (nd ns i).h := by
  have := w.pl i h2 hi
  have hl := w.lp i h2 hi
  have hh := w.hp i h2 hi
  obtain ⟨m, hm⟩ : ∃ m, n - (nd ns i).p = m + 1 := ⟨n - (nd ns i).p - 1, by omega⟩
  unfold blk
  rw [hm, show n - ((nd ns i).p + 1) = m by omega, range_two, List.map_append, List.map_map]
  congr 1
  · refine List.map_congr_left fun r hr => ?_
    rw [fn_node w _ h2 hi, asg_lt hm (List.mem_range.1 hr)]; rfl
  · refine List.map_congr_left fun r hr => ?_
    show fn n ns i (asg n (r + 2 ^ m)) = _
    rw [fn_node w _ h2 hi, asg_hi hm, asg_lt hm (List.mem_range.1 hr)]
    exact fn_dep w _ _ (Nat.le_refl _) (w.hl i h2 hi) fun j hj => asg_other hm (by omega)
theorem blk_end {n : Nat} {ns : List N3} (w : WF n ns) {i : Nat} (h2 : i < 2) : blk n ns n i = [decide (i = 1)] := by
  unfold blk
  rw [Nat.sub_self]
  show [fn n ns i _] = _
  unfold fn; rw [ev_const _ _ _ h2]
theorem blk_inj {n : Nat} {ns : List N3} (w : WF n ns) : ∀ (m k i j : Nat), n - k ≤ m → k ≤ (nd ns i).p → k ≤ (nd ns j).p → i < ns.length → j < ns.length → blk n ns k i = blk n ns k j → ∀ a, fn n ns i a = fn n ns j a
  | m, k, i, j, hm, hki, hkj, hi, hj, h => fun a => by
    have hpi := w.ple hi
    have hpj := w.ple hj
    have len : ∀ x y, (blk n ns (k + 1) x).length = (blk n ns (k + 1) y).length := fun x y => by rw [blk_len, blk_len]
    -- the halves of a block and what they say
    have half : ∀ x, k ≤ (nd ns x).p → x < ns.length → k < n → ∃ l h, blk n ns k x = blk n ns (k + 1) l ++ blk n ns (k + 1) h ∧ k + 1 ≤ (nd ns l).p ∧ k + 1 ≤ (nd ns h).p ∧ l < ns.length ∧ h < ns.length ∧ fn n ns x a = if a k then fn n ns h a else fn n ns l a := by
      intro x hkx hx hkn
      rcases Nat.lt_or_ge k (nd ns x).p with hlt | hge
      · exact ⟨x, x, blk_later w hx hlt, hlt, hlt, hx, hx, by split <;> rfl⟩
      · have hp : (nd ns x).p = k := by omega
        have h2 := w.nonconst (show (nd ns x).p < n by omega)
        exact ⟨(nd ns x).l, (nd ns x).h, by have := blk_node w h2 hx; rw [hp] at this; exact this, by have := w.lp x h2 hx; omega, by have := w.hp x h2 hx; omega, w.ll x h2 hx, w.hl x h2 hx, by rw [fn_node w a h2 hx, hp]⟩
    rcases Nat.lt_or_ge k n with hkn | hkn
    · obtain ⟨m', rfl⟩ : ∃ m', m = m' + 1 := ⟨m - 1, by omega⟩
      obtain ⟨l1, h1, e1, a1, b1, c1, d1, f1⟩ := half i hki hi hkn
      obtain ⟨l2, h2, e2, a2, b2, c2, d2, f2⟩ := half j hkj hj hkn
      rw [e1, e2] at h
      obtain ⟨g1, g2⟩ := List.append_inj h (len _ _)
      rw [f1, f2, blk_inj w m' (k + 1) h1 h2 (by omega) b1 b2 d1 d2 g2 a, blk_inj w m' (k + 1) l1 l2 (by omega) a1 a2 c1 c2 g1 a]
    · obtain rfl : k = n := by omega
      have hc : ∀ x, k ≤ (nd ns x).p → x < ns.length → x < 2 := fun x h hx => by
        rcases Nat.lt_or_ge x 2 with h2 | h2
        · exact h2
        · have := w.pl x h2 hx; omega
      rw [blk_end w (hc i hki hi), blk_end w (hc j hkj hj)] at h
      unfold fn
      rw [ev_const _ _ _ (hc i hki hi), ev_const _ _ _ (hc j hkj hj)]
      simpa using h
theorem blk_eq {n : Nat} {ns : List N3} (w : WF n ns) {k i j : Nat} (hki : k ≤ (nd ns i).p) (hkj : k ≤ (nd ns j).p) (hi : i < ns.length) (hj : j < ns.length) : blk n ns k i = blk n ns k j ↔ i = j :=
  ⟨fun h => w.eq hi hj (blk_inj w (n - k) k i j (Nat.le_refl _) hki hkj hi hj h), fun h => by rw [h]⟩
def cS (ns : List N3) : Nat → Nat → Nat
  | 0, i => i
  | f + 1, i => if i < 2 then i else 2 ^ ((nd ns (nd ns i).l).p - (nd ns i).p - 1) * cS ns f (nd ns i).l + 2 ^ ((nd ns (nd ns i).h).p - (nd ns i).p - 1) * cS ns f (nd ns i).h
def cN (n : Nat) (ns : List N3) (i : Nat) : Nat := cS ns n i
theorem cS_const (ns : List N3) {i : Nat} (h : i < 2) : ∀ f, cS ns f i = i
  | 0 => rfl
  | f + 1 => by rw [cS, if_pos h]
theorem cS_fuel {n : Nat} {ns : List N3} (w : WF n ns) : ∀ (f g i : Nat), i < ns.length → n - (nd ns i).p ≤ f → n - (nd ns i).p ≤ g → cS ns f i = cS ns g i
  | f, g, i, hi, hf, hg => by
    rcases Nat.lt_or_ge i 2 with h2 | h2
    · rw [cS_const _ h2, cS_const _ h2]
    · have hp := w.pl i h2 hi
      obtain ⟨f', rfl⟩ : ∃ f', f = f' + 1 := ⟨f - 1, by omega⟩
      obtain ⟨g', rfl⟩ : ∃ g', g = g' + 1 := ⟨g - 1, by omega⟩
      have hl := w.lp i h2 hi
      have hh := w.hp i h2 hi
      have hn : ¬ i < 2 := by omega
      rw [cS, cS, if_neg hn, if_neg hn, cS_fuel w f' g' _ (w.ll i h2 hi) (by omega) (by omega), cS_fuel w f' g' _ (w.hl i h2 hi) (by omega) (by omega)]
theorem cN_const {n : Nat} {ns : List N3} {i : Nat} (h : i < 2) : cN n ns i = i := cS_const ns h n
theorem cN_node {n : Nat} {ns : List N3} (w : WF n ns) {i : Nat} (h2 : 2 ≤ i) (hi : i < ns.length) :
    cN n ns i = 2 ^ ((nd ns (nd ns i).l).p - (nd ns i).p - 1) * cN n ns (nd ns i).l + 2 ^ ((nd ns (nd ns i).h).p - (nd ns i).p - 1) * cN n ns (nd ns i).h := by
  have hp := w.pl i h2 hi
  have hl := w.lp i h2 hi
  have hh := w.hp i h2 hi
  unfold cN
  rw [cS_fuel w n ((n - 1) + 1) i hi (by omega) (by omega), cS, if_neg (by omega), cS_fuel w (n - 1) n _ (w.ll i h2 hi) (by omega) (by omega), cS_fuel w (n - 1) n _ (w.hl i h2 hi) (by omega) (by omega)]
theorem blk_count {n : Nat} {ns : List N3} (w : WF n ns) : ∀ (m k i : Nat), n - k ≤ m → k ≤ (nd ns i).p → i < ns.length → (blk n ns k i).count true = 2 ^ ((nd ns i).p - k) * cN n ns i
  | m, k, i, hm, hk, hi => by
    have hpi := w.ple hi
    rcases Nat.lt_or_ge k (nd ns i).p with hlt | hge
    · obtain ⟨m', rfl⟩ : ∃ m', m = m' + 1 := ⟨m - 1, by omega⟩
      rw [blk_later w hi hlt, List.count_append, blk_count w m' (k + 1) i (by omega) hlt hi, ← Nat.two_mul, ← Nat.mul_assoc, ← Nat.pow_succ', show ((nd ns i).p - (k + 1)).succ = (nd ns i).p - k by omega]
    · obtain rfl : k = (nd ns i).p := by omega
      rw [Nat.sub_self, Nat.pow_zero, Nat.one_mul]
      rcases Nat.lt_or_ge i 2 with h2 | h2
      · rw [w.pconst h2, blk_end w h2, cN_const h2]
        have : i = 0 ∨ i = 1 := by omega
        rcases this with rfl | rfl <;> rfl
      · have hp := w.pl i h2 hi
        have hl := w.lp i h2 hi
        have hh := w.hp i h2 hi
        obtain ⟨m', rfl⟩ : ∃ m', m = m' + 1 := ⟨m - 1, by omega⟩
        rw [blk_node w h2 hi, List.count_append, blk_count w m' _ _ (by omega) hl (w.ll i h2 hi), blk_count w m' _ _ (by omega) hh (w.hl i h2 hi), cN_node w h2 hi]
        rfl
theorem tab_count {n : Nat} {ns : List N3} (w : WF n ns) {i : Nat} (hi : i < ns.length) : 2 ^ (nd ns i).p * cN n ns i = (tab n ns i).count true := by
  unfold tab
  rw [blk_count w n 0 i (by omega) (by omega) hi, Nat.sub_zero]
theorem cN_le {n : Nat} {ns : List N3} (w : WF n ns) {i : Nat} (hi : i < ns.length) : 2 ^ (nd ns i).p * cN n ns i ≤ 2 ^ n := by
  rw [tab_count w hi]
  refine Nat.le_trans List.count_le_length ?_
  unfold tab
  rw [blk_len, Nat.sub_zero]; exact Nat.le_refl _
inductive Rch (ns : List N3) (i : Nat) : Nat → Prop
  | refl : Rch ns i i
  | low {j : Nat} : Rch ns i j → 2 ≤ j → Rch ns i (nd ns j).l
  | high {j : Nat} : Rch ns i j → 2 ≤ j → Rch ns i (nd ns j).h
theorem Rch.lt {n : Nat} {ns : List N3} (w : WF n ns) {i j : Nat} (hi : i < ns.length) (h : Rch ns i j) : j < ns.length := by
  induction h with
  | refl => exact hi
  | low _ h2 ih => exact w.ll _ h2 ih
  | high _ h2 ih => exact w.hl _ h2 ih
theorem Rch.trans {ns : List N3} {i j k : Nat} (h : Rch ns i j) (g : Rch ns j k) : Rch ns i k := by
  induction g with
  | refl => exact h
  | low _ h2 ih => exact .low ih h2
  | high _ h2 ih => exact .high ih h2
def lvl (n : Nat) (ns : List N3) (i : Nat) : Nat → List Nat
  | 0 => [i]
  | k + 1 => (lvl n ns i k).flatMap fun j => if (nd ns j).p = k then [(nd ns j).l, (nd ns j).h] else [j, j]
theorem lvl_ok {n : Nat} {ns : List N3} (w : WF n ns) {i : Nat} (hi : i < ns.length) : ∀ k, k ≤ n → ∀ j ∈ lvl n ns i k, j < ns.length ∧ k ≤ (nd ns j).p ∧ Rch ns i j
  | 0, _, j, hj => by
    rw [List.mem_singleton.1 hj]; exact ⟨hi, Nat.zero_le _, .refl⟩
  | k + 1, hk, j, hj => by
    obtain ⟨x, hx, hj⟩ := List.mem_flatMap.1 hj
    obtain ⟨h1, h2, h3⟩ := lvl_ok w hi k (by omega) x hx
    split at hj
    · rename_i hp
      have h4 := w.nonconst (show (nd ns x).p < n by omega)
      rcases List.mem_cons.1 hj with rfl | hj
      · exact ⟨w.ll x h4 h1, by have := w.lp x h4 h1; omega, .low h3 h4⟩
      · rw [List.mem_singleton.1 hj]
        exact ⟨w.hl x h4 h1, by have := w.hp x h4 h1; omega, .high h3 h4⟩
    · have : j = x := by simpa using hj
      subst this
      exact ⟨h1, by omega, h3⟩
theorem lvl_rch {n : Nat} {ns : List N3} (w : WF n ns) {i j : Nat} (hi : i < ns.length) (h : Rch ns i j) : ∀ k, k ≤ (nd ns j).p → k ≤ n → (∃ x ∈ lvl n ns i k, Rch ns x j) := by
  intro k
  induction k with
  | zero => intro _ _; exact ⟨i, List.mem_singleton_self i, h⟩
  | succ k ih =>
    intro hk hn
    obtain ⟨x, hx, hr⟩ := ih (by omega) (by omega)
    obtain ⟨h1, h2, h3⟩ := lvl_ok w hi k (by omega) x hx
    by_cases hp : (nd ns x).p = k
    · have h4 := w.nonconst (show (nd ns x).p < n by omega)
      -- x is not j: the way goes over one of its parts
      have key : j = x ∨ Rch ns (nd ns x).l j ∨ Rch ns (nd ns x).h j := by
        clear hk ih h
        induction hr with
        | refl => exact .inl rfl
        | low hr h2 ih =>
          rcases ih with e | e | e
          · rw [e]; exact .inr (.inl .refl)
          · exact .inr (.inl (.low e h2))
          · exact .inr (.inr (.low e h2))
        | high hr h2 ih =>
          rcases ih with e | e | e
          · rw [e]; exact .inr (.inr .refl)
          · exact .inr (.inl (.high e h2))
          · exact .inr (.inr (.high e h2))
      rcases key with e | e | e
      · subst e; omega
      · exact ⟨_, List.mem_flatMap.2 ⟨x, hx, by rw [if_pos hp]; simp⟩, e⟩
      · exact ⟨_, List.mem_flatMap.2 ⟨x, hx, by rw [if_pos hp]; simp⟩, e⟩
    · exact ⟨x, List.mem_flatMap.2 ⟨x, hx, by rw [if_neg hp]; simp⟩, hr⟩
theorem rch_p {n : Nat} {ns : List N3} (w : WF n ns) {i j : Nat} (hi : i < ns.length) (h : Rch ns i j) : i = j ∨ (2 ≤ i ∧ (nd ns i).p < (nd ns j).p) := by
  induction h with
  | refl => exact .inl rfl
  | low hr h2 ih =>
    have h3 := w.lp _ h2 (hr.lt w hi)
    rcases ih with e | ⟨e1, e2⟩
    · subst e; exact .inr ⟨h2, h3⟩
    · exact .inr ⟨e1, by omega⟩
  | high hr h2 ih =>
    have h3 := w.hp _ h2 (hr.lt w hi)
    rcases ih with e | ⟨e1, e2⟩
    · subst e; exact .inr ⟨h2, h3⟩
    · exact .inr ⟨e1, by omega⟩
theorem lvl_iff {n : Nat} {ns : List N3} (w : WF n ns) {i j k : Nat} (hi : i < ns.length) (hk : k < n) : (j ∈ lvl n ns i k ∧ (nd ns j).p = k) ↔ (Rch ns i j ∧ 2 ≤ j ∧ (nd ns j).p = k) := by
  constructor
  · rintro ⟨h1, h2⟩
    obtain ⟨h3, h4, h5⟩ := lvl_ok w hi k (by omega) j h1
    exact ⟨h5, w.nonconst (by omega), h2⟩
  · rintro ⟨h1, h2, h3⟩
    obtain ⟨x, hx, hr⟩ := lvl_rch w hi h1 k (by omega) (by omega)
    obtain ⟨h4, h5, _⟩ := lvl_ok w hi k (by omega) x hx
    rcases rch_p w h4 hr with e | ⟨_, e⟩
    · subst e; exact ⟨hx, h3⟩
    · omega
theorem flatMap_cong {α β : Type} {l : List α} {f g : α → List β} (h : ∀ x ∈ l, f x = g x) : l.flatMap f = l.flatMap g := by
  induction l with
  | nil => rfl
  | cons x l ih => rw [List.flatMap_cons, List.flatMap_cons, h x (by simp), ih fun y hy => h y (by simp [hy])]
theorem tab_lvl {n : Nat} {ns : List N3} (w : WF n ns) {i : Nat} (hi : i < ns.length) : ∀ k, k ≤ n → tab n ns i = (lvl n ns i k).flatMap (blk n ns k)
  | 0, _ => by simp [lvl, tab]
  | k + 1, hk => by
    rw [tab_lvl w hi k (by omega), lvl, List.flatMap_assoc]
    refine flatMap_cong fun j hj => ?_
    obtain ⟨h1, h2, _⟩ := lvl_ok w hi k (by omega) j hj
    split
    · rename_i hp
      have h4 := w.nonconst (show (nd ns j).p < n by omega)
      have := blk_node w h4 h1
      rw [hp] at this
      rw [this]; simp
    · rw [blk_later w h1 (by omega)]; simp
end Go.Proofs.YthnhijdfcmcnhaaGreat
namespace Go.Proofs.YthnhijdfcmcnhaaGreat
open Go Go.Cx Go.RowKit
set_option linter.unusedVariables false
set_option linter.unusedSimpArgs false
set_option maxHeartbeats 4000000
attribute [local irreducible] J JC thenK blockK loopK drawK retK QW Qt pel List.set Calls
open Go.Maps
set_option maxRecDepth 8000
attribute [local irreducible] JE Br eK0 eK3 brK pc
def evBo (b : Bool) : Value := .bool b
structure Vis (ns : List N3) (out out' : List Nat) (r : Nat) : Prop where
  sub : ∀ x ∈ out, x ∈ out'
  has : r < 2 ∨ r ∈ out'
  new : ∀ x ∈ out', x ∈ out ∨ (2 ≤ x ∧ Rch ns r x)
  cl : ∀ x ∈ out', x ∈ out ∨ (((nd ns x).l < 2 ∨ (nd ns x).l ∈ out') ∧ ((nd ns x).h < 2 ∨ (nd ns x).h ∈ out'))
def seenL (out : List Nat) : List (Int × Bool) := (0, true) :: (1, true) :: out.map fun x : Nat => ((x : Int), true)
theorem seen_get (out : List Nat) (b : Nat) : mget (seenL out) (b : Int) = if b < 2 ∨ b ∈ out then some true else none := by
  have h2 : ∀ l : List Nat, mget (l.map fun x : Nat => ((x : Int), true)) (b : Int) = if b ∈ l then some true else none := by
    intro l
    induction l with
    | nil => rfl
    | cons x l ih =>
      unfold mget at ih ⊢
      rw [List.map_cons, List.find?_cons]
      by_cases hx : x = b
      · subst hx; simp
      · have h3 : ¬ ((x : Int) = (b : Int)) := by omega
        have h4 : ¬ (b = x) := fun e => hx e.symm
        simp only [h3, decide_false, List.mem_cons, h4, false_or]
        exact ih
  have h0 := h2 out
  unfold seenL
  unfold mget at h0 ⊢
  rw [List.find?_cons, List.find?_cons]
  by_cases e0 : b = 0
  · subst e0; simp
  · by_cases e1 : b = 1
    · subst e1; simp
    · have h3 : ¬ ((0 : Int) = (b : Int)) := by omega
      have h4 : ¬ ((1 : Int) = (b : Int)) := by omega
      have h5 : ¬ b < 2 := by omega
      simp only [h3, h4, decide_false, h5, false_or]
      exact h0
theorem seen_put {out : List Nat} {b : Nat} (h : ¬ (b < 2 ∨ b ∈ out)) : mput (seenL out) (b : Int) true = seenL (out ++ [b]) := by
  rw [mput_new true (mget_out (by rw [seen_get, if_neg h]))]
  unfold seenL
  simp
theorem nodup_sub_len : ∀ (l m : List Nat), l.Nodup → (∀ x ∈ l, x ∈ m) → l.length ≤ m.length
  | [], _, _, _ => Nat.zero_le _
  | x :: l, m, hn, hs => by
    obtain ⟨h1, h2⟩ := List.nodup_cons.1 hn
    obtain ⟨s, t, rfl⟩ := List.append_of_mem (hs x (by simp))
    have := nodup_sub_len l (s ++ t) h2 fun y hy => by
      have h3 := hs y (by simp [hy])
      rcases List.mem_append.1 h3 with h4 | h4
      · exact List.mem_append_left _ h4
      · rcases List.mem_cons.1 h4 with h5 | h5
        · subst h5; exact absurd hy h1
        · exact List.mem_append_right _ h5
    simp only [List.length_append, List.length_cons] at this ⊢
    omega
theorem nodup_len {l : List Nat} {m : Nat} (hn : l.Nodup) (h : ∀ x ∈ l, x < m) : l.length ≤ m := by
  have := nodup_sub_len l (List.range m) hn fun x hx => List.mem_range.2 (h x hx)
  rwa [List.length_range] at this
theorem Vis.join {ns : List N3} {out o1 o2 : List Nat} {b : Nat} (h2 : 2 ≤ b) (v1 : Vis ns (out ++ [b]) o1 (nd ns b).l) (v2 : Vis ns o1 o2 (nd ns b).h) : Vis ns out o2 b := by
  have hb : b ∈ o2 := v2.sub _ (v1.sub _ (List.mem_append_right _ (List.mem_singleton_self _)))
  refine ⟨fun x hx => v2.sub _ (v1.sub _ (List.mem_append_left _ hx)), .inr hb, fun x hx => ?_, fun x hx => ?_⟩
  · rcases v2.new x hx with h | ⟨g1, g2⟩
    · rcases v1.new x h with h | ⟨g1, g2⟩
      · rcases List.mem_append.1 h with h | h
        · exact .inl h
        · rw [List.mem_singleton.1 h]; exact .inr ⟨h2, .refl⟩
      · exact .inr ⟨g1, (Rch.low .refl h2).trans g2⟩
    · exact .inr ⟨g1, (Rch.high .refl h2).trans g2⟩
  · rcases v2.cl x hx with h | h
    · rcases v1.cl x h with h | ⟨h3, h4⟩
      · rcases List.mem_append.1 h with h | h
        · exact .inl h
        · rw [List.mem_singleton.1 h]
          exact .inr ⟨v1.has.imp id (v2.sub _), v2.has⟩
      · exact .inr ⟨h3.imp id (v2.sub _), h4.imp id (v2.sub _)⟩
    · exact .inr h
theorem Vis.all {ns : List N3} {o : List Nat} {b : Nat} (v : Vis ns [] o b) (x : Nat) : x ∈ o ↔ (2 ≤ x ∧ Rch ns b x) := by
  constructor
  · intro hx
    rcases v.new x hx with h | h
    · cases h
    · exact h
  · rintro ⟨h2, hr⟩
    have key : x < 2 ∨ x ∈ o := by
      clear h2
      induction hr with
      | refl => exact v.has
      | low _ g2 ih =>
        rcases ih with g | g
        · omega
        · rcases v.cl _ g with g | g
          · cases g
          · exact g.1
      | high _ g2 ih =>
        rcases ih with g | g
        · omega
        · rcases v.cl _ g with g | g
          · cases g
          · exact g.2
    exact key.resolve_left (by omega)
theorem eVisit : Entr Tryz.prog 79 := Entr.of Tryz.func79 rfl rfl
theorem eBelow : Entr Tryz.prog 59 := Entr.of Tryz.func59 rfl rfl
theorem eSize : Entr Tryz.prog 29 := Entr.of Tryz.func29 rfl rfl
def natI (l : List Nat) : List Int := l.map fun x : Nat => (x : Int)
def mapO (b : Nat) : Obj := .cells ⟨[.map (some b)]⟩ 121 (0, 0)
def outO (a : Option Addr) (l c : Nat) : Obj := .cells ⟨[.slice a l c]⟩ 22 (0, 0)
def fnV (c5 c6 c7 c2 : Nat) : Obj := .cells ⟨[.func (.func 79) ⟨[]⟩ ⟨[.pointer (some ⟨c5, 0, none⟩), .pointer (some ⟨c6, 0, none⟩), .pointer (some ⟨c7, 0, none⟩), .pointer (some ⟨c2, 0, none⟩)]⟩]⟩ 122 (0, 0)
theorem visit_any {n : Nat} {K : KS} {s : SS} (so : SOk n K s) (b0 c5 c6 c7 c2 bm : Nat) : ∀ (m b : Nat), n - (nd s.ns b).p = m → b < s.ns.length → ∀ (out : List Nat) (ao : Option Addr) (co : Nat) (hO hM : Heap), out.Nodup → (∀ x ∈ out, x < s.ns.length) →
    OwT encI 1 3 ao co (natI out) hO → MapT Tryz.prog 3 ekI evBo (seenL out) bm hM →
    ∀ {w0 w : World} {R : Heap} {L : List Heap}, H w0 R ([(c6, outO ao out.length co)] :: hO :: hM :: L) w → Rd R L c5 (mapO bm) → Rd R L c7 (fnV c5 c6 c7 c2) → Rd R L c2 (ptrS b0) → Rd R L b0 (stO K s.an s.ns.length s.cn) → RdH R L s.hN →
    Calls Tryz.prog 79 #[.int .i64 (b : Int), .pointer (some ⟨c5, 0, none⟩), .pointer (some ⟨c6, 0, none⟩), .pointer (some ⟨c7, 0, none⟩), .pointer (some ⟨c2, 0, none⟩)] w fun e w' => ∃ v L', e = .returned v ∧ H w0 R L' w' ∧ ∃ out' ao' co' hO' hM', v = .tuple #[] ∧ L' = [(c6, outO ao' out'.length co')] :: hO' :: hM' :: L ∧ out'.Nodup ∧ (∀ x ∈ out', x < s.ns.length) ∧ OwT encI 1 3 ao' co' (natI out') hO' ∧ MapT Tryz.prog 3 ekI evBo (seenL out') bm hM' ∧ Vis s.ns out out' b := by
  intro m
  induction m using Nat.strongRecOn with
  | ind m ih =>
  intro b hm hb out ao co hO hM nod rng oo mp w0 w R L hw r5 r7 r2 rb rn
  have sm := so.sm
  have r5' := r5
  have r7' := r7
  have r2' := r2
  have rb' := rb
  unfold mapO at r5'
  unfold fnV at r7'
  unfold ptrS at r2'
  unfold stO at rb'
  have hsl := so.ow.sl
  have hkey := keyI (b : Int) (by omega)
  have hget := seen_get out b
  by_cases hin : b < 2 ∨ b ∈ out
  · rw [if_pos hin] at hget
    refine calls_in Tryz.func79 Tryz.ntmps79 rfl rfl (hw) ?_
    unfold outO
    repeat' first
      | (refine J.isJ ?_; first | (first | (refine J.o 4 ?_; first | refine J.lR hΓ ?_ (hr := r5'.tl.tl.tl)) | (refine J.o 9 ?_; refine J.lk (a := (b : Int)) keyedI ekI_inj mp (by first | exact RdH.hd | exact RdH.hd.tl | exact RdH.hd.tl.tl | exact RdH.hd.tl.tl.tl | exact RdH.hd.tl.tl.tl.tl | exact RdH.hd.tl.tl.tl.tl.tl | exact RdH.hd.tl.tl.tl.tl.tl.tl | exact RdH.hd.tl.tl.tl.tl.tl.tl.tl | exact RdH.old (fun _ hh => hh) | assumption) hkey hΓ ?_; rw [hget])) | (first | (refine J.o 0 ?_; refine J.ev' hΓ ?_) | refine J.nil ?_ | (refine J.o 4 ?_; first | refine J.lT default hΓ ?_ | refine J.lR hΓ ?_) | (refine J.o 3 ?_; first | refine J.iJ hΓ ?_ | refine J.fP hΓ ?_ | refine J.ev' hΓ ?_) | (refine J.o 5 ?_; first | refine J.t2 hΓ ?_) | (refine J.o 9 ?_; refine J.bl hΓ (fun _ => ?_)) | (refine J.o 10 ?_; refine J.ev' hΓ ?_) | (refine J.o 11 ?_; refine J.ev' hΓ ?_)))
      | (first | refine JC.seq ?_ | refine JC.region ?_ | refine JC.ret ?_ | refine JC.skip ?_ | refine thenK.nn ?_ | refine thenK.r ?_ | refine JC.condT rfl ?_ | refine JC.condF rfl ?_ | refine drawK.nn ?_)
      | (fail)
      | fail
    all_goals first | (exfalso; omega) | skip
    all_goals first | refine ret0 rfl (fun w1 hw => ⟨_, _, rfl, hw, out, ao, co, hO, hM, rfl, rfl, nod, rng, oo, mp, ⟨fun x hx => hx, hin, fun x hx => .inl hx, fun x hx => .inl hx⟩⟩) | refine ret0n rfl (fun w1 hw => ⟨_, _, rfl, hw, out, ao, co, hO, hM, rfl, rfl, nod, rng, oo, mp, ⟨fun x hx => hx, hin, fun x hx => .inl hx, fun x hx => .inl hx⟩⟩)
  · rw [if_neg hin] at hget
    have hb2 : 2 ≤ b := by omega
    have hlen : (natI out).length = out.length := by unfold natI; rw [List.length_map]
    have hlen2 : (natI out ++ [(b : Int)]).length = out.length + 1 := by rw [List.length_append, hlen]; rfl
    have ho128 : out.length ≤ 1048576 := Nat.le_trans (nodup_len nod rng) sm
    refine calls_in Tryz.func79 Tryz.ntmps79 rfl rfl (hw) ?_
    unfold outO
    repeat' first
      | (refine J.isJ ?_; first | (first | (refine J.o 4 ?_; first | refine J.lR hΓ ?_ (hr := r5'.tl.tl.tl) | refine J.lR hΓ ?_ (hr := Rd.hd.tl)) | (refine J.o 9 ?_; refine J.lk (a := (b : Int)) keyedI ekI_inj mp (by first | exact RdH.hd | exact RdH.hd.tl | exact RdH.hd.tl.tl | exact RdH.hd.tl.tl.tl | exact RdH.hd.tl.tl.tl.tl | exact RdH.hd.tl.tl.tl.tl.tl | exact RdH.hd.tl.tl.tl.tl.tl.tl | exact RdH.hd.tl.tl.tl.tl.tl.tl.tl | exact RdH.old (fun _ hh => hh) | assumption) hkey hΓ ?_; rw [hget]) | (refine J.o 9 ?_; refine J.perm br2 ?_; refine J.mup (a := (b : Int)) (ev := evBo) true keyedI ekI_inj mp hkey hΓ (fun h3 mp3 => ?_)) | ((refine J.o 9 ?_; first | (first | (refine J.ap1 (enc := encI) [(b : Int)] hΓ (fun a2 k2 h2 o2 => ?_)) | (refine J.perm (br1.cons _) ?_; refine J.ap1 (enc := encI) [(b : Int)] hΓ (fun a2 k2 h2 o2 => ?_)) | (refine J.perm (br2.cons _) ?_; refine J.ap1 (enc := encI) [(b : Int)] hΓ (fun a2 k2 h2 o2 => ?_)) | (refine J.perm (br3.cons _) ?_; refine J.ap1 (enc := encI) [(b : Int)] hΓ (fun a2 k2 h2 o2 => ?_)) | (refine J.perm (br4.cons _) ?_; refine J.ap1 (enc := encI) [(b : Int)] hΓ (fun a2 k2 h2 o2 => ?_)) | (refine J.perm (br5.cons _) ?_; refine J.ap1 (enc := encI) [(b : Int)] hΓ (fun a2 k2 h2 o2 => ?_))) | (refine J.perm br1 ?_; first | (refine J.ap1 (enc := encI) [(b : Int)] hΓ (fun a2 k2 h2 o2 => ?_)) | (refine J.perm (br1.cons _) ?_; refine J.ap1 (enc := encI) [(b : Int)] hΓ (fun a2 k2 h2 o2 => ?_)) | (refine J.perm (br2.cons _) ?_; refine J.ap1 (enc := encI) [(b : Int)] hΓ (fun a2 k2 h2 o2 => ?_)) | (refine J.perm (br3.cons _) ?_; refine J.ap1 (enc := encI) [(b : Int)] hΓ (fun a2 k2 h2 o2 => ?_)) | (refine J.perm (br4.cons _) ?_; refine J.ap1 (enc := encI) [(b : Int)] hΓ (fun a2 k2 h2 o2 => ?_)) | (refine J.perm (br5.cons _) ?_; refine J.ap1 (enc := encI) [(b : Int)] hΓ (fun a2 k2 h2 o2 => ?_))) | (refine J.perm br2 ?_; first | (refine J.ap1 (enc := encI) [(b : Int)] hΓ (fun a2 k2 h2 o2 => ?_)) | (refine J.perm (br1.cons _) ?_; refine J.ap1 (enc := encI) [(b : Int)] hΓ (fun a2 k2 h2 o2 => ?_)) | (refine J.perm (br2.cons _) ?_; refine J.ap1 (enc := encI) [(b : Int)] hΓ (fun a2 k2 h2 o2 => ?_)) | (refine J.perm (br3.cons _) ?_; refine J.ap1 (enc := encI) [(b : Int)] hΓ (fun a2 k2 h2 o2 => ?_)) | (refine J.perm (br4.cons _) ?_; refine J.ap1 (enc := encI) [(b : Int)] hΓ (fun a2 k2 h2 o2 => ?_)) | (refine J.perm (br5.cons _) ?_; refine J.ap1 (enc := encI) [(b : Int)] hΓ (fun a2 k2 h2 o2 => ?_)))); rw [hlen2])) | (first | (refine J.o 0 ?_; refine J.ev' hΓ ?_) | refine J.nil ?_ | (refine J.o 4 ?_; first | refine J.lT default hΓ ?_ | refine J.lR hΓ ?_) | (refine J.o 3 ?_; first | refine J.iJ hΓ ?_ | refine J.fP hΓ ?_ | refine J.ev' hΓ ?_) | (refine J.o 5 ?_; first | refine J.t2 hΓ ?_) | (refine J.o 9 ?_; refine J.bl hΓ (fun _ => ?_)) | (refine J.o 10 ?_; refine J.ev' hΓ ?_) | (refine J.o 11 ?_; refine J.ev' hΓ ?_)))
      | (first | refine JC.seq ?_ | refine JC.region ?_ | refine JC.ret ?_ | refine JC.skip ?_ | refine thenK.nn ?_ | refine thenK.r ?_ | refine JC.condT rfl ?_ | refine JC.condF rfl ?_ | refine drawK.nn ?_)
      | (fail)
      | fail
    rw [seen_put hin] at mp3
    have hnat : natI out ++ [(b : Int)] = natI (out ++ [b]) := by unfold natI; rw [List.map_append]; rfl
    rw [hnat] at o2
    have hpb := so.wf.pl b hb2 hb
    have hlp := so.wf.lp b hb2 hb
    have hhp := so.wf.hp b hb2 hb
    have hll := so.wf.ll b hb2 hb
    have hlh := so.wf.hl b hb2 hb
    have hl1 : (out ++ [b]).length = out.length + 1 := by simp
    have nod1 : (out ++ [b]).Nodup := by
      rw [List.nodup_append]
      refine ⟨nod, by simp, fun x hx y hy => ?_⟩
      rw [List.mem_singleton.1 hy]
      intro e; subst e
      exact hin (.inr hx)
    have rng1 : ∀ x ∈ out ++ [b], x < s.ns.length := fun x hx => by
      rcases List.mem_append.1 hx with h | h
      · exact rng x h
      · rw [List.mem_singleton.1 h]; exact hb
    repeat' first
      | (refine J.isJ ?_; first | (first | (refine J.o 4 ?_; first | refine J.lR hΓ ?_ (hr := r7'.tl.tl.tl) | refine J.lR hΓ ?_ (hr := r2'.tl.tl.tl) | refine J.lR hΓ ?_ (hr := rb'.tl.tl.tl) | refine J.lT default hΓ ?_ (hs := hsl) (hr := rn.tl.tl.tl))) | (first | (refine J.o 0 ?_; refine J.ev' hΓ ?_) | refine J.nil ?_ | (refine J.o 4 ?_; first | refine J.lT default hΓ ?_ | refine J.lR hΓ ?_) | (refine J.o 3 ?_; first | refine J.iJ hΓ ?_ | refine J.fP hΓ ?_ | refine J.ev' hΓ ?_) | (refine J.o 5 ?_; first | refine J.t2 hΓ ?_) | (refine J.o 9 ?_; refine J.bl hΓ (fun _ => ?_)) | (refine J.o 10 ?_; refine J.ev' hΓ ?_) | (refine J.o 11 ?_; refine J.ev' hΓ ?_)))
      | (first | refine JC.seq ?_ | refine JC.region ?_ | refine JC.ret ?_ | refine JC.skip ?_ | refine thenK.nn ?_ | refine thenK.r ?_ | refine JC.condT rfl ?_ | refine JC.condF rfl ?_ | refine drawK.nn ?_)
      | ((refine JC.drawO [(1,0),(1,1),(0,2),(0,3),(1,4),(0,5),(0,6),(0,7),(1,8),(2,9)] (by kernel_rfl) (by kernel_rfl) ?_))
      | fail
    refine J.isJ ?_
    refine J.o 9 ?_
    refine J.callvx eVisit rfl rfl rfl (fun w hw => ih _ (by omega) (nd s.ns b).l rfl hll (out ++ [b]) a2 k2 h2 h3 nod1 rng1 o2 mp3 (by rw [hl1]; exact hw.perm br2) r5 r7 r2 rb rn) ?_
    rintro _ _ ⟨out1, a3, k3, hO1, hM1, rfl, rfl, nod2, rng2, oo1, mp4, vis1⟩
    unfold outO
    repeat' first
      | (refine J.isJ ?_; first | (first | (refine J.o 4 ?_; first | refine J.lR hΓ ?_ (hr := r7'.tl.tl.tl) | refine J.lR hΓ ?_ (hr := r2'.tl.tl.tl) | refine J.lR hΓ ?_ (hr := rb'.tl.tl.tl) | refine J.lT default hΓ ?_ (hs := hsl) (hr := rn.tl.tl.tl))) | (first | (refine J.o 0 ?_; refine J.ev' hΓ ?_) | refine J.nil ?_ | (refine J.o 4 ?_; first | refine J.lT default hΓ ?_ | refine J.lR hΓ ?_) | (refine J.o 3 ?_; first | refine J.iJ hΓ ?_ | refine J.fP hΓ ?_ | refine J.ev' hΓ ?_) | (refine J.o 5 ?_; first | refine J.t2 hΓ ?_) | (refine J.o 9 ?_; refine J.bl hΓ (fun _ => ?_)) | (refine J.o 10 ?_; refine J.ev' hΓ ?_) | (refine J.o 11 ?_; refine J.ev' hΓ ?_)))
      | (first | refine JC.seq ?_ | refine JC.region ?_ | refine JC.ret ?_ | refine JC.skip ?_ | refine thenK.nn ?_ | refine thenK.r ?_ | refine JC.condT rfl ?_ | refine JC.condF rfl ?_ | refine drawK.nn ?_)
      | ((refine JC.drawO [(1,0),(1,1),(0,2),(0,3),(1,4),(0,5),(0,6),(0,7),(1,8),(2,9)] (by kernel_rfl) (by kernel_rfl) ?_))
      | fail
    refine J.isJ ?_
    refine J.o 9 ?_
    refine J.callvx eVisit rfl rfl rfl (fun w hw => ih _ (by omega) (nd s.ns b).h rfl hlh out1 a3 k3 hO1 hM1 nod2 rng2 oo1 mp4 hw r5 r7 r2 rb rn) ?_
    rintro _ _ ⟨out2, a4, k4, hO2, hM2, rfl, rfl, nod3, rng3, oo2, mp5, vis2⟩
    unfold outO
    repeat' first
      | (refine J.isJ ?_; first | (fail) | (first | (refine J.o 0 ?_; refine J.ev' hΓ ?_) | refine J.nil ?_ | (refine J.o 4 ?_; first | refine J.lT default hΓ ?_ | refine J.lR hΓ ?_) | (refine J.o 3 ?_; first | refine J.iJ hΓ ?_ | refine J.fP hΓ ?_ | refine J.ev' hΓ ?_) | (refine J.o 5 ?_; first | refine J.t2 hΓ ?_) | (refine J.o 9 ?_; refine J.bl hΓ (fun _ => ?_)) | (refine J.o 10 ?_; refine J.ev' hΓ ?_) | (refine J.o 11 ?_; refine J.ev' hΓ ?_)))
      | (first | refine JC.seq ?_ | refine JC.region ?_ | refine JC.ret ?_ | refine JC.skip ?_ | refine thenK.nn ?_ | refine thenK.r ?_ | refine JC.condT rfl ?_ | refine JC.condF rfl ?_ | refine drawK.nn ?_)
      | (fail)
      | fail
    all_goals first | refine ret0 rfl (fun w1 hw => ⟨_, _, rfl, hw, out2, a4, k4, hO2, hM2, rfl, rfl, nod3, rng3, oo2, mp5, Vis.join hb2 vis1 vis2⟩) | refine ret0n rfl (fun w1 hw => ⟨_, _, rfl, hw, out2, a4, k4, hO2, hM2, rfl, rfl, nod3, rng3, oo2, mp5, Vis.join hb2 vis1 vis2⟩)
end Go.Proofs.YthnhijdfcmcnhaaGreat
namespace Go.Proofs
open Go.Shelf
def Tryz.lays169_ren : Go.Shelf.Ren := ⟨fun | 169 => 68 | n => n, fun | 70 => 102 | 9 => 9 | 0 => 0 | 72 => 104 | 37 => 99 | 127 => 128 | 3 => 3 | 5 => 5 | n => n, fun | n => n⟩
theorem Tryz.lays169 : Go.Proofs.Lays.n169 Tryz.prog Tryz.lays169_ren := {
  mixed := by kernel_rfl
  f169 := Tryz.func68.trans (congrArg some (by kernel_rfl))
  t0 := Tryz.underlying0
  a0 := Tryz.isAgg0
  z0 := Tryz.sizeOf0
  v0 := Tryz.zeroValue0
  t3 := Tryz.underlying3
  a3 := Tryz.isAgg3
  z3 := Tryz.sizeOf3
  v3 := Tryz.zeroValue3
  t9 := Tryz.underlying9
  a9 := Tryz.isAgg9
  z9 := Tryz.sizeOf9
  v9 := Tryz.zeroValue9
  t37 := Tryz.underlying99
  a37 := Tryz.isAgg99
  z37 := Tryz.sizeOf99
  v37 := Tryz.zeroValue99
  t70 := Tryz.underlying102
  a70 := Tryz.isAgg102
  z70 := Tryz.sizeOf102
  v70 := Tryz.zeroValue102
  t72 := Tryz.underlying104
  a72 := Tryz.isAgg104
  z72 := Tryz.sizeOf104
  v72 := Tryz.zeroValue104
  t127 := Tryz.underlying128
  a127 := Tryz.isAgg128
  z127 := Tryz.sizeOf128
  v127 := Tryz.zeroValue128 }
theorem Tryz.Builder_Extra_169 : Builder.Extra Tryz.prog Tryz.lays169_ren := {
  sizeBuilder := by kernel_rfl
  liesBuilder := by kernel_rfl
  t5 := Tryz.underlying5
  a5 := Tryz.isAgg5
  z5 := Tryz.sizeOf5
  v5 := Tryz.zeroValue5
  infoByte := by kernel_rfl
  cellsByte := by kernel_rfl
  sizeByte := by kernel_rfl
  neB5 := by decide }
open Go.RowKit in
theorem Tryz.Builder_String_any (B b : Nat) (l : List UInt8) (w : World) (h : Lib.IsBuilder 104 5 B b (Lib.byteCells l) w) (hBw : B ≤ w.heap.size) :
    Calls Tryz.prog 68 #[.pointer (some ⟨b, 0, none⟩)] w fun e w' => e = .returned (.string ⟨l.toArray⟩) ∧ Below B w w' := Any.Builder_String_any Tryz.lays169 Tryz.Builder_Extra_169 B b l w h hBw
def Tryz.lays189_ren : Go.Shelf.Ren := ⟨fun | 189 => 80 | 125 => 89 | 257 => 88 | 128 => 100 | 129 => 101 | 294 => 91 | 295 => 92 | 296 => 93 | 297 => 94 | 298 => 95 | 299 => 96 | 216 => 97 | 300 => 98 | 301 => 99 | 328 => 102 | 329 => 103 | 330 => 104 | 331 => 105 | 332 => 106 | 215 => 107 | 343 => 108 | n => n, fun | 28 => 22 | 3 => 3 | 46 => 124 | 0 => 0 | 51 => 100 | 53 => 66 | 4 => 4 | 183 => 138 | 182 => 137 | 131 => 83 | 5 => 5 | 9 => 9 | 218 => 145 | 222 => 149 | 228 => 152 | 229 => 153 | n => n, fun | n => n⟩
theorem Tryz.lays189 : Go.Proofs.Lays.n189 Tryz.prog Tryz.lays189_ren := {
  mixed := by kernel_rfl
  f125 := Tryz.func89.trans (congrArg some (by kernel_rfl))
  f128 := Tryz.func100.trans (congrArg some (by kernel_rfl))
  f129 := Tryz.func101.trans (congrArg some (by kernel_rfl))
  f189 := Tryz.func80.trans (congrArg some (by kernel_rfl))
  f215 := Tryz.func107.trans (congrArg some (by kernel_rfl))
  f216 := Tryz.func97.trans (congrArg some (by kernel_rfl))
  f257 := Tryz.func88.trans (congrArg some (by kernel_rfl))
  f294 := Tryz.func91.trans (congrArg some (by kernel_rfl))
  f295 := Tryz.func92.trans (congrArg some (by kernel_rfl))
  f296 := Tryz.func93.trans (congrArg some (by kernel_rfl))
  f297 := Tryz.func94.trans (congrArg some (by kernel_rfl))
  f298 := Tryz.func95.trans (congrArg some (by kernel_rfl))
  f299 := Tryz.func96.trans (congrArg some (by kernel_rfl))
  f300 := Tryz.func98.trans (congrArg some (by kernel_rfl))
  f301 := Tryz.func99.trans (congrArg some (by kernel_rfl))
  f328 := Tryz.func102.trans (congrArg some (by kernel_rfl))
  f329 := Tryz.func103.trans (congrArg some (by kernel_rfl))
  f330 := Tryz.func104.trans (congrArg some (by kernel_rfl))
  f331 := Tryz.func105.trans (congrArg some (by kernel_rfl))
  f332 := Tryz.func106.trans (congrArg some (by kernel_rfl))
  f343 := Tryz.func108.trans (congrArg some (by kernel_rfl))
  t0 := Tryz.underlying0
  a0 := Tryz.isAgg0
  z0 := Tryz.sizeOf0
  v0 := Tryz.zeroValue0
  t3 := Tryz.underlying3
  a3 := Tryz.isAgg3
  z3 := Tryz.sizeOf3
  v3 := Tryz.zeroValue3
  t4 := Tryz.underlying4
  a4 := Tryz.isAgg4
  z4 := Tryz.sizeOf4
  v4 := Tryz.zeroValue4
  t5 := Tryz.underlying5
  a5 := Tryz.isAgg5
  z5 := Tryz.sizeOf5
  v5 := Tryz.zeroValue5
  t9 := Tryz.underlying9
  a9 := Tryz.isAgg9
  z9 := Tryz.sizeOf9
  v9 := Tryz.zeroValue9
  t28 := Tryz.underlying22
  a28 := Tryz.isAgg22
  z28 := Tryz.sizeOf22
  v28 := Tryz.zeroValue22
  t46 := Tryz.underlying124
  a46 := Tryz.isAgg124
  z46 := Tryz.sizeOf124
  v46 := Tryz.zeroValue124
  t51 := Tryz.underlying100
  a51 := Tryz.isAgg100
  z51 := Tryz.sizeOf100
  v51 := Tryz.zeroValue100
  t53 := Tryz.underlying66
  a53 := Tryz.isAgg66
  z53 := Tryz.sizeOf66
  v53 := Tryz.zeroValue66
  t131 := Tryz.underlying83
  a131 := Tryz.isAgg83
  z131 := Tryz.sizeOf83
  v131 := Tryz.zeroValue83
  t182 := Tryz.underlying137
  a182 := Tryz.isAgg137
  z182 := Tryz.sizeOf137
  v182 := Tryz.zeroValue137
  t183 := Tryz.underlying138
  a183 := Tryz.isAgg138
  z183 := Tryz.sizeOf138
  v183 := Tryz.zeroValue138
  t218 := Tryz.underlying145
  a218 := Tryz.isAgg145
  z218 := Tryz.sizeOf145
  v218 := Tryz.zeroValue145
  t222 := Tryz.underlying149
  a222 := Tryz.isAgg149
  z222 := Tryz.sizeOf149
  v222 := Tryz.zeroValue149
  t228 := Tryz.underlying152
  a228 := Tryz.isAgg152
  z228 := Tryz.sizeOf152
  v228 := Tryz.zeroValue152
  t229 := Tryz.underlying153
  a229 := Tryz.isAgg153
  z229 := Tryz.sizeOf153
  v229 := Tryz.zeroValue153 }
open Go.Sort Go.RowKit in
theorem Tryz.slices_Sort_int (blk off cap : Nat) (zs : List Int) (w : World) (hH : Holds (Value.int .i64) w blk off zs.toArray) (hblk : blk < w.heap.size) (hsz : zs.length < 4611686018427387904) :
    Calls Tryz.prog 80 #[.slice (some ⟨blk, off, none⟩) zs.length cap] w fun e w' =>
      e = .returned (.tuple #[]) ∧ ∃ n os, w' = grow (putRow (Value.int .i64) (Sort.ahead w n) blk off (zs.mergeSort fun x y => decide (x ≤ y)).toArray) os := Any.slices_Sort_int Tryz.lays189 blk off cap zs w hH hblk hsz
open Go.RowKit Go.Sort in
theorem Tryz.slices_Sort_int_none (p : Option Addr) (cap : Nat) (w : World) :
    Calls Tryz.prog 80 #[.slice p 0 cap] w fun e w' => e = .returned (.tuple #[]) ∧ w' = w := Any.slices_Sort_int_none Tryz.lays189 p cap w
end Go.Proofs
namespace Go.Proofs.YthnhijdfcmcnhaaGreat
open Go Go.Cx Go.RowKit
set_option linter.unusedVariables false
set_option linter.unusedSimpArgs false
set_option maxHeartbeats 4000000
attribute [local irreducible] J JC thenK blockK loopK drawK retK QW Qt pel List.set Calls
open Go.Maps Go.Lib
set_option maxRecDepth 8000
attribute [local irreducible] JE Br eK0 eK3 brK pc
def insS : List Int → Int → List Int
  | [], x => [x]
  | y :: l, x => if x < y then x :: y :: l else y :: insS l x
def sortS (l : List Int) : List Int := l.foldl insS []
theorem insS_perm : ∀ (l : List Int) (x : Int), (insS l x).Perm (x :: l)
  | [], x => .refl _
  | y :: l, x => by
    unfold insS
    split
    · exact .refl _
    · exact ((insS_perm l x).cons y).trans (.swap _ _ _)
theorem insS_sorted : ∀ (l : List Int) (x : Int), l.Pairwise (· ≤ ·) → (insS l x).Pairwise (· ≤ ·)
  | [], x, _ => by simp [insS]
  | y :: l, x, h => by
    unfold insS
    rw [List.pairwise_cons] at h
    split
    · rename_i hxy
      refine List.pairwise_cons.2 ⟨fun z hz => ?_, List.pairwise_cons.2 h⟩
      rcases List.mem_cons.1 hz with rfl | hz
      · omega
      · have := h.1 z hz; omega
    · rename_i hxy
      refine List.pairwise_cons.2 ⟨fun z hz => ?_, insS_sorted l x h.2⟩
      have := (insS_perm l x).mem_iff.1 hz
      rcases List.mem_cons.1 this with rfl | hz
      · omega
      · exact h.1 z hz
theorem sortS_go : ∀ (l acc : List Int), acc.Pairwise (· ≤ ·) → (l.foldl insS acc).Perm (acc ++ l) ∧ (l.foldl insS acc).Pairwise (· ≤ ·)
  | [], acc, h => ⟨by simp, h⟩
  | x :: l, acc, h => by
    have ih := sortS_go l (insS acc x) (insS_sorted acc x h)
    refine ⟨ih.1.trans ?_, ih.2⟩
    refine ((insS_perm acc x).append_right l).trans ?_
    exact (List.perm_middle).symm
theorem sortS_perm (l : List Int) : (sortS l).Perm l := by simpa [sortS] using (sortS_go l [] List.Pairwise.nil).1
theorem sortS_sorted (l : List Int) : (sortS l).Pairwise (· ≤ ·) := (sortS_go l [] List.Pairwise.nil).2
theorem sort_eq : ∀ (a b : List Int), a.Perm b → a.Pairwise (· ≤ ·) → b.Pairwise (· ≤ ·) → a = b
  | [], b, h, _, _ => (List.Perm.nil_eq h)
  | x :: a, [], h, _, _ => absurd h.length_eq (by simp)
  | x :: a, y :: b, h, h1, h2 => by
    rw [List.pairwise_cons] at h1 h2
    have e : x = y := by
      have hx := h.mem_iff.1 (List.mem_cons_self (a := x) (l := a))
      have hy := h.mem_iff.2 (List.mem_cons_self (a := y) (l := b))
      rcases List.mem_cons.1 hx with hx | hx
      · exact hx
      · rcases List.mem_cons.1 hy with hy | hy
        · exact hy.symm
        · have := h1.1 y hy; have := h2.1 x hx; omega
    subst e
    rw [sort_eq a b (List.Perm.cons_inv h) h1.2 h2.2]
theorem sort_ms (l : List Int) : l.mergeSort (fun x y => decide (x ≤ y)) = sortS l := by
  refine sort_eq _ _ ((List.mergeSort_perm l _).trans (sortS_perm l).symm) ?_ (sortS_sorted l)
  have := List.pairwise_mergeSort (le := fun x y : Int => decide (x ≤ y)) (fun a b c h1 h2 => by simp only [decide_eq_true_eq] at *; omega) (fun a b => by simp only [Bool.or_eq_true, decide_eq_true_eq]; omega) l
  exact this.imp (fun h => by simpa using h)
theorem sortS_len (l : List Int) : (sortS l).length = l.length := (sortS_perm l).length_eq
theorem eSort : Entr Tryz.prog 80 := Entr.of Tryz.func80 rfl rfl
theorem intsFlat (l : List Int) : l.flatMap encI = l.map (Value.int .i64) := by
  induction l with
  | nil => rfl
  | cons x l ih => rw [List.flatMap_cons, ih]; rfl
theorem sort_own {ao : Option Addr} {co : Nat} {l : List Int} {hO : Heap} (oo : OwT encI 1 3 ao co l hO) (hl : l.length ≤ 10000000000000) {w0 w : World} {R : Heap} {L : List Heap} (hw : H w0 R (hO :: L) w) :
    Calls Tryz.prog 80 #[.slice ao l.length co] w fun e w' => ∃ v' L', e = .returned v' ∧ H w0 R L' w' ∧ ∃ hO', v' = .tuple #[] ∧ L' = hO' :: L ∧ OwT encI 1 3 ao co (sortS l) hO' := by
  by_cases h0 : l.length = 0
  · have hn : l = [] := List.eq_nil_of_length_eq_zero h0
    subst hn
    refine (Tryz.slices_Sort_int_none ao co w).mono ?_
    rintro e w' ⟨rfl, rfl⟩
    exact ⟨_, _, rfl, hw, hO, rfl, rfl, oo⟩
  rcases oo.row with ⟨rfl, rfl, rfl, rfl⟩ | ⟨g, cs, rfl, rfl, h1, h2, h3⟩
  · exact absurd rfl h0
  have hb : w.heap[g]? = some (.cells ⟨cs⟩ 3 (0, 0)) := hw.rd Rd.hd
  have hgl : g < w.heap.size := (Array.getElem?_eq_some_iff.1 hb).1
  rw [intsFlat, Nat.mul_one] at h3
  have hcell : ∀ j (hj : j < l.length), cs[j]? = some (.int .i64 l[j]) := fun j hj => by
    have : (cs.take l.length)[j]? = (l.map (Value.int .i64))[j]? := by rw [h3]
    rw [List.getElem?_take_of_lt hj, List.getElem?_map, List.getElem?_eq_getElem hj] at this
    exact this
  have hH : Sort.Holds (Value.int .i64) w g 0 l.toArray := fun j hj => by
    have hj' : j < l.length := by simpa using hj
    constructor
    · simp [World.cell?, hb, hcell j hj', hj']
    · simp [World.frozen?, hb]
  refine (Tryz.slices_Sort_int g 0 co l w hH hgl (by omega)).mono ?_
  rintro e w' ⟨rfl, n, os, rfl⟩
  rw [sort_ms]
  have hsl := sortS_len l
  have hnew : Sort.putCells (Value.int .i64) 0 (sortS l).toArray ⟨cs⟩ = ⟨(sortS l).map (Value.int .i64) ++ cs.drop l.length⟩ := by
    unfold Sort.putCells
    apply Array.ext
    · simp; omega
    · intro i hi1 hi2
      simp only [Array.getElem_mapIdx, Nat.zero_le, true_and, Nat.zero_add, List.size_toArray, Nat.sub_zero]
      by_cases hi : i < (sortS l).length
      · rw [if_pos hi]
        simp [hi]
      · rw [if_neg hi]
        simp only [List.getElem_toArray]
        rw [List.getElem_append_right (by simpa using hi)]
        simp only [List.length_map, List.getElem_drop]
        congr 1
        omega
  refine ⟨_, [(g, .cells ⟨(sortS l).map (Value.int .i64) ++ cs.drop l.length⟩ 3 (0, 0))] :: L, rfl, ?_, _, rfl, rfl, ⟨oo.len, .inr ⟨g, _, rfl, rfl, ?_, by omega, ?_⟩⟩⟩
  · have h5 : H w0 R ([(g, .cells ⟨(sortS l).map (Value.int .i64) ++ cs.drop l.length⟩ 3 (0, 0))] :: L) (Sort.putRow (Value.int .i64) (Sort.ahead w n) g 0 (sortS l).toArray) := by
      refine hw.write (o' := .cells ⟨(sortS l).map (Value.int .i64) ++ cs.drop l.length⟩ 3 (0, 0)) rfl rfl rfl ?_ ?_ ?_
      · simp [Sort.putRow, Sort.mapBlock, Sort.ahead]
      · show (w.heap.modify g _)[g]? = _
        rw [Array.getElem?_modify, if_pos rfl, hb]
        show some (Obj.cells (Sort.putCells _ _ _ _) _ _) = _
        rw [hnew]
      · intro k hk
        show (w.heap.modify g _)[k]? = _
        rw [Array.getElem?_modify, if_neg (Ne.symm hk)]
    exact h5.grow (Lib.below_grow _ _ (Nat.le_refl _) 0 os)
  · simp; omega
  · rw [intsFlat, Nat.mul_one, List.take_left' (by simp)]
structure Bel (ns : List N3) (a : Nat) (l : List Int) : Prop where
  nodup : l.Nodup
  sorted : l.Pairwise (· ≤ ·)
  mem : ∀ x : Int, x ∈ l ↔ ∃ j : Nat, x = (j : Int) ∧ 2 ≤ j ∧ Rch ns a j
theorem Bel.of {ns : List N3} {a : Nat} {o : List Nat} (hn : o.Nodup) (v : Vis ns [] o a) : Bel ns a (sortS (natI o)) := by
  have hp := sortS_perm (natI o)
  have hn2 : (natI o).Nodup := by
    unfold natI
    rw [List.Nodup, List.pairwise_map]
    exact hn.imp fun h e => h (by omega)
  refine ⟨hp.nodup_iff.2 hn2, sortS_sorted _, fun x => ?_⟩
  rw [hp.mem_iff]
  unfold natI
  rw [List.mem_map]
  constructor
  · rintro ⟨j, hj, rfl⟩
    exact ⟨j, rfl, (v.all j).1 hj⟩
  · rintro ⟨j, rfl, h⟩
    exact ⟨j, (v.all j).2 h, rfl⟩
theorem below_any {n : Nat} {K : KS} {s : SS} (so : SOk n K s) (b0 a : Nat) (ha : a < s.ns.length) {w0 w : World} {R : Heap} {L : List Heap} (rb : Rd R L b0 (stO K s.an s.ns.length s.cn)) (rn : RdH R L s.hN) (hw : H w0 R L w) :
    Calls Tryz.prog 59 #[.pointer (some ⟨b0, 0, none⟩), .int .i64 (a : Int)] w fun e w' => ∃ v L', e = .returned v ∧ H w0 R L' w' ∧ ∃ ao co l hO, v = .slice ao l.length co ∧ L' = hO :: L ∧ OwT encI 1 3 ao co l hO ∧ Bel s.ns a l := by
  have sm := so.sm
  refine calls_in Tryz.func59 Tryz.ntmps59 rfl rfl (hw) ?_
  repeat' first
    | (refine J.isJ ?_; first | (first | (refine J.o 6 ?_; refine J.bx (fun c2 => ?_)) | (refine J.o 9 ?_; first | refine J.mkm (fun bm => ?_) | refine J.ins (ev := evBo) true keyedI ekI_inj (MapT.nil _) (keyI 0 (by omega)) hΓ (fun h1 mp1 => ?_) | refine J.ins (ev := evBo) true keyedI ekI_inj mp1 (keyI 1 (by omega)) hΓ (fun h2 mp2 => ?_) | (refine J.callvx eVisit rfl rfl rfl (fun w hw => visit_any so b0 c5 c6 c7 c2 bm _ a rfl ha [] none 0 [] h2 List.nodup_nil (fun x hx => by cases hx) (OwT.nil (fun _ => rfl)) mp2 (L := [(c7, fnV c5 c6 c7 c2)] :: [(c5, mapO bm)] :: [(c2, ptrS b0)] :: L) ((H.sel (l := [_, _, _, _, _]) (M := L) hw [1, 3, 0, 2, 4]).nilF.perm br1) Rd.hd.tl Rd.hd Rd.hd.tl.tl rb.tl.tl.tl rn.tl.tl.tl) ?_; rintro _ _ ⟨o1, a1, k1, hO1, hM1, rfl, rfl, nod1, rng1, oo1, mp3, vis1⟩; unfold outO; have hln : o1.length ≤ 1048576 := Nat.le_trans (nodup_len nod1 rng1) sm; have hnl : (natI o1).length = o1.length := List.length_map _; rw [← hnl])) | (refine J.o 7 ?_; first | refine J.al (t := 121) hΓ (fun c5 => ?_) | refine J.al (t := 22) hΓ (fun c6 => ?_) | refine J.al (t := 122) hΓ (fun c7 => ?_)) | (refine J.o 14 ?_; refine J.mfV [.pointer (some ⟨c5, 0, none⟩), .pointer (some ⟨c6, 0, none⟩), .pointer (some ⟨c7, 0, none⟩), .pointer (some ⟨c2, 0, none⟩)] hΓ ?_) | (refine J.fc 80 ?_; refine J.perm br1 ?_; refine J.callx eSort rfl rfl (fun w hw => sort_own oo1 (by omega) hw) ?_; rintro _ _ ⟨hO2, rfl, rfl, oo2⟩)) | (first | (refine J.o 0 ?_; refine J.ev' hΓ ?_) | refine J.nil ?_ | (refine J.o 4 ?_; first | refine J.lR hΓ ?_) | (refine J.o 3 ?_; first | refine J.ev' hΓ ?_) | (refine J.o 5 ?_; first | refine J.t0 hΓ ?_) | (refine J.o 6 ?_; refine J.bx (fun _ => ?_)) | (refine J.o 7 ?_; refine J.al hΓ (fun _ => ?_)) | (refine J.o 10 ?_; refine J.ev' hΓ ?_) | (refine J.o 11 ?_; refine J.ev' hΓ ?_)))
    | (first | refine JC.seq ?_ | refine JC.region ?_ | refine JC.ret ?_ | refine thenK.nn ?_)
    | (fail)
    | fail
  all_goals first | (exfalso; omega) | skip
  rw [← sortS_len]
  refine ret1f rfl rfl rfl (fun w1 hw => ⟨_, _, rfl, H.sel (l := [_, _, _, _, _, _]) (M := L) hw [0], a1, k1, sortS (natI o1), hO2, rfl, rfl, oo2, Bel.of nod1 vis1⟩)
theorem Size_any {n : Nat} {K : KS} {s : SS} (so : SOk n K s) (b0 a : Nat) (ha : a < s.ns.length) {w0 w : World} {R : Heap} {L : List Heap} (rb : Rd R L b0 (stO K s.an s.ns.length s.cn)) (rn : RdH R L s.hN) (hw : H w0 R L w) :
    Calls Tryz.prog 29 #[.pointer (some ⟨b0, 0, none⟩), .int .i64 (a : Int)] w fun e w' => ∃ v L', e = .returned v ∧ H w0 R L' w' ∧ ∃ l, v = .tuple #[.int .i64 ((l.length : Nat) : Int), .int .i64 0] ∧ L' = L ∧ Bel s.ns a l := by
  have two := so.wf.two
  have cChk : ∀ L1 w1 b1, H w0 R L1 w1 → Rd R L1 b0 (stO K s.an s.ns.length s.cn) → Rd R L1 b1 (intO a) → Calls Tryz.prog 44 #[.pointer (some ⟨b0, 0, none⟩), .slice (some ⟨b1, 0, none⟩) 1 1] w1 fun e w' => e = .returned (.int .i64 0) ∧ Below w1.heap.size w1 w' := fun L1 w1 b1 hw hb hr => by
    have hc := chk_ok (m := s.ns.length) (l := [a]) (by simp only [List.mem_cons, List.not_mem_nil, or_false, forall_eq]; exact ha)
    have := check_any K b0 s.an s.cn s.ns.length two [(b0, stO K s.an s.ns.length s.cn), (b1, intO a)] List.mem_cons_self [(a : Int)] (some ⟨b1, 0, none⟩) 1 ((slArg b1 [(a : Int)] 3).sub fun y hy => List.mem_cons_of_mem _ hy) (by show 1 ≤ 1000; omega) w1 (holds2 (hw.rd hb) (holds2 (hw.rd hr) (Holds.nil _)))
    rw [show chkP s.ns.length [(a : Int)] = true from hc, if_pos rfl] at this
    exact this
  refine calls_in Tryz.func29 Tryz.ntmps29 rfl rfl (hw) ?_
  repeat' first
    | (refine J.isJ ?_; first | (first | (refine J.o 9 ?_; refine J.bl hΓ (fun b1 => ?_)) | (refine J.fc 44 ?_; refine J.call0 eCheck rfl rfl (fun w hw => cChk _ w _ hw rb.tl Rd.hd) ?_) | (refine J.fc 59 ?_; refine J.callx eBelow rfl rfl (fun w hw => below_any so b0 a ha rb.tl rn.tl hw) ?_; rintro _ _ ⟨ao, co, l, hO, rfl, rfl, oo, bel⟩)) | (first | (refine J.o 0 ?_; refine J.ev' hΓ ?_) | refine J.nil ?_ | (refine J.o 3 ?_; first | refine J.ev' hΓ ?_) | (refine J.o 9 ?_; refine J.bl hΓ (fun _ => ?_)) | (refine J.o 10 ?_; refine J.ev' hΓ ?_) | (refine J.o 11 ?_; refine J.ev' hΓ ?_)))
    | (first | refine JC.seq ?_ | refine JC.region ?_ | refine JC.ret ?_ | refine JC.skip ?_ | refine thenK.nn ?_ | refine JC.condF rfl ?_)
    | (fail)
    | fail
  all_goals first | (exfalso; omega) | skip
  refine ret2f rfl rfl rfl rfl rfl (fun w1 hw => ⟨_, _, rfl, hw.drop.drop, l, rfl, rfl, bel⟩)
end Go.Proofs.YthnhijdfcmcnhaaGreat
namespace Go.Proofs.YthnhijdfcmcnhaaGreat
open Go Go.Cx Go.RowKit
set_option linter.unusedVariables false
set_option linter.unusedSimpArgs false
set_option maxHeartbeats 4000000
attribute [local irreducible] J JC thenK blockK loopK drawK retK QW Qt pel List.set Calls
open Go.Maps
set_option maxRecDepth 8000
attribute [local irreducible] JE Br eK0 eK3 brK pc
section
variable {P : Program} {n : Nat} {w0 : World} {R : Heap} {K : Exit → Fr → List Heap → Prop} {f : Fr} {L L0 : List Heap} {l0 : List Oper} {rest : List (Nat × Oper)} {Γ : List (Nat × TI)}
variable {d : Nat} {ty : TypeId} {pos : String} {aft : Array Edge} {g : Option (Nat × Bool)} {t : TypeId} {x y : Operand}
theorem JD.st {ti : TI} {b off : Nat} {cs cl cs' : List Value} {e : TypeId} (hΓ : Fits P Γ) (k : JD P n w0 R L0 l0 K rest f ([(b, .cells ⟨cs'⟩ e (0, 0))] :: L)) (hg : wantB n f l0 ⟨none, .store t x y, ty, pos, aft, g⟩ = true := by exact rfl) (hp : Cx.ev n f x = .pointer (some ⟨b, off, none⟩) := by exact rfl) (ht : Cx.look Γ t = some ti := by exact rfl)
    (hv : vcells (Cx.ev n f y) = some cl := by exact rfl) (hn : Nat.beq cl.length ti.size = true := by exact rfl) (h1 : ones cl = true := by exact rfl) (hcs : putE cs off cl = some cs' := by exact rfl) : JD P n w0 R L0 l0 K ((2, ⟨none, .store t x y, ty, pos, aft, g⟩) :: rest) f ([(b, .cells ⟨cs⟩ e (0, 0))] :: L) := fun a ha w hH => by
  unfold putE at hcs
  cases hle : Nat.ble (off + cl.length) cs.length with
  | false => rw [hle] at hcs; cases hcs
  | true =>
    rw [hle] at hcs
    simp only [cond_true, forceL_eq, Option.some.injEq] at hcs
    obtain ⟨w', hr, hw'⟩ := store_ok hΓ ht hv hn h1 (Nat.le_of_ble_eq_true hle) hcs hH
    have hx : (execOp (Cx.ev n f) ⟨none, .store t x y, ty, pos, aft, g⟩).run P w = .ok .skip w' := by simp only [execOp, hp, Sem.run_bind]; rw [hr]; rfl
    have hw : Region.wanted (⟨none, .store t x y, ty, pos, aft, g⟩ : Oper) (yielded l0.toArray a.tmps) = true := by rw [ha.wanted, hg]
    unfold lop
    rw [if_pos hw]
    unfold Oper.wp
    rw [ha.eval, hx]
    exact ⟨_, hw', k _ (ha.put none undef)⟩
theorem JD.perm {L' : List Heap} {l : List (Nat × Oper)} (hp : L.Perm L') (k : JD P n w0 R L0 l0 K l f L') : JD P n w0 R L0 l0 K l f L := fun a ha => by
  have e : H w0 R L = H w0 R L' := by funext w; exact propext ⟨fun h => h.perm hp, fun h => h.perm hp.symm⟩
  rw [e]; exact k a ha
theorem JD.mkm {t : TypeId} (k : ∀ b, (∀ w, H w0 R ([(b, .map ⟨[]⟩ 0)] :: L) w → H w0 R L0 w) ∧ JD P n w0 R L0 l0 K rest (upd f d (.map (some b))) ([(b, .map ⟨[]⟩ 0)] :: L)) (hg : wantB n f l0 ⟨some d, .makeMap t none, ty, pos, aft, g⟩ = true := by exact rfl) :
    JD P n w0 R L0 l0 K ((3, ⟨some d, .makeMap t none, ty, pos, aft, g⟩) :: rest) f L := fun a ha w hH => by
  have hw : Region.wanted (⟨some d, .makeMap t none, ty, pos, aft, g⟩ : Oper) (yielded l0.toArray a.tmps) = true := by rw [ha.wanted, hg]
  have hrun : (execOp (Cx.ev n f) ⟨some d, .makeMap t none, ty, pos, aft, g⟩).run P w = .ok (.value (.map (some w.heap.size))) (w.alloc (.map ⟨[]⟩ 0)) := by simp only [execOp, Sem.run_bind, Option.map_none]; rw [run_makeMap]; rfl
  unfold lop
  rw [if_pos hw]
  unfold Oper.wp
  rw [ha.eval, hrun]
  exact ⟨_, (k w.heap.size).1, hH.alloc _, (k w.heap.size).2 _ (ha.put (some d) _)⟩
theorem JD.iJ {α : Type} {enc : α → List Value} {a : Option Addr} {ts : List α} {h : Heap} {t e : TypeId} {s1 s2 : Nat} {z1 z2 : Option Value} {b1 b2 : Nat} {de : TypeDesc} {x ix : Operand} {len cap : Nat} {kk : IntKind} {i : Nat} (hΓ : Fits P Γ) (hs : SlT enc s2 a ts h) (k : JD P n w0 R L0 l0 K rest (upd f d (pel a s2 i 0)) L) (hg : wantB n f l0 ⟨some d, .indexAddr t x ix, ty, pos, aft, g⟩ = true := by exact rfl) (hx : Cx.ev n f x = .slice a len cap := by exact rfl) (hi : Cx.ev n f ix = .int kk (i : Int) := by exact rfl)
    (ht : Cx.look Γ t = some ⟨.slice e, s1, z1, b1⟩ := by exact rfl) (he : Cx.look Γ e = some ⟨de, s2, z2, b2⟩ := by exact rfl) (hlen : ts.length = len := by first | rfl | omega) (h1 : i < len := by omega) : JD P n w0 R L0 l0 K ((0, ⟨some d, .indexAddr t x ix, ty, pos, aft, g⟩) :: rest) f L :=
  JD.p hg (fun w => by
    have := idx_run (P := P) (cap := cap) (kk := kk) (i := (i : Int)) hΓ ht he hs hlen (by omega) (by omega) w
    simp only [execOp, hx, hi, Sem.run_bind]
    rw [this]
    rfl) k
theorem JD.fP {t : TypeId} {a : Option Addr} {i sz k o : Nat} {x : Operand} {fs : Array Field} {fd : Field} {s1 s2 b1 b2 : Nat} {z1 z2 : Option Value} {de : TypeDesc} (hΓ : Fits P Γ) (kk : JD P n w0 R L0 l0 K rest (upd f d (pel a sz k (o + fd.offset))) L) (hg : wantB n f l0 ⟨some d, .fieldAddr t x i, ty, pos, aft, g⟩ = true := by exact rfl) (hx : Cx.ev n f x = pel a sz k o := by exact rfl)
    (ht : Cx.look Γ t = some ⟨.struct fs, s1, z1, b1⟩ := by exact rfl) (hf : fs[i]? = some fd := by exact rfl) (hl : Cx.look Γ fd.type = some ⟨de, s2, z2, b2⟩ := by exact rfl) (hn : Nat.beq s2 0 = false := by exact rfl) : JD P n w0 R L0 l0 K ((0, ⟨some d, .fieldAddr t x i, ty, pos, aft, g⟩) :: rest) f L :=
  JD.p hg (fun w => by
    have hu := (hΓ t _ ht).1
    have hsz := sizeOf_run hΓ hl w
    have hne : ¬ s2 = 0 := fun e => by rw [e] at hn; cases hn
    simp only [execOp, hx, Sem.run_bind]
    unfold Instr.fieldAt pel
    simp only [Sem.run_bind, run_underlying hu, Result.andThen_ok, hf, Instr.sureAddr, Sem.run_pure]
    unfold fieldPlace
    simp only [Sem.run_bind, hsz, Result.andThen_ok]
    rw [if_neg hne]
    simp only [Sem.run_pure, Result.andThen_ok, Addr_add_add, Nat.add_assoc]) kk
theorem JD.lT {α : Type} {enc : α → List Value} {a : Option Addr} {ts : List α} {h : Heap} {t : TypeId} {sz k o κ : Nat} {x : Operand} {v : Value} (dflt : α) (hΓ : Fits P Γ) (hsub : ∀ w, H w0 R L w → H w0 R L0 w) (hs : SlT enc sz a ts h) (hr : RdH R L0 h) (kk : JD P n w0 R L0 l0 K rest (upd f d v) L) (hg : wantB n f l0 ⟨some d, .load t x, ty, pos, aft, g⟩ = true := by exact rfl) (hx : Cx.ev n f x = pel a sz k o := by exact rfl) (hk : k < ts.length := by omega) (hv : ldEv Γ t (enc (ts.getD k dflt)) o = some v := by exact rfl) :
    JD P n w0 R L0 l0 K ((κ + 4, ⟨some d, .load t x, ty, pos, aft, g⟩) :: rest) f L := fun ac ha => by
  have hw : Region.wanted (⟨some d, .load t x, ty, pos, aft, g⟩ : Oper) (yielded l0.toArray ac.tmps) = true := by rw [ha.wanted, hg]
  refine ⟨rfl, hsub, v, .inl ⟨hw, fun w hH => ?_⟩, kk _ (ha.put (some d) v)⟩
  unfold Oper.quietAt
  have hrun : (execOp (Cx.ev n f) ⟨some d, .load t x, ty, pos, aft, g⟩).run P w = .ok (.value v) w := by
    have := ldP_run (P := P) hΓ hs (hH.rdH hr) hk hv
    simp only [execOp, hx, Sem.run_bind]
    rw [this]
    rfl
  rw [ha.eval, hrun]
  exact ⟨rfl, rfl⟩
end
theorem quietH {P : Program} {fid : FuncId} {args : Array Value} {w0 w : World} {R : Heap} {L : List Heap} {v : Value} (hw : H w0 R L w) (h : Calls P fid args w fun e w' => e = .returned v ∧ Below w.heap.size w w') : Calls P fid args w fun e w' => ∃ v' L', e = .returned v' ∧ H w0 R L' w' ∧ v' = v ∧ L' = L :=
  h.mono fun e w' ⟨h1, h2⟩ => ⟨v, L, h1, hw.grow h2, rfl, rfl⟩
theorem eCountR : Entr Tryz.prog 61 := Entr.of Tryz.func61 rfl rfl
theorem eCountS : Entr Tryz.prog 30 := Entr.of Tryz.func30 rfl rfl
def DOk (n : Nat) (ns : List N3) (m : List (Int × Nat)) : Prop := ∀ i v, ((i : Nat) : Int) < ns.length → ((i : Int), v) ∈ m → v = cN n ns i
theorem pow17 {n v : Nat} (hn : n ≤ 128) (hv : v ≤ 2 ^ n) : (bytesN v).length ≤ 1000 := by
  have h1 : 2 ^ n ≤ 2 ^ 128 := Nat.pow_le_pow_right (by omega) hn
  have h2 : (2 : Nat) ^ 128 < 256 ^ 17 := by decide
  have := bytesN_len (k := 17) (v := v) (by omega)
  omega
theorem cN_le2 {n : Nat} {ns : List N3} (w : WF n ns) {i : Nat} (hi : i < ns.length) : cN n ns i ≤ 2 ^ n := by
  have h := cN_le w hi
  have hp : 0 < 2 ^ (nd ns i).p := Nat.two_pow_pos _
  exact Nat.le_trans (Nat.le_mul_of_pos_left _ hp) h
def sumQ (n : Nat) (ns : List N3) (a : Nat) : Nat → Nat
  | 0 => 0
  | 1 => 0 + cN n ns (nd ns a).l * 2 ^ ((nd ns (nd ns a).l).p - (nd ns a).p - 1)
  | _ => 0 + cN n ns (nd ns a).l * 2 ^ ((nd ns (nd ns a).l).p - (nd ns a).p - 1) + cN n ns (nd ns a).h * 2 ^ ((nd ns (nd ns a).h).p - (nd ns a).p - 1)
theorem count_any {n : Nat} {K : KS} {s : SS} (so : SOk n K s) (b0 bm : Nat) : ∀ (m a : Nat), n - (nd s.ns a).p = m → a < s.ns.length → ∀ (done : List (Int × Nat)) (hM : Heap), MapT Tryz.prog 3 ekI natV done bm hM → DOk n s.ns done →
    ∀ {w0 w : World} {R : Heap} {L : List Heap}, H w0 R (hM :: L) w → Rd R L b0 (stO K s.an s.ns.length s.cn) → RdH R L s.hN →
    Calls Tryz.prog 61 #[.pointer (some ⟨b0, 0, none⟩), .int .i64 (a : Int), .map (some bm)] w fun e w' => ∃ v L', e = .returned v ∧ H w0 R L' w' ∧ ∃ done' hM', v = natV (cN n s.ns a) ∧ L' = hM' :: L ∧ MapT Tryz.prog 3 ekI natV done' bm hM' ∧ DOk n s.ns done' := by
  intro m
  induction m using Nat.strongRecOn with
  | ind m ih =>
  intro a hm ha done hM mp dok w0 w R L hw rb rn
  have sm := so.sm
  have n8 := so.n8
  have rb' := rb
  unfold stO at rb'
  have hsl := so.ow.sl
  have hkey := keyI (a : Int) (by omega)
  by_cases h2 : a < 2
  · have hcc := cN_const (n := n) (ns := s.ns) h2
    refine calls_in Tryz.func61 Tryz.ntmps61 rfl rfl (hw) ?_
    repeat' first
      | (refine J.isJ ?_; first | (first | (refine J.o 7 ?_; refine J.al hΓ (fun b6 => ?_)) | (refine J.o 2 ?_; refine J.gcv hΓ ?_ (hk := wU64 (by omega))) | (refine J.fc 82 ?_; refine J.call0 eOfN rfl rfl (fun w hw => ofN_any a (by omega) w) ?_)) | (first | (refine J.o 0 ?_; refine J.ev' hΓ ?_) | refine J.nil ?_ | (refine J.o 4 ?_; first | refine J.lT default hΓ ?_ | refine J.lR hΓ ?_) | (refine J.o 3 ?_; first | refine J.iJ hΓ ?_ | refine J.fP hΓ ?_ | refine J.iC hΓ ?_ | refine J.ev' hΓ ?_) | (refine J.o 1 ?_; first | refine J.ad ?_) | (refine J.o 5 ?_; first | refine J.t0 hΓ ?_ | refine J.t1 hΓ ?_) | (refine J.o 7 ?_; refine J.al hΓ (fun _ => ?_)) | (refine J.o 9 ?_; refine J.bl hΓ (fun _ => ?_)) | (refine J.o 10 ?_; refine J.ev' hΓ ?_) | (refine J.o 11 ?_; refine J.ev' hΓ ?_)))
      | (first | refine JC.seq ?_ | refine JC.region ?_ | refine JC.block ?_ | refine JC.ret ?_ | refine JC.exit ?_ | refine JC.skip ?_ | refine thenK.nn ?_ | refine thenK.r ?_ | refine thenK.x ?_ | refine blockK.nn ?_ | refine blockK.hit rfl ?_ | refine JC.condT rfl ?_ | refine JC.condF rfl ?_ | (refine JC.cond rfl (fun hc => ?_) (fun hc => ?_) <;> ((try simp only [decide_eq_true_eq, decide_eq_false_iff_not, beq_iff_eq, beq_eq_false_iff_ne, bne_iff_ne, bne_eq_false_iff_eq, Bool.not_eq_true', Bool.not_eq_false', Bool.not_eq_true, Bool.not_eq_false] at hc) <;> first | (first | (exact absurd rfl hc) | (exfalso; omega) | (exact absurd (hc.symm.trans (by assumption : _ = false)) (by decide)) | (exact absurd (hc.symm.trans (by assumption : _ = true)) (by decide))) | skip)) | refine drawK.nn ?_ | refine loopK.x ?_)
      | (fail)
      | fail
    all_goals first | (exfalso; omega) | skip
    exact retC hΓ rfl rfl rfl (by first | exact Rd.hd | exact Rd.hd.tl) rfl (fun w1 hw => ⟨_, _, rfl, hw.drop, done, hM, by rw [hcc]; rfl, rfl, mp, dok⟩)
  cases hget : mget done (a : Int) with
  | some v =>
    have hv := dok a v (by omega) (mget_mem hget)
    refine calls_in Tryz.func61 Tryz.ntmps61 rfl rfl (hw) ?_
    repeat' first
      | (refine J.isJ ?_; first | (first | (refine J.o 7 ?_; refine J.al hΓ (fun b6 => ?_)) | (refine J.o 9 ?_; refine J.lk (a := (a : Int)) keyedI ekI_inj mp (by first | exact RdH.hd | exact RdH.hd.tl | exact RdH.hd.tl.tl | exact RdH.hd.tl.tl.tl | exact RdH.hd.tl.tl.tl.tl | exact RdH.hd.tl.tl.tl.tl.tl | exact RdH.hd.tl.tl.tl.tl.tl.tl | exact RdH.hd.tl.tl.tl.tl.tl.tl.tl | exact RdH.old (fun _ hh => hh) | assumption) hkey hΓ ?_; rw [hget]; unfold natV)) | (first | (refine J.o 0 ?_; refine J.ev' hΓ ?_) | refine J.nil ?_ | (refine J.o 4 ?_; first | refine J.lT default hΓ ?_ | refine J.lR hΓ ?_) | (refine J.o 3 ?_; first | refine J.iJ hΓ ?_ | refine J.fP hΓ ?_ | refine J.iC hΓ ?_ | refine J.ev' hΓ ?_) | (refine J.o 1 ?_; first | refine J.ad ?_) | (refine J.o 5 ?_; first | refine J.t0 hΓ ?_ | refine J.t1 hΓ ?_) | (refine J.o 7 ?_; refine J.al hΓ (fun _ => ?_)) | (refine J.o 9 ?_; refine J.bl hΓ (fun _ => ?_)) | (refine J.o 10 ?_; refine J.ev' hΓ ?_) | (refine J.o 11 ?_; refine J.ev' hΓ ?_)))
      | (first | refine JC.seq ?_ | refine JC.region ?_ | refine JC.block ?_ | refine JC.ret ?_ | refine JC.exit ?_ | refine JC.skip ?_ | refine thenK.nn ?_ | refine thenK.r ?_ | refine thenK.x ?_ | refine blockK.nn ?_ | refine blockK.hit rfl ?_ | refine JC.condT rfl ?_ | refine JC.condF rfl ?_ | (refine JC.cond rfl (fun hc => ?_) (fun hc => ?_) <;> ((try simp only [decide_eq_true_eq, decide_eq_false_iff_not, beq_iff_eq, beq_eq_false_iff_ne, bne_iff_ne, bne_eq_false_iff_eq, Bool.not_eq_true', Bool.not_eq_false', Bool.not_eq_true, Bool.not_eq_false] at hc) <;> first | (first | (exact absurd rfl hc) | (exfalso; omega) | (exact absurd (hc.symm.trans (by assumption : _ = false)) (by decide)) | (exact absurd (hc.symm.trans (by assumption : _ = true)) (by decide))) | skip)) | refine drawK.nn ?_ | refine loopK.x ?_)
      | (fail)
      | fail
    all_goals first | (exfalso; omega) | skip
    exact retC hΓ rfl rfl rfl (by first | exact Rd.hd | exact Rd.hd.tl) rfl (fun w1 hw => ⟨_, _, rfl, hw.drop.drop, done, hM, by rw [← hv], rfl, mp, dok⟩)
  | none =>
    refine calls_in Tryz.func61 Tryz.ntmps61 rfl rfl (hw) ?_
    repeat' first
      | (refine J.isJ ?_; first | (first | (refine J.o 7 ?_; refine J.al hΓ (fun b6 => ?_)) | (refine J.o 9 ?_; first | (refine J.lk (a := (a : Int)) keyedI ekI_inj mp (by first | exact RdH.hd | exact RdH.hd.tl | exact RdH.hd.tl.tl | exact RdH.hd.tl.tl.tl | exact RdH.hd.tl.tl.tl.tl | exact RdH.hd.tl.tl.tl.tl.tl | exact RdH.hd.tl.tl.tl.tl.tl.tl | exact RdH.hd.tl.tl.tl.tl.tl.tl.tl | exact RdH.old (fun _ hh => hh) | assumption) hkey hΓ ?_; rw [hget]) | refine J.bl hΓ (fun ba => ?_)) | (refine J.o 4 ?_; first | refine J.lR hΓ ?_ (hr := rb'.tl.tl.tl) | refine J.lT default hΓ ?_ (hs := hsl) (hr := rn.tl.tl.tl))) | (first | (refine J.o 0 ?_; refine J.ev' hΓ ?_) | refine J.nil ?_ | (refine J.o 4 ?_; first | refine J.lT default hΓ ?_ | refine J.lR hΓ ?_) | (refine J.o 3 ?_; first | refine J.iJ hΓ ?_ | refine J.fP hΓ ?_ | refine J.iC hΓ ?_ | refine J.ev' hΓ ?_) | (refine J.o 1 ?_; first | refine J.ad ?_) | (refine J.o 5 ?_; first | refine J.t0 hΓ ?_ | refine J.t1 hΓ ?_) | (refine J.o 7 ?_; refine J.al hΓ (fun _ => ?_)) | (refine J.o 9 ?_; refine J.bl hΓ (fun _ => ?_)) | (refine J.o 10 ?_; refine J.ev' hΓ ?_) | (refine J.o 11 ?_; refine J.ev' hΓ ?_)))
      | (first | refine JC.seq ?_ | refine JC.region ?_ | refine JC.block ?_ | refine JC.ret ?_ | refine JC.exit ?_ | refine JC.skip ?_ | refine thenK.nn ?_ | refine thenK.r ?_ | refine thenK.x ?_ | refine blockK.nn ?_ | refine blockK.hit rfl ?_ | refine JC.condT rfl ?_ | refine JC.condF rfl ?_ | (refine JC.cond rfl (fun hc => ?_) (fun hc => ?_) <;> ((try simp only [decide_eq_true_eq, decide_eq_false_iff_not, beq_iff_eq, beq_eq_false_iff_ne, bne_iff_ne, bne_eq_false_iff_eq, Bool.not_eq_true', Bool.not_eq_false', Bool.not_eq_true, Bool.not_eq_false] at hc) <;> first | (first | (exact absurd rfl hc) | (exfalso; omega) | (exact absurd (hc.symm.trans (by assumption : _ = false)) (by decide)) | (exact absurd (hc.symm.trans (by assumption : _ = true)) (by decide))) | skip)) | refine drawK.nn ?_ | refine loopK.x ?_)
      | (fail)
      | fail
    all_goals first | (exfalso; omega) | skip
    rename_i r6 r7 r9
    have hpa := so.wf.pl a (by omega) ha
    have hlp : (nd s.ns a).p < (nd s.ns (nd s.ns a).l).p := so.wf.lp a (by omega) ha
    have hhp : (nd s.ns a).p < (nd s.ns (nd s.ns a).h).p := so.wf.hp a (by omega) ha
    have hl := so.wf.ll a (by omega) ha
    have hh := so.wf.hl a (by omega) ha
    have hlp2 : (s.ns.getD a default).p < (s.ns.getD (s.ns.getD a default).l default).p := hlp
    have hhp2 : (s.ns.getD a default).p < (s.ns.getD (s.ns.getD a default).h default).p := hhp
    have hll := so.wf.ple hl
    have hlh := so.wf.ple hh
    have hl2 : (s.ns.getD a default).l < s.ns.length := hl
    have hh2 : (s.ns.getD a default).h < s.ns.length := hh
    have hll2 : (s.ns.getD (s.ns.getD a default).l default).p ≤ n := hll
    have hlh2 : (s.ns.getD (s.ns.getD a default).h default).p ≤ n := hlh
    have hlp3 : (nd s.ns a).p < (s.ns.getD (nd s.ns a).l default).p := hlp
    have hhp3 : (nd s.ns a).p < (s.ns.getD (nd s.ns a).h default).p := hhp
    have hll3 : (s.ns.getD (nd s.ns a).l default).p ≤ n := hll
    have hlh3 : (s.ns.getD (nd s.ns a).h default).p ≤ n := hlh
    have hs2 : sumQ n s.ns a 2 = cN n s.ns a := by
      rw [cN_node so.wf (by omega) ha]
      show 0 + _ * _ + _ * _ = _
      rw [Nat.zero_add, Nat.mul_comm, Nat.mul_comm (cN n s.ns (nd s.ns a).h)]
    have hca := cN_le2 so.wf ha
    have hs1 : sumQ n s.ns a 1 ≤ sumQ n s.ns a 2 := Nat.le_add_right _ _
    have hml : cN n s.ns (nd s.ns a).l * 2 ^ ((nd s.ns (nd s.ns a).l).p - (nd s.ns a).p - 1) ≤ sumQ n s.ns a 1 := Nat.le_add_left _ _
    have hmh : cN n s.ns (nd s.ns a).h * 2 ^ ((nd s.ns (nd s.ns a).h).p - (nd s.ns a).p - 1) ≤ sumQ n s.ns a 2 := Nat.le_add_left _ _
    have bs0 : (bytesN (sumQ n s.ns a 0)).length ≤ 1000 := by show (bytesN 0).length ≤ 1000; decide
    have bs1 := pow17 (v := sumQ n s.ns a 1) n8 (by omega)
    have bml := pow17 n8 (Nat.le_trans hml (by omega))
    have bmh := pow17 n8 (Nat.le_trans hmh (by omega))
    have bcl := pow17 n8 (cN_le2 so.wf hl)
    have bch := pow17 n8 (cN_le2 so.wf hh)
    have bpl := pow17 n8 (Nat.pow_le_pow_right (n := 2) (by omega) (show (nd s.ns (nd s.ns a).l).p - (nd s.ns a).p - 1 ≤ n by omega))
    have bph := pow17 n8 (Nat.pow_le_pow_right (n := 2) (by omega) (show (nd s.ns (nd s.ns a).h).p - (nd s.ns a).p - 1 ≤ n by omega))
    refine JC.loopG (fun i => i == 12 || i == 13 || Nat.ble 40 i) (fun m g L' => ∃ q dn hM', g 40 = .int .i64 ((q : Nat) : Int) ∧ q + m = 2 ∧ MapT Tryz.prog 3 ekI natV dn bm hM' ∧ DOk n s.ns dn ∧ L' = [(ba, Obj.cells ⟨[.int .i64 ((nd s.ns a).l : Int), .int .i64 ((nd s.ns a).h : Int)]⟩ 3 (0, 0))] :: [(b6, Obj.cells ⟨[.string (S (bytesN (sumQ n s.ns a q)))]⟩ 57 (0, 0))] :: [(r9, Obj.cells ⟨[.int .i64 ((nd s.ns a).p : Int), .int .i64 ((nd s.ns a).l : Int), .int .i64 ((nd s.ns a).h : Int)]⟩ 74 (0, 0))] :: [(r7, Obj.cells ⟨[.string ByteArray.empty]⟩ 57 (0, 0))] :: [(r6, Obj.cells ⟨[.string ByteArray.empty]⟩ 57 (0, 0))] :: hM' :: L) 2 ⟨0, done, hM, rfl, rfl, mp, dok, rfl⟩ ?_
    rintro m1 g1 L' ⟨q, dn, hM', e40, hq, mp', dok', rfl⟩
    refine JC.pin 40 e40 ?_
    rcases (by omega : q = 2 ∨ q = 0 ∨ q = 1) with rfl | rfl | rfl
    ·
      rw [hs2]
      repeat' first
        | (refine J.isJ ?_; first | (first | (refine J.o 4 ?_; first | refine J.lR hΓ ?_ (hr := Rd.hd.tl.tl)) | (refine J.o 9 ?_; refine J.perm br5 ?_; refine J.mup (a := (a : Int)) (ev := natV) (cN n s.ns a) keyedI ekI_inj mp' hkey hΓ (fun h4 mp4 => ?_)) | (refine J.o 5 ?_; refine J.perm br5 ?_; refine J.t0 hΓ ?_)) | (first | (refine J.o 0 ?_; refine J.ev' hΓ ?_) | refine J.nil ?_ | (refine J.o 4 ?_; first | refine J.lT default hΓ ?_ | refine J.lR hΓ ?_) | (refine J.o 3 ?_; first | refine J.iJ hΓ ?_ | refine J.fP hΓ ?_ | refine J.iC hΓ ?_ | refine J.ev' hΓ ?_) | (refine J.o 1 ?_; first | refine J.ad ?_) | (refine J.o 5 ?_; first | refine J.t0 hΓ ?_ | refine J.t1 hΓ ?_) | (refine J.o 7 ?_; refine J.al hΓ (fun _ => ?_)) | (refine J.o 9 ?_; refine J.bl hΓ (fun _ => ?_)) | (refine J.o 10 ?_; refine J.ev' hΓ ?_) | (refine J.o 11 ?_; refine J.ev' hΓ ?_)))
        | (first | refine JC.seq ?_ | refine JC.region ?_ | refine JC.block ?_ | refine JC.ret ?_ | refine JC.exit ?_ | refine JC.skip ?_ | refine thenK.nn ?_ | refine thenK.r ?_ | refine thenK.x ?_ | refine blockK.nn ?_ | refine blockK.hit rfl ?_ | refine JC.condT rfl ?_ | refine JC.condF rfl ?_ | (refine JC.cond rfl (fun hc => ?_) (fun hc => ?_) <;> ((try simp only [decide_eq_true_eq, decide_eq_false_iff_not, beq_iff_eq, beq_eq_false_iff_ne, bne_iff_ne, bne_eq_false_iff_eq, Bool.not_eq_true', Bool.not_eq_false', Bool.not_eq_true, Bool.not_eq_false] at hc) <;> first | (first | (exact absurd rfl hc) | (exfalso; omega) | (exact absurd (hc.symm.trans (by assumption : _ = false)) (by decide)) | (exact absurd (hc.symm.trans (by assumption : _ = true)) (by decide))) | skip)) | refine drawK.nn ?_ | refine loopK.x ?_)
        | (fail)
        | fail
      all_goals first | (exfalso; omega) | skip
      refine retC hΓ rfl rfl rfl Rd.hd rfl (fun w1 hw => ⟨_, _, rfl, H.sel (l := [_, _, _, _, _, _]) (M := L) hw [1], mput dn (a : Int) (cN n s.ns a), h4, rfl, rfl, mp4, fun i v hi hv => ?_⟩)
      rcases mput_mem hv with hv | ⟨h1, h2⟩
      · exact dok' i v hi hv
      · rw [h2, show i = a by omega]
    ·
      repeat' first
        | (refine J.isJ ?_; first | (first | (refine J.o 4 ?_; first | refine J.lT (0 : Int) hΓ ?_ (hs := slArg ba [((nd s.ns a).l : Int), ((nd s.ns a).h : Int)] 3) (hr := RdH.hd) | refine J.lR hΓ ?_ (hr := rb'.tl.tl.tl.tl.tl.tl) | refine J.lT default hΓ ?_ (hs := hsl) (hr := rn.tl.tl.tl.tl.tl.tl) | refine J.lR hΓ ?_ (hr := Rd.hd.tl.tl)) | (refine J.o 1 ?_; first | refine J.gsub (b := 1) ?_ | refine J.gsub ?_)) | (first | (refine J.o 0 ?_; refine J.ev' hΓ ?_) | refine J.nil ?_ | (refine J.o 4 ?_; first | refine J.lT default hΓ ?_ | refine J.lR hΓ ?_) | (refine J.o 3 ?_; first | refine J.iJ hΓ ?_ | refine J.fP hΓ ?_ | refine J.iC hΓ ?_ | refine J.ev' hΓ ?_) | (refine J.o 1 ?_; first | refine J.ad ?_) | (refine J.o 5 ?_; first | refine J.t0 hΓ ?_ | refine J.t1 hΓ ?_) | (refine J.o 7 ?_; refine J.al hΓ (fun _ => ?_)) | (refine J.o 9 ?_; refine J.bl hΓ (fun _ => ?_)) | (refine J.o 10 ?_; refine J.ev' hΓ ?_) | (refine J.o 11 ?_; refine J.ev' hΓ ?_)))
        | (first | refine JC.seq ?_ | refine JC.region ?_ | refine JC.block ?_ | refine JC.ret ?_ | refine JC.exit ?_ | refine JC.skip ?_ | refine thenK.nn ?_ | refine thenK.r ?_ | refine thenK.x ?_ | refine blockK.nn ?_ | refine blockK.hit rfl ?_ | refine JC.condT rfl ?_ | refine JC.condF rfl ?_ | (refine JC.cond rfl (fun hc => ?_) (fun hc => ?_) <;> ((try simp only [decide_eq_true_eq, decide_eq_false_iff_not, beq_iff_eq, beq_eq_false_iff_ne, bne_iff_ne, bne_eq_false_iff_eq, Bool.not_eq_true', Bool.not_eq_false', Bool.not_eq_true, Bool.not_eq_false] at hc) <;> first | (first | (exact absurd rfl hc) | (exfalso; omega) | (exact absurd (hc.symm.trans (by assumption : _ = false)) (by decide)) | (exact absurd (hc.symm.trans (by assumption : _ = true)) (by decide))) | skip)) | refine drawK.nn ?_ | refine loopK.x ?_)
        | ((refine JC.drawO [(0,0),(0,1),(0,2),(1,3),(0,4),(0,5),(0,6),(1,7),(0,8),(1,9),(0,10),(0,11),(0,12)] (by decide +kernel) (by decide +kernel) ?_))
        | fail
      all_goals first | (exfalso; omega) | skip
      refine JC.drawD ([(b6, Obj.cells ⟨[.string (S (bytesN (sumQ n s.ns a 0)))]⟩ 57 (0, 0))] :: L) [(4,0),(0,1),(0,2),(0,3),(0,5),(3,4),(3,6),(3,7),(2,8),(2,9)] (by kernel_rfl) (by kernel_rfl) ?_
      refine JD.ld hΓ (fun w hw => H.sel (l := [_, _, _, _, _, _]) (M := L) hw [1]) Rd.hd ?_
      refine JD.ev hΓ ?_
      refine JD.ev hΓ ?_
      refine JD.ev hΓ ?_
      refine JD.ev hΓ ?_
      refine JD.callvd eCountR rfl rfl rfl (fun w hw => ih _ (by omega) (nd s.ns a).l rfl hl dn hM' mp' dok' (H.sel (l := [_, _, _, _, _, _]) (M := L) hw [5, 0, 1, 2, 3, 4]) rb.tl.tl.tl.tl.tl rn.tl.tl.tl.tl.tl) ?_
      rintro _ _ ⟨dn2, hM2, rfl, rfl, mp2, dok2⟩
      refine ⟨fun w hw => H.sel (l := [_, _, _, _, _, _]) (M := L) hw [2], ?_⟩
      refine JD.callvd ePow2 rfl rfl rfl (fun w hw => quietH hw (pow2_any ((nd s.ns (nd s.ns a).l).p - (nd s.ns a).p - 1) (by omega) w)) ?_
      rintro _ _ ⟨rfl, rfl⟩
      refine ⟨fun w hw => H.sel (l := [_, _, _, _, _, _]) (M := L) hw [2], ?_⟩
      refine JD.callvd eMul rfl rfl rfl (fun w hw => quietH hw (mul_any (cN n s.ns (nd s.ns a).l) (2 ^ ((nd s.ns (nd s.ns a).l).p - (nd s.ns a).p - 1)) bcl bpl w)) ?_
      rintro _ _ ⟨rfl, rfl⟩
      refine ⟨fun w hw => H.sel (l := [_, _, _, _, _, _]) (M := L) hw [2], ?_⟩
      refine JD.callvx eAddN rfl rfl rfl (fun w hw => quietH hw (add_any2 (sumQ n s.ns a 0) (cN n s.ns (nd s.ns a).l * 2 ^ ((nd s.ns (nd s.ns a).l).p - (nd s.ns a).p - 1)) bs0 bml w)) ?_
      rintro _ _ ⟨rfl, rfl⟩
      refine JD.perm br2 ?_
      refine JD.st hΓ ?_
      refine JD.nil ?_
      repeat' first
        | (refine J.isJ ?_; first | (fail) | (first | (refine J.o 0 ?_; refine J.ev' hΓ ?_) | refine J.nil ?_ | (refine J.o 4 ?_; first | refine J.lT default hΓ ?_ | refine J.lR hΓ ?_) | (refine J.o 3 ?_; first | refine J.iJ hΓ ?_ | refine J.fP hΓ ?_ | refine J.iC hΓ ?_ | refine J.ev' hΓ ?_) | (refine J.o 1 ?_; first | refine J.ad ?_) | (refine J.o 5 ?_; first | refine J.t0 hΓ ?_ | refine J.t1 hΓ ?_) | (refine J.o 7 ?_; refine J.al hΓ (fun _ => ?_)) | (refine J.o 9 ?_; refine J.bl hΓ (fun _ => ?_)) | (refine J.o 10 ?_; refine J.ev' hΓ ?_) | (refine J.o 11 ?_; refine J.ev' hΓ ?_)))
        | (first | refine JC.seq ?_ | refine JC.region ?_ | refine JC.block ?_ | refine JC.ret ?_ | refine JC.exit ?_ | refine JC.skip ?_ | refine thenK.nn ?_ | refine thenK.r ?_ | refine thenK.x ?_ | refine blockK.nn ?_ | refine blockK.hit rfl ?_ | refine JC.condT rfl ?_ | refine JC.condF rfl ?_ | (refine JC.cond rfl (fun hc => ?_) (fun hc => ?_) <;> ((try simp only [decide_eq_true_eq, decide_eq_false_iff_not, beq_iff_eq, beq_eq_false_iff_ne, bne_iff_ne, bne_eq_false_iff_eq, Bool.not_eq_true', Bool.not_eq_false', Bool.not_eq_true, Bool.not_eq_false] at hc) <;> first | (first | (exact absurd rfl hc) | (exfalso; omega) | (exact absurd (hc.symm.trans (by assumption : _ = false)) (by decide)) | (exact absurd (hc.symm.trans (by assumption : _ = true)) (by decide))) | skip)) | refine drawK.nn ?_ | refine loopK.x ?_)
        | (fail)
        | fail
      refine loopK.nn (m1 - 1) (by omega) (by repeat (first | refine Ag.upd rfl ?_ | exact Ag.hv)) ⟨_, ⟨1, dn2, hM2, rfl, by omega, mp2, dok2, rfl⟩, fun w hw => H.sel (l := [_, _, _, _, _, _]) (M := L) hw [2, 0, 3, 4, 5, 1]⟩
    ·
      repeat' first
        | (refine J.isJ ?_; first | (first | (refine J.o 4 ?_; first | refine J.lT (0 : Int) hΓ ?_ (hs := slArg ba [((nd s.ns a).l : Int), ((nd s.ns a).h : Int)] 3) (hr := RdH.hd) | refine J.lR hΓ ?_ (hr := rb'.tl.tl.tl.tl.tl.tl) | refine J.lT default hΓ ?_ (hs := hsl) (hr := rn.tl.tl.tl.tl.tl.tl) | refine J.lR hΓ ?_ (hr := Rd.hd.tl.tl)) | (refine J.o 1 ?_; first | refine J.gsub (b := 1) ?_ | refine J.gsub ?_)) | (first | (refine J.o 0 ?_; refine J.ev' hΓ ?_) | refine J.nil ?_ | (refine J.o 4 ?_; first | refine J.lT default hΓ ?_ | refine J.lR hΓ ?_) | (refine J.o 3 ?_; first | refine J.iJ hΓ ?_ | refine J.fP hΓ ?_ | refine J.iC hΓ ?_ | refine J.ev' hΓ ?_) | (refine J.o 1 ?_; first | refine J.ad ?_) | (refine J.o 5 ?_; first | refine J.t0 hΓ ?_ | refine J.t1 hΓ ?_) | (refine J.o 7 ?_; refine J.al hΓ (fun _ => ?_)) | (refine J.o 9 ?_; refine J.bl hΓ (fun _ => ?_)) | (refine J.o 10 ?_; refine J.ev' hΓ ?_) | (refine J.o 11 ?_; refine J.ev' hΓ ?_)))
        | (first | refine JC.seq ?_ | refine JC.region ?_ | refine JC.block ?_ | refine JC.ret ?_ | refine JC.exit ?_ | refine JC.skip ?_ | refine thenK.nn ?_ | refine thenK.r ?_ | refine thenK.x ?_ | refine blockK.nn ?_ | refine blockK.hit rfl ?_ | refine JC.condT rfl ?_ | refine JC.condF rfl ?_ | (refine JC.cond rfl (fun hc => ?_) (fun hc => ?_) <;> ((try simp only [decide_eq_true_eq, decide_eq_false_iff_not, beq_iff_eq, beq_eq_false_iff_ne, bne_iff_ne, bne_eq_false_iff_eq, Bool.not_eq_true', Bool.not_eq_false', Bool.not_eq_true, Bool.not_eq_false] at hc) <;> first | (first | (exact absurd rfl hc) | (exfalso; omega) | (exact absurd (hc.symm.trans (by assumption : _ = false)) (by decide)) | (exact absurd (hc.symm.trans (by assumption : _ = true)) (by decide))) | skip)) | refine drawK.nn ?_ | refine loopK.x ?_)
        | ((refine JC.drawO [(0,0),(0,1),(0,2),(1,3),(0,4),(0,5),(0,6),(1,7),(0,8),(1,9),(0,10),(0,11),(0,12)] (by decide +kernel) (by decide +kernel) ?_))
        | fail
      all_goals first | (exfalso; omega) | skip
      refine JC.drawD ([(b6, Obj.cells ⟨[.string (S (bytesN (sumQ n s.ns a 1)))]⟩ 57 (0, 0))] :: L) [(4,0),(0,1),(0,2),(0,3),(0,5),(3,4),(3,6),(3,7),(2,8),(2,9)] (by kernel_rfl) (by kernel_rfl) ?_
      refine JD.ld hΓ (fun w hw => H.sel (l := [_, _, _, _, _, _]) (M := L) hw [1]) Rd.hd ?_
      refine JD.ev hΓ ?_
      refine JD.ev hΓ ?_
      refine JD.ev hΓ ?_
      refine JD.ev hΓ ?_
      refine JD.callvd eCountR rfl rfl rfl (fun w hw => ih _ (by omega) (nd s.ns a).h rfl hh dn hM' mp' dok' (H.sel (l := [_, _, _, _, _, _]) (M := L) hw [5, 0, 1, 2, 3, 4]) rb.tl.tl.tl.tl.tl rn.tl.tl.tl.tl.tl) ?_
      rintro _ _ ⟨dn2, hM2, rfl, rfl, mp2, dok2⟩
      refine ⟨fun w hw => H.sel (l := [_, _, _, _, _, _]) (M := L) hw [2], ?_⟩
      refine JD.callvd ePow2 rfl rfl rfl (fun w hw => quietH hw (pow2_any ((nd s.ns (nd s.ns a).h).p - (nd s.ns a).p - 1) (by omega) w)) ?_
      rintro _ _ ⟨rfl, rfl⟩
      refine ⟨fun w hw => H.sel (l := [_, _, _, _, _, _]) (M := L) hw [2], ?_⟩
      refine JD.callvd eMul rfl rfl rfl (fun w hw => quietH hw (mul_any (cN n s.ns (nd s.ns a).h) (2 ^ ((nd s.ns (nd s.ns a).h).p - (nd s.ns a).p - 1)) bch bph w)) ?_
      rintro _ _ ⟨rfl, rfl⟩
      refine ⟨fun w hw => H.sel (l := [_, _, _, _, _, _]) (M := L) hw [2], ?_⟩
      refine JD.callvx eAddN rfl rfl rfl (fun w hw => quietH hw (add_any2 (sumQ n s.ns a 1) (cN n s.ns (nd s.ns a).h * 2 ^ ((nd s.ns (nd s.ns a).h).p - (nd s.ns a).p - 1)) bs1 bmh w)) ?_
      rintro _ _ ⟨rfl, rfl⟩
      refine JD.perm br2 ?_
      refine JD.st hΓ ?_
      refine JD.nil ?_
      repeat' first
        | (refine J.isJ ?_; first | (fail) | (first | (refine J.o 0 ?_; refine J.ev' hΓ ?_) | refine J.nil ?_ | (refine J.o 4 ?_; first | refine J.lT default hΓ ?_ | refine J.lR hΓ ?_) | (refine J.o 3 ?_; first | refine J.iJ hΓ ?_ | refine J.fP hΓ ?_ | refine J.iC hΓ ?_ | refine J.ev' hΓ ?_) | (refine J.o 1 ?_; first | refine J.ad ?_) | (refine J.o 5 ?_; first | refine J.t0 hΓ ?_ | refine J.t1 hΓ ?_) | (refine J.o 7 ?_; refine J.al hΓ (fun _ => ?_)) | (refine J.o 9 ?_; refine J.bl hΓ (fun _ => ?_)) | (refine J.o 10 ?_; refine J.ev' hΓ ?_) | (refine J.o 11 ?_; refine J.ev' hΓ ?_)))
        | (first | refine JC.seq ?_ | refine JC.region ?_ | refine JC.block ?_ | refine JC.ret ?_ | refine JC.exit ?_ | refine JC.skip ?_ | refine thenK.nn ?_ | refine thenK.r ?_ | refine thenK.x ?_ | refine blockK.nn ?_ | refine blockK.hit rfl ?_ | refine JC.condT rfl ?_ | refine JC.condF rfl ?_ | (refine JC.cond rfl (fun hc => ?_) (fun hc => ?_) <;> ((try simp only [decide_eq_true_eq, decide_eq_false_iff_not, beq_iff_eq, beq_eq_false_iff_ne, bne_iff_ne, bne_eq_false_iff_eq, Bool.not_eq_true', Bool.not_eq_false', Bool.not_eq_true, Bool.not_eq_false] at hc) <;> first | (first | (exact absurd rfl hc) | (exfalso; omega) | (exact absurd (hc.symm.trans (by assumption : _ = false)) (by decide)) | (exact absurd (hc.symm.trans (by assumption : _ = true)) (by decide))) | skip)) | refine drawK.nn ?_ | refine loopK.x ?_)
        | (fail)
        | fail
      refine loopK.nn (m1 - 1) (by omega) (by repeat (first | refine Ag.upd rfl ?_ | exact Ag.hv)) ⟨_, ⟨2, dn2, hM2, rfl, by omega, mp2, dok2, rfl⟩, fun w hw => H.sel (l := [_, _, _, _, _, _]) (M := L) hw [2, 0, 3, 4, 5, 1]⟩
theorem Count_any {n : Nat} {K : KS} {s : SS} (so : SOk n K s) (b0 a : Nat) (ha : a < s.ns.length) {w0 w : World} {R : Heap} {L : List Heap} (rb : Rd R L b0 (stO K s.an s.ns.length s.cn)) (rn : RdH R L s.hN) (hw : H w0 R L w) :
    Calls Tryz.prog 30 #[.pointer (some ⟨b0, 0, none⟩), .int .i64 (a : Int)] w fun e w' => ∃ v L', e = .returned v ∧ H w0 R L' w' ∧ v = .tuple #[natV (2 ^ (nd s.ns a).p * cN n s.ns a), .int .i64 0] ∧ L' = L := by
  have two := so.wf.two
  have n8 := so.n8
  have sm := so.sm
  have rb' := rb
  unfold stO at rb'
  have hsl := so.ow.sl
  have hpl := so.wf.ple ha
  have cChk : ∀ L1 w1 b1, H w0 R L1 w1 → Rd R L1 b0 (stO K s.an s.ns.length s.cn) → Rd R L1 b1 (intO a) → Calls Tryz.prog 44 #[.pointer (some ⟨b0, 0, none⟩), .slice (some ⟨b1, 0, none⟩) 1 1] w1 fun e w' => e = .returned (.int .i64 0) ∧ Below w1.heap.size w1 w' := fun L1 w1 b1 hw hb hr => by
    have hc := chk_ok (m := s.ns.length) (l := [a]) (by simp only [List.mem_cons, List.not_mem_nil, or_false, forall_eq]; exact ha)
    have := check_any K b0 s.an s.cn s.ns.length two [(b0, stO K s.an s.ns.length s.cn), (b1, intO a)] List.mem_cons_self [(a : Int)] (some ⟨b1, 0, none⟩) 1 ((slArg b1 [(a : Int)] 3).sub fun y hy => List.mem_cons_of_mem _ hy) (by show 1 ≤ 1000; omega) w1 (holds2 (hw.rd hb) (holds2 (hw.rd hr) (Holds.nil _)))
    rw [show chkP s.ns.length [(a : Int)] = true from hc, if_pos rfl] at this
    exact this
  have bc := pow17 n8 (cN_le2 so.wf ha)
  have bp := pow17 n8 (Nat.pow_le_pow_right (n := 2) (by omega) hpl)
  refine calls_in Tryz.func30 Tryz.ntmps30 rfl rfl (hw) ?_
  repeat' first
    | (refine J.isJ ?_; first | (first | (refine J.o 7 ?_; refine J.al hΓ (fun b4 => ?_)) | (refine J.o 9 ?_; refine J.bl hΓ (fun b1 => ?_)) | (refine J.fc 44 ?_; refine J.call0 eCheck rfl rfl (fun w hw => cChk _ w _ hw rb.tl.tl Rd.hd) ?_)) | (first | (refine J.o 0 ?_; refine J.ev' hΓ ?_) | refine J.nil ?_ | (refine J.o 3 ?_; first | refine J.ev' hΓ ?_) | (refine J.o 7 ?_; refine J.al hΓ (fun _ => ?_)) | (refine J.o 9 ?_; refine J.bl hΓ (fun _ => ?_)) | (refine J.o 10 ?_; refine J.ev' hΓ ?_) | (refine J.o 11 ?_; refine J.ev' hΓ ?_)))
    | (first | refine JC.seq ?_ | refine JC.region ?_ | refine JC.ret ?_ | refine JC.skip ?_ | refine thenK.nn ?_ | refine JC.condF rfl ?_ | refine drawK.nn ?_)
    | (fail)
    | fail
  all_goals first | (exfalso; omega) | skip
  refine JC.drawD L [(0,0),(0,1),(0,4),(0,5),(0,6),(4,7),(0,8),(0,9),(0,10),(4,11),(3,2),(3,3),(3,12),(3,13),(2,14),(0,15)] (by decide +kernel) (by decide +kernel) ?_
  refine JD.ev hΓ ?_
  refine JD.ev hΓ ?_
  refine JD.ev hΓ ?_
  refine JD.ev hΓ ?_
  refine JD.ev hΓ ?_
  refine JD.ld hΓ (fun w hw => hw.drop.drop) rb' ?_
  refine JD.ev hΓ ?_
  refine JD.iJ hΓ hsl ?_
  refine JD.fP hΓ ?_
  refine JD.lT default hΓ (fun w hw => hw.drop.drop) hsl rn ?_
  refine JD.mkm fun bm => ⟨fun w hw => hw.drop.drop.drop, ?_⟩
  refine JD.callvd eCountR rfl rfl rfl (fun w hw => count_any so b0 bm _ a rfl ha [] [(bm, .map ⟨[]⟩ 0)] (MapT.nil _) (fun i v hi hv => by cases hv) hw rb.tl.tl rn.tl.tl) ?_
  rintro _ _ ⟨dn, hM, rfl, rfl, mp, dok⟩
  refine ⟨fun w hw => hw.drop.drop.drop, ?_⟩
  refine JD.callvd ePow2 rfl rfl rfl (fun w hw => quietH hw (pow2_any (nd s.ns a).p (by omega) w)) ?_
  rintro _ _ ⟨rfl, rfl⟩
  refine ⟨fun w hw => hw.drop.drop.drop, ?_⟩
  refine JD.callvd eMul rfl rfl rfl (fun w hw => quietH hw (mul_any (cN n s.ns a) (2 ^ (nd s.ns a).p) bc bp w)) ?_
  rintro _ _ ⟨rfl, rfl⟩
  refine ⟨fun w hw => hw.drop.drop.drop, ?_⟩
  refine JD.perm br2 ?_
  refine JD.st hΓ ?_
  refine JD.ev hΓ ?_
  refine JD.nil ?_
  repeat' first
    | (refine J.isJ ?_; first | (fail) | (first | (refine J.o 0 ?_; refine J.ev' hΓ ?_) | refine J.nil ?_ | (refine J.o 3 ?_; first | refine J.ev' hΓ ?_) | (refine J.o 7 ?_; refine J.al hΓ (fun _ => ?_)) | (refine J.o 9 ?_; refine J.bl hΓ (fun _ => ?_)) | (refine J.o 10 ?_; refine J.ev' hΓ ?_) | (refine J.o 11 ?_; refine J.ev' hΓ ?_)))
    | (first | refine JC.seq ?_ | refine JC.region ?_ | refine JC.ret ?_ | refine JC.skip ?_ | refine thenK.nn ?_ | refine JC.condF rfl ?_ | refine drawK.nn ?_)
    | (fail)
    | fail
  rw [Nat.mul_comm (cN n s.ns a)]
  exact retCS hΓ rfl rfl rfl rfl Rd.hd rfl rfl (fun w1 hw => ⟨_, _, rfl, hw.drop.drop.drop, rfl, rfl⟩)
end Go.Proofs.YthnhijdfcmcnhaaGreat
namespace Go.Proofs.YthnhijdfcmcnhaaGreat
open Go Go.Cx Go.RowKit
set_option linter.unusedVariables false
set_option linter.unusedSimpArgs false
set_option maxHeartbeats 4000000
attribute [local irreducible] J JC thenK blockK loopK drawK retK QW Qt pel List.set Calls
open Go.Maps
set_option maxRecDepth 8000
attribute [local irreducible] JE Br eK0 eK3 brK pc
def asgS (order : List Int) (x : Nat × Nat) : Nat → Bool := fun k => hasB x (order.getD k default)
theorem Eval_any {n : Nat} {K : KS} {s : SS} (so : SOk n K s) {order : List Int} {hO hP : Heap} (po : POk K order hO hP) (b a : Nat) (ha : a < s.ns.length) (x : Nat × Nat) (hx : okS x) (w : World) (hw : Holds (stR K b s hO) w) :
    Calls Tryz.prog 39 #[.pointer (some ⟨b, 0, none⟩), .int .i64 (a : Int), sv x] w fun e w' => e = .returned (.bool (fn n s.ns a (asgS order x))) ∧ Below w.heap.size w w' := by
  have hno := so.no
  have hpl := po.len
  have hsm := so.sm
  have two := so.wf.two
  have n8 := so.n8
  have hsl : SlT enc3 3 s.an s.ns (stR K b s hO) := so.ow.sl.sub fun y hy => List.mem_cons_of_mem _ (List.mem_append_left _ hy)
  have hso : SlT encI 1 K.ao order (stR K b s hO) := po.ow.sl.sub fun y hy => List.mem_cons_of_mem _ (List.mem_append_right _ hy)
  have rb : ∀ L, Rd (stR K b s hO) L b (stO K s.an s.ns.length s.cn) := fun L => Rd.old List.mem_cons_self
  have q0 : ∀ L, RdH (stR K b s hO) L (stR K b s hO) := fun L => RdH.old fun _ hh => hh
  have cChk : ∀ L1 w1 b1, H w (stR K b s hO) L1 w1 → Rd (stR K b s hO) L1 b1 (intO a) → Calls Tryz.prog 44 #[.pointer (some ⟨b, 0, none⟩), .slice (some ⟨b1, 0, none⟩) 1 1] w1 fun e w' => e = .returned (.int .i64 0) ∧ Below w1.heap.size w1 w' := fun L1 w1 b1 hw hr => by
    have hc := chk_ok (m := s.ns.length) (l := [a]) (by simp only [List.mem_cons, List.not_mem_nil, or_false, forall_eq]; exact ha)
    have := check_any K b s.an s.cn s.ns.length so.wf.two [(b, stO K s.an s.ns.length s.cn), (b1, intO a)] List.mem_cons_self [(a : Int)] (some ⟨b1, 0, none⟩) 1 ((slArg b1 [(a : Int)] 3).sub fun y hy => List.mem_cons_of_mem _ hy) (by show 1 ≤ 1000; omega) w1 (holds2 (hw.rd (rb _)) (holds2 (hw.rd hr) (Holds.nil _)))
    rw [show chkP s.ns.length [(a : Int)] = true from hc, if_pos rfl] at this
    exact this
  have rb2 := rb
  unfold stO at rb
  refine calls_of_JC (R := (stR K b s hO)) Tryz.func39 Tryz.ntmps39 rfl rfl (hw) ?_
  unfold sv
  repeat' first
    | (refine J.isJ ?_; first | (first | (refine J.o 6 ?_; refine J.bx (fun b5 => ?_)) | (refine J.o 9 ?_; refine J.bl hΓ (fun b1 => ?_)) | (refine J.fc 44 ?_; refine J.call0 eCheck rfl rfl (fun w hw => cChk _ w _ hw Rd.hd) ?_)) | (first | (refine J.o 0 ?_; refine J.ev' hΓ ?_) | refine J.nil ?_ | (refine J.o 4 ?_; first | refine J.lT default hΓ ?_ | refine J.lR hΓ ?_) | (refine J.o 3 ?_; first | refine J.iJ hΓ ?_ | refine J.ev' hΓ ?_) | (refine J.o 5 ?_; first | refine J.t0 hΓ ?_) | (refine J.o 6 ?_; refine J.bx (fun _ => ?_)) | (refine J.o 7 ?_; refine J.al hΓ (fun _ => ?_)) | (refine J.o 9 ?_; refine J.bl hΓ (fun _ => ?_)) | (refine J.o 10 ?_; refine J.ev' hΓ ?_) | (refine J.o 11 ?_; refine J.ev' hΓ ?_)))
    | (first | refine JC.seq ?_ | refine JC.region ?_ | refine JC.block ?_ | refine JC.ret ?_ | refine JC.exit ?_ | refine JC.skip ?_ | refine thenK.nn ?_ | refine thenK.x ?_ | refine blockK.nn ?_ | refine blockK.hit rfl ?_ | refine JC.condF rfl ?_ | (refine JC.cond rfl (fun hc => ?_) (fun hc => ?_) <;> ((try simp only [decide_eq_true_eq, decide_eq_false_iff_not, beq_iff_eq, beq_eq_false_iff_ne, bne_iff_ne, bne_eq_false_iff_eq, Bool.not_eq_true', Bool.not_eq_false', Bool.not_eq_true, Bool.not_eq_false] at hc) <;> first | (first | (exact absurd rfl hc) | (exfalso; omega) | (exact absurd (hc.symm.trans (by assumption : _ = false)) (by decide)) | (exact absurd (hc.symm.trans (by assumption : _ = true)) (by decide))) | skip)) | refine drawK.nn ?_ | refine loopK.x ?_)
    | (fail)
    | fail
  all_goals first | (exfalso; omega) | skip
  refine JC.loop (fun i => i == 1 || i == 7 || Nat.ble 13 i) (fun m g L' => ∃ i, g 1 = .int .i64 ((i : Nat) : Int) ∧ i < s.ns.length ∧ n - (nd s.ns i).p = m ∧ fn n s.ns i (asgS order x) = fn n s.ns a (asgS order x) ∧ L' = [[(b1, Obj.cells ⟨[.int .i64 (a : Int)]⟩ 3 (0, 0))], [(b5, Obj.cells ⟨[.int .u64 (x.1 : Int), .int .u64 (x.2 : Int)]⟩ 68 (0, 0))]]) (n - (nd s.ns a).p) ⟨a, rfl, ha, rfl, rfl, rfl⟩ ?_
  rintro m1 g1 L' ⟨i, e1, hi, hm, hfn, rfl⟩
  refine JC.pin 1 e1 ?_
  rcases Nat.lt_or_ge i 2 with h2 | h2
  · have hv : fn n s.ns a (asgS order x) = decide (i = 1) := by rw [← hfn]; unfold fn; exact ev_const _ _ _ h2 _
    repeat' first
      | (refine J.isJ ?_; first | (fail) | (first | (refine J.o 0 ?_; refine J.ev' hΓ ?_) | refine J.nil ?_ | (refine J.o 4 ?_; first | refine J.lT default hΓ ?_ | refine J.lR hΓ ?_) | (refine J.o 3 ?_; first | refine J.iJ hΓ ?_ | refine J.ev' hΓ ?_) | (refine J.o 5 ?_; first | refine J.t0 hΓ ?_) | (refine J.o 6 ?_; refine J.bx (fun _ => ?_)) | (refine J.o 7 ?_; refine J.al hΓ (fun _ => ?_)) | (refine J.o 9 ?_; refine J.bl hΓ (fun _ => ?_)) | (refine J.o 10 ?_; refine J.ev' hΓ ?_) | (refine J.o 11 ?_; refine J.ev' hΓ ?_)))
      | (first | refine JC.seq ?_ | refine JC.region ?_ | refine JC.block ?_ | refine JC.ret ?_ | refine JC.exit ?_ | refine JC.skip ?_ | refine thenK.nn ?_ | refine thenK.x ?_ | refine blockK.nn ?_ | refine blockK.hit rfl ?_ | refine JC.condF rfl ?_ | (refine JC.cond rfl (fun hc => ?_) (fun hc => ?_) <;> ((try simp only [decide_eq_true_eq, decide_eq_false_iff_not, beq_iff_eq, beq_eq_false_iff_ne, bne_iff_ne, bne_eq_false_iff_eq, Bool.not_eq_true', Bool.not_eq_false', Bool.not_eq_true, Bool.not_eq_false] at hc) <;> first | (first | (exact absurd rfl hc) | (exfalso; omega) | (exact absurd (hc.symm.trans (by assumption : _ = false)) (by decide)) | (exact absurd (hc.symm.trans (by assumption : _ = true)) (by decide))) | skip)) | refine drawK.nn ?_ | refine loopK.x ?_)
      | (fail)
      | fail
    all_goals first | (exfalso; omega) | skip
    all_goals (refine ret1f rfl rfl rfl (fun w1 hw => ⟨?_, hw.below⟩))
    rw [hv]
    refine congrArg (fun z : Bool => Ending.returned (Value.bool z)) ?_
    exact decide_eq_decide.2 (by omega)
  · have hp := so.wf.pl i h2 hi
    have hlp := so.wf.lp i h2 hi
    have hhp := so.wf.hp i h2 hi
    have hp1 : (s.ns.getD i default).p < K.no := by rw [hno]; exact hp
    have hp2 : (s.ns.getD i default).p < order.length := by rw [← hpl]; exact hp1
    have cH := fun w => has_any x hx (order.getD (s.ns.getD i default).p default) w
    have cP := fun L1 w1 (hw : H w (stR K b s hO) L1 w1) hi2 => part_any K b s.an s.cn s.ns (stR K b s hO) hsl List.mem_cons_self i (s.ns.getD i default).p hi2 hi w1 (hw.rdH (q0 _))
    repeat' first
      | (refine J.isJ ?_; first | (first | (refine J.o 7 ?_; refine J.al hΓ (fun b7 => ?_)) | (refine J.o 4 ?_; first | refine J.lR hΓ ?_ (hr := rb _) | (refine J.lT default hΓ ?_ (hs := hsl) (hr := q0 _)) | (refine J.lT default hΓ ?_ (hs := hso) (hr := q0 _)) | refine J.lR hΓ ?_ (hr := Rd.hd.tl.tl)) | (refine J.fc 74 ?_; refine J.call0 eHas rfl rfl (fun w hw => cH w) ?_) | (refine J.fc 73 ?_; refine J.call0 ePart rfl rfl (fun w hw => cP _ w hw _) ?_)) | (first | (refine J.o 0 ?_; refine J.ev' hΓ ?_) | refine J.nil ?_ | (refine J.o 4 ?_; first | refine J.lT default hΓ ?_ | refine J.lR hΓ ?_) | (refine J.o 3 ?_; first | refine J.iJ hΓ ?_ | refine J.ev' hΓ ?_) | (refine J.o 5 ?_; first | refine J.t0 hΓ ?_) | (refine J.o 6 ?_; refine J.bx (fun _ => ?_)) | (refine J.o 7 ?_; refine J.al hΓ (fun _ => ?_)) | (refine J.o 9 ?_; refine J.bl hΓ (fun _ => ?_)) | (refine J.o 10 ?_; refine J.ev' hΓ ?_) | (refine J.o 11 ?_; refine J.ev' hΓ ?_)))
      | (first | refine JC.seq ?_ | refine JC.region ?_ | refine JC.block ?_ | refine JC.ret ?_ | refine JC.exit ?_ | refine JC.skip ?_ | refine thenK.nn ?_ | refine thenK.x ?_ | refine blockK.nn ?_ | refine blockK.hit rfl ?_ | refine JC.condF rfl ?_ | (refine JC.cond rfl (fun hc => ?_) (fun hc => ?_) <;> ((try simp only [decide_eq_true_eq, decide_eq_false_iff_not, beq_iff_eq, beq_eq_false_iff_ne, bne_iff_ne, bne_eq_false_iff_eq, Bool.not_eq_true', Bool.not_eq_false', Bool.not_eq_true, Bool.not_eq_false] at hc) <;> first | (first | (exact absurd rfl hc) | (exfalso; omega) | (exact absurd (hc.symm.trans (by assumption : _ = false)) (by decide)) | (exact absurd (hc.symm.trans (by assumption : _ = true)) (by decide))) | skip)) | refine drawK.nn ?_ | refine loopK.x ?_)
      | ((refine JC.drawO [(0,0),(0,1),(0,2),(1,3),(1,4),(0,5),(0,6),(0,7),(1,8),(0,9),(1,10),(0,11),(1,12),(1,13),(1,14),(0,15)] (by decide +kernel) (by decide +kernel) ?_))
      | fail
    all_goals first | (exfalso; omega) | skip
    have hpt : ∀ β, partN s.ns i (nd s.ns i).p β = if β then (nd s.ns i).h else (nd s.ns i).l := fun β => by unfold partN; rw [if_neg (fun h => h rfl)]
    have hst : fn n s.ns (partN s.ns i (nd s.ns i).p (hasB x (order.getD (nd s.ns i).p default))) (asgS order x) = fn n s.ns i (asgS order x) := part_fn so.wf (asgS order x) hi hp
    have hlt := part_lt so.wf (hasB x (order.getD (nd s.ns i).p default)) hi hp
    refine loopK.np (n - (nd s.ns (partN s.ns i (nd s.ns i).p (hasB x (order.getD (nd s.ns i).p default)))).p) [_] _ ?_ (by repeat (first | refine Ag.upd rfl ?_ | exact Ag.hv)) (List.Perm.refl _) ⟨_, rfl, hlt, rfl, hst.trans hfn, rfl⟩
    have := part_p so.wf (hasB x (order.getD (nd s.ns i).p default)) hi hp (Nat.le_refl _)
    have := so.wf.ple hlt
    omega
end Go.Proofs.YthnhijdfcmcnhaaGreat
namespace Go.Proofs.YthnhijdfcmcnhaaGreat
open Go Go.Cx Go.RowKit Go.Lib
set_option linter.unusedVariables false
set_option linter.unusedSimpArgs false
set_option maxHeartbeats 4000000
set_option maxRecDepth 8000
section
variable {P : Program} {n : Nat} {w0 : World} {R : Heap} {l0 : List Oper} {K : Exit → Fr → List Heap → Prop} {f : Fr} {L : List Heap} {rest : List (Nat × Oper)} {κ : Nat}
variable {Γ : List (Nat × TI)} {d : Nat} {ty : TypeId} {pos : String} {aft : Array Edge} {g : Option (Nat × Bool)} {t u te : TypeId} {x y : Operand}
theorem J.pS {a : Addr} {s1 b1 s2 b2 : Nat} {z1 z2 : Option Value} {de : TypeDesc} (hΓ : Fits P Γ) (k : J P n w0 R l0 K rest (upd f d (.bool false)) L) (hg : wantB n f l0 ⟨some d, .binOp .neq t x y u, ty, pos, aft, g⟩ = true := by exact rfl) (hx : Cx.ev n f x = .pointer (some a) := by exact rfl) (hy : Cx.ev n f y = .pointer (some a) := by exact rfl) (ht : Go.Cx.look Γ t = some ⟨.pointer te, s1, z1, b1⟩ := by exact rfl) (he : Go.Cx.look Γ te = some ⟨de, s2, z2, b2⟩ := by exact rfl) : J P n w0 R l0 K ((κ, ⟨some d, .binOp .neq t x y u, ty, pos, aft, g⟩) :: rest) f L :=
  J.p hg (fun w => by
    obtain ⟨_, ie, hie, _⟩ := hΓ te _ he
    have h2 := Lib.run_neq_ptr_same (P := P) w a (hΓ t _ ht).1 hie
    have h3 : (eqGuard .neq t x y (.pointer (some a)) (.pointer (some a))).run P w = .ok () w := by simp [eqGuard]
    simp only [execOp, hx, hy, Sem.run_bind, h3, Result.andThen_ok, h2]
    rfl) k
theorem J.cU {t2 : TypeId} {b : Nat} {cs : List Value} {e : TypeId} {fr : Nat × Nat} {s1 b1 s3 b3 : Nat} {z1 z3 : Option Value} {de : TypeDesc} (hΓ : Fits P Γ) (hu2 : P.underlying t2 = some .unsafePointer) (hr : Rd R L b (.cells ⟨cs⟩ e fr)) (k : J P n w0 R l0 K rest (upd f d (.pointer (some ⟨b, 0, none⟩))) L) (hg : wantB n f l0 ⟨some d, .convert t t2 x, ty, pos, aft, g⟩ = true := by exact rfl) (hx : Cx.ev n f x = .pointer (some ⟨b, 0, none⟩) := by exact rfl) (ht : Go.Cx.look Γ t = some ⟨.pointer te, s1, z1, b1⟩ := by exact rfl) (he : Go.Cx.look Γ te = some ⟨de, s3, z3, b3⟩ := by exact rfl) (hs : Nat.ble 1 s3 = true := by exact rfl) (hl : Nat.ble 1 cs.length = true := by exact rfl) : J P n w0 R l0 K ((κ + 1, ⟨some d, .convert t t2 x, ty, pos, aft, g⟩) :: rest) f L :=
  J.q hg (fun w hw => by
    obtain ⟨_, ie, hie, hse, _⟩ := hΓ te _ he
    have hb := hw.rd hr
    have hsh : w.shape? b = some (e, cs.length) := by simp [World.shape?, hb]
    have h2 := Lib.run_to_unsafe (P := P) w ⟨b, 0, none⟩ (hΓ t _ ht).1 hu2 hie (by have := Nat.le_of_ble_eq_true hs; rw [hse]; show s3 ≠ 0; omega) hsh (Nat.le_of_ble_eq_true hl)
    simp only [execOp, hx, Sem.run_bind, h2, Result.andThen_ok]
    rfl) k
theorem J.cP {t2 : TypeId} {b : Nat} {cs : List Value} {e : TypeId} {fr : Nat × Nat} {s1 b1 s3 b3 : Nat} {z1 z3 : Option Value} {de : TypeDesc} (hΓ : Fits P Γ) (hu2 : P.underlying t2 = some .unsafePointer) (hr : Rd R L b (.cells ⟨cs⟩ e fr)) (k : J P n w0 R l0 K rest (upd f d (.pointer (some ⟨b, 0, none⟩))) L) (hlies : liesAt P P.depth e (cs.length / P.cellsOf e) 0 te 1 = true := by kernel_rfl) (hg : wantB n f l0 ⟨some d, .convert t2 t x, ty, pos, aft, g⟩ = true := by exact rfl) (hx : Cx.ev n f x = .pointer (some ⟨b, 0, none⟩) := by exact rfl) (ht : Go.Cx.look Γ t = some ⟨.pointer te, s1, z1, b1⟩ := by exact rfl) (he : Go.Cx.look Γ te = some ⟨de, s3, z3, b3⟩ := by exact rfl) : J P n w0 R l0 K ((κ + 1, ⟨some d, .convert t2 t x, ty, pos, aft, g⟩) :: rest) f L :=
  J.q hg (fun w hw => by
    obtain ⟨_, ie, hie, hse, _⟩ := hΓ te _ he
    have hb := hw.rd hr
    have hsh : w.shape? b = some (e, cs.length) := by simp [World.shape?, hb]
    have h2 := Lib.run_from_unsafe (P := P) w ⟨b, 0, none⟩ hu2 (hΓ t _ ht).1 hie hsh hlies
    simp only [execOp, hx, Sem.run_bind, h2, Result.andThen_ok]
    rfl) k
theorem J.nE {fid : FuncId} {fn : Func} {xs : List Operand} {ats : Array TypeId} {v : Value} (hf : P.funcs[fid]? = some fn) (hn : (fn.name == "runtime.NumGoroutine") = false) (hb : fn.body.isNone = true) (hnx : Extern.findNext fn = none) (hfi : Extern.find fn = some Extern.AbiNoEscape.same) (hg : wantB n f l0 ⟨some d, .call ⟨.value (.func fid), ⟨xs⟩, ats⟩, ty, pos, aft, g⟩ = true) (ha : argsEv (Cx.ev n f) xs = some [v]) (k : J P n w0 R l0 K rest (upd f d v) L) : J P n w0 R l0 K ((κ, ⟨some d, .call ⟨.value (.func fid), ⟨xs⟩, ats⟩, ty, pos, aft, g⟩) :: rest) f L :=
  J.p hg (fun w => by
    have h1 : (⟨xs⟩ : Array Operand).map (Cx.ev n f) = ⟨[v]⟩ := by rw [← argsEv_eq ha]; simp
    have h2 := run_callFunc_extern hf hn hb hnx hfi #[v] w
    rw [Lib.run_noEscape] at h2
    simp only [Result.andThen_ok] at h2
    simp only [execOp, resolve, h1, Cx.ev, Deferred.ofValue, Sem.run_bind, Sem.run_pure, Result.andThen_ok, invoke]
    simpa using h2) k
end
section
variable {P : Program} {n : Nat} {w0 : World} {R : Heap} {l0 : List Oper} {K : Exit → Fr → List Heap → Prop} {f : Fr} {L : List Heap} {rest : List (Nat × Oper)} {κ : Nat}
variable {Γ : List (Nat × TI)} {d : Nat} {op : Op} {ty : TypeId} {pos : String} {aft : Array Edge} {g : Option (Nat × Bool)}
variable {α : Type} {enc : α → List Value} {a : Option Addr} {ts us : List α} {h : Heap} {size e cap : Nat}
theorem app_runC (hΓ : Fits P Γ) {t ty' : TypeId} {s1 b1 b2 : Nat} {z1 : Option Value} {z : Value} {zc : List Value} {de : TypeDesc} (ht : Go.Cx.look Γ t = some ⟨.slice e, s1, z1, b1⟩) (he : Go.Cx.look Γ e = some ⟨de, size, some z, b2⟩) (hz : vcells z = some zc) (hzl : zc.length = size)
    {w : World} (hw : H w0 R (h :: L) w) (ho : OwT enc size e a cap ts h) {ad : Addr} {c : Nat} (hnews : ∀ j u, (us.flatMap enc)[j]? = some u → w.cell? (ad.add j) = some u) (h1 : ones (us.flatMap enc) = true) (hm : 0 < us.length)
    (hb : (ts.length + us.length) * b2 ≤ 140737488355328) (h63 : ts.length + us.length ≤ 9223372036854775807) (hcap : cap ≤ maxLen) (hln : ts.length + us.length ≤ 140737488355328) :
    ∃ a' cap' h' w', (Builtin.append_ #[t, t] ty' #[.slice a ts.length cap, .slice (some ad) us.length c]).run P w = .ok (.slice a' (ts.length + us.length) cap') w' ∧ H w0 R (h' :: L) w' ∧ OwT enc size e a' cap' (ts ++ us) h' ∧ cap' ≤ maxLen := by
  have hu := (hΓ t _ ht).1
  obtain ⟨hue, ie, hie, hse, hze, hbe⟩ := hΓ e _ he
  have hl : (us.flatMap enc).length = us.length * ie.size := by rw [flat_len ho.len, hse]
  have hzs : z.cells.size = size := by rw [vcells_eq hz]; simpa using hzl
  have hsz : ie.size = size := hse
  rcases ho.row with ⟨rfl, rfl, rfl, rfl⟩ | ⟨gb, cs, rfl, rfl, hc1, hc2, hc3⟩
  · -- nothing yet
    have hrun := run_append_nil (P := P) w t ty' e ie z hu hie hze ad us.length c (us.flatMap enc) hl hnews hm (by simp at h63; omega) (by rw [hbe]; show us.length * b2 ≤ _; simp at hb; omega)
    have hge := grownCap_ge w us.length 0 e
    refine ⟨some ⟨w.heap.size, 0, none⟩, grownCap w us.length 0 e, _, _, ?_, (hw.drop.drew (w.drawn + 1)).alloc (.cells ((us.flatMap enc).toArray ++ Builtin.zeroCells z.cells (grownCap w us.length 0 e - us.length)) e), ?_, grownCap_le_maxLen w us.length 0 e (by unfold maxLen; omega)⟩
    · simp only [List.length_nil, Nat.zero_add]
      exact hrun
    · refine ⟨ho.len, .inr ⟨w.heap.size, (us.flatMap enc) ++ (Builtin.zeroCells z.cells (grownCap w us.length 0 e - us.length)).toList, rfl, ?_, ?_, ?_, ?_⟩⟩
      · simp
      · simp only [List.length_append, Array.length_toList, size_zeroCells, hzs, flat_len ho.len]
        rw [← Nat.add_mul]
        congr 1
        omega
      · simpa using hge
      · simp only [List.nil_append]
        rw [List.take_append_of_le_length (by rw [flat_len ho.len]; exact Nat.le_refl _), List.take_of_length_le (by rw [flat_len ho.len]; exact Nat.le_refl _)]
  · have hg : w.heap[gb]? = some (.cells cs.toArray e (0, 0)) := hw.own (gb, _) (by simp)
    by_cases hroom : ts.length + us.length ≤ cap
    · -- there is room
      have hfit : ts.length * ie.size + (us.flatMap enc).length ≤ cs.toArray.size := by
        rw [hl, ← Nat.add_mul, hsz]
        simp only [List.size_toArray, hc1]
        exact Nat.mul_le_mul_right _ hroom
      have hrun := run_append_room (P := P) w t ty' e ie hu hie gb ts.length cap cs.toArray hg ad us.length c (us.flatMap enc) hl hnews (ones_ok h1) hroom hfit
      refine ⟨_, _, [(gb, .cells ⟨ts.flatMap enc ++ us.flatMap enc ++ cs.drop (ts.length * ie.size + (us.flatMap enc).length)⟩ e (0, 0))], _, hrun, ?_, ?_, hcap⟩
      · refine hw.write rfl rfl rfl (by simp) ?_ (fun k hk => setRow_other _ _ _ _ hk)
        rw [setRow_heap w gb _ _ e _ hg]
        simp only [hsz, hc3]
      · refine ⟨ho.len, .inr ⟨gb, _, rfl, rfl, ?_, ?_, ?_⟩⟩
        · simp only [List.length_append, List.length_drop, flat_len ho.len, hsz, hc1]
          simp only [List.size_toArray, hc1, hl, hsz] at hfit
          have := hfit
          omega
        · simpa using hroom
        · rw [List.flatMap_append, List.take_append_of_le_length (by rw [List.length_append, List.length_append, flat_len ho.len, flat_len ho.len, Nat.add_mul]; exact Nat.le_refl _)]
          rw [List.take_of_length_le (by rw [List.length_append, List.length_append, flat_len ho.len, flat_len ho.len, Nat.add_mul]; exact Nat.le_refl _)]
    · -- a new row
      have hlt : cap < ts.length + us.length := by omega
      have hadd : ∀ j, (⟨gb, 0, none⟩ : Addr).add j = ⟨gb, j, none⟩ := fun j => by unfold Addr.add; split <;> simp_all
      have hfit : Builtin.nextslicecap (ts.length + us.length) cap * ie.bytes ≤ 281474976710656 := by
        have h2 := nextslicecap_le hlt
        have h3 : Builtin.nextslicecap (ts.length + us.length) cap * b2 ≤ (2 * (ts.length + us.length)) * b2 := Nat.mul_le_mul_right _ h2
        rw [Nat.mul_assoc] at h3
        rw [hbe]
        show _ * b2 ≤ _
        omega
      have hrun := run_append_grow (P := P) w t ty' e ie z hu hie hze ⟨gb, 0, none⟩ ts.length cap (ts.flatMap enc) (by rw [flat_len ho.len, hsz]) (fun j v hj => by
          rw [hadd, cell_of_row w gb j cs.toArray e (0, 0) hg]
          rw [← hc3, List.getElem?_take] at hj
          split at hj
          · simpa using hj
          · cases hj) ad us.length c (us.flatMap enc) hl hnews hlt (by omega) hfit
      have hge := grownCap_ge w (ts.length + us.length) cap e
      refine ⟨_, _, _, _, hrun, (hw.drop.drew (w.drawn + 1)).alloc _, ?_, grownCap_le_maxLen w (ts.length + us.length) cap e (by unfold maxLen; omega)⟩
      refine ⟨ho.len, .inr ⟨w.heap.size, ts.flatMap enc ++ us.flatMap enc ++ (Builtin.zeroCells z.cells (grownCap w (ts.length + us.length) cap e - (ts.length + us.length))).toList, rfl, ?_, ?_, ?_, ?_⟩⟩
      · simp
      · simp only [List.length_append, Array.length_toList, size_zeroCells, hzs, flat_len ho.len]
        rw [← Nat.add_mul, ← Nat.add_mul]
        congr 1
        omega
      · simpa using hge
      · rw [List.flatMap_append, List.take_append_of_le_length (by rw [List.length_append, List.length_append, flat_len ho.len, flat_len ho.len, Nat.add_mul]; exact Nat.le_refl _)]
        rw [List.take_of_length_le (by rw [List.length_append, List.length_append, flat_len ho.len, flat_len ho.len, Nat.add_mul]; exact Nat.le_refl _)]
theorem J.app1C {t : TypeId} {x y : Operand} {len m c gx : Nat} {cl : List Value} {fr : Nat × Nat} {e' s1 b1 b2 : Nat} {z1 : Option Value} {z : Value} {zc : List Value} {de : TypeDesc} (us : List α) (hΓ : Fits P Γ) (hg : wantB n f l0 ⟨some d, .call ⟨.builtin .append, ⟨[x, y]⟩, ⟨[t, t]⟩⟩, ty, pos, aft, g⟩ = true)
    (hx : Cx.ev n f x = .slice a len cap) (hy : Cx.ev n f y = .slice (some ⟨gx, 0, none⟩) m c) (ht : Go.Cx.look Γ t = some ⟨.slice e, s1, z1, b1⟩) (he : Go.Cx.look Γ e = some ⟨de, size, some z, b2⟩) (hz : vcells z = some zc) (hzl : Nat.beq zc.length size = true)
    (ho : OwT enc size e a cap ts h) (hlen : ts.length = len) (hus : us.flatMap enc = cl) (hm : us.length = m) (h1 : ones cl = true) (hpos : 0 < m) (hb : (len + m) * b2 ≤ 140737488355328) (h63 : len + m ≤ 9223372036854775807) (hcap : cap ≤ maxLen) (hln : len + m ≤ 140737488355328)
    (k : ∀ a' cap' h', OwT enc size e a' cap' (ts ++ us) h' → cap' ≤ maxLen → J P n w0 R l0 K rest (upd f d (.slice a' (len + m) cap')) (h' :: L)) :
    J P n w0 R l0 K ((2, ⟨some d, .call ⟨.builtin .append, ⟨[x, y]⟩, ⟨[t, t]⟩⟩, ty, pos, aft, g⟩) :: rest) f ([(gx, .cells ⟨cl⟩ e' fr)] :: h :: L) := by
  subst hlen hm hus
  refine J.v (Φ := fun v L' => ∃ a' cap' h', v = .slice a' (ts.length + us.length) cap' ∧ L' = h' :: L ∧ OwT enc size e a' cap' (ts ++ us) h' ∧ cap' ≤ maxLen) hg (fun w hw => ?_) (fun v L' ⟨a', cap', h', e1, e2, e3, e4⟩ => by subst e1; subst e2; exact k a' cap' h' e3 e4)
  have hgx : w.heap[gx]? = some (.cells (us.flatMap enc).toArray e' fr) := hw.own (gx, _) (by simp)
  have hadd : ∀ j, (⟨gx, 0, none⟩ : Addr).add j = ⟨gx, j, none⟩ := fun j => by unfold Addr.add; split <;> simp_all
  obtain ⟨a', cap', h', w', hr, hw', ho', hc'⟩ := app_runC (P := P) (ty' := ty) (us := us) (ad := ⟨gx, 0, none⟩) (c := c) hΓ ht he hz (Nat.eq_of_beq_eq_true hzl) hw.drop ho
    (fun j u hj => by rw [hadd, cell_of_row w gx j _ e' fr hgx]; simpa using hj) h1 hpos hb h63 hcap hln
  refine ⟨_, _, w', ?_, hw', a', cap', h', rfl, rfl, ho', hc'⟩
  have h2 : (⟨[x, y]⟩ : Array Operand).map (Cx.ev n f) = #[.slice a ts.length cap, .slice (some ⟨gx, 0, none⟩) us.length c] := by simp [hx, hy]
  simp only [execOp, resolve, h2, Sem.run_bind, Sem.run_pure, Result.andThen_ok, invoke, builtin]
  rw [hr]
  rfl
end
attribute [local irreducible] J JC thenK blockK loopK drawK retK QW Qt pel List.set Calls JE Br eK0 eK3 brK pc
theorem eCopyC : Entr Tryz.prog 84 := Entr.of Tryz.func84 rfl rfl
theorem eBStr : Entr Tryz.prog 68 := Entr.of Tryz.func68 rfl rfl
theorem eWBy : Entr Tryz.prog 67 := Entr.of Tryz.func67 rfl rfl
def bldO (p : Option Addr) (v : Value) : Obj := .cells ⟨[.pointer p, v]⟩ 104 (0, 0)
set_option maxRecDepth 100000 in
theorem copyC_any {w0 w : World} {R : Heap} {L : List Heap} {b : Nat} {p : Option Addr} {v : Value} (hp : p = none ∨ p = some ⟨b, 0, none⟩) (hw : H w0 R ([(b, bldO p v)] :: L) w) :
    Calls Tryz.prog 84 #[.pointer (some ⟨b, 0, none⟩)] w fun e w' => ∃ v' L', e = .returned v' ∧ H w0 R L' w' ∧ (v' = .tuple #[] ∧ L' = [(b, bldO (some ⟨b, 0, none⟩) v)] :: L) := by
  rcases hp with rfl | rfl
  ·
    refine calls_in Tryz.func84 Tryz.ntmps84 rfl rfl (hw) ?_
    unfold bldO
    repeat' first
      | (refine J.isJ ?_; first | (first | (refine J.o 11 ?_; refine J.pN hΓ ?_) | (refine J.o 2 ?_; first | refine J.cU hΓ Tryz.underlying134 Rd.hd ?_ | refine J.cP hΓ Tryz.underlying134 Rd.hd ?_) | (refine J.fc 90 ?_; refine J.nE Tryz.func90 (by kernel_rfl) (by kernel_rfl) (by kernel_rfl) (by kernel_rfl) rfl rfl ?_) | (refine J.o 11 ?_; refine J.pS hΓ ?_)) | (first | (refine J.o 0 ?_; refine J.ev' hΓ ?_) | refine J.nil ?_ | (refine J.o 4 ?_; first | refine J.lR hΓ ?_) | (refine J.o 3 ?_; first | refine J.ev' hΓ ?_) | (refine J.o 5 ?_; first | refine J.t0 hΓ ?_) | (refine J.o 10 ?_; refine J.ev' hΓ ?_) | (refine J.o 11 ?_; refine J.ev' hΓ ?_)))
      | (first | refine JC.seq ?_ | refine JC.region ?_ | refine JC.skip ?_ | refine thenK.nn ?_ | refine JC.condT rfl ?_ | refine JC.condF rfl ?_)
      | (fail)
      | fail
    all_goals first | (exact absurd rfl hc) | skip
    all_goals exact ret0n rfl (fun w1 hw => ⟨_, _, rfl, hw, rfl, rfl⟩)
  ·
    refine calls_in Tryz.func84 Tryz.ntmps84 rfl rfl (hw) ?_
    unfold bldO
    repeat' first
      | (refine J.isJ ?_; first | (first | (refine J.o 11 ?_; refine J.pN hΓ ?_) | (refine J.o 11 ?_; refine J.pS hΓ ?_)) | (first | (refine J.o 0 ?_; refine J.ev' hΓ ?_) | refine J.nil ?_ | (refine J.o 4 ?_; first | refine J.lR hΓ ?_) | (refine J.o 3 ?_; first | refine J.ev' hΓ ?_) | (refine J.o 5 ?_; first | refine J.t0 hΓ ?_) | (refine J.o 10 ?_; refine J.ev' hΓ ?_) | (refine J.o 11 ?_; refine J.ev' hΓ ?_)))
      | (first | refine JC.seq ?_ | refine JC.region ?_ | refine JC.skip ?_ | refine thenK.nn ?_ | refine JC.condT rfl ?_ | refine JC.condF rfl ?_)
      | (fail)
      | fail
    all_goals first | (exact absurd rfl hc) | skip
    all_goals exact ret0n rfl (fun w1 hw => ⟨_, _, rfl, hw, rfl, rfl⟩)
theorem wBy_any {w0 w : World} {R : Heap} {L : List Heap} {b : Nat} {p a : Option Addr} {cap : Nat} {bs : List UInt8} {hb : Heap} (c : UInt8) (hp : p = none ∨ p = some ⟨b, 0, none⟩) (ob : OwT encB 1 5 a cap bs hb) (hcap : cap ≤ maxLen) (hlen : bs.length + 1 ≤ 140737488355328) (hw : H w0 R ([(b, bldO p (.slice a bs.length cap))] :: hb :: L) w) :
    Calls Tryz.prog 67 #[.pointer (some ⟨b, 0, none⟩), .int .u8 (c.toNat : Int)] w fun e w' => ∃ v' L', e = .returned v' ∧ H w0 R L' w' ∧ ∃ a' cap' h', L' = [(b, bldO (some ⟨b, 0, none⟩) (.slice a' (bs ++ [c]).length cap'))] :: h' :: L ∧ OwT encB 1 5 a' cap' (bs ++ [c]) h' ∧ cap' ≤ maxLen := by
  have hl : (bs ++ [c]).length = bs.length + 1 := by simp
  refine calls_in Tryz.func67 Tryz.ntmps67 rfl rfl (hw) ?_
  repeat' first
    | (refine J.isJ ?_; first | (first | (refine J.fc 84 ?_; refine J.callx eCopyC rfl rfl (fun w hw => copyC_any hp hw) ?_; rintro _ _ ⟨rfl, rfl⟩; unfold bldO) | (refine J.o 9 ?_; refine J.perm (br1.cons _) ?_; refine J.app1C [c] hΓ rfl rfl rfl rfl rfl rfl rfl ob rfl rfl rfl rfl (by omega) (by omega) (by omega) hcap (by omega) (fun a2 c2 h2 o2 hc2 => ?_)) | (refine J.o 5 ?_; refine J.t1 hΓ ?_)) | (first | (refine J.o 0 ?_; refine J.ev' hΓ ?_) | refine J.nil ?_ | (refine J.o 4 ?_; first | refine J.lR hΓ ?_) | (refine J.o 3 ?_; first | refine J.ev' hΓ ?_) | (refine J.o 5 ?_; first | refine J.t1 hΓ ?_) | (refine J.o 9 ?_; refine J.bl hΓ (fun _ => ?_)) | (refine J.o 10 ?_; refine J.ev' hΓ ?_) | (refine J.o 11 ?_; refine J.ev' hΓ ?_)))
    | (first | refine JC.seq ?_ | refine JC.region ?_ | refine JC.ret ?_ | refine thenK.nn ?_)
    | (fail)
    | fail
  all_goals first | (exfalso; omega) | skip
  rw [hl]
  all_goals exact ret1f rfl rfl rfl (fun w1 hw => ⟨_, _, rfl, hw.perm br1, _, _, _, rfl, o2, hc2⟩)
theorem bytes_flat : ∀ bs : List UInt8, bs.flatMap encB = Lib.byteCells bs
  | [] => rfl
  | x :: bs => by
    have ih := bytes_flat bs
    unfold Lib.byteCells at ih ⊢
    rw [List.flatMap_cons, List.map_cons, ih]
    rfl
theorem bStr_any {w0 w : World} {R : Heap} {L : List Heap} {b : Nat} {p a : Option Addr} {cap : Nat} {bs : List UInt8} {hb : Heap} (hp : p = none ∨ p = some ⟨b, 0, none⟩) (ob : OwT encB 1 5 a cap bs hb) (hcap : cap ≤ maxLen) (hw : H w0 R ([(b, bldO p (.slice a bs.length cap))] :: hb :: L) w) :
    Calls Tryz.prog 68 #[.pointer (some ⟨b, 0, none⟩)] w fun e w' => ∃ v' L', e = .returned v' ∧ H w0 R L' w' ∧ (v' = .string (S bs) ∧ L' = []) := by
  have hbk : w.heap[b]? = some (bldO p (.slice a bs.length cap)) := hw.rd (Rd.fr (by simp))
  have hbn : w0.heap.size ≤ b := hw.new (b, bldO p (.slice a bs.length cap)) (by simp)
  have hfl := bytes_flat bs
  have hown : w.ownsRow w0.heap.size 5 1 (.slice a bs.length cap) (Lib.byteCells bs).length (Lib.byteCells bs) ∧ (Value.slice a bs.length cap).ownBlock ≠ some b := by
    rw [Lib.byteCells_length]
    rcases ob.row with ⟨rfl, rfl, rfl, rfl⟩ | ⟨g, cs, rfl, rfl, h1, h2, h3⟩
    · exact ⟨⟨by simp [Lib.byteCells], .inl ⟨rfl, rfl⟩⟩, by simp [Value.ownBlock]⟩
    · have hg : w.heap[g]? = some (.cells ⟨cs⟩ 5 (0, 0)) := hw.own (g, _) (by simp)
      have hgn : w0.heap.size ≤ g := hw.new (g, .cells ⟨cs⟩ 5 (0, 0)) (by simp)
      refine ⟨⟨by rw [Lib.byteCells_length]; omega, .inr ⟨g, cap, ⟨cs⟩, rfl, hgn, hg, h2, hcap, by simpa using h1, ?_⟩⟩, ?_⟩
      · rw [← hfl]; exact h3
      · have hnd := hw.nodup
        simp only [List.flatten_cons, List.map_append, List.map_cons, List.map_nil, List.cons_append, List.nil_append] at hnd
        rw [List.nodup_cons] at hnd
        intro e
        simp only [Value.ownBlock, Option.some.injEq] at e
        exact hnd.1 (by rw [← e]; simp)
  have hB : Lib.IsBuilder 104 5 w0.heap.size b (Lib.byteCells bs) w := by
    rcases hp with rfl | rfl
    · exact .inl ⟨hbn, _, hbk, hown.1, hown.2⟩
    · exact .inr ⟨hbn, _, hbk, hown.1, hown.2⟩
  refine (Tryz.Builder_String_any w0.heap.size b bs w hB hw.below.size).mono ?_
  rintro e w' ⟨rfl, hbel⟩
  exact ⟨_, [], rfl, ⟨hw.below.trans hbel, hw.old, fun x hx => by simp at hx, fun x hx => by simp at hx, by simp⟩, rfl, rfl⟩
end Go.Proofs.YthnhijdfcmcnhaaGreat
namespace Go.Proofs.YthnhijdfcmcnhaaGreat
open Go Go.Cx Go.RowKit
set_option linter.unusedVariables false
set_option linter.unusedSimpArgs false
set_option maxHeartbeats 4000000
attribute [local irreducible] J JC thenK blockK loopK drawK retK QW Qt pel List.set Calls
open Go.Lib
set_option maxRecDepth 8000
attribute [local irreducible] JE Br eK0 eK3 brK pc
section
variable {P : Program} {n : Nat} {w0 : World} {R : Heap} {l0 : List Oper} {K : Exit → Fr → List Heap → Prop} {f : Fr} {L : List Heap} {rest : List (Nat × Oper)} {κ : Nat} {Γ : List (Nat × TI)}
variable {d : Nat} {ty : TypeId} {pos : String} {aft : Array Edge} {g : Option (Nat × Bool)} {t u : TypeId} {x y : Operand} {k : IntKind} {a b : Nat}
theorem J.gorE {c : Nat} (h : a ||| b = c) (kk : J P n w0 R l0 K rest (upd f d (.int .u64 (c : Int))) L) (ha : a < 18446744073709551616) (hb : b < 18446744073709551616) (hg : wantB n f l0 ⟨some d, .binOp .or t x y u, ty, pos, aft, g⟩ = true := by exact rfl) (hx : Cx.ev n f x = .int .u64 (a : Int) := by exact rfl) (hy : Cx.ev n f y = .int .u64 (b : Int) := by exact rfl) : J P n w0 R l0 K ((κ, ⟨some d, .binOp .or t x y u, ty, pos, aft, g⟩) :: rest) f L := by
  subst h
  exact J.gor kk hg hx hy ha hb
end
theorem eShrink : Entr Tryz.prog 66 := Entr.of Tryz.func66 rfl rfl
theorem eText : Entr Tryz.prog 33 := Entr.of Tryz.func33 rfl rfl
theorem shrink_any {a : Option Addr} {c : Nat} {ws : List Nat} {h : Heap} (ow : OwT encW 1 100 a c ws h) (hok : okW ws) (hl : ws.length ≤ 1000) (B : Nat) (hB : 0 < B) (hB2 : B < 4294967296) {w0 w : World} {R : Heap} {L : List Heap} (hw : H w0 R (h :: L) w) :
    Calls Tryz.prog 66 #[.slice a ws.length c, .int .u32 (B : Int)] w fun e w' => ∃ v L', e = .returned v ∧ H w0 R L' w' ∧ ∃ o h', v = .int .u32 ((valW ws % B : Nat) : Int) ∧ L' = h' :: L ∧ OwT encW 1 100 a c o h' ∧ okW o ∧ o.length = ws.length ∧ valW o = valW ws / B := by
  refine calls_in Tryz.func66 Tryz.ntmps66 rfl rfl (hw) ?_
  repeat' first
    | (refine J.isJ ?_; first | (fail) | (first | (refine J.o 0 ?_; refine J.ev' hΓ ?_) | refine J.nil ?_ | (refine J.o 4 ?_; first | refine J.lT default hΓ ?_) | (refine J.o 3 ?_; first | refine J.iJ hΓ ?_ | refine J.ev' hΓ ?_) | (refine J.o 1 ?_; first | refine J.sb ?_) | (refine J.o 5 ?_; first | refine J.tT _ default hΓ (fun _ _ => ?_)) | (refine J.o 10 ?_; refine J.ev' hΓ ?_) | (refine J.o 11 ?_; refine J.ev' hΓ ?_)))
    | (first | refine JC.seq ?_ | refine JC.region ?_ | refine JC.block ?_ | refine JC.ret ?_ | refine JC.exit ?_ | refine JC.skip ?_ | refine thenK.nn ?_ | refine thenK.x ?_ | refine blockK.nn ?_ | refine blockK.hit rfl ?_ | refine JC.condT rfl ?_ | refine JC.condF rfl ?_ | refine loopK.x ?_)
    | (fail)
    | fail
  all_goals first | (exfalso; omega) | skip
  refine JC.loop (fun i => i == 5 || i == 6 || Nat.ble 10 i) (fun m g L' => ∃ o r h', g 6 = .int .i64 ((m : Int) - 1) ∧ g 5 = .int .u64 ((r : Nat) : Int) ∧ m ≤ ws.length ∧ ShrI ws B m o r ∧ OwT encW 1 100 a c o h' ∧ L' = h' :: L) ws.length ⟨ws, 0, h, rfl, rfl, Nat.le_refl _, ShrI.start hB hok, ow, rfl⟩ ?_
  rintro m g L' ⟨o, r, h4, e6, e5, hm, si, o4, rfl⟩
  have lo := si.len
  rcases Nat.eq_zero_or_pos m with h0 | hpos
  · subst h0
    refine JC.pin 6 e6 ?_
    refine JC.pin 5 e5 ?_
    obtain ⟨hv1, hv2⟩ := si.fin hB
    have hr1 := si.r1
    repeat' first
      | (refine J.isJ ?_; first | ((refine J.o 2 ?_; refine J.gcv hΓ ?_ (hk := wU32 (by omega)))) | (first | (refine J.o 0 ?_; refine J.ev' hΓ ?_) | refine J.nil ?_ | (refine J.o 4 ?_; first | refine J.lT default hΓ ?_) | (refine J.o 3 ?_; first | refine J.iJ hΓ ?_ | refine J.ev' hΓ ?_) | (refine J.o 1 ?_; first | refine J.sb ?_) | (refine J.o 5 ?_; first | refine J.tT _ default hΓ (fun _ _ => ?_)) | (refine J.o 10 ?_; refine J.ev' hΓ ?_) | (refine J.o 11 ?_; refine J.ev' hΓ ?_)))
      | (first | refine JC.seq ?_ | refine JC.region ?_ | refine JC.block ?_ | refine JC.ret ?_ | refine JC.exit ?_ | refine JC.skip ?_ | refine thenK.nn ?_ | refine thenK.x ?_ | refine blockK.nn ?_ | refine blockK.hit rfl ?_ | refine JC.condT rfl ?_ | refine JC.condF rfl ?_ | refine loopK.x ?_)
      | (fail)
      | fail
    all_goals first | (exfalso; omega) | skip
    refine ret1f rfl rfl rfl (fun w1 hw => ⟨_, _, rfl, hw, o, h4, ?_, rfl, o4, si.ok, si.len, hv1⟩)
    rw [hv2]
  · obtain ⟨i, rfl⟩ : ∃ i, m = i + 1 := ⟨m - 1, by omega⟩
    have e6' : g 6 = .int .i64 ((i : Nat) : Int) := by rw [e6]; congr 1; omega
    refine JC.pin 6 e6' ?_
    refine JC.pin 5 e5 ?_
    have hr1 := si.r1
    have b1 : o.getD i 0 < 4294967296 := okW_get si.ok i
    have hr2 : r ≤ 4294967294 := by omega
    have hr3 : r * 4294967296 ≤ 4294967294 * 4294967296 := Nat.mul_le_mul_right _ hr2
    have ha1 : r * 2 ^ 32 < 18446744073709551616 := Nat.lt_of_le_of_lt hr3 (by decide)
    have ha2 : o.getD i 0 < 18446744073709551616 := Nat.lt_trans b1 (by decide)
    have hs : r * W32 + o.getD i 0 < 18446744073709551616 := Nat.lt_of_lt_of_le (Nat.add_lt_add_of_le_of_lt hr3 b1) (by decide)
    obtain ⟨hst, hq⟩ := si.step hB hok (show i < ws.length by omega)
    have hq : (r * 4294967296 + o.getD i 0) / B < 4294967296 := hq
    have hor : r * 2 ^ 32 ||| o.getD i 0 = r * W32 + o.getD i 0 := by
      rw [Nat.mul_comm r (2 ^ 32), ← Nat.two_pow_add_eq_or_of_lt b1]
    have hrem : (r * W32 + o.getD i 0) % B < B := Nat.mod_lt _ hB
    have hil : i < o.length := by omega
    repeat' first
      | (refine J.isJ ?_; first | (first | (refine J.o 4 ?_; refine J.lT (0 : Nat) hΓ ?_ (hs := o4.sl) (hr := RdH.hd)) | (refine J.o 1 ?_; first | refine J.gshl (j := 32) ?_ (hw := wU64 ha1) | refine J.gorE hor ?_ ha1 ha2 | refine J.gquo (b := B) ?_ (hw := wU64 (Nat.lt_of_le_of_lt (Nat.div_le_self _ _) hs)) | refine J.grem (b := B) ?_) | (refine J.o 2 ?_; first | refine J.gcv hΓ ?_ (hk := wU64 (by omega)) | refine J.gcv hΓ ?_ (hk := wU32 hq)) | (refine J.o 5 ?_; refine J.tT (enc := encW) _ default hΓ (fun h5 o5 => ?_))) | (first | (refine J.o 0 ?_; refine J.ev' hΓ ?_) | refine J.nil ?_ | (refine J.o 4 ?_; first | refine J.lT default hΓ ?_) | (refine J.o 3 ?_; first | refine J.iJ hΓ ?_ | refine J.ev' hΓ ?_) | (refine J.o 1 ?_; first | refine J.sb ?_) | (refine J.o 5 ?_; first | refine J.tT _ default hΓ (fun _ _ => ?_)) | (refine J.o 10 ?_; refine J.ev' hΓ ?_) | (refine J.o 11 ?_; refine J.ev' hΓ ?_)))
      | (first | refine JC.seq ?_ | refine JC.region ?_ | refine JC.block ?_ | refine JC.ret ?_ | refine JC.exit ?_ | refine JC.skip ?_ | refine thenK.nn ?_ | refine thenK.x ?_ | refine blockK.nn ?_ | refine blockK.hit rfl ?_ | refine JC.condT rfl ?_ | refine JC.condF rfl ?_ | refine loopK.x ?_)
      | (fail)
      | fail
    all_goals first | (exfalso; omega) | skip
    refine loopK.nn i (by omega) (by repeat (first | refine Ag.upd rfl ?_ | exact Ag.hv)) ⟨_, _, h5, rfl, rfl, by omega, hst, o5, rfl⟩
end Go.Proofs.YthnhijdfcmcnhaaGreat
namespace Go.Proofs.YthnhijdfcmcnhaaGreat
open Go Go.Cx Go.RowKit
set_option linter.unusedVariables false
set_option linter.unusedSimpArgs false
set_option maxHeartbeats 4000000
attribute [local irreducible] J JC thenK blockK loopK drawK retK QW Qt pel List.set Calls
open Go.Lib
set_option maxRecDepth 8000
attribute [local irreducible] JE Br eK0 eK3 brK pc
theorem words_one {v : Nat} (h0 : 0 < v) (hv : v < 4294967296) : wordsB (bytesN v) = [v] := by
  have h1 := valW_wordsB (bytesN v)
  rw [valB_bytesN] at h1
  have h2 := wordsB_len (bytesN v)
  have h3 : (bytesN v).length ≤ 4 := bytesN_len (k := 4) (by show v < 4294967296; exact hv)
  match hw : wordsB (bytesN v) with
  | [] => rw [hw] at h1; simp only [valW] at h1; omega
  | [x] => rw [hw] at h1; simp only [valW] at h1; rw [show x = v by omega]
  | x :: y :: l => rw [hw] at h2; simp only [List.length_cons] at h2; omega
theorem one_zero {o : List Nat} (hl : o.length = 1) (hv : valW o = 0) : o = [0] := by
  match o, hl with
  | [x], _ => simp only [valW] at hv; rw [show x = 0 by omega]
theorem decN_len : ∀ (k v : Nat), v < 10 ^ k → (decN v).length ≤ k
  | 0, v, h => by rw [show v = 0 by simpa using h]; simp [decN_0]
  | k + 1, v, h => by
    rcases Nat.eq_zero_or_pos v with h0 | h0
    · rw [h0]; simp [decN_0]
    · rw [decN_pos h0, List.length_cons]
      have := decN_len k (v / 10) (by rw [Nat.pow_succ] at h; omega)
      omega
def dig (p : Nat) : UInt8 := UInt8.ofNat (48 + p % 10)
theorem dec_u8 (p : Nat) : IntKind.u8.wrap ((48 + p % 10 : Nat) : Int) = ((UInt8.ofNat (48 + p % 10)).toNat : Int) := wB _
theorem text_zero (w : World) : Calls Tryz.prog 33 #[natV 0] w fun e w' => e = .returned (.string (S [48])) ∧ Below w.heap.size w w' := by
  have cX := fun w => words_any 0 (by show (bytesN 0).length ≤ 100000; decide) w
  have hb : bytesN 0 = [] := rfl
  have hws : wordsB (bytesN 0) = [] := rfl
  rw [hws] at cX
  refine calls_of_JC (R := []) Tryz.func33 Tryz.ntmps33 rfl rfl (Holds.nil _) ?_
  unfold natV
  repeat' first
    | (refine J.isJ ?_; first | (first | (refine J.o 6 ?_; refine J.bx (fun b1 => ?_)) | (refine J.fc 65 ?_; refine J.call1 eWords rfl rfl (fun w hw => cX w) ?_; rintro _ hgx ⟨ax, cx, rfl, ox⟩)) | (first | (refine J.o 0 ?_; refine J.ev' hΓ ?_) | refine J.nil ?_ | (refine J.o 4 ?_; first | refine J.lR hΓ ?_) | (refine J.o 3 ?_; first | refine J.ev' hΓ ?_) | (refine J.o 1 ?_; first | refine J.sb ?_) | (refine J.o 6 ?_; refine J.bx (fun _ => ?_)) | (refine J.o 7 ?_; refine J.al hΓ (fun _ => ?_)) | (refine J.o 10 ?_; refine J.ev' hΓ ?_) | (refine J.o 11 ?_; refine J.ev' hΓ ?_)))
    | (first | refine JC.seq ?_ | refine JC.region ?_ | refine JC.block ?_ | refine JC.ret ?_ | refine JC.exit ?_ | refine thenK.nn ?_ | refine thenK.r ?_ | refine thenK.x ?_ | refine blockK.hit rfl ?_ | refine JC.condT rfl ?_ | refine JC.condF rfl ?_ | refine loopK.x ?_)
    | (fail)
    | fail
  refine JC.loop (fun i => (Nat.ble 3 i && Nat.ble i 6) || Nat.ble 11 i) (fun m g L' => g 3 = .slice ax 0 cx ∧ g 4 = .slice none 0 0 ∧ L' = [hgx, [(b1, Obj.cells ⟨[.string (S (bytesN 0))]⟩ 57 (0, 0))]]) 1 ⟨rfl, rfl, rfl⟩ ?_
  rintro m g L' ⟨e3, e4, rfl⟩
  refine JC.pin 3 e3 ?_
  refine JC.pin 4 e4 ?_
  repeat' first
    | (refine J.isJ ?_; first | (fail) | (first | (refine J.o 0 ?_; refine J.ev' hΓ ?_) | refine J.nil ?_ | (refine J.o 4 ?_; first | refine J.lR hΓ ?_) | (refine J.o 3 ?_; first | refine J.ev' hΓ ?_) | (refine J.o 1 ?_; first | refine J.sb ?_) | (refine J.o 6 ?_; refine J.bx (fun _ => ?_)) | (refine J.o 7 ?_; refine J.al hΓ (fun _ => ?_)) | (refine J.o 10 ?_; refine J.ev' hΓ ?_) | (refine J.o 11 ?_; refine J.ev' hΓ ?_)))
    | (first | refine JC.seq ?_ | refine JC.region ?_ | refine JC.block ?_ | refine JC.ret ?_ | refine JC.exit ?_ | refine thenK.nn ?_ | refine thenK.r ?_ | refine thenK.x ?_ | refine blockK.hit rfl ?_ | refine JC.condT rfl ?_ | refine JC.condF rfl ?_ | refine loopK.x ?_)
    | (fail)
    | fail
  all_goals first | (exfalso; omega) | skip
  refine JC.loop (fun i => i == 8 || Nat.ble 58 i) (fun m g L' => g 8 = .int .i64 (-1) ∧ True) 1 ⟨rfl, trivial⟩ ?_
  rintro m2 g2 L' ⟨e8, _⟩
  refine JC.pin 8 e8 ?_
  repeat' first
    | (refine J.isJ ?_; first | (fail) | (first | (refine J.o 0 ?_; refine J.ev' hΓ ?_) | refine J.nil ?_ | (refine J.o 4 ?_; first | refine J.lR hΓ ?_) | (refine J.o 3 ?_; first | refine J.ev' hΓ ?_) | (refine J.o 1 ?_; first | refine J.sb ?_) | (refine J.o 6 ?_; refine J.bx (fun _ => ?_)) | (refine J.o 7 ?_; refine J.al hΓ (fun _ => ?_)) | (refine J.o 10 ?_; refine J.ev' hΓ ?_) | (refine J.o 11 ?_; refine J.ev' hΓ ?_)))
    | (first | refine JC.seq ?_ | refine JC.region ?_ | refine JC.block ?_ | refine JC.ret ?_ | refine JC.exit ?_ | refine thenK.nn ?_ | refine thenK.r ?_ | refine thenK.x ?_ | refine blockK.hit rfl ?_ | refine JC.condT rfl ?_ | refine JC.condF rfl ?_ | refine loopK.x ?_)
    | (fail)
    | fail
  all_goals first | (exfalso; omega) | skip
  all_goals (refine ret1f rfl rfl rfl (fun w1 hw => ⟨rfl, hw.below⟩))
theorem text_any (v : Nat) (h0 : 0 < v) (hv : v < 1000000000) (w : World) : Calls Tryz.prog 33 #[natV v] w fun e w' => e = .returned (.string (S (decN v).reverse)) ∧ Below w.heap.size w w' := by
  have hbl : (bytesN v).length ≤ 4 := bytesN_len (k := 4) (by show v < 4294967296; omega)
  have cX := fun w => words_any v (by omega) w
  rw [words_one h0 (by omega)] at cX
  have dl := decN_len 9 v (by show v < 1000000000; exact hv)
  have hok : okW [v] := fun x hx => by rw [List.mem_singleton.1 hx]; show v < 4294967296; omega
  have vm : valW [v] % 1000000000 = v := by simp only [valW]; omega
  have vd : valW [v] / 1000000000 = 0 := by simp only [valW]; omega
  refine calls_of_JC (R := []) Tryz.func33 Tryz.ntmps33 rfl rfl (Holds.nil _) ?_
  unfold natV
  repeat' first
    | (refine J.isJ ?_; first | (first | (refine J.o 6 ?_; refine J.bx (fun b1 => ?_)) | (refine J.fc 65 ?_; refine J.call1 eWords rfl rfl (fun w hw => cX w) ?_; rintro _ hgx ⟨ax, cx, rfl, ox⟩)) | (first | (refine J.o 0 ?_; refine J.ev' hΓ ?_) | refine J.nil ?_ | refine J.kd ?_ | (refine J.o 4 ?_; first | refine J.lT default hΓ ?_ | refine J.lR hΓ ?_) | (refine J.o 3 ?_; first | refine J.iJ hΓ ?_ | refine J.ev' hΓ ?_) | (refine J.o 1 ?_; first | refine J.ad ?_ | refine J.sb ?_) | (refine J.o 6 ?_; refine J.bx (fun _ => ?_)) | (refine J.o 7 ?_; refine J.al hΓ (fun _ => ?_)) | (refine J.o 9 ?_; refine J.bl hΓ (fun _ => ?_)) | (refine J.o 10 ?_; refine J.ev' hΓ ?_) | (refine J.o 11 ?_; refine J.ev' hΓ ?_)) | ((fail_if_success refine J.wt ?_); refine J.gc rfl rfl (fun hc => ?_) (fun hc => ?_) <;> ((try simp only [decide_eq_true_eq, decide_eq_false_iff_not, beq_iff_eq, beq_eq_false_iff_ne, bne_iff_ne, bne_eq_false_iff_eq, Bool.not_eq_true', Bool.not_eq_false', Bool.not_eq_true, Bool.not_eq_false] at hc) <;> first | (first | (exact absurd rfl hc) | (exfalso; omega) | (exact absurd (hc.symm.trans (by assumption : _ = false)) (by decide)) | (exact absurd (hc.symm.trans (by assumption : _ = true)) (by decide))) | skip)))
    | (first | refine JC.seq ?_ | refine JC.region ?_ | refine JC.block ?_ | refine JC.ret ?_ | refine JC.exit ?_ | refine JC.skip ?_ | refine thenK.nn ?_ | refine thenK.x ?_ | refine blockK.nn ?_ | refine blockK.hit rfl ?_ | refine JC.condT rfl ?_ | refine JC.condF rfl ?_ | (refine JC.cond rfl (fun hc => ?_) (fun hc => ?_) <;> ((try simp only [decide_eq_true_eq, decide_eq_false_iff_not, beq_iff_eq, beq_eq_false_iff_ne, bne_iff_ne, bne_eq_false_iff_eq, Bool.not_eq_true', Bool.not_eq_false', Bool.not_eq_true, Bool.not_eq_false] at hc) <;> first | (first | (exact absurd rfl hc) | (exfalso; omega) | (exact absurd (hc.symm.trans (by assumption : _ = false)) (by decide)) | (exact absurd (hc.symm.trans (by assumption : _ = true)) (by decide))) | skip)) | refine loopK.x ?_)
    | (fail)
    | fail
  refine JC.weak (L' := [hgx, [], [(b1, Obj.cells ⟨[.string (S (bytesN v))]⟩ 57 (0, 0))]]) (fun w hw => hw.nilF.perm br1) ?_
  refine JC.loop (fun i => (Nat.ble 3 i && Nat.ble i 6) || Nat.ble 11 i) (fun m g L' => ∃ ws a c h bs ao co ho, g 3 = .slice a (List.length (α := Nat) ws) c ∧ g 4 = .slice ao (List.length (α := UInt8) bs) co ∧ OwT encW 1 100 a c ws h ∧ OwT encB 1 5 ao co bs ho ∧ ((ws = [v] ∧ bs = [] ∧ m = 1) ∨ (ws = [] ∧ bs = decN v ∧ m = 0)) ∧ L' = [h, ho, [(b1, Obj.cells ⟨[.string (S (bytesN v))]⟩ 57 (0, 0))]]) 1 ⟨[v], ax, cx, hgx, [], none, 0, [], rfl, rfl, ox, OwT.nil (fun _ => rfl), .inl ⟨rfl, rfl, rfl⟩, rfl⟩ ?_
  rintro m g L' ⟨ws, a, c, h, bs, ao, co, ho, e3, e4, ow, ob, hcase, rfl⟩
  refine JC.pin 3 e3 ?_
  refine JC.pin 4 e4 ?_
  rcases hcase with ⟨rfl, rfl, rfl⟩ | ⟨rfl, rfl, rfl⟩
  ·
    repeat' first
      | (refine J.isJ ?_; first | ((refine J.fc 66 ?_; refine J.callx eShrink rfl rfl (fun w hw => shrink_any ow hok (by show 1 ≤ 1000; omega) 1000000000 (by omega) (by omega) hw) ?_; rintro _ _ ⟨o, h5, rfl, rfl, o5, ok5, ol5, ov5⟩; rw [vm])) | (first | (refine J.o 0 ?_; refine J.ev' hΓ ?_) | refine J.nil ?_ | refine J.kd ?_ | (refine J.o 4 ?_; first | refine J.lT default hΓ ?_ | refine J.lR hΓ ?_) | (refine J.o 3 ?_; first | refine J.iJ hΓ ?_ | refine J.ev' hΓ ?_) | (refine J.o 1 ?_; first | refine J.ad ?_ | refine J.sb ?_) | (refine J.o 6 ?_; refine J.bx (fun _ => ?_)) | (refine J.o 7 ?_; refine J.al hΓ (fun _ => ?_)) | (refine J.o 9 ?_; refine J.bl hΓ (fun _ => ?_)) | (refine J.o 10 ?_; refine J.ev' hΓ ?_) | (refine J.o 11 ?_; refine J.ev' hΓ ?_)) | ((fail_if_success refine J.wt ?_); refine J.gc rfl rfl (fun hc => ?_) (fun hc => ?_) <;> ((try simp only [decide_eq_true_eq, decide_eq_false_iff_not, beq_iff_eq, beq_eq_false_iff_ne, bne_iff_ne, bne_eq_false_iff_eq, Bool.not_eq_true', Bool.not_eq_false', Bool.not_eq_true, Bool.not_eq_false] at hc) <;> first | (first | (exact absurd rfl hc) | (exfalso; omega) | (exact absurd (hc.symm.trans (by assumption : _ = false)) (by decide)) | (exact absurd (hc.symm.trans (by assumption : _ = true)) (by decide))) | skip)))
      | (first | refine JC.seq ?_ | refine JC.region ?_ | refine JC.block ?_ | refine JC.ret ?_ | refine JC.exit ?_ | refine JC.skip ?_ | refine thenK.nn ?_ | refine thenK.x ?_ | refine blockK.nn ?_ | refine blockK.hit rfl ?_ | refine JC.condT rfl ?_ | refine JC.condF rfl ?_ | (refine JC.cond rfl (fun hc => ?_) (fun hc => ?_) <;> ((try simp only [decide_eq_true_eq, decide_eq_false_iff_not, beq_iff_eq, beq_eq_false_iff_ne, bne_iff_ne, bne_eq_false_iff_eq, Bool.not_eq_true', Bool.not_eq_false', Bool.not_eq_true, Bool.not_eq_false] at hc) <;> first | (first | (exact absurd rfl hc) | (exfalso; omega) | (exact absurd (hc.symm.trans (by assumption : _ = false)) (by decide)) | (exact absurd (hc.symm.trans (by assumption : _ = true)) (by decide))) | skip)) | refine loopK.x ?_)
      | (fail)
      | fail
    all_goals first | (exfalso; omega) | skip
    obtain rfl := one_zero ol5 (ov5.trans vd)
    have o0 : OwT encW 1 100 a c [] h5 := OwT.take o5 0
    refine JC.loop (fun i => i == 3 || Nat.ble 16 i) (fun m g L' => ((m = 1 ∧ g 3 = .slice a 1 c) ∨ (m = 0 ∧ g 3 = .slice a 0 c)) ∧ L' = [h5, ho, [(b1, Obj.cells ⟨[.string (S (bytesN v))]⟩ 57 (0, 0))]]) 1 ⟨.inl ⟨rfl, rfl⟩, rfl⟩ ?_
    rintro m2 g2 L' ⟨hcase, rfl⟩
    rcases hcase with ⟨rfl, e3b⟩ | ⟨rfl, e3b⟩
    · refine JC.pin 3 e3b ?_
      repeat' first
        | (refine J.isJ ?_; first | (first | (refine J.o 3 ?_; refine J.iJ hΓ ?_ (hs := o5.sl)) | (refine J.o 4 ?_; refine J.lT (0 : Nat) hΓ ?_ (hs := o5.sl) (hr := RdH.hd)) | (refine J.o 13 ?_; refine J.slF (m := 0) hΓ ?_)) | (first | (refine J.o 0 ?_; refine J.ev' hΓ ?_) | refine J.nil ?_ | refine J.kd ?_ | (refine J.o 4 ?_; first | refine J.lT default hΓ ?_ | refine J.lR hΓ ?_) | (refine J.o 3 ?_; first | refine J.iJ hΓ ?_ | refine J.ev' hΓ ?_) | (refine J.o 1 ?_; first | refine J.ad ?_ | refine J.sb ?_) | (refine J.o 6 ?_; refine J.bx (fun _ => ?_)) | (refine J.o 7 ?_; refine J.al hΓ (fun _ => ?_)) | (refine J.o 9 ?_; refine J.bl hΓ (fun _ => ?_)) | (refine J.o 10 ?_; refine J.ev' hΓ ?_) | (refine J.o 11 ?_; refine J.ev' hΓ ?_)) | ((fail_if_success refine J.wt ?_); refine J.gc rfl rfl (fun hc => ?_) (fun hc => ?_) <;> ((try simp only [decide_eq_true_eq, decide_eq_false_iff_not, beq_iff_eq, beq_eq_false_iff_ne, bne_iff_ne, bne_eq_false_iff_eq, Bool.not_eq_true', Bool.not_eq_false', Bool.not_eq_true, Bool.not_eq_false] at hc) <;> first | (first | (exact absurd rfl hc) | (exfalso; omega) | (exact absurd (hc.symm.trans (by assumption : _ = false)) (by decide)) | (exact absurd (hc.symm.trans (by assumption : _ = true)) (by decide))) | skip)))
        | (first | refine JC.seq ?_ | refine JC.region ?_ | refine JC.block ?_ | refine JC.ret ?_ | refine JC.exit ?_ | refine JC.skip ?_ | refine thenK.nn ?_ | refine thenK.x ?_ | refine blockK.nn ?_ | refine blockK.hit rfl ?_ | refine JC.condT rfl ?_ | refine JC.condF rfl ?_ | (refine JC.cond rfl (fun hc => ?_) (fun hc => ?_) <;> ((try simp only [decide_eq_true_eq, decide_eq_false_iff_not, beq_iff_eq, beq_eq_false_iff_ne, bne_iff_ne, bne_eq_false_iff_eq, Bool.not_eq_true', Bool.not_eq_false', Bool.not_eq_true, Bool.not_eq_false] at hc) <;> first | (first | (exact absurd rfl hc) | (exfalso; omega) | (exact absurd (hc.symm.trans (by assumption : _ = false)) (by decide)) | (exact absurd (hc.symm.trans (by assumption : _ = true)) (by decide))) | skip)) | refine loopK.x ?_)
        | (fail)
        | fail
      all_goals first | (exfalso; omega) | skip
      all_goals first | (exact absurd rfl hc) | skip
      refine loopK.nn 0 (by omega) (by repeat (first | refine Ag.upd rfl ?_ | exact Ag.hv)) ⟨.inr ⟨rfl, rfl⟩, rfl⟩
    refine JC.pin 3 e3b ?_
    repeat' first
      | (refine J.isJ ?_; first | (fail) | (first | (refine J.o 0 ?_; refine J.ev' hΓ ?_) | refine J.nil ?_ | refine J.kd ?_ | (refine J.o 4 ?_; first | refine J.lT default hΓ ?_ | refine J.lR hΓ ?_) | (refine J.o 3 ?_; first | refine J.iJ hΓ ?_ | refine J.ev' hΓ ?_) | (refine J.o 1 ?_; first | refine J.ad ?_ | refine J.sb ?_) | (refine J.o 6 ?_; refine J.bx (fun _ => ?_)) | (refine J.o 7 ?_; refine J.al hΓ (fun _ => ?_)) | (refine J.o 9 ?_; refine J.bl hΓ (fun _ => ?_)) | (refine J.o 10 ?_; refine J.ev' hΓ ?_) | (refine J.o 11 ?_; refine J.ev' hΓ ?_)) | ((fail_if_success refine J.wt ?_); refine J.gc rfl rfl (fun hc => ?_) (fun hc => ?_) <;> ((try simp only [decide_eq_true_eq, decide_eq_false_iff_not, beq_iff_eq, beq_eq_false_iff_ne, bne_iff_ne, bne_eq_false_iff_eq, Bool.not_eq_true', Bool.not_eq_false', Bool.not_eq_true, Bool.not_eq_false] at hc) <;> first | (first | (exact absurd rfl hc) | (exfalso; omega) | (exact absurd (hc.symm.trans (by assumption : _ = false)) (by decide)) | (exact absurd (hc.symm.trans (by assumption : _ = true)) (by decide))) | skip)))
      | (first | refine JC.seq ?_ | refine JC.region ?_ | refine JC.block ?_ | refine JC.ret ?_ | refine JC.exit ?_ | refine JC.skip ?_ | refine thenK.nn ?_ | refine thenK.x ?_ | refine blockK.nn ?_ | refine blockK.hit rfl ?_ | refine JC.condT rfl ?_ | refine JC.condF rfl ?_ | (refine JC.cond rfl (fun hc => ?_) (fun hc => ?_) <;> ((try simp only [decide_eq_true_eq, decide_eq_false_iff_not, beq_iff_eq, beq_eq_false_iff_ne, bne_iff_ne, bne_eq_false_iff_eq, Bool.not_eq_true', Bool.not_eq_false', Bool.not_eq_true, Bool.not_eq_false] at hc) <;> first | (first | (exact absurd rfl hc) | (exfalso; omega) | (exact absurd (hc.symm.trans (by assumption : _ = false)) (by decide)) | (exact absurd (hc.symm.trans (by assumption : _ = true)) (by decide))) | skip)) | refine loopK.x ?_)
      | (fail)
      | fail
    all_goals first | (exfalso; omega) | skip
    refine JC.loop (fun i => (Nat.ble 4 i && Nat.ble i 6) || Nat.ble 33 i) (fun m g L' => ∃ k p bs ao co ho, g 6 = .int .i64 ((k : Nat) : Int) ∧ g 5 = .int .u32 ((p : Nat) : Int) ∧ g 4 = .slice ao (List.length (α := UInt8) bs) co ∧ OwT encB 1 5 ao co bs ho ∧ decN v = bs ++ decN p ∧ p < 10 ^ (9 - k) ∧ k ≤ 9 ∧ m = p ∧ bs.length ≤ 9 ∧ L' = [h5, ho, [(b1, Obj.cells ⟨[.string (S (bytesN v))]⟩ 57 (0, 0))]]) v ⟨0, v, [], ao, co, ho, rfl, rfl, rfl, ob, rfl, by show v < 1000000000; exact hv, by omega, rfl, by show 0 ≤ 9; omega, rfl⟩ ?_
    rintro m3 g3 L' ⟨k, p, bs, ao2, co2, ho2, e6, e5, e4b, ob2, hdec, hp, hk, rfl, hbl9, rfl⟩
    refine JC.pin 6 e6 ?_
    refine JC.pin 5 e5 ?_
    refine JC.pin 4 e4b ?_
    rcases Nat.eq_zero_or_pos m3 with hz | hpos
    · subst hz
      rw [decN_0, List.append_nil] at hdec
      subst hdec
      repeat' first
        | (refine J.isJ ?_; first | (fail) | (first | (refine J.o 0 ?_; refine J.ev' hΓ ?_) | refine J.nil ?_ | refine J.kd ?_ | (refine J.o 4 ?_; first | refine J.lT default hΓ ?_ | refine J.lR hΓ ?_) | (refine J.o 3 ?_; first | refine J.iJ hΓ ?_ | refine J.ev' hΓ ?_) | (refine J.o 1 ?_; first | refine J.ad ?_ | refine J.sb ?_) | (refine J.o 6 ?_; refine J.bx (fun _ => ?_)) | (refine J.o 7 ?_; refine J.al hΓ (fun _ => ?_)) | (refine J.o 9 ?_; refine J.bl hΓ (fun _ => ?_)) | (refine J.o 10 ?_; refine J.ev' hΓ ?_) | (refine J.o 11 ?_; refine J.ev' hΓ ?_)) | ((fail_if_success refine J.wt ?_); refine J.gc rfl rfl (fun hc => ?_) (fun hc => ?_) <;> ((try simp only [decide_eq_true_eq, decide_eq_false_iff_not, beq_iff_eq, beq_eq_false_iff_ne, bne_iff_ne, bne_eq_false_iff_eq, Bool.not_eq_true', Bool.not_eq_false', Bool.not_eq_true, Bool.not_eq_false] at hc) <;> first | (first | (exact absurd rfl hc) | (exfalso; omega) | (exact absurd (hc.symm.trans (by assumption : _ = false)) (by decide)) | (exact absurd (hc.symm.trans (by assumption : _ = true)) (by decide))) | skip)))
        | (first | refine JC.seq ?_ | refine JC.region ?_ | refine JC.block ?_ | refine JC.ret ?_ | refine JC.exit ?_ | refine JC.skip ?_ | refine thenK.nn ?_ | refine thenK.x ?_ | refine blockK.nn ?_ | refine blockK.hit rfl ?_ | refine JC.condT rfl ?_ | refine JC.condF rfl ?_ | (refine JC.cond rfl (fun hc => ?_) (fun hc => ?_) <;> ((try simp only [decide_eq_true_eq, decide_eq_false_iff_not, beq_iff_eq, beq_eq_false_iff_ne, bne_iff_ne, bne_eq_false_iff_eq, Bool.not_eq_true', Bool.not_eq_false', Bool.not_eq_true, Bool.not_eq_false] at hc) <;> first | (first | (exact absurd rfl hc) | (exfalso; omega) | (exact absurd (hc.symm.trans (by assumption : _ = false)) (by decide)) | (exact absurd (hc.symm.trans (by assumption : _ = true)) (by decide))) | skip)) | refine loopK.x ?_)
        | (fail)
        | fail
      all_goals first | (exfalso; omega) | skip
      all_goals (refine loopK.nn 0 (by omega) (by repeat (first | refine Ag.upd rfl ?_ | exact Ag.hv | refine Ag.hv2 (fun i hi => by simp at hi ⊢; omega) ?_)) ⟨[], a, c, h5, _, ao2, co2, ho2, rfl, rfl, o0, ob2, .inr ⟨rfl, rfl, rfl⟩, rfl⟩)
    · have hk9 : k < 9 := by
        rcases Nat.lt_or_ge k 9 with h | h
        · exact h
        · rw [show 9 - k = 0 by omega] at hp; omega
      have hst := decN_pos hpos
      have hp2 : m3 < 10 ^ (9 - (k + 1)) * 10 := by rw [← Nat.pow_succ, show (9 - (k + 1)).succ = 9 - k by omega]; exact hp
      have hln : (bs ++ [UInt8.ofNat (48 + m3 % 10)]).length = bs.length + 1 := by simp
      have hdl : bs.length + (decN m3).length = (decN v).length := by rw [hdec, List.length_append]
      rw [hst, List.length_cons] at hdl
      have hmb : m3 < 4294967296 := by
        have : 10 ^ (9 - k) ≤ 10 ^ 9 := Nat.pow_le_pow_right (by omega) (by omega)
        omega
      repeat' first
        | (refine J.isJ ?_; first | (first | (refine J.o 1 ?_; first | refine J.grem (b := 10) ?_ | refine J.gadd (a := 48) ?_ (hw := wU32 (by omega)) | refine J.gquo (b := 10) ?_ (hw := wU32 (by omega))) | (refine J.o 2 ?_; refine J.gcv hΓ ?_ (hk := dec_u8 m3)) | ((refine J.o 9 ?_; first | (first | (refine J.ap1 (enc := encB) [dig m3] hΓ (fun a6 c6 h6 o6 => ?_)) | (refine J.perm (br1.cons _) ?_; refine J.ap1 (enc := encB) [dig m3] hΓ (fun a6 c6 h6 o6 => ?_)) | (refine J.perm (br2.cons _) ?_; refine J.ap1 (enc := encB) [dig m3] hΓ (fun a6 c6 h6 o6 => ?_)) | (refine J.perm (br3.cons _) ?_; refine J.ap1 (enc := encB) [dig m3] hΓ (fun a6 c6 h6 o6 => ?_)) | (refine J.perm (br4.cons _) ?_; refine J.ap1 (enc := encB) [dig m3] hΓ (fun a6 c6 h6 o6 => ?_)) | (refine J.perm (br5.cons _) ?_; refine J.ap1 (enc := encB) [dig m3] hΓ (fun a6 c6 h6 o6 => ?_))) | (refine J.perm br1 ?_; first | (refine J.ap1 (enc := encB) [dig m3] hΓ (fun a6 c6 h6 o6 => ?_)) | (refine J.perm (br1.cons _) ?_; refine J.ap1 (enc := encB) [dig m3] hΓ (fun a6 c6 h6 o6 => ?_)) | (refine J.perm (br2.cons _) ?_; refine J.ap1 (enc := encB) [dig m3] hΓ (fun a6 c6 h6 o6 => ?_)) | (refine J.perm (br3.cons _) ?_; refine J.ap1 (enc := encB) [dig m3] hΓ (fun a6 c6 h6 o6 => ?_)) | (refine J.perm (br4.cons _) ?_; refine J.ap1 (enc := encB) [dig m3] hΓ (fun a6 c6 h6 o6 => ?_)) | (refine J.perm (br5.cons _) ?_; refine J.ap1 (enc := encB) [dig m3] hΓ (fun a6 c6 h6 o6 => ?_))) | (refine J.perm br2 ?_; first | (refine J.ap1 (enc := encB) [dig m3] hΓ (fun a6 c6 h6 o6 => ?_)) | (refine J.perm (br1.cons _) ?_; refine J.ap1 (enc := encB) [dig m3] hΓ (fun a6 c6 h6 o6 => ?_)) | (refine J.perm (br2.cons _) ?_; refine J.ap1 (enc := encB) [dig m3] hΓ (fun a6 c6 h6 o6 => ?_)) | (refine J.perm (br3.cons _) ?_; refine J.ap1 (enc := encB) [dig m3] hΓ (fun a6 c6 h6 o6 => ?_)) | (refine J.perm (br4.cons _) ?_; refine J.ap1 (enc := encB) [dig m3] hΓ (fun a6 c6 h6 o6 => ?_)) | (refine J.perm (br5.cons _) ?_; refine J.ap1 (enc := encB) [dig m3] hΓ (fun a6 c6 h6 o6 => ?_)))))) | (first | (refine J.o 0 ?_; refine J.ev' hΓ ?_) | refine J.nil ?_ | refine J.kd ?_ | (refine J.o 4 ?_; first | refine J.lT default hΓ ?_ | refine J.lR hΓ ?_) | (refine J.o 3 ?_; first | refine J.iJ hΓ ?_ | refine J.ev' hΓ ?_) | (refine J.o 1 ?_; first | refine J.ad ?_ | refine J.sb ?_) | (refine J.o 6 ?_; refine J.bx (fun _ => ?_)) | (refine J.o 7 ?_; refine J.al hΓ (fun _ => ?_)) | (refine J.o 9 ?_; refine J.bl hΓ (fun _ => ?_)) | (refine J.o 10 ?_; refine J.ev' hΓ ?_) | (refine J.o 11 ?_; refine J.ev' hΓ ?_)) | ((fail_if_success refine J.wt ?_); refine J.gc rfl rfl (fun hc => ?_) (fun hc => ?_) <;> ((try simp only [decide_eq_true_eq, decide_eq_false_iff_not, beq_iff_eq, beq_eq_false_iff_ne, bne_iff_ne, bne_eq_false_iff_eq, Bool.not_eq_true', Bool.not_eq_false', Bool.not_eq_true, Bool.not_eq_false] at hc) <;> first | (first | (exact absurd rfl hc) | (exfalso; omega) | (exact absurd (hc.symm.trans (by assumption : _ = false)) (by decide)) | (exact absurd (hc.symm.trans (by assumption : _ = true)) (by decide))) | skip)))
        | (first | refine JC.seq ?_ | refine JC.region ?_ | refine JC.block ?_ | refine JC.ret ?_ | refine JC.exit ?_ | refine JC.skip ?_ | refine thenK.nn ?_ | refine thenK.x ?_ | refine blockK.nn ?_ | refine blockK.hit rfl ?_ | refine JC.condT rfl ?_ | refine JC.condF rfl ?_ | (refine JC.cond rfl (fun hc => ?_) (fun hc => ?_) <;> ((try simp only [decide_eq_true_eq, decide_eq_false_iff_not, beq_iff_eq, beq_eq_false_iff_ne, bne_iff_ne, bne_eq_false_iff_eq, Bool.not_eq_true', Bool.not_eq_false', Bool.not_eq_true, Bool.not_eq_false] at hc) <;> first | (first | (exact absurd rfl hc) | (exfalso; omega) | (exact absurd (hc.symm.trans (by assumption : _ = false)) (by decide)) | (exact absurd (hc.symm.trans (by assumption : _ = true)) (by decide))) | skip)) | refine loopK.x ?_)
        | (fail)
        | fail
      all_goals first | (exfalso; omega) | skip
      have hln2 : (bs ++ [dig m3]).length = bs.length + 1 := hln
      all_goals (refine loopK.np (m3 / 10) [] _ (by omega) (by repeat (first | refine Ag.upd rfl ?_ | exact Ag.hv)) br1 ⟨k + 1, m3 / 10, bs ++ [dig m3], a6, c6, h6, ?_, rfl, rfl, o6, ?_, by omega, by omega, rfl, by omega, rfl⟩)
      · show Value.int .i64 _ = _; congr 1
      · rw [hdec, hst, List.append_assoc]; rfl
  ·
    have hpos : 0 < (decN v).length := by rw [decN_pos h0, List.length_cons]; omega
    repeat' first
      | (refine J.isJ ?_; first | ((refine J.o 7 ?_; refine J.al hΓ (fun b7 => ?_))) | (first | (refine J.o 0 ?_; refine J.ev' hΓ ?_) | refine J.nil ?_ | refine J.kd ?_ | (refine J.o 4 ?_; first | refine J.lT default hΓ ?_ | refine J.lR hΓ ?_) | (refine J.o 3 ?_; first | refine J.iJ hΓ ?_ | refine J.ev' hΓ ?_) | (refine J.o 1 ?_; first | refine J.ad ?_ | refine J.sb ?_) | (refine J.o 6 ?_; refine J.bx (fun _ => ?_)) | (refine J.o 7 ?_; refine J.al hΓ (fun _ => ?_)) | (refine J.o 9 ?_; refine J.bl hΓ (fun _ => ?_)) | (refine J.o 10 ?_; refine J.ev' hΓ ?_) | (refine J.o 11 ?_; refine J.ev' hΓ ?_)) | ((fail_if_success refine J.wt ?_); refine J.gc rfl rfl (fun hc => ?_) (fun hc => ?_) <;> ((try simp only [decide_eq_true_eq, decide_eq_false_iff_not, beq_iff_eq, beq_eq_false_iff_ne, bne_iff_ne, bne_eq_false_iff_eq, Bool.not_eq_true', Bool.not_eq_false', Bool.not_eq_true, Bool.not_eq_false] at hc) <;> first | (first | (exact absurd rfl hc) | (exfalso; omega) | (exact absurd (hc.symm.trans (by assumption : _ = false)) (by decide)) | (exact absurd (hc.symm.trans (by assumption : _ = true)) (by decide))) | skip)))
      | (first | refine JC.seq ?_ | refine JC.region ?_ | refine JC.block ?_ | refine JC.ret ?_ | refine JC.exit ?_ | refine JC.skip ?_ | refine thenK.nn ?_ | refine thenK.x ?_ | refine blockK.nn ?_ | refine blockK.hit rfl ?_ | refine JC.condT rfl ?_ | refine JC.condF rfl ?_ | (refine JC.cond rfl (fun hc => ?_) (fun hc => ?_) <;> ((try simp only [decide_eq_true_eq, decide_eq_false_iff_not, beq_iff_eq, beq_eq_false_iff_ne, bne_iff_ne, bne_eq_false_iff_eq, Bool.not_eq_true', Bool.not_eq_false', Bool.not_eq_true, Bool.not_eq_false] at hc) <;> first | (first | (exact absurd rfl hc) | (exfalso; omega) | (exact absurd (hc.symm.trans (by assumption : _ = false)) (by decide)) | (exact absurd (hc.symm.trans (by assumption : _ = true)) (by decide))) | skip)) | refine loopK.x ?_)
      | (fail)
      | fail
    all_goals first | (exfalso; omega) | skip
    refine JC.weak (L' := [[(b7, bldO none (.slice none ([] : List UInt8).length 0))], [], h, ho, [(b1, Obj.cells ⟨[.string (S (bytesN v))]⟩ 57 (0, 0))]]) (fun w hw => hw.nilF.perm br1) ?_
    refine JC.loop (fun i => i == 8 || Nat.ble 58 i) (fun m g L' => ∃ p a' c' hb, g 8 = .int .i64 ((m : Int) - 1) ∧ m ≤ (decN v).length ∧ (p = none ∨ p = some ⟨b7, 0, none⟩) ∧ OwT encB 1 5 a' c' (((decN v).drop m).reverse) hb ∧ c' ≤ maxLen ∧ L' = [[(b7, bldO p (.slice a' (((decN v).drop m).reverse).length c'))], hb, h, ho, [(b1, Obj.cells ⟨[.string (S (bytesN v))]⟩ 57 (0, 0))]]) (decN v).length ⟨none, none, 0, [], rfl, Nat.le_refl _, .inl rfl, by rw [List.drop_of_length_le (Nat.le_refl _)]; exact OwT.nil (fun _ => rfl), Nat.zero_le _, by rw [List.drop_of_length_le (Nat.le_refl _)]; rfl⟩ ?_
    rintro m g9 L' ⟨p, a7, c7, hb, e8, hm, hp, obb, hc7, rfl⟩
    rcases Nat.eq_zero_or_pos m with hz | hpm
    · subst hz
      refine JC.pin 8 e8 ?_
      rw [List.drop_zero] at obb ⊢
      repeat' first
        | (refine J.isJ ?_; first | ((refine J.fc 68 ?_; refine J.callx eBStr rfl rfl (fun w hw => bStr_any hp obb hc7 hw) ?_; rintro _ _ ⟨rfl, rfl⟩)) | (first | (refine J.o 0 ?_; refine J.ev' hΓ ?_) | refine J.nil ?_ | refine J.kd ?_ | (refine J.o 4 ?_; first | refine J.lT default hΓ ?_ | refine J.lR hΓ ?_) | (refine J.o 3 ?_; first | refine J.iJ hΓ ?_ | refine J.ev' hΓ ?_) | (refine J.o 1 ?_; first | refine J.ad ?_ | refine J.sb ?_) | (refine J.o 6 ?_; refine J.bx (fun _ => ?_)) | (refine J.o 7 ?_; refine J.al hΓ (fun _ => ?_)) | (refine J.o 9 ?_; refine J.bl hΓ (fun _ => ?_)) | (refine J.o 10 ?_; refine J.ev' hΓ ?_) | (refine J.o 11 ?_; refine J.ev' hΓ ?_)) | ((fail_if_success refine J.wt ?_); refine J.gc rfl rfl (fun hc => ?_) (fun hc => ?_) <;> ((try simp only [decide_eq_true_eq, decide_eq_false_iff_not, beq_iff_eq, beq_eq_false_iff_ne, bne_iff_ne, bne_eq_false_iff_eq, Bool.not_eq_true', Bool.not_eq_false', Bool.not_eq_true, Bool.not_eq_false] at hc) <;> first | (first | (exact absurd rfl hc) | (exfalso; omega) | (exact absurd (hc.symm.trans (by assumption : _ = false)) (by decide)) | (exact absurd (hc.symm.trans (by assumption : _ = true)) (by decide))) | skip)))
        | (first | refine JC.seq ?_ | refine JC.region ?_ | refine JC.block ?_ | refine JC.ret ?_ | refine JC.exit ?_ | refine JC.skip ?_ | refine thenK.nn ?_ | refine thenK.x ?_ | refine blockK.nn ?_ | refine blockK.hit rfl ?_ | refine JC.condT rfl ?_ | refine JC.condF rfl ?_ | (refine JC.cond rfl (fun hc => ?_) (fun hc => ?_) <;> ((try simp only [decide_eq_true_eq, decide_eq_false_iff_not, beq_iff_eq, beq_eq_false_iff_ne, bne_iff_ne, bne_eq_false_iff_eq, Bool.not_eq_true', Bool.not_eq_false', Bool.not_eq_true, Bool.not_eq_false] at hc) <;> first | (first | (exact absurd rfl hc) | (exfalso; omega) | (exact absurd (hc.symm.trans (by assumption : _ = false)) (by decide)) | (exact absurd (hc.symm.trans (by assumption : _ = true)) (by decide))) | skip)) | refine loopK.x ?_)
        | (fail)
        | fail
      all_goals first | (exfalso; omega) | skip
      all_goals (refine ret1f rfl rfl rfl (fun w1 hw => ⟨rfl, hw.below⟩))
    · obtain ⟨i, rfl⟩ : ∃ i, m = i + 1 := ⟨m - 1, by omega⟩
      have e8' : g9 8 = .int .i64 ((i : Nat) : Int) := by rw [e8]; congr 1; omega
      refine JC.pin 8 e8' ?_
      have hdr : (decN v).drop i = (decN v).getD i default :: (decN v).drop (i + 1) := by
        rw [List.drop_eq_getElem_cons (by omega), List.getD_eq_getElem?_getD, List.getElem?_eq_getElem (by omega)]; rfl
      have hrl : (((decN v).drop (i + 1)).reverse).length + 1 ≤ 140737488355328 := by rw [List.length_reverse, List.length_drop]; omega
      repeat' first
        | (refine J.isJ ?_; first | (first | (refine J.o 3 ?_; refine J.iJ hΓ ?_ (hs := ob.sl)) | (refine J.o 4 ?_; refine J.lT default hΓ ?_ (hs := ob.sl) (hr := RdH.hd.tl.tl.tl)) | (refine J.fc 67 ?_; refine J.callx eWBy rfl rfl (fun w hw => wBy_any ((decN v).getD i default) hp obb hc7 hrl hw) ?_; rintro _ _ ⟨a9, c9, h9, rfl, o9, hc9⟩)) | (first | (refine J.o 0 ?_; refine J.ev' hΓ ?_) | refine J.nil ?_ | refine J.kd ?_ | (refine J.o 4 ?_; first | refine J.lT default hΓ ?_ | refine J.lR hΓ ?_) | (refine J.o 3 ?_; first | refine J.iJ hΓ ?_ | refine J.ev' hΓ ?_) | (refine J.o 1 ?_; first | refine J.ad ?_ | refine J.sb ?_) | (refine J.o 6 ?_; refine J.bx (fun _ => ?_)) | (refine J.o 7 ?_; refine J.al hΓ (fun _ => ?_)) | (refine J.o 9 ?_; refine J.bl hΓ (fun _ => ?_)) | (refine J.o 10 ?_; refine J.ev' hΓ ?_) | (refine J.o 11 ?_; refine J.ev' hΓ ?_)) | ((fail_if_success refine J.wt ?_); refine J.gc rfl rfl (fun hc => ?_) (fun hc => ?_) <;> ((try simp only [decide_eq_true_eq, decide_eq_false_iff_not, beq_iff_eq, beq_eq_false_iff_ne, bne_iff_ne, bne_eq_false_iff_eq, Bool.not_eq_true', Bool.not_eq_false', Bool.not_eq_true, Bool.not_eq_false] at hc) <;> first | (first | (exact absurd rfl hc) | (exfalso; omega) | (exact absurd (hc.symm.trans (by assumption : _ = false)) (by decide)) | (exact absurd (hc.symm.trans (by assumption : _ = true)) (by decide))) | skip)))
        | (first | refine JC.seq ?_ | refine JC.region ?_ | refine JC.block ?_ | refine JC.ret ?_ | refine JC.exit ?_ | refine JC.skip ?_ | refine thenK.nn ?_ | refine thenK.x ?_ | refine blockK.nn ?_ | refine blockK.hit rfl ?_ | refine JC.condT rfl ?_ | refine JC.condF rfl ?_ | (refine JC.cond rfl (fun hc => ?_) (fun hc => ?_) <;> ((try simp only [decide_eq_true_eq, decide_eq_false_iff_not, beq_iff_eq, beq_eq_false_iff_ne, bne_iff_ne, bne_eq_false_iff_eq, Bool.not_eq_true', Bool.not_eq_false', Bool.not_eq_true, Bool.not_eq_false] at hc) <;> first | (first | (exact absurd rfl hc) | (exfalso; omega) | (exact absurd (hc.symm.trans (by assumption : _ = false)) (by decide)) | (exact absurd (hc.symm.trans (by assumption : _ = true)) (by decide))) | skip)) | refine loopK.x ?_)
        | (fail)
        | fail
      all_goals first | (exfalso; omega) | skip
      have hrv : ((decN v).drop (i + 1)).reverse ++ [(decN v).getD i default] = ((decN v).drop i).reverse := by rw [hdr, List.reverse_cons]
      rw [hrv] at o9 ⊢
      refine loopK.nn i (by omega) (by repeat (first | refine Ag.upd rfl ?_ | exact Ag.hv)) ⟨some ⟨b7, 0, none⟩, a9, c9, h9, rfl, by omega, .inr rfl, o9, hc9, rfl⟩
end Go.Proofs.YthnhijdfcmcnhaaGreat
