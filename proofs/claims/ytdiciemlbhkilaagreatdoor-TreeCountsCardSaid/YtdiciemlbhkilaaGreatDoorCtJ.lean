/- TreeCounts: part 10. -/
import Derived.Test.YtdiciemlbhkilaaGreatDoorCtI
import Derived.Laws.IdiomCopy
import Derived.Laws.CopyRow
namespace Go.Proofs.YtdiciemlbhkilaaGreatDoor
open Go Go.Cx Go.RowKit
set_option linter.unusedVariables false
set_option linter.unusedSimpArgs false
set_option maxHeartbeats 4000000
attribute [local irreducible] J JC thenK blockK loopK roundK drawK retK QW Qt pel List.set Calls
set_option maxRecDepth 8000
attribute [local irreducible] JE Br eK0 eK3 brK
section
variable {P : Program} {n : Nat} {w0 : World} {R : Heap} {l0 : List Oper} {K : Exit → Fr → List Heap → Prop} {f : Fr} {L : List Heap} {rest : List (Nat × Oper)} {κ : Nat} {Γ : List (Nat × Go.Cx.TI)}
variable {d : Nat} {ty : TypeId} {pos : String} {aft : Array Edge} {g : Option (Nat × Bool)} {t u : TypeId} {x y : Operand}
theorem ones_W : ∀ l : List Nat, ones (l.flatMap encW) = true
  | [] => rfl
  | x :: l => by rw [List.flatMap_cons]; show ones (Value.int .u32 (x : Int) :: l.flatMap encW) = true; unfold ones; exact ones_W l
theorem J.cpy {a b : Option Addr} {cap cy e e2 m k s1 b1 b2 : Nat} {z1 z2 : Option Value} {de : TypeDesc} {ts us : List Nat} {h hs : Heap} (hΓ : Fits P Γ) (ho : OwT encW 1 e a cap ts h) (oy : OwT encW 1 e2 b cy us hs) (hr : RdH R L hs) (hle : us.length ≤ ts.length)
    (kk : ∀ h', OwT encW 1 e a cap (us ++ ts.drop us.length) h' → J P n w0 R l0 K rest (upd f d (.int .i64 (us.length : Int))) (h' :: L))
    (hg : wantB n f l0 ⟨some d, .call ⟨.builtin .copy, ⟨[x, y]⟩, ⟨[t, u]⟩⟩, ty, pos, aft, g⟩ = true := by exact rfl) (hx : Cx.ev n f x = .slice a m cap := by exact rfl) (hy : Cx.ev n f y = .slice b k cy := by exact rfl)
    (hm : ts.length = m := by omega) (hk : us.length = k := by first | rfl | omega) (ht : Cx.look Γ t = some ⟨.slice e, s1, z1, b1⟩ := by exact rfl) (he : Cx.look Γ e = some ⟨de, 1, z2, b2⟩ := by exact rfl) :
    J P n w0 R l0 K ((2, ⟨some d, .call ⟨.builtin .copy, ⟨[x, y]⟩, ⟨[t, u]⟩⟩, ty, pos, aft, g⟩) :: rest) f (h :: L) := by
  subst hm hk
  have hu := (hΓ t _ ht).1
  obtain ⟨_, ie, hie, hse, _⟩ := hΓ e _ he
  have hs1 : (P.info? e).map (·.size) = some 1 := by rw [hie]; exact congrArg some hse
  have h2 : (⟨[x, y]⟩ : Array Operand).map (Cx.ev n f) = #[.slice a ts.length cap, .slice b us.length cy] := by simp [hx, hy]
  refine J.v (Φ := fun v L' => ∃ h', v = .int .i64 (us.length : Int) ∧ L' = h' :: L ∧ OwT encW 1 e a cap (us ++ ts.drop us.length) h') hg (fun w hw => ?_) (fun v L' ⟨h', e1, e2, e3⟩ => by subst e1; subst e2; exact kk h' e3)
  rcases Nat.eq_zero_or_pos us.length with h0 | hpos
  · have hun : us = [] := List.eq_nil_of_length_eq_zero h0
    have hrun := run_copy_none (P := P) w t u ty e a b ts.length cap us.length cy hu hs1 (by rw [h0]; exact Nat.zero_min _)
    refine ⟨.int .i64 (us.length : Int), _, w, ?_, hw, h, rfl, rfl, by subst hun; exact ho⟩
    simp only [execOp, resolve, h2, Sem.run_bind, Sem.run_pure, Result.andThen_ok, invoke, builtin]
    rw [hrun, h0]
    rfl
  · rcases oy.row with ⟨_, _, hun, _⟩ | ⟨gb, cs, rfl, rfl, hc1, hc2, hc3⟩
    · subst hun; simp at hpos
    rcases ho.row with ⟨_, _, htn, _⟩ | ⟨ga, ds, rfl, rfl, hd1, hd2, hd3⟩
    · subst htn; exact absurd (Nat.lt_of_lt_of_le hpos hle) (by simp)
    rw [Nat.mul_one] at hc1 hc3 hd1 hd3
    have hga : w.heap[ga]? = some (.cells ds.toArray e (0, 0)) := hw.own (ga, _) (by simp)
    have hgb : w.heap[gb]? = some (.cells cs.toArray e2 (0, 0)) := hw.rd ((hr (gb, _) (by simp)).tl)
    have hadd : ∀ j, (⟨gb, 0, none⟩ : Addr).add j = ⟨gb, j, none⟩ := fun j => by unfold Addr.add; split <;> simp_all
    have hlu := flatW us
    have hlt := flatW ts
    have hrun := run_copy_row (P := P) w t u ty e ga 0 ts.length cap ⟨gb, 0, none⟩ us.length cy ds.toArray e (us.flatMap encW) hu hs1 hga (by rw [hlu]; exact (Nat.min_eq_left hle).symm)
      (fun j v hj => by
        rw [hadd, cell_of_row w gb j cs.toArray e2 (0, 0) hgb]
        rw [← hc3, List.getElem?_take] at hj
        split at hj
        · simpa using hj
        · cases hj) (by rw [hlu]; simp only [List.size_toArray, Nat.zero_add]; omega) (ones_ok (ones_W us))
    have hw2 := hw.write (w' := w.setRow ga (ds.toArray.toList.take 0 ++ us.flatMap encW ++ ds.toArray.toList.drop (0 + (us.flatMap encW).length)).toArray) rfl rfl rfl (by simp) (setRow_heap w ga _ _ e _ hga) (fun k hk => setRow_other _ _ _ _ hk)
    refine ⟨.int .i64 (us.length : Int), _, _, ?_, hw2, _, rfl, rfl, ⟨ho.len, .inr ⟨ga, _, rfl, rfl, ?_, ?_, ?_⟩⟩⟩
    · simp only [execOp, resolve, h2, Sem.run_bind, Sem.run_pure, Result.andThen_ok, invoke, builtin]
      rw [hrun, hlu]
      rfl
    · simp only [List.take_zero, List.nil_append, Nat.zero_add, List.length_append, List.length_drop, hlu, Nat.mul_one]
      omega
    · rw [List.length_append, List.length_drop]; omega
    · have e1 : (us ++ ts.drop us.length).length = ts.length := by rw [List.length_append, List.length_drop]; omega
      rw [e1, Nat.mul_one, List.flatMap_append]
      simp only [List.take_zero, List.nil_append, Nat.zero_add, hlu]
      have e2 : ds.take ts.length = ts.flatMap encW := hd3
      have e3 : (ts.flatMap encW).drop us.length = (ts.drop us.length).flatMap encW := by
        conv => lhs; rw [← List.take_append_drop us.length ts, List.flatMap_append]
        rw [List.drop_append_of_le_length (by rw [flatW, List.length_take]; omega), List.drop_of_length_le (by rw [flatW, List.length_take]; omega)]; rfl
      rw [← e3, ← e2, List.take_append, hlu, List.take_of_length_le (by rw [hlu]; exact hle), List.drop_take]
end
theorem eNatAdd : Entr Tryz.prog 110 := Entr.of Tryz.func110 rfl rfl
theorem add_any2 (a b : Nat) (ha : (bytesN a).length ≤ 1000) (hb : (bytesN b).length ≤ 1000) (w : World) : Calls Tryz.prog 110 #[natV a, natV b] w fun e w' => e = .returned (natV (a + b)) ∧ Below w.heap.size w w' := by
  have lx := wordsB_len (bytesN a)
  have ly := wordsB_len (bytesN b)
  have kx := okW_wordsB (bytesN a)
  have ky := okW_wordsB (bytesN b)
  have vx := valW_wordsB (bytesN a)
  have vy := valW_wordsB (bytesN b)
  rw [valB_bytesN] at vx vy
  have cX := fun w => words_any a (by omega) w
  have cY := fun w => words_any b (by omega) w
  generalize wordsB (bytesN a) = x at lx kx vx cX
  generalize wordsB (bytesN b) = y at ly ky vy cY
  rcases Nat.lt_or_ge x.length y.length with hxy | hxy
  ·
    have hle : x.length ≤ y.length := by omega
    have hst := AddI.start ky kx hle
    have hdr : (List.replicate (y.length + 1) 0).drop x.length = List.replicate (y.length + 1 - x.length) 0 := List.drop_replicate
    refine calls_of_JC (R := []) Tryz.func110 Tryz.ntmps110 rfl rfl (Holds.nil _) ?_
    unfold natV
    repeat' first
      | (refine J.isJ ?_; first | (first | (refine J.o 6 ?_; first | refine J.bx (fun b2 => ?_)) | (refine J.o 7 ?_; refine J.al hΓ (fun b4 => ?_))) | (first | (refine J.o 0 ?_; refine J.ev' hΓ ?_) | refine J.nil ?_ | (refine J.o 4 ?_; first | refine J.lT default hΓ ?_ | refine J.lR hΓ ?_) | (refine J.o 3 ?_; first | refine J.iJ hΓ ?_ | refine J.ev' hΓ ?_) | (refine J.o 1 ?_; first | refine J.ad ?_) | (refine J.o 5 ?_; first | refine J.t0 hΓ ?_ | refine J.tT _ default hΓ (fun _ _ => ?_)) | (refine J.o 6 ?_; refine J.bx (fun _ => ?_)) | (refine J.o 7 ?_; refine J.al hΓ (fun _ => ?_)) | (refine J.o 10 ?_; refine J.ev' hΓ ?_) | (refine J.o 11 ?_; refine J.ev' hΓ ?_)))
      | (first | refine JC.seq ?_ | refine JC.region ?_ | refine JC.block ?_ | refine JC.ret ?_ | refine JC.exit ?_ | refine JC.skip ?_ | refine thenK.nn ?_ | refine thenK.x ?_ | refine blockK.nn ?_ | refine blockK.hit rfl ?_ | (refine JC.cond rfl (fun hc => ?_) (fun hc => ?_) <;> ((try simp only [decide_eq_true_eq, decide_eq_false_iff_not, beq_iff_eq, beq_eq_false_iff_ne, bne_iff_ne, bne_eq_false_iff_eq, Bool.not_eq_true', Bool.not_eq_false', Bool.not_eq_true, Bool.not_eq_false] at hc) <;> first | (first | (exact absurd rfl hc) | (exfalso; omega) | (exact absurd (hc.symm.trans (by assumption : _ = false)) (by decide)) | (exact absurd (hc.symm.trans (by assumption : _ = true)) (by decide))) | skip)) | refine drawK.nn ?_ | refine loopK.x ?_)
      | (fail)
      | fail
    rename_i b3
    refine JC.drawO [(1,0),(1,2),(3,1),(3,3),(0,4),(0,5)] (by kernel_rfl) (by kernel_rfl) ?_
    repeat' first
      | (refine J.isJ ?_; first | (first | (refine J.o 4 ?_; first | refine J.lR hΓ ?_ (hr := Rd.hd.tl.tl) | refine J.lR hΓ ?_ (hr := Rd.hd.tl)) | (refine J.fc 73 ?_; refine J.call1 eWords rfl rfl (fun w hw => cX w) ?_; rintro _ hgx ⟨ax, cx, rfl, ox⟩) | (refine J.fc 73 ?_; refine J.call1 eWords rfl rfl (fun w hw => cY w) ?_; rintro _ hgy ⟨ay, cy, rfl, oy⟩) | (refine J.o 1 ?_; refine J.gadd (b := 1) ?_ (hw := wI64 (by omega))) | (refine J.o 9 ?_; first | refine J.make (enc := encW) (m := y.length + 1) (0 : Nat) hΓ rfl rfl rfl rfl rfl rfl (fun _ => rfl) (by omega) (by omega) (fun b7 h7 o7 => ?_) | refine J.cpy hΓ o7 ox (RdH.hd.tl) (by rw [List.length_replicate]; omega) (fun h8 o8 => ?_) (hm := List.length_replicate))) | (first | (refine J.o 0 ?_; refine J.ev' hΓ ?_) | refine J.nil ?_ | (refine J.o 4 ?_; first | refine J.lT default hΓ ?_ | refine J.lR hΓ ?_) | (refine J.o 3 ?_; first | refine J.iJ hΓ ?_ | refine J.ev' hΓ ?_) | (refine J.o 1 ?_; first | refine J.ad ?_) | (refine J.o 5 ?_; first | refine J.t0 hΓ ?_ | refine J.tT _ default hΓ (fun _ _ => ?_)) | (refine J.o 6 ?_; refine J.bx (fun _ => ?_)) | (refine J.o 7 ?_; refine J.al hΓ (fun _ => ?_)) | (refine J.o 10 ?_; refine J.ev' hΓ ?_) | (refine J.o 11 ?_; refine J.ev' hΓ ?_)))
      | (first | refine JC.seq ?_ | refine JC.region ?_ | refine JC.block ?_ | refine JC.ret ?_ | refine JC.exit ?_ | refine JC.skip ?_ | refine thenK.nn ?_ | refine thenK.x ?_ | refine blockK.nn ?_ | refine blockK.hit rfl ?_ | (refine JC.cond rfl (fun hc => ?_) (fun hc => ?_) <;> ((try simp only [decide_eq_true_eq, decide_eq_false_iff_not, beq_iff_eq, beq_eq_false_iff_ne, bne_iff_ne, bne_eq_false_iff_eq, Bool.not_eq_true', Bool.not_eq_false', Bool.not_eq_true, Bool.not_eq_false] at hc) <;> first | (first | (exact absurd rfl hc) | (exfalso; omega) | (exact absurd (hc.symm.trans (by assumption : _ = false)) (by decide)) | (exact absurd (hc.symm.trans (by assumption : _ = true)) (by decide))) | skip)) | refine drawK.nn ?_ | refine loopK.x ?_)
      | (fail)
      | fail
    all_goals first | (exfalso; omega) | skip
    rw [hdr] at o8
    refine JC.loop (fun i => i == 8 || i == 9 || Nat.ble 30 i) (fun m g L' => ∃ i c o h', g 30 = .int .i64 ((i : Nat) : Int) ∧ i + m = y.length ∧ g 8 = .int .u64 ((c : Nat) : Int) ∧ AddI y x i o c ∧ OwT encW 1 124 (some ⟨b7, 0, none⟩) (y.length + 1) o h' ∧ L' = [h', hgy, hgx, [(b4, Obj.cells ⟨[.string ByteArray.empty]⟩ 59 (0, 0))], [(b2, Obj.cells ⟨[.string (S (bytesN b))]⟩ 59 (0, 0))], [(b3, Obj.cells ⟨[.string (S (bytesN a))]⟩ 59 (0, 0))]]) y.length ⟨0, 0, _, h8, rfl, by omega, rfl, hst, o8, rfl⟩ ?_
    rintro m1 g1 L' ⟨i, c, o, h4, e30, hi, e8, ai, o4, rfl⟩
    refine JC.pin 30 e30 ?_
    refine JC.pin 8 e8 ?_
    have lo := ai.len
    have c1 := ai.c1
    rcases Nat.lt_or_ge i y.length with hlt | hge
    · have b1 : o.getD i 0 < 4294967296 := okW_get ai.ok i
      have b2' : y.getD i 0 < 4294967296 := okW_get ky i
      have hstep := ai.step ky hlt
      repeat' first
        | (refine J.isJ ?_; first | (first | (refine J.o 4 ?_; first | refine J.lT (0 : Nat) hΓ ?_ (hs := oy.sl) (hr := RdH.hd.tl) | refine J.lT (0 : Nat) hΓ ?_ (hs := o4.sl) (hr := RdH.hd)) | (refine J.o 1 ?_; first | refine J.gadd ?_ (hw := wU64 (by omega)) | refine J.gshr (j := 32) ?_) | (refine J.o 2 ?_; first | refine J.gcv hΓ ?_ (hk := wU64 (by omega)) | refine J.gcv hΓ ?_ (hk := wT32 _)) | (refine J.o 5 ?_; refine J.tT (enc := encW) _ default hΓ (fun h5 o5 => ?_))) | (first | (refine J.o 0 ?_; refine J.ev' hΓ ?_) | refine J.nil ?_ | (refine J.o 4 ?_; first | refine J.lT default hΓ ?_ | refine J.lR hΓ ?_) | (refine J.o 3 ?_; first | refine J.iJ hΓ ?_ | refine J.ev' hΓ ?_) | (refine J.o 1 ?_; first | refine J.ad ?_) | (refine J.o 5 ?_; first | refine J.t0 hΓ ?_ | refine J.tT _ default hΓ (fun _ _ => ?_)) | (refine J.o 6 ?_; refine J.bx (fun _ => ?_)) | (refine J.o 7 ?_; refine J.al hΓ (fun _ => ?_)) | (refine J.o 10 ?_; refine J.ev' hΓ ?_) | (refine J.o 11 ?_; refine J.ev' hΓ ?_)))
        | (first | refine JC.seq ?_ | refine JC.region ?_ | refine JC.block ?_ | refine JC.ret ?_ | refine JC.exit ?_ | refine JC.skip ?_ | refine thenK.nn ?_ | refine thenK.x ?_ | refine blockK.nn ?_ | refine blockK.hit rfl ?_ | (refine JC.cond rfl (fun hc => ?_) (fun hc => ?_) <;> ((try simp only [decide_eq_true_eq, decide_eq_false_iff_not, beq_iff_eq, beq_eq_false_iff_ne, bne_iff_ne, bne_eq_false_iff_eq, Bool.not_eq_true', Bool.not_eq_false', Bool.not_eq_true, Bool.not_eq_false] at hc) <;> first | (first | (exact absurd rfl hc) | (exfalso; omega) | (exact absurd (hc.symm.trans (by assumption : _ = false)) (by decide)) | (exact absurd (hc.symm.trans (by assumption : _ = true)) (by decide))) | skip)) | refine drawK.nn ?_ | refine loopK.x ?_)
        | ((refine JC.drawO [(0,0),(0,1),(0,2),(0,3),(1,4),(0,5),(0,6),(0,7),(0,8),(1,9),(0,10),(0,11),(0,12),(0,13)] (by decide +kernel) (by decide +kernel) ?_))
        | fail
      all_goals first | (exfalso; omega) | skip
      refine loopK.nn (m1 - 1) (by omega) (by repeat (first | refine Ag.upd rfl ?_ | exact Ag.hv)) ⟨i + 1, _, _, h5, ?_, by omega, rfl, hstep, o5, rfl⟩
      show Value.int .i64 _ = _; congr 1
    · obtain rfl : i = y.length := by omega
      obtain ⟨hok, hval⟩ := ai.fin hle
      have hval2 : valW (o.set y.length c) = a + b := by rw [hval]; omega
      have hls : (o.set y.length c).length = y.length + 1 := by rw [List.length_set, lo]
      have hik : y.length < o.length := by omega
      repeat' first
        | (refine J.isJ ?_; first | (first | (refine J.o 2 ?_; refine J.gcv hΓ ?_ (hk := wU32 (by omega))) | (refine J.o 5 ?_; first | refine J.tT (enc := encW) _ default hΓ (fun h5 o5 => ?_)) | (refine J.fc 134 ?_; refine J.call0 eFrom rfl rfl (fun w hw => from_len _ _ _ _ o5.sl hok hls (by omega) hval2 w (hw.rdH RdH.hd)) ?_) | (refine J.o 5 ?_; first | (refine J.perm br3 ?_; refine J.t0 hΓ ?_) | (refine J.perm br4 ?_; refine J.t0 hΓ ?_) | (refine J.perm br5 ?_; refine J.t0 hΓ ?_) | (refine J.perm br6 ?_; refine J.t0 hΓ ?_) | (refine J.perm br7 ?_; refine J.t0 hΓ ?_))) | (first | (refine J.o 0 ?_; refine J.ev' hΓ ?_) | refine J.nil ?_ | (refine J.o 4 ?_; first | refine J.lT default hΓ ?_ | refine J.lR hΓ ?_) | (refine J.o 3 ?_; first | refine J.iJ hΓ ?_ | refine J.ev' hΓ ?_) | (refine J.o 1 ?_; first | refine J.ad ?_) | (refine J.o 5 ?_; first | refine J.t0 hΓ ?_ | refine J.tT _ default hΓ (fun _ _ => ?_)) | (refine J.o 6 ?_; refine J.bx (fun _ => ?_)) | (refine J.o 7 ?_; refine J.al hΓ (fun _ => ?_)) | (refine J.o 10 ?_; refine J.ev' hΓ ?_) | (refine J.o 11 ?_; refine J.ev' hΓ ?_)))
        | (first | refine JC.seq ?_ | refine JC.region ?_ | refine JC.block ?_ | refine JC.ret ?_ | refine JC.exit ?_ | refine JC.skip ?_ | refine thenK.nn ?_ | refine thenK.x ?_ | refine blockK.nn ?_ | refine blockK.hit rfl ?_ | (refine JC.cond rfl (fun hc => ?_) (fun hc => ?_) <;> ((try simp only [decide_eq_true_eq, decide_eq_false_iff_not, beq_iff_eq, beq_eq_false_iff_ne, bne_iff_ne, bne_eq_false_iff_eq, Bool.not_eq_true', Bool.not_eq_false', Bool.not_eq_true, Bool.not_eq_false] at hc) <;> first | (first | (exact absurd rfl hc) | (exfalso; omega) | (exact absurd (hc.symm.trans (by assumption : _ = false)) (by decide)) | (exact absurd (hc.symm.trans (by assumption : _ = true)) (by decide))) | skip)) | refine drawK.nn ?_ | refine loopK.x ?_)
        | (fail)
        | fail
      all_goals first | (exfalso; omega) | skip
      exact retC hΓ rfl rfl rfl (by first | exact Rd.hd | exact Rd.hd.tl | exact Rd.hd.tl.tl | exact Rd.hd.tl.tl.tl) rfl (fun w1 hw => ⟨rfl, hw.below⟩)
  ·
    have hle : y.length ≤ x.length := by omega
    have hst := AddI.start kx ky hle
    have hdr : (List.replicate (x.length + 1) 0).drop y.length = List.replicate (x.length + 1 - y.length) 0 := List.drop_replicate
    refine calls_of_JC (R := []) Tryz.func110 Tryz.ntmps110 rfl rfl (Holds.nil _) ?_
    unfold natV
    repeat' first
      | (refine J.isJ ?_; first | (first | (refine J.o 6 ?_; first | refine J.bx (fun b2 => ?_)) | (refine J.o 7 ?_; refine J.al hΓ (fun b4 => ?_))) | (first | (refine J.o 0 ?_; refine J.ev' hΓ ?_) | refine J.nil ?_ | (refine J.o 4 ?_; first | refine J.lT default hΓ ?_ | refine J.lR hΓ ?_) | (refine J.o 3 ?_; first | refine J.iJ hΓ ?_ | refine J.ev' hΓ ?_) | (refine J.o 1 ?_; first | refine J.ad ?_) | (refine J.o 5 ?_; first | refine J.t0 hΓ ?_ | refine J.tT _ default hΓ (fun _ _ => ?_)) | (refine J.o 6 ?_; refine J.bx (fun _ => ?_)) | (refine J.o 7 ?_; refine J.al hΓ (fun _ => ?_)) | (refine J.o 10 ?_; refine J.ev' hΓ ?_) | (refine J.o 11 ?_; refine J.ev' hΓ ?_)))
      | (first | refine JC.seq ?_ | refine JC.region ?_ | refine JC.block ?_ | refine JC.ret ?_ | refine JC.exit ?_ | refine JC.skip ?_ | refine thenK.nn ?_ | refine thenK.x ?_ | refine blockK.nn ?_ | refine blockK.hit rfl ?_ | (refine JC.cond rfl (fun hc => ?_) (fun hc => ?_) <;> ((try simp only [decide_eq_true_eq, decide_eq_false_iff_not, beq_iff_eq, beq_eq_false_iff_ne, bne_iff_ne, bne_eq_false_iff_eq, Bool.not_eq_true', Bool.not_eq_false', Bool.not_eq_true, Bool.not_eq_false] at hc) <;> first | (first | (exact absurd rfl hc) | (exfalso; omega) | (exact absurd (hc.symm.trans (by assumption : _ = false)) (by decide)) | (exact absurd (hc.symm.trans (by assumption : _ = true)) (by decide))) | skip)) | refine drawK.nn ?_ | refine loopK.x ?_)
      | (fail)
      | fail
    rename_i b3
    refine JC.drawO [(1,0),(1,2),(3,1),(3,3),(0,4),(0,5)] (by kernel_rfl) (by kernel_rfl) ?_
    repeat' first
      | (refine J.isJ ?_; first | (first | (refine J.o 4 ?_; first | refine J.lR hΓ ?_ (hr := Rd.hd.tl.tl) | refine J.lR hΓ ?_ (hr := Rd.hd.tl)) | (refine J.fc 73 ?_; refine J.call1 eWords rfl rfl (fun w hw => cX w) ?_; rintro _ hgx ⟨ax, cx, rfl, ox⟩) | (refine J.fc 73 ?_; refine J.call1 eWords rfl rfl (fun w hw => cY w) ?_; rintro _ hgy ⟨ay, cy, rfl, oy⟩) | (refine J.o 1 ?_; refine J.gadd (b := 1) ?_ (hw := wI64 (by omega))) | (refine J.o 9 ?_; first | refine J.make (enc := encW) (m := x.length + 1) (0 : Nat) hΓ rfl rfl rfl rfl rfl rfl (fun _ => rfl) (by omega) (by omega) (fun b7 h7 o7 => ?_) | refine J.cpy hΓ o7 oy (RdH.hd) (by rw [List.length_replicate]; omega) (fun h8 o8 => ?_) (hm := List.length_replicate))) | (first | (refine J.o 0 ?_; refine J.ev' hΓ ?_) | refine J.nil ?_ | (refine J.o 4 ?_; first | refine J.lT default hΓ ?_ | refine J.lR hΓ ?_) | (refine J.o 3 ?_; first | refine J.iJ hΓ ?_ | refine J.ev' hΓ ?_) | (refine J.o 1 ?_; first | refine J.ad ?_) | (refine J.o 5 ?_; first | refine J.t0 hΓ ?_ | refine J.tT _ default hΓ (fun _ _ => ?_)) | (refine J.o 6 ?_; refine J.bx (fun _ => ?_)) | (refine J.o 7 ?_; refine J.al hΓ (fun _ => ?_)) | (refine J.o 10 ?_; refine J.ev' hΓ ?_) | (refine J.o 11 ?_; refine J.ev' hΓ ?_)))
      | (first | refine JC.seq ?_ | refine JC.region ?_ | refine JC.block ?_ | refine JC.ret ?_ | refine JC.exit ?_ | refine JC.skip ?_ | refine thenK.nn ?_ | refine thenK.x ?_ | refine blockK.nn ?_ | refine blockK.hit rfl ?_ | (refine JC.cond rfl (fun hc => ?_) (fun hc => ?_) <;> ((try simp only [decide_eq_true_eq, decide_eq_false_iff_not, beq_iff_eq, beq_eq_false_iff_ne, bne_iff_ne, bne_eq_false_iff_eq, Bool.not_eq_true', Bool.not_eq_false', Bool.not_eq_true, Bool.not_eq_false] at hc) <;> first | (first | (exact absurd rfl hc) | (exfalso; omega) | (exact absurd (hc.symm.trans (by assumption : _ = false)) (by decide)) | (exact absurd (hc.symm.trans (by assumption : _ = true)) (by decide))) | skip)) | refine drawK.nn ?_ | refine loopK.x ?_)
      | (fail)
      | fail
    all_goals first | (exfalso; omega) | skip
    rw [hdr] at o8
    refine JC.loop (fun i => i == 8 || i == 9 || Nat.ble 30 i) (fun m g L' => ∃ i c o h', g 30 = .int .i64 ((i : Nat) : Int) ∧ i + m = x.length ∧ g 8 = .int .u64 ((c : Nat) : Int) ∧ AddI x y i o c ∧ OwT encW 1 124 (some ⟨b7, 0, none⟩) (x.length + 1) o h' ∧ L' = [h', hgy, hgx, [(b4, Obj.cells ⟨[.string ByteArray.empty]⟩ 59 (0, 0))], [(b2, Obj.cells ⟨[.string (S (bytesN b))]⟩ 59 (0, 0))], [(b3, Obj.cells ⟨[.string (S (bytesN a))]⟩ 59 (0, 0))]]) x.length ⟨0, 0, _, h8, rfl, by omega, rfl, hst, o8, rfl⟩ ?_
    rintro m1 g1 L' ⟨i, c, o, h4, e30, hi, e8, ai, o4, rfl⟩
    refine JC.pin 30 e30 ?_
    refine JC.pin 8 e8 ?_
    have lo := ai.len
    have c1 := ai.c1
    rcases Nat.lt_or_ge i x.length with hlt | hge
    · have b1 : o.getD i 0 < 4294967296 := okW_get ai.ok i
      have b2' : x.getD i 0 < 4294967296 := okW_get kx i
      have hstep := ai.step kx hlt
      repeat' first
        | (refine J.isJ ?_; first | (first | (refine J.o 4 ?_; first | refine J.lT (0 : Nat) hΓ ?_ (hs := ox.sl) (hr := RdH.hd.tl.tl) | refine J.lT (0 : Nat) hΓ ?_ (hs := o4.sl) (hr := RdH.hd)) | (refine J.o 1 ?_; first | refine J.gadd ?_ (hw := wU64 (by omega)) | refine J.gshr (j := 32) ?_) | (refine J.o 2 ?_; first | refine J.gcv hΓ ?_ (hk := wU64 (by omega)) | refine J.gcv hΓ ?_ (hk := wT32 _)) | (refine J.o 5 ?_; refine J.tT (enc := encW) _ default hΓ (fun h5 o5 => ?_))) | (first | (refine J.o 0 ?_; refine J.ev' hΓ ?_) | refine J.nil ?_ | (refine J.o 4 ?_; first | refine J.lT default hΓ ?_ | refine J.lR hΓ ?_) | (refine J.o 3 ?_; first | refine J.iJ hΓ ?_ | refine J.ev' hΓ ?_) | (refine J.o 1 ?_; first | refine J.ad ?_) | (refine J.o 5 ?_; first | refine J.t0 hΓ ?_ | refine J.tT _ default hΓ (fun _ _ => ?_)) | (refine J.o 6 ?_; refine J.bx (fun _ => ?_)) | (refine J.o 7 ?_; refine J.al hΓ (fun _ => ?_)) | (refine J.o 10 ?_; refine J.ev' hΓ ?_) | (refine J.o 11 ?_; refine J.ev' hΓ ?_)))
        | (first | refine JC.seq ?_ | refine JC.region ?_ | refine JC.block ?_ | refine JC.ret ?_ | refine JC.exit ?_ | refine JC.skip ?_ | refine thenK.nn ?_ | refine thenK.x ?_ | refine blockK.nn ?_ | refine blockK.hit rfl ?_ | (refine JC.cond rfl (fun hc => ?_) (fun hc => ?_) <;> ((try simp only [decide_eq_true_eq, decide_eq_false_iff_not, beq_iff_eq, beq_eq_false_iff_ne, bne_iff_ne, bne_eq_false_iff_eq, Bool.not_eq_true', Bool.not_eq_false', Bool.not_eq_true, Bool.not_eq_false] at hc) <;> first | (first | (exact absurd rfl hc) | (exfalso; omega) | (exact absurd (hc.symm.trans (by assumption : _ = false)) (by decide)) | (exact absurd (hc.symm.trans (by assumption : _ = true)) (by decide))) | skip)) | refine drawK.nn ?_ | refine loopK.x ?_)
        | ((refine JC.drawO [(0,0),(0,1),(0,2),(0,3),(1,4),(0,5),(0,6),(0,7),(0,8),(1,9),(0,10),(0,11),(0,12),(0,13)] (by decide +kernel) (by decide +kernel) ?_))
        | fail
      all_goals first | (exfalso; omega) | skip
      refine loopK.nn (m1 - 1) (by omega) (by repeat (first | refine Ag.upd rfl ?_ | exact Ag.hv)) ⟨i + 1, _, _, h5, ?_, by omega, rfl, hstep, o5, rfl⟩
      show Value.int .i64 _ = _; congr 1
    · obtain rfl : i = x.length := by omega
      obtain ⟨hok, hval⟩ := ai.fin hle
      have hval2 : valW (o.set x.length c) = a + b := by rw [hval]; omega
      have hls : (o.set x.length c).length = x.length + 1 := by rw [List.length_set, lo]
      have hik : x.length < o.length := by omega
      repeat' first
        | (refine J.isJ ?_; first | (first | (refine J.o 2 ?_; refine J.gcv hΓ ?_ (hk := wU32 (by omega))) | (refine J.o 5 ?_; first | refine J.tT (enc := encW) _ default hΓ (fun h5 o5 => ?_)) | (refine J.fc 134 ?_; refine J.call0 eFrom rfl rfl (fun w hw => from_len _ _ _ _ o5.sl hok hls (by omega) hval2 w (hw.rdH RdH.hd)) ?_) | (refine J.o 5 ?_; first | (refine J.perm br3 ?_; refine J.t0 hΓ ?_) | (refine J.perm br4 ?_; refine J.t0 hΓ ?_) | (refine J.perm br5 ?_; refine J.t0 hΓ ?_) | (refine J.perm br6 ?_; refine J.t0 hΓ ?_) | (refine J.perm br7 ?_; refine J.t0 hΓ ?_))) | (first | (refine J.o 0 ?_; refine J.ev' hΓ ?_) | refine J.nil ?_ | (refine J.o 4 ?_; first | refine J.lT default hΓ ?_ | refine J.lR hΓ ?_) | (refine J.o 3 ?_; first | refine J.iJ hΓ ?_ | refine J.ev' hΓ ?_) | (refine J.o 1 ?_; first | refine J.ad ?_) | (refine J.o 5 ?_; first | refine J.t0 hΓ ?_ | refine J.tT _ default hΓ (fun _ _ => ?_)) | (refine J.o 6 ?_; refine J.bx (fun _ => ?_)) | (refine J.o 7 ?_; refine J.al hΓ (fun _ => ?_)) | (refine J.o 10 ?_; refine J.ev' hΓ ?_) | (refine J.o 11 ?_; refine J.ev' hΓ ?_)))
        | (first | refine JC.seq ?_ | refine JC.region ?_ | refine JC.block ?_ | refine JC.ret ?_ | refine JC.exit ?_ | refine JC.skip ?_ | refine thenK.nn ?_ | refine thenK.x ?_ | refine blockK.nn ?_ | refine blockK.hit rfl ?_ | (refine JC.cond rfl (fun hc => ?_) (fun hc => ?_) <;> ((try simp only [decide_eq_true_eq, decide_eq_false_iff_not, beq_iff_eq, beq_eq_false_iff_ne, bne_iff_ne, bne_eq_false_iff_eq, Bool.not_eq_true', Bool.not_eq_false', Bool.not_eq_true, Bool.not_eq_false] at hc) <;> first | (first | (exact absurd rfl hc) | (exfalso; omega) | (exact absurd (hc.symm.trans (by assumption : _ = false)) (by decide)) | (exact absurd (hc.symm.trans (by assumption : _ = true)) (by decide))) | skip)) | refine drawK.nn ?_ | refine loopK.x ?_)
        | (fail)
        | fail
      all_goals first | (exfalso; omega) | skip
      exact retC hΓ rfl rfl rfl (by first | exact Rd.hd | exact Rd.hd.tl | exact Rd.hd.tl.tl | exact Rd.hd.tl.tl.tl) rfl (fun w1 hw => ⟨rfl, hw.below⟩)
end Go.Proofs.YtdiciemlbhkilaaGreatDoor
namespace Go.Proofs.YtdiciemlbhkilaaGreatDoor
open Go Go.Cx Go.RowKit
set_option linter.unusedVariables false
set_option linter.unusedSimpArgs false
set_option maxHeartbeats 4000000
attribute [local irreducible] J JC thenK blockK loopK roundK drawK retK QW Qt pel List.set Calls
attribute [local irreducible] JE Br eK0 eK3 brK
section
variable {P : Program} {n : Nat} {w0 : World} {R : Heap} {l0 : List Oper} {K : Exit → Fr → List Heap → Prop} {f : Fr} {L : List Heap} {rest : List (Nat × Oper)} {κ : Nat}
variable {d : Nat} {ty : TypeId} {pos : String} {aft : Array Edge} {g : Option (Nat × Bool)} {t u : TypeId} {x y : Operand} {a b : Nat}
theorem J.gorW {c : Nat} (h : a ||| b = c) (kk : J P n w0 R l0 K rest (upd f d (.int .u64 (c : Int))) L) (ha : a < 18446744073709551616) (hb : b < 18446744073709551616) (hg : wantB n f l0 ⟨some d, .binOp .or t x y u, ty, pos, aft, g⟩ = true := by exact rfl) (hx : Cx.ev n f x = .int .u64 (a : Int) := by exact rfl) (hy : Cx.ev n f y = .int .u64 (b : Int) := by exact rfl) : J P n w0 R l0 K ((κ, ⟨some d, .binOp .or t x y u, ty, pos, aft, g⟩) :: rest) f L := by
  subst h
  exact J.gor kk hg hx hy ha hb
end
theorem or_step (bs : List UInt8) (i : Nat) (h : i < bs.length) : valB (bs.take i) ||| ((bs.getD i 0).toNat * 2 ^ (8 * i)) = valB (bs.take (i + 1)) := by
  have e1 : bs.take (i + 1) = bs.take i ++ [bs.getD i 0] := by
    rw [List.take_add_one, List.getD_eq_getElem?_getD, List.getElem?_eq_getElem h]; rfl
  have hl : (bs.take i).length = i := by rw [List.length_take]; omega
  have hlt : valB (bs.take i) < 2 ^ (8 * i) := by
    have := valB_lt (bs.take i)
    rw [hl] at this
    rwa [Nat.pow_mul]
  rw [e1, valB_app, hl, Nat.or_comm, Nat.mul_comm, ← Nat.two_pow_add_eq_or_of_lt hlt, Nat.pow_mul]
  simp only [valB, Nat.mul_zero, Nat.add_zero]
  exact Nat.add_comm _ _
theorem eLenN : Entr Tryz.prog 131 := Entr.of Tryz.func131 rfl rfl
theorem eUint : Entr Tryz.prog 27 := Entr.of Tryz.func27 rfl rfl
theorem eLen8 : Entr Tryz.prog 143 := Entr.of Tryz.func143 rfl rfl
theorem uint_any (v : Nat) (hv : v < 18446744073709551616) (w : World) : Calls Tryz.prog 27 #[natV v] w fun e w' => e = .returned (.tuple #[.int .u64 (v : Int), .bool true]) ∧ Below w.heap.size w w' := by
  have hl8 : (bytesN v).length ≤ 8 := bytesN_len (by rw [show (256 : Nat) ^ 8 = 18446744073709551616 from rfl]; exact hv)
  have hvB := valB_bytesN v
  unfold natV
  generalize bytesN v = bs at hl8 hvB ⊢
  refine calls_of_JC (R := []) Tryz.func27 Tryz.ntmps27 rfl rfl (Holds.nil _) ?_
  repeat' first
    | (refine J.isJ ?_; first | (first | (refine J.o 6 ?_; refine J.bx (fun b1 => ?_)) | (refine J.o 10 ?_; refine J.ls hΓ ?_)) | (first | (refine J.o 0 ?_; refine J.ev' hΓ ?_) | refine J.nil ?_ | (refine J.o 4 ?_; first | refine J.lR hΓ ?_) | (refine J.o 3 ?_; first | refine J.ev' hΓ ?_) | (refine J.o 1 ?_; first | refine J.ad ?_) | (refine J.o 6 ?_; refine J.bx (fun _ => ?_)) | (refine J.o 10 ?_; refine J.ev' hΓ ?_) | (refine J.o 11 ?_; refine J.ev' hΓ ?_)))
    | (first | refine JC.seq ?_ | refine JC.region ?_ | refine JC.block ?_ | refine JC.ret ?_ | refine JC.exit ?_ | refine JC.skip ?_ | refine thenK.nn ?_ | refine thenK.x ?_ | refine blockK.nn ?_ | refine blockK.hit rfl ?_ | (refine JC.cond rfl (fun hc => ?_) (fun hc => ?_) <;> ((try simp only [decide_eq_true_eq, decide_eq_false_iff_not, beq_iff_eq, beq_eq_false_iff_ne, bne_iff_ne, bne_eq_false_iff_eq, Bool.not_eq_true', Bool.not_eq_false', Bool.not_eq_true, Bool.not_eq_false] at hc) <;> first | (first | (exact absurd rfl hc) | (exfalso; omega) | (exact absurd (hc.symm.trans (by assumption : _ = false)) (by decide)) | (exact absurd (hc.symm.trans (by assumption : _ = true)) (by decide))) | skip)) | refine loopK.x ?_)
    | (fail)
    | fail
  all_goals first | (exfalso; omega) | skip
  refine JC.loop (fun i => i == 4 || i == 5 || Nat.ble 14 i || i == 13) (fun m g L' => ∃ i : Nat, g 13 = .int .i64 ((i : Nat) : Int) ∧ i + m = bs.length ∧ g 4 = .int .u64 ((valB (bs.take i) : Nat) : Int) ∧ L' = [[(b1, Obj.cells ⟨[.string (S bs)]⟩ 59 (0, 0))]]) bs.length ⟨0, rfl, by omega, rfl, rfl⟩ ?_
  rintro m g L' ⟨i, e13, hi, e4, rfl⟩
  refine JC.pin 13 e13 ?_
  refine JC.pin 4 e4 ?_
  rcases Nat.lt_or_ge i bs.length with hlt | hge
  · have hor := or_step bs i hlt
    have hc8 := u8_lt (bs.getD i 0)
    have hp : (bs.getD i 0).toNat * 2 ^ (8 * i) < 18446744073709551616 := by
      have h1 : 2 ^ (8 * i) ≤ 2 ^ 56 := Nat.pow_le_pow_right (by omega) (by omega)
      have := Nat.mul_le_mul (Nat.le_of_lt_succ hc8) h1
      omega
    have hq : valB (bs.take i) < 18446744073709551616 := by
      have h1 := valB_lt (bs.take i)
      have h2 : 256 ^ (bs.take i).length ≤ 256 ^ 8 := Nat.pow_le_pow_right (by omega) (by rw [List.length_take]; omega)
      omega
    repeat' first
      | (refine J.isJ ?_; first | (first | (refine J.o 10 ?_; refine J.ls hΓ ?_) | (refine J.o 12 ?_; refine J.ix hΓ ?_) | (refine J.o 1 ?_; first | refine J.gmul (a := 8) ?_ | refine J.gshl ?_ (hw := wU64 hp) | refine J.gorW hor ?_ hq hp) | (refine J.o 2 ?_; refine J.gcv hΓ ?_ (hk := wU64 (by omega)))) | (first | (refine J.o 0 ?_; refine J.ev' hΓ ?_) | refine J.nil ?_ | (refine J.o 4 ?_; first | refine J.lR hΓ ?_) | (refine J.o 3 ?_; first | refine J.ev' hΓ ?_) | (refine J.o 1 ?_; first | refine J.ad ?_) | (refine J.o 6 ?_; refine J.bx (fun _ => ?_)) | (refine J.o 10 ?_; refine J.ev' hΓ ?_) | (refine J.o 11 ?_; refine J.ev' hΓ ?_)))
      | (first | refine JC.seq ?_ | refine JC.region ?_ | refine JC.block ?_ | refine JC.ret ?_ | refine JC.exit ?_ | refine JC.skip ?_ | refine thenK.nn ?_ | refine thenK.x ?_ | refine blockK.nn ?_ | refine blockK.hit rfl ?_ | (refine JC.cond rfl (fun hc => ?_) (fun hc => ?_) <;> ((try simp only [decide_eq_true_eq, decide_eq_false_iff_not, beq_iff_eq, beq_eq_false_iff_ne, bne_iff_ne, bne_eq_false_iff_eq, Bool.not_eq_true', Bool.not_eq_false', Bool.not_eq_true, Bool.not_eq_false] at hc) <;> first | (first | (exact absurd rfl hc) | (exfalso; omega) | (exact absurd (hc.symm.trans (by assumption : _ = false)) (by decide)) | (exact absurd (hc.symm.trans (by assumption : _ = true)) (by decide))) | skip)) | refine loopK.x ?_)
      | (fail)
      | fail
    all_goals first | (exfalso; omega) | skip
    refine loopK.nn (m - 1) (by omega) (by repeat (first | refine Ag.upd rfl ?_ | exact Ag.hv)) ⟨i + 1, ?_, by omega, rfl, rfl⟩
    show Value.int .i64 _ = _; congr 1
  · obtain rfl : i = bs.length := by omega
    rw [List.take_length, hvB] at *
    repeat' first
      | (refine J.isJ ?_; first | (fail) | (first | (refine J.o 0 ?_; refine J.ev' hΓ ?_) | refine J.nil ?_ | (refine J.o 4 ?_; first | refine J.lR hΓ ?_) | (refine J.o 3 ?_; first | refine J.ev' hΓ ?_) | (refine J.o 1 ?_; first | refine J.ad ?_) | (refine J.o 6 ?_; refine J.bx (fun _ => ?_)) | (refine J.o 10 ?_; refine J.ev' hΓ ?_) | (refine J.o 11 ?_; refine J.ev' hΓ ?_)))
      | (first | refine JC.seq ?_ | refine JC.region ?_ | refine JC.block ?_ | refine JC.ret ?_ | refine JC.exit ?_ | refine JC.skip ?_ | refine thenK.nn ?_ | refine thenK.x ?_ | refine blockK.nn ?_ | refine blockK.hit rfl ?_ | (refine JC.cond rfl (fun hc => ?_) (fun hc => ?_) <;> ((try simp only [decide_eq_true_eq, decide_eq_false_iff_not, beq_iff_eq, beq_eq_false_iff_ne, bne_iff_ne, bne_eq_false_iff_eq, Bool.not_eq_true', Bool.not_eq_false', Bool.not_eq_true, Bool.not_eq_false] at hc) <;> first | (first | (exact absurd rfl hc) | (exfalso; omega) | (exact absurd (hc.symm.trans (by assumption : _ = false)) (by decide)) | (exact absurd (hc.symm.trans (by assumption : _ = true)) (by decide))) | skip)) | refine loopK.x ?_)
      | (fail)
      | fail
    all_goals first | (exfalso; omega) | skip
    exact ret2f rfl rfl rfl rfl rfl (fun w1 hw => ⟨rfl, hw.below⟩)
def lenB (bs : List UInt8) : Int := if bs.length = 0 then 0 else 8 * ((bs.length : Int) - 1) + (Lib.bitLen (bs.getD (bs.length - 1) 0).toNat : Nat)
theorem lenB_le (bs : List UInt8) : 0 ≤ lenB bs ∧ lenB bs ≤ 8 * (bs.length : Int) := by
  unfold lenB
  split
  · omega
  · have h1 := Lib.bitLen_le8 ⟨(bs.getD (bs.length - 1) 0).toNat, u8_lt _⟩
    have h1 : Lib.bitLen (bs.getD (bs.length - 1) 0).toNat ≤ 8 := h1
    omega
theorem lenN_any (v : Nat) (hl : (bytesN v).length ≤ 100000) (w : World) : Calls Tryz.prog 131 #[natV v] w fun e w' => e = .returned (.int .i64 (lenB (bytesN v))) ∧ Below w.heap.size w w' := by
  unfold natV
  generalize bytesN v = bs at hl ⊢
  have c8 : ∀ w, Calls Tryz.prog 143 #[.int .u8 ((bs.getD (bs.length - 1) 0).toNat : Int)] w fun e w' => e = .returned (.int .i64 ((Lib.bitLen (bs.getD (bs.length - 1) 0).toNat : Nat) : Int)) ∧ Below w.heap.size w w' := fun w => by
    have h1 := u8_lt (bs.getD (bs.length - 1) 0)
    refine (Tryz.bits_Len8 ((bs.getD (bs.length - 1) 0).toNat : Int) w (by omega) (by omega)).mono ?_
    rintro e w' ⟨rfl, rfl⟩
    exact ⟨rfl, Below.refl _ _⟩
  have h1 := Lib.bitLen_le8 ⟨(bs.getD (bs.length - 1) 0).toNat, u8_lt _⟩
  have h1 : Lib.bitLen (bs.getD (bs.length - 1) 0).toNat ≤ 8 := h1
  refine calls_of_JC (R := []) Tryz.func131 Tryz.ntmps131 rfl rfl (Holds.nil _) ?_
  rcases Nat.eq_zero_or_pos bs.length with h0 | h0
  · have e : lenB bs = 0 := by unfold lenB; rw [if_pos h0]
    rw [e]
    repeat' first
      | (refine J.isJ ?_; first | (first | (refine J.o 6 ?_; refine J.bx (fun b1 => ?_)) | (refine J.o 10 ?_; refine J.ls hΓ ?_)) | (first | (refine J.o 0 ?_; refine J.ev' hΓ ?_) | refine J.nil ?_ | (refine J.o 4 ?_; first | refine J.lR hΓ ?_) | (refine J.o 3 ?_; first | refine J.ev' hΓ ?_) | (refine J.o 1 ?_; first | refine J.ad ?_ | refine J.sb ?_ | refine J.mu ?_) | (refine J.o 6 ?_; refine J.bx (fun _ => ?_)) | (refine J.o 10 ?_; refine J.ev' hΓ ?_) | (refine J.o 11 ?_; refine J.ev' hΓ ?_)))
      | (first | refine JC.seq ?_ | refine JC.region ?_ | refine JC.ret ?_ | refine JC.skip ?_ | refine thenK.nn ?_ | refine thenK.r ?_ | (refine JC.cond rfl (fun hc => ?_) (fun hc => ?_) <;> ((try simp only [decide_eq_true_eq, decide_eq_false_iff_not, beq_iff_eq, beq_eq_false_iff_ne, bne_iff_ne, bne_eq_false_iff_eq, Bool.not_eq_true', Bool.not_eq_false', Bool.not_eq_true, Bool.not_eq_false] at hc) <;> first | (first | (exact absurd rfl hc) | (exfalso; omega) | (exact absurd (hc.symm.trans (by assumption : _ = false)) (by decide)) | (exact absurd (hc.symm.trans (by assumption : _ = true)) (by decide))) | skip)))
      | (fail)
      | fail
    all_goals first | (exfalso; omega) | skip
    exact ret1f rfl rfl rfl (fun w1 hw => ⟨rfl, hw.below⟩)
  · have e : lenB bs = 8 * ((bs.length : Int) - 1) + (Lib.bitLen (bs.getD (bs.length - 1) 0).toNat : Nat) := by unfold lenB; rw [if_neg (by omega)]
    rw [e]
    repeat' first
      | (refine J.isJ ?_; first | (first | (refine J.o 6 ?_; refine J.bx (fun b1 => ?_)) | (refine J.o 10 ?_; refine J.ls hΓ ?_) | (refine J.o 12 ?_; refine J.ix (j := bs.length - 1) hΓ ?_ (hj := by omega)) | (refine J.fc 143 ?_; refine J.call0 eLen8 rfl rfl (fun w hw => c8 w) ?_)) | (first | (refine J.o 0 ?_; refine J.ev' hΓ ?_) | refine J.nil ?_ | (refine J.o 4 ?_; first | refine J.lR hΓ ?_) | (refine J.o 3 ?_; first | refine J.ev' hΓ ?_) | (refine J.o 1 ?_; first | refine J.ad ?_ | refine J.sb ?_ | refine J.mu ?_) | (refine J.o 6 ?_; refine J.bx (fun _ => ?_)) | (refine J.o 10 ?_; refine J.ev' hΓ ?_) | (refine J.o 11 ?_; refine J.ev' hΓ ?_)))
      | (first | refine JC.seq ?_ | refine JC.region ?_ | refine JC.ret ?_ | refine JC.skip ?_ | refine thenK.nn ?_ | refine thenK.r ?_ | (refine JC.cond rfl (fun hc => ?_) (fun hc => ?_) <;> ((try simp only [decide_eq_true_eq, decide_eq_false_iff_not, beq_iff_eq, beq_eq_false_iff_ne, bne_iff_ne, bne_eq_false_iff_eq, Bool.not_eq_true', Bool.not_eq_false', Bool.not_eq_true, Bool.not_eq_false] at hc) <;> first | (first | (exact absurd rfl hc) | (exfalso; omega) | (exact absurd (hc.symm.trans (by assumption : _ = false)) (by decide)) | (exact absurd (hc.symm.trans (by assumption : _ = true)) (by decide))) | skip)))
      | (fail)
      | fail
    all_goals first | (exfalso; omega) | skip
    exact ret1f rfl rfl rfl (fun w1 hw => ⟨rfl, hw.below⟩)
end Go.Proofs.YtdiciemlbhkilaaGreatDoor
namespace Go.Proofs.YtdiciemlbhkilaaGreatDoor
open Go Go.Cx Go.RowKit
set_option linter.unusedVariables false
set_option linter.unusedSimpArgs false
set_option maxHeartbeats 4000000
attribute [local irreducible] J JC thenK blockK loopK roundK drawK retK QW Qt pel List.set Calls
attribute [local irreducible] JE Br eK0 eK3 brK JR thenR JL JLd
theorem eAppS : Entr Tryz.prog 144 := Entr.of Tryz.func144 rfl rfl
theorem eColl : Entr Tryz.prog 133 := Entr.of Tryz.func133 rfl rfl
theorem eList : Entr Tryz.prog 105 := Entr.of Tryz.func105 rfl rfl
def IntsO (l : List Int) (v : Value) (h : Heap) : Prop := ∃ a c, v = .slice a l.length c ∧ OwT encI 1 3 a c l h
def cSl (b : Nat) (a : Option Addr) (n c : Nat) : Heap := [(b, .cells ⟨[.slice a n c]⟩ 80 (0, 0))]
theorem memS_len (s : Nat × Nat) : (memS s).length ≤ 128 := by
  unfold memS
  rw [List.length_map]
  have := List.length_filter_le (fun k : Nat => hasB s ((k : Int) + 1)) (List.range 128)
  rw [List.length_range] at this
  exact this
set_option maxHeartbeats 16000000 in
theorem appS_any (s : Nat × Nat) (hs : okS s) (bm : Nat) {w0 w : World} {R : Heap} {L : List Heap} (hT : Tab64 w0) (hb : Rd R L bm (sO s)) (hw : H w0 R L w) : Calls Tryz.prog 144 #[.slice none 0 0, .func (.func 94) ⟨[]⟩ ⟨[.pointer (some ⟨bm, 0, none⟩)]⟩] w fun e w' => ∃ v L', e = .returned v ∧ H w0 R L' w' ∧ ∃ h, L' = h :: L ∧ IntsO (memS s) v h := by
  refine calls_of_JW (m := 5) (R := R) (L := L) (w0 := w0) Tryz.func144 Tryz.ntmps144 rfl rfl hw ?_
  have hml := memS_len s
  refine JW.seqC ?_
  repeat' first
    | (refine J.isJ ?_; first | ((refine J.o 6 ?_; refine J.bx (fun b2 => ?_))) | (first | (refine J.o 0 ?_; refine J.ev' hΓ ?_) | refine J.nil ?_ | (refine J.o 4 ?_; first | refine J.lR hΓ ?_) | (refine J.o 3 ?_; first | refine J.ev' hΓ ?_) | (refine J.o 5 ?_; first | refine J.t1 hΓ ?_) | (refine J.o 6 ?_; refine J.bx (fun _ => ?_)) | (refine J.o 9 ?_; refine J.bl hΓ (fun _ => ?_)) | (refine J.o 10 ?_; refine J.ev' hΓ ?_) | (refine J.o 11 ?_; refine J.ev' hΓ ?_)))
    | (first | refine JC.region ?_ | refine blockK.nn ?_)
    | (fail)
    | fail
  refine toW.nn ?_
  refine JW.seq ?_
  refine JW.seqC ?_
  repeat' first
    | (refine J.isJ ?_; first | (fail) | (first | (refine J.o 0 ?_; refine J.ev' hΓ ?_) | refine J.nil ?_ | (refine J.o 4 ?_; first | refine J.lR hΓ ?_) | (refine J.o 3 ?_; first | refine J.ev' hΓ ?_) | (refine J.o 5 ?_; first | refine J.t1 hΓ ?_) | (refine J.o 6 ?_; refine J.bx (fun _ => ?_)) | (refine J.o 9 ?_; refine J.bl hΓ (fun _ => ?_)) | (refine J.o 10 ?_; refine J.ev' hΓ ?_) | (refine J.o 11 ?_; refine J.ev' hΓ ?_)))
    | (first | refine JC.region ?_ | refine blockK.nn ?_)
    | (fail)
    | fail
  refine toW.nn ?_
  refine JW.rangeB (Ψ := fun L' => ∃ a c h, OwT encI 1 3 a c (memS s) h ∧ L' = h :: cSl b2 a (memS s).length c :: L) rfl eMem1 (fun fn D tmps w1 ha1 hw1 => ?_) ?_
  · generalize hr : recL fn tmps _ _ _ D = r at hw1 ⊢
    refine (mem1_any s hs (D + 1) 4 hT (fun l L' => ∃ d aa c h, d ++ l = memS s ∧ OwT encI 1 3 aa c d h ∧ L' = [(D + 1, .loop r)] :: [(D, .deferred (some []))] :: h :: cSl b2 aa d.length c :: L) (fun L' => False) (fun l L' hl => by obtain ⟨d, a, c, h, _, _, rfl⟩ := hl; exact hb.tl.tl.tl.tl) (fun v l L' hl wy hwy => ?_) ⟨[], none, 0, [], rfl, ⟨fun _ => rfl, .inl ⟨rfl, rfl, rfl, rfl⟩⟩, rfl⟩ (H.sel (l := [_, _, _, _]) (M := L) hw1.nilF [1, 2, 0, 3])).mono ?_
    · obtain ⟨d, aa, c, h, hd, ho, rfl⟩ := hl
      subst hr
      have hdl : d.length + 1 ≤ 128 := by
        have h5 := congrArg List.length hd
        rw [List.length_append, List.length_cons] at h5
        omega
      obtain ⟨dl, hdl2⟩ : ∃ dl, d.length = dl := ⟨_, rfl⟩
      refine round_any (Φ := fun v' L' => ∃ q : Bool, v' = .bool q ∧ (q = true → _) ∧ (q = false → False)) rfl rfl (by rw [round_tmps]; exact ha1.put (some 7) (.int .i64 v)) ?_ hwy
      refine JR.region rfl ?_
      repeat' first
        | (refine J.isJ ?_; first | (fail) | (first | (refine J.o 0 ?_; refine J.ev' hΓ ?_) | refine J.nil ?_ | (refine J.o 4 ?_; first | refine J.lR hΓ ?_) | (refine J.o 3 ?_; first | refine J.ev' hΓ ?_) | (refine J.o 5 ?_; first | refine J.t1 hΓ ?_) | (refine J.o 6 ?_; refine J.bx (fun _ => ?_)) | (refine J.o 9 ?_; refine J.bl hΓ (fun _ => ?_)) | (refine J.o 10 ?_; refine J.ev' hΓ ?_) | (refine J.o 11 ?_; refine J.ev' hΓ ?_)))
        | (first | refine JR.seq ?_ | refine JR.region (by kernel_rfl) ?_ | refine JR.block ?_ | refine JR.ret ?_ | refine JR.exit ?_ | refine JR.skip ?_ | refine thenR.nn ?_ | refine thenR.r ?_ | refine thenR.x ?_ | refine blockK.nn ?_ | refine JR.condT rfl ?_ | refine JR.condF rfl ?_ | (refine JR.cond rfl (fun hc => ?_) (fun hc => ?_) <;> ((try simp only [decide_eq_true_eq, decide_eq_false_iff_not, beq_iff_eq, beq_eq_false_iff_ne, bne_iff_ne, bne_eq_false_iff_eq, Bool.not_eq_true', Bool.not_eq_false', Bool.not_eq_true, Bool.not_eq_false] at hc) <;> first | (first | (exact absurd rfl hc) | (exfalso; omega) | (exact absurd (hc.symm.trans (by assumption : _ = false)) (by decide)) | (exact absurd (hc.symm.trans (by assumption : _ = true)) (by decide))) | skip)))
        | (fail)
        | fail
      refine asgK.nn _ (fun w hw => hw) ?_
      refine JR.perm (bring_perm 3 _) ?_
      refine JR.perm (bring_perm 3 _) ?_
      unfold cSl
      repeat' first
        | (refine J.isJ ?_; first | (first | (refine J.o 4 ?_; refine J.lR hΓ ?_ (hr := Rd.hd.tl)) | (refine J.app1 (enc := encI) [v] hΓ rfl rfl rfl rfl rfl rfl rfl ho rfl rfl rfl rfl (by omega) (by omega) (by omega) (fun a3 c3 h3 o3 => ?_))) | (first | (refine J.o 0 ?_; refine J.ev' hΓ ?_) | refine J.nil ?_ | (refine J.o 4 ?_; first | refine J.lR hΓ ?_) | (refine J.o 3 ?_; first | refine J.ev' hΓ ?_) | (refine J.o 5 ?_; first | refine J.t1 hΓ ?_) | (refine J.o 6 ?_; refine J.bx (fun _ => ?_)) | (refine J.o 9 ?_; refine J.bl hΓ (fun _ => ?_)) | (refine J.o 10 ?_; refine J.ev' hΓ ?_) | (refine J.o 11 ?_; refine J.ev' hΓ ?_)))
        | (first | refine JR.seq ?_ | refine JR.region (by kernel_rfl) ?_ | refine JR.block ?_ | refine JR.ret ?_ | refine JR.exit ?_ | refine JR.skip ?_ | refine thenR.nn ?_ | refine thenR.r ?_ | refine thenR.x ?_ | refine blockK.nn ?_ | refine JR.condT rfl ?_ | refine JR.condF rfl ?_ | (refine JR.cond rfl (fun hc => ?_) (fun hc => ?_) <;> ((try simp only [decide_eq_true_eq, decide_eq_false_iff_not, beq_iff_eq, beq_eq_false_iff_ne, bne_iff_ne, bne_eq_false_iff_eq, Bool.not_eq_true', Bool.not_eq_false', Bool.not_eq_true, Bool.not_eq_false] at hc) <;> first | (first | (exact absurd rfl hc) | (exfalso; omega) | (exact absurd (hc.symm.trans (by assumption : _ = false)) (by decide)) | (exact absurd (hc.symm.trans (by assumption : _ = true)) (by decide))) | skip)))
        | (fail)
        | fail
      refine rndK.nn _ (fun w hw => H.sel (l := [_, _, _, _]) (M := L) hw [2, 3, 0, 1]) ⟨true, rfl, fun _ => ⟨d ++ [v], a3, c3, h3, by rw [List.append_assoc]; exact hd, o3, ?_⟩, fun h => (by cases h)⟩
      rw [List.length_append]
      rfl
    · rintro e w' ⟨v, L', rfl, hw', ⟨d, a, c, h, hd, ho, rfl⟩ | h2⟩
      · rw [List.append_nil] at hd
        subst hd
        exact ⟨v, _, rfl, hw', a, c, h, ho, rfl⟩
      · exact h2.elim
  · rintro D _ ⟨aa, c, h, ho, rfl⟩
    unfold cSl
    refine JW.regD ?_
    refine JLd.of (fun c h => by cases h) ?_
    (refine J.isJ ?_; refine J.o 4 ?_; refine J.lR hΓ ?_ (hr := Rd.hd.tl.tl))
    (refine J.nil ?_; refine nextLd.nn ?_)
    refine JLd.of (fun c h => by cases h) ?_
    (refine J.isJ ?_; refine J.o 0 ?_; refine J.ev' hΓ ?_)
    (refine J.nil ?_; refine nextLd.nn ?_)
    refine JLd.nil ?_
    refine JW.ret (fun a w' ha hw' => ?_)
    refine leaves_D ha hw' ?_
    exact ret1f rfl rfl rfl (fun w1 hw => ⟨_, _, rfl, H.sel (l := [_, _, _]) (M := L) hw [1], h, rfl, aa, c, rfl, ho⟩)
theorem coll_any (s : Nat × Nat) (hs : okS s) (bm : Nat) {w0 w : World} {R : Heap} {L : List Heap} (hT : Tab64 w0) (hb : Rd R L bm (sO s)) (hw : H w0 R L w) : Calls Tryz.prog 133 #[.func (.func 94) ⟨[]⟩ ⟨[.pointer (some ⟨bm, 0, none⟩)]⟩] w fun e w' => ∃ v L', e = .returned v ∧ H w0 R L' w' ∧ ∃ h, L' = h :: L ∧ IntsO (memS s) v h := by
  refine calls_in Tryz.func133 Tryz.ntmps133 rfl rfl (hw) ?_
  repeat' first
    | (refine J.isJ ?_; first | ((refine J.fc 144 ?_; refine J.callx eAppS rfl rfl (fun w hw => appS_any s hs bm hT hb hw) ?_; rintro _ _ ⟨h, rfl, a, c, rfl, ho⟩)) | (first | (refine J.o 0 ?_; refine J.ev' hΓ ?_) | refine J.nil ?_ | (refine J.o 3 ?_; first | refine J.ev' hΓ ?_) | (refine J.o 10 ?_; refine J.ev' hΓ ?_) | (refine J.o 11 ?_; refine J.ev' hΓ ?_)))
    | (first | refine JC.seq ?_ | refine JC.region ?_ | refine JC.ret ?_ | refine thenK.nn ?_)
    | (fail)
    | fail
  all_goals first | (exfalso; omega) | skip
  exact ret1f rfl rfl rfl (fun w1 hw => ⟨_, _, rfl, hw, h, rfl, a, c, rfl, ho⟩)
theorem list_any (s : Nat × Nat) (hs : okS s) (w : World) (hT : Tab64 w) : Calls Tryz.prog 105 #[sv s] w fun e w' => Gives (IntsO (memS s)) w e w' := by
  refine calls_of_JC (R := []) Tryz.func105 Tryz.ntmps105 rfl rfl (Holds.nil _) ?_
  repeat' first
    | (refine J.isJ ?_; first | (first | (refine J.o 6 ?_; refine J.bx (fun b1 => ?_)) | (refine J.fc 53 ?_; refine J.callx eMembers rfl rfl (fun w hw => members_any s hw) ?_; rintro _ _ ⟨bm, rfl, rfl⟩) | (refine J.fc 133 ?_; refine J.callx eColl rfl rfl (fun w hw => coll_any s hs bm hT Rd.hd hw) ?_; rintro _ _ ⟨h, rfl, a, c, rfl, ho⟩)) | (first | (refine J.o 0 ?_; refine J.ev' hΓ ?_) | refine J.nil ?_ | (refine J.o 4 ?_; first | refine J.lR hΓ ?_) | (refine J.o 3 ?_; first | refine J.ev' hΓ ?_) | (refine J.o 6 ?_; refine J.bx (fun _ => ?_)) | (refine J.o 10 ?_; refine J.ev' hΓ ?_) | (refine J.o 11 ?_; refine J.ev' hΓ ?_)))
    | (first | refine JC.seq ?_ | refine JC.region ?_ | refine JC.ret ?_ | refine thenK.nn ?_)
    | (fail)
    | fail
  all_goals first | (exfalso; omega) | skip
  exact ret1f rfl rfl rfl (fun w1 hw => Gives.of (H.sel (l := [_, _, _]) (M := []) hw [0]) ⟨a, c, rfl, ho⟩)
end Go.Proofs.YtdiciemlbhkilaaGreatDoor
namespace Go.Proofs.YtdiciemlbhkilaaGreatDoor
open Go Go.Cx Go.RowKit
set_option linter.unusedVariables false
set_option linter.unusedSimpArgs false
set_option maxHeartbeats 4000000
attribute [local irreducible] J JC thenK blockK loopK roundK drawK retK QW Qt pel List.set Calls
set_option maxRecDepth 8000
attribute [local irreducible] JE Br eK0 eK3 brK
theorem eShort : Entr Tryz.prog 102 := Entr.of Tryz.func102 rfl rfl
def encNt (v : Nat) : List Value := [.string (S (bytesN v))]
theorem okS_min {s t : Nat × Nat} (hs : okS s) : okS (minS s t) := ⟨Nat.lt_of_le_of_lt Nat.and_le_left hs.1, Nat.lt_of_le_of_lt Nat.and_le_left hs.2⟩
theorem bytes_128 {v : Nat} (h : v ≤ 2 ^ 128) : (bytesN v).length ≤ 17 := bytesN_len (Nat.lt_of_le_of_lt h (by decide))
theorem bytes_256 {v : Nat} (h : v ≤ 2 ^ 256) : (bytesN v).length ≤ 33 := bytesN_len (Nat.lt_of_le_of_lt h (by decide))
structure CntN (nn : Nat) (X : List PN) : Prop where
  hn : nn ≤ 128
  ck : checkP nn X = true
  sm : Simp nn X
  dd : Dd X
theorem CntN.run {nn : Nat} {X : List PN} (h : CntN nn X) {i : Nat} (hi : i < X.length) : ∃ P : Nat → Nat, P 0 = (if (X.getD i default).1 = 0 ∨ (X.getD i default).1 = 4 then 0 else 1) ∧ P (X.getD i default).2.2.length = (cN X X.length).getD i default ∧ (∀ q, q ≤ (X.getD i default).2.2.length → P q ≤ 2 ^ 128) ∧
    (∀ q, q < (X.getD i default).2.2.length → ((X.getD i default).1 = 3 ∧ P (q + 1) = P q * (cN X X.length).getD ((X.getD i default).2.2.getD q default).toNat default) ∨ ((X.getD i default).1 = 4 ∧ P (q + 1) = P q + (cN X X.length).getD ((X.getD i default).2.2.getD q default).toNat default * 2 ^ cardS (minS ((varT X).getD i default) ((varT X).getD ((X.getD i default).2.2.getD q default).toNat default)))) := by
  have hs := cN_self h.sm hi
  have hf := h.sm.fm i hi
  obtain ⟨_, _, _, g3⟩ := formed_all hf
  unfold stepC at hs
  by_cases h3 : (X.getD i default).1 = 3
  · refine ⟨fun q => proC (cN X X.length) ((X.getD i default).2.2.take q), ?_, ?_, fun q hq => pro_le h.hn h.sm h.dd hi h3 hq, fun q hq => .inl ⟨h3, ?_⟩⟩
    · rw [if_neg (by omega)]; rfl
    · show proC _ (List.take _ _) = _
      rw [hs, if_neg (by omega), if_neg (by omega), List.take_length]
    · show proC _ (List.take _ _) = _
      rw [take_g _ q hq, proC_snoc]
  · by_cases h4 : (X.getD i default).1 = 4
    · refine ⟨fun q => sumC (varT X) (cN X X.length) ((varT X).getD i default) ((X.getD i default).2.2.take q), ?_, ?_, fun q hq => sum_le h.hn h.sm h.dd hi h4 hq, fun q hq => .inr ⟨h4, ?_⟩⟩
      · rw [if_pos (.inr h4)]; rfl
      · show sumC _ _ _ (List.take _ _) = _
        rw [hs, if_pos h4, List.take_length]
      · show sumC _ _ _ (List.take _ _) = _
        rw [take_g _ q hq, sumC_snoc]
    · have hk := formed_kinds hf
      have hl : (X.getD i default).2.2.length = 0 := g3 (by omega)
      have hnil := List.eq_nil_of_length_eq_zero hl
      rw [if_neg h4] at hs
      refine ⟨fun _ => if (X.getD i default).1 = 0 ∨ (X.getD i default).1 = 4 then 0 else 1, rfl, ?_, fun q _ => ?_, fun q hq => by omega⟩
      · show (if _ then 0 else 1) = _
        rw [hs, hnil]
        by_cases h0 : (X.getD i default).1 = 0
        · rw [if_pos (.inl h0), if_pos h0]
        · rw [if_neg (by omega), if_neg h0]; rfl
      · show (if _ then 0 else 1) ≤ _
        split <;> decide
def outC (X : List PN) (k : Nat) : List Nat := cN X k ++ List.replicate (X.length - k) 0
theorem outC_len {X : List PN} {k : Nat} (h : k ≤ X.length) : (outC X k).length = X.length := by
  unfold outC; rw [List.length_append, cN_len, List.length_replicate]; omega
theorem outC_at {X : List PN} {k j : Nat} (h : k ≤ X.length) (hj : j < k) : (outC X k).getD j default = (cN X X.length).getD j default := by
  unfold outC
  rw [app_getD _ _ _ (by rw [cN_len]; exact hj)]
  exact (cN_at X X.length k j hj h).symm
theorem outC_set {X : List PN} {k : Nat} (h : k < X.length) (hx : (cN X X.length).getD k default = stepC (varT X) (cN X k) ((varT X).getD k default) (X.getD k default)) : (outC X k).set k ((cN X X.length).getD k default) = outC X (k + 1) := by
  unfold outC
  obtain ⟨m, hm⟩ : ∃ m, X.length - k = m + 1 := ⟨X.length - k - 1, by omega⟩
  rw [hm, show X.length - (k + 1) = m by omega, List.replicate_succ, cN, List.append_assoc]
  have := app_st (cN X k) 0 ((cN X X.length).getD k default) (List.replicate m 0)
  rw [cN_len] at this
  rw [this, hx]; rfl
theorem outC_end (X : List PN) : outC X X.length = cN X X.length := by
  unfold outC; rw [Nat.sub_self, List.replicate_zero, List.append_nil]
attribute [local irreducible] cN proC sumC outC
set_option maxHeartbeats 16000000 in
theorem short_any (nn : Nat) (a : Option Addr) (cap : Nat) (vs : List NV) (h : Heap) (hr : NetIn a vs h) (hX : CntN nn (vs.map pnV)) (w : World) (hT : Tab64 w) (hw : Holds h w) :
    Calls Tryz.prog 102 #[.agg ⟨[.int .i64 (nn : Int), .slice a vs.length cap]⟩] w fun e w' => e = .returned (.bool true) ∧ Below w.heap.size w w' := by
  have q0 : ∀ L, RdH h L h := fun L => RdH.old fun _ hh => hh
  have cV := fun w hw => vars_any (nn : Int) a cap vs h hr w hw
  rw [hX.ck, if_pos rfl] at cV
  obtain ⟨so, si, sl, hl⟩ := hr
  have hXl : (vs.map pnV).length = vs.length := List.length_map ..
  obtain ⟨hN, hM, hFA⟩ := check_facts hX.ck
  have hTl := varT_len (vs.map pnV)
  rw [hXl] at hTl hM
  have hokT := okS_varT (vs.map pnV)
  refine calls_of_JC (R := h) Tryz.func102 Tryz.ntmps102 rfl rfl (hw) ?_
  repeat' first
    | (refine J.isJ ?_; first | (first | (refine J.fc 103 ?_; refine J.call1 eVarsN rfl rfl (fun w hw => cV w (hw.rdH (q0 _))) ?_; rintro _ hV ⟨aV, cVV, rfl, sV⟩) | (refine J.o 9 ?_; refine J.make (enc := encNt) (m := vs.length) (0 : Nat) hΓ rfl rfl rfl rfl rfl rfl (fun _ => rfl) (by omega) (by omega) (fun bo ho oo => ?_))) | (first | (refine J.o 0 ?_; refine J.ev' hΓ ?_) | refine J.nil ?_ | refine J.kd ?_ | (refine J.o 4 ?_; first | refine J.lT default hΓ ?_ | refine J.lR hΓ ?_) | (refine J.o 3 ?_; first | refine J.iJ hΓ ?_ | refine J.ev' hΓ ?_) | (refine J.o 1 ?_; first | refine J.ad ?_) | (refine J.o 5 ?_; first | refine J.t0 hΓ ?_ | refine J.t1 hΓ ?_ | refine J.tT2 _ default hΓ (fun _ _ => ?_)) | (refine J.o 6 ?_; refine J.bx (fun _ => ?_)) | (refine J.o 7 ?_; refine J.al hΓ (fun _ => ?_)) | (refine J.o 8 ?_; refine J.bd hΓ ?_) | (refine J.o 10 ?_; refine J.ev' hΓ ?_) | (refine J.o 11 ?_; refine J.ev' hΓ ?_)) | ((fail_if_success refine J.wt ?_); refine J.gc rfl rfl (fun hc => ?_) (fun hc => ?_) <;> ((try simp only [decide_eq_true_eq, decide_eq_false_iff_not, beq_iff_eq, beq_eq_false_iff_ne, bne_iff_ne, bne_eq_false_iff_eq, Bool.not_eq_true', Bool.not_eq_false', Bool.not_eq_true, Bool.not_eq_false] at hc) <;> first | (first | (exact absurd rfl hc) | (exfalso; omega) | (exact absurd (hc.symm.trans (by assumption : _ = false)) (by decide)) | (exact absurd (hc.symm.trans (by assumption : _ = true)) (by decide))) | skip)))
    | (first | refine JC.seq ?_ | refine JC.region ?_ | refine JC.block ?_ | refine JC.ret ?_ | refine JC.exit ?_ | refine JC.skip ?_ | refine thenK.nn ?_ | refine thenK.x ?_ | refine blockK.nn ?_ | refine blockK.hit rfl ?_ | refine JC.condT rfl ?_ | (refine JC.cond rfl (fun hc => ?_) (fun hc => ?_) <;> ((try simp only [decide_eq_true_eq, decide_eq_false_iff_not, beq_iff_eq, beq_eq_false_iff_ne, bne_iff_ne, bne_eq_false_iff_eq, Bool.not_eq_true', Bool.not_eq_false', Bool.not_eq_true, Bool.not_eq_false] at hc) <;> first | (first | (exact absurd rfl hc) | (exfalso; omega) | (exact absurd (hc.symm.trans (by assumption : _ = false)) (by decide)) | (exact absurd (hc.symm.trans (by assumption : _ = true)) (by decide))) | skip)) | refine drawK.nn ?_ | refine loopK.x ?_)
    | (fail)
    | fail
  all_goals first | (exfalso; omega) | skip
  have e0 : List.replicate vs.length 0 = outC (vs.map pnV) 0 := by rw [← hXl]; unfold outC cN; rfl
  rw [e0] at oo
  refine JC.gen [(3, .slice aV (varT (vs.map pnV)).length cVV), (4, .slice (some ⟨bo, 0, none⟩) vs.length vs.length), (17, .slice a vs.length cap), (18, .int .i64 vs.length), (19, .int .i64 0)] ⟨rfl, rfl, rfl, rfl, rfl, trivial⟩ (fun F1 => ?_)
  refine JC.loopG (fun i => i == 5 || i == 6 || i == 7 || i == 9 || Nat.ble 19 i) (fun m g L' => ∃ (k : Nat) (ho : Heap), g 19 = .int .i64 (k : Int) ∧ k + m = vs.length ∧ OwT encNt 1 59 (some ⟨bo, 0, none⟩) vs.length (outC (vs.map pnV) k) ho ∧ L' = [ho, hV, [_]]) vs.length ⟨0, ho, rfl, by omega, oo, rfl⟩ ?_
  clear oo
  rintro m g _ ⟨k, ho, e19, hkm, oo, rfl⟩
  refine JC.pin 19 e19 ?_
  clear e19
  rcases Nat.lt_or_ge k vs.length with hk | hk
  case inr =>
    repeat' first
      | (refine J.isJ ?_; first | (fail) | (first | (refine J.o 0 ?_; refine J.ev' hΓ ?_) | refine J.nil ?_ | refine J.kd ?_ | (refine J.o 4 ?_; first | refine J.lT default hΓ ?_ | refine J.lR hΓ ?_) | (refine J.o 3 ?_; first | refine J.iJ hΓ ?_ | refine J.ev' hΓ ?_) | (refine J.o 1 ?_; first | refine J.ad ?_) | (refine J.o 5 ?_; first | refine J.t0 hΓ ?_ | refine J.t1 hΓ ?_ | refine J.tT2 _ default hΓ (fun _ _ => ?_)) | (refine J.o 6 ?_; refine J.bx (fun _ => ?_)) | (refine J.o 7 ?_; refine J.al hΓ (fun _ => ?_)) | (refine J.o 8 ?_; refine J.bd hΓ ?_) | (refine J.o 10 ?_; refine J.ev' hΓ ?_) | (refine J.o 11 ?_; refine J.ev' hΓ ?_)) | ((fail_if_success refine J.wt ?_); refine J.gc rfl rfl (fun hc => ?_) (fun hc => ?_) <;> ((try simp only [decide_eq_true_eq, decide_eq_false_iff_not, beq_iff_eq, beq_eq_false_iff_ne, bne_iff_ne, bne_eq_false_iff_eq, Bool.not_eq_true', Bool.not_eq_false', Bool.not_eq_true, Bool.not_eq_false] at hc) <;> first | (first | (exact absurd rfl hc) | (exfalso; omega) | (exact absurd (hc.symm.trans (by assumption : _ = false)) (by decide)) | (exact absurd (hc.symm.trans (by assumption : _ = true)) (by decide))) | skip)))
      | (first | refine JC.seq ?_ | refine JC.region ?_ | refine JC.block ?_ | refine JC.ret ?_ | refine JC.exit ?_ | refine JC.skip ?_ | refine thenK.nn ?_ | refine thenK.x ?_ | refine blockK.nn ?_ | refine blockK.hit rfl ?_ | refine JC.condT rfl ?_ | (refine JC.cond rfl (fun hc => ?_) (fun hc => ?_) <;> ((try simp only [decide_eq_true_eq, decide_eq_false_iff_not, beq_iff_eq, beq_eq_false_iff_ne, bne_iff_ne, bne_eq_false_iff_eq, Bool.not_eq_true', Bool.not_eq_false', Bool.not_eq_true, Bool.not_eq_false] at hc) <;> first | (first | (exact absurd rfl hc) | (exfalso; omega) | (exact absurd (hc.symm.trans (by assumption : _ = false)) (by decide)) | (exact absurd (hc.symm.trans (by assumption : _ = true)) (by decide))) | skip)) | refine drawK.nn ?_ | refine loopK.x ?_)
      | (fail)
      | fail
    all_goals first | (exfalso; omega) | skip
    exact ret1f rfl rfl rfl (fun w1 hw => ⟨rfl, hw.below⟩)
  have hol := outC_len (X := vs.map pnV) (k := k) (by omega)
  rw [hXl] at hol
  have hmk := mem_g vs k hk
  have hVl := sl _ hmk
  have hVs := si _ hmk
  have hfk : formedP (pnV (vs.getD k default)) nn k = true := by
    have := formAll_at nn (vs.map pnV) 0 hFA k (by omega)
    rw [Int.zero_add, getD_map] at this
    exact this
  have hVo : ∀ i, i ∈ (vs.getD k default).l → 0 ≤ i ∧ i < k := formed_rng hfk
  obtain ⟨P, p0, pn, pb, ps⟩ := hX.run (i := k) (by omega)
  have hset := outC_set (X := vs.map pnV) (k := k) (by omega) (cN_last _ _ _ (by omega))
  rw [getD_map] at p0 pn pb ps
  obtain ⟨v, hv⟩ : ∃ v, vs.getD k default = v := ⟨_, rfl⟩
  rw [hv] at hVl hVs hVo p0 pn pb ps
  have p0 : P 0 = if v.kind = 0 ∨ v.kind = 4 then 0 else 1 := p0
  have pn : P v.l.length = (cN (vs.map pnV) (vs.map pnV).length).getD k default := pn
  have pb : ∀ q, q ≤ v.l.length → P q ≤ 2 ^ 128 := pb
  have ps : ∀ q, q < v.l.length → _ := ps
  have cOf : ∀ w, Calls Tryz.prog 107 #[.int .u64 1] w fun e w' => e = .returned (natV 1) ∧ Below w.heap.size w w' := fun w => ofN_any 1 (by decide) w
  have hz : natV 0 = .agg ⟨[.string (S [])]⟩ := rfl
  repeat' first
    | (refine J.isJ ?_; first | (first | (refine J.o 7 ?_; first | refine J.al (d := 6) hΓ (fun b6 => ?_) | refine J.al (d := 7) hΓ (fun b7 => ?_)) | (refine J.o 3 ?_; refine J.iJ hΓ ?_ (hs := so)) | (refine J.o 4 ?_; refine J.lT default hΓ ?_ (hs := so) (hr := q0 _); rw [hv]) | (refine J.fc 107 ?_; refine J.call0 eOfN rfl rfl (fun w hw => cOf w) ?_)) | (first | (refine J.o 0 ?_; refine J.ev' hΓ ?_) | refine J.nil ?_ | refine J.kd ?_ | (refine J.o 4 ?_; first | refine J.lT default hΓ ?_ | refine J.lR hΓ ?_) | (refine J.o 3 ?_; first | refine J.iJ hΓ ?_ | refine J.ev' hΓ ?_) | (refine J.o 1 ?_; first | refine J.ad ?_) | (refine J.o 5 ?_; first | refine J.t0 hΓ ?_ | refine J.t1 hΓ ?_ | refine J.tT2 _ default hΓ (fun _ _ => ?_)) | (refine J.o 6 ?_; refine J.bx (fun _ => ?_)) | (refine J.o 7 ?_; refine J.al hΓ (fun _ => ?_)) | (refine J.o 8 ?_; refine J.bd hΓ ?_) | (refine J.o 10 ?_; refine J.ev' hΓ ?_) | (refine J.o 11 ?_; refine J.ev' hΓ ?_)) | ((fail_if_success refine J.wt ?_); refine J.gc rfl rfl (fun hc => ?_) (fun hc => ?_) <;> ((try simp only [decide_eq_true_eq, decide_eq_false_iff_not, beq_iff_eq, beq_eq_false_iff_ne, bne_iff_ne, bne_eq_false_iff_eq, Bool.not_eq_true', Bool.not_eq_false', Bool.not_eq_true, Bool.not_eq_false] at hc) <;> first | (first | (exact absurd rfl hc) | (exfalso; omega) | (exact absurd (hc.symm.trans (by assumption : _ = false)) (by decide)) | (exact absurd (hc.symm.trans (by assumption : _ = true)) (by decide))) | skip)))
    | (first | refine JC.seq ?_ | refine JC.region ?_ | refine JC.block ?_ | refine JC.ret ?_ | refine JC.exit ?_ | refine JC.skip ?_ | refine thenK.nn ?_ | refine thenK.x ?_ | refine blockK.nn ?_ | refine blockK.hit rfl ?_ | refine JC.condT rfl ?_ | (refine JC.cond rfl (fun hc => ?_) (fun hc => ?_) <;> ((try simp only [decide_eq_true_eq, decide_eq_false_iff_not, beq_iff_eq, beq_eq_false_iff_ne, bne_iff_ne, bne_eq_false_iff_eq, Bool.not_eq_true', Bool.not_eq_false', Bool.not_eq_true, Bool.not_eq_false] at hc) <;> first | (first | (exact absurd rfl hc) | (exfalso; omega) | (exact absurd (hc.symm.trans (by assumption : _ = false)) (by decide)) | (exact absurd (hc.symm.trans (by assumption : _ = true)) (by decide))) | skip)) | refine drawK.nn ?_ | refine loopK.x ?_)
    | (fail)
    | fail
  all_goals first | (exfalso; omega) | skip
  all_goals first | rw [if_pos (by omega)] at p0 | rw [if_neg (by omega)] at p0
  all_goals refine JC.loopG (fun i => i == 9 || Nat.ble 37 i) (fun m g L' => ∃ (q : Nat), g 37 = .int .i64 (q : Int) ∧ q + m = v.l.length ∧ L' = [(b7, .cells ⟨[.string (S (bytesN (P q)))]⟩ 59 (0, 0))] :: [[_], ho, hV, [_]]) v.l.length ⟨0, rfl, by omega, by rw [p0]; try rfl⟩ ?_
  all_goals rintro m2 g2 _ ⟨q, e37, hqm, rfl⟩
  all_goals refine JC.pin 37 e37 ?_
  all_goals clear e37
  all_goals (
    rcases Nat.lt_or_ge q v.l.length with hq | hq
    case inr =>
      obtain rfl : q = v.l.length := by omega
      rw [pn]
      repeat' first
        | (refine J.isJ ?_; first | (first | (refine J.o 3 ?_; refine J.iJ hΓ ?_ (hs := oo.sl)) | (refine J.o 5 ?_; refine J.tT2 ((cN (vs.map pnV) (vs.map pnV).length).getD k default) default hΓ (fun h5 o5 => ?_))) | (first | (refine J.o 0 ?_; refine J.ev' hΓ ?_) | refine J.nil ?_ | refine J.kd ?_ | (refine J.o 4 ?_; first | refine J.lT default hΓ ?_ | refine J.lR hΓ ?_) | (refine J.o 3 ?_; first | refine J.iJ hΓ ?_ | refine J.ev' hΓ ?_) | (refine J.o 1 ?_; first | refine J.ad ?_) | (refine J.o 5 ?_; first | refine J.t0 hΓ ?_ | refine J.t1 hΓ ?_ | refine J.tT2 _ default hΓ (fun _ _ => ?_)) | (refine J.o 6 ?_; refine J.bx (fun _ => ?_)) | (refine J.o 7 ?_; refine J.al hΓ (fun _ => ?_)) | (refine J.o 8 ?_; refine J.bd hΓ ?_) | (refine J.o 10 ?_; refine J.ev' hΓ ?_) | (refine J.o 11 ?_; refine J.ev' hΓ ?_)) | ((fail_if_success refine J.wt ?_); refine J.gc rfl rfl (fun hc => ?_) (fun hc => ?_) <;> ((try simp only [decide_eq_true_eq, decide_eq_false_iff_not, beq_iff_eq, beq_eq_false_iff_ne, bne_iff_ne, bne_eq_false_iff_eq, Bool.not_eq_true', Bool.not_eq_false', Bool.not_eq_true, Bool.not_eq_false] at hc) <;> first | (first | (exact absurd rfl hc) | (exfalso; omega) | (exact absurd (hc.symm.trans (by assumption : _ = false)) (by decide)) | (exact absurd (hc.symm.trans (by assumption : _ = true)) (by decide))) | skip)))
        | (first | refine JC.seq ?_ | refine JC.region ?_ | refine JC.block ?_ | refine JC.ret ?_ | refine JC.exit ?_ | refine JC.skip ?_ | refine thenK.nn ?_ | refine thenK.x ?_ | refine blockK.nn ?_ | refine blockK.hit rfl ?_ | refine JC.condT rfl ?_ | (refine JC.cond rfl (fun hc => ?_) (fun hc => ?_) <;> ((try simp only [decide_eq_true_eq, decide_eq_false_iff_not, beq_iff_eq, beq_eq_false_iff_ne, bne_iff_ne, bne_eq_false_iff_eq, Bool.not_eq_true', Bool.not_eq_false', Bool.not_eq_true, Bool.not_eq_false] at hc) <;> first | (first | (exact absurd rfl hc) | (exfalso; omega) | (exact absurd (hc.symm.trans (by assumption : _ = false)) (by decide)) | (exact absurd (hc.symm.trans (by assumption : _ = true)) (by decide))) | skip)) | refine drawK.nn ?_ | refine loopK.x ?_)
        | (fail)
        | fail
      all_goals first | (exfalso; omega) | skip
      rw [hset] at o5
      refine loopK.nn (m - 1) (by omega) (by repeat (first | refine Ag.upd rfl ?_ | exact Ag.hv | refine Ag.hv2 (fun i hi => by simp at hi ⊢; omega) ?_)) ⟨_, ⟨k + 1, h5, ?_, by omega, o5, rfl⟩, fun w hw => H.sel (l := [_, _, _, _, _]) (M := []) hw [2, 3, 4]⟩
      show Value.int .i64 _ = _; congr 1
    have hj := hVo _ (mem_g v.l q hq)
    have pbq := pb q (by omega)
    have pbq1 := pb (q + 1) (by omega)
    have tb := T_le hX.hn hX.sm hX.dd (k := v.l.getD q default) (by omega)
    have hot := outC_at (X := vs.map pnV) (k := k) (j := (v.l.getD q default).toNat) (by omega) (by omega)
    have l1 := bytes_128 pbq
    have l2 := bytes_128 tb
    have l3 := bytes_128 pbq1
    have l4 := lenB_le (bytesN (P (q + 1)))
    have cL := fun w => lenN_any (P (q + 1)) (by omega) w
    rcases ps q hq with ⟨h3, hp⟩ | ⟨h4, hp⟩
    · have h3 : v.kind = 3 := h3
      have cM := fun w => mul_any (P q) ((cN (vs.map pnV) (vs.map pnV).length).getD (v.l.getD q default).toNat default) (by omega) (by omega) w
      rw [← show P (q + 1) = P q * (cN (vs.map pnV) (vs.map pnV).length).getD (v.l.getD q default).toNat default from hp] at cM
      repeat' first
        | (refine J.isJ ?_; first | (first | (refine J.o 3 ?_; first | refine J.iJ hΓ ?_ (hs := hVs) | refine J.iJ hΓ ?_ (hs := oo.sl)) | (refine J.o 4 ?_; first | refine J.lT default hΓ ?_ (hs := hVs) (hr := q0 _) | (refine J.lT default hΓ ?_ (hs := oo.sl) (hr := RdH.hd.tl.tl); rw [hot])) | (refine J.fc 111 ?_; refine J.call0 eMul rfl rfl (fun w hw => cM w) ?_) | (refine J.fc 131 ?_; refine J.call0 eLenN rfl rfl (fun w hw => cL w) ?_)) | (first | (refine J.o 0 ?_; refine J.ev' hΓ ?_) | refine J.nil ?_ | refine J.kd ?_ | (refine J.o 4 ?_; first | refine J.lT default hΓ ?_ | refine J.lR hΓ ?_) | (refine J.o 3 ?_; first | refine J.iJ hΓ ?_ | refine J.ev' hΓ ?_) | (refine J.o 1 ?_; first | refine J.ad ?_) | (refine J.o 5 ?_; first | refine J.t0 hΓ ?_ | refine J.t1 hΓ ?_ | refine J.tT2 _ default hΓ (fun _ _ => ?_)) | (refine J.o 6 ?_; refine J.bx (fun _ => ?_)) | (refine J.o 7 ?_; refine J.al hΓ (fun _ => ?_)) | (refine J.o 8 ?_; refine J.bd hΓ ?_) | (refine J.o 10 ?_; refine J.ev' hΓ ?_) | (refine J.o 11 ?_; refine J.ev' hΓ ?_)) | ((fail_if_success refine J.wt ?_); refine J.gc rfl rfl (fun hc => ?_) (fun hc => ?_) <;> ((try simp only [decide_eq_true_eq, decide_eq_false_iff_not, beq_iff_eq, beq_eq_false_iff_ne, bne_iff_ne, bne_eq_false_iff_eq, Bool.not_eq_true', Bool.not_eq_false', Bool.not_eq_true, Bool.not_eq_false] at hc) <;> first | (first | (exact absurd rfl hc) | (exfalso; omega) | (exact absurd (hc.symm.trans (by assumption : _ = false)) (by decide)) | (exact absurd (hc.symm.trans (by assumption : _ = true)) (by decide))) | skip)))
        | (first | refine JC.seq ?_ | refine JC.region ?_ | refine JC.block ?_ | refine JC.ret ?_ | refine JC.exit ?_ | refine JC.skip ?_ | refine thenK.nn ?_ | refine thenK.x ?_ | refine blockK.nn ?_ | refine blockK.hit rfl ?_ | refine JC.condT rfl ?_ | (refine JC.cond rfl (fun hc => ?_) (fun hc => ?_) <;> ((try simp only [decide_eq_true_eq, decide_eq_false_iff_not, beq_iff_eq, beq_eq_false_iff_ne, bne_iff_ne, bne_eq_false_iff_eq, Bool.not_eq_true', Bool.not_eq_false', Bool.not_eq_true, Bool.not_eq_false] at hc) <;> first | (first | (exact absurd rfl hc) | (exfalso; omega) | (exact absurd (hc.symm.trans (by assumption : _ = false)) (by decide)) | (exact absurd (hc.symm.trans (by assumption : _ = true)) (by decide))) | skip)) | refine drawK.nn ?_ | refine loopK.x ?_)
        | ((refine JC.drawO [(1,0),(0,1),(0,2),(0,3),(1,4),(1,5),(2,6)] (by decide +kernel) (by decide +kernel) ?_))
        | fail
      all_goals first | (exfalso; omega) | skip
      all_goals refine loopK.nn (m2 - 1) (by omega) (by repeat (first | refine Ag.upd rfl ?_ | exact Ag.hv | refine Ag.hv2 (fun i hi => by simp at hi ⊢; omega) ?_)) ⟨_, ⟨q + 1, ?_, by omega, rfl⟩, fun w hw => hw⟩
      all_goals (show Value.int .i64 _ = _; congr 1)
    · have h4 : v.kind = 4 := h4
      obtain ⟨s1, hs1⟩ : ∃ s1, minS ((varT (vs.map pnV)).getD k default) ((varT (vs.map pnV)).getD (v.l.getD q default).toNat default) = s1 := ⟨_, rfl⟩
      have hk1 := okS_d _ hokT k
      have hk2 := okS_d _ hokT (v.l.getD q default).toNat
      have hp : P (q + 1) = P q + (cN (vs.map pnV) (vs.map pnV).length).getD (v.l.getD q default).toNat default * 2 ^ cardS s1 := by rw [← hs1]; exact hp
      have c0 := fun w => minus_any _ _ hk1 hk2 w
      have ho1 : okS s1 := by rw [← hs1]; exact okS_min hk1
      rw [hs1] at c0
      have cc := cardS_le s1
      have cp : 2 ^ cardS s1 ≤ 2 ^ 128 := Nat.pow_le_pow_right (by omega) cc
      have l5 := bytes_128 cp
      have l6 := bytes_128 (v := (cN (vs.map pnV) (vs.map pnV).length).getD (v.l.getD q default).toNat default * 2 ^ cardS s1) (by omega)
      have cP := fun w => pow2_any (cardS s1) (by omega) w
      have cM := fun w => mul_any ((cN (vs.map pnV) (vs.map pnV).length).getD (v.l.getD q default).toNat default) (2 ^ cardS s1) (by omega) (by omega) w
      have cA := fun w => add_any2 (P q) ((cN (vs.map pnV) (vs.map pnV).length).getD (v.l.getD q default).toNat default * 2 ^ cardS s1) (by omega) (by omega) w
      rw [← hp] at cA
      repeat' first
        | (refine J.isJ ?_; first | (first | (refine J.o 3 ?_; first | refine J.iJ hΓ ?_ (hs := hVs) | refine J.iJ hΓ ?_ (hs := oo.sl) | refine J.iJ hΓ ?_ (hs := sV)) | (refine J.o 4 ?_; first | refine J.lT default hΓ ?_ (hs := hVs) (hr := q0 _) | (refine J.lT default hΓ ?_ (hs := oo.sl) (hr := RdH.hd.tl.tl); rw [hot]) | refine J.lT default hΓ ?_ (hs := sV) (hr := RdH.hd.tl.tl.tl)) | (refine J.fc 100 ?_; refine J.call0 eMinus rfl rfl (fun w hw => c0 w) ?_) | (refine J.fc 105 ?_; refine J.call1 eList rfl rfl (fun w hw => list_any s1 ho1 w (hT.below hw.below)) ?_; rintro _ hL ⟨aL, cLL, rfl, oL⟩) | (refine J.fc 130 ?_; refine J.call0 ePow2 rfl rfl (fun w hw => cP w) ?_) | (refine J.fc 110 ?_; refine J.call0 eNatAdd rfl rfl (fun w hw => cA w) ?_) | (refine J.fc 111 ?_; refine J.call0 eMul rfl rfl (fun w hw => cM w) ?_) | (refine J.fc 131 ?_; refine J.call0 eLenN rfl rfl (fun w hw => cL w) ?_)) | (first | (refine J.o 0 ?_; refine J.ev' hΓ ?_) | refine J.nil ?_ | refine J.kd ?_ | (refine J.o 4 ?_; first | refine J.lT default hΓ ?_ | refine J.lR hΓ ?_) | (refine J.o 3 ?_; first | refine J.iJ hΓ ?_ | refine J.ev' hΓ ?_) | (refine J.o 1 ?_; first | refine J.ad ?_) | (refine J.o 5 ?_; first | refine J.t0 hΓ ?_ | refine J.t1 hΓ ?_ | refine J.tT2 _ default hΓ (fun _ _ => ?_)) | (refine J.o 6 ?_; refine J.bx (fun _ => ?_)) | (refine J.o 7 ?_; refine J.al hΓ (fun _ => ?_)) | (refine J.o 8 ?_; refine J.bd hΓ ?_) | (refine J.o 10 ?_; refine J.ev' hΓ ?_) | (refine J.o 11 ?_; refine J.ev' hΓ ?_)) | ((fail_if_success refine J.wt ?_); refine J.gc rfl rfl (fun hc => ?_) (fun hc => ?_) <;> ((try simp only [decide_eq_true_eq, decide_eq_false_iff_not, beq_iff_eq, beq_eq_false_iff_ne, bne_iff_ne, bne_eq_false_iff_eq, Bool.not_eq_true', Bool.not_eq_false', Bool.not_eq_true, Bool.not_eq_false] at hc) <;> first | (first | (exact absurd rfl hc) | (exfalso; omega) | (exact absurd (hc.symm.trans (by assumption : _ = false)) (by decide)) | (exact absurd (hc.symm.trans (by assumption : _ = true)) (by decide))) | skip)))
        | (first | refine JC.seq ?_ | refine JC.region ?_ | refine JC.block ?_ | refine JC.ret ?_ | refine JC.exit ?_ | refine JC.skip ?_ | refine thenK.nn ?_ | refine thenK.x ?_ | refine blockK.nn ?_ | refine blockK.hit rfl ?_ | refine JC.condT rfl ?_ | (refine JC.cond rfl (fun hc => ?_) (fun hc => ?_) <;> ((try simp only [decide_eq_true_eq, decide_eq_false_iff_not, beq_iff_eq, beq_eq_false_iff_ne, bne_iff_ne, bne_eq_false_iff_eq, Bool.not_eq_true', Bool.not_eq_false', Bool.not_eq_true, Bool.not_eq_false] at hc) <;> first | (first | (exact absurd rfl hc) | (exfalso; omega) | (exact absurd (hc.symm.trans (by assumption : _ = false)) (by decide)) | (exact absurd (hc.symm.trans (by assumption : _ = true)) (by decide))) | skip)) | refine drawK.nn ?_ | refine loopK.x ?_)
        | ((refine JC.drawO [(1,0),(0,1),(0,2),(0,3),(1,4),(0,5),(0,6),(0,7),(1,8),(0,9),(0,10),(0,11),(1,12),(1,13),(3,14),(0,15),(1,16),(1,17),(1,18),(2,19)] (by decide +kernel) (by decide +kernel) ?_))
        | fail
      all_goals first | (exfalso; omega) | skip
      all_goals refine loopK.nn (m2 - 1) (by omega) (by repeat (first | refine Ag.upd rfl ?_ | exact Ag.hv | refine Ag.hv2 (fun i hi => by simp at hi ⊢; omega) ?_)) ⟨_, ⟨q + 1, ?_, by omega, rfl⟩, fun w hw => hw.drop⟩
      all_goals (show Value.int .i64 _ = _; congr 1))
theorem eCheckCt : Entr Tryz.prog 68 := Entr.of Tryz.func68 rfl rfl
theorem checkC_any (nn : Nat) (a : Option Addr) (cap : Nat) (vs : List NV) (h : Heap) (hr : NetIn a vs h) (hX : CntN nn (vs.map pnV)) (w : World) (hT : Tab64 w) (hw : Holds h w) :
    Calls Tryz.prog 68 #[.agg ⟨[.int .i64 (nn : Int), .slice a vs.length cap]⟩] w fun e w' => e = .returned (.int .i64 0) ∧ Below w.heap.size w w' := by
  have q0 : ∀ L, RdH h L h := fun L => RdH.old fun _ hh => hh
  have cC := fun w hw => checkN_any (nn : Int) a cap vs h hr w hw
  rw [hX.ck, if_pos rfl] at cC
  have cD := fun w hw => decomp_any (nn : Int) a cap vs h hr hX.ck (hX.dd.decP hX.sm) w hw
  have cS := fun w hT hw => short_any nn a cap vs h hr hX w hT hw
  refine calls_of_JC (R := h) Tryz.func68 Tryz.ntmps68 rfl rfl (hw) ?_
  repeat' first
    | (refine J.isJ ?_; first | (first | (refine J.fc 60 ?_; refine J.call0 eCheckN rfl rfl (fun w hw => cC w (hw.rdH (q0 _))) ?_) | (refine J.fc 101 ?_; refine J.call0 eDecomp rfl rfl (fun w hw => cD w (hw.rdH (q0 _))) ?_) | (refine J.fc 102 ?_; refine J.call0 eShort rfl rfl (fun w hw => cS w (hT.below hw.below) (hw.rdH (q0 _))) ?_)) | (first | (refine J.o 0 ?_; refine J.ev' hΓ ?_) | refine J.nil ?_ | (refine J.o 4 ?_; first | refine J.lR hΓ ?_) | (refine J.o 3 ?_; first | refine J.ev' hΓ ?_) | (refine J.o 6 ?_; refine J.bx (fun _ => ?_)) | (refine J.o 10 ?_; refine J.ev' hΓ ?_) | (refine J.o 11 ?_; refine J.ev' hΓ ?_)))
    | (first | refine JC.seq ?_ | refine JC.region ?_ | refine JC.ret ?_ | refine JC.skip ?_ | refine thenK.nn ?_ | refine JC.condF rfl ?_)
    | (fail)
    | fail
  all_goals first | (exfalso; omega) | skip
  all_goals exact ret1f rfl rfl rfl (fun w1 hw => ⟨rfl, hw.below⟩)
end Go.Proofs.YtdiciemlbhkilaaGreatDoor
namespace Go.Proofs.YtdiciemlbhkilaaGreatDoor
open Go Go.Cx Go.RowKit
set_option linter.unusedVariables false
set_option linter.unusedSimpArgs false
set_option maxHeartbeats 4000000
attribute [local irreducible] J JC thenK blockK loopK roundK drawK retK QW Qt pel List.set Calls
set_option maxRecDepth 8000
attribute [local irreducible] JE Br eK0 eK3 brK cN proC sumC outC
theorem eNumb : Entr Tryz.prog 70 := Entr.of Tryz.func70 rfl rfl
theorem eNum1 : Entr Tryz.prog 106 := Entr.of Tryz.func106 rfl rfl
theorem eNum2 : Entr Tryz.prog 108 := Entr.of Tryz.func108 rfl rfl
theorem eNum3 : Entr Tryz.prog 109 := Entr.of Tryz.func109 rfl rfl
theorem eNum4 : Entr Tryz.prog 112 := Entr.of Tryz.func112 rfl rfl
theorem eWide1 : Entr Tryz.prog 104 := Entr.of Tryz.func104 rfl rfl
theorem one_any (w : World) : Calls Tryz.prog 107 #[.int .u64 1] w fun e w' => e = .returned (natV 1) ∧ Below w.heap.size w w' := ofN_any 1 (by decide) w
def zO (b : Nat) : Heap := [(b, .cells ⟨[.int .i64 0]⟩ 3 (0, 0))]
def wF (b : Nat) : Value := .func (.func 106) ⟨[]⟩ ⟨[.pointer (some ⟨b, 0, none⟩)]⟩
def wO (b3 b1 : Nat) : Heap := [(b3, .cells ⟨[wF b1]⟩ 112 (0, 0))]
def rC (b3 b1 : Nat) : List Value := [.func (.func 108) ⟨[]⟩ ⟨[]⟩, .func (.func 109) ⟨[]⟩ ⟨[]⟩, .func (.func 110) ⟨[]⟩ ⟨[]⟩, .func (.func 111) ⟨[]⟩ ⟨[]⟩, wF b1, .func (.func 112) ⟨[]⟩ ⟨[.pointer (some ⟨b3, 0, none⟩)]⟩]
theorem num1_any (l : Int) (hl : l ≠ 0) (b : Nat) (w : World) (hw : Holds (zO b) w) : Calls Tryz.prog 106 #[.int .i64 l, .pointer (some ⟨b, 0, none⟩)] w fun e w' => e = .returned (natV 1) ∧ Below w.heap.size w w' := by
  refine calls_of_JC (R := zO b) Tryz.func106 Tryz.ntmps106 rfl rfl (hw) ?_
  repeat' first
    | (refine J.isJ ?_; first | (first | (refine J.o 4 ?_; refine J.lR hΓ ?_ (hr := Rd.old (List.mem_singleton.2 rfl))) | (refine J.fc 107 ?_; refine J.call0 eOfN rfl rfl (fun w hw => one_any w) ?_)) | (first | (refine J.o 0 ?_; refine J.ev' hΓ ?_) | refine J.nil ?_ | (refine J.o 4 ?_; first | refine J.lR hΓ ?_) | (refine J.o 3 ?_; first | refine J.ev' hΓ ?_) | (refine J.o 5 ?_; first | refine J.t0 hΓ ?_) | (refine J.o 7 ?_; refine J.al hΓ (fun _ => ?_)) | (refine J.o 10 ?_; refine J.ev' hΓ ?_) | (refine J.o 11 ?_; refine J.ev' hΓ ?_)))
    | (first | refine JC.seq ?_ | refine JC.region ?_ | refine JC.ret ?_ | refine JC.skip ?_ | refine thenK.nn ?_ | (refine JC.cond rfl (fun hc => ?_) (fun hc => ?_) <;> ((try simp only [decide_eq_true_eq, decide_eq_false_iff_not, beq_iff_eq, beq_eq_false_iff_ne, bne_iff_ne, bne_eq_false_iff_eq, Bool.not_eq_true', Bool.not_eq_false', Bool.not_eq_true, Bool.not_eq_false] at hc) <;> first | (first | (exact absurd rfl hc) | (exfalso; omega) | (exact absurd (hc.symm.trans (by assumption : _ = false)) (by decide)) | (exact absurd (hc.symm.trans (by assumption : _ = true)) (by decide))) | skip)))
    | (fail)
    | fail
  all_goals first | (exfalso; omega) | skip
  all_goals exact retC hΓ rfl rfl rfl Rd.hd rfl (fun w1 hw => ⟨rfl, hw.below⟩)
theorem num2_any (w : World) : Calls Tryz.prog 108 #[] w fun e w' => e = .returned (natV 0) ∧ Below w.heap.size w w' := by
  refine calls_of_JC (R := []) Tryz.func108 Tryz.ntmps108 rfl rfl (Holds.nil _) ?_
  repeat' first
    | (refine J.isJ ?_; first | (fail) | (first | refine J.nil ?_ | (refine J.o 5 ?_; first | refine J.t0 hΓ ?_) | (refine J.o 7 ?_; refine J.al hΓ (fun _ => ?_)) | (refine J.o 8 ?_; refine J.bd hΓ ?_)))
    | (first | refine JC.seq ?_ | refine JC.region ?_ | refine JC.ret ?_ | refine thenK.nn ?_)
    | (fail)
    | fail
  all_goals exact retC hΓ rfl rfl rfl Rd.hd rfl (fun w1 hw => ⟨rfl, hw.below⟩)
theorem num3_any (w : World) : Calls Tryz.prog 109 #[] w fun e w' => e = .returned (natV 1) ∧ Below w.heap.size w w' := by
  refine calls_of_JC (R := []) Tryz.func109 Tryz.ntmps109 rfl rfl (Holds.nil _) ?_
  repeat' first
    | (refine J.isJ ?_; first | ((refine J.fc 107 ?_; refine J.call0 eOfN rfl rfl (fun w hw => one_any w) ?_)) | (first | refine J.nil ?_ | (refine J.o 5 ?_; first | refine J.t0 hΓ ?_) | (refine J.o 7 ?_; refine J.al hΓ (fun _ => ?_))))
    | (first | refine JC.seq ?_ | refine JC.region ?_ | refine JC.ret ?_ | refine thenK.nn ?_)
    | (fail)
    | fail
  all_goals exact retC hΓ rfl rfl rfl Rd.hd rfl (fun w1 hw => ⟨rfl, hw.below⟩)
theorem num4_any (v : Int) (hv : 1 ≤ v ∧ v ≤ 128) (b3 b1 : Nat) (w : World) (hw : Holds (wO b3 b1 ++ zO b1) w) : Calls Tryz.prog 112 #[.int .i64 v, .pointer (some ⟨b3, 0, none⟩)] w fun e w' => e = .returned (natV 2) ∧ Below w.heap.size w w' := by
  have cA := fun w => add_any2 1 1 (Nat.le_trans (bytesN_len (k := 1) (by decide)) (by decide)) (Nat.le_trans (bytesN_len (k := 1) (by decide)) (by decide)) w
  have q0 : ∀ L, RdH (wO b3 b1 ++ zO b1) L (zO b1) := fun L => RdH.old fun _ hh => List.mem_append_right _ hh
  have r3 : ∀ L, Rd (wO b3 b1 ++ zO b1) L b3 (.cells ⟨[wF b1]⟩ 112 (0, 0)) := fun L => Rd.old (List.mem_append_left _ (List.mem_singleton.2 rfl))
  have c1 := fun w hw => num1_any v (by omega) b1 w hw
  have c2 := fun w hw => num1_any (-v) (by omega) b1 w hw
  refine calls_of_JC (R := wO b3 b1 ++ zO b1) Tryz.func112 Tryz.ntmps112 rfl rfl (hw) ?_
  repeat' first
    | (refine J.isJ ?_; first | (first | (refine J.o 4 ?_; refine J.lR hΓ ?_ (hr := r3 _)) | (refine J.o 9 ?_; first | refine J.callv0 eNum1 rfl rfl rfl (fun w hw => c1 w (hw.rdH (q0 _))) ?_ | refine J.callv0 eNum1 rfl rfl rfl (fun w hw => c2 w (hw.rdH (q0 _))) ?_) | (refine J.fc 110 ?_; refine J.call0 eNatAdd rfl rfl (fun w hw => cA w) ?_)) | (first | (refine J.o 0 ?_; refine J.ev' hΓ ?_) | refine J.nil ?_ | (refine J.o 4 ?_; first | refine J.lR hΓ ?_) | (refine J.o 3 ?_; first | refine J.ev' hΓ ?_) | (refine J.o 1 ?_; first | refine J.ng ?_) | (refine J.o 5 ?_; first | refine J.t0 hΓ ?_) | (refine J.o 7 ?_; refine J.al hΓ (fun _ => ?_)) | (refine J.o 10 ?_; refine J.ev' hΓ ?_) | (refine J.o 11 ?_; refine J.ev' hΓ ?_)))
    | (first | refine JC.seq ?_ | refine JC.region ?_ | refine JC.ret ?_ | refine thenK.nn ?_ | refine drawK.nn ?_)
    | ((refine JC.drawO [(1,0),(0,1),(1,2),(1,3),(0,4),(0,5),(1,6),(1,7),(2,8)] (by decide +kernel) (by decide +kernel) ?_))
    | fail
  all_goals first | (exfalso; omega) | skip
  all_goals exact retC hΓ rfl rfl rfl Rd.hd rfl (fun w1 hw => ⟨rfl, hw.below⟩)
theorem numb_any {w0 w : World} {R : Heap} {L : List Heap} (hw : H w0 R L w) : Calls Tryz.prog 70 #[.int .i64 0] w fun e w' => ∃ v L', e = .returned v ∧ H w0 R L' w' ∧ ∃ b3 b1, v = .agg ⟨rC b3 b1⟩ ∧ L' = wO b3 b1 :: zO b1 :: L := by
  refine calls_in Tryz.func70 Tryz.ntmps70 rfl rfl (hw) ?_
  repeat' first
    | (refine J.isJ ?_; first | (first | (refine J.o 6 ?_; refine J.bx (fun b1 => ?_)) | (refine J.o 7 ?_; first | refine J.al (d := 2) hΓ (fun b2 => ?_) | refine J.al (d := 3) hΓ (fun b3 => ?_)) | (refine J.o 14 ?_; first | refine J.mfV [.pointer (some ⟨b1, 0, none⟩)] hΓ ?_ | refine J.mfV [.pointer (some ⟨b3, 0, none⟩)] hΓ ?_)) | (first | refine J.nil ?_ | (refine J.o 4 ?_; first | refine J.lR hΓ ?_) | (refine J.o 5 ?_; first | refine J.t0 hΓ ?_ | refine J.t1 hΓ ?_) | (refine J.o 6 ?_; refine J.bx (fun _ => ?_)) | (refine J.o 7 ?_; refine J.al hΓ (fun _ => ?_)) | (refine J.o 8 ?_; refine J.bd hΓ ?_)))
    | (first | refine JC.seq ?_ | refine JC.region ?_ | refine JC.ret ?_ | refine thenK.nn ?_)
    | (fail)
    | fail
  all_goals first | (exfalso; omega) | skip
  refine retC hΓ rfl rfl rfl (by first | exact Rd.hd.tl | exact Rd.hd) rfl (fun w1 hw => ⟨_, _, rfl, H.sel (l := [_, _, _]) (M := L) hw [0, 2], b3, b1, rfl, rfl⟩)
set_option maxHeartbeats 16000000 in
theorem wide1_any (k : Int) (s t : Nat × Nat) (hs : okS s) (ht : okS t) (x : Nat) (hx : x ≤ 2 ^ 128) (T : List Nat) (V : List (Nat × Nat)) (hk : 0 ≤ k ∧ k < T.length ∧ k < V.length) (eT : T.getD k.toNat default = x) (eV : V.getD k.toNat default = t) (aO aV : Option Addr) (cO cV bO bV bR b3 b1 : Nat) (hO hV : Heap) (sO : SlT encNt 1 aO T hO) (sV : SlT encS 2 aV V hV)
    (R : Heap) (rO : (bO, Obj.cells ⟨[.slice aO T.length cO]⟩ 152 (0, 0)) ∈ R) (rV : (bV, Obj.cells ⟨[.slice aV V.length cV]⟩ 35 (0, 0)) ∈ R) (rR : (bR, Obj.cells ⟨rC b3 b1⟩ 114 (0, 0)) ∈ R) (r3 : ∀ y, y ∈ wO b3 b1 ++ zO b1 → y ∈ R) (q1 : ∀ y, y ∈ hO → y ∈ R) (q2 : ∀ y, y ∈ hV → y ∈ R) (w : World) (hT : Tab64 w) (hw : Holds R w) :
    Calls Tryz.prog 104 #[.int .i64 k, sv s, .pointer (some ⟨bO, 0, none⟩), .pointer (some ⟨bV, 0, none⟩), .pointer (some ⟨bR, 0, none⟩)] w fun e w' => e = .returned (natV (x * 2 ^ cardS (minS s t))) ∧ Below w.heap.size w w' := by
  have hc := cardS_le (minS s t)
  have c0 := fun w => minus_any s t hs ht w
  have ho1 : okS (minS s t) := okS_min hs
  unfold cardS at hc ⊢
  have hmem := fun u (hu : u ∈ memS (minS s t)) => has_rng ((mem_memS (minS s t) u).1 hu)
  generalize minS s t = d at *
  have c4 := fun v hv w hw => num4_any v hv b3 b1 w hw
  refine calls_of_JC (R := R) Tryz.func104 Tryz.ntmps104 rfl rfl (hw) ?_
  repeat' first
    | (refine J.isJ ?_; first | (first | (refine J.o 7 ?_; first | refine J.al (d := 7) hΓ (fun b7 => ?_) | refine J.al (d := 8) hΓ (fun b8 => ?_)) | (refine J.o 4 ?_; first | refine J.lR hΓ ?_ (hr := Rd.old rO) | refine J.lR hΓ ?_ (hr := Rd.old rV) | (refine J.lT default hΓ ?_ (hs := sO) (hr := RdH.old q1); rw [eT]) | (refine J.lT default hΓ ?_ (hs := sV) (hr := RdH.old q2); rw [eV])) | (refine J.o 3 ?_; first | refine J.iJ hΓ ?_ (hs := sO) | refine J.iJ hΓ ?_ (hs := sV)) | (refine J.fc 100 ?_; refine J.call0 eMinus rfl rfl (fun w hw => c0 w) ?_) | (refine J.fc 105 ?_; refine J.call1 eList rfl rfl (fun w hw => list_any d ho1 w (hT.below hw.below)) ?_; rintro _ hL ⟨aL, cLL, rfl, oL⟩)) | (first | (refine J.o 0 ?_; refine J.ev' hΓ ?_) | refine J.nil ?_ | (refine J.o 4 ?_; first | refine J.lT default hΓ ?_ | refine J.lR hΓ ?_) | (refine J.o 3 ?_; first | refine J.iJ hΓ ?_ | refine J.ev' hΓ ?_) | (refine J.o 1 ?_; first | refine J.ad ?_) | (refine J.o 5 ?_; first | refine J.t0 hΓ ?_ | refine J.t1 hΓ ?_ | refine J.t2 hΓ ?_) | (refine J.o 6 ?_; refine J.bx (fun _ => ?_)) | (refine J.o 7 ?_; refine J.al hΓ (fun _ => ?_)) | (refine J.o 10 ?_; refine J.ev' hΓ ?_) | (refine J.o 11 ?_; refine J.ev' hΓ ?_)))
    | (first | refine JC.seq ?_ | refine JC.region ?_ | refine JC.block ?_ | refine JC.ret ?_ | refine JC.exit ?_ | refine JC.skip ?_ | refine thenK.nn ?_ | refine thenK.x ?_ | refine blockK.nn ?_ | refine blockK.hit rfl ?_ | (refine JC.cond rfl (fun hc => ?_) (fun hc => ?_) <;> ((try simp only [decide_eq_true_eq, decide_eq_false_iff_not, beq_iff_eq, beq_eq_false_iff_ne, bne_iff_ne, bne_eq_false_iff_eq, Bool.not_eq_true', Bool.not_eq_false', Bool.not_eq_true, Bool.not_eq_false] at hc) <;> first | (first | (exact absurd rfl hc) | (exfalso; omega) | (exact absurd (hc.symm.trans (by assumption : _ = false)) (by decide)) | (exact absurd (hc.symm.trans (by assumption : _ = true)) (by decide))) | skip)) | refine drawK.nn ?_ | refine loopK.x ?_)
    | ((refine JC.drawO [(1,0),(1,1),(0,2),(0,3),(1,4),(1,5),(0,8),(3,6),(0,7)] (by decide +kernel) (by decide +kernel) ?_))
    | fail
  all_goals first | (exfalso; omega) | skip
  have e0 : x = x * 2 ^ 0 := by omega
  refine JC.loopG (fun i => i == 10 || Nat.ble 23 i) (fun m g L' => ∃ (q : Nat), g 23 = .int .i64 (q : Int) ∧ q + m = (memS d).length ∧ L' = [hL, [(b8, .cells ⟨[.string (S (bytesN (x * 2 ^ q)))]⟩ 59 (0, 0))], [_], [_]]) (memS d).length ⟨0, rfl, by omega, by rw [← e0]⟩ ?_
  rintro m g _ ⟨q, e23, hqm, rfl⟩
  refine JC.pin 23 e23 ?_
  clear e23
  rcases Nat.lt_or_ge q (memS d).length with hq | hq
  case inr =>
    obtain rfl : q = (memS d).length := by omega
    repeat' first
      | (refine J.isJ ?_; first | (fail) | (first | (refine J.o 0 ?_; refine J.ev' hΓ ?_) | refine J.nil ?_ | (refine J.o 4 ?_; first | refine J.lT default hΓ ?_ | refine J.lR hΓ ?_) | (refine J.o 3 ?_; first | refine J.iJ hΓ ?_ | refine J.ev' hΓ ?_) | (refine J.o 1 ?_; first | refine J.ad ?_) | (refine J.o 5 ?_; first | refine J.t0 hΓ ?_ | refine J.t1 hΓ ?_ | refine J.t2 hΓ ?_) | (refine J.o 6 ?_; refine J.bx (fun _ => ?_)) | (refine J.o 7 ?_; refine J.al hΓ (fun _ => ?_)) | (refine J.o 10 ?_; refine J.ev' hΓ ?_) | (refine J.o 11 ?_; refine J.ev' hΓ ?_)))
      | (first | refine JC.seq ?_ | refine JC.region ?_ | refine JC.block ?_ | refine JC.ret ?_ | refine JC.exit ?_ | refine JC.skip ?_ | refine thenK.nn ?_ | refine thenK.x ?_ | refine blockK.nn ?_ | refine blockK.hit rfl ?_ | (refine JC.cond rfl (fun hc => ?_) (fun hc => ?_) <;> ((try simp only [decide_eq_true_eq, decide_eq_false_iff_not, beq_iff_eq, beq_eq_false_iff_ne, bne_iff_ne, bne_eq_false_iff_eq, Bool.not_eq_true', Bool.not_eq_false', Bool.not_eq_true, Bool.not_eq_false] at hc) <;> first | (first | (exact absurd rfl hc) | (exfalso; omega) | (exact absurd (hc.symm.trans (by assumption : _ = false)) (by decide)) | (exact absurd (hc.symm.trans (by assumption : _ = true)) (by decide))) | skip)) | refine drawK.nn ?_ | refine loopK.x ?_)
      | (fail)
      | fail
    all_goals first | (exfalso; omega) | skip
    exact retC hΓ rfl rfl rfl Rd.hd.tl.tl rfl (fun w1 hw => ⟨rfl, hw.below⟩)
  have hu := hmem _ (mem_g (memS d) q hq)
  have c4 := c4 _ hu
  have b2 : x * 2 ^ q ≤ 2 ^ 256 := by
    have h1 : 2 ^ q ≤ 2 ^ 128 := Nat.pow_le_pow_right (by omega) (by omega)
    have h2 := Nat.mul_le_mul hx h1
    rwa [← Nat.pow_add] at h2
  have l1 := bytes_256 b2
  have l2 : (bytesN 2).length ≤ 1 := bytesN_len (by decide)
  have cM := fun w => mul_any (x * 2 ^ q) 2 (by omega) (by omega) w
  rw [Nat.mul_assoc, ← Nat.pow_succ] at cM
  have r3 : ∀ L, RdH R L (wO b3 b1 ++ zO b1) := fun L => RdH.old r3
  repeat' first
    | (refine J.isJ ?_; first | (first | (refine J.o 4 ?_; first | refine J.lT default hΓ ?_ (hs := oL.sl) (hr := RdH.hd) | refine J.lR hΓ ?_ (hr := Rd.old rR)) | (refine J.o 3 ?_; refine J.iJ hΓ ?_ (hs := oL.sl)) | (refine J.o 9 ?_; first | refine J.callv0 eNum4 rfl rfl rfl (fun w hw => c4 w (hw.rdH (r3 _))) ?_ | refine J.callv0 eMul rfl rfl rfl (fun w hw => cM w) ?_)) | (first | (refine J.o 0 ?_; refine J.ev' hΓ ?_) | refine J.nil ?_ | (refine J.o 4 ?_; first | refine J.lT default hΓ ?_ | refine J.lR hΓ ?_) | (refine J.o 3 ?_; first | refine J.iJ hΓ ?_ | refine J.ev' hΓ ?_) | (refine J.o 1 ?_; first | refine J.ad ?_) | (refine J.o 5 ?_; first | refine J.t0 hΓ ?_ | refine J.t1 hΓ ?_ | refine J.t2 hΓ ?_) | (refine J.o 6 ?_; refine J.bx (fun _ => ?_)) | (refine J.o 7 ?_; refine J.al hΓ (fun _ => ?_)) | (refine J.o 10 ?_; refine J.ev' hΓ ?_) | (refine J.o 11 ?_; refine J.ev' hΓ ?_)))
    | (first | refine JC.seq ?_ | refine JC.region ?_ | refine JC.block ?_ | refine JC.ret ?_ | refine JC.exit ?_ | refine JC.skip ?_ | refine thenK.nn ?_ | refine thenK.x ?_ | refine blockK.nn ?_ | refine blockK.hit rfl ?_ | (refine JC.cond rfl (fun hc => ?_) (fun hc => ?_) <;> ((try simp only [decide_eq_true_eq, decide_eq_false_iff_not, beq_iff_eq, beq_eq_false_iff_ne, bne_iff_ne, bne_eq_false_iff_eq, Bool.not_eq_true', Bool.not_eq_false', Bool.not_eq_true, Bool.not_eq_false] at hc) <;> first | (first | (exact absurd rfl hc) | (exfalso; omega) | (exact absurd (hc.symm.trans (by assumption : _ = false)) (by decide)) | (exact absurd (hc.symm.trans (by assumption : _ = true)) (by decide))) | skip)) | refine drawK.nn ?_ | refine loopK.x ?_)
    | ((refine JC.drawO [(0,0),(1,1),(1,2),(0,3),(1,4),(0,5),(1,6),(1,7),(2,8)] (by decide +kernel) (by decide +kernel) ?_))
    | fail
  all_goals first | (exfalso; omega) | skip
  refine loopK.nn (m - 1) (by omega) (by repeat (first | refine Ag.upd rfl ?_ | exact Ag.hv)) ⟨_, ⟨q + 1, ?_, by omega, rfl⟩, fun w hw => hw⟩
  show Value.int .i64 _ = _; congr 1
end Go.Proofs.YtdiciemlbhkilaaGreatDoor
namespace Go.Proofs.YtdiciemlbhkilaaGreatDoor
open Go Go.Cx Go.RowKit
set_option linter.unusedVariables false
set_option linter.unusedSimpArgs false
set_option maxHeartbeats 4000000
attribute [local irreducible] J JC thenK blockK loopK roundK drawK retK QW Qt pel List.set Calls
set_option maxRecDepth 8000
attribute [local irreducible] JE Br eK0 eK3 brK cN proC sumC outC wO zO
theorem eSum : Entr Tryz.prog 69 := Entr.of Tryz.func69 rfl rfl
def slN (b : Nat) (a : Option Addr) (n c : Nat) : Heap := [(b, .cells ⟨[.slice a n c]⟩ 152 (0, 0))]
def slV (b : Nat) (a : Option Addr) (n c : Nat) : Heap := [(b, .cells ⟨[.slice a n c]⟩ 35 (0, 0))]
def rO (b b3 b1 : Nat) : Heap := [(b, .cells ⟨rC b3 b1⟩ 114 (0, 0))]
theorem wideH (k : Int) (s t : Nat × Nat) (hs : okS s) (ht : okS t) (x : Nat) (hx : x ≤ 2 ^ 128) (T : List Nat) (V : List (Nat × Nat)) (hk : 0 ≤ k ∧ k < T.length ∧ k < V.length) (eT : T.getD k.toNat default = x) (eV : V.getD k.toNat default = t) (aO aV : Option Addr) (cO cV bO bV bR b3 b1 : Nat) (hO hV : Heap) (sO : SlT encNt 1 aO T hO) (sV : SlT encS 2 aV V hV)
    (w : World) (hT : Tab64 w) (h1 : Holds (slN bO aO T.length cO) w) (h2 : Holds (slV bV aV V.length cV) w) (h3 : Holds (rO bR b3 b1) w) (h4 : Holds (wO b3 b1 ++ zO b1) w) (h5 : Holds hO w) (h6 : Holds hV w) :
    Calls Tryz.prog 104 #[.int .i64 k, sv s, .pointer (some ⟨bO, 0, none⟩), .pointer (some ⟨bV, 0, none⟩), .pointer (some ⟨bR, 0, none⟩)] w fun e w' => e = .returned (natV (x * 2 ^ cardS (minS s t))) ∧ Below w.heap.size w w' :=
  wide1_any k s t hs ht x hx T V hk eT eV aO aV cO cV bO bV bR b3 b1 hO hV sO sV (slN bO aO T.length cO ++ (slV bV aV V.length cV ++ (rO bR b3 b1 ++ ((wO b3 b1 ++ zO b1) ++ (hO ++ hV)))))
    (List.mem_append_left _ (List.mem_singleton.2 rfl)) (List.mem_append_right _ (List.mem_append_left _ (List.mem_singleton.2 rfl))) (List.mem_append_right _ (List.mem_append_right _ (List.mem_append_left _ (List.mem_singleton.2 rfl))))
    (fun y hy => List.mem_append_right _ (List.mem_append_right _ (List.mem_append_right _ (List.mem_append_left _ hy)))) (fun y hy => List.mem_append_right _ (List.mem_append_right _ (List.mem_append_right _ (List.mem_append_right _ (List.mem_append_left _ hy))))) (fun y hy => List.mem_append_right _ (List.mem_append_right _ (List.mem_append_right _ (List.mem_append_right _ (List.mem_append_right _ hy)))))
    w hT (h1.append (h2.append (h3.append (h4.append (h5.append h6)))))
theorem set_ne {l : List Nat} {k j : Nat} (v : Nat) (h : j ≠ k) : (l.set k v).getD j default = l.getD j default := by
  rw [List.getD_eq_getElem?_getD, List.getD_eq_getElem?_getD, List.getElem?_set_ne (Ne.symm h)]
theorem set_eq {l : List Nat} {k : Nat} (v : Nat) (h : k < l.length) : (l.set k v).getD k default = v := by
  rw [List.getD_eq_getElem?_getD, List.getElem?_set_self h]; rfl
set_option maxHeartbeats 16000000 in
theorem sum_any (nn : Nat) (a : Option Addr) (cap : Nat) (vs : List NV) (h : Heap) (hr : NetIn a vs h) (hX : CntN nn (vs.map pnV)) (b3 b1 : Nat) (w : World) (hT : Tab64 w) (hw : Holds (h ++ (wO b3 b1 ++ zO b1)) w) :
    Calls Tryz.prog 69 #[.agg ⟨[.int .i64 (nn : Int), .slice a vs.length cap]⟩, .agg ⟨rC b3 b1⟩] w fun e w' => e = .returned (natV (cntP nn (vs.map pnV))) ∧ Below w.heap.size w w' := by
  have q0 : ∀ L, RdH (h ++ (wO b3 b1 ++ zO b1)) L h := fun L => RdH.old fun _ hh => List.mem_append_left _ hh
  have q1 : ∀ L, RdH (h ++ (wO b3 b1 ++ zO b1)) L (wO b3 b1 ++ zO b1) := fun L => RdH.old fun _ hh => List.mem_append_right _ hh
  have q2 : ∀ L, RdH (h ++ (wO b3 b1 ++ zO b1)) L (zO b1) := fun L => RdH.old fun _ hh => List.mem_append_right _ (List.mem_append_right _ hh)
  have cV := fun w hw => vars_any (nn : Int) a cap vs h hr w hw
  rw [hX.ck, if_pos rfl] at cV
  obtain ⟨so, si, sl, hl⟩ := hr
  have hXl : (vs.map pnV).length = vs.length := List.length_map ..
  obtain ⟨hN, hM, hFA⟩ := check_facts hX.ck
  have hTl := varT_len (vs.map pnV)
  rw [hXl] at hTl hM
  have hokT := okS_varT (vs.map pnV)
  have hn := hX.hn
  refine calls_of_JC (R := h ++ (wO b3 b1 ++ zO b1)) Tryz.func69 Tryz.ntmps69 rfl rfl (hw) ?_
  repeat' first
    | (refine J.isJ ?_; first | (first | (refine J.o 6 ?_; first | refine J.bx (d := 2) (fun b2 => ?_) | refine J.bx (d := 3) (fun bR => ?_)) | (refine J.o 7 ?_; first | refine J.al (d := 4) hΓ (fun b4 => ?_) | refine J.al (d := 5) hΓ (fun bV => ?_) | refine J.al (d := 6) hΓ (fun bO => ?_)) | (refine J.o 14 ?_; refine J.mfV [.pointer (some ⟨bO, 0, none⟩), .pointer (some ⟨bV, 0, none⟩), .pointer (some ⟨bR, 0, none⟩)] hΓ ?_) | (refine J.fc 103 ?_; refine J.call1 eVarsN rfl rfl (fun w hw => cV w (hw.rdH (q0 _))) ?_; rintro _ hV ⟨aV, cVV, rfl, sV⟩) | (refine J.o 9 ?_; refine J.make (enc := encNt) (m := vs.length) (0 : Nat) hΓ rfl rfl rfl rfl rfl rfl (fun _ => rfl) (by omega) (by omega) (fun bo ho oo => ?_))) | (first | (refine J.o 0 ?_; refine J.ev' hΓ ?_) | refine J.nil ?_ | (refine J.o 4 ?_; first | refine J.lT default hΓ ?_ | refine J.lR hΓ ?_) | (refine J.o 3 ?_; first | refine J.iJ hΓ ?_ | refine J.ev' hΓ ?_) | (refine J.o 1 ?_; first | refine J.ad ?_ | refine J.sb ?_) | (refine J.o 5 ?_; first | refine J.t0 hΓ ?_ | refine J.tT2 _ default hΓ (fun _ _ => ?_)) | (refine J.o 6 ?_; refine J.bx (fun _ => ?_)) | (refine J.o 7 ?_; refine J.al hΓ (fun _ => ?_)) | (refine J.o 10 ?_; refine J.ev' hΓ ?_) | (refine J.o 11 ?_; refine J.ev' hΓ ?_)))
    | (first | refine JC.seq ?_ | refine JC.region ?_ | refine JC.block ?_ | refine JC.ret ?_ | refine JC.exit ?_ | refine JC.skip ?_ | refine thenK.nn ?_ | refine thenK.x ?_ | refine blockK.nn ?_ | refine blockK.hit rfl ?_ | (refine JC.cond rfl (fun hc => ?_) (fun hc => ?_) <;> ((try simp only [decide_eq_true_eq, decide_eq_false_iff_not, beq_iff_eq, beq_eq_false_iff_ne, bne_iff_ne, bne_eq_false_iff_eq, Bool.not_eq_true', Bool.not_eq_false', Bool.not_eq_true, Bool.not_eq_false] at hc) <;> first | (first | (exact absurd rfl hc) | (exfalso; omega) | (exact absurd (hc.symm.trans (by assumption : _ = false)) (by decide)) | (exact absurd (hc.symm.trans (by assumption : _ = true)) (by decide))) | skip)) | refine drawK.nn ?_ | refine loopK.x ?_)
    | (fail)
    | fail
  all_goals first | (exfalso; omega) | skip
  have e0 : List.replicate vs.length 0 = outC (vs.map pnV) 0 := by rw [← hXl]; unfold outC cN; rfl
  rw [e0] at oo
  refine JC.gen [(2, .pointer (some ⟨b2, 0, none⟩)), (3, .pointer (some ⟨bR, 0, none⟩)), (4, .pointer (some ⟨b4, 0, none⟩)), (5, .pointer (some ⟨bV, 0, none⟩)), (6, .pointer (some ⟨bO, 0, none⟩)), (7, .func (.func 104) ⟨[]⟩ ⟨[.pointer (some ⟨bO, 0, none⟩), .pointer (some ⟨bV, 0, none⟩), .pointer (some ⟨bR, 0, none⟩)]⟩), (22, .slice a vs.length cap), (23, .int .i64 vs.length), (24, .int .i64 0)] ⟨rfl, rfl, rfl, rfl, rfl, rfl, rfl, rfl, rfl, trivial⟩ (fun F1 => ?_)
  refine JC.loopG (fun i => i == 8 || i == 9 || i == 11 || i == 13 || Nat.ble 24 i) (fun m g L' => ∃ (k : Nat) (ho : Heap), g 24 = .int .i64 (k : Int) ∧ k + m = vs.length ∧ OwT encNt 1 59 (some ⟨bo, 0, none⟩) vs.length (outC (vs.map pnV) k) ho ∧ L' = [slN bO (some ⟨bo, 0, none⟩) vs.length vs.length, ho, slV bV aV (varT (vs.map pnV)).length cVV, hV, [_], rO bR b3 b1, [_]]) vs.length ⟨0, ho, rfl, by omega, oo, rfl⟩ ?_
  clear oo
  rintro m g _ ⟨k, ho, e24, hkm, oo, rfl⟩
  refine JC.pin 24 e24 ?_
  clear e24
  unfold slN slV rO
  rcases Nat.lt_or_ge k vs.length with hk | hk
  case inr =>
    obtain rfl : k = vs.length := by omega
    have eo : outC (vs.map pnV) vs.length = cN (vs.map pnV) (vs.map pnV).length := by rw [← hXl]; exact outC_end _
    rw [eo] at oo
    have cl : (cN (vs.map pnV) (vs.map pnV).length).length = vs.length := by rw [cN_len, hXl]
    have tb := T_le hX.hn hX.sm hX.dd (k := ((vs.length - 1 : Nat) : Int)) (by omega)
    rw [Int.toNat_natCast] at tb
    have cAll := fun w => all_any nn (by omega) w
    have cW := fun w hT h1 h2 h3 h4 h5 h6 => wideH ((vs.length - 1 : Nat) : Int) (allS nn) ((varT (vs.map pnV)).getD (vs.length - 1) default) (okS_all nn) (okS_d _ hokT _) _ tb (cN (vs.map pnV) (vs.map pnV).length) (varT (vs.map pnV)) (by omega) rfl rfl (some ⟨bo, 0, none⟩) aV vs.length cVV bO bV bR b3 b1 ho hV oo.sl sV w hT h1 h2 h3 h4 h5 h6
    rw [cl] at cW
    have ec : cntP nn (vs.map pnV) = (cN (vs.map pnV) (vs.map pnV).length).getD (vs.length - 1) default * 2 ^ cardS (minS (allS nn) ((varT (vs.map pnV)).getD (vs.length - 1) default)) := by unfold cntP; rw [hXl]
    have ek : ((vs.length - 1 : Nat) : Int) = (vs.length : Int) - 1 := by omega
    rw [← ec, ek] at cW
    refine JC.perm (bring_perm 4 _) ?_
    repeat' first
      | (refine J.isJ ?_; first | (first | (refine J.o 4 ?_; first | refine J.lR hΓ ?_ (hr := Rd.hd.tl.tl.tl.tl.tl.tl) | refine J.lR hΓ ?_ (hr := Rd.hd.tl)) | (refine J.fc 18 ?_; refine J.call0 eAll rfl rfl (fun w hw => cAll w) ?_) | (refine J.o 9 ?_; refine J.callv0 eWide1 rfl rfl rfl (fun w hw => cW w (hT.below hw.below) (hw.rdH RdH.hd.tl) (hw.rdH RdH.hd.tl.tl.tl) (hw.rdH RdH.hd.tl.tl.tl.tl.tl) (hw.rdH (q1 _)) (hw.rdH RdH.hd.tl.tl) (hw.rdH RdH.hd.tl.tl.tl.tl)) ?_)) | (first | (refine J.o 0 ?_; refine J.ev' hΓ ?_) | refine J.nil ?_ | (refine J.o 4 ?_; first | refine J.lT default hΓ ?_ | refine J.lR hΓ ?_) | (refine J.o 3 ?_; first | refine J.iJ hΓ ?_ | refine J.ev' hΓ ?_) | (refine J.o 1 ?_; first | refine J.ad ?_ | refine J.sb ?_) | (refine J.o 5 ?_; first | refine J.t0 hΓ ?_ | refine J.tT2 _ default hΓ (fun _ _ => ?_)) | (refine J.o 6 ?_; refine J.bx (fun _ => ?_)) | (refine J.o 7 ?_; refine J.al hΓ (fun _ => ?_)) | (refine J.o 10 ?_; refine J.ev' hΓ ?_) | (refine J.o 11 ?_; refine J.ev' hΓ ?_)))
      | (first | refine JC.seq ?_ | refine JC.region ?_ | refine JC.block ?_ | refine JC.ret ?_ | refine JC.exit ?_ | refine JC.skip ?_ | refine thenK.nn ?_ | refine thenK.x ?_ | refine blockK.nn ?_ | refine blockK.hit rfl ?_ | (refine JC.cond rfl (fun hc => ?_) (fun hc => ?_) <;> ((try simp only [decide_eq_true_eq, decide_eq_false_iff_not, beq_iff_eq, beq_eq_false_iff_ne, bne_iff_ne, bne_eq_false_iff_eq, Bool.not_eq_true', Bool.not_eq_false', Bool.not_eq_true, Bool.not_eq_false] at hc) <;> first | (first | (exact absurd rfl hc) | (exfalso; omega) | (exact absurd (hc.symm.trans (by assumption : _ = false)) (by decide)) | (exact absurd (hc.symm.trans (by assumption : _ = true)) (by decide))) | skip)) | refine drawK.nn ?_ | refine loopK.x ?_)
      | ((refine JC.drawO [(0,0),(1,1),(0,2),(0,3),(0,4),(1,5),(1,6),(1,7),(2,8)] (by decide +kernel) (by decide +kernel) ?_))
      | fail
    all_goals first | (exfalso; omega) | skip
    exact retC hΓ rfl rfl rfl Rd.hd rfl (fun w1 hw => ⟨rfl, hw.below⟩)
  have hol := outC_len (X := vs.map pnV) (k := k) (by omega)
  rw [hXl] at hol
  have hmk := mem_g vs k hk
  have hVl := sl _ hmk
  have hVs := si _ hmk
  have hfk : formedP (pnV (vs.getD k default)) nn k = true := by
    have := formAll_at nn (vs.map pnV) 0 hFA k (by omega)
    rw [Int.zero_add, getD_map] at this
    exact this
  have hVo : ∀ i, i ∈ (vs.getD k default).l → 0 ≤ i ∧ i < k := formed_rng hfk
  obtain ⟨P, p0, pn, pb, ps⟩ := hX.run (i := k) (by omega)
  have hset := outC_set (X := vs.map pnV) (k := k) (by omega) (cN_last _ _ _ (by omega))
  have hfa := formed_all hfk
  have hfkd := formed_kinds hfk
  rw [getD_map] at p0 pn pb ps
  obtain ⟨v, hv⟩ : ∃ v, vs.getD k default = v := ⟨_, rfl⟩
  rw [hv] at hVl hVs hVo p0 pn pb ps hfa hfkd
  have p0 : P 0 = if v.kind = 0 ∨ v.kind = 4 then 0 else 1 := p0
  have pn : P v.l.length = (cN (vs.map pnV) (vs.map pnV).length).getD k default := pn
  have pb : ∀ q, q ≤ v.l.length → P q ≤ 2 ^ 128 := pb
  have ps : ∀ q, q < v.l.length → _ := ps
  have hkd : v.kind = 0 ∨ v.kind = 1 ∨ (v.kind = 2 ∧ v.lit ≠ 0) ∨ v.kind = 3 ∨ v.kind = 4 := by
    rcases hfkd with h1 | h1 | ⟨h1, h2, _⟩ | h1 | h1
    · exact .inl h1
    · exact .inr (.inl h1)
    · exact .inr (.inr (.inl ⟨h1, h2⟩))
    · exact .inr (.inr (.inr (.inl h1)))
    · exact .inr (.inr (.inr (.inr h1)))
  have hl3 : v.kind < 3 → v.l.length = 0 := hfa.2.2.2
  by_cases h2 : v.kind = 2
  · have hl0 := hl3 (by omega)
    have hlit : v.lit ≠ 0 := by omega
    rw [hl0] at pn
    rw [if_neg (by omega), pn] at p0
    have c1 := fun w hw => num1_any v.lit hlit b1 w hw
    rw [← p0] at c1
    repeat' first
      | (refine J.isJ ?_; first | (first | (refine J.o 7 ?_; refine J.al (d := 9) hΓ (fun b9 => ?_)) | (refine J.o 3 ?_; first | refine J.iJ hΓ ?_ (hs := so) | refine J.iJ hΓ ?_ (hs := oo.sl)) | (refine J.o 4 ?_; first | (refine J.lT default hΓ ?_ (hs := so) (hr := q0 _); rw [hv]) | refine J.lR hΓ ?_ (hr := Rd.hd.tl.tl.tl.tl.tl.tl)) | (refine J.o 9 ?_; refine J.callv0 eNum1 rfl rfl rfl (fun w hw => c1 w (hw.rdH (q2 _))) ?_) | (refine J.o 5 ?_; refine J.tT2 ((cN (vs.map pnV) (vs.map pnV).length).getD k default) default hΓ (fun h5 o5 => ?_))) | (first | (refine J.o 0 ?_; refine J.ev' hΓ ?_) | refine J.nil ?_ | (refine J.o 4 ?_; first | refine J.lT default hΓ ?_ | refine J.lR hΓ ?_) | (refine J.o 3 ?_; first | refine J.iJ hΓ ?_ | refine J.ev' hΓ ?_) | (refine J.o 1 ?_; first | refine J.ad ?_ | refine J.sb ?_) | (refine J.o 5 ?_; first | refine J.t0 hΓ ?_ | refine J.tT2 _ default hΓ (fun _ _ => ?_)) | (refine J.o 6 ?_; refine J.bx (fun _ => ?_)) | (refine J.o 7 ?_; refine J.al hΓ (fun _ => ?_)) | (refine J.o 10 ?_; refine J.ev' hΓ ?_) | (refine J.o 11 ?_; refine J.ev' hΓ ?_)))
      | (first | refine JC.seq ?_ | refine JC.region ?_ | refine JC.block ?_ | refine JC.ret ?_ | refine JC.exit ?_ | refine JC.skip ?_ | refine thenK.nn ?_ | refine thenK.x ?_ | refine blockK.nn ?_ | refine blockK.hit rfl ?_ | (refine JC.cond rfl (fun hc => ?_) (fun hc => ?_) <;> ((try simp only [decide_eq_true_eq, decide_eq_false_iff_not, beq_iff_eq, beq_eq_false_iff_ne, bne_iff_ne, bne_eq_false_iff_eq, Bool.not_eq_true', Bool.not_eq_false', Bool.not_eq_true, Bool.not_eq_false] at hc) <;> first | (first | (exact absurd rfl hc) | (exfalso; omega) | (exact absurd (hc.symm.trans (by assumption : _ = false)) (by decide)) | (exact absurd (hc.symm.trans (by assumption : _ = true)) (by decide))) | skip)) | refine drawK.nn ?_ | refine loopK.x ?_)
      | ((refine JC.drawO [(1,0),(0,1),(0,2),(1,3),(0,4),(1,5),(1,6),(0,7),(2,8)] (by decide +kernel) (by decide +kernel) ?_))
      | fail
    all_goals first | (exfalso; omega) | skip
    rw [hset] at o5
    refine loopK.nn (m - 1) (by omega) (by repeat (first | refine Ag.upd rfl ?_ | exact Ag.hv)) ⟨_, ⟨k + 1, h5, ?_, by omega, o5, rfl⟩, fun w hw => hw.drop⟩
    show Value.int .i64 _ = _; congr 1
  by_cases h13 : v.kind = 1 ∨ v.kind = 3
  · rw [if_neg (by omega)] at p0
    repeat' first
      | (refine J.isJ ?_; first | (first | (refine J.o 7 ?_; refine J.al (d := 9) hΓ (fun b9 => ?_)) | (refine J.o 3 ?_; first | refine J.iJ hΓ ?_ (hs := so) | refine J.iJ hΓ ?_ (hs := oo.sl)) | (refine J.o 4 ?_; first | (refine J.lT default hΓ ?_ (hs := so) (hr := q0 _); rw [hv]) | refine J.lR hΓ ?_ (hr := Rd.hd.tl.tl.tl.tl.tl.tl)) | (refine J.o 9 ?_; refine J.callv0 eNum3 rfl rfl rfl (fun w hw => num3_any w) ?_) | (refine J.o 5 ?_; refine J.tT2 (1 : Nat) default hΓ (fun h5 o5 => ?_))) | (first | (refine J.o 0 ?_; refine J.ev' hΓ ?_) | refine J.nil ?_ | (refine J.o 4 ?_; first | refine J.lT default hΓ ?_ | refine J.lR hΓ ?_) | (refine J.o 3 ?_; first | refine J.iJ hΓ ?_ | refine J.ev' hΓ ?_) | (refine J.o 1 ?_; first | refine J.ad ?_ | refine J.sb ?_) | (refine J.o 5 ?_; first | refine J.t0 hΓ ?_ | refine J.tT2 _ default hΓ (fun _ _ => ?_)) | (refine J.o 6 ?_; refine J.bx (fun _ => ?_)) | (refine J.o 7 ?_; refine J.al hΓ (fun _ => ?_)) | (refine J.o 10 ?_; refine J.ev' hΓ ?_) | (refine J.o 11 ?_; refine J.ev' hΓ ?_)))
      | (first | refine JC.seq ?_ | refine JC.region ?_ | refine JC.block ?_ | refine JC.ret ?_ | refine JC.exit ?_ | refine JC.skip ?_ | refine thenK.nn ?_ | refine thenK.x ?_ | refine blockK.nn ?_ | refine blockK.hit rfl ?_ | (refine JC.cond rfl (fun hc => ?_) (fun hc => ?_) <;> ((try simp only [decide_eq_true_eq, decide_eq_false_iff_not, beq_iff_eq, beq_eq_false_iff_ne, bne_iff_ne, bne_eq_false_iff_eq, Bool.not_eq_true', Bool.not_eq_false', Bool.not_eq_true, Bool.not_eq_false] at hc) <;> first | (first | (exact absurd rfl hc) | (exfalso; omega) | (exact absurd (hc.symm.trans (by assumption : _ = false)) (by decide)) | (exact absurd (hc.symm.trans (by assumption : _ = true)) (by decide))) | skip)) | refine drawK.nn ?_ | refine loopK.x ?_)
      | ((refine JC.drawO [(1,0),(0,1),(0,2),(1,3),(1,4),(0,5),(2,6)] (by decide +kernel) (by decide +kernel) ?_))
      | fail
    all_goals first | (exfalso; omega) | skip
    all_goals (
      all_goals refine JC.loopG (fun i => i == 11 || Nat.ble 84 i) (fun m g L' => ∃ (q : Nat) (ho : Heap), g 84 = .int .i64 (q : Int) ∧ q + m = v.l.length ∧ OwT encNt 1 59 (some ⟨bo, 0, none⟩) vs.length ((outC (vs.map pnV) k).set k (P q)) ho ∧ L' = [[_], [_], ho, [_], hV, [_], [_], [_]]) v.l.length ⟨0, h5, rfl, by omega, by rw [p0]; exact o5, rfl⟩ ?_
      clear oo
      all_goals rintro m2 g2 _ ⟨q, ho, e84, hqm, oo, rfl⟩
      all_goals refine JC.pin 84 e84 ?_
      clear e84
      rcases Nat.lt_or_ge q v.l.length with hq | hq
      case inr =>
        obtain rfl : q = v.l.length := by omega
        rw [pn, hset] at oo
        repeat' first
          | (refine J.isJ ?_; first | (fail) | (first | (refine J.o 0 ?_; refine J.ev' hΓ ?_) | refine J.nil ?_ | (refine J.o 4 ?_; first | refine J.lT default hΓ ?_ | refine J.lR hΓ ?_) | (refine J.o 3 ?_; first | refine J.iJ hΓ ?_ | refine J.ev' hΓ ?_) | (refine J.o 1 ?_; first | refine J.ad ?_ | refine J.sb ?_) | (refine J.o 5 ?_; first | refine J.t0 hΓ ?_ | refine J.tT2 _ default hΓ (fun _ _ => ?_)) | (refine J.o 6 ?_; refine J.bx (fun _ => ?_)) | (refine J.o 7 ?_; refine J.al hΓ (fun _ => ?_)) | (refine J.o 10 ?_; refine J.ev' hΓ ?_) | (refine J.o 11 ?_; refine J.ev' hΓ ?_)))
          | (first | refine JC.seq ?_ | refine JC.region ?_ | refine JC.block ?_ | refine JC.ret ?_ | refine JC.exit ?_ | refine JC.skip ?_ | refine thenK.nn ?_ | refine thenK.x ?_ | refine blockK.nn ?_ | refine blockK.hit rfl ?_ | (refine JC.cond rfl (fun hc => ?_) (fun hc => ?_) <;> ((try simp only [decide_eq_true_eq, decide_eq_false_iff_not, beq_iff_eq, beq_eq_false_iff_ne, bne_iff_ne, bne_eq_false_iff_eq, Bool.not_eq_true', Bool.not_eq_false', Bool.not_eq_true, Bool.not_eq_false] at hc) <;> first | (first | (exact absurd rfl hc) | (exfalso; omega) | (exact absurd (hc.symm.trans (by assumption : _ = false)) (by decide)) | (exact absurd (hc.symm.trans (by assumption : _ = true)) (by decide))) | skip)) | refine drawK.nn ?_ | refine loopK.x ?_)
          | (fail)
          | fail
        all_goals first | (exfalso; omega) | skip
        refine loopK.nn (m - 1) (by omega) (by repeat (first | refine Ag.upd rfl ?_ | exact Ag.hv | refine Ag.hv2 (fun i hi => by simp at hi ⊢; omega) ?_)) ⟨_, ⟨k + 1, ho, ?_, by omega, oo, rfl⟩, fun w hw => hw.drop⟩
        show Value.int .i64 _ = _; congr 1
      have hj := hVo _ (mem_g v.l q hq)
      have pbq := pb q (by omega)
      have pbq1 := pb (q + 1) (by omega)
      have tb := T_le hX.hn hX.sm hX.dd (k := v.l.getD q default) (by omega)
      have hot := outC_at (X := vs.map pnV) (k := k) (j := (v.l.getD q default).toNat) (by omega) (by omega)
      have g1 : ((outC (vs.map pnV) k).set k (P q)).getD (v.l.getD q default).toNat default = (cN (vs.map pnV) (vs.map pnV).length).getD (v.l.getD q default).toNat default := by rw [set_ne _ (by omega)]; exact hot
      have g2 : ((outC (vs.map pnV) k).set k (P q)).getD k default = P q := set_eq _ (by omega)
      have g3 : ((outC (vs.map pnV) k).set k (P q)).length = vs.length := by rw [List.length_set]; exact hol
      have l1 := bytes_128 pbq
      have l2 := bytes_128 tb
      have l3 := bytes_128 pbq1
      have hp : P (q + 1) = P q * (cN (vs.map pnV) (vs.map pnV).length).getD (v.l.getD q default).toNat default := by
        rcases ps q hq with ⟨_, hp⟩ | ⟨h4, _⟩
        · exact hp
        · have h4 : v.kind = 4 := h4
          omega
      have cM := fun w => mul_any (P q) ((cN (vs.map pnV) (vs.map pnV).length).getD (v.l.getD q default).toNat default) (by omega) (by omega) w
      rw [← hp] at cM
      repeat' first
        | (refine J.isJ ?_; first | (first | (refine J.o 3 ?_; first | refine J.iJ hΓ ?_ (hs := hVs) | refine J.iJ hΓ ?_ (hs := oo.sl)) | (refine J.o 4 ?_; first | refine J.lT default hΓ ?_ (hs := hVs) (hr := q0 _) | (refine J.lT default hΓ ?_ (hs := oo.sl) (hr := RdH.hd.tl.tl); first | rw [g1] | rw [g2]) | refine J.lR hΓ ?_ (hr := Rd.hd.tl) | refine J.lR hΓ ?_ (hr := Rd.hd.tl.tl.tl.tl.tl.tl)) | (refine J.o 9 ?_; refine J.callv0 eMul rfl rfl rfl (fun w hw => cM w) ?_) | (refine J.o 5 ?_; refine J.tT2 (P (q + 1)) default hΓ (fun h6 o6 => ?_))) | (first | (refine J.o 0 ?_; refine J.ev' hΓ ?_) | refine J.nil ?_ | (refine J.o 4 ?_; first | refine J.lT default hΓ ?_ | refine J.lR hΓ ?_) | (refine J.o 3 ?_; first | refine J.iJ hΓ ?_ | refine J.ev' hΓ ?_) | (refine J.o 1 ?_; first | refine J.ad ?_ | refine J.sb ?_) | (refine J.o 5 ?_; first | refine J.t0 hΓ ?_ | refine J.tT2 _ default hΓ (fun _ _ => ?_)) | (refine J.o 6 ?_; refine J.bx (fun _ => ?_)) | (refine J.o 7 ?_; refine J.al hΓ (fun _ => ?_)) | (refine J.o 10 ?_; refine J.ev' hΓ ?_) | (refine J.o 11 ?_; refine J.ev' hΓ ?_)))
        | (first | refine JC.seq ?_ | refine JC.region ?_ | refine JC.block ?_ | refine JC.ret ?_ | refine JC.exit ?_ | refine JC.skip ?_ | refine thenK.nn ?_ | refine thenK.x ?_ | refine blockK.nn ?_ | refine blockK.hit rfl ?_ | (refine JC.cond rfl (fun hc => ?_) (fun hc => ?_) <;> ((try simp only [decide_eq_true_eq, decide_eq_false_iff_not, beq_iff_eq, beq_eq_false_iff_ne, bne_iff_ne, bne_eq_false_iff_eq, Bool.not_eq_true', Bool.not_eq_false', Bool.not_eq_true, Bool.not_eq_false] at hc) <;> first | (first | (exact absurd rfl hc) | (exfalso; omega) | (exact absurd (hc.symm.trans (by assumption : _ = false)) (by decide)) | (exact absurd (hc.symm.trans (by assumption : _ = true)) (by decide))) | skip)) | refine drawK.nn ?_ | refine loopK.x ?_)
        | ((refine JC.drawO [(1,0),(0,1),(0,2),(1,3),(1,4),(0,5),(0,6),(1,7),(1,8),(0,9),(0,10),(1,11),(1,12),(0,13),(2,14)] (by decide +kernel) (by decide +kernel) ?_))
        | fail
      all_goals first | (exfalso; omega) | skip
      all_goals rw [List.set_set] at o6
      all_goals refine loopK.nn (m2 - 1) (by omega) (by repeat (first | refine Ag.upd rfl ?_ | exact Ag.hv | refine Ag.hv2 (fun i hi => by simp at hi ⊢; omega) ?_)) ⟨_, ⟨q + 1, h6, ?_, by omega, o6, rfl⟩, fun w hw => hw⟩
      all_goals (show Value.int .i64 _ = _; congr 1))
  · rw [if_pos (by omega)] at p0
    repeat' first
      | (refine J.isJ ?_; first | (first | (refine J.o 7 ?_; refine J.al (d := 9) hΓ (fun b9 => ?_)) | (refine J.o 3 ?_; first | refine J.iJ hΓ ?_ (hs := so) | refine J.iJ hΓ ?_ (hs := oo.sl)) | (refine J.o 4 ?_; first | (refine J.lT default hΓ ?_ (hs := so) (hr := q0 _); rw [hv]) | refine J.lR hΓ ?_ (hr := Rd.hd.tl.tl.tl.tl.tl.tl)) | (refine J.o 9 ?_; refine J.callv0 eNum2 rfl rfl rfl (fun w hw => num2_any w) ?_) | (refine J.o 5 ?_; refine J.tT2 (0 : Nat) default hΓ (fun h5 o5 => ?_))) | (first | (refine J.o 0 ?_; refine J.ev' hΓ ?_) | refine J.nil ?_ | (refine J.o 4 ?_; first | refine J.lT default hΓ ?_ | refine J.lR hΓ ?_) | (refine J.o 3 ?_; first | refine J.iJ hΓ ?_ | refine J.ev' hΓ ?_) | (refine J.o 1 ?_; first | refine J.ad ?_ | refine J.sb ?_) | (refine J.o 5 ?_; first | refine J.t0 hΓ ?_ | refine J.tT2 _ default hΓ (fun _ _ => ?_)) | (refine J.o 6 ?_; refine J.bx (fun _ => ?_)) | (refine J.o 7 ?_; refine J.al hΓ (fun _ => ?_)) | (refine J.o 10 ?_; refine J.ev' hΓ ?_) | (refine J.o 11 ?_; refine J.ev' hΓ ?_)))
      | (first | refine JC.seq ?_ | refine JC.region ?_ | refine JC.block ?_ | refine JC.ret ?_ | refine JC.exit ?_ | refine JC.skip ?_ | refine thenK.nn ?_ | refine thenK.x ?_ | refine blockK.nn ?_ | refine blockK.hit rfl ?_ | (refine JC.cond rfl (fun hc => ?_) (fun hc => ?_) <;> ((try simp only [decide_eq_true_eq, decide_eq_false_iff_not, beq_iff_eq, beq_eq_false_iff_ne, bne_iff_ne, bne_eq_false_iff_eq, Bool.not_eq_true', Bool.not_eq_false', Bool.not_eq_true, Bool.not_eq_false] at hc) <;> first | (first | (exact absurd rfl hc) | (exfalso; omega) | (exact absurd (hc.symm.trans (by assumption : _ = false)) (by decide)) | (exact absurd (hc.symm.trans (by assumption : _ = true)) (by decide))) | skip)) | refine drawK.nn ?_ | refine loopK.x ?_)
      | ((refine JC.drawO [(1,0),(0,1),(0,2),(1,3),(1,4),(0,5),(2,6)] (by decide +kernel) (by decide +kernel) ?_))
      | fail
    all_goals first | (exfalso; omega) | skip
    all_goals refine JC.loopG (fun i => i == 13 || Nat.ble 40 i) (fun m g L' => ∃ (q : Nat) (ho : Heap), g 40 = .int .i64 (q : Int) ∧ q + m = v.l.length ∧ OwT encNt 1 59 (some ⟨bo, 0, none⟩) vs.length ((outC (vs.map pnV) k).set k (P q)) ho ∧ L' = [[_], [_], ho, [_], hV, [_], [_], [_]]) v.l.length ⟨0, h5, rfl, by omega, by rw [p0]; exact o5, rfl⟩ ?_
    clear oo
    all_goals rintro m2 g2 _ ⟨q, ho, e40, hqm, oo, rfl⟩
    all_goals refine JC.pin 40 e40 ?_
    clear e40
    rcases Nat.lt_or_ge q v.l.length with hq | hq
    case inr =>
      obtain rfl : q = v.l.length := by omega
      rw [pn, hset] at oo
      repeat' first
        | (refine J.isJ ?_; first | (fail) | (first | (refine J.o 0 ?_; refine J.ev' hΓ ?_) | refine J.nil ?_ | (refine J.o 4 ?_; first | refine J.lT default hΓ ?_ | refine J.lR hΓ ?_) | (refine J.o 3 ?_; first | refine J.iJ hΓ ?_ | refine J.ev' hΓ ?_) | (refine J.o 1 ?_; first | refine J.ad ?_ | refine J.sb ?_) | (refine J.o 5 ?_; first | refine J.t0 hΓ ?_ | refine J.tT2 _ default hΓ (fun _ _ => ?_)) | (refine J.o 6 ?_; refine J.bx (fun _ => ?_)) | (refine J.o 7 ?_; refine J.al hΓ (fun _ => ?_)) | (refine J.o 10 ?_; refine J.ev' hΓ ?_) | (refine J.o 11 ?_; refine J.ev' hΓ ?_)))
        | (first | refine JC.seq ?_ | refine JC.region ?_ | refine JC.block ?_ | refine JC.ret ?_ | refine JC.exit ?_ | refine JC.skip ?_ | refine thenK.nn ?_ | refine thenK.x ?_ | refine blockK.nn ?_ | refine blockK.hit rfl ?_ | (refine JC.cond rfl (fun hc => ?_) (fun hc => ?_) <;> ((try simp only [decide_eq_true_eq, decide_eq_false_iff_not, beq_iff_eq, beq_eq_false_iff_ne, bne_iff_ne, bne_eq_false_iff_eq, Bool.not_eq_true', Bool.not_eq_false', Bool.not_eq_true, Bool.not_eq_false] at hc) <;> first | (first | (exact absurd rfl hc) | (exfalso; omega) | (exact absurd (hc.symm.trans (by assumption : _ = false)) (by decide)) | (exact absurd (hc.symm.trans (by assumption : _ = true)) (by decide))) | skip)) | refine drawK.nn ?_ | refine loopK.x ?_)
        | (fail)
        | fail
      all_goals first | (exfalso; omega) | skip
      refine loopK.nn (m - 1) (by omega) (by repeat (first | refine Ag.upd rfl ?_ | exact Ag.hv | refine Ag.hv2 (fun i hi => by simp at hi ⊢; omega) ?_)) ⟨_, ⟨k + 1, ho, ?_, by omega, oo, rfl⟩, fun w hw => hw.drop⟩
      show Value.int .i64 _ = _; congr 1
    have hj := hVo _ (mem_g v.l q hq)
    have pbq := pb q (by omega)
    have pbq1 := pb (q + 1) (by omega)
    have tb := T_le hX.hn hX.sm hX.dd (k := v.l.getD q default) (by omega)
    have hot := outC_at (X := vs.map pnV) (k := k) (j := (v.l.getD q default).toNat) (by omega) (by omega)
    have g1 : ((outC (vs.map pnV) k).set k (P q)).getD (v.l.getD q default).toNat default = (cN (vs.map pnV) (vs.map pnV).length).getD (v.l.getD q default).toNat default := by rw [set_ne _ (by omega)]; exact hot
    have g2 : ((outC (vs.map pnV) k).set k (P q)).getD k default = P q := set_eq _ (by omega)
    have g3 : ((outC (vs.map pnV) k).set k (P q)).length = vs.length := by rw [List.length_set]; exact hol
    have l1 := bytes_128 pbq
    have l2 := bytes_128 tb
    have l3 := bytes_128 pbq1
    have hp : P (q + 1) = P q + (cN (vs.map pnV) (vs.map pnV).length).getD (v.l.getD q default).toNat default * 2 ^ cardS (minS ((varT (vs.map pnV)).getD k default) ((varT (vs.map pnV)).getD (v.l.getD q default).toNat default)) := by
      rcases ps q hq with ⟨h3, _⟩ | ⟨_, hp⟩
      · have h3 : v.kind = 3 := h3
        omega
      · exact hp
    have l4 := bytes_128 (v := (cN (vs.map pnV) (vs.map pnV).length).getD (v.l.getD q default).toNat default * 2 ^ cardS (minS ((varT (vs.map pnV)).getD k default) ((varT (vs.map pnV)).getD (v.l.getD q default).toNat default))) (by omega)
    have cA := fun w => add_any2 (P q) ((cN (vs.map pnV) (vs.map pnV).length).getD (v.l.getD q default).toNat default * 2 ^ cardS (minS ((varT (vs.map pnV)).getD k default) ((varT (vs.map pnV)).getD (v.l.getD q default).toNat default))) (by omega) (by omega) w
    rw [← hp] at cA
    have cW := fun w hT h1 h2 h3 h4 h5 h6 => wideH (v.l.getD q default) ((varT (vs.map pnV)).getD k default) ((varT (vs.map pnV)).getD (v.l.getD q default).toNat default) (okS_d _ hokT _) (okS_d _ hokT _) _ tb ((outC (vs.map pnV) k).set k (P q)) (varT (vs.map pnV)) (by omega) g1 rfl (some ⟨bo, 0, none⟩) aV vs.length cVV bO bV bR b3 b1 ho hV oo.sl sV w hT h1 h2 h3 h4 h5 h6
    rw [g3] at cW
    repeat' first
      | (refine J.isJ ?_; first | (first | (refine J.o 3 ?_; first | refine J.iJ hΓ ?_ (hs := hVs) | refine J.iJ hΓ ?_ (hs := oo.sl) | refine J.iJ hΓ ?_ (hs := sV)) | (refine J.o 4 ?_; first | refine J.lT default hΓ ?_ (hs := hVs) (hr := q0 _) | refine J.lT default hΓ ?_ (hs := sV) (hr := RdH.hd.tl.tl.tl.tl) | (refine J.lT default hΓ ?_ (hs := oo.sl) (hr := RdH.hd.tl.tl); first | rw [g1] | rw [g2]) | refine J.lR hΓ ?_ (hr := Rd.hd.tl) | refine J.lR hΓ ?_ (hr := Rd.hd.tl.tl.tl) | refine J.lR hΓ ?_ (hr := Rd.hd.tl.tl.tl.tl.tl.tl)) | (refine J.o 9 ?_; first | refine J.callv0 eWide1 rfl rfl rfl (fun w hw => cW w (hT.below hw.below) (hw.rdH RdH.hd.tl) (hw.rdH RdH.hd.tl.tl.tl) (hw.rdH RdH.hd.tl.tl.tl.tl.tl.tl) (hw.rdH (q1 _)) (hw.rdH RdH.hd.tl.tl) (hw.rdH RdH.hd.tl.tl.tl.tl)) ?_ | refine J.callv0 eNatAdd rfl rfl rfl (fun w hw => cA w) ?_) | (refine J.o 5 ?_; refine J.tT2 (P (q + 1)) default hΓ (fun h6 o6 => ?_))) | (first | (refine J.o 0 ?_; refine J.ev' hΓ ?_) | refine J.nil ?_ | (refine J.o 4 ?_; first | refine J.lT default hΓ ?_ | refine J.lR hΓ ?_) | (refine J.o 3 ?_; first | refine J.iJ hΓ ?_ | refine J.ev' hΓ ?_) | (refine J.o 1 ?_; first | refine J.ad ?_ | refine J.sb ?_) | (refine J.o 5 ?_; first | refine J.t0 hΓ ?_ | refine J.tT2 _ default hΓ (fun _ _ => ?_)) | (refine J.o 6 ?_; refine J.bx (fun _ => ?_)) | (refine J.o 7 ?_; refine J.al hΓ (fun _ => ?_)) | (refine J.o 10 ?_; refine J.ev' hΓ ?_) | (refine J.o 11 ?_; refine J.ev' hΓ ?_)))
      | (first | refine JC.seq ?_ | refine JC.region ?_ | refine JC.block ?_ | refine JC.ret ?_ | refine JC.exit ?_ | refine JC.skip ?_ | refine thenK.nn ?_ | refine thenK.x ?_ | refine blockK.nn ?_ | refine blockK.hit rfl ?_ | (refine JC.cond rfl (fun hc => ?_) (fun hc => ?_) <;> ((try simp only [decide_eq_true_eq, decide_eq_false_iff_not, beq_iff_eq, beq_eq_false_iff_ne, bne_iff_ne, bne_eq_false_iff_eq, Bool.not_eq_true', Bool.not_eq_false', Bool.not_eq_true, Bool.not_eq_false] at hc) <;> first | (first | (exact absurd rfl hc) | (exfalso; omega) | (exact absurd (hc.symm.trans (by assumption : _ = false)) (by decide)) | (exact absurd (hc.symm.trans (by assumption : _ = true)) (by decide))) | skip)) | refine drawK.nn ?_ | refine loopK.x ?_)
      | ((refine JC.drawO [(1,0),(0,1),(0,2),(1,3),(1,4),(0,5),(0,6),(1,7),(0,8),(0,9),(1,10),(0,11),(0,12),(1,13),(1,14),(1,15),(0,16),(2,17)] (by decide +kernel) (by decide +kernel) ?_))
      | fail
    all_goals first | (exfalso; omega) | skip
    rw [List.set_set] at o6
    refine loopK.nn (m2 - 1) (by omega) (by repeat (first | refine Ag.upd rfl ?_ | exact Ag.hv | refine Ag.hv2 (fun i hi => by simp at hi ⊢; omega) ?_)) ⟨_, ⟨q + 1, h6, ?_, by omega, o6, rfl⟩, fun w hw => hw⟩
    show Value.int .i64 _ = _; congr 1
end Go.Proofs.YtdiciemlbhkilaaGreatDoor
namespace Go.Proofs.YtdiciemlbhkilaaGreatDoor
open Go Go.Cx Go.RowKit
set_option linter.unusedVariables false
set_option linter.unusedSimpArgs false
set_option maxHeartbeats 4000000
attribute [local irreducible] J JC thenK blockK loopK roundK drawK retK QW Qt pel List.set Calls
set_option maxRecDepth 8000
attribute [local irreducible] JE Br eK0 eK3 brK cN proC sumC outC wO zO
theorem eCount : Entr Tryz.prog 26 := Entr.of Tryz.func26 rfl rfl
theorem numb_gives (w : World) : Calls Tryz.prog 70 #[.int .i64 0] w (Gives (fun v h => ∃ b3 b1, v = .agg ⟨rC b3 b1⟩ ∧ h = wO b3 b1 ++ zO b1) w) := by
  refine (numb_any (H.start (Holds.nil w))).mono ?_
  rintro e w' ⟨v, L', rfl, hw, b3, b1, rfl, rfl⟩
  exact Gives.of hw.mg1 ⟨b3, b1, rfl, rfl⟩
set_option maxHeartbeats 16000000 in
theorem count_any (nn : Nat) (a : Option Addr) (cap : Nat) (vs : List NV) (h : Heap) (hr : NetIn a vs h) (hX : CntN nn (vs.map pnV)) (w : World) (hT : Tab64 w) (hw : Holds h w) :
    Calls Tryz.prog 26 #[.agg ⟨[.int .i64 (nn : Int), .slice a vs.length cap]⟩] w fun e w' => e = .returned (.tuple #[natV (cntP nn (vs.map pnV)), .int .i64 0]) ∧ Below w.heap.size w w' := by
  have q0 : ∀ L, RdH h L h := fun L => RdH.old fun _ hh => hh
  have cC := fun w hT hw => checkC_any nn a cap vs h hr hX w hT hw
  have cS := fun b3 b1 w hT hw => sum_any nn a cap vs h hr hX b3 b1 w hT hw
  refine calls_of_JC (R := h) Tryz.func26 Tryz.ntmps26 rfl rfl (hw) ?_
  repeat' first
    | (refine J.isJ ?_; first | (first | (refine J.o 4 ?_; refine J.lR hΓ ?_ (hr := Rd.hd.tl)) | (refine J.fc 68 ?_; refine J.call0 eCheckCt rfl rfl (fun w hw => cC w (hT.below hw.below) (hw.rdH (q0 _))) ?_) | (refine J.fc 70 ?_; refine J.call1 eNumb rfl rfl (fun w hw => numb_gives w) ?_; rintro _ hN ⟨b3, b1, rfl, rfl⟩) | (refine J.fc 69 ?_; refine J.call0 eSum rfl rfl (fun w hw => cS b3 b1 w (hT.below hw.below) ((hw.rdH (q0 _)).append (hw.rdH RdH.hd))) ?_)) | (first | (refine J.o 0 ?_; refine J.ev' hΓ ?_) | refine J.nil ?_ | (refine J.o 4 ?_; first | refine J.lR hΓ ?_) | (refine J.o 3 ?_; first | refine J.ev' hΓ ?_) | (refine J.o 5 ?_; first | refine J.t1 hΓ ?_) | (refine J.o 6 ?_; refine J.bx (fun _ => ?_)) | (refine J.o 7 ?_; refine J.al hΓ (fun _ => ?_)) | (refine J.o 10 ?_; refine J.ev' hΓ ?_) | (refine J.o 11 ?_; refine J.ev' hΓ ?_)))
    | (first | refine JC.seq ?_ | refine JC.region ?_ | refine JC.ret ?_ | refine JC.skip ?_ | refine thenK.nn ?_ | refine JC.condF rfl ?_ | refine drawK.nn ?_)
    | (first | (refine JC.drawO [(1,0),(0,4),(3,1),(1,2),(2,3)] (by decide +kernel) (by decide +kernel) ?_) | (refine JC.drawO [(1,0),(3,1),(1,2),(2,3),(0,4)] (by decide +kernel) (by decide +kernel) ?_))
    | fail
  all_goals first | (exfalso; omega) | skip
  exact retCS hΓ rfl rfl rfl rfl Rd.hd.tl rfl rfl (fun w1 hw => ⟨rfl, hw.below⟩)
theorem eModelsR : Entr Tryz.prog 28 := Entr.of Tryz.func28 rfl rfl
theorem modelsR_any (a : Option Addr) (cap : Nat) (ts : List Nd) (n : Nat) (hn : n ≤ 20) (hV : Valid ts n) (h : Heap) (hs : SlT encN 4 a ts h) : ∀ (f j k : Nat), ts.length - j ≤ f → j < ts.length → PathK ts n j k → ∀ (w : World) (hw : Holds h w),
    Calls Tryz.prog 28 #[.slice a ts.length cap, .int .i64 (j : Int), .int .i64 (k : Int)] w fun e w' => e = .returned (.int .i64 (modN ts f j k : Nat)) ∧ Below w.heap.size w w' := fun f => by
  induction f with
  | zero => intro j k h1 h2; omega
  | succ f ih =>
    intro j k h1 hj hp w hw
    have hkn : k ≤ n := by obtain ⟨l, _, _, h3, _⟩ := hp; omega
    have hle := hV.le
    rw [modN]
    by_cases hv : (ts.getD j default).v = 0
    · rw [if_pos hv]
      have h2k : 2 ^ k ≤ 2 ^ 20 := Nat.pow_le_pow_right (by omega) (by omega)
      have e2 : (2 : Nat) ^ 20 = 1048576 := rfl
      cases hc : (ts.getD j default).c
      all_goals (
        refine calls_of_JC (R := h) Tryz.func28 Tryz.ntmps28 rfl rfl (hw) ?_
        repeat' first
          | (refine J.isJ ?_; first | (first | (refine J.o 4 ?_; refine J.lT default hΓ ?_ (hs := hs) (hr := RdH.old fun _ hh => hh); first | rw [hv] | rw [hc]) | (refine J.o 3 ?_; refine J.iJ hΓ ?_ (hs := hs)) | (refine J.o 1 ?_; refine J.gshl (a := 1) (j := k) ?_ (hw := wI64 (by omega)))) | (first | (refine J.o 0 ?_; refine J.ev' hΓ ?_) | refine J.nil ?_ | (refine J.o 4 ?_; first | refine J.lT default hΓ ?_) | (refine J.o 3 ?_; first | refine J.iJ hΓ ?_ | refine J.fP hΓ ?_ | refine J.ev' hΓ ?_) | (refine J.o 1 ?_; first | refine J.ad ?_ | refine J.sb ?_) | (refine J.o 10 ?_; refine J.ev' hΓ ?_) | (refine J.o 11 ?_; refine J.ev' hΓ ?_)))
          | (first | refine JC.seq ?_ | refine JC.region ?_ | refine JC.ret ?_ | refine JC.skip ?_ | refine thenK.nn ?_ | refine thenK.r ?_ | refine JC.condT rfl ?_ | refine JC.condF rfl ?_ | (refine JC.cond rfl (fun hc => ?_) (fun hc => ?_) <;> ((try simp only [decide_eq_true_eq, decide_eq_false_iff_not, beq_iff_eq, beq_eq_false_iff_ne, bne_iff_ne, bne_eq_false_iff_eq, Bool.not_eq_true', Bool.not_eq_false', Bool.not_eq_true, Bool.not_eq_false] at hc) <;> first | (first | (exact absurd rfl hc) | (exfalso; omega) | (exact absurd (hc.symm.trans (by assumption : _ = false)) (by decide)) | (exact absurd (hc.symm.trans (by assumption : _ = true)) (by decide))) | skip)) | refine drawK.nn ?_)
          | (fail)
          | fail
        all_goals first | (exfalso; omega) | skip
        all_goals exact ret1f rfl rfl rfl (fun w1 hw => ⟨retI (by simp), hw.below⟩))
    · obtain ⟨⟨g1, g2, g3⟩, ⟨b1, b2, b3⟩, ⟨c1, c2, c3⟩, p0, p1⟩ := hp.step hV hj hv
      rw [if_neg hv]
      have m0 := mod_le hV (f := f) (by omega) b2 p0
      have m1 := mod_le hV (f := f) (by omega) c2 p1
      have h2k : 2 ^ (k - 1) ≤ 2 ^ 20 := Nat.pow_le_pow_right (by omega) (by omega)
      have e2 : (2 : Nat) ^ 20 = 1048576 := rfl
      have i0 := fun w hw => ih _ _ (by omega) b2 p0 w hw
      have i1 := fun w hw => ih _ _ (by omega) c2 p1 w hw
      rw [show (((ts.getD j default).no.toNat : Nat) : Int) = (ts.getD j default).no by omega, show ((k - 1 : Nat) : Int) = (k : Int) - 1 by omega] at i0
      rw [show (((ts.getD j default).yes.toNat : Nat) : Int) = (ts.getD j default).yes by omega, show ((k - 1 : Nat) : Int) = (k : Int) - 1 by omega] at i1
      generalize modN ts f (ts.getD j default).no.toNat (k - 1) = x0 at *
      generalize modN ts f (ts.getD j default).yes.toNat (k - 1) = x1 at *
      refine calls_of_JC (R := h) Tryz.func28 Tryz.ntmps28 rfl rfl (hw) ?_
      repeat' first
        | (refine J.isJ ?_; first | (first | (refine J.o 4 ?_; refine J.lT default hΓ ?_ (hs := hs) (hr := RdH.old fun _ hh => hh)) | (refine J.o 3 ?_; refine J.iJ hΓ ?_ (hs := hs)) | (refine J.fn 28 rfl ?_; first | refine J.call0 eModelsR rfl rfl (fun w hw => i0 w (hw.rdH (RdH.old fun _ hh => hh))) ?_ | refine J.call0 eModelsR rfl rfl (fun w hw => i1 w (hw.rdH (RdH.old fun _ hh => hh))) ?_)) | (first | (refine J.o 0 ?_; refine J.ev' hΓ ?_) | refine J.nil ?_ | (refine J.o 4 ?_; first | refine J.lT default hΓ ?_) | (refine J.o 3 ?_; first | refine J.iJ hΓ ?_ | refine J.fP hΓ ?_ | refine J.ev' hΓ ?_) | (refine J.o 1 ?_; first | refine J.ad ?_ | refine J.sb ?_) | (refine J.o 10 ?_; refine J.ev' hΓ ?_) | (refine J.o 11 ?_; refine J.ev' hΓ ?_)))
        | (first | refine JC.seq ?_ | refine JC.region ?_ | refine JC.ret ?_ | refine JC.skip ?_ | refine thenK.nn ?_ | refine thenK.r ?_ | refine JC.condT rfl ?_ | refine JC.condF rfl ?_ | (refine JC.cond rfl (fun hc => ?_) (fun hc => ?_) <;> ((try simp only [decide_eq_true_eq, decide_eq_false_iff_not, beq_iff_eq, beq_eq_false_iff_ne, bne_iff_ne, bne_eq_false_iff_eq, Bool.not_eq_true', Bool.not_eq_false', Bool.not_eq_true, Bool.not_eq_false] at hc) <;> first | (first | (exact absurd rfl hc) | (exfalso; omega) | (exact absurd (hc.symm.trans (by assumption : _ = false)) (by decide)) | (exact absurd (hc.symm.trans (by assumption : _ = true)) (by decide))) | skip)) | refine drawK.nn ?_)
        | ((refine JC.drawA [] (by kernel_rfl) (by kernel_rfl) ?_))
        | fail
      all_goals first | (exfalso; omega) | skip
      all_goals exact ret1f rfl rfl rfl (fun w1 hw => ⟨retI (by omega), hw.below⟩)
end Go.Proofs.YtdiciemlbhkilaaGreatDoor
namespace Go.Proofs.YtdiciemlbhkilaaGreatDoor
open Go Go.Cx Go.RowKit
set_option linter.unusedVariables false
set_option linter.unusedSimpArgs false
set_option maxHeartbeats 4000000
attribute [local irreducible] J JC thenK blockK loopK roundK drawK retK QW Qt pel List.set Calls
set_option maxRecDepth 8000
attribute [local irreducible] JE Br eK0 eK3 brK cN proC sumC outC wO zO clsAt checkT modN cntP
theorem refCheckQ (a : Option Addr) (cap : Nat) (ts : List Nd) (n : Int) (h : Heap) (hs : SlT encN 4 a ts h) (w : World) (hw : Holds h w) :
    Calls Tryz.prog 8 #[.slice a ts.length cap, .int .i64 n] w fun e w' => e = .returned (.int .i64 (checkT ts n)) ∧ Below w.heap.size w w' := by
  rw [check_eq]; exact refCheck_any a cap ts n h hs w hw
def goodB (ts : List Nd) (n : Int) : Bool := decide (ts.length ≤ 80) && decide (n ≤ 20) && decide (checkT ts n = 0)
theorem eGood : Entr Tryz.prog 25 := Entr.of Tryz.func25 rfl rfl
theorem good_any (a : Option Addr) (cap : Nat) (ts : List Nd) (n : Int) (h : Heap) (hs : SlT encN 4 a ts h) (w : World) (hw : Holds h w) :
    Calls Tryz.prog 25 #[.slice a ts.length cap, .int .i64 n] w fun e w' => e = .returned (.bool (goodB ts n)) ∧ Below w.heap.size w w' := by
  refine calls_of_JC (R := h) Tryz.func25 Tryz.ntmps25 rfl rfl (hw) ?_
  unfold goodB
  by_cases h1 : ts.length ≤ 80
  · by_cases h2 : n ≤ 20
    · by_cases h3 : checkT ts n = 0
      · have cR := fun (a2 : Option Addr) (cap2 : Nat) (h2 : Heap) (hs2 : SlT encN 4 a2 ts h2) w hw2 => refCheckQ a2 cap2 ts n h2 hs2 w hw2
        rw [h3] at cR
        rw [decide_eq_true h1, decide_eq_true h2, decide_eq_true h3]
        repeat' first
          | (refine J.isJ ?_; first | (first | (refine J.o 0 ?_; refine J.ev' hΓ ?_) | refine J.nil ?_ | refine J.kd ?_ | (refine J.o 3 ?_; first | refine J.ev' hΓ ?_) | (refine J.o 10 ?_; refine J.ev' hΓ ?_) | (refine J.o 11 ?_; refine J.ev' hΓ ?_)) | (first | (refine J.fc 9 ?_; refine J.call1 eGiven rfl rfl (fun w hw => given_any a cap ts h hs (by omega) w (hw.rdH (by first | exact RdH.hd | exact RdH.hd.tl | exact RdH.hd.tl.tl | exact RdH.hd.tl.tl.tl | exact RdH.hd.tl.tl.tl.tl | exact RdH.hd.tl.tl.tl.tl.tl | exact RdH.hd.tl.tl.tl.tl.tl.tl | exact RdH.hd.tl.tl.tl.tl.tl.tl.tl | exact RdH.old (fun _ hh => hh) | assumption))) ?_; rintro _ hg ⟨ag, cg, rfl, og⟩) | (refine J.fc 8 ?_; refine J.call0 eCheckR rfl rfl (fun w hw => cR _ _ _ og.sl w (hw.rdH (by first | exact RdH.hd | exact RdH.hd.tl | exact RdH.hd.tl.tl | exact RdH.hd.tl.tl.tl | exact RdH.hd.tl.tl.tl.tl | exact RdH.hd.tl.tl.tl.tl.tl | exact RdH.hd.tl.tl.tl.tl.tl.tl | exact RdH.hd.tl.tl.tl.tl.tl.tl.tl | exact RdH.old (fun _ hh => hh) | assumption))) ?_)) | ((fail_if_success refine J.wt ?_); refine J.gc rfl rfl (fun hc => ?_) (fun hc => ?_) <;> ((try simp only [decide_eq_true_eq, decide_eq_false_iff_not, beq_iff_eq, beq_eq_false_iff_ne, bne_iff_ne, bne_eq_false_iff_eq, Bool.not_eq_true', Bool.not_eq_false', Bool.not_eq_true, Bool.not_eq_false] at hc) <;> first | (first | (exact absurd rfl hc) | (exfalso; omega) | (exact absurd (hc.symm.trans (by assumption : _ = false)) (by decide)) | (exact absurd (hc.symm.trans (by assumption : _ = true)) (by decide))) | skip)))
          | (first | refine JC.seq ?_ | refine JC.region ?_ | refine JC.ret ?_ | refine thenK.nn ?_)
          | fail
        all_goals first | (exfalso; omega) | exact ret1f rfl rfl rfl (fun w1 hw => ⟨rfl, hw.below⟩)
      · rw [decide_eq_true h1, decide_eq_true h2, decide_eq_false h3]
        repeat' first
          | (refine J.isJ ?_; first | (first | (refine J.o 0 ?_; refine J.ev' hΓ ?_) | refine J.nil ?_ | refine J.kd ?_ | (refine J.o 3 ?_; first | refine J.ev' hΓ ?_) | (refine J.o 10 ?_; refine J.ev' hΓ ?_) | (refine J.o 11 ?_; refine J.ev' hΓ ?_)) | (first | (refine J.fc 9 ?_; refine J.call1 eGiven rfl rfl (fun w hw => given_any a cap ts h hs (by omega) w (hw.rdH (by first | exact RdH.hd | exact RdH.hd.tl | exact RdH.hd.tl.tl | exact RdH.hd.tl.tl.tl | exact RdH.hd.tl.tl.tl.tl | exact RdH.hd.tl.tl.tl.tl.tl | exact RdH.hd.tl.tl.tl.tl.tl.tl | exact RdH.hd.tl.tl.tl.tl.tl.tl.tl | exact RdH.old (fun _ hh => hh) | assumption))) ?_; rintro _ hg ⟨ag, cg, rfl, og⟩) | (refine J.fc 8 ?_; refine J.call0 eCheckR rfl rfl (fun w hw => refCheckQ _ _ ts n _ og.sl w (hw.rdH (by first | exact RdH.hd | exact RdH.hd.tl | exact RdH.hd.tl.tl | exact RdH.hd.tl.tl.tl | exact RdH.hd.tl.tl.tl.tl | exact RdH.hd.tl.tl.tl.tl.tl | exact RdH.hd.tl.tl.tl.tl.tl.tl | exact RdH.hd.tl.tl.tl.tl.tl.tl.tl | exact RdH.old (fun _ hh => hh) | assumption))) ?_)) | ((fail_if_success refine J.wt ?_); refine J.gc rfl rfl (fun hc => ?_) (fun hc => ?_) <;> ((try simp only [decide_eq_true_eq, decide_eq_false_iff_not, beq_iff_eq, beq_eq_false_iff_ne, bne_iff_ne, bne_eq_false_iff_eq, Bool.not_eq_true', Bool.not_eq_false', Bool.not_eq_true, Bool.not_eq_false] at hc) <;> first | (first | (exact absurd rfl hc) | (exfalso; omega) | (exact absurd (hc.symm.trans (by assumption : _ = false)) (by decide)) | (exact absurd (hc.symm.trans (by assumption : _ = true)) (by decide))) | skip)))
          | (first | refine JC.seq ?_ | refine JC.region ?_ | refine JC.ret ?_ | refine thenK.nn ?_)
          | fail
        all_goals first | (exfalso; omega) | exact ret1f rfl rfl rfl (fun w1 hw => ⟨rfl, hw.below⟩) | exact ret1f rfl rfl rfl (fun w1 hw => ⟨retB (by simp [h3]), hw.below⟩)
    · rw [decide_eq_false h2, Bool.and_false, Bool.false_and]
      repeat' first
        | (refine J.isJ ?_; (first | (first | (refine J.o 0 ?_; refine J.ev' hΓ ?_) | refine J.nil ?_ | refine J.kd ?_ | (refine J.o 3 ?_; first | refine J.ev' hΓ ?_) | (refine J.o 10 ?_; refine J.ev' hΓ ?_) | (refine J.o 11 ?_; refine J.ev' hΓ ?_)) | ((fail_if_success refine J.wt ?_); refine J.gc rfl rfl (fun hc => ?_) (fun hc => ?_) <;> ((try simp only [decide_eq_true_eq, decide_eq_false_iff_not, beq_iff_eq, beq_eq_false_iff_ne, bne_iff_ne, bne_eq_false_iff_eq, Bool.not_eq_true', Bool.not_eq_false', Bool.not_eq_true, Bool.not_eq_false] at hc) <;> first | (first | (exact absurd rfl hc) | (exfalso; omega) | (exact absurd (hc.symm.trans (by assumption : _ = false)) (by decide)) | (exact absurd (hc.symm.trans (by assumption : _ = true)) (by decide))) | skip))))
        | (first | refine JC.seq ?_ | refine JC.region ?_ | refine JC.ret ?_ | refine thenK.nn ?_)
        | fail
      all_goals first | (exfalso; omega) | exact ret1f rfl rfl rfl (fun w1 hw => ⟨rfl, hw.below⟩)
  · rw [decide_eq_false h1, Bool.false_and, Bool.false_and]
    repeat' first
      | (refine J.isJ ?_; (first | (first | (refine J.o 0 ?_; refine J.ev' hΓ ?_) | refine J.nil ?_ | refine J.kd ?_ | (refine J.o 3 ?_; first | refine J.ev' hΓ ?_) | (refine J.o 10 ?_; refine J.ev' hΓ ?_) | (refine J.o 11 ?_; refine J.ev' hΓ ?_)) | ((fail_if_success refine J.wt ?_); refine J.gc rfl rfl (fun hc => ?_) (fun hc => ?_) <;> ((try simp only [decide_eq_true_eq, decide_eq_false_iff_not, beq_iff_eq, beq_eq_false_iff_ne, bne_iff_ne, bne_eq_false_iff_eq, Bool.not_eq_true', Bool.not_eq_false', Bool.not_eq_true, Bool.not_eq_false] at hc) <;> first | (first | (exact absurd rfl hc) | (exfalso; omega) | (exact absurd (hc.symm.trans (by assumption : _ = false)) (by decide)) | (exact absurd (hc.symm.trans (by assumption : _ = true)) (by decide))) | skip))))
      | (first | refine JC.seq ?_ | refine JC.region ?_ | refine JC.ret ?_ | refine thenK.nn ?_)
      | fail
    all_goals first | (exfalso; omega) | exact ret1f rfl rfl rfl (fun w1 hw => ⟨rfl, hw.below⟩)
theorem cnt_tree {ts : List Nd} {nn : Nat} (hV : Valid ts nn) {X : List PN} (tn : TNet ts nn X) : cntP nn X = modN ts ts.length 0 nn := by
  have hN := hV.rng
  have h1 := cnt_eq (nn := nn) (by omega) tn.ck tn.sm tn.dd
  have h2 := mod_count hV ts.length 0 nn (by omega) hV.pos (PathK.start ts nn)
  rw [h1, cS_ext tn.ev, ← h2, Nat.sub_self]
  omega
set_option maxHeartbeats 16000000 in
theorem treeCounts_walk (a : Option Addr) (cap : Nat) (ts : List Nd) (n : Int) (h : Heap) (hs : SlT encN 4 a ts h) (w : World) (hT : Tab w) (hT2 : Tab64 w) (hw : Holds h w) :
    Calls Tryz.prog 5 #[.slice a ts.length cap, .int .i64 n] w fun e w' => e = .returned (.bool true) ∧ Below w.heap.size w w' := by
  have cG := fun w hw => good_any a cap ts n h hs w hw
  cases hg : goodB ts n
  case false =>
    rw [hg] at cG
    refine calls_of_JC (R := h) Tryz.func5 Tryz.ntmps5 rfl rfl (hw) ?_
    repeat' first
      | (refine J.isJ ?_; first | (first | (refine J.fc 7 ?_; refine J.call0 eWorks rfl rfl (fun w hw => works_any w) ?_) | (refine J.fc 25 ?_; refine J.call0 eGood rfl rfl (fun w hw => cG w (hw.rdH (by first | exact RdH.hd | exact RdH.hd.tl | exact RdH.hd.tl.tl | exact RdH.hd.tl.tl.tl | exact RdH.hd.tl.tl.tl.tl | exact RdH.hd.tl.tl.tl.tl.tl | exact RdH.hd.tl.tl.tl.tl.tl.tl | exact RdH.hd.tl.tl.tl.tl.tl.tl.tl | exact RdH.old (fun _ hh => hh) | assumption))) ?_)) | (first | (refine J.o 0 ?_; refine J.ev' hΓ ?_) | refine J.nil ?_ | (refine J.o 4 ?_; first | refine J.lR hΓ ?_) | (refine J.o 3 ?_; first | refine J.ev' hΓ ?_) | (refine J.o 5 ?_; first | refine J.t0 hΓ ?_) | (refine J.o 7 ?_; refine J.al hΓ (fun _ => ?_)) | (refine J.o 10 ?_; refine J.ev' hΓ ?_) | (refine J.o 11 ?_; refine J.ev' hΓ ?_)) | ((fail_if_success refine J.wt ?_); refine J.gc rfl rfl (fun hc => ?_) (fun hc => ?_) <;> ((try simp only [decide_eq_true_eq, decide_eq_false_iff_not, beq_iff_eq, beq_eq_false_iff_ne, bne_iff_ne, bne_eq_false_iff_eq, Bool.not_eq_true', Bool.not_eq_false', Bool.not_eq_true, Bool.not_eq_false] at hc) <;> first | (first | (exact absurd rfl hc) | (exfalso; omega) | (exact absurd (hc.symm.trans (by assumption : _ = false)) (by decide)) | (exact absurd (hc.symm.trans (by assumption : _ = true)) (by decide))) | skip)))
      | (first | refine JC.seq ?_ | refine JC.region ?_ | refine JC.ret ?_ | refine JC.skip ?_ | refine thenK.nn ?_ | refine thenK.r ?_ | refine JC.condT rfl ?_ | refine JC.condF rfl ?_)
      | (fail)
      | fail
    all_goals first | (exfalso; omega) | exact ret1f rfl rfl rfl (fun w1 hw => ⟨rfl, hw.below⟩)
  rw [hg] at cG
  unfold goodB at hg
  simp only [Bool.and_eq_true, decide_eq_true_eq] at hg
  obtain ⟨⟨hl, hn20⟩, he⟩ := hg
  have hV := (valid_iff ts n).1 he
  have hN := hV.rng
  obtain ⟨nn, rfl⟩ := Int.eq_ofNat_of_zero_le hN.1
  have hM := mod_le hV (f := ts.length) (by omega) hV.pos (PathK.start ts nn)
  have h2k : 2 ^ nn ≤ 2 ^ 20 := Nat.pow_le_pow_right (by omega) (by omega)
  have e2 : (2 : Nat) ^ 20 = 1048576 := rfl
  have cV := fun w hw => given_any a cap ts h hs (by omega) w hw
  have cN := fun w hT hw => netT_ok a cap ts (nn : Int) h hs he w hT hw
  have cU := fun w => uint_any (modN ts ts.length 0 nn) (by omega) w
  have cM := fun (a2 : Option Addr) (cap2 : Nat) (h2 : Heap) (hs2 : SlT encN 4 a2 ts h2) w hw => modelsR_any a2 cap2 ts nn (by omega) hV h2 hs2 ts.length 0 nn (by omega) hV.pos (PathK.start ts nn) w hw
  refine calls_of_JC (R := h) Tryz.func5 Tryz.ntmps5 rfl rfl (hw) ?_
  repeat' first
    | (refine J.isJ ?_; first | (first | (refine J.fc 7 ?_; refine J.call0 eWorks rfl rfl (fun w hw => works_any w) ?_) | (refine J.fc 25 ?_; refine J.call0 eGood rfl rfl (fun w hw => cG w (hw.rdH (by first | exact RdH.hd | exact RdH.hd.tl | exact RdH.hd.tl.tl | exact RdH.hd.tl.tl.tl | exact RdH.hd.tl.tl.tl.tl | exact RdH.hd.tl.tl.tl.tl.tl | exact RdH.hd.tl.tl.tl.tl.tl.tl | exact RdH.hd.tl.tl.tl.tl.tl.tl.tl | exact RdH.old (fun _ hh => hh) | assumption))) ?_) | (refine J.fc 10 ?_; refine J.call1 eTNet rfl rfl (fun w hw => cN w (hT.below hw.below) (hw.rdH (by first | exact RdH.hd | exact RdH.hd.tl | exact RdH.hd.tl.tl | exact RdH.hd.tl.tl.tl | exact RdH.hd.tl.tl.tl.tl | exact RdH.hd.tl.tl.tl.tl.tl | exact RdH.hd.tl.tl.tl.tl.tl.tl | exact RdH.hd.tl.tl.tl.tl.tl.tl.tl | exact RdH.old (fun _ hh => hh) | assumption))) ?_; rintro _ hN2 ⟨ao, os, co, rfl, hni, tn⟩; have hX : CntN nn (os.map pnV) := ⟨by omega, tn.ck, tn.sm, tn.dd⟩; have cC := fun w hT hw => count_any nn ao co os hN2 hni hX w hT hw; rw [cnt_tree hV tn] at cC) | (refine J.fc 26 ?_; refine J.call0 eCount rfl rfl (fun w hw => cC w (hT2.below hw.below) (hw.rdH (by first | exact RdH.hd | exact RdH.hd.tl | exact RdH.hd.tl.tl | exact RdH.hd.tl.tl.tl | exact RdH.hd.tl.tl.tl.tl | exact RdH.hd.tl.tl.tl.tl.tl | exact RdH.hd.tl.tl.tl.tl.tl.tl | exact RdH.hd.tl.tl.tl.tl.tl.tl.tl | exact RdH.old (fun _ hh => hh) | assumption))) ?_) | (refine J.fc 27 ?_; refine J.call0 eUint rfl rfl (fun w hw => cU w) ?_) | (refine J.fc 9 ?_; refine J.call1 eGiven rfl rfl (fun w hw => cV w (hw.rdH (by first | exact RdH.hd | exact RdH.hd.tl | exact RdH.hd.tl.tl | exact RdH.hd.tl.tl.tl | exact RdH.hd.tl.tl.tl.tl | exact RdH.hd.tl.tl.tl.tl.tl | exact RdH.hd.tl.tl.tl.tl.tl.tl | exact RdH.hd.tl.tl.tl.tl.tl.tl.tl | exact RdH.old (fun _ hh => hh) | assumption))) ?_; rintro _ hg ⟨ag, cg, rfl, og⟩) | (refine J.fc 28 ?_; refine J.call0 eModelsR rfl rfl (fun w hw => cM _ _ _ og.sl w (hw.rdH (by first | exact RdH.hd | exact RdH.hd.tl | exact RdH.hd.tl.tl | exact RdH.hd.tl.tl.tl | exact RdH.hd.tl.tl.tl.tl | exact RdH.hd.tl.tl.tl.tl.tl | exact RdH.hd.tl.tl.tl.tl.tl.tl | exact RdH.hd.tl.tl.tl.tl.tl.tl.tl | exact RdH.old (fun _ hh => hh) | assumption))) ?_) | (refine J.o 2 ?_; refine J.gcv hΓ ?_ (hk := wU64 (by omega)))) | (first | (refine J.o 0 ?_; refine J.ev' hΓ ?_) | refine J.nil ?_ | (refine J.o 4 ?_; first | refine J.lR hΓ ?_) | (refine J.o 3 ?_; first | refine J.ev' hΓ ?_) | (refine J.o 5 ?_; first | refine J.t0 hΓ ?_) | (refine J.o 7 ?_; refine J.al hΓ (fun _ => ?_)) | (refine J.o 10 ?_; refine J.ev' hΓ ?_) | (refine J.o 11 ?_; refine J.ev' hΓ ?_)) | ((fail_if_success refine J.wt ?_); refine J.gc rfl rfl (fun hc => ?_) (fun hc => ?_) <;> ((try simp only [decide_eq_true_eq, decide_eq_false_iff_not, beq_iff_eq, beq_eq_false_iff_ne, bne_iff_ne, bne_eq_false_iff_eq, Bool.not_eq_true', Bool.not_eq_false', Bool.not_eq_true, Bool.not_eq_false] at hc) <;> first | (first | (exact absurd rfl hc) | (exfalso; omega) | (exact absurd (hc.symm.trans (by assumption : _ = false)) (by decide)) | (exact absurd (hc.symm.trans (by assumption : _ = true)) (by decide))) | skip)))
    | (first | refine JC.seq ?_ | refine JC.region ?_ | refine JC.ret ?_ | refine JC.skip ?_ | refine thenK.nn ?_ | refine thenK.r ?_ | refine JC.condT rfl ?_ | refine JC.condF rfl ?_)
    | (fail)
    | fail
  all_goals first | (exfalso; omega) | exact ret1f rfl rfl rfl (fun w1 hw => ⟨rfl, hw.below⟩)
end Go.Proofs.YtdiciemlbhkilaaGreatDoor
