/-
  The layer's evaluator: what operations that touch no memory give, by reduction alone; and that they give it.
-/
import Derived.Test.YthnhijdfcmcnhaaCxB
import Derived.Deep.QuietTactic
namespace Go.Cx
open Go Go.RowKit
set_option linter.unusedVariables false
set_option linter.unusedSimpArgs false

/-- What is used of a type. -/
structure TI where
  desc : TypeDesc
  size : Nat
  zero : Option Value
  bytes : Nat
def look : List (Nat × TI) → Nat → Option TI
  | [], _ => none
  | (k, t) :: l, i => bif Nat.beq i k then some t else look l i
/-- A table of types fits a program. -/
def Fits (P : Program) (Γ : List (Nat × TI)) : Prop := ∀ t ti, look Γ t = some ti → P.underlying t = some ti.desc ∧ ∃ i, P.info? t = some i ∧ i.size = ti.size ∧ i.zero = ti.zero ∧ i.bytes = ti.bytes
theorem Fits.nil (P : Program) : Fits P [] := fun _ _ h => by cases h
theorem Fits.cons {P : Program} {Γ : List (Nat × TI)} {k : Nat} {x : TI} (h : Fits P Γ) (hu : P.underlying k = some x.desc) (hi : (P.info? k).map (fun i => (i.zero, i.size, i.bytes)) = some (x.zero, x.size, x.bytes)) : Fits P ((k, x) :: Γ) := by
  intro t ti ht
  unfold look at ht
  cases hb : Nat.beq t k with
  | true =>
    rw [hb] at ht
    simp only [cond_true, Option.some.injEq] at ht
    subst ht
    have := Nat.eq_of_beq_eq_true hb
    subst this
    refine ⟨hu, ?_⟩
    cases hp : P.info? t with
    | none => rw [hp] at hi; cases hi
    | some i =>
      rw [hp] at hi
      simp only [Option.map_some, Option.some.injEq, Prod.mk.injEq] at hi
      exact ⟨i, rfl, hi.2.1, hi.1, hi.2.2⟩
  | false => rw [hb] at ht; exact h t ti ht

def sameK : IntKind → IntKind → Bool
  | .i8, .i8 | .i16, .i16 | .i32, .i32 | .i64, .i64 | .u8, .u8 | .u16, .u16 | .u32, .u32 | .u64, .u64 => true
  | _, _ => false
theorem sameK_eq {a b : IntKind} (h : sameK a b = true) : a = b := by cases a <;> cases b <;> first | rfl | cases h

/-- A value by its head. -/
def frc : Value → Option Value
  | .bool b => some (.bool b)
  | .int k n => some (.int k n)
  | .string s => some (.string s)
  | .pointer a => some (.pointer a)
  | .slice a n c => some (.slice a n c)
  | .nilIface => some .nilIface
  | .map r => some (.map r)
  | .func fn x y => some (.func fn x y)
  | .agg c => some (.agg c)
  | .tuple c => some (.tuple c)
  | _ => none
theorem frc_eq {v u : Value} (h : frc v = some u) : v = u := by cases v <;> simp [frc] at h <;> first | exact h | cases h

def binEv (Γ : List (Nat × TI)) (op : BinOp) (t : TypeId) : Value → Value → Option Value
  | .int k a, .int k' b =>
    match op with
    | .add => bif sameK k k' then some (.int k (k.wrap (a + b))) else none
    | .sub => bif sameK k k' then some (.int k (k.wrap (a - b))) else none
    | .mul => bif sameK k k' then some (.int k (k.wrap (a * b))) else none
    | .eql => bif sameK k k' then some (.bool (a == b)) else none
    | .neq => bif sameK k k' then some (.bool (a != b)) else none
    | .lss => bif sameK k k' then some (.bool (decide (a < b))) else none
    | .leq => bif sameK k k' then some (.bool (decide (a ≤ b))) else none
    | .gtr => bif sameK k k' then some (.bool (decide (b < a))) else none
    | .geq => bif sameK k k' then some (.bool (decide (b ≤ a))) else none
    | _ => none
  | .string a, .string b =>
    match op with
    | .eql => some (.bool (a.toList == b.toList))
    | .neq => some (.bool !(a.toList == b.toList))
    | _ => none
  | .bool a, .bool b =>
    match look Γ t with
    | some ⟨.bool, _, _, _⟩ =>
      match op with
      | .eql => some (.bool (a == b))
      | .neq => some (.bool !(a == b))
      | _ => none
    | _ => none
  | _, _ => none

def unEv (op : UnOp) : Value → Option Value
  | .bool b => match op with | .not => some (.bool !b) | _ => none
  | .int k n => match op with | .neg => some (.int k (k.wrap (0 - n))) | _ => none
  | _ => none

def lenEv (Γ : List (Nat × TI)) (t : TypeId) : Value → Option Value
  | .string s => match look Γ t with | some ⟨.string, _, _, _⟩ => some (.int .i64 s.size) | _ => none
  | .slice _ n _ => match look Γ t with | some ⟨.slice _, _, _, _⟩ => some (.int .i64 n) | _ => none
  | _ => none

/-- The cells of a part of an aggregate, as a value. -/
def partEv (Γ : List (Nat × TI)) (t : TypeId) (cs : List Value) (off : Nat) : Option Value :=
  match look Γ t with
  | some ⟨.struct _, s, _, _⟩ => some (.agg ((cs.drop off).take s).toArray)
  | some ⟨.array _ _, s, _, _⟩ => some (.agg ((cs.drop off).take s).toArray)
  | some _ => match cs[off]? with | some v => frc v | none => none
  | none => none

/-- A field's address. -/
def fieldEv (Γ : List (Nat × TI)) (t : TypeId) (i : Nat) : Value → Option Value
  | .pointer (some ⟨b, o, s⟩) =>
    match look Γ t with
    | some ⟨.struct fs, _, _, _⟩ =>
      match fs[i]? with
      | some fd =>
        match look Γ fd.type with
        | some ⟨_, s', _, _⟩ => bif Nat.beq s' 0 then none else (match fd.offset with | 0 => some (.pointer (some ⟨b, o, s⟩)) | k + 1 => some (.pointer (some ⟨b, o + (k + 1), none⟩)))
        | none => none
      | none => none
    | _ => none
  | _ => none

def pureEv (Γ : List (Nat × TI)) (ρ : Operand → Value) : Op → Option Value
  | .move x => frc (ρ x)
  | .assign x => frc (ρ x)
  | .pick c a b =>
    match ρ c with
    | .bool true => frc (ρ a)
    | .bool false => frc (ρ b)
    | _ => none
  | .binOp op t x y _ => binEv Γ op t (ρ x) (ρ y)
  | .unOp op _ x => unEv op (ρ x)
  | .call ⟨.builtin .len, ⟨[x]⟩, ⟨[t]⟩⟩ => lenEv Γ t (ρ x)
  | .call ⟨.builtin .min, ⟨[x, y]⟩, _⟩ => match ρ x, ρ y with | .int k a, .int _ b => some (.int k (min a b)) | _, _ => none
  | .call ⟨.builtin .max, ⟨[x, y]⟩, _⟩ => match ρ x, ρ y with | .int k a, .int _ b => some (.int k (max a b)) | _, _ => none
  | .extract x i =>
    match ρ x with
    | .tuple ⟨vs⟩ => match vs[i]? with | some v => frc v | none => none
    | _ => none
  | .field t x i =>
    match ρ x with
    | .agg ⟨cs⟩ =>
      match look Γ t with
      | some ⟨.struct fs, _, _, _⟩ => match fs[i]? with | some fd => partEv Γ fd.type cs fd.offset | none => none
      | _ => none
    | _ => none
  | .fieldAddr t x i => fieldEv Γ t i (ρ x)
  | .makeFunc fn a b => some (.func fn (a.map ρ) (b.map ρ))
  | .nilCheck x => match ρ x with | .pointer (some a) => some (.pointer (some a)) | _ => none
  | .convert src dst x =>
    match ρ x with
    | .int _ m => match look Γ src, look Γ dst with | some _, some ⟨.int k', _, _, _⟩ => some (.int k' (k'.wrap m)) | _, _ => none
    | _ => none
  | _ => none

section
variable {P : Program} {Γ : List (Nat × TI)}

theorem und_run {t : TypeId} {d : TypeDesc} (h : P.underlying t = some d) (w : World) : (underlying t).run P w = .ok d w := run_underlying h w

theorem binOp_eql_bool (t : TypeId) (a b : Bool) : binOp .eql t (.bool a) (.bool b) = (do pure (.bool (← Op.equal t (.bool a) (.bool b)))) := by simp only [binOp]
theorem binOp_neq_bool (t : TypeId) (a b : Bool) : binOp .neq t (.bool a) (.bool b) = (do pure (.bool (!(← Op.equal t (.bool a) (.bool b))))) := by simp only [binOp]

theorem binEv_ok (hΓ : Fits P Γ) {op : BinOp} {t : TypeId} {a b v : Value} (h : binEv Γ op t a b = some v) (x y : Operand) (w : World) : (do eqGuard op t x y a b; binOp op t a b : Sem Value).run P w = .ok v w := by
  cases a <;> cases b <;> simp only [binEv] at h <;> try (cases h; done)
  case int.int k a k' b =>
    cases op <;> simp only [] at h <;> try (cases h; done)
    all_goals
      cases hk : sameK k k' with
      | false => rw [hk] at h; cases h
      | true =>
        rw [hk] at h
        simp only [cond_true, Option.some.injEq] at h
        have := sameK_eq hk
        subst this
        subst h
        simp [eqGuard, binOp, Op.intArith, Op.intCmp, go_sem]
  case string.string a b =>
    cases op <;> simp only [] at h <;> try (cases h; done)
    all_goals
      simp only [Option.some.injEq] at h
      subst h
      simp [eqGuard, binOp, Op.stringOp, go_sem]
  case bool.bool a b =>
    cases ht : look Γ t with
    | none => rw [ht] at h; cases h
    | some ti =>
      obtain ⟨d, s, z, by'⟩ := ti
      have hu := (hΓ t _ ht).1
      rw [ht] at h
      cases d <;> simp only [] at h <;> try (cases h; done)
      cases op <;> simp only [] at h <;> try (cases h; done)
      all_goals
        simp only [Option.some.injEq] at h
        subst h
        have he : ∀ w, (Op.equal t (.bool a) (.bool b)).run P w = .ok (a == b) w := fun w => run_equal_bool w t a b hu
        simp [eqGuard, binOp_eql_bool, binOp_neq_bool, he, go_sem]

theorem unEv_ok {op : UnOp} {a v : Value} (h : unEv op a = some v) (w : World) : (Op.unary op a).run P w = .ok v w := by
  cases a <;> simp only [unEv] at h <;> try (cases h; done)
  all_goals
    cases op <;> simp only [] at h <;> try (cases h; done)
    simp only [Option.some.injEq] at h
    subst h
    simp [Op.unary, Op.intArith, go_sem]

theorem lenEv_ok (hΓ : Fits P Γ) {t ty : TypeId} {a v : Value} (h : lenEv Γ t a = some v) (w : World) : (Builtin.len_ #[t] ty #[a]).run P w = .ok v w := by
  cases a <;> simp only [lenEv] at h <;> try (cases h; done)
  all_goals
    cases ht : look Γ t with
    | none => rw [ht] at h; cases h
    | some ti =>
      obtain ⟨d, s, z, by'⟩ := ti
      have hu := (hΓ t _ ht).1
      rw [ht] at h
      cases d <;> simp only [] at h <;> try (cases h; done)
      simp only [Option.some.injEq] at h
      subst h
      simp [Builtin.len_, run_underlying hu, goInt, go_sem]

theorem isAgg_run {t : TypeId} {d : TypeDesc} (h : P.underlying t = some d) (w : World) : (isAgg t).run P w = .ok (match d with | .struct _ => true | .array _ _ => true | _ => false) w := by
  unfold isAgg
  simp only [Sem.run_bind, run_underlying h, Result.andThen]
  cases d <;> rfl

theorem partEv_ok (hΓ : Fits P Γ) {t : TypeId} {cs : List Value} {off : Nat} {v : Value} (h : partEv Γ t cs off = some v) (w : World) : (part t cs.toArray off).run P w = .ok v w := by
  unfold partEv at h
  cases ht : look Γ t with
  | none => rw [ht] at h; cases h
  | some ti =>
    obtain ⟨d, s, z, by'⟩ := ti
    obtain ⟨hu, i, hi, hs, hz, hb⟩ := hΓ t _ ht
    rw [ht] at h
    have hag := isAgg_run hu w
    have hsz : (sizeOf t).run P w = .ok s w := by simp [sizeOf, typeInfo, hi, hs, go_sem]
    unfold part
    simp only [Sem.run_bind, hag, Result.andThen]
    cases d <;> simp only [Option.some.injEq] at h ⊢
    case struct => subst h; simp [hsz, Sem.run_bind, Result.andThen, go_sem]
    case array => subst h; simp [hsz, Sem.run_bind, Result.andThen, go_sem]
    all_goals
      cases hc : cs[off]? with
      | none => rw [hc] at h; cases h
      | some u =>
        rw [hc] at h
        have := frc_eq h
        subst this
        simp [hc, go_sem]

theorem sizeOf_run (hΓ : Fits P Γ) {t : TypeId} {ti : TI} (h : look Γ t = some ti) (w : World) : (sizeOf t).run P w = .ok ti.size w := by
  obtain ⟨hu, i, hi, hs, hz, hb⟩ := hΓ t _ h
  simp [sizeOf, typeInfo, hi, hs, go_sem]

theorem fieldEv_ok (hΓ : Fits P Γ) {t : TypeId} {i : Nat} {a v : Value} (h : fieldEv Γ t i a = some v) (w : World) : (Instr.fieldAt t a i).run P w = .ok v w := by
  cases a <;> simp only [fieldEv] at h <;> try (cases h; done)
  case pointer p =>
    cases p with
    | none => cases h
    | some ad =>
      obtain ⟨b, o, s⟩ := ad
      cases ht : look Γ t with
      | none => simp only [ht] at h; cases h
      | some ti =>
        obtain ⟨d, sz, z, by'⟩ := ti
        have hu := (hΓ t _ ht).1
        simp only [ht] at h
        cases d <;> simp only [] at h <;> try (cases h; done)
        case struct fs =>
          cases hf : fs[i]? with
          | none => simp only [hf] at h; cases h
          | some fd =>
            simp only [hf] at h
            cases hl : look Γ fd.type with
            | none => simp only [hl] at h; cases h
            | some tj =>
              have hsz := sizeOf_run hΓ hl
              obtain ⟨d', s', z', b'⟩ := tj
              simp only [hl] at h
              cases hs0 : Nat.beq s' 0 with
              | true => rw [hs0] at h; cases h
              | false =>
                rw [hs0] at h
                simp only [cond_false] at h
                have hne : ¬ s' = 0 := fun e => by rw [e] at hs0; cases hs0
                have hfp : (fieldPlace ⟨b, o, s⟩ fd).run P w = .ok ((⟨b, o, s⟩ : Addr).add fd.offset) w := by
                  unfold fieldPlace
                  simp only [Sem.run_bind, hsz, Result.andThen_ok]
                  rw [if_neg (by simpa using hne)]
                  rfl
                unfold Instr.fieldAt
                simp only [Sem.run_bind, run_underlying hu, Result.andThen_ok, hf, Instr.sureAddr]
                cases ho : fd.offset with
                | zero =>
                  rw [ho] at h
                  simp only [Option.some.injEq] at h
                  subst h
                  simp only [Sem.run_pure, Result.andThen_ok]
                  rw [hfp, ho]
                  rfl
                | succ k =>
                  rw [ho] at h
                  simp only [Option.some.injEq] at h
                  subst h
                  simp only [Sem.run_pure, Result.andThen_ok]
                  rw [hfp, ho]
                  rfl

theorem pure_ok (hΓ : Fits P Γ) {ρ : Operand → Value} {o : Oper} {v : Value} (h : pureEv Γ ρ o.op = some v) (w : World) : (execOp ρ o).run P w = .ok (.value v) w := by
  obtain ⟨dst, op, ty, pos, after, guard⟩ := o
  simp only at h
  cases op <;> try (simp only [pureEv] at h; cases h; done)
  case move x => simp only [pureEv] at h; rw [← frc_eq h]; simp [execOp, go_sem]
  case assign x => simp only [pureEv] at h; rw [← frc_eq h]; simp [execOp, go_sem]
  case pick c a b =>
    simp only [pureEv] at h
    cases hc : ρ c <;> simp only [hc] at h <;> try (cases h; done)
    case bool t => cases t <;> simp only [] at h <;> rw [← frc_eq h] <;> simp [execOp, hc, asBool, go_sem]
  case binOp bo t x y u =>
    simp only [pureEv] at h
    have := binEv_ok hΓ h x y w
    simp only [execOp]
    simp only [Sem.run_bind] at this ⊢
    rw [this]
    rfl
  case unOp uo t x =>
    simp only [pureEv] at h
    have := unEv_ok (P := P) h w
    simp only [execOp, Sem.run_bind]
    rw [this]
    rfl
  case call c =>
    obtain ⟨callee, ⟨args⟩, ⟨ats⟩⟩ := c
    cases callee <;> try (simp only [pureEv] at h; cases h; done)
    case builtin b =>
      cases b <;> try (simp only [pureEv] at h; cases h; done)
      case len =>
        match args, ats, h with
        | [x], [t], h =>
          simp only [pureEv] at h
          have := lenEv_ok hΓ (ty := ty) h w
          simp [execOp, resolve, invoke, builtin, this, go_sem]
        | [], _, h => simp only [pureEv] at h; cases h
        | [_], [], h => simp only [pureEv] at h; cases h
        | [_], _ :: _ :: _, h => simp only [pureEv] at h; cases h
        | _ :: _ :: _, _, h => simp only [pureEv] at h; cases h
      case min =>
        match args, h with
        | [x, y], h =>
          simp only [pureEv] at h
          cases hx : ρ x <;> simp only [hx] at h <;> try (cases h; done)
          cases hy : ρ y <;> simp only [hy] at h <;> try (cases h; done)
          case int.int k a k' b =>
            simp only [Option.some.injEq] at h
            subst h
            have : (if b < a then b else a) = min a b := by split <;> omega
            simp [execOp, resolve, invoke, builtin, hx, hy, Builtin.min_, Builtin.min2, this, go_sem]
        | [], h => simp only [pureEv] at h; cases h
        | [_], h => simp only [pureEv] at h; cases h
        | _ :: _ :: _ :: _, h => simp only [pureEv] at h; cases h
      case max =>
        match args, h with
        | [x, y], h =>
          simp only [pureEv] at h
          cases hx : ρ x <;> simp only [hx] at h <;> try (cases h; done)
          cases hy : ρ y <;> simp only [hy] at h <;> try (cases h; done)
          case int.int k a k' b =>
            simp only [Option.some.injEq] at h
            subst h
            have : (if b > a then b else a) = max a b := by split <;> omega
            simp [execOp, resolve, invoke, builtin, hx, hy, Builtin.max_, Builtin.max2, this, go_sem]
        | [], h => simp only [pureEv] at h; cases h
        | [_], h => simp only [pureEv] at h; cases h
        | _ :: _ :: _ :: _, h => simp only [pureEv] at h; cases h
  case extract x i =>
    simp only [pureEv] at h
    cases hx : ρ x <;> simp only [hx] at h <;> try (cases h; done)
    case tuple vs =>
      obtain ⟨vs⟩ := vs
      cases hv : vs[i]? with
      | none => simp only [hv] at h; cases h
      | some u =>
        simp only [hv] at h
        rw [← frc_eq h]
        simp [execOp, hx, Instr.extract, hv, go_sem]
  case field t x i =>
    simp only [pureEv] at h
    cases hx : ρ x <;> simp only [hx] at h <;> try (cases h; done)
    case agg cs =>
      obtain ⟨cs⟩ := cs
      simp only at h
      cases ht : look Γ t with
      | none => simp only [ht] at h; cases h
      | some ti =>
        obtain ⟨d, sz, z, by'⟩ := ti
        have hu := (hΓ t _ ht).1
        simp only [ht] at h
        cases d <;> simp only [] at h <;> try (cases h; done)
        case struct fs =>
          cases hf : fs[i]? with
          | none => simp only [hf] at h; cases h
          | some fd =>
            simp only [hf] at h
            have hp := partEv_ok hΓ h w
            simp only [execOp, hx, Instr.field, Sem.run_bind, run_underlying hu, Result.andThen_ok, hf, asAgg]
            simp only [Sem.run_pure, Result.andThen_ok]
            rw [hp]
            rfl
  case fieldAddr t x i =>
    simp only [pureEv] at h
    have := fieldEv_ok hΓ h w
    simp only [execOp, Sem.run_bind]
    rw [this]
    rfl
  case makeFunc fn a b =>
    simp only [pureEv, Option.some.injEq] at h
    subst h
    simp [execOp, Instr.makeFunc, go_sem]
  case nilCheck x =>
    simp only [pureEv] at h
    cases hx : ρ x <;> simp only [hx] at h <;> try (cases h; done)
    case pointer p =>
      cases p <;> simp only [] at h <;> try (cases h; done)
      simp only [Option.some.injEq] at h
      subst h
      simp [execOp, hx, go_sem]
  case convert src dst' x =>
    simp only [pureEv] at h
    cases hx : ρ x <;> simp only [hx] at h <;> try (cases h; done)
    case int k m =>
      cases hs : look Γ src with
      | none => simp only [hs] at h; cases h
      | some ts =>
        simp only [hs] at h
        cases hd : look Γ dst' with
        | none => simp only [hd] at h; cases h
        | some td =>
          have hus := (hΓ src _ hs).1
          have hud := (hΓ dst' _ hd).1
          obtain ⟨d, sz, z, by'⟩ := td
          simp only [hd] at h
          cases d <;> simp only [] at h <;> try (cases h; done)
          case int k2 =>
            simp only [Option.some.injEq] at h
            subst h
            simp only [execOp, hx]
            have hc : (convert src dst' (.int k m)).run P w = .ok (.int k2 (k2.wrap m)) w := by
              unfold convert
              simp only [Sem.run_bind, run_underlying hus, run_underlying hud, Result.andThen_ok]
              cases ts.desc <;> rfl
            simp only [Sem.run_bind]
            rw [hc]
            rfl

/-- What reduction gives, the layer's way. -/
theorem Qt.ev {n : Nat} {w0 : World} {R : Heap} {L : List Heap} {f : Fr} {o : Oper} {v : Value} (hΓ : Fits P Γ) (h : pureEv Γ (ev n f) o.op = some v) : Qt P n w0 R L f o v := fun w _ => pure_ok hΓ h w
end
end Go.Cx
