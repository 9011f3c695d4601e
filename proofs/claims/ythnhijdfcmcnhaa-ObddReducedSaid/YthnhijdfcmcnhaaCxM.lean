/- The layer's rules once more, short: side conditions are by-clauses. Written by compact.py. -/
import Derived.Test.YthnhijdfcmcnhaaCxL
import Derived.KernelRfl
namespace Go.Cx
open Go Go.RowKit
set_option linter.unusedVariables false
def okS (s : Nat × Nat) : Prop := s.1 < 2 ^ 64 ∧ s.2 < 2 ^ 64
theorem pow64 {j : Nat} (h : j < 64) : 2 ^ j < 2 ^ 64 := Nat.pow_lt_pow_right (by omega) h
section
variable {P : Program} {n : Nat} {w0 : World} {R : Heap} {l0 : List Oper} {K : Exit → Fr → List Heap → Prop} {f : Fr} {L : List Heap} {rest : List (Nat × Oper)} {κ : Nat}
variable {Γ : List (Nat × TI)} {d : Nat} {op : Op} {ty : TypeId} {pos : String} {aft : Array Edge} {g : Option (Nat × Bool)}
theorem J.ev' {v : Value} (hΓ : Fits P Γ) (k : J P n w0 R l0 K rest (upd f d v) L) (hg : wantB n f l0 ⟨some d, op, ty, pos, aft, g⟩ = true := by exact rfl) (h : pureEv Γ (Cx.ev n f) op = some v := by exact rfl) : J P n w0 R l0 K ((κ, ⟨some d, op, ty, pos, aft, g⟩) :: rest) f L := J.ev hΓ hg h k
end
section
variable {P : Program} {n : Nat} {w0 : World} {R : Heap} {l0 : List Oper} {K : Exit → Fr → List Heap → Prop} {f : Fr} {L : List Heap} {rest : List (Nat × Oper)} {κ : Nat}
variable {Γ : List (Nat × TI)} {d : Nat} {op : Op} {ty : TypeId} {pos : String} {aft : Array Edge} {g : Option (Nat × Bool)}
theorem J.kd (k : J P n w0 R l0 K rest (upd f d undef) L) (hg : wantB n f l0 ⟨some d, op, ty, pos, aft, g⟩ = false := by exact rfl) : J P n w0 R l0 K ((κ, ⟨some d, op, ty, pos, aft, g⟩) :: rest) f L := J.skd hg k
end
section
variable {P : Program} {n : Nat} {w0 : World} {R : Heap} {l0 : List Oper} {K : Exit → Fr → List Heap → Prop} {f : Fr} {L : List Heap} {rest : List (Nat × Oper)} {κ : Nat}
variable {Γ : List (Nat × TI)} {d : Nat} {op : Op} {ty : TypeId} {pos : String} {aft : Array Edge} {g : Option (Nat × Bool)}
theorem J.kn (k : J P n w0 R l0 K rest f L) (hg : wantB n f l0 ⟨none, op, ty, pos, aft, g⟩ = false := by exact rfl) : J P n w0 R l0 K ((κ, ⟨none, op, ty, pos, aft, g⟩) :: rest) f L := J.skn hg k
end
section
variable {P : Program} {n : Nat} {w0 : World} {R : Heap} {l0 : List Oper} {K : Exit → Fr → List Heap → Prop} {f : Fr} {L : List Heap} {rest : List (Nat × Oper)} {κ : Nat}
variable {Γ : List (Nat × TI)} {d : Nat} {op : Op} {ty : TypeId} {pos : String} {aft : Array Edge} {g : Option (Nat × Bool)}
variable {t : TypeId} {x : Operand} {b off : Nat} {cs : List Value} {e : TypeId} {fr : Nat × Nat} {v : Value} {a1 a2 a3 a4 : Heap}
theorem J.e0 (hΓ : Fits P Γ) (k : J P n w0 R l0 K rest (upd f d v) ([(b, .cells ⟨cs⟩ e fr)] :: L)) (hg : wantB n f l0 ⟨some d, .load t x, ty, pos, aft, g⟩ = true := by exact rfl) (hp : Cx.ev n f x = .pointer (some ⟨b, off, none⟩) := by exact rfl) (hv : ldEv Γ t cs off = some v := by exact rfl) : J P n w0 R l0 K ((κ + 1, ⟨some d, .load t x, ty, pos, aft, g⟩) :: rest) f ([(b, .cells ⟨cs⟩ e fr)] :: L) := J.load0 hΓ hg hp hv k
end
section
variable {P : Program} {n : Nat} {w0 : World} {R : Heap} {l0 : List Oper} {K : Exit → Fr → List Heap → Prop} {f : Fr} {L : List Heap} {rest : List (Nat × Oper)} {κ : Nat}
variable {Γ : List (Nat × TI)} {d : Nat} {op : Op} {ty : TypeId} {pos : String} {aft : Array Edge} {g : Option (Nat × Bool)}
variable {t : TypeId} {x : Operand} {b off : Nat} {cs : List Value} {e : TypeId} {fr : Nat × Nat} {v : Value} {a1 a2 a3 a4 : Heap}
theorem J.e1 (hΓ : Fits P Γ) (k : J P n w0 R l0 K rest (upd f d v) (a1 :: [(b, .cells ⟨cs⟩ e fr)] :: L)) (hg : wantB n f l0 ⟨some d, .load t x, ty, pos, aft, g⟩ = true := by exact rfl) (hp : Cx.ev n f x = .pointer (some ⟨b, off, none⟩) := by exact rfl) (hv : ldEv Γ t cs off = some v := by exact rfl) : J P n w0 R l0 K ((κ + 1, ⟨some d, .load t x, ty, pos, aft, g⟩) :: rest) f (a1 :: [(b, .cells ⟨cs⟩ e fr)] :: L) := J.load1 hΓ hg hp hv k
end
section
variable {P : Program} {n : Nat} {w0 : World} {R : Heap} {l0 : List Oper} {K : Exit → Fr → List Heap → Prop} {f : Fr} {L : List Heap} {rest : List (Nat × Oper)} {κ : Nat}
variable {Γ : List (Nat × TI)} {d : Nat} {op : Op} {ty : TypeId} {pos : String} {aft : Array Edge} {g : Option (Nat × Bool)}
variable {t : TypeId} {x : Operand} {b off : Nat} {cs : List Value} {e : TypeId} {fr : Nat × Nat} {v : Value} {a1 a2 a3 a4 : Heap}
theorem J.e2 (hΓ : Fits P Γ) (k : J P n w0 R l0 K rest (upd f d v) (a1 :: a2 :: [(b, .cells ⟨cs⟩ e fr)] :: L)) (hg : wantB n f l0 ⟨some d, .load t x, ty, pos, aft, g⟩ = true := by exact rfl) (hp : Cx.ev n f x = .pointer (some ⟨b, off, none⟩) := by exact rfl) (hv : ldEv Γ t cs off = some v := by exact rfl) : J P n w0 R l0 K ((κ + 1, ⟨some d, .load t x, ty, pos, aft, g⟩) :: rest) f (a1 :: a2 :: [(b, .cells ⟨cs⟩ e fr)] :: L) := J.load2 hΓ hg hp hv k
end
section
variable {P : Program} {n : Nat} {w0 : World} {R : Heap} {l0 : List Oper} {K : Exit → Fr → List Heap → Prop} {f : Fr} {L : List Heap} {rest : List (Nat × Oper)} {κ : Nat}
variable {Γ : List (Nat × TI)} {d : Nat} {op : Op} {ty : TypeId} {pos : String} {aft : Array Edge} {g : Option (Nat × Bool)}
variable {t : TypeId} {x : Operand} {b off : Nat} {cs : List Value} {e : TypeId} {fr : Nat × Nat} {v : Value} {a1 a2 a3 a4 : Heap}
theorem J.e3 (hΓ : Fits P Γ) (k : J P n w0 R l0 K rest (upd f d v) (a1 :: a2 :: a3 :: [(b, .cells ⟨cs⟩ e fr)] :: L)) (hg : wantB n f l0 ⟨some d, .load t x, ty, pos, aft, g⟩ = true := by exact rfl) (hp : Cx.ev n f x = .pointer (some ⟨b, off, none⟩) := by exact rfl) (hv : ldEv Γ t cs off = some v := by exact rfl) : J P n w0 R l0 K ((κ + 1, ⟨some d, .load t x, ty, pos, aft, g⟩) :: rest) f (a1 :: a2 :: a3 :: [(b, .cells ⟨cs⟩ e fr)] :: L) := J.load3 hΓ hg hp hv k
end
section
variable {P : Program} {n : Nat} {w0 : World} {R : Heap} {l0 : List Oper} {K : Exit → Fr → List Heap → Prop} {f : Fr} {L : List Heap} {rest : List (Nat × Oper)} {κ : Nat}
variable {Γ : List (Nat × TI)} {d : Nat} {op : Op} {ty : TypeId} {pos : String} {aft : Array Edge} {g : Option (Nat × Bool)}
variable {t : TypeId} {x : Operand} {b off : Nat} {cs : List Value} {e : TypeId} {fr : Nat × Nat} {v : Value} {a1 a2 a3 a4 : Heap}
theorem J.e4 (hΓ : Fits P Γ) (k : J P n w0 R l0 K rest (upd f d v) (a1 :: a2 :: a3 :: a4 :: [(b, .cells ⟨cs⟩ e fr)] :: L)) (hg : wantB n f l0 ⟨some d, .load t x, ty, pos, aft, g⟩ = true := by exact rfl) (hp : Cx.ev n f x = .pointer (some ⟨b, off, none⟩) := by exact rfl) (hv : ldEv Γ t cs off = some v := by exact rfl) : J P n w0 R l0 K ((κ + 1, ⟨some d, .load t x, ty, pos, aft, g⟩) :: rest) f (a1 :: a2 :: a3 :: a4 :: [(b, .cells ⟨cs⟩ e fr)] :: L) := J.load4 hΓ hg hp hv k
end
section
variable {P : Program} {n : Nat} {w0 : World} {R : Heap} {l0 : List Oper} {K : Exit → Fr → List Heap → Prop} {f : Fr} {L : List Heap} {rest : List (Nat × Oper)} {κ : Nat}
variable {Γ : List (Nat × TI)} {d : Nat} {op : Op} {ty : TypeId} {pos : String} {aft : Array Edge} {g : Option (Nat × Bool)}
theorem J.lR {t : TypeId} {x : Operand} {b off : Nat} {cs : List Value} {e : TypeId} {fr : Nat × Nat} {v : Value} (hΓ : Fits P Γ) (k : J P n w0 R l0 K rest (upd f d v) L) (hg : wantB n f l0 ⟨some d, .load t x, ty, pos, aft, g⟩ = true := by exact rfl) (hp : Cx.ev n f x = .pointer (some ⟨b, off, none⟩) := by exact rfl) (hr : Rd R L b (.cells ⟨cs⟩ e fr) := by first | assumption | exact Rd.tl (by assumption) | exact Rd.tl (Rd.tl (by assumption)) | exact Rd.hd | exact Rd.hd.tl | exact Rd.hd.tl.tl | exact Rd.hd.tl.tl.tl | exact Rd.hd.tl.tl.tl.tl | exact Rd.hd.tl.tl.tl.tl.tl | exact Rd.hd.tl.tl.tl.tl.tl.tl | exact Rd.hd.tl.tl.tl.tl.tl.tl.tl | exact Rd.hd.tl.tl.tl.tl.tl.tl.tl.tl | exact Rd.hd.tl.tl.tl.tl.tl.tl.tl.tl.tl | exact Rd.hd.tl.tl.tl.tl.tl.tl.tl.tl.tl.tl | exact Rd.hd.tl.tl.tl.tl.tl.tl.tl.tl.tl.tl.tl | exact Rd.hd.tl.tl.tl.tl.tl.tl.tl.tl.tl.tl.tl.tl) (hv : ldEv Γ t cs off = some v := by exact rfl) : J P n w0 R l0 K ((κ + 1, ⟨some d, .load t x, ty, pos, aft, g⟩) :: rest) f L := J.load hΓ hg hp hr hv k
end
section
variable {P : Program} {n : Nat} {w0 : World} {R : Heap} {l0 : List Oper} {K : Exit → Fr → List Heap → Prop} {f : Fr} {L : List Heap} {rest : List (Nat × Oper)} {κ : Nat}
variable {Γ : List (Nat × TI)} {d : Nat} {op : Op} {ty : TypeId} {pos : String} {aft : Array Edge} {g : Option (Nat × Bool)}
variable {α : Type} {enc : α → List Value} {a : Option Addr} {ts : List α} {h : Heap}
theorem J.lT {t : TypeId} {sz k o : Nat} {x : Operand} {v : Value} (dflt : α) (hΓ : Fits P Γ) (kk : J P n w0 R l0 K rest (upd f d v) L) (hg : wantB n f l0 ⟨some d, .load t x, ty, pos, aft, g⟩ = true := by exact rfl) (hx : Cx.ev n f x = pel a sz k o := by exact rfl) (hs : SlT enc sz a ts h := by first | assumption | exact OwT.sl (by assumption)) (hr : RdH R L h := by first | exact RdH.hd | exact RdH.hd.tl | exact RdH.hd.tl.tl | exact RdH.hd.tl.tl.tl | exact RdH.hd.tl.tl.tl.tl | exact RdH.hd.tl.tl.tl.tl.tl | exact RdH.hd.tl.tl.tl.tl.tl.tl | exact RdH.hd.tl.tl.tl.tl.tl.tl.tl | exact RdH.hd.tl.tl.tl.tl.tl.tl.tl.tl | exact RdH.hd.tl.tl.tl.tl.tl.tl.tl.tl.tl | exact RdH.hd.tl.tl.tl.tl.tl.tl.tl.tl.tl.tl | exact RdH.hd.tl.tl.tl.tl.tl.tl.tl.tl.tl.tl.tl | exact RdH.hd.tl.tl.tl.tl.tl.tl.tl.tl.tl.tl.tl.tl | exact RdH.old (fun _ hh => hh) | assumption) (hk : k < ts.length := by first | omega | exact Nat.le_of_ble_eq_true rfl | (simp only [List.length_set, List.length_append, List.length_cons, List.length_nil]; omega)) (hv : ldEv Γ t (enc (ts.getD k dflt)) o = some v := by exact rfl) : J P n w0 R l0 K ((κ + 1, ⟨some d, .load t x, ty, pos, aft, g⟩) :: rest) f L := J.ldT dflt hΓ hg hx hs hr hk hv kk
end
section
variable {P : Program} {n : Nat} {w0 : World} {R : Heap} {l0 : List Oper} {K : Exit → Fr → List Heap → Prop} {f : Fr} {L : List Heap} {rest : List (Nat × Oper)} {κ : Nat}
variable {Γ : List (Nat × TI)} {d : Nat} {op : Op} {ty : TypeId} {pos : String} {aft : Array Edge} {g : Option (Nat × Bool)} {t u : TypeId} {x y : Operand} {a b : Int}
theorem J.iA {m : Nat} {e : TypeId} {i : Int} {j : Nat} {ki : IntKind} {bb o : Nat} {s1 s2 b1 b2 : Nat} {z1 z2 : Option Value} {de : TypeDesc} (hΓ : Fits P Γ) (k : J P n w0 R l0 K rest (upd f d (.pointer (some ⟨bb, o + j * s2, none⟩))) L) (hg : wantB n f l0 ⟨some d, .indexAddr t x y, ty, pos, aft, g⟩ = true := by exact rfl) (hx : Cx.ev n f x = .pointer (some ⟨bb, o, none⟩) := by exact rfl) (hy : Cx.ev n f y = .int ki i := by exact rfl) (ht : look Γ t = some ⟨.array m e, s1, z1, b1⟩ := by exact rfl) (he : look Γ e = some ⟨de, s2, z2, b2⟩ := by exact rfl) (h0 : 0 ≤ i := by omega) (hi : i < (m : Int) := by omega) (hj : i.toNat = j := by first | (show _ = 0; omega) | (show _ = 1; omega) | exact rfl) : J P n w0 R l0 K ((κ, ⟨some d, .indexAddr t x y, ty, pos, aft, g⟩) :: rest) f L := J.idxA hΓ hg hx hy ht he h0 hi hj k
end
section
variable {P : Program} {n : Nat} {w0 : World} {R : Heap} {l0 : List Oper} {K : Exit → Fr → List Heap → Prop} {f : Fr} {L : List Heap} {rest : List (Nat × Oper)} {κ : Nat}
variable {Γ : List (Nat × TI)} {d : Nat} {op : Op} {ty : TypeId} {pos : String} {aft : Array Edge} {g : Option (Nat × Bool)} {t u : TypeId} {x y : Operand} {a b : Int}
theorem J.iJ {α : Type} {enc : α → List Value} {a : Option Addr} {ts : List α} {h : Heap} {t e : TypeId} {s1 s2 : Nat} {z1 z2 : Option Value} {b1 b2 : Nat} {de : TypeDesc} {x ix : Operand} {len cap : Nat} {kk : IntKind} {i : Int} {j : Nat} (hΓ : Fits P Γ) (k : J P n w0 R l0 K rest (upd f d (pel a s2 j 0)) L) (hg : wantB n f l0 ⟨some d, .indexAddr t x ix, ty, pos, aft, g⟩ = true := by exact rfl) (hx : Cx.ev n f x = .slice a len cap := by exact rfl) (hi : Cx.ev n f ix = .int kk i := by exact rfl) (ht : look Γ t = some ⟨.slice e, s1, z1, b1⟩ := by exact rfl) (he : look Γ e = some ⟨de, s2, z2, b2⟩ := by exact rfl) (hs : SlT enc s2 a ts h := by first | assumption | exact OwT.sl (by assumption)) (hlen : ts.length = len := by first | rfl | assumption | omega | (simp only [List.length_set, List.length_append, List.length_cons, List.length_nil]; omega)) (h0 : 0 ≤ i := by omega) (h1 : i < (len : Int) := by first | omega | (simp only [List.length_append, List.length_cons, List.length_nil]; omega)) (hj : i.toNat = j := by first | (with_reducible exact Int.toNat_natCast _) | (with_reducible exact toNat0) | (with_reducible exact toNat1) | exact rfl) : J P n w0 R l0 K ((κ, ⟨some d, .indexAddr t x ix, ty, pos, aft, g⟩) :: rest) f L := J.idxJ hΓ hg hx hi ht he hs hlen h0 h1 hj k
end
section
variable {P : Program} {n : Nat} {w0 : World} {R : Heap} {l0 : List Oper} {K : Exit → Fr → List Heap → Prop} {f : Fr} {L : List Heap} {rest : List (Nat × Oper)} {κ : Nat}
variable {Γ : List (Nat × TI)} {d : Nat} {op : Op} {ty : TypeId} {pos : String} {aft : Array Edge} {g : Option (Nat × Bool)}
variable {α : Type} {enc : α → List Value} {a : Option Addr} {ts : List α} {h : Heap}
theorem J.fP {t : TypeId} {i sz k o : Nat} {x : Operand} {fs : Array Field} {fd : Field} {s1 s2 b1 b2 : Nat} {z1 z2 : Option Value} {de : TypeDesc} (hΓ : Fits P Γ) (kk : J P n w0 R l0 K rest (upd f d (pel a sz k (o + fd.offset))) L) (hg : wantB n f l0 ⟨some d, .fieldAddr t x i, ty, pos, aft, g⟩ = true := by exact rfl) (hx : Cx.ev n f x = pel a sz k o := by exact rfl) (ht : look Γ t = some ⟨.struct fs, s1, z1, b1⟩ := by exact rfl) (hf : fs[i]? = some fd := by exact rfl) (hl : look Γ fd.type = some ⟨de, s2, z2, b2⟩ := by exact rfl) (hn : Nat.beq s2 0 = false := by exact rfl) : J P n w0 R l0 K ((κ, ⟨some d, .fieldAddr t x i, ty, pos, aft, g⟩) :: rest) f L := J.fldP hΓ hg hx ht hf hl hn kk
end
section
variable {P : Program} {n : Nat} {w0 : World} {R : Heap} {l0 : List Oper} {K : Exit → Fr → List Heap → Prop} {f : Fr} {L : List Heap} {rest : List (Nat × Oper)} {κ : Nat}
variable {Γ : List (Nat × TI)} {d : Nat} {op : Op} {ty : TypeId} {pos : String} {aft : Array Edge} {g : Option (Nat × Bool)} {t u : TypeId} {x y : Operand} {a b : Int}
theorem J.iC {t e : TypeId} {bb o : Nat} {s1 s2 : Nat} {z1 z2 : Option Value} {b1 b2 : Nat} {de : TypeDesc} {x ix : Operand} {len cap : Nat} {kk : IntKind} {i : Int} (hΓ : Fits P Γ) (k : J P n w0 R l0 K rest (upd f d (.pointer (some ⟨bb, o + i.toNat * s2, none⟩))) L) (hg : wantB n f l0 ⟨some d, .indexAddr t x ix, ty, pos, aft, g⟩ = true := by exact rfl) (hx : Cx.ev n f x = .slice (some ⟨bb, o, none⟩) len cap := by exact rfl) (hi : Cx.ev n f ix = .int kk i := by exact rfl) (ht : look Γ t = some ⟨.slice e, s1, z1, b1⟩ := by exact rfl) (he : look Γ e = some ⟨de, s2, z2, b2⟩ := by exact rfl) (h0 : 0 ≤ i := by omega) (h1 : i < (len : Int) := by omega) : J P n w0 R l0 K ((κ, ⟨some d, .indexAddr t x ix, ty, pos, aft, g⟩) :: rest) f L := J.idxC hΓ hg hx hi ht he h0 h1 k
end
section
variable {P : Program} {n : Nat} {w0 : World} {R : Heap} {l0 : List Oper} {K : Exit → Fr → List Heap → Prop} {f : Fr} {L : List Heap} {rest : List (Nat × Oper)} {κ : Nat}
variable {Γ : List (Nat × TI)} {d : Nat} {op : Op} {ty : TypeId} {pos : String} {aft : Array Edge} {g : Option (Nat × Bool)} {t u : TypeId} {x y : Operand} {a b : Int}
theorem J.ad (k : J P n w0 R l0 K rest (upd f d (.int .i64 (a + b))) L) (hg : wantB n f l0 ⟨some d, .binOp .add t x y u, ty, pos, aft, g⟩ = true := by exact rfl) (hx : Cx.ev n f x = .int .i64 a := by exact rfl) (hy : Cx.ev n f y = .int .i64 b := by exact rfl) (h : -9223372036854775808 ≤ a + b ∧ a + b ≤ 9223372036854775807 := by omega) : J P n w0 R l0 K ((κ, ⟨some d, .binOp .add t x y u, ty, pos, aft, g⟩) :: rest) f L := J.addN hg hx hy h k
end
section
variable {P : Program} {n : Nat} {w0 : World} {R : Heap} {l0 : List Oper} {K : Exit → Fr → List Heap → Prop} {f : Fr} {L : List Heap} {rest : List (Nat × Oper)} {κ : Nat}
variable {Γ : List (Nat × TI)} {d : Nat} {op : Op} {ty : TypeId} {pos : String} {aft : Array Edge} {g : Option (Nat × Bool)} {t u : TypeId} {x y : Operand} {a b : Int}
theorem J.sb (k : J P n w0 R l0 K rest (upd f d (.int .i64 (a - b))) L) (hg : wantB n f l0 ⟨some d, .binOp .sub t x y u, ty, pos, aft, g⟩ = true := by exact rfl) (hx : Cx.ev n f x = .int .i64 a := by exact rfl) (hy : Cx.ev n f y = .int .i64 b := by exact rfl) (h : -9223372036854775808 ≤ a - b ∧ a - b ≤ 9223372036854775807 := by omega) : J P n w0 R l0 K ((κ, ⟨some d, .binOp .sub t x y u, ty, pos, aft, g⟩) :: rest) f L := J.subN hg hx hy h k
end
section
variable {P : Program} {n : Nat} {w0 : World} {R : Heap} {l0 : List Oper} {K : Exit → Fr → List Heap → Prop} {f : Fr} {L : List Heap} {rest : List (Nat × Oper)} {κ : Nat}
variable {Γ : List (Nat × TI)} {d : Nat} {op : Op} {ty : TypeId} {pos : String} {aft : Array Edge} {g : Option (Nat × Bool)} {t u : TypeId} {x y : Operand} {a b : Int}
theorem J.mu (k : J P n w0 R l0 K rest (upd f d (.int .i64 (a * b))) L) (hg : wantB n f l0 ⟨some d, .binOp .mul t x y u, ty, pos, aft, g⟩ = true := by exact rfl) (hx : Cx.ev n f x = .int .i64 a := by exact rfl) (hy : Cx.ev n f y = .int .i64 b := by exact rfl) (h : -9223372036854775808 ≤ a * b ∧ a * b ≤ 9223372036854775807 := by omega) : J P n w0 R l0 K ((κ, ⟨some d, .binOp .mul t x y u, ty, pos, aft, g⟩) :: rest) f L := J.mulN hg hx hy h k
end
section
variable {P : Program} {n : Nat} {w0 : World} {R : Heap} {l0 : List Oper} {K : Exit → Fr → List Heap → Prop} {f : Fr} {L : List Heap} {rest : List (Nat × Oper)} {κ : Nat}
variable {Γ : List (Nat × TI)} {d : Nat} {op : Op} {ty : TypeId} {pos : String} {aft : Array Edge} {g : Option (Nat × Bool)} {t u : TypeId} {x y : Operand} {a b : Int}
theorem J.ng (k : J P n w0 R l0 K rest (upd f d (.int .i64 (-a))) L) (hg : wantB n f l0 ⟨some d, .unOp .neg t x, ty, pos, aft, g⟩ = true := by exact rfl) (hx : Cx.ev n f x = .int .i64 a := by exact rfl) (h : -9223372036854775807 ≤ a ∧ a ≤ 9223372036854775807 := by omega) : J P n w0 R l0 K ((κ, ⟨some d, .unOp .neg t x, ty, pos, aft, g⟩) :: rest) f L := J.negN hg hx h k
end
section
variable {P : Program} {n : Nat} {w0 : World} {R : Heap} {l0 : List Oper} {K : Exit → Fr → List Heap → Prop} {f : Fr} {L : List Heap} {rest : List (Nat × Oper)} {κ : Nat}
variable {Γ : List (Nat × TI)} {d : Nat} {op : Op} {ty : TypeId} {pos : String} {aft : Array Edge} {g : Option (Nat × Bool)} {t u : TypeId} {x y : Operand} {a b : Int}
theorem J.qu (k : J P n w0 R l0 K rest (upd f d (.int .i64 (a / b))) L) (hg : wantB n f l0 ⟨some d, .binOp .quo t x y u, ty, pos, aft, g⟩ = true := by exact rfl) (hx : Cx.ev n f x = .int .i64 a := by exact rfl) (hy : Cx.ev n f y = .int .i64 b := by exact rfl) (h0 : 0 ≤ a := by omega) (h1 : a ≤ 9223372036854775807 := by omega) (h2 : 1 ≤ b := by omega) : J P n w0 R l0 K ((κ, ⟨some d, .binOp .quo t x y u, ty, pos, aft, g⟩) :: rest) f L := J.quo hg hx hy h0 h1 h2 k
end
section
variable {P : Program} {n : Nat} {w0 : World} {R : Heap} {l0 : List Oper} {K : Exit → Fr → List Heap → Prop} {f : Fr} {L : List Heap} {rest : List (Nat × Oper)} {κ : Nat}
variable {Γ : List (Nat × TI)} {d : Nat} {op : Op} {ty : TypeId} {pos : String} {aft : Array Edge} {g : Option (Nat × Bool)} {t u : TypeId} {x y : Operand} {a b : Int}
theorem J.rm {k1 : IntKind} (k : J P n w0 R l0 K rest (upd f d (.int k1 (a % b))) L) (hg : wantB n f l0 ⟨some d, .binOp .rem t x y u, ty, pos, aft, g⟩ = true := by exact rfl) (hx : Cx.ev n f x = .int k1 a := by exact rfl) (hy : Cx.ev n f y = .int k1 b := by exact rfl) (h0 : 0 ≤ a := by first | omega | exact Int.natCast_nonneg _) (h2 : 1 ≤ b := by omega) : J P n w0 R l0 K ((κ, ⟨some d, .binOp .rem t x y u, ty, pos, aft, g⟩) :: rest) f L := J.rem hg hx hy h0 h2 k
end
section
variable {P : Program} {n : Nat} {w0 : World} {R : Heap} {l0 : List Oper} {K : Exit → Fr → List Heap → Prop} {f : Fr} {L : List Heap} {rest : List (Nat × Oper)} {κ : Nat}
variable {Γ : List (Nat × TI)} {d : Nat} {op : Op} {ty : TypeId} {pos : String} {aft : Array Edge} {g : Option (Nat × Bool)} {t u : TypeId} {x y : Operand} {a b : Int}
theorem J.s1 {yk : IntKind} {j : Int} (k : J P n w0 R l0 K rest (upd f d (.int .u64 ((2 ^ j.toNat : Nat) : Int))) L) (hg : wantB n f l0 ⟨some d, .binOp .shl t x y u, ty, pos, aft, g⟩ = true := by exact rfl) (hx : Cx.ev n f x = .int .u64 1 := by exact rfl) (hy : Cx.ev n f y = .int yk j := by exact rfl) (h0 : 0 ≤ j := by omega) (h1 : j < 64 := by omega) : J P n w0 R l0 K ((κ, ⟨some d, .binOp .shl t x y u, ty, pos, aft, g⟩) :: rest) f L := J.shl1 hg hx hy h0 h1 k
end
section
variable {P : Program} {n : Nat} {w0 : World} {R : Heap} {l0 : List Oper} {K : Exit → Fr → List Heap → Prop} {f : Fr} {L : List Heap} {rest : List (Nat × Oper)} {κ : Nat}
variable {Γ : List (Nat × TI)} {d : Nat} {op : Op} {ty : TypeId} {pos : String} {aft : Array Edge} {g : Option (Nat × Bool)} {t u : TypeId} {x y : Operand} {a b : Int}
theorem J.sr {yk : IntKind} {j : Int} {m : Nat} (k : J P n w0 R l0 K rest (upd f d (.int .u64 ((m / 2 ^ j.toNat : Nat) : Int))) L) (hg : wantB n f l0 ⟨some d, .binOp .shr t x y u, ty, pos, aft, g⟩ = true := by exact rfl) (hx : Cx.ev n f x = .int .u64 (m : Int) := by exact rfl) (hy : Cx.ev n f y = .int yk j := by exact rfl) (h0 : 0 ≤ j := by omega) (h1 : j < 64 := by omega) : J P n w0 R l0 K ((κ, ⟨some d, .binOp .shr t x y u, ty, pos, aft, g⟩) :: rest) f L := J.shrW hg hx hy h0 h1 k
end
section
variable {P : Program} {n : Nat} {w0 : World} {R : Heap} {l0 : List Oper} {K : Exit → Fr → List Heap → Prop} {f : Fr} {L : List Heap} {rest : List (Nat × Oper)} {κ : Nat}
variable {Γ : List (Nat × TI)} {d : Nat} {op : Op} {ty : TypeId} {pos : String} {aft : Array Edge} {g : Option (Nat × Bool)} {t u : TypeId} {x y : Operand} {a b : Int}
theorem J.aW {m q : Nat} (k : J P n w0 R l0 K rest (upd f d (.int .u64 ((m &&& q : Nat) : Int))) L) (hg : wantB n f l0 ⟨some d, .binOp .and t x y u, ty, pos, aft, g⟩ = true := by exact rfl) (hx : Cx.ev n f x = .int .u64 (m : Int) := by exact rfl) (hy : Cx.ev n f y = .int .u64 (q : Int) := by exact rfl) (hm : m < 2 ^ 64 := by first | assumption | (exact pow64 (by omega)) | (simp only [okS] at *; omega)) (hq : q < 2 ^ 64 := by first | assumption | (exact pow64 (by omega)) | (simp only [okS] at *; omega)) : J P n w0 R l0 K ((κ, ⟨some d, .binOp .and t x y u, ty, pos, aft, g⟩) :: rest) f L := J.andW hg hx hy hm hq k
end
section
variable {P : Program} {n : Nat} {w0 : World} {R : Heap} {l0 : List Oper} {K : Exit → Fr → List Heap → Prop} {f : Fr} {L : List Heap} {rest : List (Nat × Oper)} {κ : Nat}
variable {Γ : List (Nat × TI)} {d : Nat} {op : Op} {ty : TypeId} {pos : String} {aft : Array Edge} {g : Option (Nat × Bool)} {t u : TypeId} {x y : Operand} {a b : Int}
theorem J.oW {m q : Nat} (k : J P n w0 R l0 K rest (upd f d (.int .u64 ((m ||| q : Nat) : Int))) L) (hg : wantB n f l0 ⟨some d, .binOp .or t x y u, ty, pos, aft, g⟩ = true := by exact rfl) (hx : Cx.ev n f x = .int .u64 (m : Int) := by exact rfl) (hy : Cx.ev n f y = .int .u64 (q : Int) := by exact rfl) (hm : m < 2 ^ 64 := by first | assumption | (exact pow64 (by omega)) | (simp only [okS] at *; omega)) (hq : q < 2 ^ 64 := by first | assumption | (exact pow64 (by omega)) | (simp only [okS] at *; omega)) : J P n w0 R l0 K ((κ, ⟨some d, .binOp .or t x y u, ty, pos, aft, g⟩) :: rest) f L := J.orW hg hx hy hm hq k
end
section
variable {P : Program} {n : Nat} {w0 : World} {R : Heap} {l0 : List Oper} {K : Exit → Fr → List Heap → Prop} {f : Fr} {L : List Heap} {rest : List (Nat × Oper)} {κ : Nat}
variable {Γ : List (Nat × TI)} {d : Nat} {op : Op} {ty : TypeId} {pos : String} {aft : Array Edge} {g : Option (Nat × Bool)} {t u : TypeId} {x y : Operand} {a b : Int}
theorem J.nW {m q : Nat} (k : J P n w0 R l0 K rest (upd f d (.int .u64 ((m &&& (2 ^ 64 - 1 - q) : Nat) : Int))) L) (hg : wantB n f l0 ⟨some d, .binOp .andNot t x y u, ty, pos, aft, g⟩ = true := by exact rfl) (hx : Cx.ev n f x = .int .u64 (m : Int) := by exact rfl) (hy : Cx.ev n f y = .int .u64 (q : Int) := by exact rfl) (hm : m < 2 ^ 64 := by first | assumption | (exact pow64 (by omega)) | (simp only [okS] at *; omega)) (hq : q < 2 ^ 64 := by first | assumption | (exact pow64 (by omega)) | (simp only [okS] at *; omega)) : J P n w0 R l0 K ((κ, ⟨some d, .binOp .andNot t x y u, ty, pos, aft, g⟩) :: rest) f L := J.andNotW hg hx hy hm hq k
end
section
variable {P : Program} {n : Nat} {w0 : World} {R : Heap} {l0 : List Oper} {K : Exit → Fr → List Heap → Prop} {f : Fr} {L : List Heap} {rest : List (Nat × Oper)} {κ : Nat}
variable {Γ : List (Nat × TI)} {d : Nat} {op : Op} {ty : TypeId} {pos : String} {aft : Array Edge} {g : Option (Nat × Bool)} {t u : TypeId} {x y : Operand} {a b : Int}
theorem J.cv {src dst : TypeId} {k1 : IntKind} {ts : TI} {s2 b2 : Nat} {z2 : Option Value} (k2 : IntKind) (hΓ : Fits P Γ) (k : J P n w0 R l0 K rest (upd f d (.int k2 a)) L) (hg : wantB n f l0 ⟨some d, .convert src dst x, ty, pos, aft, g⟩ = true := by exact rfl) (hx : Cx.ev n f x = .int k1 a := by exact rfl) (hs : look Γ src = some ts := by exact rfl) (hd : look Γ dst = some ⟨.int k2, s2, z2, b2⟩ := by exact rfl) (hk : k2.wrap a = a := by first | exact wrap_i64 (by omega) | exact wrap_u64 (by omega) | exact wrap_u8 (by omega)) : J P n w0 R l0 K ((κ, ⟨some d, .convert src dst x, ty, pos, aft, g⟩) :: rest) f L := J.cvt k2 hΓ hg hx hs hd hk k
end
section
variable {P : Program} {n : Nat} {w0 : World} {R : Heap} {l0 : List Oper} {K : Exit → Fr → List Heap → Prop} {f : Fr} {L : List Heap} {rest : List (Nat × Oper)} {κ : Nat}
variable {Γ : List (Nat × TI)} {d : Nat} {op : Op} {ty : TypeId} {pos : String} {aft : Array Edge} {g : Option (Nat × Bool)}
theorem J.t0 {t : TypeId} {ti : TI} {x y : Operand} {b off : Nat} {cs cl cs' : List Value} {e : TypeId} (hΓ : Fits P Γ) (k : J P n w0 R l0 K rest f ([(b, .cells ⟨cs'⟩ e (0, 0))] :: L)) (hg : wantB n f l0 ⟨none, .store t x y, ty, pos, aft, g⟩ = true := by exact rfl) (hp : Cx.ev n f x = .pointer (some ⟨b, off, none⟩) := by exact rfl) (ht : look Γ t = some ti := by exact rfl) (hv : vcells (Cx.ev n f y) = some cl := by exact rfl) (hn : Nat.beq cl.length ti.size = true := by exact rfl) (h1 : ones cl = true := by exact rfl) (hcs : putE cs off cl = some cs' := by exact rfl) : J P n w0 R l0 K ((2, ⟨none, .store t x y, ty, pos, aft, g⟩) :: rest) f ([(b, .cells ⟨cs⟩ e (0, 0))] :: L) := J.store0 hΓ hg hp ht hv hn h1 hcs k
end
section
variable {P : Program} {n : Nat} {w0 : World} {R : Heap} {l0 : List Oper} {K : Exit → Fr → List Heap → Prop} {f : Fr} {L : List Heap} {rest : List (Nat × Oper)} {κ : Nat}
variable {Γ : List (Nat × TI)} {d : Nat} {op : Op} {ty : TypeId} {pos : String} {aft : Array Edge} {g : Option (Nat × Bool)}
theorem J.t1 {a1 : Heap} {t : TypeId} {ti : TI} {x y : Operand} {b off : Nat} {cs cl cs' : List Value} {e : TypeId} (hΓ : Fits P Γ) (k : J P n w0 R l0 K rest f (a1 :: [(b, .cells ⟨cs'⟩ e (0, 0))] :: L)) (hg : wantB n f l0 ⟨none, .store t x y, ty, pos, aft, g⟩ = true := by exact rfl) (hp : Cx.ev n f x = .pointer (some ⟨b, off, none⟩) := by exact rfl) (ht : look Γ t = some ti := by exact rfl) (hv : vcells (Cx.ev n f y) = some cl := by exact rfl) (hn : Nat.beq cl.length ti.size = true := by exact rfl) (h1 : ones cl = true := by exact rfl) (hcs : putE cs off cl = some cs' := by exact rfl) : J P n w0 R l0 K ((2, ⟨none, .store t x y, ty, pos, aft, g⟩) :: rest) f (a1 :: [(b, .cells ⟨cs⟩ e (0, 0))] :: L) := J.store1 hΓ hg hp ht hv hn h1 hcs k
end
section
variable {P : Program} {n : Nat} {w0 : World} {R : Heap} {l0 : List Oper} {K : Exit → Fr → List Heap → Prop} {f : Fr} {L : List Heap} {rest : List (Nat × Oper)} {κ : Nat}
variable {Γ : List (Nat × TI)} {d : Nat} {op : Op} {ty : TypeId} {pos : String} {aft : Array Edge} {g : Option (Nat × Bool)}
theorem J.t2 {a1 a2 : Heap} {t : TypeId} {ti : TI} {x y : Operand} {b off : Nat} {cs cl cs' : List Value} {e : TypeId} (hΓ : Fits P Γ) (k : J P n w0 R l0 K rest f (a1 :: a2 :: [(b, .cells ⟨cs'⟩ e (0, 0))] :: L)) (hg : wantB n f l0 ⟨none, .store t x y, ty, pos, aft, g⟩ = true := by exact rfl) (hp : Cx.ev n f x = .pointer (some ⟨b, off, none⟩) := by exact rfl) (ht : look Γ t = some ti := by exact rfl) (hv : vcells (Cx.ev n f y) = some cl := by exact rfl) (hn : Nat.beq cl.length ti.size = true := by exact rfl) (h1 : ones cl = true := by exact rfl) (hcs : putE cs off cl = some cs' := by exact rfl) : J P n w0 R l0 K ((2, ⟨none, .store t x y, ty, pos, aft, g⟩) :: rest) f (a1 :: a2 :: [(b, .cells ⟨cs⟩ e (0, 0))] :: L) := J.store2 hΓ hg hp ht hv hn h1 hcs k
end
section
variable {P : Program} {n : Nat} {w0 : World} {R : Heap} {l0 : List Oper} {K : Exit → Fr → List Heap → Prop} {f : Fr} {L : List Heap} {rest : List (Nat × Oper)} {κ : Nat}
variable {Γ : List (Nat × TI)} {d : Nat} {op : Op} {ty : TypeId} {pos : String} {aft : Array Edge} {g : Option (Nat × Bool)}
variable {α : Type} {enc : α → List Value} {a : Option Addr} {ts us : List α} {h : Heap} {size e cap : Nat}
theorem J.tT {t : TypeId} {x y : Operand} {ti : TI} {cl cl' : List Value} {i o : Nat} (u : α) (dflt : α) (hΓ : Fits P Γ) (k : ∀ h', OwT enc size e a cap (ts.set i u) h' → J P n w0 R l0 K rest f (h' :: L)) (hg : wantB n f l0 ⟨none, .store t x y, ty, pos, aft, g⟩ = true := by exact rfl) (hx : Cx.ev n f x = pel a size i o := by exact rfl) (ht : look Γ t = some ti := by exact rfl) (hv : vcells (Cx.ev n f y) = some cl := by exact rfl) (hn : Nat.beq cl.length ti.size = true := by exact rfl) (h1 : ones cl = true := by exact rfl) (ho : OwT enc size e a cap ts h := by assumption) (hi : i < ts.length := by first | omega | exact Nat.le_of_ble_eq_true rfl | (simp only [List.length_set, List.length_append, List.length_cons, List.length_nil]; omega)) (hcl : putE (enc (ts.getD i dflt)) o cl = some cl' := by exact rfl) (hu : enc u = cl' := by exact rfl) : J P n w0 R l0 K ((2, ⟨none, .store t x y, ty, pos, aft, g⟩) :: rest) f (h :: L) := J.stT u dflt hΓ hg hx ht hv hn h1 ho hi hcl hu k
end
section
variable {P : Program} {n : Nat} {w0 : World} {R : Heap} {l0 : List Oper} {K : Exit → Fr → List Heap → Prop} {f : Fr} {L : List Heap} {rest : List (Nat × Oper)} {κ : Nat}
variable {Γ : List (Nat × TI)} {d : Nat} {op : Op} {ty : TypeId} {pos : String} {aft : Array Edge} {g : Option (Nat × Bool)}
variable {α : Type} {enc : α → List Value} {a : Option Addr} {ts us : List α} {h : Heap} {size e cap : Nat}
theorem J.tT1 {a1 : Heap} {t : TypeId} {x y : Operand} {ti : TI} {cl cl' : List Value} {i o : Nat} (u : α) (dflt : α) (hΓ : Fits P Γ) (k : ∀ h', OwT enc size e a cap (ts.set i u) h' → J P n w0 R l0 K rest f (a1 :: h' :: L)) (hg : wantB n f l0 ⟨none, .store t x y, ty, pos, aft, g⟩ = true := by exact rfl) (hx : Cx.ev n f x = pel a size i o := by exact rfl) (ht : look Γ t = some ti := by exact rfl) (hv : vcells (Cx.ev n f y) = some cl := by exact rfl) (hn : Nat.beq cl.length ti.size = true := by exact rfl) (h1 : ones cl = true := by exact rfl) (ho : OwT enc size e a cap ts h := by assumption) (hi : i < ts.length := by first | omega | exact Nat.le_of_ble_eq_true rfl | (simp only [List.length_set, List.length_append, List.length_cons, List.length_nil]; omega)) (hcl : putE (enc (ts.getD i dflt)) o cl = some cl' := by exact rfl) (hu : enc u = cl' := by exact rfl) : J P n w0 R l0 K ((2, ⟨none, .store t x y, ty, pos, aft, g⟩) :: rest) f (a1 :: h :: L) := J.stT1 u dflt hΓ hg hx ht hv hn h1 ho hi hcl hu k
end
section
variable {P : Program} {n : Nat} {w0 : World} {R : Heap} {l0 : List Oper} {K : Exit → Fr → List Heap → Prop} {f : Fr} {L : List Heap} {rest : List (Nat × Oper)} {κ : Nat}
variable {Γ : List (Nat × TI)} {d : Nat} {op : Op} {ty : TypeId} {pos : String} {aft : Array Edge} {g : Option (Nat × Bool)}
variable {α : Type} {enc : α → List Value} {a : Option Addr} {ts us : List α} {h : Heap} {size e cap : Nat}
theorem J.tT2 {a1 a2 : Heap} {t : TypeId} {x y : Operand} {ti : TI} {cl cl' : List Value} {i o : Nat} (u : α) (dflt : α) (hΓ : Fits P Γ) (k : ∀ h', OwT enc size e a cap (ts.set i u) h' → J P n w0 R l0 K rest f (a1 :: a2 :: h' :: L)) (hg : wantB n f l0 ⟨none, .store t x y, ty, pos, aft, g⟩ = true := by exact rfl) (hx : Cx.ev n f x = pel a size i o := by exact rfl) (ht : look Γ t = some ti := by exact rfl) (hv : vcells (Cx.ev n f y) = some cl := by exact rfl) (hn : Nat.beq cl.length ti.size = true := by exact rfl) (h1 : ones cl = true := by exact rfl) (ho : OwT enc size e a cap ts h := by assumption) (hi : i < ts.length := by first | omega | exact Nat.le_of_ble_eq_true rfl | (simp only [List.length_set, List.length_append, List.length_cons, List.length_nil]; omega)) (hcl : putE (enc (ts.getD i dflt)) o cl = some cl' := by exact rfl) (hu : enc u = cl' := by exact rfl) : J P n w0 R l0 K ((2, ⟨none, .store t x y, ty, pos, aft, g⟩) :: rest) f (a1 :: a2 :: h :: L) := J.stT2 u dflt hΓ hg hx ht hv hn h1 ho hi hcl hu k
end
section
variable {P : Program} {n : Nat} {w0 : World} {R : Heap} {l0 : List Oper} {K : Exit → Fr → List Heap → Prop} {f : Fr} {L : List Heap} {rest : List (Nat × Oper)} {κ : Nat}
variable {Γ : List (Nat × TI)} {d : Nat} {op : Op} {ty : TypeId} {pos : String} {aft : Array Edge} {g : Option (Nat × Bool)}
variable {α : Type} {enc : α → List Value} {a : Option Addr} {ts us : List α} {h : Heap} {size e cap : Nat}
theorem J.tT3 {a1 a2 a3 : Heap} {t : TypeId} {x y : Operand} {ti : TI} {cl cl' : List Value} {i o : Nat} (u : α) (dflt : α) (hΓ : Fits P Γ) (k : ∀ h', OwT enc size e a cap (ts.set i u) h' → J P n w0 R l0 K rest f (a1 :: a2 :: a3 :: h' :: L)) (hg : wantB n f l0 ⟨none, .store t x y, ty, pos, aft, g⟩ = true := by exact rfl) (hx : Cx.ev n f x = pel a size i o := by exact rfl) (ht : look Γ t = some ti := by exact rfl) (hv : vcells (Cx.ev n f y) = some cl := by exact rfl) (hn : Nat.beq cl.length ti.size = true := by exact rfl) (h1 : ones cl = true := by exact rfl) (ho : OwT enc size e a cap ts h := by assumption) (hi : i < ts.length := by first | omega | exact Nat.le_of_ble_eq_true rfl | (simp only [List.length_set, List.length_append, List.length_cons, List.length_nil]; omega)) (hcl : putE (enc (ts.getD i dflt)) o cl = some cl' := by exact rfl) (hu : enc u = cl' := by exact rfl) : J P n w0 R l0 K ((2, ⟨none, .store t x y, ty, pos, aft, g⟩) :: rest) f (a1 :: a2 :: a3 :: h :: L) := J.stT3 u dflt hΓ hg hx ht hv hn h1 ho hi hcl hu k
end
section
variable {P : Program} {n : Nat} {w0 : World} {R : Heap} {l0 : List Oper} {K : Exit → Fr → List Heap → Prop} {f : Fr} {L : List Heap} {rest : List (Nat × Oper)} {κ : Nat}
variable {Γ : List (Nat × TI)} {d : Nat} {op : Op} {ty : TypeId} {pos : String} {aft : Array Edge} {g : Option (Nat × Bool)}
theorem J.bx {t : TypeId} {x : Operand} {cl : List Value} (k : ∀ b, J P n w0 R l0 K rest (upd f d (.pointer (some ⟨b, 0, none⟩))) ([(b, .cells ⟨cl⟩ t (0, 0))] :: L)) (hg : wantB n f l0 ⟨some d, .box t x, ty, pos, aft, g⟩ = true := by exact rfl) (hc : vcells (Cx.ev n f x) = some cl := by exact rfl) : J P n w0 R l0 K ((κ + 2, ⟨some d, .box t x, ty, pos, aft, g⟩) :: rest) f L := J.box hg hc k
end
section
variable {P : Program} {n : Nat} {w0 : World} {R : Heap} {l0 : List Oper} {K : Exit → Fr → List Heap → Prop} {f : Fr} {L : List Heap} {rest : List (Nat × Oper)} {κ : Nat}
variable {Γ : List (Nat × TI)} {d : Nat} {op : Op} {ty : TypeId} {pos : String} {aft : Array Edge} {g : Option (Nat × Bool)}
theorem J.al {t : TypeId} {ti : TI} {z : Value} {cl : List Value} (hΓ : Fits P Γ) (k : ∀ b, J P n w0 R l0 K rest (upd f d (.pointer (some ⟨b, 0, none⟩))) ([(b, .cells ⟨cl⟩ t (0, 0))] :: L)) (hg : wantB n f l0 ⟨some d, .alloc t, ty, pos, aft, g⟩ = true := by exact rfl) (ht : look Γ t = some ti := by exact rfl) (hz : ti.zero = some z := by exact rfl) (hc : vcells z = some cl := by exact rfl) : J P n w0 R l0 K ((κ + 2, ⟨some d, .alloc t, ty, pos, aft, g⟩) :: rest) f L := J.alloc hΓ hg ht hz hc k
end
section
variable {P : Program} {n : Nat} {w0 : World} {R : Heap} {l0 : List Oper} {K : Exit → Fr → List Heap → Prop} {f : Fr} {L : List Heap} {rest : List (Nat × Oper)} {κ : Nat}
variable {Γ : List (Nat × TI)} {d : Nat} {op : Op} {ty : TypeId} {pos : String} {aft : Array Edge} {g : Option (Nat × Bool)}
theorem J.bd {t : TypeId} {parts : List (Nat × Operand)} {ps : List (Nat × List Value)} {cl : List Value} (hΓ : Fits P Γ) (k : J P n w0 R l0 K rest (upd f d (.agg ⟨cl⟩)) L) (hg : wantB n f l0 ⟨some d, .build t ⟨parts⟩, ty, pos, aft, g⟩ = true := by exact rfl) (hp : partsEv (Cx.ev n f) parts = some ps := by exact rfl) (h : buildEv Γ t ps = some cl := by exact rfl) : J P n w0 R l0 K ((κ, ⟨some d, .build t ⟨parts⟩, ty, pos, aft, g⟩) :: rest) f L := J.build hΓ hg hp h k
end
section
variable {P : Program} {n : Nat} {w0 : World} {R : Heap} {l0 : List Oper} {K : Exit → Fr → List Heap → Prop} {f : Fr} {L : List Heap} {rest : List (Nat × Oper)} {κ : Nat}
variable {Γ : List (Nat × TI)} {d : Nat} {op : Op} {ty : TypeId} {pos : String} {aft : Array Edge} {g : Option (Nat × Bool)}
theorem J.bl {t e : TypeId} {len : Nat} {parts : List (Nat × Operand)} {ps : List (Nat × List Value)} {zc cl : List Value} {s1 s2 b1 b2 : Nat} {z1 : Option Value} {z : Value} {de : TypeDesc} (hΓ : Fits P Γ) (k : ∀ b, J P n w0 R l0 K rest (upd f d (.slice (some ⟨b, 0, none⟩) len len)) ([(b, .cells ⟨cl⟩ e (0, 0))] :: L)) (hg : wantB n f l0 ⟨some d, .buildSlice t len ⟨parts⟩, ty, pos, aft, g⟩ = true := by exact rfl) (ht : look Γ t = some ⟨.slice e, s1, z1, b1⟩ := by exact rfl) (he : look Γ e = some ⟨de, s2, some z, b2⟩ := by exact rfl) (hz : vcells z = some zc := by exact rfl) (hzl : Nat.beq zc.length s2 = true := by exact rfl) (hlen : Nat.ble (len * s2) 16777216 = true := by exact rfl) (hp : partsEv (Cx.ev n f) parts = some ps := by exact rfl) (h : fillEv (fun i => some (i * s2, s2)) (zrep len zc) ps = some cl := by exact rfl) : J P n w0 R l0 K ((κ + 2, ⟨some d, .buildSlice t len ⟨parts⟩, ty, pos, aft, g⟩) :: rest) f L := J.bslice hΓ hg ht he hz hzl hlen hp h k
end
section
variable {P : Program} {n : Nat} {w0 : World} {R : Heap} {l0 : List Oper} {K : Exit → Fr → List Heap → Prop} {f : Fr} {L : List Heap} {rest : List (Nat × Oper)} {κ : Nat}
variable {Γ : List (Nat × TI)} {d : Nat} {op : Op} {ty : TypeId} {pos : String} {aft : Array Edge} {g : Option (Nat × Bool)} {t u : TypeId} {x y : Operand} {a b : List UInt8}
theorem J.ct (k : J P n w0 R l0 K rest (upd f d (.string (S (a ++ b)))) L) (hg : wantB n f l0 ⟨some d, .binOp .add t x y u, ty, pos, aft, g⟩ = true := by exact rfl) (hx : Cx.ev n f x = .string (S a) := by exact rfl) (hy : Cx.ev n f y = .string (S b) := by exact rfl) (h : a.length + b.length ≤ 9223372036854775807 := by first | omega | (simp only [List.length_append, List.length_cons, List.length_nil]; omega)) : J P n w0 R l0 K ((κ, ⟨some d, .binOp .add t x y u, ty, pos, aft, g⟩) :: rest) f L := J.cat hg hx hy h k
end
section
variable {P : Program} {n : Nat} {w0 : World} {R : Heap} {l0 : List Oper} {K : Exit → Fr → List Heap → Prop} {f : Fr} {L : List Heap} {rest : List (Nat × Oper)} {κ : Nat}
variable {Γ : List (Nat × TI)} {d : Nat} {op : Op} {ty : TypeId} {pos : String} {aft : Array Edge} {g : Option (Nat × Bool)} {t u : TypeId} {x y : Operand} {a b : List UInt8}
theorem J.ls (hΓ : Fits P Γ) (k : J P n w0 R l0 K rest (upd f d (.int .i64 (a.length : Int))) L) (hg : wantB n f l0 ⟨some d, .call ⟨.builtin .len, ⟨[x]⟩, ⟨[t]⟩⟩, ty, pos, aft, g⟩ = true := by exact rfl) (hx : Cx.ev n f x = .string (S a) := by exact rfl) (h : pureEv Γ (Cx.ev n f) (.call ⟨.builtin .len, ⟨[x]⟩, ⟨[t]⟩⟩) = some (.int .i64 ((S a).size : Int)) := by exact rfl) : J P n w0 R l0 K ((κ, ⟨some d, .call ⟨.builtin .len, ⟨[x]⟩, ⟨[t]⟩⟩, ty, pos, aft, g⟩) :: rest) f L := J.lenS hΓ hg hx h k
end
section
variable {P : Program} {n : Nat} {w0 : World} {R : Heap} {l0 : List Oper} {K : Exit → Fr → List Heap → Prop} {f : Fr} {L : List Heap} {rest : List (Nat × Oper)} {κ : Nat}
variable {Γ : List (Nat × TI)} {d : Nat} {op : Op} {ty : TypeId} {pos : String} {aft : Array Edge} {g : Option (Nat × Bool)} {t u : TypeId} {x y : Operand} {a b : List UInt8}
theorem J.eS (k : J P n w0 R l0 K rest (upd f d (.bool (a == b))) L) (hg : wantB n f l0 ⟨some d, .binOp .eql t x y u, ty, pos, aft, g⟩ = true := by exact rfl) (hx : Cx.ev n f x = .string (S a) := by exact rfl) (hy : Cx.ev n f y = .string (S b) := by exact rfl) : J P n w0 R l0 K ((κ, ⟨some d, .binOp .eql t x y u, ty, pos, aft, g⟩) :: rest) f L := J.eqS hg hx hy k
end
section
variable {P : Program} {n : Nat} {w0 : World} {R : Heap} {l0 : List Oper} {K : Exit → Fr → List Heap → Prop} {f : Fr} {L : List Heap} {rest : List (Nat × Oper)} {κ : Nat}
variable {Γ : List (Nat × TI)} {d : Nat} {op : Op} {ty : TypeId} {pos : String} {aft : Array Edge} {g : Option (Nat × Bool)} {t u : TypeId} {x y : Operand} {a b : List UInt8}
theorem J.xS (k : J P n w0 R l0 K rest (upd f d (.bool (!(a == b)))) L) (hg : wantB n f l0 ⟨some d, .binOp .neq t x y u, ty, pos, aft, g⟩ = true := by exact rfl) (hx : Cx.ev n f x = .string (S a) := by exact rfl) (hy : Cx.ev n f y = .string (S b) := by exact rfl) : J P n w0 R l0 K ((κ, ⟨some d, .binOp .neq t x y u, ty, pos, aft, g⟩) :: rest) f L := J.neS hg hx hy k
end
section
variable {P : Program} {n : Nat} {w0 : World} {R : Heap} {l0 : List Oper} {K : Exit → Fr → List Heap → Prop} {f : Fr} {L : List Heap} {rest : List (Nat × Oper)} {κ : Nat}
variable {Γ : List (Nat × TI)} {d : Nat} {op : Op} {ty : TypeId} {pos : String} {aft : Array Edge} {g : Option (Nat × Bool)} {t u : TypeId} {x y : Operand} {a b : List UInt8}
theorem J.ix {ki : IntKind} {i : Int} {j : Nat} {s1 b1 : Nat} {z1 : Option Value} (hΓ : Fits P Γ) (k : J P n w0 R l0 K rest (upd f d (.int .u8 ((a.getD j 0).toNat : Int))) L) (hg : wantB n f l0 ⟨some d, .index t x y, ty, pos, aft, g⟩ = true := by exact rfl) (hx : Cx.ev n f x = .string (S a) := by exact rfl) (hy : Cx.ev n f y = .int ki i := by exact rfl) (ht : look Γ t = some ⟨.string, s1, z1, b1⟩ := by exact rfl) (h0 : 0 ≤ i := by omega) (h1 : i < (a.length : Int) := by first | omega | (simp only [List.length_append, List.length_cons, List.length_nil]; omega)) (hj : i.toNat = j := by first | (with_reducible exact Int.toNat_natCast _) | (with_reducible exact toNat0) | (with_reducible exact toNat1) | exact rfl) : J P n w0 R l0 K ((κ, ⟨some d, .index t x y, ty, pos, aft, g⟩) :: rest) f L := J.ixS hΓ hg hx hy ht h0 h1 hj k
end
section
variable {P : Program} {n : Nat} {w0 : World} {R : Heap} {l0 : List Oper} {K : Exit → Fr → List Heap → Prop} {f : Fr} {L : List Heap} {rest : List (Nat × Oper)} {κ : Nat}
variable {Γ : List (Nat × TI)} {d : Nat} {op : Op} {ty : TypeId} {pos : String} {aft : Array Edge} {g : Option (Nat × Bool)} {t u : TypeId} {x y : Operand} {a b : List UInt8}
theorem J.sL {ki : IntKind} {i : Int} {j : Nat} {s1 b1 : Nat} {z1 : Option Value} (hΓ : Fits P Γ) (k : J P n w0 R l0 K rest (upd f d (.string (S (a.drop j)))) L) (hg : wantB n f l0 ⟨some d, .slice t x (some y) none none, ty, pos, aft, g⟩ = true := by exact rfl) (hx : Cx.ev n f x = .string (S a) := by exact rfl) (hy : Cx.ev n f y = .int ki i := by exact rfl) (ht : look Γ t = some ⟨.string, s1, z1, b1⟩ := by exact rfl) (h0 : 0 ≤ i := by omega) (h1 : i ≤ (a.length : Int) := by first | omega | (simp only [List.length_append, List.length_cons, List.length_nil]; omega)) (hj : i.toNat = j := by first | (with_reducible exact Int.toNat_natCast _) | (with_reducible exact toNat0) | (with_reducible exact toNat1) | exact rfl) : J P n w0 R l0 K ((κ, ⟨some d, .slice t x (some y) none none, ty, pos, aft, g⟩) :: rest) f L := J.slL hΓ hg hx hy ht h0 h1 hj k
end
section
variable {P : Program} {n : Nat} {w0 : World} {R : Heap} {l0 : List Oper} {K : Exit → Fr → List Heap → Prop} {f : Fr} {L : List Heap} {rest : List (Nat × Oper)} {κ : Nat}
variable {Γ : List (Nat × TI)} {d : Nat} {op : Op} {ty : TypeId} {pos : String} {aft : Array Edge} {g : Option (Nat × Bool)} {t u : TypeId} {x y : Operand} {a b : List UInt8}
theorem J.sH {ki : IntKind} {i : Int} {j : Nat} {s1 b1 : Nat} {z1 : Option Value} (hΓ : Fits P Γ) (k : J P n w0 R l0 K rest (upd f d (.string (S (a.take j)))) L) (hg : wantB n f l0 ⟨some d, .slice t x none (some y) none, ty, pos, aft, g⟩ = true := by exact rfl) (hx : Cx.ev n f x = .string (S a) := by exact rfl) (hy : Cx.ev n f y = .int ki i := by exact rfl) (ht : look Γ t = some ⟨.string, s1, z1, b1⟩ := by exact rfl) (h0 : 0 ≤ i := by omega) (h1 : i ≤ (a.length : Int) := by first | omega | (simp only [List.length_append, List.length_cons, List.length_nil]; omega)) (hj : i.toNat = j := by first | (with_reducible exact Int.toNat_natCast _) | (with_reducible exact toNat0) | (with_reducible exact toNat1) | exact rfl) : J P n w0 R l0 K ((κ, ⟨some d, .slice t x none (some y) none, ty, pos, aft, g⟩) :: rest) f L := J.slH hΓ hg hx hy ht h0 h1 hj k
end
section
variable {P : Program} {n : Nat} {w0 : World} {R : Heap} {l0 : List Oper} {K : Exit → Fr → List Heap → Prop} {f : Fr} {L : List Heap} {rest : List (Nat × Oper)} {κ : Nat}
variable {Γ : List (Nat × TI)} {d : Nat} {op : Op} {ty : TypeId} {pos : String} {aft : Array Edge} {g : Option (Nat × Bool)} {t u : TypeId} {x y : Operand} {a b : List UInt8}
theorem J.mf {fn : Fn} {as cs : List Operand} (hΓ : Fits P Γ) (k : J P n w0 R l0 K rest (upd f d (.func fn ⟨as.map (Cx.ev n f)⟩ ⟨cs.map (Cx.ev n f)⟩)) L) (hg : wantB n f l0 ⟨some d, .makeFunc fn ⟨as⟩ ⟨cs⟩, ty, pos, aft, g⟩ = true := by exact rfl) : J P n w0 R l0 K ((κ, ⟨some d, .makeFunc fn ⟨as⟩ ⟨cs⟩, ty, pos, aft, g⟩) :: rest) f L := J.mkf hΓ hg k
end
section
variable {P : Program} {n : Nat} {w0 : World} {R : Heap} {l0 : List Oper} {K : Exit → Fr → List Heap → Prop} {f : Fr} {L : List Heap} {rest : List (Nat × Oper)} {κ : Nat}
variable {Γ : List (Nat × TI)} {d : Nat} {op : Op} {ty : TypeId} {pos : String} {aft : Array Edge} {g : Option (Nat × Bool)} {t u : TypeId} {x y : Operand} {a b : List UInt8}
theorem J.nT {xs ys : List Value} {fs : List Field} {s1 b1 : Nat} {z1 : Option Value} {r : Bool} (hΓ : Fits P Γ) (k : J P n w0 R l0 K rest (upd f d (.bool (!r))) L) (hg : wantB n f l0 ⟨some d, .binOp .neq t x y u, ty, pos, aft, g⟩ = true := by exact rfl) (hx : Cx.ev n f x = .agg ⟨xs⟩ := by exact rfl) (hy : Cx.ev n f y = .agg ⟨ys⟩ := by exact rfl) (ht : look Γ t = some ⟨.struct ⟨fs⟩, s1, z1, b1⟩ := by exact rfl) (h1 : P.eqGuardType P.depth t = false := by kernel_rfl) (h2 : P.stoodInHeld t = false := by kernel_rfl) (h3 : (fs.all fun f => f.name != "_") = true := by kernel_rfl) (hr : eqF Γ fs xs ys = some r := by exact rfl) : J P n w0 R l0 K ((κ, ⟨some d, .binOp .neq t x y u, ty, pos, aft, g⟩) :: rest) f L := J.neqT hΓ hg hx hy ht h1 h2 h3 hr k
end
section
variable {P : Program} {n : Nat} {w0 : World} {R : Heap} {l0 : List Oper} {K : Exit → Fr → List Heap → Prop} {f : Fr} {L : List Heap} {rest : List (Nat × Oper)} {κ : Nat}
variable {d : Nat} {op : Op} {ty : TypeId} {pos : String} {aft : Array Edge} {g : Option (Nat × Bool)}
theorem J.o (c : Nat) {dst : Option Tmp} (k : J P n w0 R l0 K ((κ, ⟨dst, op, ty, pos, aft, g⟩) :: rest) f L) (hn : opClass op = c := by exact rfl) : J P n w0 R l0 K ((κ, ⟨dst, op, ty, pos, aft, g⟩) :: rest) f L := k
theorem J.fc (c : Nat) {dst : Option Tmp} (k : J P n w0 R l0 K ((κ, ⟨dst, op, ty, pos, aft, g⟩) :: rest) f L) (hn : callOf op = some c := by exact rfl) : J P n w0 R l0 K ((κ, ⟨dst, op, ty, pos, aft, g⟩) :: rest) f L := k
theorem J.wt {dst : Option Tmp} (k : J P n w0 R l0 K ((κ, ⟨dst, op, ty, pos, aft, g⟩) :: rest) f L) (hg : wantB n f l0 ⟨dst, op, ty, pos, aft, g⟩ = true := by exact rfl) : J P n w0 R l0 K ((κ, ⟨dst, op, ty, pos, aft, g⟩) :: rest) f L := k
end
end Go.Cx
