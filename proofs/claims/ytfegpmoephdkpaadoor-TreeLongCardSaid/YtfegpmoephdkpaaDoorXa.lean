/- TreeLong: the texts that the law builds, and what is read of them. -/
import Derived.Test.YtfegpmoephdkpaaDoorVb
namespace Go.Proofs.YtfegpmoephdkpaaDoor
open Go Go.Cx
set_option linter.unusedVariables false
set_option linter.unusedSimpArgs false

def chain : List Int → TT
  | [] => .leaf false
  | v :: vs => .ask v (.leaf true) (chain vs)
def hdr (v : Int) : List UInt8 := [40] ++ Lib.itoa v ++ [32, 43, 32]
def hdrs (vs : List Int) : List UInt8 := vs.flatMap hdr
theorem chain_size : ∀ vs, (chain vs).size = 2 * vs.length + 1
  | [] => rfl
  | v :: vs => by rw [chain, TT.size, TT.size, chain_size vs, List.length_cons]; omega
theorem chain_str : ∀ vs, (chain vs).str = hdrs vs ++ [45] ++ List.replicate vs.length 41
  | [] => rfl
  | v :: vs => by
    rw [chain, TT.str, chain_str vs, TT.str, hdrs, hdrs, List.flatMap_cons, List.length_cons, List.replicate_succ', hdr]
    simp
theorem chain_rng : ∀ vs, (∀ v, v ∈ vs → 1 ≤ v ∧ v ≤ 128) → (chain vs).rng
  | [], _ => trivial
  | v :: vs, h => ⟨(h v (List.mem_cons_self ..)).1, (h v (List.mem_cons_self ..)).2, trivial, chain_rng vs (fun u hu => h u (List.mem_cons_of_mem _ hu))⟩
theorem chain_cont (u : Int) : ∀ vs, (chain vs).cont u = decide (u ∈ vs)
  | [] => by simp [chain, TT.cont]
  | v :: vs => by
    rw [chain, TT.cont, TT.cont, chain_cont u vs, Bool.or_false]
    simp [eq_comm]
theorem chain_fresh : ∀ vs, (∀ v, v ∈ vs → 1 ≤ v ∧ v ≤ 128) → ((chain vs).fresh ↔ vs.Nodup)
  | [], _ => by simp [chain, TT.fresh]
  | v :: vs, h => by
    have ih := chain_fresh vs (fun u hu => h u (List.mem_cons_of_mem _ hu))
    have hv := h v (List.mem_cons_self ..)
    rw [chain, TT.fresh, chain_cont, List.nodup_cons, ih]
    simp [TT.cont, TT.fresh, hv]
theorem check_fresh (t : TT) (hr : t.rng) (hs : t.size ≤ 4096) : checkT (t.nodes 0) 128 = 0 ↔ t.fresh := by
  constructor
  · intro h
    have hV := (valid_iff _ _).1 h
    have hp := hV.pos
    have := toT_fresh hV (t.nodes 0).length 0 (by omega) (by omega) (by omega)
    rwa [show (0 : Int) = ((0 : Nat) : Int) from rfl, At.toT (k := 0) ⟨[], [], by simp, rfl⟩ hr (by rw [TT.nodes_len]; exact Nat.le_refl _)] at this
  · intro h
    exact (valid_iff _ _).2 (nodes_valid t h hs)
theorem check_one {ts : List Nd} {n : Int} (hn : 0 ≤ n ∧ n ≤ 128) (h0 : 0 < ts.length) (h1 : ts.length ≤ 4096) (h : checkT ts n ≠ 0) : checkT ts n = 1 := by
  unfold checkT at h ⊢
  rw [if_neg (by omega), if_neg (by omega), if_neg (by omega)] at h ⊢
  split
  · rename_i hc; rw [if_pos hc] at h; exact absurd rfl h
  · rfl

theorem nodeP_hdr {v : Int} (hv : 1 ≤ v ∧ v ≤ 128) (f : Nat) (ts : List Nd) (r : List UInt8) (hb : (nodeP (f + 1) (ts ++ [⟨0, 0, 0, false⟩] ++ [⟨0, 0, 0, true⟩]) r).1 = false ∨ (nodeP (f + 1) (ts ++ [⟨0, 0, 0, false⟩] ++ [⟨0, 0, 0, true⟩]) r).2.2 = []) : (nodeP (f + 2) ts (hdr v ++ r)).1 = false := by
  have e1 : hdr v ++ r = 40 :: (Lib.itoa v ++ 32 :: (43 :: 32 :: r)) := by simp [hdr]
  have el : ∀ (c : UInt8) (l : List UInt8), eatL (c :: l) c = l := fun c l => by unfold eatL eatB; simp
  have eb : ∀ (c : UInt8) (l : List UInt8), eatB (c :: l) c = true := fun c l => by unfold eatB; simp
  rw [e1, nodeP]
  have x1 : eatB (40 :: (Lib.itoa v ++ 32 :: (43 :: 32 :: r))) 43 = false := rfl
  have x2 : eatL (40 :: (Lib.itoa v ++ 32 :: (43 :: 32 :: r))) 43 = 40 :: (Lib.itoa v ++ 32 :: (43 :: 32 :: r)) := rfl
  have x3 : eatB (40 :: (Lib.itoa v ++ 32 :: (43 :: 32 :: r))) 45 = false := rfl
  have x4 : eatL (40 :: (Lib.itoa v ++ 32 :: (43 :: 32 :: r))) 45 = 40 :: (Lib.itoa v ++ 32 :: (43 :: 32 :: r)) := rfl
  simp only [x1, x2, x3, x4, eb, el, numS_itoa v (by omega) hv.2, Bool.false_eq_true, Bool.true_eq_false, if_false]
  have h1 : nodeP (f + 1) (ts ++ [⟨0, 0, 0, false⟩]) (43 :: 32 :: r) = (true, ts ++ [⟨0, 0, 0, false⟩] ++ [⟨0, 0, 0, true⟩], 32 :: r) := by
    rw [nodeP, eb, if_pos rfl, el]
  simp only [h1, eb, el, Bool.true_eq_false, if_false]
  rcases hb with hb | hb
  · rw [if_pos hb]
  · split
    · rfl
    · rw [hb]
      have e0 : eatB [] 41 = false := rfl
      rw [e0, if_pos rfl]
theorem nodeP_short : ∀ (vs : List Int) (k : Nat) (ts : List Nd) (f : Nat), (∀ v, v ∈ vs → 1 ≤ v ∧ v ≤ 128) → k < vs.length → 2 * vs.length + 1 ≤ f → (nodeP f ts (hdrs vs ++ [45] ++ List.replicate k 41)).1 = false
  | [], k, ts, f, _, hk, _ => by simp at hk
  | v :: vs, k, ts, f, h, hk, hf => by
    rw [List.length_cons] at hk hf
    obtain ⟨g, rfl⟩ : ∃ g, f = g + 2 := ⟨f - 2, by omega⟩
    have e : hdrs (v :: vs) ++ [45] ++ List.replicate k 41 = hdr v ++ (hdrs vs ++ [45] ++ List.replicate k 41) := by simp [hdrs]
    rw [e]
    refine nodeP_hdr (h v (List.mem_cons_self ..)) g ts _ ?_
    by_cases hlt : k < vs.length
    · exact .inl (nodeP_short vs k _ (g + 1) (fun u hu => h u (List.mem_cons_of_mem _ hu)) hlt (by omega))
    · obtain rfl : k = vs.length := by omega
      have hn := nodeP_str (chain vs) (ts ++ [⟨0, 0, 0, false⟩] ++ [⟨0, 0, 0, true⟩]) [] (g + 1) (chain_rng vs (fun u hu => h u (List.mem_cons_of_mem _ hu))) (by rw [chain_size]; omega)
      rw [List.append_nil, chain_str] at hn
      rw [hn]
      exact .inr rfl

/-- the variables that the law asks for -/
def vars (same : Bool) (n : Nat) : List Int := (List.range n).map fun i => if same then 1 else ((i % 128 + 1 : Nat) : Int)
theorem vars_rng (same : Bool) (n : Nat) : ∀ v, v ∈ vars same n → 1 ≤ v ∧ v ≤ 128 := by
  intro v hv
  obtain ⟨i, _, rfl⟩ := List.mem_map.1 hv
  split <;> omega
theorem vars_len (same : Bool) (n : Nat) : (vars same n).length = n := by simp [vars]
theorem vars_succ (same : Bool) (n : Nat) : vars same (n + 1) = vars same n ++ [if same then 1 else ((n % 128 + 1 : Nat) : Int)] := by simp [vars, List.range_succ]
theorem vars_dup (same : Bool) (n : Nat) (h : 2 ≤ n) (hs : same = true ∨ 128 < n) : ¬ (vars same n).Nodup := by
  intro hn
  have key : ∃ j, 0 < j ∧ j < n ∧ (if same then (1 : Int) else ((0 % 128 + 1 : Nat) : Int)) = (if same then (1 : Int) else ((j % 128 + 1 : Nat) : Int)) := by
    rcases hs with rfl | hs
    · exact ⟨1, by omega, by omega, rfl⟩
    · exact ⟨128, by omega, hs, by cases same <;> rfl⟩
  obtain ⟨j, h1, h2, h3⟩ := key
  have hg := List.pairwise_iff_getElem.1 hn 0 j (by rw [vars_len]; omega) (by rw [vars_len]; exact h2) h1
  apply hg
  simp only [vars, List.getElem_map, List.getElem_range]
  exact h3
theorem vars_128 : (vars false 128).Nodup := of_decide_eq_true (by kernel_rfl)
theorem last_128 : ((chain (vars false 128)).nodes 0).getD 254 default = ⟨128, 255, 256, false⟩ := by kernel_rfl

def textL (same short : Bool) (n : Nat) : List UInt8 := hdrs (vars same n) ++ [45] ++ List.replicate (if short then n - 1 else n) 41
def wantL (same short : Bool) (n : Nat) : Int := if 1048576 < (textL same short n).length then 2 else if short then 5 else if 4096 < 2 * n + 1 then 2 else if same = true ∨ 128 < n then 1 else 0
theorem hdr_len (v : Int) : 4 ≤ (hdr v).length := by simp [hdr]
theorem hdrs_len : ∀ vs, 4 * vs.length ≤ (hdrs vs).length
  | [] => Nat.zero_le _
  | v :: vs => by
    have := hdrs_len vs
    have := hdr_len v
    rw [hdrs, List.flatMap_cons, List.length_append, List.length_cons]
    have h2 : 4 * vs.length ≤ (List.flatMap hdr vs).length := hdrs_len vs
    omega
theorem long_law (same short : Bool) (n : Nat) (hn : 128 ≤ n) : ∃ ts : List Nd, parseP (textL same short n) = (wantL same short n, ts) ∧ (wantL same short n ≠ 0 → ts = []) ∧
    (wantL same short n = 0 → ts.length = 2 * n + 1 ∧ checkT ts 128 = 0 ∧ checkT ts 127 = 1) := by
  unfold wantL
  by_cases hlen : 1048576 < (textL same short n).length
  · rw [if_pos hlen]
    refine ⟨[], ?_, fun _ => rfl, fun h => by omega⟩
    unfold parseP; rw [if_pos hlen]
  rw [if_neg hlen]
  have hvl := vars_len same n
  have hr := vars_rng same n
  have htl : 4 * n + 1 ≤ (textL same short n).length := by
    have := hdrs_len (vars same n)
    unfold textL
    rw [List.length_append, List.length_append]
    simp only [List.length_cons, List.length_nil]
    omega
  cases short with
  | true =>
    rw [if_pos rfl]
    refine ⟨[], ?_, fun _ => rfl, fun h => by omega⟩
    have hf := nodeP_short (vars same n) (n - 1) [] ((textL same true n).length + 1) hr (by omega) (by omega)
    unfold parseP
    rw [if_neg hlen, if_pos]
    exact hf
  | false =>
  rw [if_neg (by decide)]
  have hst : textL same false n = (chain (vars same n)).str := by rw [chain_str, hvl]; rfl
  have hsz := chain_size (vars same n)
  rw [hvl] at hsz
  have hrg := chain_rng _ hr
  have hnp := nodeP_str (chain (vars same n)) [] [] ((textL same false n).length + 1) hrg (by omega)
  rw [List.append_nil, ← hst] at hnp
  have hnl := TT.nodes_len (chain (vars same n)) 0
  have hp : parseP (textL same false n) = if checkT ((chain (vars same n)).nodes 0) 128 = 0 then (0, (chain (vars same n)).nodes 0) else (checkT ((chain (vars same n)).nodes 0) 128, []) := by
    unfold parseP
    rw [if_neg hlen, hnp]
    simp only [List.nil_append, List.length_nil, Bool.true_eq_false, if_false, ne_eq, not_true_eq_false]
  by_cases hbig : 4096 < 2 * n + 1
  · rw [if_pos hbig]
    have hc : checkT ((chain (vars same n)).nodes 0) 128 = 2 := by
      unfold checkT
      rw [if_neg (by omega), if_pos (by omega)]
    refine ⟨[], ?_, fun _ => rfl, fun h => by omega⟩
    rw [hp, hc]; rfl
  rw [if_neg hbig]
  by_cases hd : same = true ∨ 128 < n
  · rw [if_pos hd]
    have hc : checkT ((chain (vars same n)).nodes 0) 128 = 1 := by
      refine check_one (by omega) (by omega) (by omega) (fun h => ?_)
      exact vars_dup same n (by omega) hd ((chain_fresh _ hr).1 ((check_fresh _ hrg (by omega)).1 h))
    refine ⟨[], ?_, fun _ => rfl, fun h => by omega⟩
    rw [hp, hc]; rfl
  · rw [if_neg hd]
    have h128 : n = 128 := by
      have : ¬ 128 < n := fun h => hd (.inr h)
      omega
    have hsf : same = false := by
      cases same with
      | true => exact absurd (.inl rfl) hd
      | false => rfl
    subst h128
    subst hsf
    have hc : checkT ((chain (vars false 128)).nodes 0) 128 = 0 := (check_fresh _ hrg (by omega)).2 ((chain_fresh _ hr).2 vars_128)
    refine ⟨(chain (vars false 128)).nodes 0, by rw [hp, if_pos hc], fun h => absurd rfl h, fun _ => ⟨by omega, hc, ?_⟩⟩
    refine check_one (by omega) (by omega) (by omega) (fun h => ?_)
    have hV := (valid_iff _ _).1 h
    have := (hV.var (j := 254) (by omega) (by rw [last_128]; decide)).2
    rw [last_128] at this
    exact absurd this (by decide)

theorem itoa_dig_all : ((List.range 129).all fun v => decide (v = 0 ∨ Lib.itoa (v : Int) = (if 99 < v then [49] else []) ++ (if 9 < v then [UInt8.ofNat (48 + v / 10 % 10)] else []) ++ [UInt8.ofNat (48 + v % 10)])) = true := by kernel_rfl
theorem itoa_dig (v : Nat) (h0 : 1 ≤ v) (h1 : v ≤ 128) : Lib.itoa (v : Int) = (if 99 < v then [49] else []) ++ (if 9 < v then [UInt8.ofNat (48 + v / 10 % 10)] else []) ++ [UInt8.ofNat (48 + v % 10)] := by
  rcases of_decide_eq_true (List.all_eq_true.1 itoa_dig_all v (List.mem_range.2 (by omega))) with h | h
  · omega
  · exact h
end Go.Proofs.YtfegpmoephdkpaaDoor
