/- Two's complement in words of 32 bits: plain. A law for a region that draws its order: of the head (whose operations make or read memory, and write none that was there) each operation is looked at once. -/
import Derived.Test.YtbffpkmfhkphdaaGreatDoorGX00
import Derived.Test.YtbffpkmfhkphdaaGreatDoorGX01
import Derived.Laws.BitsAllLaws
set_option linter.unusedVariables false
set_option linter.unusedSimpArgs false
namespace Go.Proofs.YtbffpkmfhkphdaaGreatDoor.Limb

/-- The first n words of a number. -/
def dg : Nat → Nat → List Nat
  | 0, _ => []
  | n + 1, N => N % 4294967296 :: dg n (N / 4294967296)
theorem dg_length (n N : Nat) : (dg n N).length = n := by
  induction n generalizing N with
  | zero => rfl
  | succ n ih => simp [dg, ih]
theorem dg_lim (n N : Nat) : Lim (dg n N) := by
  induction n generalizing N with
  | zero => exact Lim.nil
  | succ n ih => exact Lim.cons (Nat.mod_lt _ (by decide)) (ih _)
theorem val_dg (n N : Nat) (h : N < W n) : val (dg n N) = N := by
  induction n generalizing N with
  | zero => rw [W_zero] at h; simp [dg, val]; omega
  | succ n ih =>
    rw [W_succ] at h
    simp only [dg, val]
    rw [ih _ (by omega)]; omega
theorem dg_of {l : List Nat} (h : Lim l) {n : Nat} (hn : l.length = n) : l = dg n (val l) := by
  subst hn
  refine ext_wd (by rw [dg_length]) fun i hi => ?_
  rw [wd_val h, wd_val (dg_lim _ _), val_dg _ _ (val_lt h)]

/-- The first n words of a whole number's two's complement. -/
def two (n : Nat) (z : Int) : List Nat := dg n (z % (W n : Nat)).toNat
theorem two_length (n : Nat) (z : Int) : (two n z).length = n := dg_length _ _
theorem two_lim (n : Nat) (z : Int) : Lim (two n z) := dg_lim _ _
theorem W_cast_pos (n : Nat) : (0 : Int) < (W n : Nat) := by have := W_pos n; omega
theorem val_two' (n : Nat) (z : Int) : (val (two n z) : Int) = z % (W n : Nat) := by
  have h1 := Int.emod_nonneg z (Int.ne_of_gt (W_cast_pos n))
  have h2 := Int.emod_lt_of_pos z (W_cast_pos n)
  unfold two
  rw [val_dg _ _ (by omega)]; omega
/-- Words that are a number of that remainder are these. -/
theorem two_of {l : List Nat} (h : Lim l) {n : Nat} (hn : l.length = n) {z : Int} (hv : (val l : Int) = z % (W n : Nat)) : l = two n z := by
  rw [dg_of h hn]; unfold two; rw [← hv]; rfl

/-- A number's words and noughts behind. -/
def pad (n : Nat) (l : List Nat) : List Nat := l ++ List.replicate (n - l.length) 0
theorem pad_length {n : Nat} {l : List Nat} (h : l.length ≤ n) : (pad n l).length = n := by unfold pad; simp; omega
theorem pad_lim {n : Nat} {l : List Nat} (h : Lim l) : Lim (pad n l) := h.append (Lim.replicate _ (by decide))
theorem val_pad (n : Nat) (l : List Nat) : val (pad n l) = val l := by
  unfold pad; rw [val_append, val_replicate, Nat.mul_zero, Nat.add_zero]
theorem wd_pad (n : Nat) (l : List Nat) (i : Nat) : wd (pad n l) i = wd l i := by
  unfold pad
  by_cases h : i < l.length
  · exact wd_append_lt h
  · rw [wd_append_ge (by omega), wd_replicate, wd_ge (by omega)]

/-- Each word's other bits. -/
def inv (l : List Nat) : List Nat := l.map fun x => 4294967295 - x
theorem inv_length (l : List Nat) : (inv l).length = l.length := by simp [inv]
theorem inv_lim (l : List Nat) : Lim (inv l) := by
  intro x hx; unfold inv at hx; obtain ⟨y, _, rfl⟩ := List.mem_map.1 hx; omega
theorem val_inv {l : List Nat} (h : Lim l) : val (inv l) + val l + 1 = W l.length := by
  induction l with
  | nil => simp [inv, val, W_zero]
  | cons d t ih =>
    have h1 := ih h.tail
    have h2 := h.head
    unfold inv at h1 ⊢
    simp only [List.map_cons, val, List.length_cons, W_succ]
    omega


/-- The words below j turned, the others as they were. -/
def invTo (j : Nat) (l : List Nat) : List Nat := (inv l).take j ++ l.drop j
theorem invTo_zero (l : List Nat) : invTo 0 l = l := by simp [invTo]
theorem invTo_length (j : Nat) (l : List Nat) : (invTo j l).length = l.length := by
  unfold invTo; simp [inv_length]; omega
theorem invTo_all {j : Nat} {l : List Nat} (h : l.length ≤ j) : invTo j l = inv l := by
  unfold invTo; rw [List.take_of_length_le (by rw [inv_length]; exact h), List.drop_of_length_le h, List.append_nil]
theorem invTo_lim {j : Nat} {l : List Nat} (h : Lim l) : Lim (invTo j l) := ((inv_lim l).take j).append (h.drop j)
theorem wd_inv {l : List Nat} {i : Nat} (h : i < l.length) : wd (inv l) i = 4294967295 - wd l i := by
  rw [wd_lt (by rw [inv_length]; exact h), wd_lt h]; simp [inv]
theorem wd_invTo {l : List Nat} (j i : Nat) (h : i < l.length) : wd (invTo j l) i = if i < j then 4294967295 - wd l i else wd l i := by
  unfold invTo
  by_cases hij : i < j
  · rw [if_pos hij, wd_append_lt (by rw [List.length_take, inv_length]; omega), wd_take hij, wd_inv h]
  · rw [if_neg hij]
    by_cases hj : j ≤ l.length
    · rw [wd_append_ge (by rw [List.length_take, inv_length]; omega), List.length_take, inv_length, wd_drop]
      congr 1; omega
    · omega
theorem invTo_set {l : List Nat} {j : Nat} (h : j < l.length) : (invTo j l).set j (4294967295 - wd l j) = invTo (j + 1) l := by
  refine ext_wd (by rw [List.length_set, invTo_length, invTo_length]) fun i hi => ?_
  rw [List.length_set, invTo_length] at hi
  rw [wd_set (by rw [invTo_length]; exact h), wd_invTo _ _ hi, wd_invTo _ _ hi]
  by_cases hij : i = j
  · subst hij; simp
  · rw [if_neg hij]
    by_cases h1 : i < j
    · rw [if_pos h1, if_pos (by omega)]
    · rw [if_neg h1, if_neg (by omega)]
/-- The complement of a number that is not 0: each word turned, and 1. -/
theorem inv_plus {l : List Nat} {n : Nat} {zs : List Nat} (hl : Lim l) (hn : l.length ≤ n) (hp : 0 < val l) (hz : Lim zs) (hzn : n ≤ zs.length) (hv : val zs = val (inv (pad n l)) + 1) : zs.take n = two n (-(val l : Int)) := by
  have h1 := val_inv (pad_lim (n := n) hl)
  rw [val_pad, pad_length hn] at h1
  refine two_of (hz.take n) (by rw [List.length_take]; omega) ?_
  have h3 : val zs < W n := by omega
  rw [val_take hz, Nat.mod_eq_of_lt h3]
  have h2 : ((val zs : Nat) : Int) = -(val l : Int) + (W n : Nat) := by omega
  rw [← Int.add_emod_right, ← h2]
  exact (Int.emod_eq_of_lt (by omega) (by omega)).symm

/-- One word of a complement more. -/
theorem comp_step {l zs : List Nat} {k c : Nat} (hz : zs.length = k) (hl : Lim l) (h : val zs + c * W k + val (l.take k) = W k) :
    val (zs ++ [(4294967295 - wd l k + c) % 4294967296]) + (4294967295 - wd l k + c) / 4294967296 * W (k + 1) + val (l.take (k + 1)) = W (k + 1) := by
  rw [val_snoc, hz, val_take_succ l, W_succ]
  have hx := hl.wd k
  have hd := Nat.div_add_mod (4294967295 - wd l k + c) 4294967296
  generalize (4294967295 - wd l k + c) / 4294967296 = q at *
  generalize (4294967295 - wd l k + c) % 4294967296 = r at *
  have k2 := congrArg (fun t => W k * t) (show 4294967296 * q + r + wd l k = 4294967295 + c by omega)
  simp only [Nat.mul_add] at k2
  have e1 : W k * (4294967296 * q) = q * (4294967296 * W k) := by rw [Nat.mul_comm, Nat.mul_right_comm, Nat.mul_comm (4294967296 * _)]
  have e3 : W k * c = c * W k := Nat.mul_comm _ _
  have e4 : W k * 4294967295 = 4294967295 * W k := Nat.mul_comm _ _
  omega
theorem comp_done {l zs : List Nat} {n c : Nat} (hz : zs.length = n) (hzl : Lim zs) (hl : Lim l) (hn : l.length ≤ n) (hp : 0 < val l) (h : val zs + c * W n + val (l.take n) = W n) : zs = two n (-(val l : Int)) := by
  rw [List.take_of_length_le hn] at h
  have hc : c = 0 := by
    rcases Nat.eq_zero_or_pos c with h0 | h0
    · exact h0
    · have := Nat.mul_le_mul_right (W n) h0
      omega
  rw [hc, Nat.zero_mul, Nat.add_zero] at h
  refine two_of hzl hz ?_
  have h1 : ((val zs : Nat) : Int) = -(val l : Int) + (W n : Nat) := by omega
  rw [← Int.add_emod_right, ← h1]
  exact (Int.emod_eq_of_lt (by omega) (by omega)).symm
theorem plain_done {l zs : List Nat} {n : Nat} (hz : zs.length = n) (hzl : Lim zs) (hn : l.length ≤ n) (hl : Lim l) (h : zs = (pad n l)) : zs = two n (val l : Int) := by
  refine two_of hzl hz ?_
  rw [h, val_pad]
  have h1 := val_lt hl
  have h2 := W_mono hn
  exact (Int.emod_eq_of_lt (by omega) (by omega)).symm

/-- The word that comes next is the complement's own. -/
theorem comp_digit {l : List Nat} {n k c : Nat} (hl : Lim l) (hk : k < n) (h : val ((two n (-(val l : Int))).take k) + c * W k + val (l.take k) = W k) :
    (4294967295 - wd l k + c) % 4294967296 = wd (two n (-(val l : Int))) k ∧
      val ((two n (-(val l : Int))).take (k + 1)) + (4294967295 - wd l k + c) / 4294967296 * W (k + 1) + val (l.take (k + 1)) = W (k + 1) := by
  have hT := two_lim n (-(val l : Int))
  have hTl := two_length n (-(val l : Int))
  have hTv := val_two' n (-(val l : Int))
  generalize two n (-(val l : Int)) = T at *
  have hlen : (T.take k).length = k := by rw [List.length_take]; omega
  have hst := comp_step hlen hl h
  generalize (4294967295 - wd l k + c) / 4294967296 = c' at *
  have hdl : (4294967295 - wd l k + c) % 4294967296 < 4294967296 := Nat.mod_lt _ (by decide)
  generalize (4294967295 - wd l k + c) % 4294967296 = d at *
  have hlim : Lim (T.take k ++ [d]) := (hT.take k).append (Lim.cons hdl Lim.nil)
  have hlt := val_lt hlim
  rw [List.length_append, hlen] at hlt
  have hlt : val (T.take k ++ [d]) < W (k + 1) := hlt
  have hdvd : ((W (k + 1) : Nat) : Int) ∣ ((W n : Nat) : Int) := by
    refine Int.natCast_dvd_natCast.2 ⟨W (n - (k + 1)), ?_⟩
    rw [← W_add]; congr 1; omega
  have e1 : ((val (T.take (k + 1)) : Nat) : Int) = -(val l : Int) % (W (k + 1) : Nat) := by
    rw [val_take hT, Int.natCast_emod, hTv, Int.emod_emod_of_dvd _ hdvd]
  have e2 : ((val (T.take k ++ [d]) : Nat) : Int) = -(val l : Int) % (W (k + 1) : Nat) := by
    have h1 : ((val (T.take k ++ [d]) : Nat) : Int) % (W (k + 1) : Nat) = (val (T.take k ++ [d]) : Nat) := Int.emod_eq_of_lt (by omega) (by omega)
    rw [← h1]
    rw [val_take hl] at hst
    have h2 := Nat.div_add_mod (val l) (W (k + 1))
    refine Int.emod_eq_emod_iff_emod_sub_eq_zero.2 (Int.emod_eq_zero_of_dvd ?_)
    refine ⟨1 - (c' : Int) + (val l / W (k + 1) : Nat), ?_⟩
    have h3 : ((c' * W (k + 1) : Nat) : Int) = (W (k + 1) : Nat) * (c' : Int) := by rw [Int.natCast_mul, Int.mul_comm]
    have h4 : ((W (k + 1) * (val l / W (k + 1)) : Nat) : Int) = (W (k + 1) : Nat) * ((val l / W (k + 1) : Nat) : Int) := Int.natCast_mul _ _
    rw [Int.mul_add, Int.mul_sub, Int.mul_one, ← h3, ← h4]
    omega
  have e3 : val (T.take (k + 1)) = val (T.take k ++ [d]) := by omega
  refine ⟨?_, by rw [e3]; exact hst⟩
  rw [take_wd (by omega), val_snoc, val_snoc, hlen] at e3
  have := W_pos k
  exact (Nat.eq_of_mul_eq_mul_left this (by omega)).symm
theorem comp_end {l : List Nat} {n : Nat} (hl : Lim l) (hn : l.length ≤ n) : two n (val l : Int) = pad n l := by
  refine (plain_done (pad_length hn) (pad_lim hl) hn hl rfl).symm

/-- What has come when k rounds are over. -/
def upto {α : Type} (f : Nat → α) (k : Nat) : List α := (List.range k).map f
theorem upto_succ {α : Type} (f : Nat → α) (k : Nat) : upto f (k + 1) = upto f k ++ [f k] := by simp [upto, List.range_succ]
theorem upto_length {α : Type} (f : Nat → α) (k : Nat) : (upto f k).length = k := by simp [upto]
theorem upto_wd (T : List Nat) : (upto (fun j => (j, wd T j)) T.length).map Prod.snd = T := by
  refine ext_wd (by simp [upto]) fun i hi => ?_
  have hi' : i < T.length := by simpa [upto] using hi
  rw [wd_lt hi, wd_lt hi']
  simp [upto, wd_lt hi']

/-- Two words joined: 1 and, 2 or, any other way either. -/
def bop (op x y : Nat) : Nat := if op = 1 then x &&& y else if op = 2 then x ||| y else x ^^^ y
theorem bop_lt {op x y : Nat} (hx : x < 4294967296) (hy : y < 4294967296) : bop op x y < 4294967296 := by
  unfold bop
  have h1 := Nat.and_lt_two_pow (n := 32) x (y := y) hy
  have h2 := Nat.or_lt_two_pow (n := 32) hx hy
  have h3 := Nat.xor_lt_two_pow (n := 32) hx hy
  split
  · exact h1
  · split
    · exact h2
    · exact h3
/-- Lists joined word by word. -/
def bjoin (op : Nat) (xs ys : List Nat) : List Nat := List.zipWith (bop op) xs ys
theorem bjoin_length {op : Nat} {xs ys : List Nat} (h : xs.length = ys.length) : (bjoin op xs ys).length = xs.length := by
  unfold bjoin; rw [List.length_zipWith, h, Nat.min_self]
theorem bjoin_lim {op : Nat} {xs ys : List Nat} (hx : Lim xs) (hy : Lim ys) : Lim (bjoin op xs ys) := by
  intro x h
  unfold bjoin at h
  obtain ⟨i, hi, rfl⟩ := List.mem_iff_getElem.1 h
  rw [List.getElem_zipWith]
  exact bop_lt (hx _ (List.getElem_mem _)) (hy _ (List.getElem_mem _))
theorem wd_bjoin {op : Nat} {xs ys : List Nat} {i : Nat} (h1 : i < xs.length) (h2 : i < ys.length) : wd (bjoin op xs ys) i = bop op (wd xs i) (wd ys i) := by
  have h : i < (bjoin op xs ys).length := by unfold bjoin; rw [List.length_zipWith]; omega
  rw [wd_lt h, wd_lt h1, wd_lt h2]
  exact List.getElem_zipWith

/-- The whole number of which words are the two's complement. -/
def untwo (s : List Nat) : Int := if wd s (s.length - 1) < 2147483648 then (val s : Int) else (val s : Int) - (W s.length : Nat)
/-- Two whole numbers joined bit by bit. -/
def bitsZ (op n : Nat) (x y : Int) : Int := untwo (bjoin op (two n x) (two n y))
theorem untwo_pos {s : List Nat} (h : wd s (s.length - 1) < 2147483648) : untwo s = (val s : Int) := by unfold untwo; rw [if_pos h]
theorem untwo_neg {s : List Nat} (hl : Lim s) (h : ¬ wd s (s.length - 1) < 2147483648) : untwo s = -((val (inv s) + 1 : Nat) : Int) ∧ (untwo s).natAbs = val (inv s) + 1 ∧ untwo s < 0 := by
  have h1 := val_inv hl
  have h2 : untwo s = -((val (inv s) + 1 : Nat) : Int) := by unfold untwo; rw [if_neg h]; omega
  rw [h2]; omega
theorem untwo_len {s : List Nat} (hl : Lim s) : (rep (untwo s).natAbs).length ≤ s.length + 1 := by
  refine rep_length_le.2 ?_
  have h1 := val_lt hl
  have h2 := W_pos s.length
  have h3 := W_succ s.length
  unfold untwo
  split <;> omega

end Go.Proofs.YtbffpkmfhkphdaaGreatDoor.Limb

namespace Go.Proofs.YtbffpkmfhkphdaaGreatDoor
open Go

/-- A word's other bits, as the machine reckons them. -/
theorem u32_inv {x : Nat} (h : x < 4294967296) : bits .xor .u32 IntKind.u32.max (x : Int) = ((4294967295 - x : Nat) : Int) := by
  show IntKind.u32.wrap ((BitVec.ofInt 32 4294967295 ^^^ BitVec.ofInt 32 (x : Int)).toNat : Int) = _
  rw [show BitVec.ofInt 32 4294967295 = BitVec.allOnes 32 by decide, BitVec.allOnes_xor, BitVec.toNat_not, ofInt_u32 x h, IntKind.wrap_u32']
  omega

end Go.Proofs.YtbffpkmfhkphdaaGreatDoor

namespace Go.Proofs.YtbffpkmfhkphdaaGreatDoor
open Go Go.RowKit

variable {P : Program} {md : Region.Mode} {ops : Array Oper} {Q : Exit → Act → World → Prop} {S : World → Prop} {V : Nat → Value → World → Prop}

/-- How many of the first n are not listed. -/
def cntU (listed : Array Bool) : Nat → Nat
  | 0 => 0
  | k + 1 => cntU listed k + (if listed.getD k true = false then 1 else 0)
theorem cntU_ge (listed : Array Bool) (i : Nat) : ∀ n, n ≤ i → cntU (listed.setIfInBounds i true) n = cntU listed n
  | 0, _ => rfl
  | n + 1, h => by
    unfold cntU
    rw [cntU_ge listed i n (by omega), getD_set_ne true (show i ≠ n by omega)]
theorem cntU_set (listed : Array Bool) (i : Nat) (hi : listed.getD i true = false) : ∀ n, i < n → cntU listed n = cntU (listed.setIfInBounds i true) n + 1
  | 0, h => by omega
  | n + 1, h => by
    unfold cntU
    by_cases hn : i = n
    · subst hn
      have hs : i < listed.size := by
        rcases Nat.lt_or_ge i listed.size with h | h
        · exact h
        · simp [Array.getElem?_eq_none h] at hi
      rw [cntU_ge listed i i (Nat.le_refl _), if_pos hi, if_neg (by simp [Array.getD_eq_getD_getElem?, Array.getElem?_setIfInBounds, hs])]
    · rw [getD_set_ne true hn, cntU_set listed i hi n (by omega)]; omega
theorem cntU_zero (listed : Array Bool) : ∀ n, cntU listed n = 0 → ∀ i, i < n → listed.getD i true = true
  | 0, _, i, h => by omega
  | n + 1, h0, i, h => by
    unfold cntU at h0
    by_cases hn : i = n
    · subst hn
      cases hl : listed.getD i true with
      | true => rfl
      | false => rw [hl] at h0; simp at h0
    · exact cntU_zero listed n (by omega) i (by omega)
theorem cntU_least (listed : Array Bool) : ∀ n, cntU listed n ≠ 0 → ∃ i, i < n ∧ listed.getD i true = false ∧ ∀ j, j < i → listed.getD j true = true
  | 0, h => absurd rfl h
  | n + 1, h => by
    by_cases h0 : cntU listed n = 0
    · refine ⟨n, by omega, ?_, cntU_zero listed n h0⟩
      unfold cntU at h
      cases hl : listed.getD n true with
      | true => rw [h0, hl] at h; simp at h
      | false => rfl
    · obtain ⟨i, h1, h2, h3⟩ := cntU_least listed n h0
      exact ⟨i, by omega, h2, h3⟩

/-- Each operation of the head waits for earlier ones alone. -/
def ordB (md : Region.Mode) (ops : Array Oper) (n : Nat) : Bool := (List.range n).all fun i => ((ops[i]?).map fun o => o.after.all fun e => !Region.binds md e || decide (e.on < i)).getD false
def pairB : List (Option Nat) → Bool
  | [] => true
  | d :: t => t.all (fun e => e != d) && pairB t
/-- Each operation of the head has a slot of its own. -/
def dstB (ops : Array Oper) (n m : Nat) : Bool := (ops.toList.take n).all (fun o => (o.dst.map fun d => decide (d < m)).getD false) && pairB ((ops.toList.take n).map (·.dst))
theorem pairB_spec : ∀ l : List (Option Nat), pairB l = true → ∀ i j (hi : i < l.length) (hj : j < l.length), i < j → l[i] ≠ l[j]
  | [], _, i, j, hi, _, _ => by simp at hi
  | d :: t, h, i, j, hi, hj, hij => by
    unfold pairB at h
    rw [Bool.and_eq_true, List.all_eq_true] at h
    cases j with
    | zero => omega
    | succ j =>
      cases i with
      | zero =>
        intro e
        have := h.1 _ (List.getElem_mem (show j < t.length by simpa using hj))
        simp only [List.getElem_cons_zero, List.getElem_cons_succ] at e
        rw [← e] at this; simp at this
      | succ i => exact pairB_spec t h.2 i j (by simpa using hi) (by simpa using hj) (by omega)
theorem dstB_lt {n m : Nat} (h : dstB ops n m = true) {i : Nat} {o : Oper} (hi : i < n) (ho : ops[i]? = some o) : ∃ d, o.dst = some d ∧ d < m := by
  unfold dstB at h
  rw [Bool.and_eq_true, List.all_eq_true] at h
  have hm : o ∈ ops.toList.take n := by
    rw [List.mem_iff_getElem?]
    exact ⟨i, by rw [List.getElem?_take_of_lt hi]; simpa using ho⟩
  have := h.1 o hm
  cases hd : o.dst with
  | none => rw [hd] at this; simp at this
  | some d => rw [hd] at this; exact ⟨d, rfl, by simpa using this⟩
theorem dstB_ne {n m : Nat} (h : dstB ops n m = true) {i j : Nat} {oi oj : Oper} (hi : i < n) (hj : j < n) (hoi : ops[i]? = some oi) (hoj : ops[j]? = some oj) (hij : i ≠ j) : oi.dst ≠ oj.dst := by
  unfold dstB at h
  rw [Bool.and_eq_true] at h
  have key : ∀ a b oa ob, a < n → b < n → ops[a]? = some oa → ops[b]? = some ob → a < b → oa.dst ≠ ob.dst := by
    intro a b oa ob ha hb hoa hob hab
    have la : a < ops.toList.length := by simpa using (Array.getElem?_eq_some_iff.1 hoa).1
    have lb : b < ops.toList.length := by simpa using (Array.getElem?_eq_some_iff.1 hob).1
    have := pairB_spec _ h.2 a b (by simp at la ⊢; omega) (by simp at lb ⊢; omega) hab
    simp only [List.getElem_map, List.getElem_take] at this
    have ea : ops.toList[a] = oa := by simpa using (Array.getElem?_eq_some_iff.1 hoa).2
    have eb : ops.toList[b] = ob := by simpa using (Array.getElem?_eq_some_iff.1 hob).2
    rw [ea, eb] at this; exact this
  rcases Nat.lt_or_gt_of_ne hij with h1 | h1
  · exact key i j oi oj hi hj hoi hoj h1
  · exact (key j i oj oi hj hi hoj hoi h1).symm

/-- What holds while the head comes up. -/
structure EachInv (md : Region.Mode) (ops : Array Oper) (n : Nat) (S : World → Prop) (V : Nat → Value → World → Prop) (base : Act) (listed : Array Bool) (a : Act) (w : World) : Prop where
  head : HeadInv md ops n listed
  S : S w
  defers : a.defers = base.defers
  size : a.tmps.size = base.tmps.size
  old : ∀ t, (∀ i o, i < n → ops[i]? = some o → o.dst ≠ some t) → a.tmps[t]? = base.tmps[t]?
  val : ∀ i o d, i < n → ops[i]? = some o → o.dst = some d → listed.getD i true = true → V i (a.tmps.getD d undef) w

/-- Some slot of an operation of the head. -/
def freshB (ops : Array Oper) (n t : Nat) : Bool := (ops.toList.take n).all fun o => o.dst != some t
theorem freshB_spec {n t : Nat} (h : freshB ops n t = true) : ∀ i o, i < n → ops[i]? = some o → o.dst ≠ some t := by
  intro i o hi ho
  unfold freshB at h
  rw [List.all_eq_true] at h
  have hm : o ∈ ops.toList.take n := by
    rw [List.mem_iff_getElem?]
    exact ⟨i, by rw [List.getElem?_take_of_lt hi]; simpa using ho⟩
  simpa using h o hm

/-- What is to be shown of number i, once: its operands' values are those of the operations for which it waits, or they stood ahead of the region. -/
def EachStep (P : Program) (md : Region.Mode) (ops : Array Oper) (Q : Exit → Act → World → Prop) (n : Nat) (S : World → Prop) (V : Nat → Value → World → Prop) (base : Act) (i : Nat) : Prop :=
  ∀ (a : Act) (w : World), S w → a.tmps.size = base.tmps.size → (∀ t, freshB ops n t = true → a.tmps[t]? = base.tmps[t]?) →
    (∀ j d, (((ops[i]?).map fun o => o.after.any fun e => e.on == j && Region.binds md e).getD false) = true → ((ops[j]?).bind (·.dst)) = some d → V j (a.tmps.getD d undef) w) →
    wpOp P ops Q i (fun a' w' => ∃ v, a' = a.put ((ops[i]?).bind (·.dst)) v ∧ S w' ∧ Below w.heap.size w w' ∧ V i v w') a w

theorem each_next {n i : Nat} {base : Act} {listed : Array Bool} {a : Act} {w : World} (hd : dstB ops n base.tmps.size = true) (hV : ∀ i v w w', V i v w → Below w.heap.size w w' → V i v w')
    (inv : EachInv md ops n S V base listed a w) (hi : i ∈ Region.ready md ops listed) (hin : i < n) {v : Value} {w' : World} (hS : S w') (hb : Below w.heap.size w w') (hv : V i v w') :
    EachInv md ops n S V base (listed.setIfInBounds i true) (a.put ((ops[i]?).bind (·.dst)) v) w' := by
  obtain ⟨hun, oi, hoi, hall⟩ := mem_ready.1 hi
  obtain ⟨di, hdi, hlt⟩ := dstB_lt hd hin hoi
  have e : (ops[i]?).bind (·.dst) = some di := by rw [hoi]; exact hdi
  rw [e]
  refine ⟨inv.head.set hi hin, hS, inv.defers, by simp [Act.put, inv.size], fun t ht => ?_, fun j oj d hj hoj hdj hl => ?_⟩
  · have hne : di ≠ t := fun h => ht i oi hin hoi (by rw [hdi, h])
    simp only [Act.put]
    rw [Array.getElem?_setIfInBounds_ne hne]
    exact inv.old t ht
  · by_cases hji : j = i
    · subst hji
      rw [hoi] at hoj
      obtain rfl := Option.some.inj hoj
      rw [hdi] at hdj
      obtain rfl := Option.some.inj hdj
      simp only [Act.put]
      rw [Array.getD_eq_getD_getElem?, Array.getElem?_setIfInBounds_self_of_lt (by rw [inv.size]; exact hlt)]
      exact hv
    · have hne : di ≠ d := fun h => dstB_ne hd hin hj hoi hoj (Ne.symm hji) (by rw [hdi, hdj, h])
      rw [getD_set_ne true (Ne.symm hji)] at hl
      have := hV _ _ _ _ (inv.val j oj d hj hoj hdj hl) hb
      simp only [Act.put]
      rw [Array.getD_eq_getD_getElem?, Array.getElem?_setIfInBounds_ne hne, ← Array.getD_eq_getD_getElem?]
      exact this

theorem each_ready {n : Nat} {listed : Array Bool} (hord : ordB md ops n = true) (hsz : listed.size = ops.size) (hn : n ≤ ops.size) (h0 : cntU listed n ≠ 0) : Region.ready md ops listed ≠ [] := by
  obtain ⟨i, hi, hun, hless⟩ := cntU_least listed n h0
  unfold ordB at hord
  have h1 := List.all_eq_true.1 hord i (List.mem_range.2 hi)
  have hio : i < ops.size := by omega
  have hoi : ops[i]? = some ops[i] := Array.getElem?_eq_getElem hio
  rw [hoi] at h1
  simp only [Option.map_some, Option.getD_some, Array.all_eq_true'] at h1
  have hm : i ∈ Region.ready md ops listed := by
    refine mem_ready.2 ⟨hun, ops[i], hoi, fun e he hb => ?_⟩
    have h2 := h1 e he
    rw [hb] at h2
    have h3 : e.on < i := by simpa using h2
    have h4 := hless _ h3
    have h5 : e.on < listed.size := by omega
    simpa [Array.getD_eq_getD_getElem?, h5] using h4
  intro h
  rw [h] at hm
  cases hm

theorem wpAnyS_each {n : Nat} {base : Act} (hs : Region.sinkB md ops n = true) (hc : Region.chainB md ops n = true) (hn : n < ops.size) (hord : ordB md ops n = true) (hd : dstB ops n base.tmps.size = true)
    (hV : ∀ i v w w', V i v w → Below w.heap.size w w' → V i v w') (hstep : ∀ i, i < n → EachStep P md ops Q n S V base i) (k : Nat)
    (htail : ∀ listed a w, (∀ i, i < n → listed.getD i true = true) → EachInv md ops n S V base listed a w → wpAny P md ops Q k listed a w) :
    ∀ (m : Nat) (listed : Array Bool) (a : Act) (w : World), cntU listed n = m → EachInv md ops n S V base listed a w → wpAnyS P md ops Q S n (m + k) listed a w
  | 0, listed, a, w, hm, inv => by
    rw [Nat.zero_add]
    have hall := cntU_zero listed n hm
    exact wpAnyS_tail hall (htail listed a w hall inv)
  | m + 1, listed, a, w, hm, inv => by
    rw [show m + 1 + k = (m + k) + 1 by omega]
    have hr := each_ready (md := md) hord inv.head.size (Nat.le_of_lt hn) (by omega : cntU listed n ≠ 0)
    refine ⟨fun hall => ?_, fun _ => ⟨hr, fun i hi => ?_⟩⟩
    · exfalso
      obtain ⟨i, h1, h2, _⟩ := cntU_least listed n (by omega)
      rw [hall i h1] at h2; cases h2
    · obtain ⟨hun, oi, hoi, hall⟩ := mem_ready.1 hi
      have hin : i < n := by
        rcases Nat.lt_or_ge i n with h | h
        · exact h
        · exfalso
          obtain ⟨j, h1, h2, _⟩ := cntU_least listed n (by omega)
          exact tail_waits hs hc hn inv.head _ j rfl h1 h2 i h hi
      refine wpOp_mono (fun a' w' h' => ?_) (hstep i hin a w inv.S inv.size (fun t ht => inv.old t (freshB_spec ht)) (fun j d hj hdj => ?_))
      · obtain ⟨v, rfl, hS', hb, hv⟩ := h'
        exact ⟨hS', wpAnyS_each hs hc hn hord hd hV hstep k htail m _ _ _ (by have := cntU_set listed i hun n hin; omega) (each_next hd hV inv hi hin hS' hb hv)⟩
      · rw [hoi] at hj
        simp only [Option.map_some, Option.getD_some, Array.any_eq_true'] at hj
        obtain ⟨e, he, h2⟩ := hj
        rw [Bool.and_eq_true, beq_iff_eq] at h2
        obtain ⟨rfl, hb⟩ := h2
        have h3 := hall e he hb
        unfold ordB at hord
        have h1 := List.all_eq_true.1 hord i (List.mem_range.2 hin)
        rw [hoi] at h1
        simp only [Option.map_some, Option.getD_some, Array.all_eq_true'] at h1
        have h4 := h1 e he
        rw [hb] at h4
        have h5 : e.on < i := by simpa using h4
        have hes : e.on < ops.size := by omega
        cases hoe : ops[e.on]? with
        | none => rw [hoe] at hdj; cases hdj
        | some oe =>
          rw [hoe] at hdj
          refine inv.val e.on oe d (by omega) hoe hdj ?_
          have h6 : e.on < listed.size := by rw [inv.head.size]; exact hes
          simpa [Array.getD_eq_getD_getElem?, h6] using h3

/-- The beginning. -/
theorem wp_region_each {n id : Nat} {a : Act} {w : World} (hm : P.follows .mixedOrders = true) (hs : Region.sinkB .any ops n = true) (hc : Region.chainB .any ops n = true) (hn : n < ops.size) (hord : ordB .any ops n = true) (hd : dstB ops n a.tmps.size = true)
    (hV : ∀ i v w w', V i v w → Below w.heap.size w w' → V i v w') (hS : S w.drew) (hstep : ∀ i, i < n → EachStep P .any ops Q n S V a i)
    (htail : ∀ listed a' w', (∀ i, i < n → listed.getD i true = true) → EachInv .any ops n S V a listed a' w' → wpAny P .any ops Q (ops.size - n) listed a' w') : (Code.region id ops true).wp P Q a w := by
  refine wp_region_S (S := S) hm hn (fun inv => ?_)
  have hl : ∀ i, i < n → (Array.replicate ops.size false).getD i true = false := fun i hi => by
    rw [Array.getD_eq_getD_getElem?, Array.getElem?_replicate, if_pos (by omega)]; rfl
  have hcnt : ∀ k, k ≤ n → cntU (Array.replicate ops.size false) k = k := by
    intro k
    induction k with
    | zero => intro _; rfl
    | succ k ih => intro hk; unfold cntU; rw [ih (by omega), hl k (by omega), if_pos rfl]
  have := wpAnyS_each (P := P) (Q := Q) (base := a) hs hc hn hord hd hV hstep (ops.size - n) htail n _ a w.drew (hcnt n (Nat.le_refl _)) ⟨inv, hS, rfl, rfl, fun _ _ => rfl, fun i o d hi _ _ hl' => by rw [hl i hi] at hl'; cases hl'⟩
  rw [show n + (ops.size - n) = ops.size by omega] at this
  exact this

/-- The listing behind the head. -/
theorem each_listed {n : Nat} {listed : Array Bool} (inv : HeadInv md ops n listed) (hall : ∀ i, i < n → listed.getD i true = true) (l : Array Bool) (hl : l = ((List.range ops.size).map fun i => decide (i < n)).toArray) : listed = l := by
  subst hl
  apply Array.ext
  · simp [inv.size]
  · intro i h1 h2
    simp only [List.getElem_toArray, List.getElem_map, List.getElem_range]
    by_cases h : i < n
    · have := hall i h
      simp only [h, decide_true]
      simpa [Array.getD_eq_getD_getElem?, h1] using this
    · have := inv.tail i (by omega) (by rw [← inv.size]; exact h1)
      simp only [h, decide_false]
      simpa [Array.getD_eq_getD_getElem?, h1] using this

/-- The frame behind the head, written out: what stood ahead of it, with the head's slots laid in. -/
def layIn (t : Array Value) (u : Nat → Value) : List Nat → Array Value
  | [] => t
  | d :: ds => (layIn t u ds).setIfInBounds d (u d)
theorem layIn_size (t : Array Value) (u : Nat → Value) : ∀ ds, (layIn t u ds).size = t.size
  | [] => rfl
  | d :: ds => by unfold layIn; simp [layIn_size t u ds]
theorem layIn_get (t : Array Value) (u : Nat → Value) (i : Nat) : ∀ ds, (layIn t u ds)[i]? = if i ∈ ds ∧ i < t.size then some (u i) else t[i]?
  | [] => by simp [layIn]
  | d :: ds => by
    unfold layIn
    rw [Array.getElem?_setIfInBounds, layIn_size, layIn_get t u i ds]
    by_cases h : d = i
    · subst h
      by_cases hs : d < t.size
      · simp [hs]
      · simp [hs, Array.getElem?_eq_none (show t.size ≤ d by omega)]
    · simp only [h, if_false, List.mem_cons]
      have : i ≠ d := fun e => h e.symm
      simp [this]
theorem each_frame {n : Nat} {base : Act} {listed : Array Bool} {a : Act} {w : World} (inv : EachInv md ops n S V base listed a w) (ds : List Nat) (hds : (ops.toList.take n).filterMap (·.dst) = ds) :
    a = ⟨layIn base.tmps (fun d => a.tmps.getD d undef) ds, base.defers⟩ := by
  obtain ⟨t, df⟩ := a
  have h1 := inv.defers
  have h2 := inv.size
  have h3 := inv.old
  simp only at h1 h2 h3
  subst h1
  congr 1
  apply Array.ext_getElem?
  intro i
  rw [layIn_get]
  by_cases hi : i ∈ ds ∧ i < base.tmps.size
  · rw [if_pos hi]
    simp only [Array.getD_eq_getD_getElem?]
    rw [Array.getElem?_eq_getElem (by rw [h2]; exact hi.2)]; rfl
  · rw [if_neg hi]
    by_cases hs : i < base.tmps.size
    · refine h3 i (fun j o hj ho e => hi ⟨?_, hs⟩)
      rw [← hds, List.mem_filterMap]
      refine ⟨o, ?_, e⟩
      rw [List.mem_iff_getElem?]
      exact ⟨j, by rw [List.getElem?_take_of_lt hj]; simpa using ho⟩
    · rw [Array.getElem?_eq_none (by omega), Array.getElem?_eq_none (by omega)]

end Go.Proofs.YtbffpkmfhkphdaaGreatDoor
