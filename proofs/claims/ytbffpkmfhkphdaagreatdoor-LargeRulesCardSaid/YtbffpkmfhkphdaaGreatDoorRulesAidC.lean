/- What LargeRules' walk asks besides: its calls' contracts, of integers that may be and answers that are not too long. -/
import Derived.Test.YtbffpkmfhkphdaaGreatDoorLPowC
import Derived.Test.YtbffpkmfhkphdaaGreatDoorGX38
import Derived.Test.YtbffpkmfhkphdaaGreatDoorLSqrtC
import Derived.Test.YtbffpkmfhkphdaaGreatDoorLShiftC
import Derived.Test.YtbffpkmfhkphdaaGreatDoorGX41
import Derived.Test.YtbffpkmfhkphdaaGreatDoorGX44
import Derived.Test.YtbffpkmfhkphdaaGreatDoorGX27
import Derived.Test.YtbffpkmfhkphdaaGreatDoorGX43
set_option linter.unusedVariables false
set_option linter.unusedSimpArgs false
namespace Go.Proofs.YtbffpkmfhkphdaaGreatDoor
open Go Go.RowKit Limb

/-- An answer: the integer, and that nothing is wrong. -/
def Got (z : Int) (X X' : World) (e : Ending) : Prop := ∃ b a n c, e = .returned (.tuple #[.agg #[.bool b, .slice a n c], .int .i64 0]) ∧ Hid (ApiV X' (.agg #[.bool b, .slice a n c]) z) ∧ Below X.heap.size X X'
/-- The parts of an integer that may be. -/
theorem ApiV.came {X : World} {v : Value} {x : Int} (h : ApiV X v x) (l : (rep x.natAbs).length ≤ 1024) :
    ∃ b a n c, v = .agg #[.bool b, .slice a n c] ∧ Lay .u32 X a (rep x.natAbs) ∧ Lim (rep x.natAbs) ∧ n = (rep x.natAbs).length ∧ n ≤ 9223372036854775807 ∧ mayB b (rep x.natAbs) = true ∧ x = signed b (val (rep x.natAbs)) ∧ b = decide (x < 0) := by
  obtain ⟨a, c, e, h1, h2⟩ := h
  exact ⟨_, a, _, c, e, h2, rep_lim _, rfl, by omega, mayB_small l, (signed_rep x).symm, rfl⟩

theorem api_gcd (X : World) (v1 v2 : Value) (x y : Int) (h1 : ApiV X v1 x) (h2 : ApiV X v2 y) (l1 : (rep x.natAbs).length ≤ 1024) (l2 : (rep y.natAbs).length ≤ 1024) :
    Calls Tryz.prog 19 #[v1, v2] X fun e X' => Got (Nat.gcd x.natAbs y.natAbs : Nat) X X' e := by
  obtain ⟨b1, a1, n1, c1, rfl, k1, i1, e1, j1, m1, s1, _⟩ := h1.came l1
  obtain ⟨b2, a2, n2, c2, rfl, k2, i2, e2, j2, m2, s2, _⟩ := h2.came l2
  refine (gcd_yes X b1 b2 a1 a2 _ _ n1 n2 c1 c2 k1 k2 i1 i2 e1 e2 j1 j2 (by rw [m1, m2]; rfl)).mono fun e X' he => ?_
  rw [val_rep, val_rep] at he
  refine he.ok ?_
  rw [Int.natAbs_natCast]
  by_cases h0 : x = 0
  · subst h0; rw [Int.natAbs_zero, Nat.gcd_zero_left]; exact l2
  · exact Nat.le_trans (rep_mono (Nat.gcd_le_left _ (by omega))) l1
/-- A quotient that leaves nothing. -/
theorem api_quo0 (X : World) (v1 v2 : Value) (x y : Int) (h1 : ApiV X v1 x) (h2 : ApiV X v2 y) (l1 : (rep x.natAbs).length ≤ 1024) (l2 : (rep y.natAbs).length ≤ 1024) (hy : y ≠ 0) (hd : x.tmod y = 0) :
    Calls Tryz.prog 36 #[v1, v2] X fun e X' => ∃ b a n c b' a' c', e = .returned (.tuple #[.agg #[.bool b, .slice a n c], .agg #[.bool b', .slice a' 0 c'], .int .i64 0]) ∧ Below X.heap.size X X' := by
  obtain ⟨b1, a1, n1, c1, rfl, k1, i1, e1, j1, m1, s1, _⟩ := h1.came l1
  obtain ⟨b2, a2, n2, c2, rfl, k2, i2, e2, j2, m2, s2, _⟩ := h2.came l2
  refine (large_quo X b1 b2 a1 a2 _ _ n1 n2 c1 c2 k1 k2 i1 i2 e1 e2 j1 j2).mono fun e X' he => ?_
  rw [m1, m2, ← s1, ← s2] at he
  obtain ⟨b, a, n, c, b', a', n', c', rfl, h, hb⟩ := DivAnswer.ok he hy
  obtain ⟨_, e5, _, _⟩ := h.out.2.parts
  have e6 : drem false x y = 0 := hd
  rw [e6] at e5
  have e7 : n' = 0 := e5
  subst e7
  exact ⟨b, a, n, c, b', a', c', rfl, hb⟩
theorem api_sqrt (X : World) (v : Value) (x : Int) (h : ApiV X v x) (l : (rep x.natAbs).length ≤ 1024) (hx : 0 ≤ x) :
    Calls Tryz.prog 18 #[v] X fun e X' => Got (rootN x.natAbs : Nat) X X' e := by
  obtain ⟨b1, a1, n1, c1, rfl, k1, i1, e1, j1, m1, s1, hb⟩ := h.came l
  refine (sqrt_yes X b1 a1 _ n1 c1 k1 i1 e1 j1 m1 (by rw [hb]; exact decide_eq_false (by omega))).mono fun e X' he => ?_
  rw [val_rep] at he
  refine he.ok ?_
  rw [Int.natAbs_natCast]
  exact Nat.le_trans (rep_mono (root_le _)) l
theorem api_of (X : World) (x : Int) (h1 : -9223372036854775808 ≤ x) (h2 : x ≤ 9223372036854775807) :
    Calls Tryz.prog 32 #[.int .i64 x] X fun e X' => ∃ b a n c, e = .returned (.agg #[.bool b, .slice a n c]) ∧ Hid (ApiV X' (.agg #[.bool b, .slice a n c]) x) ∧ Below X.heap.size X X' :=
  (large_of X x h1 h2).mono fun e X' he => by
    obtain ⟨u, rfl, hu, hb⟩ := he
    obtain ⟨b, a, m, c, rfl, -⟩ := id hu.open
    exact ⟨b, a, m, c, rfl, Lib.hid hu, hb⟩
theorem api_add (X : World) (v1 v2 : Value) (x y : Int) (h1 : ApiV X v1 x) (h2 : ApiV X v2 y) (l1 : (rep x.natAbs).length ≤ 1024) (l2 : (rep y.natAbs).length ≤ 1024) (l3 : (rep (x + y).natAbs).length ≤ 1024) :
    Calls Tryz.prog 37 #[v1, v2] X fun e X' => Got (x + y) X X' e := by
  obtain ⟨b1, a1, n1, c1, rfl, k1, i1, e1, j1, m1, s1, _⟩ := h1.came l1
  obtain ⟨b2, a2, n2, c2, rfl, k2, i2, e2, j2, m2, s2, _⟩ := h2.came l2
  refine (large_add X b1 b2 a1 a2 _ _ n1 n2 c1 c2 k1 k2 i1 i2 e1 e2 j1 j2).mono fun e X' he => ?_
  rw [m1, m2, ← s1, ← s2] at he
  exact Answer.ok he l3
theorem api_sub (X : World) (v1 v2 : Value) (x y : Int) (h1 : ApiV X v1 x) (h2 : ApiV X v2 y) (l1 : (rep x.natAbs).length ≤ 1024) (l2 : (rep y.natAbs).length ≤ 1024) (l3 : (rep (x - y).natAbs).length ≤ 1024) :
    Calls Tryz.prog 40 #[v1, v2] X fun e X' => Got (x - y) X X' e := by
  obtain ⟨b1, a1, n1, c1, rfl, k1, i1, e1, j1, m1, s1, _⟩ := h1.came l1
  obtain ⟨b2, a2, n2, c2, rfl, k2, i2, e2, j2, m2, s2, _⟩ := h2.came l2
  refine (large_sub X b1 b2 a1 a2 _ _ n1 n2 c1 c2 k1 k2 i1 i2 e1 e2 j1 j2).mono fun e X' he => ?_
  rw [m1, m2, ← s1, ← s2] at he
  exact Answer.ok he l3
theorem api_mul (X : World) (v1 v2 : Value) (x y : Int) (h1 : ApiV X v1 x) (h2 : ApiV X v2 y) (l1 : (rep x.natAbs).length ≤ 1024) (l2 : (rep y.natAbs).length ≤ 1024) (l3 : (rep (x * y).natAbs).length ≤ 1024) :
    Calls Tryz.prog 38 #[v1, v2] X fun e X' => Got (x * y) X X' e := by
  obtain ⟨b1, a1, n1, c1, rfl, k1, i1, e1, j1, m1, s1, _⟩ := h1.came l1
  obtain ⟨b2, a2, n2, c2, rfl, k2, i2, e2, j2, m2, s2, _⟩ := h2.came l2
  refine (large_mul X b1 b2 a1 a2 _ _ n1 n2 c1 c2 k1 k2 i1 i2 e1 e2 j1 j2).mono fun e X' he => ?_
  rw [m1, m2, ← s1, ← s2] at he
  exact Answer.ok he l3
theorem api_cmp (X : World) (v1 v2 : Value) (x y d : Int) (h1 : ApiV X v1 x) (h2 : ApiV X v2 y) (l1 : (rep x.natAbs).length ≤ 1024) (l2 : (rep y.natAbs).length ≤ 1024) (hd : d = cmpZ x y) :
    Calls Tryz.prog 39 #[v1, v2] X fun e X' => e = .returned (.tuple #[.int .i64 d, .int .i64 0]) ∧ Below X.heap.size X X' := by
  obtain ⟨b1, a1, n1, c1, rfl, k1, i1, e1, j1, m1, s1, _⟩ := h1.came l1
  obtain ⟨b2, a2, n2, c2, rfl, k2, i2, e2, j2, m2, s2, _⟩ := h2.came l2
  refine (large_compare X b1 b2 a1 a2 _ _ n1 n2 c1 c2 k1 k2 i1 i2 e1 e2 j1 j2).mono fun e X' he => ?_
  rw [m1, m2, ← s1, ← s2] at he
  rw [hd]
  exact he
theorem shiftZ_nought (n : Int) : shiftZ 0 n = 0 := by unfold shiftZ; split <;> simp
theorem api_shift (X : World) (v : Value) (x n : Int) (h : ApiV X v x) (l : (rep x.natAbs).length ≤ 1024) (hn1 : -32768 ≤ n) (hn2 : n ≤ 32768) (l3 : (rep (shiftZ x n).natAbs).length ≤ 1024) :
    Calls Tryz.prog 9 #[v, .int .i64 n] X fun e X' => Got (shiftZ x n) X X' e := by
  obtain ⟨b1, a1, n1, c1, rfl, k1, i1, e1, j1, m1, s1, _⟩ := h.came l
  by_cases h0 : x = 0
  · refine (shift_zero X b1 a1 _ n1 c1 n x k1 i1 e1 j1 m1 s1 (by omega) (by omega) h0).mono fun e X' he => ?_
    rw [h0, shiftZ_nought]
    exact he.ok (by decide)
  · by_cases hn0 : 0 ≤ n
    · exact (shift_up X b1 a1 _ n1 c1 n x k1 i1 e1 j1 m1 s1 (by omega) (by omega) h0 hn0 hn2).mono fun e X' he => he.ok l3
    · exact (shift_down X b1 a1 _ n1 c1 n x k1 i1 e1 j1 m1 s1 (by omega) (by omega) h0 (by omega) hn1).mono fun e X' he => he.ok l3
theorem pow2_len {k : Nat} (h : k ≤ 3000) : (rep ((2 : Int) ^ k).natAbs).length ≤ 94 := by
  obtain ⟨c, hc⟩ : ∃ c, c = 94 := ⟨_, rfl⟩
  rw [Int.natAbs_pow, ← hc]
  refine rep_length_le.2 ?_
  rw [W_two]
  exact Nat.pow_lt_pow_right (by decide) (by omega)
theorem api_pow2 (X : World) (v : Value) (k : Nat) (h : ApiV X v 2) (hk : k ≤ 3000) :
    Calls Tryz.prog 17 #[v, .int .i64 k] X fun e X' => Got ((2 : Int) ^ k) X X' e := by
  obtain ⟨b1, a1, n1, c1, rfl, k1, i1, e1, j1, m1, s1, _⟩ := h.came (by decide)
  by_cases h0 : k = 0
  · subst h0
    exact (pow_zero X b1 a1 _ n1 c1 (0 : Nat) 2 k1 i1 e1 j1 m1 s1 (by decide) (by decide) rfl).mono fun e X' he => he.ok (by decide)
  · have hb : bitsN ((2 : Int).natAbs) = 2 := by decide
    exact (large_pow_big X b1 a1 _ n1 c1 k 2 k1 i1 e1 m1 s1 (by decide) (by omega) (by omega) (by rw [hb]; omega)).mono fun e X' he => he.ok (Nat.le_trans (pow2_len hk) (by decide))
theorem api_bits (X : World) (v1 v2 : Value) (x y : Int) (op N : Nat) (h1 : ApiV X v1 x) (h2 : ApiV X v2 y) (l1 : (rep x.natAbs).length ≤ 1022) (l2 : (rep y.natAbs).length ≤ 1022) (ho : op = 1 ∨ op = 2 ∨ op = 3) (hN : N = max (rep x.natAbs).length (rep y.natAbs).length + 1) :
    Calls Tryz.prog 10 #[.int .i64 op, v1, v2] X fun e X' => Got (bitsZ op N x y) X X' e := by
  obtain ⟨b1, a1, n1, c1, rfl, k1, i1, e1, j1, m1, s1, _⟩ := h1.came (by omega)
  obtain ⟨b2, a2, n2, c2, rfl, k2, i2, e2, j2, m2, s2, _⟩ := h2.came (by omega)
  obtain ⟨g, hj⟩ : ∃ g, Joins op op g := by
    rcases ho with rfl | rfl | rfl
    · exact ⟨_, .inl ⟨rfl, rfl, rfl⟩⟩
    · exact ⟨_, .inr (.inl ⟨rfl, rfl, rfl⟩)⟩
    · exact ⟨_, .inr (.inr ⟨rfl, rfl, rfl⟩)⟩
  refine (bits_yes X op b1 b2 a1 a2 _ _ n1 n2 c1 c2 k1 k2 i1 i2 e1 e2 j1 j2 (by rw [m1, m2]; rfl) op g hj x y s1 s2 _ rfl).mono fun e X' he => ?_
  rw [e1, e2, ← hN] at he
  exact he.ok (Nat.le_trans (bits_len_law op N x y) (by omega))
theorem api_print (X : World) (v : Value) (x : Int) (b : Nat) (S : ByteArray) (h : ApiV X v x) (l : (rep x.natAbs).length ≤ 1024) (h2 : 2 ≤ b) (h36 : b ≤ 36) (hS : S = ⟨(utxt b x).toArray⟩) :
    Calls Tryz.prog 29 #[v, .int .i64 b] X fun e X' => e = .returned (.tuple #[.string S, .int .i64 0]) ∧ Below X.heap.size X X' := by
  obtain ⟨b1, a1, n1, c1, rfl, k1, i1, e1, j1, m1, s1, _⟩ := h.came l
  refine (large_print_ok X b1 a1 _ n1 c1 b k1 i1 e1 m1 h2 h36).mono ?_
  rintro e X' ⟨⟨s, rfl, hs⟩, hb⟩
  rw [← s1] at hs
  rw [hS, ← str_eq hs]
  exact ⟨rfl, hb⟩
/-- What was printed is parsed. -/
theorem api_parse (X : World) (x : Int) (b : Nat) (S : ByteArray) (l : (rep x.natAbs).length ≤ 1024) (h2 : 2 ≤ b) (h36 : b ≤ 36) (hS : S = ⟨(utxt b x).toArray⟩) :
    Calls Tryz.prog 30 #[.string S, .int .i64 b] X fun e X' => Got x X X' e := by
  have hsz := utxt_size h2 h36 x l hS
  obtain ⟨p1, p2⟩ := print_parse h2 h36 x hS
  refine (parse_ok X S b h2 h36 (by omega) p1).mono fun e X' he => ?_
  rw [p2] at he
  exact he.ok l
theorem same_api (X : World) (b b' : Bool) (a a' : Option Addr) (n n' c c' : Nat) (z : Int) (h : ApiV X (.agg #[.bool b, .slice a n c]) z) (h' : ApiV X (.agg #[.bool b', .slice a' n' c']) z) (hl : (rep z.natAbs).length ≤ 9223372036854775807) :
    Calls Tryz.prog 15 #[.agg #[.bool b, .slice a n c], .agg #[.bool b', .slice a' n' c']] X fun e X' => e = .returned (.bool true) ∧ Below X.heap.size X X' := by
  obtain ⟨e1, e2, e3, e4⟩ := h.parts
  obtain ⟨f1, f2, f3, f4⟩ := h'.parts
  obtain rfl : b' = b := f1.trans e1.symm
  obtain rfl : n' = n := f2.trans e2.symm
  exact law_same X b' a a' _ n' c c' e4 f4 e2 (by omega)
theorem since_may {W X : World} {b : Bool} {a : Option Addr} {l : List Nat} {n c : Nat} (h1 : Came W b a n l) (h : Below W.heap.size W X) :
    Calls Tryz.prog 12 #[.agg #[.bool b, .slice a n c]] X fun e X' => e = .returned (.bool (mayB b l)) ∧ Below X.heap.size X X' :=
  ref_May X b a l n c (h1.1.below h) h1.2.1 h1.2.2.1 h1.2.2.2

/-- A new variable holds an integer, and an answer's number is 0. -/
def BoxR (U : World) (z : Int) (s k : Value) (X : World) : Prop :=
  ∃ g b a n c, s = .pointer (some ⟨g, 0, none⟩) ∧ k = .int .i64 0 ∧ U.heap.size ≤ g ∧ Row X g 24 [.bool b, .slice a n c] ∧ ApiV X (.agg #[.bool b, .slice a n c]) z ∧ Below U.heap.size U X
theorem boxR_store {U X : World} {g : Nat} {b0 : Bool} {a0 : Option Addr} {n0 k0 : Nat} {b : Bool} {a : Option Addr} {n c : Nat} {z : Int} (hr : Row X g 24 [.bool b0, .slice a0 n0 k0]) (hg : U.heap.size ≤ g) (h : ApiV X (.agg #[.bool b, .slice a n c]) z) (hX : Below U.heap.size U X) :
    BoxR U z (.pointer (some ⟨g, 0, none⟩)) (.int .i64 0) ((X.setCell ⟨g, 0, none⟩ (.bool b)).setCell ⟨g, 1, none⟩ (.slice a n c)) :=
  ⟨g, b, a, n, c, rfl, rfl, hg, (hr.store_any 0 _).store_any 1 _, ApiV.to h (fun _ _ hl => hl.pair hr _ _), below_store (below_store hX hg _) hg _⟩
theorem len_sum {x y : Int} {c : Nat} (hx : (rep x.natAbs).length ≤ c) (hy : (rep y.natAbs).length ≤ c) : (rep (x + y).natAbs).length ≤ c + 1 := by
  refine rep_length_le.2 ?_
  have h1 := rep_length_le.1 hx
  have h2 := rep_length_le.1 hy
  have h3 := W_succ c
  have := Int.natAbs_add_le x y
  omega
theorem len_mul {x y : Int} {c d : Nat} (hx : (rep x.natAbs).length ≤ c) (hy : (rep y.natAbs).length ≤ d) : (rep (x * y).natAbs).length ≤ c + d := by
  refine rep_length_le.2 ?_
  rw [Int.natAbs_mul, W_add]
  exact Nat.mul_lt_mul'' (rep_length_le.1 hx) (rep_length_le.1 hy)
theorem root_law {x : Int} (hx : 0 ≤ x) : cmpZ (((rootN x.natAbs : Nat) : Int) * (rootN x.natAbs : Nat)) x ≤ 0 ∧ cmpZ x ((((rootN x.natAbs : Nat) : Int) + 1) * (((rootN x.natAbs : Nat) : Int) + 1)) = -1 := by
  obtain ⟨h1, h2⟩ := rootN_is x.natAbs
  generalize rootN x.natAbs = R at *
  have e1 : ((R : Nat) : Int) * (R : Nat) ≤ x := by rw [← Int.natCast_mul]; omega
  have e2 : x < ((R : Int) + 1) * ((R : Int) + 1) := by
    have : ((R : Int) + 1) * ((R : Int) + 1) = (((R + 1) * (R + 1) : Nat) : Int) := by rw [Int.natCast_mul, Int.natCast_add]; rfl
    rw [this]; omega
  unfold cmpZ
  constructor
  · split
    · decide
    · rw [if_pos (by omega)]; decide
  · rw [if_pos e2]
theorem shift_up_eq (x : Int) (k : Nat) : shiftZ x (k : Int) = x * 2 ^ k := by unfold shiftZ; rw [if_pos (by omega), Int.toNat_natCast]
theorem shift_down_eq (x : Int) (k : Nat) : shiftZ (x * 2 ^ k) (-(k : Int)) = x := by
  unfold shiftZ
  by_cases h0 : k = 0
  · subst h0; simp
  · rw [if_neg (by omega), Int.neg_neg, Int.toNat_natCast]
    exact Int.mul_ediv_cancel _ (Int.ne_of_gt (Int.pow_pos (by decide)))
theorem gcd_tmod (x y : Int) : x.tmod ((Nat.gcd x.natAbs y.natAbs : Nat) : Int) = 0 ∧ y.tmod ((Nat.gcd x.natAbs y.natAbs : Nat) : Int) = 0 := by
  refine ⟨Int.tmod_eq_zero_of_dvd ?_, Int.tmod_eq_zero_of_dvd ?_⟩
  · rw [Int.ofNat_dvd_left]; exact Nat.gcd_dvd_left _ _
  · rw [Int.ofNat_dvd_left]; exact Nat.gcd_dvd_right _ _

end Go.Proofs.YtbffpkmfhkphdaaGreatDoor
