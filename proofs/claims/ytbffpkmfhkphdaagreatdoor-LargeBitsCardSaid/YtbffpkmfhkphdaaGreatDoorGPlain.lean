/- Plain arithmetic of numbers written in words of 32 bits, the lowest ahead. Plain arithmetic of one step of a long division (Knuth's D3 to D6), by numbers. Two's complement in words of 32 bits: plain. Plain arithmetic of one step of a long division, on words. Plain arithmetic of shifts. Plain arithmetic: how many bits a number has. Plain arithmetic of a long division, on words. Plain arithmetic of bytes and words. Plain arithmetic: how many words sums and products have. The digits of a number to a base, and a list turned around by exchanges. Plain arithmetic of a quotient that is made bit by bit. -/
import Derived.Laws.BitsAllLaws
import Derived.Lib.BitFns
import Derived.Handy
namespace Go.Proofs.YtbffpkmfhkphdaaGreatDoor.Limb

def val : List Nat → Nat
  | [] => 0
  | d :: t => d + 4294967296 * val t

def W (k : Nat) : Nat := 4294967296 ^ k

theorem W_zero : W 0 = 1 := rfl
theorem W_succ (k : Nat) : W (k + 1) = 4294967296 * W k := by unfold W; rw [Nat.pow_succ]; omega
theorem W_one : W 1 = 4294967296 := by decide
theorem W_pos (k : Nat) : 0 < W k := by unfold W; exact Nat.pow_pos (by decide)
theorem W_add (a b : Nat) : W (a + b) = W a * W b := by unfold W; rw [Nat.pow_add]
theorem W_two (k : Nat) : W k = 2 ^ (32 * k) := by
  unfold W; rw [Nat.pow_mul]
theorem W_mono {a b : Nat} (h : a ≤ b) : W a ≤ W b := by
  unfold W; exact Nat.pow_le_pow_right (by decide) h
theorem W_lt {a b : Nat} (h : a < b) : W a < W b := by
  unfold W; exact Nat.pow_lt_pow_right (by decide) h

/-- A word of a list; 0 beyond its end. -/
def wd (l : List Nat) (i : Nat) : Nat := l.getD i 0
theorem wd_lt {l : List Nat} {i : Nat} (h : i < l.length) : wd l i = l[i] := by
  unfold wd; rw [List.getD_eq_getElem?_getD, List.getElem?_eq_getElem h]; rfl
theorem wd_ge {l : List Nat} {i : Nat} (h : l.length ≤ i) : wd l i = 0 := by
  unfold wd; rw [List.getD_eq_getElem?_getD, List.getElem?_eq_none h]; rfl
theorem wd_take {l : List Nat} {i k : Nat} (h : i < k) : wd (l.take k) i = wd l i := by
  unfold wd; simp only [List.getD_eq_getElem?_getD]; rw [List.getElem?_take_of_lt h]
theorem wd_drop (l : List Nat) (i k : Nat) : wd (l.drop k) i = wd l (k + i) := by
  unfold wd; simp [List.getD_eq_getElem?_getD]
theorem wd_set {l : List Nat} {i d : Nat} (h : i < l.length) (j : Nat) : wd (l.set i d) j = if j = i then d else wd l j := by
  unfold wd
  simp only [List.getD_eq_getElem?_getD, List.getElem?_set]
  by_cases hj : j = i
  · subst hj; simp [h]
  · rw [if_neg (by omega), if_neg hj]
theorem wd_append_lt {a b : List Nat} {i : Nat} (h : i < a.length) : wd (a ++ b) i = wd a i := by
  unfold wd; simp only [List.getD_eq_getElem?_getD]; rw [List.getElem?_append_left h]
theorem wd_append_ge {a b : List Nat} {i : Nat} (h : a.length ≤ i) : wd (a ++ b) i = wd b (i - a.length) := by
  unfold wd; simp only [List.getD_eq_getElem?_getD]; rw [List.getElem?_append_right h]
theorem wd_replicate (n i : Nat) : wd (List.replicate n 0) i = 0 := by
  unfold wd; simp [List.getD_eq_getElem?_getD, List.getElem?_replicate]; split <;> rfl
theorem take_wd {l : List Nat} {k : Nat} (h : k < l.length) : l.take (k + 1) = l.take k ++ [wd l k] := by
  rw [List.take_succ_eq_append_getElem h, wd_lt h]
theorem ext_wd {a b : List Nat} (h : a.length = b.length) (hw : ∀ i, i < a.length → wd a i = wd b i) : a = b := by
  apply List.ext_getElem h
  intro i h1 h2
  have := hw i h1; rwa [wd_lt h1, wd_lt h2] at this

def Lim (l : List Nat) : Prop := ∀ x ∈ l, x < 4294967296

theorem Lim.nil : Lim [] := by intro x h; cases h
theorem Lim.cons {d : Nat} {t : List Nat} (h : d < 4294967296) (ht : Lim t) : Lim (d :: t) := by
  intro x hx; cases hx with
  | head => exact h
  | tail _ hx => exact ht x hx
theorem Lim.head {d : Nat} {t : List Nat} (h : Lim (d :: t)) : d < 4294967296 := h d (by simp)
theorem Lim.tail {d : Nat} {t : List Nat} (h : Lim (d :: t)) : Lim t := fun x hx => h x (by simp [hx])
theorem Lim.append {a b : List Nat} (ha : Lim a) (hb : Lim b) : Lim (a ++ b) := by
  intro x hx; rcases List.mem_append.1 hx with h | h
  · exact ha x h
  · exact hb x h
theorem Lim.left {a b : List Nat} (h : Lim (a ++ b)) : Lim a := fun x hx => h x (by simp [hx])
theorem Lim.right {a b : List Nat} (h : Lim (a ++ b)) : Lim b := fun x hx => h x (by simp [hx])
theorem Lim.take {l : List Nat} (h : Lim l) (k : Nat) : Lim (l.take k) := fun x hx => h x (List.mem_of_mem_take hx)
theorem Lim.drop {l : List Nat} (h : Lim l) (k : Nat) : Lim (l.drop k) := fun x hx => h x (List.mem_of_mem_drop hx)
theorem Lim.set {l : List Nat} (h : Lim l) {i d : Nat} (hd : d < 4294967296) : Lim (l.set i d) := by
  intro x hx; rcases List.mem_or_eq_of_mem_set hx with h' | h'
  · exact h x h'
  · rw [h']; exact hd
theorem Lim.wd {l : List Nat} (h : Lim l) (i : Nat) : wd l i < 4294967296 := by
  unfold Limb.wd
  rw [List.getD_eq_getElem?_getD]
  cases hx : l[i]? with
  | none => simp
  | some x => simp only [Option.getD_some]; exact h x (List.mem_of_getElem? hx)
theorem Lim.replicate (n : Nat) {d : Nat} (h : d < 4294967296) : Lim (List.replicate n d) := by
  intro x hx; rw [(List.mem_replicate.1 hx).2]; exact h

theorem val_append (a b : List Nat) : val (a ++ b) = val a + W a.length * val b := by
  induction a with
  | nil => simp [val, W_zero]
  | cons d t ih =>
    simp only [List.cons_append, val, ih, List.length_cons, W_succ]
    rw [Nat.mul_add, Nat.mul_assoc]; omega

theorem val_lt {l : List Nat} (h : Lim l) : val l < W l.length := by
  induction l with
  | nil => simp [val, W_zero]
  | cons d t ih =>
    have h1 := ih h.tail
    have h2 := h.head
    simp only [val, List.length_cons, W_succ]; omega

theorem val_replicate (n : Nat) : val (List.replicate n 0) = 0 := by
  induction n with
  | zero => rfl
  | succ n ih => simp [List.replicate_succ, val, ih]

theorem val_snoc (l : List Nat) (d : Nat) : val (l ++ [d]) = val l + W l.length * d := by
  rw [val_append]; simp [val]

theorem val_take_drop (l : List Nat) (k : Nat) (hk : k ≤ l.length) : val l = val (l.take k) + W k * val (l.drop k) := by
  have h := val_append (l.take k) (l.drop k)
  rw [List.take_append_drop, List.length_take, Nat.min_eq_left hk] at h
  exact h

theorem val_take {l : List Nat} (h : Lim l) (k : Nat) : val (l.take k) = val l % W k := by
  by_cases hk : k ≤ l.length
  · rw [val_take_drop l k hk, Nat.add_mul_mod_self_left, Nat.mod_eq_of_lt]
    have := val_lt (h.take k); rwa [List.length_take, Nat.min_eq_left hk] at this
  · rw [List.take_of_length_le (by omega), Nat.mod_eq_of_lt]
    exact Nat.lt_of_lt_of_le (val_lt h) (W_mono (by omega))

theorem val_drop {l : List Nat} (h : Lim l) (k : Nat) : val (l.drop k) = val l / W k := by
  by_cases hk : k ≤ l.length
  · rw [val_take_drop l k hk, Nat.add_mul_div_left _ _ (W_pos k), Nat.div_eq_of_lt, Nat.zero_add]
    have := val_lt (h.take k); rwa [List.length_take, Nat.min_eq_left hk] at this
  · rw [List.drop_of_length_le (by omega), Nat.div_eq_of_lt]; · rfl
    exact Nat.lt_of_lt_of_le (val_lt h) (W_mono (by omega))

theorem wd_val {l : List Nat} (h : Lim l) (i : Nat) : wd l i = val l / W i % 4294967296 := by
  unfold wd
  induction l generalizing i with
  | nil => simp [val]
  | cons d t ih =>
    have hd := h.head
    cases i with
    | zero => simp [val, W_zero]; omega
    | succ i =>
      rw [List.getD_cons_succ, ih h.tail, val, W_succ, ← Nat.div_div_eq_div_mul]
      congr 2; omega

/-- A number in words, without noughts at the end. -/
def repF : Nat → Nat → List Nat
  | 0, _ => []
  | f + 1, n => if n = 0 then [] else n % 4294967296 :: repF f (n / 4294967296)
def rep (n : Nat) : List Nat := repF n n

theorem repF_enough (f g n : Nat) (hf : n ≤ f) (hg : n ≤ g) : repF f n = repF g n := by
  induction f generalizing g n with
  | zero =>
    have : n = 0 := by omega
    subst this
    cases g <;> simp [repF]
  | succ f ih =>
    by_cases h0 : n = 0
    · subst h0; cases g <;> simp [repF]
    · cases g with
      | zero => omega
      | succ g =>
        simp only [repF, if_neg h0]
        rw [ih g (n / 4294967296) (by omega) (by omega)]

theorem rep_zero : rep 0 = [] := rfl
theorem rep_pos {n : Nat} (h : n ≠ 0) : rep n = n % 4294967296 :: rep (n / 4294967296) := by
  unfold rep
  cases n with
  | zero => exact absurd rfl h
  | succ n =>
    rw [show repF (n + 1) (n + 1) = (n + 1) % 4294967296 :: repF n ((n + 1) / 4294967296) from by simp [repF]]
    rw [repF_enough n _ _ (by omega) (Nat.le_refl _)]

theorem rep_ind {p : Nat → Prop} (h0 : p 0) (h1 : ∀ n, n ≠ 0 → p (n / 4294967296) → p n) (n : Nat) : p n := by
  induction n using Nat.strongRecOn with
  | ind n ih =>
    by_cases h : n = 0
    · rw [h]; exact h0
    · exact h1 n h (ih _ (by omega))

theorem val_rep (n : Nat) : val (rep n) = n := by
  induction n using rep_ind with
  | h0 => rfl
  | h1 n h ih => rw [rep_pos h, val, ih]; omega

theorem rep_lim (n : Nat) : Lim (rep n) := by
  induction n using rep_ind with
  | h0 => exact Lim.nil
  | h1 n h ih => rw [rep_pos h]; exact Lim.cons (Nat.mod_lt _ (by decide)) ih

/-- No nought at the end. -/
def Norm (l : List Nat) : Prop := l.getLast? ≠ some 0

theorem rep_norm (n : Nat) : Norm (rep n) := by
  induction n using rep_ind with
  | h0 => simp [Norm, rep_zero]
  | h1 n h ih =>
    rw [rep_pos h]
    unfold Norm at *
    rw [List.getLast?_cons]
    cases hl : (rep (n / 4294967296)).getLast? with
    | none =>
      have : rep (n / 4294967296) = [] := by simpa using hl
      have hv := val_rep (n / 4294967296)
      rw [this] at hv; simp [val] at hv
      simp; omega
    | some x => rw [hl] at ih; simpa using ih

theorem rep_val {l : List Nat} (h : Lim l) (hn : Norm l) : rep (val l) = l := by
  induction l with
  | nil => rfl
  | cons d t ih =>
    have hd := h.head
    have hne : val (d :: t) ≠ 0 := by
      intro e
      simp only [val] at e
      have hd0 : d = 0 := by omega
      have ht0 : val t = 0 := by omega
      cases t with
      | nil => subst hd0; simp [Norm] at hn
      | cons d' t' =>
        have ih' := ih h.tail (by simpa [Norm, List.getLast?_cons] using hn)
        rw [ht0, rep_zero] at ih'; simp at ih'
    rw [rep_pos hne]
    have e1 : val (d :: t) % 4294967296 = d := by simp only [val]; omega
    have e2 : val (d :: t) / 4294967296 = val t := by simp only [val]; omega
    rw [e1, e2]
    cases t with
    | nil => rfl
    | cons d' t' => rw [ih h.tail (by simpa [Norm, List.getLast?_cons] using hn)]

theorem rep_length_le {n k : Nat} : (rep n).length ≤ k ↔ n < W k := by
  induction n using rep_ind generalizing k with
  | h0 => simp [rep_zero, W_pos]
  | h1 n h ih =>
    rw [rep_pos h, List.length_cons]
    cases k with
    | zero => simp [W_zero]; omega
    | succ k =>
      rw [Nat.add_le_add_iff_right, ih, W_succ]
      omega

theorem rep_length_lt {n k : Nat} : k < (rep n).length ↔ W k ≤ n := by
  have := @rep_length_le n k; omega

theorem rep_len_lo {n : Nat} (h : n ≠ 0) : W ((rep n).length - 1) ≤ n := by
  have : (rep n).length ≠ 0 := by rw [rep_pos h]; simp
  exact rep_length_lt.1 (by omega)
theorem rep_len_hi (n : Nat) : n < W (rep n).length := rep_length_le.1 (Nat.le_refl _)

theorem rep_mono {m n : Nat} (h : m ≤ n) : (rep m).length ≤ (rep n).length :=
  rep_length_le.2 (Nat.lt_of_le_of_lt h (rep_len_hi n))

theorem rep_wd (n i : Nat) : wd (rep n) i = n / W i % 4294967296 := by
  rw [wd_val (rep_lim n), val_rep]

theorem rep_inj {m n : Nat} (h : rep m = rep n) : m = n := by
  have := congrArg val h; rwa [val_rep, val_rep] at this

theorem rep_nil {n : Nat} : rep n = [] ↔ n = 0 := by
  constructor
  · intro h; exact rep_inj h
  · intro h; rw [h]; rfl

theorem rep_length_zero {n : Nat} : (rep n).length = 0 ↔ n = 0 := by
  rw [List.length_eq_zero_iff, rep_nil]

/-- What 'norm' keeps: the part ahead of the noughts at the end. -/
theorem rep_prefix {l : List Nat} (h : Lim l) : rep (val l) = l.take (rep (val l)).length := by
  have hle : (rep (val l)).length ≤ l.length := rep_length_le.2 (val_lt h)
  have hd : val (l.drop (rep (val l)).length) = 0 := by
    rw [val_drop h]; exact Nat.div_eq_of_lt (rep_len_hi _)
  have hv : val (l.take (rep (val l)).length) = val l := by
    have := val_take_drop l _ hle; rw [hd] at this; omega
  apply ext_wd
  · rw [List.length_take, Nat.min_eq_left hle]
  · intro i h1
    rw [rep_wd, wd_take h1, wd_val h]

theorem val_snoc_wd {l : List Nat} {k : Nat} (h : k < l.length) : val (l.take (k + 1)) = val (l.take k) + W k * wd l k := by
  rw [take_wd h, val_snoc, List.length_take, Nat.min_eq_left (by omega)]

theorem take_set_self (l : List Nat) (k d : Nat) : (l.set k d).take k = l.take k := by
  rw [List.take_set, List.set_eq_of_length_le (by simp; omega)]
theorem take_set_gt (l : List Nat) {j k : Nat} (d : Nat) (h : j ≤ k) : (l.set k d).take j = l.take j := by
  rw [List.take_set, List.set_eq_of_length_le (by simp; omega)]
theorem val_set_take {l : List Nat} {k : Nat} (d : Nat) (h : k < l.length) : val ((l.set k d).take (k + 1)) = val (l.take k) + W k * d := by
  rw [val_snoc_wd (by rw [List.length_set]; exact h), take_set_self, wd_set h, if_pos rfl]
theorem val_set_end {l : List Nat} {k : Nat} (d : Nat) (h : l.length = k + 1) : val (l.set k d) = val (l.take k) + W k * d := by
  rw [← val_set_take d (by omega), List.take_of_length_le (by rw [List.length_set]; omega)]
/-- The words ahead, one more of them, beyond the end too. -/
theorem val_take_succ (l : List Nat) (k : Nat) : val (l.take (k + 1)) = val (l.take k) + W k * wd l k := by
  by_cases hl : k < l.length
  · exact val_snoc_wd hl
  · rw [List.take_of_length_le (by omega), List.take_of_length_le (by omega), wd_ge (by omega)]; simp
theorem rep_val_le {l : List Nat} (h : Lim l) : (rep (val l)).length ≤ l.length := rep_length_le.2 (val_lt h)

end Go.Proofs.YtbffpkmfhkphdaaGreatDoor.Limb

namespace Go.Proofs.YtbffpkmfhkphdaaGreatDoor.Limb

/-- What the guess keeps: q = U / V is at most the guess. T: the two highest words of U, v1: the highest of V. -/
theorem guess_ge {U V T v1 R : Nat} (hR : 0 < R) (hU : U < (T + 1) * R) (hV : v1 * R ≤ V) (hv : 0 < v1) : U / V ≤ T / v1 := by
  have hVp : 0 < V := Nat.lt_of_lt_of_le (Nat.mul_pos hv hR) hV
  rw [Nat.le_div_iff_mul_le hv]
  have h1 : U / V * V ≤ U := Nat.div_mul_le_self _ _
  have h2 : U / V * v1 * R ≤ U := by
    rw [Nat.mul_assoc]; exact Nat.le_trans (Nat.mul_le_mul_left _ hV) h1
  have h3 : U / V * v1 * R < (T + 1) * R := Nat.lt_of_le_of_lt h2 hU
  have := Nat.lt_of_mul_lt_mul_right h3
  omega

/-- The test on the third word: a guess that fails it is too great. -/
theorem guess_high {U V q g v1 v2 r T u2 R : Nat} (hU : U < (T * 4294967296 + u2 + 1) * R) (hV : (v1 * 4294967296 + v2) * R ≤ V)
    (hT : g * v1 + r = T) (ht : r * 4294967296 + u2 < g * v2) (hq : q = U / V) : q < g := by
  rcases Nat.lt_or_ge q g with h | h
  · exact h
  · exfalso
    have h1 : g * V ≤ U := Nat.le_trans (Nat.mul_le_mul_right V h) (by rw [hq]; exact Nat.div_mul_le_self _ _)
    have h2 : g * (v1 * 4294967296 + v2) * R ≤ U := by rw [Nat.mul_assoc]; exact Nat.le_trans (Nat.mul_le_mul_left _ hV) h1
    have h3 := Nat.lt_of_mul_lt_mul_right (Nat.lt_of_le_of_lt h2 hU)
    rw [Nat.mul_add, ← Nat.mul_assoc] at h3
    have : g * v1 * 4294967296 + r * 4294967296 = T * 4294967296 := by rw [← Nat.add_mul, hT]
    omega

/-- A guess that passes the test is at most one too great. -/
theorem guess_near {U V g v1 v2 r T u2 R : Nat} (hU : (T * 4294967296 + u2) * R ≤ U) (hVl : (v1 * 4294967296 + v2) * R ≤ V) (hV : V < (v1 * 4294967296 + v2 + 1) * R)
    (hT : g * v1 + r = T) (ht : g * v2 ≤ r * 4294967296 + u2) (hg : g < 4294967296) (hv : 2147483648 ≤ v1) (hR : 0 < R) : g ≤ U / V + 1 := by
  have hVp : 0 < V := Nat.lt_of_lt_of_le (Nat.mul_pos (by omega) hR) hVl
  have h1 : g * (v1 * 4294967296 + v2) ≤ T * 4294967296 + u2 := by
    rw [Nat.mul_add, ← Nat.mul_assoc]
    have : g * v1 * 4294967296 + r * 4294967296 = T * 4294967296 := by rw [← Nat.add_mul, hT]
    omega
  have h2 : g * ((v1 * 4294967296 + v2) * R) ≤ U := by
    rw [← Nat.mul_assoc]; exact Nat.le_trans (Nat.mul_le_mul_right R h1) hU
  have h3 : g * V ≤ U + g * R := by
    have : g * V ≤ g * ((v1 * 4294967296 + v2 + 1) * R) := Nat.mul_le_mul_left g (Nat.le_of_lt hV)
    have e : g * ((v1 * 4294967296 + v2 + 1) * R) = g * ((v1 * 4294967296 + v2) * R) + g * R := by
      rw [Nat.add_mul _ 1 R, Nat.mul_add, Nat.one_mul]
    omega
  have h4 : g * R ≤ V := by
    refine Nat.le_trans (Nat.mul_le_mul_right R ?_) hVl
    have : 2147483648 * 4294967296 ≤ v1 * 4294967296 := Nat.mul_le_mul_right _ hv
    omega
  cases g with
  | zero => exact Nat.zero_le _
  | succ g =>
    rw [Nat.add_le_add_iff_right, Nat.le_div_iff_mul_le hVp]
    have : (g + 1) * V = g * V + V := by rw [Nat.add_mul, Nat.one_mul]
    omega

/-- The highest word of U is at most the divisor's. -/
theorem top_le {U V u0 lo v1 R : Nat} (hU : u0 * (4294967296 * R) + lo = U) (hlt : U < V * 4294967296) (hV : V < (v1 + 1) * R) : u0 ≤ v1 := by
  have h1 : u0 * (4294967296 * R) ≤ U := by omega
  have h2 : U < (v1 + 1) * R * 4294967296 := Nat.lt_of_lt_of_le hlt (Nat.mul_le_mul_right _ (Nat.le_of_lt hV))
  have h3 : u0 * (4294967296 * R) < (v1 + 1) * (4294967296 * R) := by
    have : (v1 + 1) * R * 4294967296 = (v1 + 1) * (4294967296 * R) := by rw [Nat.mul_assoc, Nat.mul_comm R]
    omega
  have := Nat.lt_of_mul_lt_mul_right h3
  omega

/-- The guess that leaves a rest of a word or more is below a word. -/
theorem guess_small {g v1 r T u0 u1 : Nat} (hT : g * v1 + r = T) (hTd : T = u0 * 4294967296 + u1) (hu : u0 ≤ v1) (h1 : u1 < 4294967296) (hr : 4294967296 ≤ r) : g < 4294967296 := by
  rcases Nat.lt_or_ge g 4294967296 with h | h
  · exact h
  · exfalso
    have h2 : 4294967296 * v1 ≤ g * v1 := Nat.mul_le_mul_right _ h
    have h3 : u0 * 4294967296 ≤ v1 * 4294967296 := Nat.mul_le_mul_right _ hu
    omega

end Go.Proofs.YtbffpkmfhkphdaaGreatDoor.Limb

namespace Go.Proofs.YtbffpkmfhkphdaaGreatDoor.Limb

/-- The first n words of a number. -/
def dg : Nat → Nat → List Nat
  | 0, _ => []
  | n + 1, N => N % 4294967296 :: dg n (N / 4294967296)
theorem dg_length (n N : Nat) : (dg n N).length = n := by
  induction n generalizing N with
  | zero => rfl
  | succ n ih => simp [dg, ih]
theorem dg_lim (n N : Nat) : Lim (dg n N) := by
  induction n generalizing N with
  | zero => exact Lim.nil
  | succ n ih => exact Lim.cons (Nat.mod_lt _ (by decide)) (ih _)
theorem val_dg (n N : Nat) (h : N < W n) : val (dg n N) = N := by
  induction n generalizing N with
  | zero => rw [W_zero] at h; simp [dg, val]; omega
  | succ n ih =>
    rw [W_succ] at h
    simp only [dg, val]
    rw [ih _ (by omega)]; omega
theorem dg_of {l : List Nat} (h : Lim l) {n : Nat} (hn : l.length = n) : l = dg n (val l) := by
  subst hn
  refine ext_wd (by rw [dg_length]) fun i hi => ?_
  rw [wd_val h, wd_val (dg_lim _ _), val_dg _ _ (val_lt h)]

/-- The first n words of a whole number's two's complement. -/
def two (n : Nat) (z : Int) : List Nat := dg n (z % (W n : Nat)).toNat
theorem two_length (n : Nat) (z : Int) : (two n z).length = n := dg_length _ _
theorem two_lim (n : Nat) (z : Int) : Lim (two n z) := dg_lim _ _
theorem W_cast_pos (n : Nat) : (0 : Int) < (W n : Nat) := by have := W_pos n; omega
theorem val_two' (n : Nat) (z : Int) : (val (two n z) : Int) = z % (W n : Nat) := by
  have h1 := Int.emod_nonneg z (Int.ne_of_gt (W_cast_pos n))
  have h2 := Int.emod_lt_of_pos z (W_cast_pos n)
  unfold two
  rw [val_dg _ _ (by omega)]; omega
/-- Words that are a number of that remainder are these. -/
theorem two_of {l : List Nat} (h : Lim l) {n : Nat} (hn : l.length = n) {z : Int} (hv : (val l : Int) = z % (W n : Nat)) : l = two n z := by
  rw [dg_of h hn]; unfold two; rw [← hv]; rfl

/-- A number's words and noughts behind. -/
def pad (n : Nat) (l : List Nat) : List Nat := l ++ List.replicate (n - l.length) 0
theorem pad_length {n : Nat} {l : List Nat} (h : l.length ≤ n) : (pad n l).length = n := by unfold pad; simp; omega
theorem pad_lim {n : Nat} {l : List Nat} (h : Lim l) : Lim (pad n l) := h.append (Lim.replicate _ (by decide))
theorem val_pad (n : Nat) (l : List Nat) : val (pad n l) = val l := by
  unfold pad; rw [val_append, val_replicate, Nat.mul_zero, Nat.add_zero]
theorem wd_pad (n : Nat) (l : List Nat) (i : Nat) : wd (pad n l) i = wd l i := by
  unfold pad
  by_cases h : i < l.length
  · exact wd_append_lt h
  · rw [wd_append_ge (by omega), wd_replicate, wd_ge (by omega)]

/-- Each word's other bits. -/
def inv (l : List Nat) : List Nat := l.map fun x => 4294967295 - x
theorem inv_length (l : List Nat) : (inv l).length = l.length := by simp [inv]
theorem inv_lim (l : List Nat) : Lim (inv l) := by
  intro x hx; unfold inv at hx; obtain ⟨y, _, rfl⟩ := List.mem_map.1 hx; omega
theorem val_inv {l : List Nat} (h : Lim l) : val (inv l) + val l + 1 = W l.length := by
  induction l with
  | nil => simp [inv, val, W_zero]
  | cons d t ih =>
    have h1 := ih h.tail
    have h2 := h.head
    unfold inv at h1 ⊢
    simp only [List.map_cons, val, List.length_cons, W_succ]
    omega


/-- The words below j turned, the others as they were. -/
def invTo (j : Nat) (l : List Nat) : List Nat := (inv l).take j ++ l.drop j
theorem invTo_zero (l : List Nat) : invTo 0 l = l := by simp [invTo]
theorem invTo_length (j : Nat) (l : List Nat) : (invTo j l).length = l.length := by
  unfold invTo; simp [inv_length]; omega
theorem invTo_all {j : Nat} {l : List Nat} (h : l.length ≤ j) : invTo j l = inv l := by
  unfold invTo; rw [List.take_of_length_le (by rw [inv_length]; exact h), List.drop_of_length_le h, List.append_nil]
theorem invTo_lim {j : Nat} {l : List Nat} (h : Lim l) : Lim (invTo j l) := ((inv_lim l).take j).append (h.drop j)
theorem wd_inv {l : List Nat} {i : Nat} (h : i < l.length) : wd (inv l) i = 4294967295 - wd l i := by
  rw [wd_lt (by rw [inv_length]; exact h), wd_lt h]; simp [inv]
theorem wd_invTo {l : List Nat} (j i : Nat) (h : i < l.length) : wd (invTo j l) i = if i < j then 4294967295 - wd l i else wd l i := by
  unfold invTo
  by_cases hij : i < j
  · rw [if_pos hij, wd_append_lt (by rw [List.length_take, inv_length]; omega), wd_take hij, wd_inv h]
  · rw [if_neg hij]
    by_cases hj : j ≤ l.length
    · rw [wd_append_ge (by rw [List.length_take, inv_length]; omega), List.length_take, inv_length, wd_drop]
      congr 1; omega
    · omega
theorem invTo_set {l : List Nat} {j : Nat} (h : j < l.length) : (invTo j l).set j (4294967295 - wd l j) = invTo (j + 1) l := by
  refine ext_wd (by rw [List.length_set, invTo_length, invTo_length]) fun i hi => ?_
  rw [List.length_set, invTo_length] at hi
  rw [wd_set (by rw [invTo_length]; exact h), wd_invTo _ _ hi, wd_invTo _ _ hi]
  by_cases hij : i = j
  · subst hij; simp
  · rw [if_neg hij]
    by_cases h1 : i < j
    · rw [if_pos h1, if_pos (by omega)]
    · rw [if_neg h1, if_neg (by omega)]
/-- The complement of a number that is not 0: each word turned, and 1. -/
theorem inv_plus {l : List Nat} {n : Nat} {zs : List Nat} (hl : Lim l) (hn : l.length ≤ n) (hp : 0 < val l) (hz : Lim zs) (hzn : n ≤ zs.length) (hv : val zs = val (inv (pad n l)) + 1) : zs.take n = two n (-(val l : Int)) := by
  have h1 := val_inv (pad_lim (n := n) hl)
  rw [val_pad, pad_length hn] at h1
  refine two_of (hz.take n) (by rw [List.length_take]; omega) ?_
  have h3 : val zs < W n := by omega
  rw [val_take hz, Nat.mod_eq_of_lt h3]
  have h2 : ((val zs : Nat) : Int) = -(val l : Int) + (W n : Nat) := by omega
  rw [← Int.add_emod_right, ← h2]
  exact (Int.emod_eq_of_lt (by omega) (by omega)).symm

/-- One word of a complement more. -/
theorem comp_step {l zs : List Nat} {k c : Nat} (hz : zs.length = k) (hl : Lim l) (h : val zs + c * W k + val (l.take k) = W k) :
    val (zs ++ [(4294967295 - wd l k + c) % 4294967296]) + (4294967295 - wd l k + c) / 4294967296 * W (k + 1) + val (l.take (k + 1)) = W (k + 1) := by
  rw [val_snoc, hz, val_take_succ l, W_succ]
  have hx := hl.wd k
  have hd := Nat.div_add_mod (4294967295 - wd l k + c) 4294967296
  generalize (4294967295 - wd l k + c) / 4294967296 = q at *
  generalize (4294967295 - wd l k + c) % 4294967296 = r at *
  have k2 := congrArg (fun t => W k * t) (show 4294967296 * q + r + wd l k = 4294967295 + c by omega)
  simp only [Nat.mul_add] at k2
  have e1 : W k * (4294967296 * q) = q * (4294967296 * W k) := by rw [Nat.mul_comm, Nat.mul_right_comm, Nat.mul_comm (4294967296 * _)]
  have e3 : W k * c = c * W k := Nat.mul_comm _ _
  have e4 : W k * 4294967295 = 4294967295 * W k := Nat.mul_comm _ _
  omega
theorem comp_done {l zs : List Nat} {n c : Nat} (hz : zs.length = n) (hzl : Lim zs) (hl : Lim l) (hn : l.length ≤ n) (hp : 0 < val l) (h : val zs + c * W n + val (l.take n) = W n) : zs = two n (-(val l : Int)) := by
  rw [List.take_of_length_le hn] at h
  have hc : c = 0 := by
    rcases Nat.eq_zero_or_pos c with h0 | h0
    · exact h0
    · have := Nat.mul_le_mul_right (W n) h0
      omega
  rw [hc, Nat.zero_mul, Nat.add_zero] at h
  refine two_of hzl hz ?_
  have h1 : ((val zs : Nat) : Int) = -(val l : Int) + (W n : Nat) := by omega
  rw [← Int.add_emod_right, ← h1]
  exact (Int.emod_eq_of_lt (by omega) (by omega)).symm
theorem plain_done {l zs : List Nat} {n : Nat} (hz : zs.length = n) (hzl : Lim zs) (hn : l.length ≤ n) (hl : Lim l) (h : zs = (pad n l)) : zs = two n (val l : Int) := by
  refine two_of hzl hz ?_
  rw [h, val_pad]
  have h1 := val_lt hl
  have h2 := W_mono hn
  exact (Int.emod_eq_of_lt (by omega) (by omega)).symm

/-- The word that comes next is the complement's own. -/
theorem comp_digit {l : List Nat} {n k c : Nat} (hl : Lim l) (hk : k < n) (h : val ((two n (-(val l : Int))).take k) + c * W k + val (l.take k) = W k) :
    (4294967295 - wd l k + c) % 4294967296 = wd (two n (-(val l : Int))) k ∧
      val ((two n (-(val l : Int))).take (k + 1)) + (4294967295 - wd l k + c) / 4294967296 * W (k + 1) + val (l.take (k + 1)) = W (k + 1) := by
  have hT := two_lim n (-(val l : Int))
  have hTl := two_length n (-(val l : Int))
  have hTv := val_two' n (-(val l : Int))
  generalize two n (-(val l : Int)) = T at *
  have hlen : (T.take k).length = k := by rw [List.length_take]; omega
  have hst := comp_step hlen hl h
  generalize (4294967295 - wd l k + c) / 4294967296 = c' at *
  have hdl : (4294967295 - wd l k + c) % 4294967296 < 4294967296 := Nat.mod_lt _ (by decide)
  generalize (4294967295 - wd l k + c) % 4294967296 = d at *
  have hlim : Lim (T.take k ++ [d]) := (hT.take k).append (Lim.cons hdl Lim.nil)
  have hlt := val_lt hlim
  rw [List.length_append, hlen] at hlt
  have hlt : val (T.take k ++ [d]) < W (k + 1) := hlt
  have hdvd : ((W (k + 1) : Nat) : Int) ∣ ((W n : Nat) : Int) := by
    refine Int.natCast_dvd_natCast.2 ⟨W (n - (k + 1)), ?_⟩
    rw [← W_add]; congr 1; omega
  have e1 : ((val (T.take (k + 1)) : Nat) : Int) = -(val l : Int) % (W (k + 1) : Nat) := by
    rw [val_take hT, Int.natCast_emod, hTv, Int.emod_emod_of_dvd _ hdvd]
  have e2 : ((val (T.take k ++ [d]) : Nat) : Int) = -(val l : Int) % (W (k + 1) : Nat) := by
    have h1 : ((val (T.take k ++ [d]) : Nat) : Int) % (W (k + 1) : Nat) = (val (T.take k ++ [d]) : Nat) := Int.emod_eq_of_lt (by omega) (by omega)
    rw [← h1]
    rw [val_take hl] at hst
    have h2 := Nat.div_add_mod (val l) (W (k + 1))
    refine Int.emod_eq_emod_iff_emod_sub_eq_zero.2 (Int.emod_eq_zero_of_dvd ?_)
    refine ⟨1 - (c' : Int) + (val l / W (k + 1) : Nat), ?_⟩
    have h3 : ((c' * W (k + 1) : Nat) : Int) = (W (k + 1) : Nat) * (c' : Int) := by rw [Int.natCast_mul, Int.mul_comm]
    have h4 : ((W (k + 1) * (val l / W (k + 1)) : Nat) : Int) = (W (k + 1) : Nat) * ((val l / W (k + 1) : Nat) : Int) := Int.natCast_mul _ _
    rw [Int.mul_add, Int.mul_sub, Int.mul_one, ← h3, ← h4]
    omega
  have e3 : val (T.take (k + 1)) = val (T.take k ++ [d]) := by omega
  refine ⟨?_, by rw [e3]; exact hst⟩
  rw [take_wd (by omega), val_snoc, val_snoc, hlen] at e3
  have := W_pos k
  exact (Nat.eq_of_mul_eq_mul_left this (by omega)).symm
theorem comp_end {l : List Nat} {n : Nat} (hl : Lim l) (hn : l.length ≤ n) : two n (val l : Int) = pad n l := by
  refine (plain_done (pad_length hn) (pad_lim hl) hn hl rfl).symm

/-- What has come when k rounds are over. -/
def upto {α : Type} (f : Nat → α) (k : Nat) : List α := (List.range k).map f
theorem upto_succ {α : Type} (f : Nat → α) (k : Nat) : upto f (k + 1) = upto f k ++ [f k] := by simp [upto, List.range_succ]
theorem upto_length {α : Type} (f : Nat → α) (k : Nat) : (upto f k).length = k := by simp [upto]
theorem upto_wd (T : List Nat) : (upto (fun j => (j, wd T j)) T.length).map Prod.snd = T := by
  refine ext_wd (by simp [upto]) fun i hi => ?_
  have hi' : i < T.length := by simpa [upto] using hi
  rw [wd_lt hi, wd_lt hi']
  simp [upto, wd_lt hi']

/-- Two words joined: 1 and, 2 or, any other way either. -/
def bop (op x y : Nat) : Nat := if op = 1 then x &&& y else if op = 2 then x ||| y else x ^^^ y
theorem bop_lt {op x y : Nat} (hx : x < 4294967296) (hy : y < 4294967296) : bop op x y < 4294967296 := by
  unfold bop
  have h1 := Nat.and_lt_two_pow (n := 32) x (y := y) hy
  have h2 := Nat.or_lt_two_pow (n := 32) hx hy
  have h3 := Nat.xor_lt_two_pow (n := 32) hx hy
  split
  · exact h1
  · split
    · exact h2
    · exact h3
/-- Lists joined word by word. -/
def bjoin (op : Nat) (xs ys : List Nat) : List Nat := List.zipWith (bop op) xs ys
theorem bjoin_length {op : Nat} {xs ys : List Nat} (h : xs.length = ys.length) : (bjoin op xs ys).length = xs.length := by
  unfold bjoin; rw [List.length_zipWith, h, Nat.min_self]
theorem bjoin_lim {op : Nat} {xs ys : List Nat} (hx : Lim xs) (hy : Lim ys) : Lim (bjoin op xs ys) := by
  intro x h
  unfold bjoin at h
  obtain ⟨i, hi, rfl⟩ := List.mem_iff_getElem.1 h
  rw [List.getElem_zipWith]
  exact bop_lt (hx _ (List.getElem_mem _)) (hy _ (List.getElem_mem _))
theorem wd_bjoin {op : Nat} {xs ys : List Nat} {i : Nat} (h1 : i < xs.length) (h2 : i < ys.length) : wd (bjoin op xs ys) i = bop op (wd xs i) (wd ys i) := by
  have h : i < (bjoin op xs ys).length := by unfold bjoin; rw [List.length_zipWith]; omega
  rw [wd_lt h, wd_lt h1, wd_lt h2]
  exact List.getElem_zipWith

/-- The whole number of which words are the two's complement. -/
def untwo (s : List Nat) : Int := if wd s (s.length - 1) < 2147483648 then (val s : Int) else (val s : Int) - (W s.length : Nat)
/-- Two whole numbers joined bit by bit. -/
def bitsZ (op n : Nat) (x y : Int) : Int := untwo (bjoin op (two n x) (two n y))
theorem untwo_pos {s : List Nat} (h : wd s (s.length - 1) < 2147483648) : untwo s = (val s : Int) := by unfold untwo; rw [if_pos h]
theorem untwo_neg {s : List Nat} (hl : Lim s) (h : ¬ wd s (s.length - 1) < 2147483648) : untwo s = -((val (inv s) + 1 : Nat) : Int) ∧ (untwo s).natAbs = val (inv s) + 1 ∧ untwo s < 0 := by
  have h1 := val_inv hl
  have h2 : untwo s = -((val (inv s) + 1 : Nat) : Int) := by unfold untwo; rw [if_neg h]; omega
  rw [h2]; omega
theorem untwo_len {s : List Nat} (hl : Lim s) : (rep (untwo s).natAbs).length ≤ s.length + 1 := by
  refine rep_length_le.2 ?_
  have h1 := val_lt hl
  have h2 := W_pos s.length
  have h3 := W_succ s.length
  unfold untwo
  split <;> omega

end Go.Proofs.YtbffpkmfhkphdaaGreatDoor.Limb

namespace Go.Proofs.YtbffpkmfhkphdaaGreatDoor
open Go

/-- A word's other bits, as the machine reckons them. -/
theorem u32_inv {x : Nat} (h : x < 4294967296) : bits .xor .u32 IntKind.u32.max (x : Int) = ((4294967295 - x : Nat) : Int) := by
  show IntKind.u32.wrap ((BitVec.ofInt 32 4294967295 ^^^ BitVec.ofInt 32 (x : Int)).toNat : Int) = _
  rw [show BitVec.ofInt 32 4294967295 = BitVec.allOnes 32 by decide, BitVec.allOnes_xor, BitVec.toNat_not, ofInt_u32 x h, IntKind.wrap_u32']
  omega

end Go.Proofs.YtbffpkmfhkphdaaGreatDoor

namespace Go.Proofs.YtbffpkmfhkphdaaGreatDoor.Limb

/-- The number of k words from the o-th on. -/
def seg (us : List Nat) (o k : Nat) : Nat := val ((us.drop o).take k)

theorem seg_zero (us : List Nat) (o : Nat) : seg us o 0 = 0 := by simp [seg, val]
theorem seg_succ (us : List Nat) (o k : Nat) : seg us o (k + 1) = seg us o k + W k * wd us (o + k) := by
  unfold seg; rw [val_take_succ, wd_drop]
theorem seg_lt {us : List Nat} (h : Lim us) (o k : Nat) : seg us o k < W k := by
  unfold seg
  refine Nat.lt_of_lt_of_le (val_lt ((h.drop o).take k)) (W_mono ?_)
  rw [List.length_take]; omega
theorem drop_set_add (us : List Nat) (o k x : Nat) : (us.set (o + k) x).drop o = (us.drop o).set k x := by
  rw [List.drop_set, if_neg (by omega), Nat.add_sub_cancel_left]
theorem seg_set_ge (us : List Nat) (o : Nat) {j k : Nat} (x : Nat) (h : j ≤ k) : seg (us.set (o + k) x) o j = seg us o j := by
  unfold seg; rw [drop_set_add, take_set_gt _ _ h]
theorem seg_set (us : List Nat) (o k x : Nat) (h : o + k < us.length) : seg (us.set (o + k) x) o (k + 1) = seg us o k + W k * x := by
  rw [seg_succ, seg_set_ge _ _ _ (Nat.le_refl k), wd_set h, if_pos rfl]

theorem seg_top (us : List Nat) (o k : Nat) : seg us o (k + 1 + 1) = (wd us (o + (k + 1)) * 4294967296 + wd us (o + k)) * W k + seg us o k := by
  rw [seg_succ, seg_succ, W_succ, Nat.add_mul, Nat.mul_comm (W k), Nat.mul_comm (wd us (o + (k + 1))) 4294967296, Nat.mul_right_comm, Nat.mul_comm _ (wd us (o + (k + 1)))]
  omega

/-- All that is asked of the first guess and of each that follows. -/
structure Guess (U V T v1 v2 u2 R : Nat) : Prop where
  hR : 0 < R
  hU1 : (T * 4294967296 + u2) * R ≤ U
  hU2 : U < (T * 4294967296 + u2 + 1) * R
  hV1 : (v1 * 4294967296 + v2) * R ≤ V
  hV2 : V < (v1 * 4294967296 + v2 + 1) * R
  hv : 2147483648 ≤ v1
  hv1 : v1 < 4294967296
  hv2 : v2 < 4294967296
  hu2 : u2 < 4294967296
  hlt : U < V * 4294967296

theorem Guess.make {us vs : List Nat} {o k : Nat} (hu : Lim us) (hv : Lim vs) (hl : vs.length = k + 1 + 1) (ht : 2147483648 ≤ wd vs (k + 1)) (hlt : seg us o (k + 1 + 1 + 1) < val vs * 4294967296) :
    Guess (seg us o (k + 1 + 1 + 1)) (val vs) (wd us (o + (k + 1 + 1)) * 4294967296 + wd us (o + (k + 1))) (wd vs (k + 1)) (wd vs k) (wd us (o + k)) (W k) := by
  have eu : seg us o (k + 1 + 1 + 1) = ((wd us (o + (k + 1 + 1)) * 4294967296 + wd us (o + (k + 1))) * 4294967296 + wd us (o + k)) * W k + seg us o k := by
    rw [seg_top us o (k + 1), seg_succ, W_succ, Nat.add_mul _ _ (W k), Nat.mul_assoc, Nat.mul_comm (W k)]
    omega
  have ev : val vs = (wd vs (k + 1) * 4294967296 + wd vs k) * W k + val (vs.take k) := by
    have h := seg_top vs 0 k
    unfold seg at h
    rw [List.drop_zero, List.take_of_length_le (by omega), Nat.zero_add, Nat.zero_add] at h
    exact h
  have h1 := seg_lt hu o k
  have h2 := val_lt (hv.take k)
  rw [List.length_take, Nat.min_eq_left (by omega)] at h2
  refine ⟨W_pos k, by omega, ?_, by omega, ?_, ht, hv.wd _, hv.wd _, hu.wd _, hlt⟩
  · rw [Nat.add_mul _ 1 (W k), Nat.one_mul]; omega
  · rw [Nat.add_mul _ 1 (W k), Nat.one_mul]; omega

section
variable {U V T v1 v2 u2 R g r : Nat} (G : Guess U V T v1 v2 u2 R)
include G
theorem Guess.vpos : 0 < V := Nat.lt_of_lt_of_le (Nat.mul_pos (by have := G.hv; omega) G.hR) G.hV1
theorem Guess.qlt : U / V < 4294967296 := by
  rw [Nat.div_lt_iff_lt_mul G.vpos, Nat.mul_comm]; exact G.hlt
theorem Guess.first : U / V ≤ T / v1 := by
  refine guess_ge (R := 4294967296 * R) (Nat.mul_pos (by decide) G.hR) ?_ ?_ (by have := G.hv; omega)
  · refine Nat.lt_of_lt_of_le G.hU2 ?_
    rw [← Nat.mul_assoc]
    exact Nat.mul_le_mul_right R (by have := G.hu2; omega)
  · refine Nat.le_trans ?_ G.hV1
    rw [← Nat.mul_assoc]
    exact Nat.mul_le_mul_right R (by omega)
theorem Guess.high (hT : g * v1 + r = T) (ht : r * 4294967296 + u2 < g * v2) : U / V ≤ g - 1 := by
  have := guess_high G.hU2 G.hV1 hT ht rfl; omega
theorem Guess.big (hg : 4294967296 ≤ g) : U / V ≤ g - 1 := by have := G.qlt; omega
theorem Guess.near (hT : g * v1 + r = T) (hg : g < 4294967296) (ht : g * v2 ≤ r * 4294967296 + u2) : g ≤ U / V + 1 :=
  guess_near G.hU1 G.hV1 G.hV2 hT ht hg G.hv G.hR
theorem Guess.small {u0 u1 : Nat} (hT : g * v1 + r = T) (hTd : T = u0 * 4294967296 + u1) (hu1 : u1 < 4294967296) (hr : 4294967296 ≤ r) : g < 4294967296 := by
  refine guess_small hT hTd ?_ hu1 hr
  have h1 : U < V * 4294967296 := G.hlt
  have h2 : V * 4294967296 ≤ (v1 + 1) * 4294967296 * R * 4294967296 := by
    refine Nat.mul_le_mul_right _ (Nat.le_trans (Nat.le_of_lt G.hV2) (Nat.mul_le_mul_right R ?_))
    have := G.hv2; omega
  have h3 : u0 * 4294967296 * 4294967296 * R ≤ U := by
    refine Nat.le_trans (Nat.mul_le_mul_right R ?_) G.hU1
    rw [hTd, Nat.add_mul, Nat.add_assoc]; exact Nat.le_add_right _ _
  have h4 : u0 * 4294967296 * 4294967296 * R < (v1 + 1) * 4294967296 * 4294967296 * R := by
    have e : (v1 + 1) * 4294967296 * R * 4294967296 = (v1 + 1) * 4294967296 * 4294967296 * R := by rw [Nat.mul_right_comm]
    omega
  have := Nat.lt_of_mul_lt_mul_right h4
  omega
theorem Guess.broke (hT : g * v1 + r = T) (hg : g < 4294967296) (hr : 4294967296 ≤ r) : g ≤ U / V + 1 := by
  refine G.near hT hg ?_
  have := Nat.mul_le_mul (show g ≤ 4294967295 by omega) (show v2 ≤ 4294967295 by have := G.hv2; omega)
  omega
end

/-- One word of 'u less the guess times v'. -/
theorem mul_step {us us0 vs : List Nat} {o i g c b : Nat} (hz : o + i < us.length) (hw : wd us (o + i) = wd us0 (o + i)) (hb : b ≤ 1) (hu : wd us (o + i) < 4294967296)
    (h : seg us o i + g * val (vs.take i) = seg us0 o i + (c + b) * W i) :
    seg (us.set (o + i) ((wd us (o + i) + 4294967296 - (c + g * wd vs i) % 4294967296 - b) % 4294967296)) o (i + 1) + g * val (vs.take (i + 1)) =
      seg us0 o (i + 1) + ((c + g * wd vs i) / 4294967296 + (if wd us (o + i) < (c + g * wd vs i) % 4294967296 + b then 1 else 0)) * W (i + 1) := by
  rw [seg_set _ _ _ _ hz, seg_succ us0, val_take_succ, W_succ, ← hw]
  have hd := Nat.div_add_mod (c + g * wd vs i) 4294967296
  have hm : (c + g * wd vs i) % 4294967296 < 4294967296 := Nat.mod_lt _ (by decide)
  generalize (c + g * wd vs i) / 4294967296 = q at *
  generalize (c + g * wd vs i) % 4294967296 = lo at *
  generalize wd us (o + i) = u at *
  have key : (u + 4294967296 - lo - b) % 4294967296 + lo + b = u + (if u < lo + b then 1 else 0) * 4294967296 := by split <;> omega
  generalize (if u < lo + b then 1 else 0) = b' at *
  generalize (u + 4294967296 - lo - b) % 4294967296 = nw at *
  have k1 := congrArg (fun t => W i * t) key
  have k2 := congrArg (fun t => W i * t) hd
  simp only [Nat.mul_add] at k1 k2
  have e1 : W i * (b' * 4294967296) = b' * (4294967296 * W i) := by rw [Nat.mul_comm, Nat.mul_assoc]
  have e2 : W i * (4294967296 * q) = q * (4294967296 * W i) := by rw [Nat.mul_comm, Nat.mul_right_comm, Nat.mul_comm (4294967296 * _)]
  have e3 : W i * (g * wd vs i) = g * (W i * wd vs i) := Nat.mul_left_comm _ _ _
  have e4 : W i * c = c * W i := Nat.mul_comm _ _
  have e5 : W i * b = b * W i := Nat.mul_comm _ _
  rw [Nat.add_mul] at h
  rw [Nat.mul_add, Nat.add_mul]
  omega

/-- The guess was right. -/
theorem mul_end_ok {us us0 vs : List Nat} {o n g c b : Nat} (hV : vs.length = n) (hz : o + n < us.length) (hw : wd us (o + n) = wd us0 (o + n)) (hd : c + b ≤ wd us (o + n))
    (h : seg us o n + g * val (vs.take n) = seg us0 o n + (c + b) * W n) (hq : seg us0 o (n + 1) / val vs ≤ g) (hp : 0 < val vs) :
    g = seg us0 o (n + 1) / val vs ∧ seg (us.set (o + n) (wd us (o + n) - c - b)) o (n + 1) = seg us0 o (n + 1) % val vs := by
  rw [List.take_of_length_le (by omega)] at h
  have e : seg (us.set (o + n) (wd us (o + n) - c - b)) o (n + 1) + g * val vs = seg us0 o (n + 1) := by
    rw [seg_set _ _ _ _ hz, seg_succ us0, ← hw, show wd us (o + n) - c - b = wd us (o + n) - (c + b) from by omega, Nat.mul_sub, Nat.mul_comm (W n) (c + b)]
    have := Nat.mul_le_mul_left (W n) hd
    rw [Nat.mul_comm (W n) (c + b)] at this
    omega
  have hle : g ≤ seg us0 o (n + 1) / val vs := by rw [Nat.le_div_iff_mul_le hp]; omega
  have hg : g = seg us0 o (n + 1) / val vs := Nat.le_antisymm hle hq
  refine ⟨hg, ?_⟩
  have h2 := Nat.div_add_mod (seg us0 o (n + 1)) (val vs)
  rw [← hg, Nat.mul_comm] at h2
  omega

/-- The guess was one too great: what u holds then. -/
theorem mul_end_neg {us us0 vs : List Nat} {o n g c b : Nat} (hl : Lim us) (hV : vs.length = n) (hz : o + n < us.length) (hw : wd us (o + n) = wd us0 (o + n)) (hd : wd us (o + n) < c + b) (hc : c < 4294967296) (hb : b ≤ 1)
    (h : seg us o n + g * val (vs.take n) = seg us0 o n + (c + b) * W n) (hq : g ≤ seg us0 o (n + 1) / val vs + 1) (hp : 0 < val vs) :
    g = seg us0 o (n + 1) / val vs + 1 ∧
      seg (us.set (o + n) ((wd us (o + n) + 4294967296 - c - b) % 4294967296)) o (n + 1) + val vs = seg us0 o (n + 1) % val vs + W (n + 1) := by
  rw [List.take_of_length_le (by omega)] at h
  have hu := hl.wd (o + n)
  have e : seg (us.set (o + n) ((wd us (o + n) + 4294967296 - c - b) % 4294967296)) o (n + 1) + g * val vs = seg us0 o (n + 1) + W (n + 1) := by
    rw [seg_set _ _ _ _ hz, seg_succ us0, ← hw, W_succ]
    have k : (wd us (o + n) + 4294967296 - c - b) % 4294967296 + (c + b) = wd us (o + n) + 4294967296 := by omega
    have k1 := congrArg (fun t => W n * t) k
    simp only [Nat.mul_add] at k1
    rw [Nat.add_mul] at h
    have e1 : W n * c = c * W n := Nat.mul_comm _ _
    have e2 : W n * b = b * W n := Nat.mul_comm _ _
    omega
  have hlt := seg_lt (hl.set (i := o + n) (d := (wd us (o + n) + 4294967296 - c - b) % 4294967296) (Nat.mod_lt _ (by decide))) o (n + 1)
  have hgt : seg us0 o (n + 1) / val vs < g := by
    rw [Nat.div_lt_iff_lt_mul hp]; omega
  have hg : g = seg us0 o (n + 1) / val vs + 1 := by omega
  refine ⟨hg, ?_⟩
  have h2 := Nat.div_add_mod (seg us0 o (n + 1)) (val vs)
  rw [hg, Nat.add_mul, Nat.one_mul, Nat.mul_comm (_ / _)] at e
  omega

/-- One word of 'v comes back'. -/
theorem back_step {us us1 vs : List Nat} {o i c : Nat} (hz : o + i < us.length) (hw : wd us (o + i) = wd us1 (o + i))
    (h : seg us o i + c * W i = seg us1 o i + val (vs.take i)) :
    seg (us.set (o + i) ((c + (wd us (o + i) + wd vs i)) % 4294967296)) o (i + 1) + (c + (wd us (o + i) + wd vs i)) / 4294967296 * W (i + 1) = seg us1 o (i + 1) + val (vs.take (i + 1)) := by
  rw [seg_set _ _ _ _ hz, seg_succ us1, val_take_succ, W_succ, ← hw]
  have hd := Nat.div_add_mod (c + (wd us (o + i) + wd vs i)) 4294967296
  generalize (c + (wd us (o + i) + wd vs i)) / 4294967296 = q at *
  generalize (c + (wd us (o + i) + wd vs i)) % 4294967296 = m at *
  have k2 := congrArg (fun t => W i * t) hd
  simp only [Nat.mul_add] at k2
  have e2 : W i * (4294967296 * q) = q * (4294967296 * W i) := by rw [Nat.mul_comm, Nat.mul_right_comm, Nat.mul_comm (4294967296 * _)]
  have e4 : W i * c = c * W i := Nat.mul_comm _ _
  omega

theorem back_end {us us1 vs : List Nat} {o n c R : Nat} (hl : Lim us) (hV : vs.length = n) (hz : o + n < us.length) (hw : wd us (o + n) = wd us1 (o + n))
    (h : seg us o n + c * W n = seg us1 o n + val (vs.take n)) (h1 : seg us1 o (n + 1) + val vs = R + W (n + 1)) (hR : R < W n) :
    seg (us.set (o + n) ((wd us (o + n) + c) % 4294967296)) o (n + 1) = R := by
  rw [List.take_of_length_le (by omega)] at h
  rw [seg_set _ _ _ _ hz]
  rw [seg_succ, ← hw, W_succ] at h1
  have hu := hl.wd (o + n)
  have hs := seg_lt hl o n
  have e : seg us o n + W n * (wd us (o + n) + c) = R + W n * 4294967296 := by
    rw [Nat.mul_add, Nat.mul_comm (W n) c]; omega
  have h3 : wd us (o + n) + c = 4294967296 := by
    have k1 := W_pos n
    have a1 : W n * (wd us (o + n) + c) < W n * 4294967297 := by omega
    have a2 : W n * 4294967295 < W n * (wd us (o + n) + c) := by omega
    have b1 := Nat.lt_of_mul_lt_mul_left a1
    have b2 := Nat.lt_of_mul_lt_mul_left a2
    omega
  rw [h3] at e ⊢
  rw [Nat.mod_self]; omega
end Go.Proofs.YtbffpkmfhkphdaaGreatDoor.Limb

namespace Go.Proofs.YtbffpkmfhkphdaaGreatDoor.Limb
theorem W_div_mod (V k : Nat) : V % W (k + 1) = V % W k + W k * (V / W k % 4294967296) := by
  rw [W_succ, Nat.mul_comm, Nat.mod_mul]
theorem pow_split (s : Nat) : 2 ^ s = 2 ^ (s % 32) * W (s / 32) := by
  rw [W_two, ← Nat.pow_add, show s % 32 + 32 * (s / 32) = s from by omega]
/-- The words of a number, as many as are asked, all that lies beyond lost. -/
theorem shr_low (Y r : Nat) (hr : r ≤ 32) : Y / 2 ^ r % 4294967296 = Y % 18446744073709551616 / 2 ^ r % 4294967296 := by
  have e : 18446744073709551616 = 2 ^ r * (2 ^ (32 - r) * 4294967296) := by
    rw [← Nat.mul_assoc, ← Nat.pow_add, show r + (32 - r) = 32 from by omega]
  rw [e, Nat.mod_mul_right_div_self, Nat.mod_mul_left_mod]
theorem two_words {l : List Nat} (h : Lim l) (j : Nat) : wd l j + wd l (j + 1) * 4294967296 = val l / W j % 18446744073709551616 := by
  rw [wd_val h, wd_val h, W_succ, Nat.mul_comm 4294967296 (W j), ← Nat.div_div_eq_div_mul]
  generalize val l / W j = Y
  omega
theorem shr_word {l : List Nat} (h : Lim l) (d r i : Nat) (hr : r ≤ 32) :
    (wd l (d + i) + wd l (d + i + 1) * 4294967296) / 2 ^ r % 4294967296 = val l / (2 ^ r * W d) / W i % 4294967296 := by
  rw [two_words h, ← shr_low _ _ hr, Nat.div_div_eq_div_mul, Nat.div_div_eq_div_mul, W_add, Nat.mul_comm (W d * W i), Nat.mul_assoc]
end Go.Proofs.YtbffpkmfhkphdaaGreatDoor.Limb

namespace Go.Proofs.YtbffpkmfhkphdaaGreatDoor.Limb
theorem bitLenAux_spec (f x : Nat) (h : x < 2 ^ f) : x < 2 ^ Lib.bitLenAux f x ∧ (x ≠ 0 → 2 ^ (Lib.bitLenAux f x - 1) ≤ x) ∧ Lib.bitLenAux f x ≤ f := by
  induction f generalizing x with
  | zero => simp [Lib.bitLenAux] at *; omega
  | succ f ih =>
    by_cases h0 : x = 0
    · subst h0; simp [Lib.bitLenAux]
    · have ih' := ih (x / 2) (by rw [Nat.pow_succ] at h; omega)
      have e : Lib.bitLenAux (f + 1) x = Lib.bitLenAux f (x / 2) + 1 := by simp [Lib.bitLenAux, h0]; omega
      rw [e]
      obtain ⟨h1, h2, h3⟩ := ih'
      refine ⟨by rw [Nat.pow_succ]; omega, fun _ => ?_, by omega⟩
      rw [Nat.add_sub_cancel]
      by_cases hx : x / 2 = 0
      · have : x = 1 := by omega
        subst this
        have : Lib.bitLenAux f (1 / 2) = 0 := by cases f <;> simp [Lib.bitLenAux]
        rw [this]; decide
      · have h4 := h2 hx
        have h5 : Lib.bitLenAux f (x / 2) ≠ 0 := by
          intro e0; rw [e0] at h1; simp at h1; omega
        obtain ⟨m, hm⟩ : ∃ m, Lib.bitLenAux f (x / 2) = m + 1 := ⟨_, (Nat.succ_pred_eq_of_ne_zero h5).symm⟩
        rw [hm] at h4 ⊢
        rw [Nat.add_sub_cancel] at h4
        rw [Nat.pow_succ]; omega
theorem bitLen32 {x : Nat} (h : x < 4294967296) : x < 2 ^ Lib.bitLen x ∧ (x ≠ 0 → 2 ^ (Lib.bitLen x - 1) ≤ x) ∧ Lib.bitLen x ≤ 32 ∧ (x ≠ 0 → 1 ≤ Lib.bitLen x) := by
  obtain ⟨h1, h2, _⟩ := bitLenAux_spec 64 x (Nat.lt_of_lt_of_le h (by decide))
  have h3 : x ≠ 0 → 1 ≤ Lib.bitLen x := fun hx => by
    rcases Nat.eq_zero_or_pos (Lib.bitLen x) with e | e
    · unfold Lib.bitLen at e; rw [e] at h1; simp at h1; omega
    · exact e
  refine ⟨h1, h2, ?_, h3⟩
  by_cases hx : x = 0
  · subst hx; decide
  · have h4 := h2 hx
    rcases Nat.lt_or_ge 32 (Lib.bitLen x) with h5 | h5
    · exfalso
      have := Nat.pow_le_pow_right (n := 2) (by decide) (show 32 ≤ Lib.bitLenAux 64 x - 1 by unfold Lib.bitLen at h5; omega)
      have e : 2 ^ 32 = 4294967296 := rfl
      omega
    · exact h5
/-- How many bits a number has. -/
def bitsN (n : Nat) : Nat := if n = 0 then 0 else Nat.log2 n + 1
theorem bitsN_zero : bitsN 0 = 0 := rfl
theorem bitsN_spec (n : Nat) : n < 2 ^ bitsN n ∧ (n ≠ 0 → 2 ^ (bitsN n - 1) ≤ n) := by
  unfold bitsN
  split
  · subst n; simp
  · rename_i h
    refine ⟨Nat.lt_log2_self, fun _ => ?_⟩
    rw [Nat.add_sub_cancel]; exact Nat.log2_self_le h
theorem bitsN_unique {n b : Nat} (h1 : n < 2 ^ b) (h2 : n ≠ 0 → 2 ^ (b - 1) ≤ n) (h0 : n = 0 → b = 0) : bitsN n = b := by
  by_cases h : n = 0
  · rw [h0 h, h]; rfl
  · obtain ⟨k1, k2⟩ := bitsN_spec n
    have a := (Nat.pow_lt_pow_iff_right (show 1 < 2 by decide)).1 (Nat.lt_of_le_of_lt (h2 h) k1)
    have b' := (Nat.pow_lt_pow_iff_right (show 1 < 2 by decide)).1 (Nat.lt_of_le_of_lt (k2 h) h1)
    have hb : b ≠ 0 := by intro e; subst e; simp at h1; omega
    have hB : bitsN n ≠ 0 := by intro e; rw [e] at k1; simp at k1; omega
    omega
theorem bitsN_le {n b : Nat} : bitsN n ≤ b ↔ n < 2 ^ b := by
  obtain ⟨k1, k2⟩ := bitsN_spec n
  constructor
  · intro h; exact Nat.lt_of_lt_of_le k1 (Nat.pow_le_pow_right (by decide) h)
  · intro h
    by_cases h0 : n = 0
    · rw [h0]; exact Nat.zero_le _
    · have := (Nat.pow_lt_pow_iff_right (show 1 < 2 by decide)).1 (Nat.lt_of_le_of_lt (k2 h0) h)
      omega
/-- The bits of a list whose last word is not 0. -/
theorem bitsN_val {l : List Nat} {k : Nat} (hl : Lim l) (hk : l.length = k + 1) (h0 : wd l k ≠ 0) : bitsN (val l) = 32 * k + Lib.bitLen (wd l k) := by
  have e := val_snoc_wd (l := l) (k := k) (by omega)
  rw [List.take_of_length_le (by omega)] at e
  have h1 := val_lt (hl.take k)
  rw [List.length_take, Nat.min_eq_left (by omega)] at h1
  obtain ⟨b1, b2, b3, b4⟩ := bitLen32 (hl.wd k)
  have p := W_pos k
  apply bitsN_unique
  · rw [Nat.pow_add, ← W_two, e]
    have := Nat.mul_le_mul_left (W k) (show wd l k + 1 ≤ 2 ^ Lib.bitLen (wd l k) from b1)
    rw [Nat.mul_add] at this; omega
  · intro _
    rw [show 32 * k + Lib.bitLen (wd l k) - 1 = 32 * k + (Lib.bitLen (wd l k) - 1) from by have := b4 h0; omega, Nat.pow_add, ← W_two, e]
    have := Nat.mul_le_mul_left (W k) (b2 h0)
    omega
  · intro h
    exfalso
    have := Nat.mul_le_mul_left (W k) (show 1 ≤ wd l k by omega)
    omega
theorem norm_last {l : List Nat} {k : Nat} (hn : Norm l) (hk : l.length = k + 1) : wd l k ≠ 0 := by
  intro h
  apply hn
  rw [List.getLast?_eq_getElem?, hk, Nat.add_sub_cancel, List.getElem?_eq_getElem (by omega), ← wd_lt (by omega), h]
end Go.Proofs.YtbffpkmfhkphdaaGreatDoor.Limb

namespace Go.Proofs.YtbffpkmfhkphdaaGreatDoor.Limb

theorem drop_val (us : List Nat) (j : Nat) (h : j < us.length) : val (us.drop j) = wd us j + 4294967296 * val (us.drop (j + 1)) := by
  rw [List.drop_eq_getElem_cons h, ← wd_lt h, val]

/-- The state of a long division ahead of word j = k - 1: what is done of the dividend us0. -/
structure Div (us0 us qs : List Nat) (V n k : Nat) : Prop where
  len : us.length = us0.length
  lim : Lim us
  qlim : Lim qs
  qlen : qs.length + n = us0.length
  kle : k ≤ qs.length
  low : us.take k = us0.take k
  rest : val (us.drop k) < V
  eq : val (us0.drop k) = V * val (qs.drop k) + val (us.drop k)

theorem Div.seg_eq {us0 us qs : List Nat} {V n j : Nat} (D : Div us0 us qs V n (j + 1)) (hV : V < W n) (hn : 0 < n) :
    seg us j (n + 1) = wd us j + 4294967296 * val (us.drop (j + 1)) ∧ val (us.drop (j + n + 1)) = 0 := by
  have hl := D.len; have hk := D.kle; have hq := D.qlen
  have h1 : val (us.drop (j + n + 1)) = 0 := by
    rw [show j + n + 1 = (j + 1) + n from by omega, ← List.drop_drop, val_drop (D.lim.drop _)]
    exact Nat.div_eq_of_lt (Nat.lt_trans D.rest hV)
  refine ⟨?_, h1⟩
  have h2 := val_take_drop (us.drop j) (n + 1) (by rw [List.length_drop]; omega)
  rw [List.drop_drop, show j + (n + 1) = j + n + 1 from by omega, h1, Nat.mul_zero, Nat.add_zero] at h2
  unfold seg
  rw [← h2, drop_val us j (by omega)]

theorem Div.seg_lt' {us0 us qs : List Nat} {V n j : Nat} (D : Div us0 us qs V n (j + 1)) (hV : V < W n) (hn : 0 < n) : seg us j (n + 1) < V * 4294967296 := by
  rw [(D.seg_eq hV hn).1]
  have h1 := D.rest
  have h2 := D.lim.wd j
  have := Nat.mul_le_mul_left 4294967296 (show val (us.drop (j + 1)) + 1 ≤ V from h1)
  rw [Nat.mul_comm V]; omega

theorem Div.step {us0 us us' qs : List Nat} {V n j : Nat} (D : Div us0 us qs V n (j + 1)) (hV : V < W n) (hn : 0 < n) (hl : us'.length = us.length) (hlim : Lim us') (htk : us'.take j = us.take j)
    (hdr : us'.drop (j + n + 1) = us.drop (j + n + 1)) (hs : seg us' j (n + 1) = seg us j (n + 1) % V) :
    Div us0 us' (qs.set j (seg us j (n + 1) / V)) V n j := by
  have hlen := D.len; have hk := D.kle; have hq := D.qlen
  have hpos : 0 < V := Nat.lt_of_le_of_lt (Nat.zero_le _) D.rest
  obtain ⟨h1, h2⟩ := D.seg_eq hV hn
  have hlt := D.seg_lt' hV hn
  have hqlt : seg us j (n + 1) / V < 4294967296 := by rw [Nat.div_lt_iff_lt_mul hpos, Nat.mul_comm]; exact hlt
  have e1 : val (us'.drop j) = seg us j (n + 1) % V := by
    have h3 := val_take_drop (us'.drop j) (n + 1) (by rw [List.length_drop]; omega)
    rw [List.drop_drop, show j + (n + 1) = j + n + 1 from by omega, hdr, h2, Nat.mul_zero, Nat.add_zero] at h3
    rw [h3]; exact hs
  refine ⟨by rw [hl, hlen], hlim, D.qlim.set hqlt, by rw [List.length_set]; exact hq, by rw [List.length_set]; omega, ?_, by rw [e1]; exact Nat.mod_lt _ hpos, ?_⟩
  · rw [htk]
    have := congrArg (List.take j) D.low
    rwa [List.take_take, List.take_take, Nat.min_eq_left (by omega)] at this
  · have hw : wd us0 j = wd us j := by
      have h5 : wd (us.take (j + 1)) j = wd (us0.take (j + 1)) j := by rw [D.low]
      rw [wd_take (by omega), wd_take (by omega)] at h5
      exact h5.symm
    have hq2 : val ((qs.set j (seg us j (n + 1) / V)).drop j) = seg us j (n + 1) / V + 4294967296 * val (qs.drop (j + 1)) := by
      rw [drop_val _ _ (by rw [List.length_set]; omega), wd_set (by omega), if_pos rfl, List.drop_set_of_lt (by omega)]
    rw [drop_val us0 j (by omega), D.eq, hq2, e1, hw]
    have h4 := Nat.div_add_mod (seg us j (n + 1)) V
    rw [h1] at h4 ⊢
    generalize (wd us j + 4294967296 * val (us.drop (j + 1))) / V = q at *
    generalize (wd us j + 4294967296 * val (us.drop (j + 1))) % V = r at *
    rw [Nat.mul_add, Nat.mul_add, Nat.mul_left_comm V 4294967296]
    omega

theorem Div.done {us0 us qs : List Nat} {V n : Nat} (D : Div us0 us qs V n 0) : val qs = val us0 / V ∧ val us = val us0 % V := by
  have h := D.eq
  have hr := D.rest
  simp only [List.drop_zero] at h hr
  have hpos : 0 < V := Nat.lt_of_le_of_lt (Nat.zero_le _) hr
  rw [h, Nat.mul_add_div hpos, Nat.div_eq_of_lt hr, Nat.mul_add_mod, Nat.mod_eq_of_lt hr]
  exact ⟨by omega, rfl⟩

/-- A divisor whose highest bit is brought to the top has as many words as before. -/
theorem up_words {ys : List Nat} {k : Nat} (hy : Lim ys) (ny : Norm ys) (hl : ys.length = k + 1) :
    (rep (val ys * 2 ^ (32 - Lib.bitLen (wd ys k)))).length = k + 1 ∧ 2147483648 ≤ wd (rep (val ys * 2 ^ (32 - Lib.bitLen (wd ys k)))) k ∧ Lib.bitLen (wd ys k) ≤ 32 ∧ 1 ≤ Lib.bitLen (wd ys k) := by
  have hne := norm_last ny hl
  obtain ⟨b1, b2, b3, b4⟩ := bitLen32 (hy.wd k)
  have b5 := b4 hne
  have b6 := b2 hne
  have e := val_snoc_wd (l := ys) (k := k) (by omega)
  rw [List.take_of_length_le (by omega)] at e
  have h1 := val_lt (hy.take k)
  rw [List.length_take, Nat.min_eq_left (by omega)] at h1
  generalize Lib.bitLen (wd ys k) = b at *
  have p31 : 2 ^ (b - 1) * 2 ^ (32 - b) = 2147483648 := by rw [← Nat.pow_add, show b - 1 + (32 - b) = 31 from by omega]
  have p32 : 2 ^ b * 2 ^ (32 - b) = 4294967296 := by rw [← Nat.pow_add, show b + (32 - b) = 32 from by omega]
  have lo : 2147483648 * W k ≤ val ys * 2 ^ (32 - b) := by
    have := Nat.mul_le_mul_right (2 ^ (32 - b)) (show W k * 2 ^ (b - 1) ≤ val ys by rw [e]; exact Nat.le_trans (Nat.mul_le_mul_left _ b6) (Nat.le_add_left _ _))
    rw [Nat.mul_assoc, p31, Nat.mul_comm] at this; exact this
  have hi : val ys * 2 ^ (32 - b) < W (k + 1) := by
    have h2 : val ys < W k * 2 ^ b := by
      have := Nat.mul_le_mul_left (W k) (show wd ys k + 1 ≤ 2 ^ b from b1)
      rw [Nat.mul_add] at this; omega
    have := Nat.mul_lt_mul_of_pos_right h2 (Nat.pow_pos (n := 32 - b) (show 0 < 2 by decide))
    rw [Nat.mul_assoc, p32, Nat.mul_comm (W k)] at this
    rw [W_succ]; exact this
  have hp := W_pos k
  have hlen : (rep (val ys * 2 ^ (32 - b))).length = k + 1 :=
    Nat.le_antisymm (rep_length_le.2 hi) (rep_length_lt.2 (by omega))
  refine ⟨hlen, ?_, b3, b5⟩
  rw [rep_wd, Nat.mod_eq_of_lt]
  · rw [Nat.le_div_iff_mul_le hp]; exact lo
  · rw [Nat.div_lt_iff_lt_mul hp, ← W_succ]; exact hi

/-- The dividend, brought up with it: its words, with those that are laid behind. -/
theorem up_dividend {xs : List Nat} {L s : Nat} (hx : Lim xs) (nx : Norm xs) (hl : xs.length = L) (hL : 0 < L) (hs : s ≤ 32) :
    L ≤ (rep (val xs * 2 ^ s)).length ∧ (rep (val xs * 2 ^ s)).length ≤ L + 1 ∧ ∀ l : List Nat, l = (rep (val xs * 2 ^ s) ++ [0, 0]).take (L + 1) → l.length = L + 1 ∧ Lim l ∧ val l = val xs * 2 ^ s := by
  have h1 := val_lt hx
  have hp : 0 < 2 ^ s := Nat.pow_pos (by decide)
  have h2 : W (L - 1) ≤ val xs := by rw [← rep_length_lt, rep_val hx nx]; omega
  have lo : L ≤ (rep (val xs * 2 ^ s)).length := by
    have := rep_length_lt.2 (Nat.le_trans h2 (Nat.le_mul_of_pos_right (val xs) hp)); omega
  have hi : (rep (val xs * 2 ^ s)).length ≤ L + 1 := by
    rw [rep_length_le, W_succ]
    have h3 : 2 ^ s ≤ 4294967296 := Nat.pow_le_pow_right (n := 2) (by decide) hs
    have := Nat.mul_le_mul_left (val xs) h3
    rw [hl] at h1
    omega
  refine ⟨lo, hi, fun l hlq => ?_⟩
  have hlim : Lim (rep (val xs * 2 ^ s) ++ [0, 0]) := Lim.append (rep_lim _) (Lim.cons (by decide) (Lim.cons (by decide) Lim.nil))
  have hv : val (rep (val xs * 2 ^ s) ++ [0, 0]) = val xs * 2 ^ s := by rw [val_append, val_rep]; simp [val]
  subst hlq
  refine ⟨by rw [List.length_take, List.length_append]; simp; omega, hlim.take _, ?_⟩
  rw [val_take hlim, hv, Nat.mod_eq_of_lt (rep_length_le.1 hi)]

theorem Div.start {xs ys us0 : List Nat} {L k s : Nat} (hx : Lim xs) (hy : Lim ys) (ny : Norm ys) (hlx : xs.length = L) (hly : ys.length = k + 1) (hkL : k + 1 ≤ L)
    (hu : us0.length = L + 1) (hul : Lim us0) (huv : val us0 = val xs * 2 ^ s) : Div us0 us0 (List.replicate (L - k) 0) (val ys * 2 ^ s) (k + 1) (L - k) := by
  have h0 : val ((List.replicate (L - k) 0).drop (L - k)) = 0 := by rw [List.drop_of_length_le (by simp)]; rfl
  have hp : 0 < 2 ^ s := Nat.pow_pos (by decide)
  refine ⟨rfl, hul, Lim.replicate _ (by decide), by simp; omega, by simp, rfl, ?_, by rw [h0]; omega⟩
  rw [val_drop hul, huv, Nat.div_lt_iff_lt_mul (W_pos _)]
  have h1 := val_lt hx
  rw [hlx] at h1
  have h2 : W k ≤ val ys := by rw [← rep_length_lt, rep_val hy ny]; omega
  have h3 : W L = W k * W (L - k) := by rw [← W_add]; congr 1; omega
  rw [Nat.mul_right_comm]
  refine Nat.mul_lt_mul_of_pos_right (Nat.lt_of_lt_of_le h1 ?_) hp
  rw [h3]; exact Nat.mul_le_mul_right _ h2
end Go.Proofs.YtbffpkmfhkphdaaGreatDoor.Limb

namespace Go.Proofs.YtbffpkmfhkphdaaGreatDoor.Limb

/-- The number of k bytes, the lowest ahead. -/
def bval (f : Nat → Nat) : Nat → Nat
  | 0 => 0
  | k + 1 => bval f k + 256 ^ k * f k

theorem val_set_add {l : List Nat} {i e : Nat} (h : i < l.length) : val (l.set i (wd l i + e)) = val l + W i * e := by
  induction l generalizing i with
  | nil => simp at h
  | cons d t ih =>
    cases i with
    | zero => simp [wd, val, W_zero]; omega
    | succ i =>
      have h' : i < t.length := by simpa using h
      have e1 : wd (d :: t) (i + 1) = wd t i := by unfold wd; rw [List.getD_cons_succ]
      rw [e1, List.set_cons_succ, val, val, ih h', W_succ, Nat.mul_add, Nat.mul_assoc]; omega

theorem W_256 (k : Nat) : W (k / 4) * 256 ^ (k % 4) = 256 ^ k := by
  rw [show W (k / 4) = 256 ^ (4 * (k / 4)) from by unfold W; rw [Nat.pow_mul], ← Nat.pow_add, show 4 * (k / 4) + k % 4 = k from by omega]

/-- What SetBytes has laid of k bytes. -/
structure Laid (f : Nat → Nat) (xs : List Nat) (m k : Nat) : Prop where
  len : xs.length = m
  lim : Lim xs
  eq : val xs = bval f k
  here : wd xs (k / 4) < 256 ^ (k % 4)
  beyond : ∀ j, k / 4 < j → wd xs j = 0

theorem Laid.start (f : Nat → Nat) (m : Nat) : Laid f (List.replicate m 0) m 0 :=
  ⟨by simp, Lim.replicate _ (by decide), by rw [val_replicate]; rfl, by rw [wd_replicate]; decide, fun j _ => wd_replicate _ _⟩

theorem pow256_le {r : Nat} (h : r < 4) : 256 ^ (r + 1) ≤ 4294967296 := Nat.pow_le_pow_right (n := 256) (by decide) (show r + 1 ≤ 4 by omega)

theorem Laid.new_lt {f : Nat → Nat} {xs : List Nat} {m k : Nat} (D : Laid f xs m k) (hf : f k < 256) : wd xs (k / 4) + f k * 256 ^ (k % 4) < 256 ^ (k % 4 + 1) := by
  have h := D.here
  have h2 := Nat.mul_le_mul_right (256 ^ (k % 4)) (show f k ≤ 255 by omega)
  rw [Nat.pow_succ]; omega

theorem Laid.step {f : Nat → Nat} {xs : List Nat} {m k : Nat} (D : Laid f xs m k) (hf : f k < 256) (hk : k / 4 < m) :
    Laid f (xs.set (k / 4) (wd xs (k / 4) + f k * 256 ^ (k % 4))) m (k + 1) := by
  have hl := D.len
  have hn := D.new_lt hf
  have hp := pow256_le (r := k % 4) (by omega)
  refine ⟨by rw [List.length_set]; exact hl, D.lim.set (by omega), ?_, ?_, ?_⟩
  · rw [val_set_add (by omega), D.eq, bval, Nat.mul_comm (f k), ← Nat.mul_assoc, W_256]
  · rw [wd_set (by omega)]
    by_cases h : k % 4 = 3
    · rw [if_neg (by omega), show (k + 1) % 4 = 0 from by omega, D.beyond _ (by omega)]; decide
    · rw [if_pos (by omega), show (k + 1) % 4 = k % 4 + 1 from by omega]; exact hn
  · intro j hj
    rw [wd_set (by omega), if_neg (by omega)]
    exact D.beyond j (by omega)

/-- The bytes of a list of words, the lowest ahead. -/
def byt (l : List Nat) (j : Nat) : Nat := wd l (j / 4) / 256 ^ (j % 4) % 256
theorem byt_lt (l : List Nat) (j : Nat) : byt l j < 256 := Nat.mod_lt _ (by decide)

theorem bval_words {l : List Nat} (hl : Lim l) (k : Nat) : bval (byt l) (4 * k) = val (l.take k) := by
  induction k with
  | zero => simp [bval, val]
  | succ k ih =>
    rw [show 4 * (k + 1) = 4 * k + 1 + 1 + 1 + 1 from by omega, bval, bval, bval, bval, ih, val_take_succ]
    have hw := hl.wd k
    have e : ∀ t, t < 4 → byt l (4 * k + t) = wd l k / 256 ^ t % 256 := by
      intro t ht; unfold byt; rw [show (4 * k + t) / 4 = k from by omega, show (4 * k + t) % 4 = t from by omega]
    have p : ∀ t, 256 ^ (4 * k + t) = W k * 256 ^ t := by
      intro t; rw [Nat.pow_add]; congr 1; unfold W; rw [Nat.pow_mul]
    have e0 := e 0 (by omega); have e1 := e 1 (by omega); have e2 := e 2 (by omega); have e3 := e 3 (by omega)
    have p0 := p 0; have p1 := p 1; have p2 := p 2; have p3 := p 3
    simp only [Nat.add_zero, Nat.add_assoc] at *
    rw [e0, e1, e2, e3, p0, p1, p2, p3]
    generalize wd l k = x at *
    have key : x = 1 * (x / 1 % 256) + 256 * (x / 256 % 256) + 65536 * (x / 65536 % 256) + 16777216 * (x / 16777216 % 256) := by omega
    have k2 := congrArg (fun t => W k * t) key
    simp only [Nat.mul_add] at k2
    simp only [show 256 ^ 0 = 1 from rfl, show 256 ^ 1 = 256 from rfl, show 256 ^ 2 = 65536 from rfl, show 256 ^ 3 = 16777216 from rfl, Nat.mul_assoc]
    omega

/-- A byte of a number. -/
theorem byt_rep (N j : Nat) : byt (rep N) j = N / 256 ^ j % 256 := by
  unfold byt
  rw [rep_wd, ← W_256 j, ← Nat.div_div_eq_div_mul]
  generalize N / W (j / 4) = Y
  have h : j % 4 < 4 := Nat.mod_lt _ (by decide)
  rw [show (4294967296 : Nat) = 256 ^ (j % 4) * (256 * 256 ^ (3 - j % 4)) from by rw [← Nat.pow_succ', ← Nat.pow_add, show j % 4 + (3 - j % 4 + 1) = 4 from by omega]]
  rw [Nat.mod_mul_right_div_self, Nat.mod_mul_right_mod]

/-- Four bytes make a word. -/
theorem word_of_bytes {l : List Nat} (hl : Lim l) (k : Nat) : byt l (4 * k) + byt l (4 * k + 1) * 256 + byt l (4 * k + 2) * 65536 + byt l (4 * k + 3) * 16777216 = wd l k := by
  have hw := hl.wd k
  have e : ∀ t, t < 4 → byt l (4 * k + t) = wd l k / 256 ^ t % 256 := by
    intro t ht; unfold byt; rw [show (4 * k + t) / 4 = k from by omega, show (4 * k + t) % 4 = t from by omega]
  have e0 := e 0 (by omega); have e1 := e 1 (by omega); have e2 := e 2 (by omega); have e3 := e 3 (by omega)
  rw [Nat.add_zero] at e0
  rw [e0, e1, e2, e3]
  simp only [show 256 ^ 0 = 1 from rfl, show 256 ^ 1 = 256 from rfl, show 256 ^ 2 = 65536 from rfl, show 256 ^ 3 = 16777216 from rfl]
  omega
end Go.Proofs.YtbffpkmfhkphdaaGreatDoor.Limb

namespace Go.Proofs.YtbffpkmfhkphdaaGreatDoor.Limb
theorem len_add {x y m : Nat} (hx : (rep x).length ≤ m) (hy : (rep y).length ≤ m) : (rep (x + y)).length ≤ m + 1 := by
  rw [rep_length_le] at *
  rw [W_succ]; omega
theorem len_mul {x y m n : Nat} (hx : (rep x).length ≤ m) (hy : (rep y).length ≤ n) : (rep (x * y)).length ≤ m + n := by
  rw [rep_length_le] at *
  rw [W_add]
  exact Nat.mul_lt_mul'' hx hy
theorem len_of_le {x y m : Nat} (h : x ≤ y) (hy : (rep y).length ≤ m) : (rep x).length ≤ m := Nat.le_trans (rep_mono h) hy
theorem len_addI {x y : Int} {m : Nat} (hx : (rep x.natAbs).length ≤ m) (hy : (rep y.natAbs).length ≤ m) : (rep (x + y).natAbs).length ≤ m + 1 := len_of_le (by omega) (len_add hx hy)
theorem len_subI {x y : Int} {m : Nat} (hx : (rep x.natAbs).length ≤ m) (hy : (rep y.natAbs).length ≤ m) : (rep (x - y).natAbs).length ≤ m + 1 := len_of_le (by omega) (len_add hx hy)
theorem len_mulI {x y : Int} {m n : Nat} (hx : (rep x.natAbs).length ≤ m) (hy : (rep y.natAbs).length ≤ n) : (rep (x * y).natAbs).length ≤ m + n := by
  rw [Int.natAbs_mul]; exact len_mul hx hy
end Go.Proofs.YtbffpkmfhkphdaaGreatDoor.Limb

namespace Go.Proofs.YtbffpkmfhkphdaaGreatDoor.Limb

/-- The digits to base b, the lowest ahead. -/
def digs (b n : Nat) : List Nat := if h : n = 0 ∨ b < 2 then [] else n % b :: digs b (n / b)
termination_by n
decreasing_by exact Nat.div_lt_self (by omega) (by omega)

theorem digs_zero (b : Nat) : digs b 0 = [] := by rw [digs]; simp
theorem digs_pos {b n : Nat} (hb : 2 ≤ b) (hn : 0 < n) : digs b n = n % b :: digs b (n / b) := by
  rw [digs, dif_neg (by omega)]
theorem digs_lt {b : Nat} (hb : 2 ≤ b) (n : Nat) : ∀ d ∈ digs b n, d < b := by
  induction n using Nat.strongRecOn with
  | ind n ih =>
    by_cases hn : n = 0
    · subst hn; rw [digs_zero]; intro d h; cases h
    · rw [digs_pos hb (by omega)]
      intro d h
      rcases List.mem_cons.1 h with rfl | h
      · exact Nat.mod_lt _ (by omega)
      · exact ih _ (Nat.div_lt_self (by omega) (by omega)) d h
theorem digs_length {b : Nat} (hb : 2 ≤ b) (n k : Nat) (h : n < 2 ^ k) : (digs b n).length ≤ k := by
  induction k generalizing n with
  | zero => rw [show n = 0 by rw [Nat.pow_zero] at h; omega, digs_zero]; exact Nat.le_refl _
  | succ k ih =>
    by_cases hn : n = 0
    · subst hn; rw [digs_zero]; simp
    · rw [digs_pos hb (by omega)]
      have := ih (n / b) (by
        rw [Nat.pow_succ] at h
        have h1 : n / b ≤ n / 2 := Nat.div_le_div_left hb (by decide)
        omega)
      simp only [List.length_cons]; omega

/-- A digit's sign as a byte. -/
def sgn (d : Nat) : Nat := if d < 10 then 48 + d else 87 + d

/-- The text of a number. -/
def txt (b n : Nat) : List Nat := if n = 0 then [48] else (digs b n).reverse.map sgn

/-- What is written so far, l, and what is left, y, of N. -/
def Part (b N : Nat) (l : List Nat) (y : Nat) : Prop := (digs b N).map sgn = l ++ (digs b y).map sgn

theorem Part.start (b N : Nat) : Part b N [] N := rfl
theorem Part.step {b N y : Nat} {l : List Nat} (h : Part b N l y) (hb : 2 ≤ b) (hy : 0 < y) : Part b N (l ++ [sgn (y % b)]) (y / b) := by
  unfold Part at *
  rw [h, digs_pos hb hy]; simp
theorem Part.done {b N : Nat} {l : List Nat} (h : Part b N l 0) : l = (digs b N).map sgn := by
  unfold Part at h; rw [digs_zero] at h; simpa using h.symm
theorem Part.len {b N y : Nat} {l : List Nat} (h : Part b N l y) : l.length ≤ (digs b N).length := by
  have := congrArg List.length h
  simp at this; omega
theorem Part.len_lt {b N y : Nat} {l : List Nat} (h : Part b N l y) (hb : 2 ≤ b) (hy : 0 < y) : l.length < (digs b N).length := by
  have := congrArg List.length h
  rw [digs_pos hb hy] at this
  simp at this; omega
theorem Part.txt {b N : Nat} {l : List Nat} (h : Part b N l 0) (hN : N ≠ 0) : l.reverse = txt b N := by
  unfold Limb.txt; rw [if_neg hN, h.done, List.map_reverse]

/-- One digit of the number q * b^(m+1) + r, as the code takes it of r. -/
theorem part_digit {b q r m : Nat} (hb : 2 ≤ b) : (q * b ^ (m + 1) + r) % b = r % b ∧ (q * b ^ (m + 1) + r) / b = q * b ^ m + r / b := by
  have e : q * b ^ (m + 1) = b * (q * b ^ m) := by rw [Nat.pow_succ, ← Nat.mul_assoc, Nat.mul_comm]
  rw [e]
  exact ⟨by rw [Nat.mul_add_mod], by rw [Nat.mul_add_div (by omega)]⟩
theorem part_rest {b r m : Nat} (hb : 2 ≤ b) (h : r < b ^ (m + 1)) : r / b < b ^ m := by
  rw [Nat.div_lt_iff_lt_mul (by omega), ← Nat.pow_succ]; exact h
theorem part_pos {b q r m : Nat} (hb : 2 ≤ b) : 0 < q * b ^ m + r ↔ 0 < q ∨ 0 < r := by
  have : 0 < b ^ m := Nat.pow_pos (by omega)
  constructor
  · intro h
    rcases Nat.eq_zero_or_pos q with hq | hq
    · subst hq; right; simpa using h
    · exact .inl hq
  · rintro (h | h)
    · have := Nat.mul_pos h this; omega
    · omega

/-- A list of which the outer i entries on either side are exchanged. -/
def half (l : List Nat) (i : Nat) : List Nat := (List.range l.length).map fun t => if t < i ∨ l.length - 1 - t < i then wd l (l.length - 1 - t) else wd l t

theorem half_length (l : List Nat) (i : Nat) : (half l i).length = l.length := by simp [half]
theorem half_get (l : List Nat) (i t : Nat) (h : t < l.length) : wd (half l i) t = if t < i ∨ l.length - 1 - t < i then wd l (l.length - 1 - t) else wd l t := by
  rw [wd_lt (by rw [half_length]; exact h)]
  simp [half]
theorem half_zero (l : List Nat) : half l 0 = l := by
  apply ext_wd (half_length _ _)
  intro i hi
  rw [half_length] at hi
  rw [half_get _ _ _ hi, if_neg (by omega)]
theorem wd_reverse (l : List Nat) (i : Nat) (h : i < l.length) : wd l.reverse i = wd l (l.length - 1 - i) := by
  rw [wd_lt (by simpa using h), wd_lt (by omega)]
  simp
theorem half_done (l : List Nat) (i : Nat) (h : l.length ≤ 2 * i + 1) : half l i = l.reverse := by
  apply ext_wd (by rw [half_length]; simp)
  intro t ht
  rw [half_length] at ht
  rw [half_get _ _ _ ht, wd_reverse _ _ ht]
  split
  · rfl
  · rename_i hn; rw [show l.length - 1 - t = t by omega]
theorem half_step (l : List Nat) (i j : Nat) (hij : i < j) (hj : i + j + 1 = l.length) : ((half l i).set i (wd (half l i) j)).set j (wd (half l i) i) = half l (i + 1) := by
  apply ext_wd (by simp [half_length])
  intro t ht
  rw [List.length_set, List.length_set, half_length] at ht
  rw [half_get l (i + 1) t ht]
  have ei : wd (half l i) i = wd l i := by rw [half_get _ _ _ (by omega), if_neg (by omega)]
  have ej : wd (half l i) j = wd l j := by rw [half_get _ _ _ (by omega), if_neg (by omega)]
  rw [ei, ej]
  by_cases h1 : t = j
  · subst h1
    rw [if_pos (by omega), wd_lt (by simp [half_length]; omega)]
    simp
    rw [show l.length - 1 - t = i by omega]
  · by_cases h2 : t = i
    · subst h2
      rw [if_pos (by omega), wd_lt (by simp [half_length]; omega), List.getElem_set_ne (by omega), List.getElem_set_self]
      rw [show l.length - 1 - t = j by omega]
    · rw [wd_lt (by simp [half_length]; omega), List.getElem_set_ne (by omega), List.getElem_set_ne (by omega), ← wd_lt, half_get _ _ _ ht]
      by_cases h3 : t < i ∨ l.length - 1 - t < i
      · rw [if_pos h3, if_pos (by omega)]
      · rw [if_neg h3, if_neg (by omega)]

end Go.Proofs.YtbffpkmfhkphdaaGreatDoor.Limb

namespace Go.Proofs.YtbffpkmfhkphdaaGreatDoor.Limb
open Go

/-- The upper part of A, down to bit i, over B: the quotient's bits so far, and the remainder. -/
structure PInv (A B i : Nat) (qs : List Nat) (r : Nat) : Prop where
  eq : A / 2 ^ i = val qs / 2 ^ i * B + r
  lt : r < B
  low : val qs % 2 ^ i = 0

theorem PInv.start {A B n : Nat} (hB : 0 < B) (hA : A < 2 ^ (32 * n)) : PInv A B (32 * n) (List.replicate n 0) 0 :=
  ⟨by rw [Nat.div_eq_of_lt hA, val_replicate, Nat.zero_div, Nat.zero_mul], hB, by rw [val_replicate, Nat.zero_mod]⟩
theorem PInv.done {A B : Nat} {qs : List Nat} {r : Nat} (h : PInv A B 0 qs r) : val qs = A / B ∧ r = A % B := by
  have e := h.eq
  rw [Nat.pow_zero, Nat.div_one, Nat.div_one] at e
  have hl := h.lt
  rw [e, Nat.mul_comm, Nat.mul_add_div (by omega), Nat.mul_add_mod, Nat.div_eq_of_lt hl, Nat.mod_eq_of_lt hl]
  exact ⟨rfl, rfl⟩
theorem up_bit (A i : Nat) : A / 2 ^ i = 2 * (A / 2 ^ (i + 1)) + A / 2 ^ i % 2 := by
  rw [Nat.pow_succ, ← Nat.div_div_eq_div_mul]; omega
theorem low_bit {V i : Nat} (h : V % 2 ^ (i + 1) = 0) : V % 2 ^ i = 0 ∧ V / 2 ^ i = 2 * (V / 2 ^ (i + 1)) := by
  have h1 := Nat.div_add_mod V (2 ^ (i + 1))
  rw [h, Nat.add_zero] at h1
  have h2 : V = 2 ^ i * (2 * (V / 2 ^ (i + 1))) := by
    conv => lhs; rw [← h1]
    rw [← Nat.mul_assoc, ← Nat.pow_succ]
  constructor
  · rw [h2]; exact Nat.mul_mod_right _ _
  · conv => lhs; rw [h2]
    exact Nat.mul_div_cancel_left _ (Nat.pow_pos (by decide))
theorem PInv.small {A B i : Nat} {qs : List Nat} {r : Nat} (h : PInv A B (i + 1) qs r) (hr : r + r + A / 2 ^ i % 2 < B) : PInv A B i qs (r + r + A / 2 ^ i % 2) := by
  obtain ⟨l1, l2⟩ := low_bit h.low
  refine ⟨?_, hr, l1⟩
  have u := up_bit A i
  have e := h.eq
  generalize A / 2 ^ i % 2 = b at *
  rw [u, e, l2, Nat.mul_add, Nat.mul_assoc]
  generalize val qs / 2 ^ (i + 1) * B = t at *
  omega
theorem PInv.great {A B i : Nat} {qs qs' : List Nat} {r : Nat} (h : PInv A B (i + 1) qs r) (hr : B ≤ r + r + A / 2 ^ i % 2) (hq : val qs' = val qs + 2 ^ i) : PInv A B i qs' (r + r + A / 2 ^ i % 2 - B) := by
  obtain ⟨l1, l2⟩ := low_bit h.low
  have hp : 0 < 2 ^ i := Nat.pow_pos (by decide)
  have hlt := h.lt
  have hb2 : A / 2 ^ i % 2 < 2 := Nat.mod_lt _ (by decide)
  refine ⟨?_, by omega, by rw [hq, Nat.add_mod_right]; exact l1⟩
  have u := up_bit A i
  have e := h.eq
  generalize A / 2 ^ i % 2 = b at *
  have k : ∀ v, (2 * v).succ * B = 2 * (v * B) + B := fun v => by rw [Nat.succ_mul, Nat.mul_assoc]
  rw [u, e, hq, Nat.add_div_right _ hp, l2, k, Nat.mul_add]
  generalize val qs / 2 ^ (i + 1) * B = t at *
  omega

/-- The bit i of a list whose bits from i down are 0. -/
theorem set_bit {qs : List Nat} {i : Nat} (hl : Lim qs) (hi : i / 32 < qs.length) (h : val qs % 2 ^ (i + 1) = 0) :
    wd qs (i / 32) % 2 ^ (i % 32 + 1) = 0 ∧ wd qs (i / 32) + 2 ^ (i % 32) < 4294967296 ∧ val (qs.set (i / 32) (wd qs (i / 32) + 2 ^ (i % 32))) = val qs + 2 ^ i := by
  have hw := wd_val hl (i / 32)
  have hlt := hl.wd (i / 32)
  have hr : i % 32 < 32 := Nat.mod_lt _ (by decide)
  generalize hd : i / 32 = d at *
  generalize hrr : i % 32 = r at *
  have hi2 : 2 ^ i = 2 ^ r * W d := by rw [pow_split i, hd, hrr]
  have e1 : 2 ^ (i + 1) = W d * 2 ^ (r + 1) := by rw [Nat.pow_succ, hi2, Nat.pow_succ, Nat.mul_comm (2 ^ r), Nat.mul_assoc]
  have hz : wd qs d % 2 ^ (r + 1) = 0 := by
    rw [hw, show 4294967296 = 2 ^ (r + 1) * 2 ^ (31 - r) from by rw [← Nat.pow_add, show r + 1 + (31 - r) = 32 from by omega], Nat.mod_mul_right_mod]
    rw [e1, Nat.mod_mul] at h
    have h2 : W d * (val qs / W d % 2 ^ (r + 1)) = 0 := by omega
    rcases Nat.mul_eq_zero.1 h2 with h3 | h3
    · have := W_pos d; omega
    · exact h3
  refine ⟨hz, ?_, ?_⟩
  · have e2 : (2 : Nat) ^ (r + 1) * 2 ^ (31 - r) = 4294967296 := by rw [← Nat.pow_add, show r + 1 + (31 - r) = 32 from by omega]
    have e3 : (2 : Nat) ^ (r + 1) = 2 ^ r + 2 ^ r := by rw [Nat.pow_succ]; omega
    have hp : 0 < 2 ^ r := Nat.pow_pos (by decide)
    have h4 := Nat.div_add_mod (wd qs d) (2 ^ (r + 1))
    rw [hz, Nat.add_zero] at h4
    have h5 : wd qs d / 2 ^ (r + 1) < 2 ^ (31 - r) := by
      rw [Nat.div_lt_iff_lt_mul (by omega), Nat.mul_comm, e2]; exact hlt
    have h6 := Nat.mul_le_mul_left (2 ^ (r + 1)) (show wd qs d / 2 ^ (r + 1) + 1 ≤ 2 ^ (31 - r) from h5)
    rw [Nat.mul_add, Nat.mul_one, e2] at h6
    omega
  · have t1 := val_take_drop (qs.set d (wd qs d + 2 ^ r)) (d + 1) (by rw [List.length_set]; omega)
    have t2 := val_take_drop qs (d + 1) (by omega)
    rw [val_set_take _ hi, List.drop_set_of_lt (by omega)] at t1
    rw [val_take_succ] at t2
    rw [t1, t2, hi2, Nat.mul_add, Nat.mul_comm (W d) (2 ^ r)]
    omega

theorem part_or {z r : Nat} (hr : r < 32) (hz : z % 2 ^ (r + 1) = 0) (hl : z + 2 ^ r < 4294967296) : bits .or .u32 (z : Int) ((2 ^ r : Nat) : Int) = ((z + 2 ^ r : Nat) : Int) := by
  have hp : 2 ^ r < 2 ^ (r + 1) := Nat.pow_lt_pow_right (by decide) (by omega)
  rw [u32_or_nat _ _ (by omega) (by omega), nat_join (r + 1) _ _ hz hp]

end Go.Proofs.YtbffpkmfhkphdaaGreatDoor.Limb
