/- Plain arithmetic of numbers written in words of 32 bits, the lowest ahead. -/
namespace Go.Proofs.YtdhapmlgapflbaaGreatDoor.Limb

def val : List Nat → Nat
  | [] => 0
  | d :: t => d + 4294967296 * val t

def W (k : Nat) : Nat := 4294967296 ^ k

theorem W_zero : W 0 = 1 := rfl
theorem W_succ (k : Nat) : W (k + 1) = 4294967296 * W k := by unfold W; rw [Nat.pow_succ]; omega
theorem W_one : W 1 = 4294967296 := by decide
theorem W_pos (k : Nat) : 0 < W k := by unfold W; exact Nat.pow_pos (by decide)
theorem W_add (a b : Nat) : W (a + b) = W a * W b := by unfold W; rw [Nat.pow_add]
theorem W_two (k : Nat) : W k = 2 ^ (32 * k) := by
  unfold W; rw [Nat.pow_mul]
theorem W_mono {a b : Nat} (h : a ≤ b) : W a ≤ W b := by
  unfold W; exact Nat.pow_le_pow_right (by decide) h
theorem W_lt {a b : Nat} (h : a < b) : W a < W b := by
  unfold W; exact Nat.pow_lt_pow_right (by decide) h

/-- A word of a list; 0 beyond its end. -/
def wd (l : List Nat) (i : Nat) : Nat := l.getD i 0
theorem wd_lt {l : List Nat} {i : Nat} (h : i < l.length) : wd l i = l[i] := by
  unfold wd; rw [List.getD_eq_getElem?_getD, List.getElem?_eq_getElem h]; rfl
theorem wd_ge {l : List Nat} {i : Nat} (h : l.length ≤ i) : wd l i = 0 := by
  unfold wd; rw [List.getD_eq_getElem?_getD, List.getElem?_eq_none h]; rfl
theorem wd_take {l : List Nat} {i k : Nat} (h : i < k) : wd (l.take k) i = wd l i := by
  unfold wd; simp only [List.getD_eq_getElem?_getD]; rw [List.getElem?_take_of_lt h]
theorem wd_drop (l : List Nat) (i k : Nat) : wd (l.drop k) i = wd l (k + i) := by
  unfold wd; simp [List.getD_eq_getElem?_getD]
theorem wd_set {l : List Nat} {i d : Nat} (h : i < l.length) (j : Nat) : wd (l.set i d) j = if j = i then d else wd l j := by
  unfold wd
  simp only [List.getD_eq_getElem?_getD, List.getElem?_set]
  by_cases hj : j = i
  · subst hj; simp [h]
  · rw [if_neg (by omega), if_neg hj]
theorem wd_append_lt {a b : List Nat} {i : Nat} (h : i < a.length) : wd (a ++ b) i = wd a i := by
  unfold wd; simp only [List.getD_eq_getElem?_getD]; rw [List.getElem?_append_left h]
theorem wd_append_ge {a b : List Nat} {i : Nat} (h : a.length ≤ i) : wd (a ++ b) i = wd b (i - a.length) := by
  unfold wd; simp only [List.getD_eq_getElem?_getD]; rw [List.getElem?_append_right h]
theorem wd_replicate (n i : Nat) : wd (List.replicate n 0) i = 0 := by
  unfold wd; simp [List.getD_eq_getElem?_getD, List.getElem?_replicate]; split <;> rfl
theorem take_wd {l : List Nat} {k : Nat} (h : k < l.length) : l.take (k + 1) = l.take k ++ [wd l k] := by
  rw [List.take_succ_eq_append_getElem h, wd_lt h]
theorem ext_wd {a b : List Nat} (h : a.length = b.length) (hw : ∀ i, i < a.length → wd a i = wd b i) : a = b := by
  apply List.ext_getElem h
  intro i h1 h2
  have := hw i h1; rwa [wd_lt h1, wd_lt h2] at this

def Lim (l : List Nat) : Prop := ∀ x ∈ l, x < 4294967296

theorem Lim.nil : Lim [] := by intro x h; cases h
theorem Lim.cons {d : Nat} {t : List Nat} (h : d < 4294967296) (ht : Lim t) : Lim (d :: t) := by
  intro x hx; cases hx with
  | head => exact h
  | tail _ hx => exact ht x hx
theorem Lim.head {d : Nat} {t : List Nat} (h : Lim (d :: t)) : d < 4294967296 := h d (by simp)
theorem Lim.tail {d : Nat} {t : List Nat} (h : Lim (d :: t)) : Lim t := fun x hx => h x (by simp [hx])
theorem Lim.append {a b : List Nat} (ha : Lim a) (hb : Lim b) : Lim (a ++ b) := by
  intro x hx; rcases List.mem_append.1 hx with h | h
  · exact ha x h
  · exact hb x h
theorem Lim.left {a b : List Nat} (h : Lim (a ++ b)) : Lim a := fun x hx => h x (by simp [hx])
theorem Lim.right {a b : List Nat} (h : Lim (a ++ b)) : Lim b := fun x hx => h x (by simp [hx])
theorem Lim.take {l : List Nat} (h : Lim l) (k : Nat) : Lim (l.take k) := fun x hx => h x (List.mem_of_mem_take hx)
theorem Lim.drop {l : List Nat} (h : Lim l) (k : Nat) : Lim (l.drop k) := fun x hx => h x (List.mem_of_mem_drop hx)
theorem Lim.set {l : List Nat} (h : Lim l) {i d : Nat} (hd : d < 4294967296) : Lim (l.set i d) := by
  intro x hx; rcases List.mem_or_eq_of_mem_set hx with h' | h'
  · exact h x h'
  · rw [h']; exact hd
theorem Lim.wd {l : List Nat} (h : Lim l) (i : Nat) : wd l i < 4294967296 := by
  unfold Limb.wd
  rw [List.getD_eq_getElem?_getD]
  cases hx : l[i]? with
  | none => simp
  | some x => simp only [Option.getD_some]; exact h x (List.mem_of_getElem? hx)
theorem Lim.replicate (n : Nat) {d : Nat} (h : d < 4294967296) : Lim (List.replicate n d) := by
  intro x hx; rw [(List.mem_replicate.1 hx).2]; exact h

theorem val_append (a b : List Nat) : val (a ++ b) = val a + W a.length * val b := by
  induction a with
  | nil => simp [val, W_zero]
  | cons d t ih =>
    simp only [List.cons_append, val, ih, List.length_cons, W_succ]
    rw [Nat.mul_add, Nat.mul_assoc]; omega

theorem val_lt {l : List Nat} (h : Lim l) : val l < W l.length := by
  induction l with
  | nil => simp [val, W_zero]
  | cons d t ih =>
    have h1 := ih h.tail
    have h2 := h.head
    simp only [val, List.length_cons, W_succ]; omega

theorem val_replicate (n : Nat) : val (List.replicate n 0) = 0 := by
  induction n with
  | zero => rfl
  | succ n ih => simp [List.replicate_succ, val, ih]

theorem val_snoc (l : List Nat) (d : Nat) : val (l ++ [d]) = val l + W l.length * d := by
  rw [val_append]; simp [val]

theorem val_take_drop (l : List Nat) (k : Nat) (hk : k ≤ l.length) : val l = val (l.take k) + W k * val (l.drop k) := by
  have h := val_append (l.take k) (l.drop k)
  rw [List.take_append_drop, List.length_take, Nat.min_eq_left hk] at h
  exact h

theorem val_take {l : List Nat} (h : Lim l) (k : Nat) : val (l.take k) = val l % W k := by
  by_cases hk : k ≤ l.length
  · rw [val_take_drop l k hk, Nat.add_mul_mod_self_left, Nat.mod_eq_of_lt]
    have := val_lt (h.take k); rwa [List.length_take, Nat.min_eq_left hk] at this
  · rw [List.take_of_length_le (by omega), Nat.mod_eq_of_lt]
    exact Nat.lt_of_lt_of_le (val_lt h) (W_mono (by omega))

theorem val_drop {l : List Nat} (h : Lim l) (k : Nat) : val (l.drop k) = val l / W k := by
  by_cases hk : k ≤ l.length
  · rw [val_take_drop l k hk, Nat.add_mul_div_left _ _ (W_pos k), Nat.div_eq_of_lt, Nat.zero_add]
    have := val_lt (h.take k); rwa [List.length_take, Nat.min_eq_left hk] at this
  · rw [List.drop_of_length_le (by omega), Nat.div_eq_of_lt]; · rfl
    exact Nat.lt_of_lt_of_le (val_lt h) (W_mono (by omega))

theorem wd_val {l : List Nat} (h : Lim l) (i : Nat) : wd l i = val l / W i % 4294967296 := by
  unfold wd
  induction l generalizing i with
  | nil => simp [val]
  | cons d t ih =>
    have hd := h.head
    cases i with
    | zero => simp [val, W_zero]; omega
    | succ i =>
      rw [List.getD_cons_succ, ih h.tail, val, W_succ, ← Nat.div_div_eq_div_mul]
      congr 2; omega

/-- A number in words, without noughts at the end. -/
def repF : Nat → Nat → List Nat
  | 0, _ => []
  | f + 1, n => if n = 0 then [] else n % 4294967296 :: repF f (n / 4294967296)
def rep (n : Nat) : List Nat := repF n n

theorem repF_enough (f g n : Nat) (hf : n ≤ f) (hg : n ≤ g) : repF f n = repF g n := by
  induction f generalizing g n with
  | zero =>
    have : n = 0 := by omega
    subst this
    cases g <;> simp [repF]
  | succ f ih =>
    by_cases h0 : n = 0
    · subst h0; cases g <;> simp [repF]
    · cases g with
      | zero => omega
      | succ g =>
        simp only [repF, if_neg h0]
        rw [ih g (n / 4294967296) (by omega) (by omega)]

theorem rep_zero : rep 0 = [] := rfl
theorem rep_pos {n : Nat} (h : n ≠ 0) : rep n = n % 4294967296 :: rep (n / 4294967296) := by
  unfold rep
  cases n with
  | zero => exact absurd rfl h
  | succ n =>
    rw [show repF (n + 1) (n + 1) = (n + 1) % 4294967296 :: repF n ((n + 1) / 4294967296) from by simp [repF]]
    rw [repF_enough n _ _ (by omega) (Nat.le_refl _)]

theorem rep_ind {p : Nat → Prop} (h0 : p 0) (h1 : ∀ n, n ≠ 0 → p (n / 4294967296) → p n) (n : Nat) : p n := by
  induction n using Nat.strongRecOn with
  | ind n ih =>
    by_cases h : n = 0
    · rw [h]; exact h0
    · exact h1 n h (ih _ (by omega))

theorem val_rep (n : Nat) : val (rep n) = n := by
  induction n using rep_ind with
  | h0 => rfl
  | h1 n h ih => rw [rep_pos h, val, ih]; omega

theorem rep_lim (n : Nat) : Lim (rep n) := by
  induction n using rep_ind with
  | h0 => exact Lim.nil
  | h1 n h ih => rw [rep_pos h]; exact Lim.cons (Nat.mod_lt _ (by decide)) ih

/-- No nought at the end. -/
def Norm (l : List Nat) : Prop := l.getLast? ≠ some 0

theorem rep_norm (n : Nat) : Norm (rep n) := by
  induction n using rep_ind with
  | h0 => simp [Norm, rep_zero]
  | h1 n h ih =>
    rw [rep_pos h]
    unfold Norm at *
    rw [List.getLast?_cons]
    cases hl : (rep (n / 4294967296)).getLast? with
    | none =>
      have : rep (n / 4294967296) = [] := by simpa using hl
      have hv := val_rep (n / 4294967296)
      rw [this] at hv; simp [val] at hv
      simp; omega
    | some x => rw [hl] at ih; simpa using ih

theorem rep_val {l : List Nat} (h : Lim l) (hn : Norm l) : rep (val l) = l := by
  induction l with
  | nil => rfl
  | cons d t ih =>
    have hd := h.head
    have hne : val (d :: t) ≠ 0 := by
      intro e
      simp only [val] at e
      have hd0 : d = 0 := by omega
      have ht0 : val t = 0 := by omega
      cases t with
      | nil => subst hd0; simp [Norm] at hn
      | cons d' t' =>
        have ih' := ih h.tail (by simpa [Norm, List.getLast?_cons] using hn)
        rw [ht0, rep_zero] at ih'; simp at ih'
    rw [rep_pos hne]
    have e1 : val (d :: t) % 4294967296 = d := by simp only [val]; omega
    have e2 : val (d :: t) / 4294967296 = val t := by simp only [val]; omega
    rw [e1, e2]
    cases t with
    | nil => rfl
    | cons d' t' => rw [ih h.tail (by simpa [Norm, List.getLast?_cons] using hn)]

theorem rep_length_le {n k : Nat} : (rep n).length ≤ k ↔ n < W k := by
  induction n using rep_ind generalizing k with
  | h0 => simp [rep_zero, W_pos]
  | h1 n h ih =>
    rw [rep_pos h, List.length_cons]
    cases k with
    | zero => simp [W_zero]; omega
    | succ k =>
      rw [Nat.add_le_add_iff_right, ih, W_succ]
      omega

theorem rep_length_lt {n k : Nat} : k < (rep n).length ↔ W k ≤ n := by
  have := @rep_length_le n k; omega

theorem rep_len_lo {n : Nat} (h : n ≠ 0) : W ((rep n).length - 1) ≤ n := by
  have : (rep n).length ≠ 0 := by rw [rep_pos h]; simp
  exact rep_length_lt.1 (by omega)
theorem rep_len_hi (n : Nat) : n < W (rep n).length := rep_length_le.1 (Nat.le_refl _)

theorem rep_mono {m n : Nat} (h : m ≤ n) : (rep m).length ≤ (rep n).length :=
  rep_length_le.2 (Nat.lt_of_le_of_lt h (rep_len_hi n))

theorem rep_wd (n i : Nat) : wd (rep n) i = n / W i % 4294967296 := by
  rw [wd_val (rep_lim n), val_rep]

theorem rep_inj {m n : Nat} (h : rep m = rep n) : m = n := by
  have := congrArg val h; rwa [val_rep, val_rep] at this

theorem rep_nil {n : Nat} : rep n = [] ↔ n = 0 := by
  constructor
  · intro h; exact rep_inj h
  · intro h; rw [h]; rfl

theorem rep_length_zero {n : Nat} : (rep n).length = 0 ↔ n = 0 := by
  rw [List.length_eq_zero_iff, rep_nil]

/-- What 'norm' keeps: the part ahead of the noughts at the end. -/
theorem rep_prefix {l : List Nat} (h : Lim l) : rep (val l) = l.take (rep (val l)).length := by
  have hle : (rep (val l)).length ≤ l.length := rep_length_le.2 (val_lt h)
  have hd : val (l.drop (rep (val l)).length) = 0 := by
    rw [val_drop h]; exact Nat.div_eq_of_lt (rep_len_hi _)
  have hv : val (l.take (rep (val l)).length) = val l := by
    have := val_take_drop l _ hle; rw [hd] at this; omega
  apply ext_wd
  · rw [List.length_take, Nat.min_eq_left hle]
  · intro i h1
    rw [rep_wd, wd_take h1, wd_val h]

theorem val_snoc_wd {l : List Nat} {k : Nat} (h : k < l.length) : val (l.take (k + 1)) = val (l.take k) + W k * wd l k := by
  rw [take_wd h, val_snoc, List.length_take, Nat.min_eq_left (by omega)]

theorem take_set_self (l : List Nat) (k d : Nat) : (l.set k d).take k = l.take k := by
  rw [List.take_set, List.set_eq_of_length_le (by simp; omega)]
theorem take_set_gt (l : List Nat) {j k : Nat} (d : Nat) (h : j ≤ k) : (l.set k d).take j = l.take j := by
  rw [List.take_set, List.set_eq_of_length_le (by simp; omega)]
theorem val_set_take {l : List Nat} {k : Nat} (d : Nat) (h : k < l.length) : val ((l.set k d).take (k + 1)) = val (l.take k) + W k * d := by
  rw [val_snoc_wd (by rw [List.length_set]; exact h), take_set_self, wd_set h, if_pos rfl]
theorem val_set_end {l : List Nat} {k : Nat} (d : Nat) (h : l.length = k + 1) : val (l.set k d) = val (l.take k) + W k * d := by
  rw [← val_set_take d (by omega), List.take_of_length_le (by rw [List.length_set]; omega)]
/-- The words ahead, one more of them, beyond the end too. -/
theorem val_take_succ (l : List Nat) (k : Nat) : val (l.take (k + 1)) = val (l.take k) + W k * wd l k := by
  by_cases hl : k < l.length
  · exact val_snoc_wd hl
  · rw [List.take_of_length_le (by omega), List.take_of_length_le (by omega), wd_ge (by omega)]; simp
theorem rep_val_le {l : List Nat} (h : Lim l) : (rep (val l)).length ≤ l.length := rep_length_le.2 (val_lt h)

end Go.Proofs.YtdhapmlgapflbaaGreatDoor.Limb
