/- Plain arithmetic of numbers written in words of 32 bits, the lowest ahead. A law for a region that draws its order, whose last operations wait for all the others: what the head's loads read (S) need hold only while an operation of the head has not come up. PrimCopies: two facts more that are looked up of the program. -/
import Derived.OrdersHeld
import Derived.StillTail
import Derived.Test.YteiikhcadjdkcaaGreatDoorRows
import Derived.SevenTiedAt
import Derived.ProofKit
set_option linter.unusedVariables false
set_option linter.unusedSimpArgs false
namespace Go.Proofs.YteiikhcadjdkcaaGreatDoor.Limb
def val : List Nat → Nat
  | [] => 0
  | d :: t => d + 4294967296 * val t
def W (k : Nat) : Nat := 4294967296 ^ k
theorem W_zero : W 0 = 1 := rfl
theorem W_succ (k : Nat) : W (k + 1) = 4294967296 * W k := by unfold W; rw [Nat.pow_succ]; omega
theorem W_pos (k : Nat) : 0 < W k := by unfold W; exact Nat.pow_pos (by decide)
theorem W_add (a b : Nat) : W (a + b) = W a * W b := by unfold W; rw [Nat.pow_add]
theorem W_mono {a b : Nat} (h : a ≤ b) : W a ≤ W b := by
  unfold W; exact Nat.pow_le_pow_right (by decide) h
def wd (l : List Nat) (i : Nat) : Nat := l.getD i 0
theorem wd_lt {l : List Nat} {i : Nat} (h : i < l.length) : wd l i = l[i] := by
  unfold wd; rw [List.getD_eq_getElem?_getD, List.getElem?_eq_getElem h]; rfl
theorem wd_ge {l : List Nat} {i : Nat} (h : l.length ≤ i) : wd l i = 0 := by
  unfold wd; rw [List.getD_eq_getElem?_getD, List.getElem?_eq_none h]; rfl
theorem wd_take {l : List Nat} {i k : Nat} (h : i < k) : wd (l.take k) i = wd l i := by
  unfold wd; simp only [List.getD_eq_getElem?_getD]; rw [List.getElem?_take_of_lt h]
theorem wd_drop (l : List Nat) (i k : Nat) : wd (l.drop k) i = wd l (k + i) := by
  unfold wd; simp [List.getD_eq_getElem?_getD]
theorem wd_set {l : List Nat} {i d : Nat} (h : i < l.length) (j : Nat) : wd (l.set i d) j = if j = i then d else wd l j := by
  unfold wd
  simp only [List.getD_eq_getElem?_getD, List.getElem?_set]
  by_cases hj : j = i
  · subst hj; simp [h]
  · rw [if_neg (by omega), if_neg hj]
theorem wd_append_lt {a b : List Nat} {i : Nat} (h : i < a.length) : wd (a ++ b) i = wd a i := by
  unfold wd; simp only [List.getD_eq_getElem?_getD]; rw [List.getElem?_append_left h]
theorem wd_append_ge {a b : List Nat} {i : Nat} (h : a.length ≤ i) : wd (a ++ b) i = wd b (i - a.length) := by
  unfold wd; simp only [List.getD_eq_getElem?_getD]; rw [List.getElem?_append_right h]
theorem wd_replicate (n i : Nat) : wd (List.replicate n 0) i = 0 := by
  unfold wd; simp [List.getD_eq_getElem?_getD, List.getElem?_replicate]; split <;> rfl
theorem take_wd {l : List Nat} {k : Nat} (h : k < l.length) : l.take (k + 1) = l.take k ++ [wd l k] := by
  rw [List.take_succ_eq_append_getElem h, wd_lt h]
theorem ext_wd {a b : List Nat} (h : a.length = b.length) (hw : ∀ i, i < a.length → wd a i = wd b i) : a = b := by
  apply List.ext_getElem h
  intro i h1 h2
  have := hw i h1; rwa [wd_lt h1, wd_lt h2] at this
def Lim (l : List Nat) : Prop := ∀ x ∈ l, x < 4294967296
theorem Lim.nil : Lim [] := by intro x h; cases h
theorem Lim.cons {d : Nat} {t : List Nat} (h : d < 4294967296) (ht : Lim t) : Lim (d :: t) := by
  intro x hx; cases hx with
  | head => exact h
  | tail _ hx => exact ht x hx
theorem Lim.head {d : Nat} {t : List Nat} (h : Lim (d :: t)) : d < 4294967296 := h d (by simp)
theorem Lim.tail {d : Nat} {t : List Nat} (h : Lim (d :: t)) : Lim t := fun x hx => h x (by simp [hx])
theorem Lim.append {a b : List Nat} (ha : Lim a) (hb : Lim b) : Lim (a ++ b) := by
  intro x hx; rcases List.mem_append.1 hx with h | h
  · exact ha x h
  · exact hb x h
theorem Lim.take {l : List Nat} (h : Lim l) (k : Nat) : Lim (l.take k) := fun x hx => h x (List.mem_of_mem_take hx)
theorem Lim.drop {l : List Nat} (h : Lim l) (k : Nat) : Lim (l.drop k) := fun x hx => h x (List.mem_of_mem_drop hx)
theorem Lim.set {l : List Nat} (h : Lim l) {i d : Nat} (hd : d < 4294967296) : Lim (l.set i d) := by
  intro x hx; rcases List.mem_or_eq_of_mem_set hx with h' | h'
  · exact h x h'
  · rw [h']; exact hd
theorem Lim.wd {l : List Nat} (h : Lim l) (i : Nat) : wd l i < 4294967296 := by
  unfold Limb.wd
  rw [List.getD_eq_getElem?_getD]
  cases hx : l[i]? with
  | none => simp
  | some x => simp only [Option.getD_some]; exact h x (List.mem_of_getElem? hx)
theorem Lim.replicate (n : Nat) {d : Nat} (h : d < 4294967296) : Lim (List.replicate n d) := by
  intro x hx; rw [(List.mem_replicate.1 hx).2]; exact h
theorem val_append (a b : List Nat) : val (a ++ b) = val a + W a.length * val b := by
  induction a with
  | nil => simp [val, W_zero]
  | cons d t ih =>
    simp only [List.cons_append, val, ih, List.length_cons, W_succ]
    rw [Nat.mul_add, Nat.mul_assoc]; omega
theorem val_lt {l : List Nat} (h : Lim l) : val l < W l.length := by
  induction l with
  | nil => simp [val, W_zero]
  | cons d t ih =>
    have h1 := ih h.tail
    have h2 := h.head
    simp only [val, List.length_cons, W_succ]; omega
theorem val_replicate (n : Nat) : val (List.replicate n 0) = 0 := by
  induction n with
  | zero => rfl
  | succ n ih => simp [List.replicate_succ, val, ih]
theorem val_take_drop (l : List Nat) (k : Nat) (hk : k ≤ l.length) : val l = val (l.take k) + W k * val (l.drop k) := by
  have h := val_append (l.take k) (l.drop k)
  rw [List.take_append_drop, List.length_take, Nat.min_eq_left hk] at h
  exact h
theorem val_take {l : List Nat} (h : Lim l) (k : Nat) : val (l.take k) = val l % W k := by
  by_cases hk : k ≤ l.length
  · rw [val_take_drop l k hk, Nat.add_mul_mod_self_left, Nat.mod_eq_of_lt]
    have := val_lt (h.take k); rwa [List.length_take, Nat.min_eq_left hk] at this
  · rw [List.take_of_length_le (by omega), Nat.mod_eq_of_lt]
    exact Nat.lt_of_lt_of_le (val_lt h) (W_mono (by omega))
theorem val_drop {l : List Nat} (h : Lim l) (k : Nat) : val (l.drop k) = val l / W k := by
  by_cases hk : k ≤ l.length
  · rw [val_take_drop l k hk, Nat.add_mul_div_left _ _ (W_pos k), Nat.div_eq_of_lt, Nat.zero_add]
    have := val_lt (h.take k); rwa [List.length_take, Nat.min_eq_left hk] at this
  · rw [List.drop_of_length_le (by omega), Nat.div_eq_of_lt]; · rfl
    exact Nat.lt_of_lt_of_le (val_lt h) (W_mono (by omega))
theorem wd_val {l : List Nat} (h : Lim l) (i : Nat) : wd l i = val l / W i % 4294967296 := by
  unfold wd
  induction l generalizing i with
  | nil => simp [val]
  | cons d t ih =>
    have hd := h.head
    cases i with
    | zero => simp [val, W_zero]; omega
    | succ i =>
      rw [List.getD_cons_succ, ih h.tail, val, W_succ, ← Nat.div_div_eq_div_mul]
      congr 2; omega
def repF : Nat → Nat → List Nat
  | 0, _ => []
  | f + 1, n => if n = 0 then [] else n % 4294967296 :: repF f (n / 4294967296)
def rep (n : Nat) : List Nat := repF n n
theorem repF_enough (f g n : Nat) (hf : n ≤ f) (hg : n ≤ g) : repF f n = repF g n := by
  induction f generalizing g n with
  | zero =>
    have : n = 0 := by omega
    subst this
    cases g <;> simp [repF]
  | succ f ih =>
    by_cases h0 : n = 0
    · subst h0; cases g <;> simp [repF]
    · cases g with
      | zero => omega
      | succ g =>
        simp only [repF, if_neg h0]
        rw [ih g (n / 4294967296) (by omega) (by omega)]
theorem rep_zero : rep 0 = [] := rfl
theorem rep_pos {n : Nat} (h : n ≠ 0) : rep n = n % 4294967296 :: rep (n / 4294967296) := by
  unfold rep
  cases n with
  | zero => exact absurd rfl h
  | succ n =>
    rw [show repF (n + 1) (n + 1) = (n + 1) % 4294967296 :: repF n ((n + 1) / 4294967296) from by simp [repF]]
    rw [repF_enough n _ _ (by omega) (Nat.le_refl _)]
theorem rep_ind {p : Nat → Prop} (h0 : p 0) (h1 : ∀ n, n ≠ 0 → p (n / 4294967296) → p n) (n : Nat) : p n := by
  induction n using Nat.strongRecOn with
  | ind n ih =>
    by_cases h : n = 0
    · rw [h]; exact h0
    · exact h1 n h (ih _ (by omega))
def Norm (l : List Nat) : Prop := l.getLast? ≠ some 0
theorem rep_val {l : List Nat} (h : Lim l) (hn : Norm l) : rep (val l) = l := by
  induction l with
  | nil => rfl
  | cons d t ih =>
    have hd := h.head
    have hne : val (d :: t) ≠ 0 := by
      intro e
      simp only [val] at e
      have hd0 : d = 0 := by omega
      have ht0 : val t = 0 := by omega
      cases t with
      | nil => subst hd0; simp [Norm] at hn
      | cons d' t' =>
        have ih' := ih h.tail (by simpa [Norm, List.getLast?_cons] using hn)
        rw [ht0, rep_zero] at ih'; simp at ih'
    rw [rep_pos hne]
    have e1 : val (d :: t) % 4294967296 = d := by simp only [val]; omega
    have e2 : val (d :: t) / 4294967296 = val t := by simp only [val]; omega
    rw [e1, e2]
    cases t with
    | nil => rfl
    | cons d' t' => rw [ih h.tail (by simpa [Norm, List.getLast?_cons] using hn)]
theorem rep_length_le {n k : Nat} : (rep n).length ≤ k ↔ n < W k := by
  induction n using rep_ind generalizing k with
  | h0 => simp [rep_zero, W_pos]
  | h1 n h ih =>
    rw [rep_pos h, List.length_cons]
    cases k with
    | zero => simp [W_zero]; omega
    | succ k =>
      rw [Nat.add_le_add_iff_right, ih, W_succ]
      omega
theorem rep_length_lt {n k : Nat} : k < (rep n).length ↔ W k ≤ n := by
  have := @rep_length_le n k; omega
end Go.Proofs.YteiikhcadjdkcaaGreatDoor.Limb
namespace Go.Proofs.YteiikhcadjdkcaaGreatDoor
open Go
variable {P : Program} {md : Region.Mode} {ops : Array Oper} {Q : Exit → Act → World → Prop} {S : World → Prop}
def wpAnyS (P : Program) (md : Region.Mode) (ops : Array Oper) (Q : Exit → Act → World → Prop) (S : World → Prop) (n : Nat) : Nat → Array Bool → Act → World → Prop
  | 0, listed, a, w => wpAny P md ops Q 0 listed a w
  | fuel + 1, listed, a, w =>
    ((∀ i, i < n → listed.getD i true = true) → wpAny P md ops Q (fuel + 1) listed a w) ∧
    ((∃ i, i < n ∧ listed.getD i true = false) → Region.ready md ops listed ≠ [] ∧
      ∀ i ∈ Region.ready md ops listed, wpOp P ops Q i (fun a' w' => S w' ∧ wpAnyS P md ops Q S n fuel (listed.setIfInBounds i true) a' w') a w)
theorem wpAny_of_S {n : Nat} : ∀ (fuel : Nat) (listed : Array Bool) (a : Act) (w : World), wpAnyS P md ops Q S n fuel listed a w → wpAny P md ops Q fuel listed a w
  | 0, _, _, _, h => h
  | fuel + 1, listed, a, w, h => by
    by_cases hx : ∃ i, i < n ∧ listed.getD i true = false
    · obtain ⟨h1, h2⟩ := h.2 hx
      exact ⟨fun h0 => absurd h0 h1, fun i hi => wpOp_mono (fun a' w' h' => wpAny_of_S fuel _ a' w' h'.2) (h2 i hi)⟩
    · refine h.1 (fun i hi => ?_)
      cases hl : listed.getD i true with
      | true => rfl
      | false => exact absurd ⟨i, hi, hl⟩ hx
theorem wpAnyS_first {n i : Nat} {oi : Oper} {v : Value} (hi : ops[i]? = some oi) (hsel : ∀ (j : Nat) (o : Oper) cs b, ops[j]? = some o → o.op ≠ .select cs b)
    (hs : Region.sinkB md ops n = true) (hc : Region.chainB md ops n = true) (hn : n < ops.size) (hin : i < n)
    (hQ : ∀ c a w, Q (.panic c) (a.put oi.dst v) w → Q (.panic c) a w) :
    ∀ (fuel : Nat) (listed : Array Bool) (a : Act) (w : World), HeadInv md ops n listed →
      (∀ j oj, ops[j]? = some oj → j ≠ i → listed.getD j true = false → (∀ e ∈ oj.after, Region.binds md e = true → e.on ≠ i) → oi.apart ops oj = true) →
      i ∈ Region.ready md ops listed → YieldsIf P ops S oi v a → S w →
      wpAnyS P md ops Q S n fuel (listed.setIfInBounds i true) (a.put oi.dst v) w → wpAnyS P md ops Q S n (fuel + 1) listed a w := by
  intro fuel
  induction fuel with
  | zero =>
    intro listed a w inv _ hr hy hS H
    have hun := (mem_ready.1 hr).1
    refine ⟨fun hall => (by rw [hall i hin] at hun; cases hun), fun _ => ⟨fun h => (by rw [h] at hr; cases hr), fun j hj => ?_⟩⟩
    by_cases hji : j = i
    · subst hji; exact hy.wpOp hi hS ⟨hS, H⟩
    · have := ready_mono hj hji
      rw [H.1] at this
      cases this
  | succ fuel ih =>
    intro listed a w inv hfree hr hy hS H
    have hun := (mem_ready.1 hr).1
    refine ⟨fun hall => (by rw [hall i hin] at hun; cases hun), fun _ => ⟨fun h => (by rw [h] at hr; cases hr), fun j hj => ?_⟩⟩
    by_cases hji : j = i
    · subst hji; exact hy.wpOp hi hS ⟨hS, H⟩
    · have hjn : j < n := by
        rcases Nat.lt_or_ge j n with h | h
        · exact h
        · exact absurd hj (tail_waits hs hc hn inv _ i rfl hin hun j h)
      obtain ⟨hjun, oj, hoj, hall⟩ := mem_ready.1 hj
      have hex : ∃ k, k < n ∧ (listed.setIfInBounds i true).getD k true = false := ⟨j, hjn, by rw [getD_set_ne true (Ne.symm hji)]; exact hjun⟩
      have h1 := (H.2 hex).2 j (ready_mono hj hji)
      have hnot : ∀ e ∈ oj.after, Region.binds md e = true → e.on ≠ i := fun e he hb heq => by
        have h1 := hall e he hb
        rw [heq, getD_both hun] at h1
        cases h1
      have h2 := wpOp_putIf hoj (hfree j oj hoj hji hjun hnot) (fun cs b => hsel i oi cs b hi) (fun cs b => hsel j oj cs b hoj) hQ hy h1
      have hfree' : ∀ k ok, ops[k]? = some ok → k ≠ i → (listed.setIfInBounds j true).getD k true = false →
          (∀ e ∈ ok.after, Region.binds md e = true → e.on ≠ i) → oi.apart ops ok = true := fun k ok hk hki hun hno => by
        refine hfree k ok hk hki ?_ hno
        by_cases hjk : j = k
        · subst hjk; exact hjun
        · rw [getD_set_ne true hjk] at hun; exact hun
      refine wpOp_mono (fun a' w' h3 => ⟨h3.2.1, ih (listed.setIfInBounds j true) a' w' (inv.set hj hjn) hfree' (ready_mono hr (Ne.symm hji)) h3.1 h3.2.1 ?_⟩) h2
      rw [Array.setIfInBounds_comm _ _ hji]
      exact h3.2.2
theorem wpAnyS_take {n i : Nat} {oi : Oper} {v : Value} {fuel : Nat} {listed : Array Bool} {a : Act} {w : World} (inv : HeadInv md ops n listed) (hi : ops[i]? = some oi)
    (hsel : Region.noSelect ops = true) (hs : Region.sinkB md ops n = true) (hc : Region.chainB md ops n = true) (hn : n < ops.size) (hin : i < n)
    (hf : Region.free md ops listed i = true) (hr : (Region.ready md ops listed).contains i = true)
    (hQ : ∀ c a w, Q (.panic c) (a.put oi.dst v) w → Q (.panic c) a w) (hy : YieldsIf P ops S oi v a) (hS : S w)
    (h : HeadInv md ops n (listed.setIfInBounds i true) → wpAnyS P md ops Q S n fuel (listed.setIfInBounds i true) (a.put oi.dst v) w) : wpAnyS P md ops Q S n (fuel + 1) listed a w := by
  have hr' : i ∈ Region.ready md ops listed := by simpa using hr
  exact wpAnyS_first hi (Region.noSelect_spec hsel) hs hc hn hin hQ fuel listed a w inv (Region.free_spec hi hf) hr' hy hS (h (inv.set hr' hin))
theorem wpAnyS_take_at {n i : Nat} {oi : Oper} {v : Value} {fuel : Nat} {listed : Array Bool} {a : Act} {w : World} (d : Tmp) (inv : HeadInv md ops n listed) (hi : ops[i]? = some oi) (hd : oi.dst = some d)
    (hsel : Region.noSelect ops = true) (hs : Region.sinkB md ops n = true) (hc : Region.chainB md ops n = true) (hn : n < ops.size) (hin : i < n)
    (hf : Region.free md ops listed i = true) (hr : (Region.ready md ops listed).contains i = true)
    (hQ : ∀ c a w, Q (.panic c) (a.put oi.dst v) w → Q (.panic c) a w) (hy : YieldsIf P ops S oi v a) (hS : S w)
    (h : HeadInv md ops n (listed.setIfInBounds i true) → wpAnyS P md ops Q S n fuel (listed.setIfInBounds i true) (a.put (some d) v) w) : wpAnyS P md ops Q S n (fuel + 1) listed a w :=
  wpAnyS_take inv hi hsel hs hc hn hin hf hr hQ hy hS (by rw [hd]; exact h)
theorem wpAnyS_tail {n fuel : Nat} {listed : Array Bool} {a : Act} {w : World} (hall : ∀ i, i < n → listed.getD i true = true) (h : wpAny P md ops Q fuel listed a w) : wpAnyS P md ops Q S n fuel listed a w := by
  cases fuel with
  | zero => exact h
  | succ fuel =>
    refine ⟨fun _ => h, fun ⟨i, hi, hl⟩ => ?_⟩
    rw [hall i hi] at hl; cases hl
theorem wp_region_S {n id : Nat} {a : Act} {w : World} (hm : P.follows .mixedOrders = true) (hn : n < ops.size)
    (h : HeadInv .any ops n (Array.replicate ops.size false) → wpAnyS P .any ops Q S n ops.size (Array.replicate ops.size false) a { w with drawn := w.drawn + 1 }) : (Code.region id ops true).wp P Q a w := by
  refine wp_region_any hm (wpAny_of_S _ _ _ _ (h ⟨by simp, fun j oj hj hl => ?_, fun t ht ht' => ?_⟩))
  · rw [getD_replicate_false] at hl; cases hl
  · simp [ht']
theorem wpAny_one {i : Nat} {fuel : Nat} {listed : Array Bool} {a : Act} {w : World} (hr : Region.ready md ops listed = [i])
    (h : wpOp P ops Q i (fun a' w' => wpAny P md ops Q fuel (listed.setIfInBounds i true) a' w') a w) : wpAny P md ops Q (fuel + 1) listed a w :=
  ⟨fun h0 => (by rw [hr] at h0; cases h0), fun j hj => by rw [hr, List.mem_singleton] at hj; subst hj; exact h⟩
end Go.Proofs.YteiikhcadjdkcaaGreatDoor
namespace Go.Proofs.YteiikhcadjdkcaaGreatDoor
open Go Go.RowKit
set_option maxRecDepth 100000
theorem cl_looks : true = Tryz.prog.looks [] := by kernel_rfl
theorem goes_none {P : Program} (h : P.funcs.any Func.goes = false) (f : FuncId) : P.goes f = false := by
  have e : (fun g : FuncId => (P.funcs[g]?).any Func.goes) = fun _ => false := by
    funext g
    cases e : P.funcs[g]? with
    | none => rfl
    | some fn =>
      rw [Array.any_eq_false] at h
      obtain ⟨hi, hg⟩ := Array.getElem?_eq_some_iff.1 e
      have := h g hi
      rw [hg] at this
      simpa using this
  unfold Program.goes
  rw [h, e]
  simp
theorem cl_any : Tryz.prog.funcs.any Func.goes = false := by kernel_rfl
theorem cl_goes : false = Rows.primCopiesRow.goesBy Tryz.prog := by
  unfold OpenClaim.goesBy Program.goesAt Program.goesFrom
  rw [show Tryz.prog.funcNamed Rows.primCopiesRow.func = some 3 by kernel_rfl, Option.any_some, goes_none cl_any]
  rfl
end Go.Proofs.YteiikhcadjdkcaaGreatDoor
