/- The kernel's calls over a heap that is packed into numbers: for evaluation. The walk of big.step: one step of a long division. Bytes laid into words one by one, plain. -/
import Derived.Test.YteiikhcadjdkcaaGreatDoorGX04
import Derived.Test.YteiikhcadjdkcaaGreatDoorGX03
import Derived.Deep.DeepCutAuto
import Derived.Deep.CutBlock
set_option linter.unusedVariables false
set_option linter.unusedSimpArgs false
namespace Go.Proofs.YteiikhcadjdkcaaGreatDoor.Limb
def mkval : List Bool → Nat
  | [] => 0
  | b :: t => (if b then 1 else 0) + 2 * mkval t
theorem getD_mkval : ∀ (l : List Bool) (i : Nat), l.getD i false = decide (mkval l / 2 ^ i % 2 = 1)
  | [], i => by simp [mkval]
  | b :: t, 0 => by
    show b = decide (((if b then 1 else 0) + 2 * mkval t) / 2 ^ 0 % 2 = 1)
    cases b <;> simp <;> omega
  | b :: t, i + 1 => by
    have h := getD_mkval t i
    have e : mkval (b :: t) / 2 ^ (i + 1) = mkval t / 2 ^ i := by
      show ((if b then 1 else 0) + 2 * mkval t) / 2 ^ (i + 1) = _
      rw [Nat.pow_succ, Nat.mul_comm (2 ^ i) 2, ← Nat.div_div_eq_div_mul]
      congr 1
      cases b <;> simp <;> omega
    rw [e, ← h]; rfl
theorem mkval_append (a b : List Bool) : mkval (a ++ b) = mkval a + 2 ^ a.length * mkval b := by
  induction a with
  | nil => simp [mkval]
  | cons x t ih =>
    show (if x then 1 else 0) + 2 * mkval (t ++ b) = (if x then 1 else 0) + 2 * mkval t + 2 ^ (t.length + 1) * mkval b
    rw [ih, Nat.pow_succ, Nat.mul_add, Nat.mul_comm (2 ^ t.length) 2, Nat.mul_assoc, Nat.add_assoc]
theorem mkval_false (n : Nat) : mkval (List.replicate n false) = 0 := by
  induction n with
  | zero => rfl
  | succ n ih => show 0 + 2 * mkval (List.replicate n false) = 0; rw [ih]
structure Pk where
  V : Nat
  n : Nat
  S : Nat
  R : Nat
  size : Nat
  last : Nat
def pk (h : Hp) : Pk := ⟨val h.ws, h.ws.length, mkval h.st, val h.rt, h.size, h.last⟩
def rd (V i : Nat) : Nat := V / W i % 4294967296
def qbeg (p : Pk) (i : Nat) : Bool := decide (p.S / 2 ^ i % 2 = 1)
def qhd (p : Pk) (i : Nat) : Hd := unp (rd p.V i) (rd p.V (i + 1)) (rd p.V (i + 2))
def qO (p : Pk) (o : Nat) : Bool := decide (o ≠ 0) && decide (o % 2 = 0) && qbeg p (o / 2)
def qC (p : Pk) (o : Nat) : Bool := decide (o = 0) || qO p o
def qF (p : Pk) (o f n : Nat) : Bool := qO p o && decide ((qhd p (o / 2)).fmt = f) && decide (n ≤ (qhd p (o / 2)).size)
def qbody (p : Pk) (o : Nat) : Nat := p.V / W (o / 2 + 3) % W (qhd p (o / 2)).size
def qahead (z : Nat) : Nat → Nat → List Nat
  | 0, _ => []
  | k + 1, x => if x % 4294967296 = z then [] else x % 4294967296 :: qahead z k (x / 4294967296)
def qent (p : Pk) (r : Nat) : List Nat := if qF p (rd p.R r) 1 0 then qahead (rd p.R 0) (qhd p (rd p.R r / 2)).size (qbody p (rd p.R r)) else []
def qreads (p : Pk) (t : List Nat) (o : Nat) : Bool := qF p o 2 0 && decide ((qhd p (o / 2)).len = t.length) && decide (qbody p o = val (packB t))
def qglob (p : Pk) (t : List Nat) (o : Nat) : Bool := qF p o 1 2 && qreads p t (rd p.V (o / 2 + 3 + 0))
def qset (p : Pk) (i v : Nat) : Pk := { p with V := p.V + W i * v - W i * rd p.V i }
def qroot (p : Pk) (i v : Nat) : Pk := { p with R := p.R + W i * v - W i * rd p.R i }
def qroom (p : Pk) (n : Nat) : Bool := decide (p.n + 3 + n ≤ p.size) && decide (p.last ≠ 4294967295)
def qadd (p : Pk) (f spare c m body : Nat) : Pk :=
  { V := p.V + W p.n * (Hd.w0 ⟨m, f, spare, c, p.last + 1⟩ + 4294967296 * (c + 4294967296 * (p.last + 1 + 4294967296 * body))), n := p.n + 3 + m, S := p.S + 2 ^ p.n, R := p.R, size := p.size, last := p.last + 1 }
theorem val_set {l : List Nat} {i d : Nat} (h : i < l.length) : val (l.set i d) + W i * wd l i = val l + W i * d := by
  induction l generalizing i with
  | nil => simp at h
  | cons a t ih =>
    cases i with
    | zero => show d + 4294967296 * val t + W 0 * a = a + 4294967296 * val t + W 0 * d; rw [W_zero]; omega
    | succ i =>
      have h2 := ih (i := i) (by simpa using h)
      show a + 4294967296 * val (t.set i d) + W (i + 1) * wd t i = a + 4294967296 * val t + W (i + 1) * d
      rw [W_succ, Nat.mul_assoc, Nat.mul_assoc]; omega
section
variable {h : Hp} (k : Good h)
include k
theorem rd_pk (i : Nat) : rd (pk h).V i = wd h.ws i := (wd_val k.lim i).symm
theorem rd_root (i : Nat) : rd (pk h).R i = wd h.rt i := (wd_val k.rlim i).symm
theorem qhd_eq (i : Nat) : qhd (pk h) i = hd h i := by unfold qhd hd; rw [rd_pk k, rd_pk k, rd_pk k]
omit k in
theorem qbeg_eq (i : Nat) : qbeg (pk h) i = begins h i := (getD_mkval h.st i).symm
omit k in
theorem qO_eq (o : Nat) : qO (pk h) o = isO h o := by unfold qO isO; rw [qbeg_eq]
omit k in
theorem qC_eq (o : Nat) : qC (pk h) o = clsO h o := by unfold qC clsO; rw [qO_eq]
theorem qF_eq (o f n : Nat) : qF (pk h) o f n = isF h o f n := by unfold qF isF; rw [qO_eq, qhd_eq k]; rfl
theorem qbody_eq (o : Nat) : qbody (pk h) o = val (flds h o) := by
  unfold qbody flds
  rw [val_take (k.lim.drop _), val_drop k.lim, qhd_eq k]; rfl
omit k in
theorem qahead_eq (z : Nat) : ∀ l : List Nat, Lim l → qahead z l.length (val l) = ahead z l
  | [], _ => rfl
  | a :: t, hl => by
    show (if (a + 4294967296 * val t) % 4294967296 = z then [] else (a + 4294967296 * val t) % 4294967296 :: qahead z t.length ((a + 4294967296 * val t) / 4294967296)) = if a = z then [] else a :: ahead z t
    have := hl.head
    rw [show (a + 4294967296 * val t) % 4294967296 = a by omega, show (a + 4294967296 * val t) / 4294967296 = val t by omega, qahead_eq z t hl.tail]
theorem qent_eq (r : Nat) : qent (pk h) r = entries h r := by
  unfold qent entries
  rw [rd_root k, rd_root k, qF_eq k]
  by_cases hf : isF h (wd h.rt r) 1 0 = true
  · rw [if_pos hf, if_pos hf, qbody_eq k, qhd_eq k]
    have ho : isO h (wd h.rt r) = true := by unfold isF at hf; simp only [Bool.and_eq_true] at hf; exact hf.1.1
    rw [← qahead_eq _ _ (flds_lim k _), flds_length k ho]; rfl
  · rw [if_neg hf, if_neg hf]
theorem qreads_eq {t : List Nat} (ht : B8 t) (o : Nat) : qreads (pk h) t o = readsO h t o := by
  unfold qreads readsO
  rw [qF_eq k, qhd_eq k, qbody_eq k]
  by_cases hf : isF h o 2 0 = true
  · by_cases hl : (hdO h o).len = t.length
    · have ho : isO h o = true ∧ (hdO h o).fmt = 2 := by unfold isF at hf; simp only [Bool.and_eq_true, decide_eq_true_eq] at hf; exact hf.1
      rw [hf, show hd h (o / 2) = hdO h o from rfl, decide_eq_true hl, Bool.true_and, Bool.true_and]
      refine decide_eq_decide.2 ?_
      rw [bytO_eq k ho.1 ho.2 ht hl]
      refine ⟨fun e => val_inj (flds_lim k o) (packB_lim t ht) ?_ e, fun e => by rw [e]⟩
      rw [flds_length k ho.1, packB_length]
      have h1 := (k.ok _ (isO_iff.1 ho.1).2.2).1
      have h2 := h1.spare
      have h3 : (hdO h o).len = 4 * (hdO h o).size - (hdO h o).spare := by unfold Hd.len; rw [if_pos ho.2]
      have h4 := h1.sp
      have h2 : (hdO h o).spare ≤ 3 := h2
      have h4 : (hdO h o).spare = 0 ∨ ((hdO h o).fmt = 2 ∧ 0 < (hdO h o).size) := h4
      omega
    · rw [show hd h (o / 2) = hdO h o from rfl, decide_eq_false hl, Bool.and_false, Bool.false_and]; simp
  · rw [Bool.not_eq_true] at hf; rw [hf]; rfl
theorem qglob_eq {t : List Nat} (ht : B8 t) (o : Nat) : qglob (pk h) t o = isGlob h t o := by
  unfold qglob isGlob; rw [qF_eq k, rd_pk k, qreads_eq k ht]; rfl
theorem qset_eq {i v : Nat} (hi : i < h.ws.length) : pk (putW h i v) = qset (pk h) i v := by
  have e := val_set (d := v) hi
  unfold qset; rw [rd_pk k]
  unfold pk putW
  simp only [List.length_set]
  rw [Pk.mk.injEq]
  exact ⟨by omega, rfl, rfl, rfl, rfl, rfl⟩
theorem qroot_eq {i v : Nat} (hi : i < 64) : pk (setR h i v) = qroot (pk h) i v := by
  have e := val_set (d := v) (l := h.rt) (i := i) (by rw [k.rlen]; exact hi)
  unfold qroot; rw [rd_root k]
  unfold pk setR
  rw [Pk.mk.injEq]
  exact ⟨rfl, rfl, rfl, by show val (h.rt.set i v) = val h.rt + W i * v - W i * wd h.rt i; omega, rfl, rfl⟩
theorem qadd_eq (f spare c : Nat) (fs : List Nat) : pk (addO h f spare c fs) = qadd (pk h) f spare c fs.length (val fs) := by
  unfold pk qadd addO
  rw [Pk.mk.injEq]
  refine ⟨?_, by simp; omega, ?_, rfl, rfl, rfl⟩
  · show val (h.ws ++ _) = _
    rw [val_append]; rfl
  · show mkval (h.st ++ _) = _
    rw [mkval_append, k.len]
    show _ + 2 ^ _ * (1 + 2 * mkval (List.replicate (2 + fs.length) false)) = _
    rw [mkval_false]; simp
omit k in
theorem qroom_eq (n : Nat) : qroom (pk h) n = room h n := rfl
end
end Go.Proofs.YteiikhcadjdkcaaGreatDoor.Limb
namespace Go.Proofs.YteiikhcadjdkcaaGreatDoor
open Go Go.RowKit Limb
theorem grown_store {w w' : World} {g : Nat} (h : w.grownBy w' (some g)) (i : Nat) (v : Value) : w.grownBy (w'.setCell ⟨g, i, none⟩ v) (some g) :=
  ⟨h.os, h.tape, h.output, by have := h.size; simpa [World.setCell] using this, fun k hk hne => by rw [Below.heap_setCell _ _ _ _ (fun e => hne (by rw [e]))]; exact h.block k hk hne⟩
end Go.Proofs.YteiikhcadjdkcaaGreatDoor
namespace Go.Proofs.YteiikhcadjdkcaaGreatDoor.Limb
theorem packB_snoc : ∀ (l : List Nat) (x j : Nat), wd (packB (l ++ [x])) j = wd (packB l) j + if j = l.length / 4 then x * 256 ^ (l.length % 4) else 0
  | [], x, j => by
    cases j with
    | zero => simp [packB, wd]
    | succ j => simp [packB, wd]
  | [a], x, j => by
    cases j with
    | zero => simp [packB, wd]; omega
    | succ j => simp [packB, wd]
  | [a, b], x, j => by
    cases j with
    | zero => simp [packB, wd]; omega
    | succ j => simp [packB, wd]
  | [a, b, c], x, j => by
    cases j with
    | zero => simp [packB, wd]; omega
    | succ j => simp [packB, wd]
  | a :: b :: c :: d :: t, x, j => by
    have e1 : (a :: b :: c :: d :: t).length / 4 = t.length / 4 + 1 := by simp only [List.length_cons]; omega
    have e2 : (a :: b :: c :: d :: t).length % 4 = t.length % 4 := by simp only [List.length_cons]; omega
    rw [e1, e2]
    cases j with
    | zero =>
      rw [if_neg (by omega)]; rfl
    | succ j =>
      have := packB_snoc t x j
      show wd (packB (t ++ [x])) j = wd (packB t) j + _
      rw [this]
      by_cases h : j = t.length / 4
      · rw [if_pos h, if_pos (by omega)]
      · rw [if_neg h, if_neg (by omega)]
theorem packB_part : ∀ l : List Nat, B8 l → wd (packB l) (l.length / 4) < 256 ^ (l.length % 4)
  | [], _ => by simp [packB, wd]
  | [a], h => by simp [packB, wd]; exact h.head
  | [a, b], h => by simp [packB, wd]; have := h.head; have := h.tail.head; omega
  | [a, b, c], h => by simp [packB, wd]; have := h.head; have := h.tail.head; have := h.tail.tail.head; omega
  | a :: b :: c :: d :: t, h => by
    have e1 : (a :: b :: c :: d :: t).length / 4 = t.length / 4 + 1 := by simp only [List.length_cons]; omega
    have e2 : (a :: b :: c :: d :: t).length % 4 = t.length % 4 := by simp only [List.length_cons]; omega
    rw [e1, e2]
    exact packB_part t h.tail.tail.tail.tail
def packTo (t : List Nat) (k : Nat) : List Nat := (List.range ((t.length + 3) / 4)).map fun j => wd (packB (t.take k)) j
theorem packTo_length (t : List Nat) (k : Nat) : (packTo t k).length = (t.length + 3) / 4 := by unfold packTo; simp
theorem packTo_wd {t : List Nat} {k j : Nat} (hj : j < (t.length + 3) / 4) : wd (packTo t k) j = wd (packB (t.take k)) j := by
  unfold packTo; rw [wd_lt (by simpa using hj)]; simp
theorem packTo_zero (t : List Nat) : packTo t 0 = List.replicate ((t.length + 3) / 4) 0 := by
  refine ext_wd (by rw [packTo_length]; simp) fun i hi => ?_
  rw [packTo_length] at hi
  rw [packTo_wd hi, wd_replicate]
  simp [packB, wd]
theorem packTo_all (t : List Nat) {k : Nat} (hk : t.length ≤ k) : packTo t k = packB t := by
  refine ext_wd (by rw [packTo_length, packB_length]) fun i hi => ?_
  rw [packTo_length] at hi
  rw [packTo_wd hi, List.take_of_length_le hk]
theorem packTo_step {t : List Nat} (ht : B8 t) {k : Nat} (hk : k < t.length) : k / 4 < (t.length + 3) / 4 ∧ wd (packTo t k) (k / 4) < 256 ^ (k % 4) ∧ packTo t (k + 1) = (packTo t k).set (k / 4) (wd (packTo t k) (k / 4) + wd t k * 256 ^ (k % 4)) := by
  have h4 : k / 4 < (t.length + 3) / 4 := by omega
  have hl : (t.take k).length = k := by rw [List.length_take]; omega
  have hb : B8 (t.take k) := fun x hx => ht x (List.mem_of_mem_take hx)
  have hp := packB_part _ hb
  rw [hl] at hp
  refine ⟨h4, by rw [packTo_wd h4]; exact hp, ?_⟩
  refine ext_wd (by rw [List.length_set, packTo_length, packTo_length]) fun i hi => ?_
  rw [packTo_length] at hi
  rw [wd_set (by rw [packTo_length]; exact h4), packTo_wd hi, packTo_wd hi, packTo_wd h4, take_wd hk, packB_snoc, hl]
  by_cases e : i = k / 4
  · rw [if_pos e, if_pos e, e]
  · rw [if_neg e, if_neg e, Nat.add_zero]
end Go.Proofs.YteiikhcadjdkcaaGreatDoor.Limb
