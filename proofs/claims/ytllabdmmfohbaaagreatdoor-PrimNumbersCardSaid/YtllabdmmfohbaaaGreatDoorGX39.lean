/- The walks of package kernel: selectors, written, fixed. -/
import Derived.Test.YtllabdmmfohbaaaGreatDoorGX38
set_option linter.unusedVariables false
set_option linter.unusedSimpArgs false
namespace Go.Proofs.YtllabdmmfohbaaaGreatDoor
open Go Go.RowKit Limb
theorem size_plan (W : World) : (sizeOf 78).run Tryz.prog W = .ok 5 W := by kernel_rfl
theorem size_str (W : World) : (sizeOf 9).run Tryz.prog W = .ok 1 W := by kernel_rfl
theorem index_by {P : Program} (m : Nat) (hm : 0 < m) (t e : TypeId) (ht : P.underlying t = some (.slice e)) (hs : ∀ W, (sizeOf e).run P W = .ok m W) (g n c : Nat) (W : World) (k : IntKind) (i : Nat) (hi : i < n) :
    (Instr.indexAt t (.slice (some ⟨g, 0, none⟩) n c) (.int k i)).run P W = .ok (.pointer (some ⟨g, m * i, none⟩)) W := by
  have h1 : (0 : Int) ≤ (i : Int) := by omega
  have h2 : (i : Int) < (n : Int) := by omega
  simp [Instr.indexAt, run_underlying ht, asIntOf, h1, h2, hs, Result.andThen, Addr.add]
  rw [if_pos hi]
  by_cases h0 : i = 0
  · subst h0; simp
  · simp [h0, Nat.ne_of_gt hm, Nat.mul_comm]
    exact fun e => e.symm
theorem flatP_get : ∀ (ps : List Plan) (vs : List Value) (i k : Nat), i < ps.length → ps.length = vs.length → k < 5 → (flatP ps vs)[5 * i + k]? = (planCells (ps.getD i ⟨[], 0, 0, false, []⟩) (vs.getD i undef))[k]?
  | [], _, _, _, h, _, _ => by simp at h
  | p :: t, [], _, _, _, h, _ => by simp at h
  | p :: t, v :: s, 0, k, _, _, hk => by
    show (planCells p v ++ flatP t s)[5 * 0 + k]? = (planCells p v)[k]?
    rw [Nat.mul_zero, Nat.zero_add, List.getElem?_append_left (by exact hk)]
  | p :: t, v :: s, i + 1, k, h1, h2, hk => by
    show (planCells p v ++ flatP t s)[5 * (i + 1) + k]? = _
    rw [List.getElem?_append_right (by show 5 ≤ _; omega)]
    show (flatP t s)[5 * (i + 1) + k - 5]? = (planCells (t.getD i _) (s.getD i undef))[k]?
    rw [show 5 * (i + 1) + k - 5 = 5 * i + k by omega]
    exact flatP_get t s i k (by simpa using h1) (by simpa using h2) hk
section
variable {w : World} {g : Nat} {vs : List Value}
theorem PlansAt.cells (h : PlansAt w g vs) {i : Nat} (hi : i < 22) : w.cell? ⟨g, 5 * i, none⟩ = some (sv (plans.getD i ⟨[], 0, 0, false, []⟩).name) ∧ w.cell? ⟨g, 5 * i + 1, none⟩ = some (.int .i64 (supV (plans.getD i ⟨[], 0, 0, false, []⟩).sup)) ∧
    w.cell? ⟨g, 5 * i + 2, none⟩ = some (.int .i64 (plans.getD i ⟨[], 0, 0, false, []⟩).fmt) ∧ w.cell? ⟨g, 5 * i + 3, none⟩ = some (.bool (plans.getD i ⟨[], 0, 0, false, []⟩).idx) ∧ w.cell? ⟨g, 5 * i + 4, none⟩ = some (vs.getD i undef) := by
  have key : ∀ k, k < 5 → w.cell? ⟨g, 5 * i + k, none⟩ = (planCells (plans.getD i ⟨[], 0, 0, false, []⟩) (vs.getD i undef))[k]? := fun k hk => by
    rw [h.2.1.cell_at, flatP_get plans vs i k (by exact hi) h.1.symm hk]
  exact ⟨key 0 (by decide), key 1 (by decide), key 2 (by decide), key 3 (by decide), key 4 (by decide)⟩
theorem FieldsAt.slice {v : Value} {fs : List (List Nat)} (h : FieldsAt w v fs) : ∃ a, v = .slice a fs.length fs.length := by
  rcases h with ⟨rfl, rfl⟩ | ⟨_, g, rfl, _⟩
  · exact ⟨none, rfl⟩
  · exact ⟨_, rfl⟩
def deep : Nat → Nat → Bool
  | 0, _ => false
  | k + 1, r => decide (10 ≤ r) && decide (r < 32) && (decide ((plans.getD (r - 10) ⟨[], 0, 0, false, []⟩).sup = 0) || deep k (plans.getD (r - 10) ⟨[], 0, 0, false, []⟩).sup)
theorem deep_all : ∀ i, i < 22 → deep 6 (10 + i) = true := by decide
theorem fixedN_zero (k : Nat) : fixedN k 0 = 0 := by cases k <;> rfl
theorem plans_get {i : Nat} (hi : i < 22) : plans[i]? = some (plans.getD i ⟨[], 0, 0, false, []⟩) := by
  have : i < plans.length := hi
  simp [List.getD_eq_getElem?_getD, this]
theorem fixedN_le : ∀ k r, fixedN k r ≤ 7 * k
  | 0, _ => Nat.le_refl _
  | k + 1, r => by
    unfold fixedN
    split
    · omega
    · split
      · omega
      · rename_i p hp
        have h1 := fixedN_le k p.sup
        have h2 : p.fields.length ≤ 7 := by
          have h3 : p ∈ plans := List.mem_of_getElem? hp
          have h4 : ∀ q ∈ plans, q.fields.length ≤ 7 := by decide
          exact h4 p h3
        omega
set_option maxHeartbeats 1600000 in
set_option maxRecDepth 1000000 in
theorem kernel_fixed (h : PlansAt w g vs) : ∀ (k i : Nat), k ≤ 10 → i < 22 → deep k (10 + i) = true →
    Calls Tryz.prog 36 #[.slice (some ⟨g, 0, none⟩) 22 22, .int .i64 i] w fun e w' => e = .returned (.int .i64 (fixedN k (10 + i))) ∧ w = w'
  | 0, i, _, _, hd => by cases hd
  | k + 1, i, hk10, hi, hd => by
    obtain ⟨c0, c1, c2, c3, c4⟩ := h.cells hi
    obtain ⟨a, hv⟩ := (h.2.2 i hi).slice
    rw [hv] at c4
    have hle := fixedN_le (k + 1) (10 + i)
    have hfx : fixedN (k + 1) (10 + i) = (plans.getD i ⟨[], 0, 0, false, []⟩).fields.length + fixedN k (plans.getD i ⟨[], 0, 0, false, []⟩).sup := by
      show (if 10 + i = 0 then 0 else match plans[10 + i - 10]? with | none => 0 | some p => p.fields.length + fixedN k p.sup) = _
      rw [if_neg (by omega), show 10 + i - 10 = i by omega, plans_get hi]
    unfold deep at hd
    simp only [Bool.and_eq_true, Bool.or_eq_true, decide_eq_true_eq] at hd
    rw [show 10 + i - 10 = i by omega] at hd
    have ix := fun W => index_by (P := Tryz.prog) 5 (by decide) 74 78 Tryz.underlying74 size_plan g 22 22 W .i64 i hi
    generalize plans.getD i ⟨[], 0, 0, false, []⟩ = p at *
    have hd2 := hd.2
    rw [hfx]
    by_cases h0 : p.sup = 0
    · have es : supV p.sup = -1 := by unfold supV; rw [if_pos h0]
      rw [h0, fixedN_zero, Nat.add_zero]
      rw [es] at c1
      clear hv hfx hd hd2 h0 es h hle
      generalize p.fields.length = m at *
      go_enter Tryz.func36, Tryz.ntmps36
      go_wp2_with fail
      go_ret
      exact ⟨rfl, rfl⟩
    · have es : supV p.sup = p.sup := by unfold supV; rw [if_neg h0]
      rw [es] at c1
      have hd3 : deep k p.sup = true := by rcases hd2 with e | e; exact absurd e h0; exact e
      have hb : 10 ≤ p.sup ∧ p.sup < 32 := by
        cases k with
        | zero => cases hd3
        | succ k =>
          unfold deep at hd3
          simp only [Bool.and_eq_true, decide_eq_true_eq] at hd3
          exact hd3.1
      obtain ⟨j, hj⟩ : ∃ j, p.sup = 10 + j := ⟨p.sup - 10, by omega⟩
      rw [hj] at c1 hd3 ⊢
      have IH := Lib.hid (kernel_fixed h k j (by omega) (by omega) hd3)
      have d1 : decide ((0 : Int) ≤ ((10 + j : Nat) : Int)) = true := decide_eq_true (by omega)
      have ej : (((10 + j : Nat) : Int) - 10) = (j : Int) := by omega
      have hm2 : p.fields.length + fixedN k (10 + j) ≤ 7 * (k + 1) := by rw [← hj, ← hfx]; exact hle
      generalize fixedN k (10 + j) = fk at *
      generalize p.fields.length = m at *
      have jlt : j < 22 := by omega
      replace hm2 : m + fk ≤ 77 := by omega
      clear hv hfx hd hd2 h0 es h hle hd3 hj hb
      go_enter Tryz.func36, Tryz.ntmps36
      go_wp2_with fail
      rw [show ((10 : Int) + (j : Int) - 10) = (j : Int) from by omega]
      refine (IH.out).mono ?_
      rintro e W1 ⟨rfl, rfl⟩
      (try dsimp only)
      go_wp2_with fail
      go_ret
      exact ⟨rfl, rfl⟩
set_option maxRecDepth 100000 in
theorem kernel_written (w : World) (f fx : Nat) (b : Bool) (h1 : f ≤ 1000) (h2 : fx ≤ 1000) :
    Calls Tryz.prog 35 #[.agg #[.int .i64 f, .int .i64 fx, .bool b]] w fun e w' => e = .returned (.int .i64 (writtenN f fx b)) ∧ Below w.heap.size w w' := by
  have hE := (Below.refl w.heap.size w).alloc (Nat.le_refl _) (.cells #[.int .i64 f, .int .i64 fx, .bool b] 82)
  have HE := Lib.hid hE
  clear hE
  cases b with
  | false =>
    have e1 : (writtenN f fx false) = f + 8 * fx := rfl
    rw [e1]
    go_enter Tryz.func35, Tryz.ntmps35
    go_wp2_with fail
    go_ret
    exact ⟨rfl, HE.out⟩
  | true =>
    have e1 : (writtenN f fx true) = f + 8 * fx + 65536 := rfl
    rw [e1]
    go_enter Tryz.func35, Tryz.ntmps35
    go_wp2_with fail
    go_ret
    exact ⟨rfl, HE.out⟩
end
end Go.Proofs.YtllabdmmfohbaaaGreatDoor
