/- What the laws' walks take of the answers of package large. -/
import Derived.Test.YtbffpkmfhkphdaaGreatDoorRefDivC
import Derived.Test.YtbffpkmfhkphdaaGreatDoorGX27
import Derived.Test.YtbffpkmfhkphdaaGreatDoorGX29
import Derived.Test.YtbffpkmfhkphdaaGreatDoorGX23
import Derived.Test.YtbffpkmfhkphdaaGreatDoorGX32
set_option linter.unusedVariables false
set_option linter.unusedSimpArgs false
namespace Go.Proofs.YtbffpkmfhkphdaaGreatDoor
open Go Go.RowKit Limb

/-- An integer's value, its parts under names. -/
theorem ApiV.open {w : World} {u : Value} {z : Int} (h : ApiV w u z) : ∃ b a n c, u = .agg #[.bool b, .slice a n c] ∧ Hid (b = decide (z < 0) ∧ n = (rep z.natAbs).length ∧ n ≤ c ∧ Lay .u32 w a (rep z.natAbs)) := by
  obtain ⟨a, c, e, h1, h2⟩ := h
  exact ⟨_, a, _, c, e, Lib.hid ⟨rfl, rfl, h1, h2⟩⟩

/-- An integer of package api, as it came in: may be, or not. -/
def Came (w : World) (b : Bool) (a : Option Addr) (n : Nat) (l : List Nat) : Prop := Lay .u32 w a l ∧ Lim l ∧ n = l.length ∧ n ≤ 9223372036854775807

theorem Came.below {w w' : World} {b : Bool} {a : Option Addr} {n : Nat} {l : List Nat} (h : Came w b a n l) (hb : Below w.heap.size w w') : Came w' b a n l := ⟨h.1.below hb, h.2⟩

theorem signed_rep (z : Int) : signed (decide (z < 0)) (val (rep z.natAbs)) = z := by
  rw [val_rep]; unfold signed
  by_cases h : z < 0
  · simp [h]; omega
  · simp [h]; omega
theorem mayB_small {z : Int} (h : (rep z.natAbs).length ≤ 1024) : mayB (decide (z < 0)) (rep z.natAbs) = true := by
  rw [mayB_rep, decide_eq_true h]
/-- One that may be: its number. -/
theorem Came.api {w : World} {b : Bool} {a : Option Addr} {n c : Nat} {l : List Nat} (h : Came w b a n l) (hm : mayB b l = true) (hc : n ≤ c) : ApiV w (.agg #[.bool b, .slice a n c]) (signed b (val l)) := by
  obtain ⟨h1, h2, h3, h4⟩ := h
  obtain ⟨e1, e2, e3⟩ := mayB_int h2 hm
  refine ⟨a, c, ?_, ?_, ?_⟩
  · rw [← e1, ← e2, h3]
  · rw [← e1, ← h3]; exact hc
  · rw [← e1]; exact h1
theorem Came.len {w : World} {b : Bool} {a : Option Addr} {n : Nat} {l : List Nat} (h : Came w b a n l) (hm : mayB b l = true) : (rep (signed b (val l)).natAbs).length ≤ 1024 := by
  obtain ⟨e1, e2, e3⟩ := mayB_int h.2.1 hm
  rw [← e1]; exact e3

/-- The answers. -/
theorem Answer.ok {w w' : World} {e : Ending} {z : Int} (h : Answer true w w' e z) (hl : (rep z.natAbs).length ≤ 1024) :
    ∃ b a n c, e = .returned (.tuple #[.agg #[.bool b, .slice a n c], .int .i64 0]) ∧ Hid (ApiV w' (.agg #[.bool b, .slice a n c]) z) ∧ Below w.heap.size w w' := by
  have h : ApiRes w w' e z := h
  obtain ⟨hb, ⟨h1, h2⟩ | ⟨h1, v, h2, a, n, cap, h3, h4, h5, h6⟩⟩ := h
  · omega
  · subst h3; subst h4
    exact ⟨_, _, _, _, h2, Lib.hid ⟨a, cap, rfl, h5, h6⟩, hb⟩
theorem Answer.long {w w' : World} {e : Ending} {z : Int} (h : Answer true w w' e z) (hl : 1024 < (rep z.natAbs).length) :
    e = .returned (.tuple #[.agg #[.bool false, .slice none 0 0], .int .i64 2]) ∧ Below w.heap.size w w' := by
  have h : ApiRes w w' e z := h
  obtain ⟨hb, ⟨h1, h2⟩ | ⟨h1, v, h2, a, n, cap, h3, h4, h5, h6⟩⟩ := h
  · exact ⟨h2, hb⟩
  · omega
theorem Answer.bad {w w' : World} {e : Ending} {z : Int} (h : Answer false w w' e z) :
    e = .returned (.tuple #[.agg #[.bool false, .slice none 0 0], .int .i64 1]) ∧ Below w.heap.size w w' := h
theorem DivAnswer.ok {fl : Bool} {w w' : World} {e : Ending} {x y : Int} (h : DivAnswer true fl w w' e x y) (hy : y ≠ 0) :
    ∃ b a n c b' a' n' c', e = .returned (.tuple #[.agg #[.bool b, .slice a n c], .agg #[.bool b', .slice a' n' c'], .int .i64 0]) ∧
      Hid (ApiV w' (.agg #[.bool b, .slice a n c]) (dquo fl x y) ∧ ApiV w' (.agg #[.bool b', .slice a' n' c']) (drem fl x y)) ∧ Below w.heap.size w w' := by
  unfold DivAnswer at h
  rw [if_neg (by decide), if_neg hy] at h
  obtain ⟨hb, aq, cq, ar, cr, h1, h2, h3, h4, h5⟩ := h
  exact ⟨_, _, _, _, _, _, _, _, h1, Lib.hid ⟨⟨aq, cq, rfl, h2, h4⟩, ⟨ar, cr, rfl, h3, h5⟩⟩, hb⟩
theorem DivAnswer.zero {fl : Bool} {w w' : World} {e : Ending} {x y : Int} (h : DivAnswer true fl w w' e x y) (hy : y = 0) :
    e = .returned (.tuple #[.agg #[.bool false, .slice none 0 0], .agg #[.bool false, .slice none 0 0], .int .i64 90]) ∧ Below w.heap.size w w' := by
  unfold DivAnswer at h
  rw [if_neg (by decide), if_pos hy] at h
  exact ⟨h.2, h.1⟩
theorem DivAnswer.bad {fl : Bool} {w w' : World} {e : Ending} {x y : Int} (h : DivAnswer false fl w w' e x y) :
    e = .returned (.tuple #[.agg #[.bool false, .slice none 0 0], .agg #[.bool false, .slice none 0 0], .int .i64 1]) ∧ Below w.heap.size w w' := by
  unfold DivAnswer at h
  rw [if_pos rfl] at h
  exact ⟨h.2, h.1⟩

/-- The digits by a count, so that they can be reckoned. -/
def digsF (b : Nat) : Nat → Nat → List Nat
  | 0, _ => []
  | f + 1, n => if n = 0 then [] else n % b :: digsF b f (n / b)
theorem digs_fuel {b : Nat} (hb : 2 ≤ b) : ∀ (f n : Nat), n < 2 ^ f → digs b n = digsF b f n
  | 0, n, h => by rw [Nat.pow_zero] at h; rw [show n = 0 by omega, digs_zero]; rfl
  | f + 1, n, h => by
    unfold digsF
    by_cases hn : n = 0
    · rw [if_pos hn, hn, digs_zero]
    · rw [if_neg hn, digs_pos hb (by omega), digs_fuel hb f (n / b)]
      rw [Nat.pow_succ] at h
      have h1 : n / b ≤ n / 2 := Nat.div_le_div_left hb (by decide)
      omega
theorem awake_text : utxt 10 ((2 : Int) ^ 100) = [49, 50, 54, 55, 54, 53, 48, 54, 48, 48, 50, 50, 56, 50, 50, 57, 52, 48, 49, 52, 57, 54, 55, 48, 51, 50, 48, 53, 51, 55, 54] := by
  unfold utxt ztxt txt
  rw [digs_fuel (by decide) 128 _ (by decide)]
  decide

end Go.Proofs.YtbffpkmfhkphdaaGreatDoor
