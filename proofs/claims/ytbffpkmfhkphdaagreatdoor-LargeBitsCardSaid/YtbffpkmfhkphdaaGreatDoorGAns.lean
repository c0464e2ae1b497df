/- What the laws' walks take of the answers of package large. An answer's parts, and the law's is of them. -/
import Derived.Test.YtbffpkmfhkphdaaGreatDoorGRefQ
import Derived.Test.YtbffpkmfhkphdaaGreatDoorQuoC
import Derived.Test.YtbffpkmfhkphdaaGreatDoorGExpo
import Derived.Test.YtbffpkmfhkphdaaGreatDoorPrintC
import Derived.Test.YtbffpkmfhkphdaaGreatDoorGAnswer
namespace Go.Proofs.YtbffpkmfhkphdaaGreatDoor
open Go Go.RowKit Limb

/-- An integer's value, its parts under names. -/
theorem ApiV.open {w : World} {u : Value} {z : Int} (h : ApiV w u z) : ∃ b a n c, u = .agg #[.bool b, .slice a n c] ∧ Hid (b = decide (z < 0) ∧ n = (rep z.natAbs).length ∧ n ≤ c ∧ Lay .u32 w a (rep z.natAbs)) := by
  obtain ⟨a, c, e, h1, h2⟩ := h
  exact ⟨_, a, _, c, e, Lib.hid ⟨rfl, rfl, h1, h2⟩⟩

/-- An integer of package api, as it came in: may be, or not. -/
def Came (w : World) (b : Bool) (a : Option Addr) (n : Nat) (l : List Nat) : Prop := Lay .u32 w a l ∧ Lim l ∧ n = l.length ∧ n ≤ 9223372036854775807

theorem Came.below {w w' : World} {b : Bool} {a : Option Addr} {n : Nat} {l : List Nat} (h : Came w b a n l) (hb : Below w.heap.size w w') : Came w' b a n l := ⟨h.1.below hb, h.2⟩

theorem signed_rep (z : Int) : signed (decide (z < 0)) (val (rep z.natAbs)) = z := by
  rw [val_rep]; unfold signed
  by_cases h : z < 0
  · simp [h]; omega
  · simp [h]; omega
theorem mayB_small {z : Int} (h : (rep z.natAbs).length ≤ 1024) : mayB (decide (z < 0)) (rep z.natAbs) = true := by
  rw [mayB_rep, decide_eq_true h]
/-- One that may be: its number. -/
theorem Came.api {w : World} {b : Bool} {a : Option Addr} {n c : Nat} {l : List Nat} (h : Came w b a n l) (hm : mayB b l = true) (hc : n ≤ c) : ApiV w (.agg #[.bool b, .slice a n c]) (signed b (val l)) := by
  obtain ⟨h1, h2, h3, h4⟩ := h
  obtain ⟨e1, e2, e3⟩ := mayB_int h2 hm
  refine ⟨a, c, ?_, ?_, ?_⟩
  · rw [← e1, ← e2, h3]
  · rw [← e1, ← h3]; exact hc
  · rw [← e1]; exact h1
theorem Came.len {w : World} {b : Bool} {a : Option Addr} {n : Nat} {l : List Nat} (h : Came w b a n l) (hm : mayB b l = true) : (rep (signed b (val l)).natAbs).length ≤ 1024 := by
  obtain ⟨e1, e2, e3⟩ := mayB_int h.2.1 hm
  rw [← e1]; exact e3

/-- The answers. -/
theorem Answer.ok {w w' : World} {e : Ending} {z : Int} (h : Answer true w w' e z) (hl : (rep z.natAbs).length ≤ 1024) :
    ∃ b a n c, e = .returned (.tuple #[.agg #[.bool b, .slice a n c], .int .i64 0]) ∧ Hid (ApiV w' (.agg #[.bool b, .slice a n c]) z) ∧ Below w.heap.size w w' := by
  have h : ApiRes w w' e z := h
  obtain ⟨hb, ⟨h1, h2⟩ | ⟨h1, v, h2, a, n, cap, h3, h4, h5, h6⟩⟩ := h
  · omega
  · subst h3; subst h4
    exact ⟨_, _, _, _, h2, Lib.hid ⟨a, cap, rfl, h5, h6⟩, hb⟩
theorem Answer.long {w w' : World} {e : Ending} {z : Int} (h : Answer true w w' e z) (hl : 1024 < (rep z.natAbs).length) :
    e = .returned (.tuple #[.agg #[.bool false, .slice none 0 0], .int .i64 2]) ∧ Below w.heap.size w w' := by
  have h : ApiRes w w' e z := h
  obtain ⟨hb, ⟨h1, h2⟩ | ⟨h1, v, h2, a, n, cap, h3, h4, h5, h6⟩⟩ := h
  · exact ⟨h2, hb⟩
  · omega
theorem Answer.bad {w w' : World} {e : Ending} {z : Int} (h : Answer false w w' e z) :
    e = .returned (.tuple #[.agg #[.bool false, .slice none 0 0], .int .i64 1]) ∧ Below w.heap.size w w' := h
theorem DivAnswer.ok {fl : Bool} {w w' : World} {e : Ending} {x y : Int} (h : DivAnswer true fl w w' e x y) (hy : y ≠ 0) :
    ∃ b a n c b' a' n' c', e = .returned (.tuple #[.agg #[.bool b, .slice a n c], .agg #[.bool b', .slice a' n' c'], .int .i64 0]) ∧
      Hid (ApiV w' (.agg #[.bool b, .slice a n c]) (dquo fl x y) ∧ ApiV w' (.agg #[.bool b', .slice a' n' c']) (drem fl x y)) ∧ Below w.heap.size w w' := by
  unfold DivAnswer at h
  rw [if_neg (by decide), if_neg hy] at h
  obtain ⟨hb, aq, cq, ar, cr, h1, h2, h3, h4, h5⟩ := h
  exact ⟨_, _, _, _, _, _, _, _, h1, Lib.hid ⟨⟨aq, cq, rfl, h2, h4⟩, ⟨ar, cr, rfl, h3, h5⟩⟩, hb⟩
theorem DivAnswer.zero {fl : Bool} {w w' : World} {e : Ending} {x y : Int} (h : DivAnswer true fl w w' e x y) (hy : y = 0) :
    e = .returned (.tuple #[.agg #[.bool false, .slice none 0 0], .agg #[.bool false, .slice none 0 0], .int .i64 90]) ∧ Below w.heap.size w w' := by
  unfold DivAnswer at h
  rw [if_neg (by decide), if_pos hy] at h
  exact ⟨h.2, h.1⟩
theorem DivAnswer.bad {fl : Bool} {w w' : World} {e : Ending} {x y : Int} (h : DivAnswer false fl w w' e x y) :
    e = .returned (.tuple #[.agg #[.bool false, .slice none 0 0], .agg #[.bool false, .slice none 0 0], .int .i64 1]) ∧ Below w.heap.size w w' := by
  unfold DivAnswer at h
  rw [if_pos rfl] at h
  exact ⟨h.2, h.1⟩

/-- The digits by a count, so that they can be reckoned. -/
def digsF (b : Nat) : Nat → Nat → List Nat
  | 0, _ => []
  | f + 1, n => if n = 0 then [] else n % b :: digsF b f (n / b)
theorem digs_fuel {b : Nat} (hb : 2 ≤ b) : ∀ (f n : Nat), n < 2 ^ f → digs b n = digsF b f n
  | 0, n, h => by rw [Nat.pow_zero] at h; rw [show n = 0 by omega, digs_zero]; rfl
  | f + 1, n, h => by
    unfold digsF
    by_cases hn : n = 0
    · rw [if_pos hn, hn, digs_zero]
    · rw [if_neg hn, digs_pos hb (by omega), digs_fuel hb f (n / b)]
      rw [Nat.pow_succ] at h
      have h1 : n / b ≤ n / 2 := Nat.div_le_div_left hb (by decide)
      omega
theorem awake_text : utxt 10 ((2 : Int) ^ 100) = [49, 50, 54, 55, 54, 53, 48, 54, 48, 48, 50, 50, 56, 50, 50, 57, 52, 48, 49, 52, 57, 54, 55, 48, 51, 50, 48, 53, 51, 55, 54] := by
  unfold utxt ztxt txt
  rw [digs_fuel (by decide) 128 _ (by decide)]
  decide

end Go.Proofs.YtbffpkmfhkphdaaGreatDoor

namespace Go.Proofs.YtbffpkmfhkphdaaGreatDoor
open Go Go.RowKit Limb

theorem Row.cells {w : World} {g : Nat} {t : TypeId} {u v : Value} (h : Row w g t [u, v]) : w.cell? ⟨g, 0, none⟩ = some u ∧ w.cell? ⟨g, 1, none⟩ = some v := ⟨h.cell_at 0, h.cell_at 1⟩

/-- An answer's parts: the integer, or that it is too long. -/
def Ans (X : World) (b : Bool) (a : Option Addr) (n c : Nat) (k z : Int) : Prop :=
  ((rep z.natAbs).length ≤ 1024 ∧ k = 0 ∧ ApiV X (.agg #[.bool b, .slice a n c]) z) ∨ (1024 < (rep z.natAbs).length ∧ b = false ∧ a = none ∧ n = 0 ∧ c = 0 ∧ k = 2)
theorem Ans.below {X X' : World} {b : Bool} {a : Option Addr} {n c : Nat} {k z : Int} (h : Ans X b a n c k z) (hb : Below X.heap.size X X') : Ans X' b a n c k z := by
  rcases h with ⟨h1, h2, h3⟩ | h
  · exact .inl ⟨h1, h2, h3.below hb⟩
  · exact .inr h
theorem Answer.any {w w' : World} {e : Ending} {z : Int} (h : Answer true w w' e z) :
    ∃ b a n c k, e = .returned (.tuple #[.agg #[.bool b, .slice a n c], .int .i64 k]) ∧ Ans w' b a n c k z ∧ Below w.heap.size w w' := by
  by_cases hl : (rep z.natAbs).length ≤ 1024
  · obtain ⟨b, a, n, c, h1, h2, h3⟩ := h.ok hl
    exact ⟨b, a, n, c, 0, h1, .inl ⟨hl, rfl, h2.out⟩, h3⟩
  · obtain ⟨h1, h2⟩ := h.long (by omega)
    exact ⟨_, _, _, _, _, h1, .inr ⟨by omega, rfl, rfl, rfl, rfl, rfl⟩, h2⟩

/-- The law's is, of an answer and the document's. -/
theorem is_any (X : World) (b b' : Bool) (a a' : Option Addr) (n c n' c' : Nat) (k z : Int) (h : Ans X b a n c k z) (hu : ApiV X (.agg #[.bool b', .slice a' n' c']) z) :
    Calls Tryz.prog 13 #[.bool true, .agg #[.bool b, .slice a n c], .int .i64 k, .agg #[.bool b', .slice a' n' c']] X fun e X' => e = .returned (.bool true) ∧ Below X.heap.size X X' := by
  obtain ⟨e1, e2, e3, e4⟩ := hu.parts
  rcases h with ⟨h1, rfl, h3⟩ | ⟨h1, rfl, rfl, rfl, rfl, rfl⟩
  · obtain ⟨f1, f2, f3, f4⟩ := h3.parts
    obtain rfl : b' = b := e1.trans f1.symm
    obtain rfl : n' = n := e2.trans f2.symm
    exact is_ok X b' a a' _ n' c c' f4 e4 f2 (by omega)
  · exact is_long X b' a' n' c' (by omega)

end Go.Proofs.YtbffpkmfhkphdaaGreatDoor
