/- An answer's parts, and the law's is of them. -/
import Derived.Test.YtbffpkmfhkphdaaGreatDoorLawAidC
import Derived.Test.YtbffpkmfhkphdaaGreatDoorGX32
set_option linter.unusedVariables false
set_option linter.unusedSimpArgs false
namespace Go.Proofs.YtbffpkmfhkphdaaGreatDoor
open Go Go.RowKit Limb

theorem Row.cells {w : World} {g : Nat} {t : TypeId} {u v : Value} (h : Row w g t [u, v]) : w.cell? ⟨g, 0, none⟩ = some u ∧ w.cell? ⟨g, 1, none⟩ = some v := ⟨h.cell_at 0, h.cell_at 1⟩

/-- An answer's parts: the integer, or that it is too long. -/
def Ans (X : World) (b : Bool) (a : Option Addr) (n c : Nat) (k z : Int) : Prop :=
  ((rep z.natAbs).length ≤ 1024 ∧ k = 0 ∧ ApiV X (.agg #[.bool b, .slice a n c]) z) ∨ (1024 < (rep z.natAbs).length ∧ b = false ∧ a = none ∧ n = 0 ∧ c = 0 ∧ k = 2)
theorem Ans.below {X X' : World} {b : Bool} {a : Option Addr} {n c : Nat} {k z : Int} (h : Ans X b a n c k z) (hb : Below X.heap.size X X') : Ans X' b a n c k z := by
  rcases h with ⟨h1, h2, h3⟩ | h
  · exact .inl ⟨h1, h2, h3.below hb⟩
  · exact .inr h
theorem Answer.any {w w' : World} {e : Ending} {z : Int} (h : Answer true w w' e z) :
    ∃ b a n c k, e = .returned (.tuple #[.agg #[.bool b, .slice a n c], .int .i64 k]) ∧ Ans w' b a n c k z ∧ Below w.heap.size w w' := by
  by_cases hl : (rep z.natAbs).length ≤ 1024
  · obtain ⟨b, a, n, c, h1, h2, h3⟩ := h.ok hl
    exact ⟨b, a, n, c, 0, h1, .inl ⟨hl, rfl, h2.out⟩, h3⟩
  · obtain ⟨h1, h2⟩ := h.long (by omega)
    exact ⟨_, _, _, _, _, h1, .inr ⟨by omega, rfl, rfl, rfl, rfl, rfl⟩, h2⟩

/-- The law's is, of an answer and the document's. -/
theorem is_any (X : World) (b b' : Bool) (a a' : Option Addr) (n c n' c' : Nat) (k z : Int) (h : Ans X b a n c k z) (hu : ApiV X (.agg #[.bool b', .slice a' n' c']) z) :
    Calls Tryz.prog 13 #[.bool true, .agg #[.bool b, .slice a n c], .int .i64 k, .agg #[.bool b', .slice a' n' c']] X fun e X' => e = .returned (.bool true) ∧ Below X.heap.size X X' := by
  obtain ⟨e1, e2, e3, e4⟩ := hu.parts
  rcases h with ⟨h1, rfl, h3⟩ | ⟨h1, rfl, rfl, rfl, rfl, rfl⟩
  · obtain ⟨f1, f2, f3, f4⟩ := h3.parts
    obtain rfl : b' = b := e1.trans f1.symm
    obtain rfl : n' = n := e2.trans f2.symm
    exact is_ok X b' a a' _ n' c c' f4 e4 f2 (by omega)
  · exact is_long X b' a' n' c' (by omega)

end Go.Proofs.YtbffpkmfhkphdaaGreatDoor
