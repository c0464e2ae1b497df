/- Selectors: what the prelude puts into a class. -/
import Derived.Test.YtdhapmlgapflbaaGreatDoorPPar
set_option linter.unusedVariables false
set_option linter.unusedSimpArgs false
namespace Go.Proofs.YtdhapmlgapflbaaGreatDoor
open Go Go.RowKit Limb
/-- Two lists that grow side by side. -/
structure Two (w : World) (B : Nat) (va : Value) (xs : List Value) (vb : Value) (ys : List Value) : Prop where
  a : Own1 w 9 va xs B
  b : Own1 w 3 vb ys B
  ne : ∀ g, va.ownBlock = some g → vb.ownBlock ≠ some g
theorem Two.below {w w' : World} {B : Nat} {va vb : Value} {xs ys : List Value} (h : Two w B va xs vb ys) (hb : Below w.heap.size w w') : Two w' B va xs vb ys := ⟨h.a.below hb, h.b.below hb, h.ne⟩
theorem Two.kept {w w' : World} {B : Nat} {va vb : Value} {xs ys : List Value} (h : Two w B va xs vb ys) {p : Nat} (ho : Only [p] w w') (ha : va.ownBlock ≠ some p) (hb : vb.ownBlock ≠ some p) : Two w' B va xs vb ys :=
  ⟨h.a.kept ho (fun g hg hm => ha (by rw [hg, List.mem_singleton.1 hm])), h.b.kept ho (fun g hg hm => hb (by rw [hg, List.mem_singleton.1 hm])), h.ne⟩
theorem info_str : (Tryz.prog.info? 9).map (fun i => (i.zero, i.size, i.bytes)) = some (some (.string ByteArray.empty), 1, 16) := by kernel_rfl
/-- One text more, and then one number more. -/
theorem Two.step {X : World} {B gP : Nat} {va vb : Value} {xs ys : List Value} (h : Two X B va xs vb ys) (hB : B ≤ X.heap.size) (s : List UInt8) (hx : xs.length ≤ 100000) (hpa : va.ownBlock ≠ some gP) (hp : gP < X.heap.size) :
    ∃ va' X', (Builtin.append_ #[24, 24] 24 #[va, .slice (some ⟨X.heap.size, 0, none⟩) 1 1]).run Tryz.prog (X.alloc (.cells #[.string ⟨s.toArray⟩] 9)) = .ok va' X' ∧ Two X' B va' (xs ++ [bS s]) vb ys ∧ Below B X X' ∧ Only va.ownBlock.toList X X' ∧ va'.ownBlock ≠ some gP := by
  obtain ⟨va', X', h1, h2, h3, h4, h5⟩ := own1_append2 24 (.string ByteArray.empty) 16 Tryz.underlying24 info_str rfl (by decide) h.a hB (.string ⟨s.toArray⟩) rfl hx
  refine ⟨va', X', h1, ⟨h2, h.b.kept h4 (fun g hg hm => h.ne g ?_ hg), fun g hg hb => ?_⟩, h3, h4, fun hg => ?_⟩
  · cases hv : va.ownBlock with
    | none => rw [hv] at hm; cases hm
    | some q => rw [hv] at hm; simp at hm; rw [hm]
  · rcases h5 with h5 | ⟨q, h5, h6⟩
    · exact h.ne g (h5 ▸ hg) hb
    · rw [h5] at hg
      have := (h.b.own_lt hb).1
      have := Option.some.inj hg
      omega
  · rcases h5 with h5 | ⟨q, h5, h6⟩
    · exact hpa (h5 ▸ hg)
    · rw [h5] at hg
      have := Option.some.inj hg
      omega
theorem Two.step2 {X : World} {B gP : Nat} {va vb : Value} {xs ys : List Value} (h : Two X B va xs vb ys) (hB : B ≤ X.heap.size) (n : Int) (hy : ys.length ≤ 100000) (hpb : vb.ownBlock ≠ some gP) (hp : gP < X.heap.size) :
    ∃ vb' X', (Builtin.append_ #[22, 22] 22 #[vb, .slice (some ⟨X.heap.size, 0, none⟩) 1 1]).run Tryz.prog (X.alloc (.cells #[.int .i64 n] 3)) = .ok vb' X' ∧ Two X' B va xs vb' (ys ++ [.int .i64 n]) ∧ Below B X X' ∧ Only vb.ownBlock.toList X X' ∧ vb'.ownBlock ≠ some gP := by
  obtain ⟨vb', X', h1, h2, h3, h4, h5⟩ := own1_append2 22 (.int .i64 0) 8 Tryz.underlying22 info_int rfl (by decide) h.b hB (.int .i64 n) rfl hy
  refine ⟨vb', X', h1, ⟨h.a.kept h4 (fun g hg hm => h.ne g hg ?_), h2, fun g hg hb => ?_⟩, h3, h4, fun hg => ?_⟩
  · cases hv : vb.ownBlock with
    | none => rw [hv] at hm; cases hm
    | some q => rw [hv] at hm; simp at hm; rw [hm]
  · rcases h5 with h5 | ⟨q, h5, h6⟩
    · exact h.ne g hg (h5 ▸ hb)
    · rw [h5] at hb
      have := (h.a.own_lt hg).1
      have := Option.some.inj hb
      omega
  · rcases h5 with h5 | ⟨q, h5, h6⟩
    · exact hpb (h5 ▸ hg)
    · rw [h5] at hg
      have := Option.some.inj hg
      omega
def selUp (root : Int) (k : Nat) : List Value := (List.range k).flatMap fun i => if (rowT i).1 = root then (mtT i).map fun m => bS m.sel else []
def numUp (root : Int) (k : Nat) : List Value := (List.range k).flatMap fun i => if (rowT i).1 = root then (mtT i).map fun m => Value.int .i64 m.num else []
theorem selUp_succ (root : Int) (k : Nat) : selUp root (k + 1) = selUp root k ++ if (rowT k).1 = root then (mtT k).map fun m => bS m.sel else [] := by unfold selUp; rw [List.range_succ, List.flatMap_append]; simp
theorem numUp_succ (root : Int) (k : Nat) : numUp root (k + 1) = numUp root k ++ if (rowT k).1 = root then (mtT k).map fun m => Value.int .i64 m.num else [] := by unfold numUp; rw [List.range_succ, List.flatMap_append]; simp
theorem mt_len (i : Nat) : 0 < (mtT i).length ∧ (mtT i).length ≤ 30 := by
  match i with
  | 0 => decide
  | 1 => decide
  | 2 => decide
  | 3 => decide
  | 4 => decide
  | 5 => decide
  | 6 => decide
  | 7 => decide
  | 8 => decide
  | i + 9 => show 0 < (mtT 9).length ∧ (mtT 9).length ≤ 30; decide
theorem up_len (root : Int) : ∀ k, (selUp root k).length ≤ 30 * k ∧ (numUp root k).length ≤ 30 * k
  | 0 => ⟨Nat.le_refl _, Nat.le_refl _⟩
  | k + 1 => by
    have ih := up_len root k
    have h := (mt_len k).2
    rw [selUp_succ, numUp_succ, List.length_append, List.length_append]
    split <;> simp <;> omega
theorem row_cells (k : Nat) (hk : k < 10) : rowCells[k * 2]? = some (.int .i64 (rowT k).1) ∧ rowCells[k * 2 + 1]? = some (bS (rowT k).2) := by
  have c : k = 0 ∨ k = 1 ∨ k = 2 ∨ k = 3 ∨ k = 4 ∨ k = 5 ∨ k = 6 ∨ k = 7 ∨ k = 8 ∨ k = 9 := by omega
  rcases c with rfl | rfl | rfl | rfl | rfl | rfl | rfl | rfl | rfl | rfl <;> exact ⟨rfl, rfl⟩
theorem row_root (k : Nat) : 10 ≤ (rowT k).1 ∧ (rowT k).1 ≤ 31 := by
  match k with
  | 0 => decide
  | 1 => decide
  | 2 => decide
  | 3 => decide
  | 4 => decide
  | 5 => decide
  | 6 => decide
  | 7 => decide
  | 8 => decide
  | i + 9 => show 10 ≤ (rowT 9).1 ∧ (rowT 9).1 ≤ 31; decide
theorem size_row (W : World) : (sizeOf 50).run Tryz.prog W = .ok 2 W := by kernel_rfl
theorem size_mt (W : World) : (sizeOf 54).run Tryz.prog W = .ok 3 W := by kernel_rfl
theorem mtCells_at {ms : List Mt} {q : Nat} (hq : q < ms.length) : (mtCells ms)[q * 3]? = some (bS (ms.getD q ⟨[], 0, []⟩).sel) ∧ (mtCells ms)[q * 3 + 1]? = some (.int .i64 (ms.getD q ⟨[], 0, []⟩).num) ∧ (mtCells ms)[q * 3 + 2]? = some (bS (ms.getD q ⟨[], 0, []⟩).form) := by
  induction ms generalizing q with
  | nil => simp at hq
  | cons m ms ih =>
    cases q with
    | zero => exact ⟨rfl, rfl, rfl⟩
    | succ q =>
      have := ih (q := q) (by simpa using hq)
      have e : mtCells (m :: ms) = bS m.sel :: .int .i64 m.num :: bS m.form :: mtCells ms := rfl
      rw [e, show (q + 1) * 3 = q * 3 + 1 + 1 + 1 by omega]
      simpa using this
end Go.Proofs.YtdhapmlgapflbaaGreatDoor
