/- (*Int).SetInt64 and NewInt of package big. -/
import Derived.Test.YtbffpkmfhkphdaaGreatDoorAtC
namespace Go.Proofs.YtbffpkmfhkphdaaGreatDoor
open Go Go.RowKit Limb

theorem u64_nat {n : Nat} (h : n < 9223372036854775808) : IntKind.u64.wrap (n : Int) = n := by
  simp only [IntKind.wrap, IntKind.signed, IntKind.bits, Bool.false_and, Bool.false_eq_true, if_false]; omega
theorem u64_neg {n : Nat} (h : n ≤ 9223372036854775808) : IntKind.u64.wrap (-(IntKind.u64.wrap (-(n : Int)))) = n := by
  simp only [IntKind.wrap, IntKind.signed, IntKind.bits, Bool.false_and, Bool.false_eq_true, if_false]; omega

set_option maxHeartbeats 800000 in
set_option maxRecDepth 100000 in
theorem int_setint (w : World) (p : Nat) (y v : Int) (hp : IntAt w p y) (h1 : -9223372036854775808 ≤ v) (h2 : v ≤ 9223372036854775807) :
    Calls Tryz.prog 154 #[.pointer (some ⟨p, 0, none⟩), .int .i64 v] w fun e w' => IntRes w w' e p v := by
  by_cases hv : v < 0
  · obtain ⟨n, hn⟩ : ∃ n : Nat, v = -(n : Int) := ⟨v.natAbs, by omega⟩
    have hd : decide (v < 0) = true := by simpa using hv
    have hw : IntKind.u64.wrap (-(IntKind.u64.wrap v)) = n := by rw [hn]; exact u64_neg (by omega)
    have hna : v.natAbs = n := by omega
    have hB := fun W => big_word W n (by omega)
    have HB := Lib.hid hB; clear hB
    have Hna := Lib.hid hna; clear hna hn
    go_enter Tryz.func154, Tryz.ntmps154
    go_wp2_with fail
    refine (HB.out _).mono ?_
    rintro e w1 ⟨a, c, rfl, g1, g2, g3, g4⟩
    rw [← Hna.out] at g1 g3 ⊢
    go_wp2_with fail
    refine (big_made _ p y v true a _ c (hp.below g4) g3 rfl g1 ⟨fun _ => by omega, (fun h => by (cases h))⟩).mono ?_
    rintro e w2 ⟨rfl, k1, k2⟩
    go_wp2
    go_ret
    exact ⟨rfl, k1, (Only.of_below g4).trans k2 (by simp)⟩
  · obtain ⟨n, hn⟩ : ∃ n : Nat, v = (n : Int) := ⟨v.natAbs, by omega⟩
    have hd : decide (v < 0) = false := by simpa using hv
    have hw : IntKind.u64.wrap v = n := by rw [hn]; exact u64_nat (by omega)
    have hna : v.natAbs = n := by omega
    have hB := fun W => big_word W n (by omega)
    have HB := Lib.hid hB; clear hB
    have Hna := Lib.hid hna; clear hna hn
    go_enter Tryz.func154, Tryz.ntmps154
    go_wp2_with fail
    refine (HB.out _).mono ?_
    rintro e w1 ⟨a, c, rfl, g1, g2, g3, g4⟩
    rw [← Hna.out] at g1 g3 ⊢
    go_wp2_with fail
    refine (big_made _ p y v false a _ c (hp.below g4) g3 rfl g1 ⟨(fun h => by (cases h)), fun _ => by omega⟩).mono ?_
    rintro e w2 ⟨rfl, k1, k2⟩
    go_wp2
    go_ret
    exact ⟨rfl, k1, (Only.of_below g4).trans k2 (by simp)⟩

set_option maxRecDepth 100000 in
theorem big_newint (w : World) (v : Int) (h1 : -9223372036854775808 ≤ v) (h2 : v ≤ 9223372036854775807) :
    Calls Tryz.prog 73 #[.int .i64 v] w fun e w' => ∃ p, e = .returned (.pointer (some ⟨p, 0, none⟩)) ∧ w.heap.size ≤ p ∧ IntAt w' p v ∧ Below w.heap.size w w' := by
  have HS := Lib.hid (int_setint (w.alloc (.cells #[.bool false, .slice none 0 0] 117)) w.heap.size 0 v (IntAt.new w) h1 h2)
  go_enter Tryz.func73, Tryz.ntmps73
  go_wp2_with fail
  refine HS.out.mono ?_
  rintro e w1 ⟨rfl, k1, k2⟩
  go_wp2
  go_ret
  exact ⟨_, rfl, Nat.le_refl _, k1, ((Below.refl _ _).alloc (Nat.le_refl _) _).trans (k2.belowB (by rw [World.size_alloc]; omega) (by simp))⟩
theorem at_newint {w1 X : World} {l : List (Nat × Int)} (h : At w1 X l) (v : Int) (h1 : -9223372036854775808 ≤ v) (h2 : v ≤ 9223372036854775807) :
    Calls Tryz.prog 73 #[.int .i64 v] X fun e X' => ∃ p, e = .returned (.pointer (some ⟨p, 0, none⟩)) ∧ At w1 X' ((p, v) :: l) := by
  refine (big_newint X v h1 h2).mono ?_
  rintro e X' ⟨p, rfl, k1, k2, k3⟩
  exact ⟨p, rfl, h.cons k3 k1 k2⟩
theorem at_quorem {w1 X : World} {l : List (Nat × Int)} {p q r s : Nat} {v u x y : Int} (h : At w1 X l) (hp : (p, v) ∈ l) (hq : (q, x) ∈ l) (hr : (r, y) ∈ l) (hs : (s, u) ∈ l) (hne : (l.map Prod.fst).Nodup → p ≠ s) (hy : y ≠ 0) (lx : (rep x.natAbs).length ≤ 68719476736) (ly : (rep y.natAbs).length ≤ 68719476736) :
    Calls Tryz.prog 166 #[.pointer (some ⟨p, 0, none⟩), .pointer (some ⟨q, 0, none⟩), .pointer (some ⟨r, 0, none⟩), .pointer (some ⟨s, 0, none⟩)] X fun e X' =>
      e = .returned (.tuple #[.pointer (some ⟨p, 0, none⟩), .pointer (some ⟨s, 0, none⟩)]) ∧ At w1 X' (upd (upd l p (x.tdiv y)) s (x.tmod y)) := by
  refine (int_quorem X p q r s v u x y (h.ints _ hp).1 (h.ints _ hq).1 (h.ints _ hr).1 (h.ints _ hs).1 (hne h.nd) hy lx ly).mono ?_
  rintro e X' ⟨rfl, k1, k2, k3⟩
  refine ⟨rfl, ?_, ?_, by rw [upd_fst, upd_fst]; exact h.nd⟩
  · exact h.below.trans (k3.belowB h.below.size (by intro q hq; simp only [List.mem_cons, List.not_mem_nil, or_false] at hq; rcases hq with rfl | rfl; exact (h.ints _ hp).2; exact (h.ints _ hs).2))
  · have hib : IntBlocks X [p, s] := by
      intro b hb
      simp only [List.mem_cons, List.not_mem_nil, or_false] at hb
      rcases hb with rfl | rfl
      · exact ⟨_, (h.ints _ hp).1⟩
      · exact ⟨_, (h.ints _ hs).1⟩
    intro b hb
    obtain ⟨c, hc, e⟩ := List.mem_map.mp hb
    split at e
    · subst e; exact ⟨k2, (h.ints _ hs).2⟩
    · rename_i hcs
      subst e
      obtain ⟨d, hd, e⟩ := List.mem_map.mp hc
      split at e
      · subst e; exact ⟨k1, (h.ints _ hp).2⟩
      · rename_i hcp
        subst e
        exact ⟨(h.ints _ hd).1.only k3 (by simp; exact ⟨hcp, hcs⟩) hib, (h.ints _ hd).2⟩
theorem at_sign {w1 X : World} {l : List (Nat × Int)} {p : Nat} {z : Int} (h : At w1 X l) (hp : (p, z) ∈ l) :
    Calls Tryz.prog 61 #[.pointer (some ⟨p, 0, none⟩)] X fun e X' => e = .returned (.int .i64 (sgnI z)) ∧ X = X' := int_sign X p z (h.ints _ hp).1

end Go.Proofs.YtbffpkmfhkphdaaGreatDoor
