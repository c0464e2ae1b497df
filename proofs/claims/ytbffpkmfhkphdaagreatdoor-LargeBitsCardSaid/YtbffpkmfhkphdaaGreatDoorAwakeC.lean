/- The walk of the law's awake. -/
import Derived.Test.YtbffpkmfhkphdaaGreatDoorGAns
namespace Go.Proofs.YtbffpkmfhkphdaaGreatDoor
open Go Go.RowKit Limb

theorem str_eq {s : ByteArray} {l : List UInt8} (h : s.data.toList = l) : s = ⟨l.toArray⟩ := by cases s; subst h; simp

set_option maxHeartbeats 1600000 in
set_option maxRecDepth 1000000 in
theorem law_awake (w : World) : Calls Tryz.prog 11 #[] w fun e w' => e = .returned (.bool true) ∧ Below w.heap.size w w' := by
  have HOf := Lib.hid (fun (X : World) (v : Int) (h1 : -9223372036854775808 ≤ v) (h2 : v ≤ 9223372036854775807) => (large_of X v h1 h2).mono fun e X' he => show (∃ b a n c, e = .returned (.agg #[.bool b, .slice a n c]) ∧ Hid (b = decide (v < 0) ∧ n = (rep v.natAbs).length ∧ n ≤ c ∧ Lay .u32 X' a (rep v.natAbs))) ∧ Below X.heap.size X X' from by
    obtain ⟨u, rfl, hu, hb⟩ := he
    obtain ⟨b, a, n, c, rfl, hh⟩ := hu.open
    exact ⟨⟨b, a, n, c, rfl, hh⟩, hb⟩)
  go_enter Tryz.func11, Tryz.ntmps11
  go_wp2_with fail
  refine (HOf.out w 2 (by decide) (by decide)).mono ?_
  rintro e w1 ⟨⟨b1, a1, n1, c1, rfl, H1⟩, hb1⟩
  have hP := large_pow_big w1 b1 a1 (rep ((2 : Int).natAbs)) n1 c1 100 2 H1.out.2.2.2 (rep_lim _) H1.out.2.1 (by rw [H1.out.1]; exact mayB_small (by decide)) (by rw [H1.out.1, signed_rep]) (by decide) (by decide) (by decide) (by decide)
  have HP := Lib.hid hP; clear hP
  go_wp2_with fail
  refine HP.out.mono ?_
  rintro e w2 hans
  obtain ⟨b2, a2, n2, c2, rfl, H2, hb2⟩ := hans.ok (by decide)
  have H2' := Lib.hid H2.out.parts
  clear hans
  have hB2 : Below w.heap.size w w2 := hb1.trans (hb2.mono hb1.size)
  have hb3 : Below w2.heap.size w2 (w2.alloc (.cells #[.bool b2, .slice a2 n2 c2] 24)) := (Below.refl _ _).alloc (Nat.le_refl _) _
  have hB3 := hB2.trans (hb3.mono hB2.size)
  have hPr := large_print_ok (w2.alloc (.cells #[.bool b2, .slice a2 n2 c2] 24)) b2 a2 (rep ((2 : Int) ^ 100).natAbs) n2 c2 10 (H2'.out.2.2.2.below hb3) (rep_lim _) H2'.out.2.1 (by rw [H2'.out.1]; exact mayB_small (by decide)) (by decide) (by decide)
  rw [H2'.out.1, signed_rep, awake_text, ← H2'.out.1] at hPr
  have HPr := Lib.hid hPr; clear hPr
  go_wp2_with fail
  refine HPr.out.mono ?_
  rintro e w4 ⟨⟨s, rfl, hs⟩, hb4⟩
  have hs' := str_eq hs
  subst hs'
  clear hs
  have hB4 := hB3.trans (hb4.mono hB3.size)
  go_wp2_with fail
  refine (HOf.out w4 (-7) (by decide) (by decide)).mono ?_
  rintro e w5 ⟨⟨b5, a5, n5, c5, rfl, H5⟩, hb5⟩
  have hB5 := hB4.trans (hb5.mono hB4.size)
  go_wp2_with fail
  refine (HOf.out w5 2 (by decide) (by decide)).mono ?_
  rintro e w6 ⟨⟨b6, a6, n6, c6, rfl, H6⟩, hb6⟩
  have hB6 := hB5.trans (hb6.mono hB5.size)
  have hD := large_div w6 b5 b6 a5 a6 (rep (-7 : Int).natAbs) (rep (2 : Int).natAbs) n5 n6 c5 c6 (H5.out.2.2.2.below hb6) H6.out.2.2.2 (rep_lim _) (rep_lim _) H5.out.2.1 H6.out.2.1 (by rw [H5.out.2.1]; decide) (by rw [H6.out.2.1]; decide)
  rw [H5.out.1, H6.out.1, signed_rep, signed_rep, mayB_small (by decide), mayB_small (by decide), ← H5.out.1, ← H6.out.1] at hD
  have HD := Lib.hid hD; clear hD
  go_wp2_with fail
  refine HD.out.mono ?_
  rintro e w7 hans
  obtain ⟨b7, a7, n7, c7, b8, a8, n8, c8, rfl, H7, hb7⟩ := DivAnswer.ok hans (by decide)
  have H7' := Lib.hid H7.out.1.parts
  have H8' := Lib.hid H7.out.2.parts
  rw [show dquo true (-7) 2 = -4 from by decide] at H7'
  rw [show drem true (-7) 2 = 1 from by decide] at H8'
  clear H7 hans
  obtain rfl : b7 = true := H7'.out.1
  obtain rfl : b8 = false := H8'.out.1
  obtain rfl : n7 = 1 := H7'.out.2.1
  obtain rfl : n8 = 1 := H8'.out.2.1
  have hB7 := hB6.trans (hb7.mono hB6.size)
  have y7 : Row ((w7.alloc (.cells #[.bool true, .slice a7 1 c7] 24)).alloc (.cells #[.bool false, .slice a8 1 c8] 24)) (w7.heap.size + 1) 24 [.bool false, .slice a8 1 c8] := by
    have h := heap_alloc_new (w7.alloc (.cells #[.bool true, .slice a7 1 c7] 24)) (.cells #[.bool false, .slice a8 1 c8] 24)
    rw [World.size_alloc] at h; exact h
  have hb8 : Below w7.heap.size w7 ((w7.alloc (.cells #[.bool true, .slice a7 1 c7] 24)).alloc (.cells #[.bool false, .slice a8 1 c8] 24)) := ((Below.refl _ _).alloc (Nat.le_refl _) _).alloc (by rw [World.size_alloc]; omega) _
  have hsz8 : ((w7.alloc (.cells #[.bool true, .slice a7 1 c7] 24)).alloc (.cells #[.bool false, .slice a8 1 c8] 24)).heap.size = w7.heap.size + 1 + 1 := by rw [World.size_alloc, World.size_alloc]
  obtain ⟨Y, hY⟩ : ∃ Y, Y = ((w7.alloc (.cells #[.bool true, .slice a7 1 c7] 24)).alloc (.cells #[.bool false, .slice a8 1 c8] 24)) := ⟨_, rfl⟩
  rw [← hY] at y7 hb8 hsz8
  have hB8 := hB7.trans (hb8.mono hB7.size)
  have l4 := row_one Y 60 .u32 4 4 rfl
  rw [hsz8] at l4
  have hbl4 : Below Y.heap.size Y (Y.alloc (.cells #[.int .u32 4] 60)) := (Below.refl _ _).alloc (Nat.le_refl _) _
  have hS := law_same _ true a7 (some ⟨w7.heap.size + 1 + 1, 0, none⟩) [4] 1 c7 1 ((H7'.out.2.2.2.below hb8).below hbl4) l4 rfl (by decide)
  have y7' := y7.below hbl4 y7.lt
  have hB9 := hB8.trans (hbl4.mono hB8.size)
  obtain ⟨Z, hZ⟩ : ∃ Z, Z = Y.alloc (.cells #[.int .u32 4] 60) := ⟨_, rfl⟩
  have l1' := (H8'.out.2.2.2.below hb8).below hbl4
  rw [← hZ] at hS y7' hB9 l1'
  have HS := Lib.hid hS; clear hS
  rw [hY] at hZ
  have HZ := Lib.hid hZ; clear hZ hY
  clear y7 hb8 hsz8 l4 hbl4
  go_wp2_with fail
  rw [← HZ.out]
  refine HS.out.mono ?_
  rintro e w8 ⟨rfl, hb9⟩
  have y8 := y7'.below hb9 y7'.lt
  have k0 := y8.cell_at 0
  have k1 := y8.cell_at 1
  simp only [List.getElem?_cons_zero, List.getElem?_cons_succ] at k0 k1
  have hB10 := hB9.trans (hb9.mono hB9.size)
  have l1 := row_one w8 60 .u32 1 1 rfl
  have hbl1 : Below w8.heap.size w8 (w8.alloc (.cells #[.int .u32 1] 60)) := (Below.refl _ _).alloc (Nat.le_refl _) _
  have HS2 := Lib.hid (law_same _ false a8 (some ⟨w8.heap.size, 0, none⟩) [1] 1 c8 1 ((l1'.below hb9).below hbl1) l1 rfl (by decide))
  have hB11 := hB10.trans (hbl1.mono hB10.size)
  clear y7' y8 l1' l1
  go_wp2_with fail
  refine HS2.out.mono ?_
  rintro e w9 ⟨rfl, hb11⟩
  go_wp2_with fail
  go_ret
  exact ⟨rfl, hB11.trans (hb11.mono hB11.size)⟩

end Go.Proofs.YtbffpkmfhkphdaaGreatDoor
