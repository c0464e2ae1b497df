/- The walk of the reference's Print. The walk of the law's awake. An answer's parts, and the law's is of them. An integer of package api that came in, read as data: what the walks ask of it. -/
import Derived.Test.YtbffpkmfhkphdaaGreatDoorGX41
import Derived.Test.YtbffpkmfhkphdaaGreatDoorGX04
import Derived.Test.YtbffpkmfhkphdaaGreatDoorGX17
import Derived.Test.YtbffpkmfhkphdaaGreatDoorGX29
import Derived.Test.YtbffpkmfhkphdaaGreatDoorRows
import Derived.ProofKit
import Derived.OpenShut
import Derived.LaidMore
import Derived.Lay
import Derived.SevenTiedAt
import Derived.Stop.Joined
import Derived.Lib.SmallJoins
import Derived.Carry
set_option linter.unusedVariables false
set_option linter.unusedSimpArgs false
namespace Go.Proofs.YtbffpkmfhkphdaaGreatDoor
open Go Go.RowKit Limb

/-- What is written so far, l, and what is left, y, of N: in great signs. -/
def PartU (b N : Nat) (l : List Nat) (y : Nat) : Prop := (digs b N).map usgn = l ++ (digs b y).map usgn
theorem PartU.start (b N : Nat) : PartU b N [] N := rfl
theorem PartU.step {b N y : Nat} {l : List Nat} (h : PartU b N l y) (hb : 2 ≤ b) (hy : 0 < y) : PartU b N (l ++ [usgn (y % b)]) (y / b) := by
  unfold PartU at *
  rw [h, digs_pos hb hy]; simp
theorem PartU.done {b N : Nat} {l : List Nat} (h : PartU b N l 0) : l = (digs b N).map usgn := by
  unfold PartU at h; rw [digs_zero] at h; simpa using h.symm
theorem PartU.len_lt {b N y : Nat} {l : List Nat} (h : PartU b N l y) (hb : 2 ≤ b) (hy : 0 < y) : l.length < (digs b N).length := by
  have := congrArg List.length h
  rw [digs_pos hb hy] at this
  simp at this; omega
theorem upper_sgn : ∀ d : _root_.Fin 36, Lib.upperB (UInt8.ofNat (sgn d.val)) = UInt8.ofNat (usgn d.val) := by decide +kernel
/-- The text of an integer, in great signs. -/
def dtxt (b : Nat) (z : Int) : List Nat := if z = 0 then [48] else (if z < 0 then [45] else []) ++ (digs b z.natAbs).reverse.map usgn
theorem utxt_dtxt {b : Nat} (hb : 2 ≤ b) (h36 : b ≤ 36) (z : Int) : utxt b z = (dtxt b z).map UInt8.ofNat := by
  have key : ∀ n : Nat, ((digs b n).reverse.map sgn).map (fun x => Lib.upperB (UInt8.ofNat x)) = ((digs b n).reverse.map usgn).map UInt8.ofNat := fun n => by
    rw [List.map_map, List.map_map]
    refine List.map_congr_left fun d hd => ?_
    have := digs_lt hb n d (List.mem_reverse.1 hd)
    exact upper_sgn ⟨d, by omega⟩
  unfold utxt Lib.toUpperA
  by_cases hz : z = 0
  · subst hz; rfl
  · by_cases hn : z < 0
    · have e1 : ztxt b z = 45 :: (digs b z.natAbs).reverse.map sgn := by unfold ztxt txt; rw [if_pos hn, if_neg (by omega)]
      have e2 : dtxt b z = 45 :: (digs b z.natAbs).reverse.map usgn := by unfold dtxt; rw [if_neg hz, if_pos hn]; rfl
      rw [e1, e2, List.map_map, List.map_cons, List.map_cons]
      have h := key z.natAbs
      rw [List.map_map] at h
      congr 1
      rw [← h]; simp only [List.map_map]; rfl
    · have e1 : ztxt b z = (digs b z.natAbs).reverse.map sgn := by unfold ztxt txt; rw [if_neg hn, if_neg (by omega)]
      have e2 : dtxt b z = (digs b z.natAbs).reverse.map usgn := by unfold dtxt; rw [if_neg hz, if_neg hn]; rfl
      rw [e1, e2, List.map_map]
      exact key z.natAbs

theorem usign_at (W : World) : ∀ d : Nat, d < 36 → (Instr.index 9 (.string { data := #[48, 49, 50, 51, 52, 53, 54, 55, 56, 57, 65, 66, 67, 68, 69, 70, 71, 72, 73, 74, 75, 76, 77, 78, 79, 80, 81, 82, 83, 84, 85, 86, 87, 88, 89, 90] }) (.int .u64 (d : Int))).run Tryz.prog W = .ok (.int .u8 ((usgn d : Nat) : Int)) W
  | 0, _ | 1, _ | 2, _ | 3, _ | 4, _ | 5, _ | 6, _ | 7, _ | 8, _ | 9, _ | 10, _ | 11, _ | 12, _ | 13, _ | 14, _ | 15, _ | 16, _ | 17, _ | 18, _ | 19, _ | 20, _ | 21, _ | 22, _ | 23, _ | 24, _ | 25, _ | 26, _ | 27, _ | 28, _ | 29, _ | 30, _ | 31, _ | 32, _ | 33, _ | 34, _ | 35, _ => by kernel_rfl
  | n + 36, h => absurd h (by omega)

/-- Turned round from its end: the first k of l stand reversed at the end. -/
def turned (l : List Nat) (k : Nat) : List Nat := List.replicate (l.length - k) 0 ++ (l.take k).reverse
theorem turned_zero (l : List Nat) : turned l 0 = List.replicate l.length 0 := by simp [turned]
theorem turned_all (l : List Nat) : turned l l.length = l.reverse := by simp [turned]
theorem turned_length (l : List Nat) {k : Nat} (h : k ≤ l.length) : (turned l k).length = l.length := by simp [turned]; omega
theorem turned_step (l : List Nat) {k : Nat} (h : k < l.length) : (turned l k).set (l.length - 1 - k) (wd l k) = turned l (k + 1) := by
  obtain ⟨m, hm⟩ : ∃ m, l.length = k + 1 + m := ⟨l.length - (k + 1), by omega⟩
  unfold turned
  rw [take_wd h, List.reverse_append, List.reverse_cons, List.reverse_nil, List.nil_append]
  rw [show l.length - k = m + 1 by omega, show l.length - 1 - k = m by omega, show l.length - (k + 1) = m by omega]
  rw [List.replicate_succ', List.append_assoc, List.set_append_right _ _ (by simp)]
  simp

end Go.Proofs.YtbffpkmfhkphdaaGreatDoor

namespace Go.Proofs.YtbffpkmfhkphdaaGreatDoor
open Go Go.RowKit Limb

theorem str_eq {s : ByteArray} {l : List UInt8} (h : s.data.toList = l) : s = ⟨l.toArray⟩ := by cases s; subst h; simp

set_option maxHeartbeats 1600000 in
set_option maxRecDepth 1000000 in
theorem law_awake (w : World) : Calls Tryz.prog 11 #[] w fun e w' => e = .returned (.bool true) ∧ Below w.heap.size w w' := by
  have HOf := Lib.hid (fun (X : World) (v : Int) (h1 : -9223372036854775808 ≤ v) (h2 : v ≤ 9223372036854775807) => (large_of X v h1 h2).mono fun e X' he => show (∃ b a n c, e = .returned (.agg #[.bool b, .slice a n c]) ∧ Hid (b = decide (v < 0) ∧ n = (rep v.natAbs).length ∧ n ≤ c ∧ Lay .u32 X' a (rep v.natAbs))) ∧ Below X.heap.size X X' from by
    obtain ⟨u, rfl, hu, hb⟩ := he
    obtain ⟨b, a, n, c, rfl, hh⟩ := hu.open
    exact ⟨⟨b, a, n, c, rfl, hh⟩, hb⟩)
  go_enter Tryz.func11, Tryz.ntmps11
  go_wp2_with fail
  refine (HOf.out w 2 (by decide) (by decide)).mono ?_
  rintro e w1 ⟨⟨b1, a1, n1, c1, rfl, H1⟩, hb1⟩
  have hP := large_pow_big w1 b1 a1 (rep ((2 : Int).natAbs)) n1 c1 100 2 H1.out.2.2.2 (rep_lim _) H1.out.2.1 (by rw [H1.out.1]; exact mayB_small (by decide)) (by rw [H1.out.1, signed_rep]) (by decide) (by decide) (by decide) (by decide)
  have HP := Lib.hid hP; clear hP
  go_wp2_with fail
  refine HP.out.mono ?_
  rintro e w2 hans
  obtain ⟨b2, a2, n2, c2, rfl, H2, hb2⟩ := hans.ok (by decide)
  have H2' := Lib.hid H2.out.parts
  clear hans
  have hB2 : Below w.heap.size w w2 := hb1.trans (hb2.mono hb1.size)
  have hb3 : Below w2.heap.size w2 (w2.alloc (.cells #[.bool b2, .slice a2 n2 c2] 24)) := (Below.refl _ _).alloc (Nat.le_refl _) _
  have hB3 := hB2.trans (hb3.mono hB2.size)
  have hPr := large_print_ok (w2.alloc (.cells #[.bool b2, .slice a2 n2 c2] 24)) b2 a2 (rep ((2 : Int) ^ 100).natAbs) n2 c2 10 (H2'.out.2.2.2.below hb3) (rep_lim _) H2'.out.2.1 (by rw [H2'.out.1]; exact mayB_small (by decide)) (by decide) (by decide)
  rw [H2'.out.1, signed_rep, awake_text, ← H2'.out.1] at hPr
  have HPr := Lib.hid hPr; clear hPr
  go_wp2_with fail
  refine HPr.out.mono ?_
  rintro e w4 ⟨⟨s, rfl, hs⟩, hb4⟩
  have hs' := str_eq hs
  subst hs'
  clear hs
  have hB4 := hB3.trans (hb4.mono hB3.size)
  go_wp2_with fail
  refine (HOf.out w4 (-7) (by decide) (by decide)).mono ?_
  rintro e w5 ⟨⟨b5, a5, n5, c5, rfl, H5⟩, hb5⟩
  have hB5 := hB4.trans (hb5.mono hB4.size)
  go_wp2_with fail
  refine (HOf.out w5 2 (by decide) (by decide)).mono ?_
  rintro e w6 ⟨⟨b6, a6, n6, c6, rfl, H6⟩, hb6⟩
  have hB6 := hB5.trans (hb6.mono hB5.size)
  have hD := large_div w6 b5 b6 a5 a6 (rep (-7 : Int).natAbs) (rep (2 : Int).natAbs) n5 n6 c5 c6 (H5.out.2.2.2.below hb6) H6.out.2.2.2 (rep_lim _) (rep_lim _) H5.out.2.1 H6.out.2.1 (by rw [H5.out.2.1]; decide) (by rw [H6.out.2.1]; decide)
  rw [H5.out.1, H6.out.1, signed_rep, signed_rep, mayB_small (by decide), mayB_small (by decide), ← H5.out.1, ← H6.out.1] at hD
  have HD := Lib.hid hD; clear hD
  go_wp2_with fail
  refine HD.out.mono ?_
  rintro e w7 hans
  obtain ⟨b7, a7, n7, c7, b8, a8, n8, c8, rfl, H7, hb7⟩ := DivAnswer.ok hans (by decide)
  have H7' := Lib.hid H7.out.1.parts
  have H8' := Lib.hid H7.out.2.parts
  rw [show dquo true (-7) 2 = -4 from by decide] at H7'
  rw [show drem true (-7) 2 = 1 from by decide] at H8'
  clear H7 hans
  obtain rfl : b7 = true := H7'.out.1
  obtain rfl : b8 = false := H8'.out.1
  obtain rfl : n7 = 1 := H7'.out.2.1
  obtain rfl : n8 = 1 := H8'.out.2.1
  have hB7 := hB6.trans (hb7.mono hB6.size)
  have y7 : Row ((w7.alloc (.cells #[.bool true, .slice a7 1 c7] 24)).alloc (.cells #[.bool false, .slice a8 1 c8] 24)) (w7.heap.size + 1) 24 [.bool false, .slice a8 1 c8] := by
    have h := heap_alloc_new (w7.alloc (.cells #[.bool true, .slice a7 1 c7] 24)) (.cells #[.bool false, .slice a8 1 c8] 24)
    rw [World.size_alloc] at h; exact h
  have hb8 : Below w7.heap.size w7 ((w7.alloc (.cells #[.bool true, .slice a7 1 c7] 24)).alloc (.cells #[.bool false, .slice a8 1 c8] 24)) := ((Below.refl _ _).alloc (Nat.le_refl _) _).alloc (by rw [World.size_alloc]; omega) _
  have hsz8 : ((w7.alloc (.cells #[.bool true, .slice a7 1 c7] 24)).alloc (.cells #[.bool false, .slice a8 1 c8] 24)).heap.size = w7.heap.size + 1 + 1 := by rw [World.size_alloc, World.size_alloc]
  obtain ⟨Y, hY⟩ : ∃ Y, Y = ((w7.alloc (.cells #[.bool true, .slice a7 1 c7] 24)).alloc (.cells #[.bool false, .slice a8 1 c8] 24)) := ⟨_, rfl⟩
  rw [← hY] at y7 hb8 hsz8
  have hB8 := hB7.trans (hb8.mono hB7.size)
  have l4 := row_one Y 60 .u32 4 4 rfl
  rw [hsz8] at l4
  have hbl4 : Below Y.heap.size Y (Y.alloc (.cells #[.int .u32 4] 60)) := (Below.refl _ _).alloc (Nat.le_refl _) _
  have hS := law_same _ true a7 (some ⟨w7.heap.size + 1 + 1, 0, none⟩) [4] 1 c7 1 ((H7'.out.2.2.2.below hb8).below hbl4) l4 rfl (by decide)
  have y7' := y7.below hbl4 y7.lt
  have hB9 := hB8.trans (hbl4.mono hB8.size)
  obtain ⟨Z, hZ⟩ : ∃ Z, Z = Y.alloc (.cells #[.int .u32 4] 60) := ⟨_, rfl⟩
  have l1' := (H8'.out.2.2.2.below hb8).below hbl4
  rw [← hZ] at hS y7' hB9 l1'
  have HS := Lib.hid hS; clear hS
  rw [hY] at hZ
  have HZ := Lib.hid hZ; clear hZ hY
  clear y7 hb8 hsz8 l4 hbl4
  go_wp2_with fail
  rw [← HZ.out]
  refine HS.out.mono ?_
  rintro e w8 ⟨rfl, hb9⟩
  have y8 := y7'.below hb9 y7'.lt
  have k0 := y8.cell_at 0
  have k1 := y8.cell_at 1
  simp only [List.getElem?_cons_zero, List.getElem?_cons_succ] at k0 k1
  have hB10 := hB9.trans (hb9.mono hB9.size)
  have l1 := row_one w8 60 .u32 1 1 rfl
  have hbl1 : Below w8.heap.size w8 (w8.alloc (.cells #[.int .u32 1] 60)) := (Below.refl _ _).alloc (Nat.le_refl _) _
  have HS2 := Lib.hid (law_same _ false a8 (some ⟨w8.heap.size, 0, none⟩) [1] 1 c8 1 ((l1'.below hb9).below hbl1) l1 rfl (by decide))
  have hB11 := hB10.trans (hbl1.mono hB10.size)
  clear y7' y8 l1' l1
  go_wp2_with fail
  refine HS2.out.mono ?_
  rintro e w9 ⟨rfl, hb11⟩
  go_wp2_with fail
  go_ret
  exact ⟨rfl, hB11.trans (hb11.mono hB11.size)⟩

end Go.Proofs.YtbffpkmfhkphdaaGreatDoor

namespace Go.Proofs.YtbffpkmfhkphdaaGreatDoor
open Go Go.RowKit Limb

theorem Row.cells {w : World} {g : Nat} {t : TypeId} {u v : Value} (h : Row w g t [u, v]) : w.cell? ⟨g, 0, none⟩ = some u ∧ w.cell? ⟨g, 1, none⟩ = some v := ⟨h.cell_at 0, h.cell_at 1⟩

/-- An answer's parts: the integer, or that it is too long. -/
def Ans (X : World) (b : Bool) (a : Option Addr) (n c : Nat) (k z : Int) : Prop :=
  ((rep z.natAbs).length ≤ 1024 ∧ k = 0 ∧ ApiV X (.agg #[.bool b, .slice a n c]) z) ∨ (1024 < (rep z.natAbs).length ∧ b = false ∧ a = none ∧ n = 0 ∧ c = 0 ∧ k = 2)
theorem Ans.below {X X' : World} {b : Bool} {a : Option Addr} {n c : Nat} {k z : Int} (h : Ans X b a n c k z) (hb : Below X.heap.size X X') : Ans X' b a n c k z := by
  rcases h with ⟨h1, h2, h3⟩ | h
  · exact .inl ⟨h1, h2, h3.below hb⟩
  · exact .inr h
theorem Answer.any {w w' : World} {e : Ending} {z : Int} (h : Answer true w w' e z) :
    ∃ b a n c k, e = .returned (.tuple #[.agg #[.bool b, .slice a n c], .int .i64 k]) ∧ Ans w' b a n c k z ∧ Below w.heap.size w w' := by
  by_cases hl : (rep z.natAbs).length ≤ 1024
  · obtain ⟨b, a, n, c, h1, h2, h3⟩ := h.ok hl
    exact ⟨b, a, n, c, 0, h1, .inl ⟨hl, rfl, h2.out⟩, h3⟩
  · obtain ⟨h1, h2⟩ := h.long (by omega)
    exact ⟨_, _, _, _, _, h1, .inr ⟨by omega, rfl, rfl, rfl, rfl, rfl⟩, h2⟩

/-- The law's is, of an answer and the document's. -/
theorem is_any (X : World) (b b' : Bool) (a a' : Option Addr) (n c n' c' : Nat) (k z : Int) (h : Ans X b a n c k z) (hu : ApiV X (.agg #[.bool b', .slice a' n' c']) z) :
    Calls Tryz.prog 13 #[.bool true, .agg #[.bool b, .slice a n c], .int .i64 k, .agg #[.bool b', .slice a' n' c']] X fun e X' => e = .returned (.bool true) ∧ Below X.heap.size X X' := by
  obtain ⟨e1, e2, e3, e4⟩ := hu.parts
  rcases h with ⟨h1, rfl, h3⟩ | ⟨h1, rfl, rfl, rfl, rfl, rfl⟩
  · obtain ⟨f1, f2, f3, f4⟩ := h3.parts
    obtain rfl : b' = b := e1.trans f1.symm
    obtain rfl : n' = n := e2.trans f2.symm
    exact is_ok X b' a a' _ n' c c' f4 e4 f2 (by omega)
  · exact is_long X b' a' n' c' (by omega)

end Go.Proofs.YtbffpkmfhkphdaaGreatDoor

namespace Go.Proofs.YtbffpkmfhkphdaaGreatDoor
open Go Go.ChangeShapes Go.WideShapes Go.ChangeAt Go.RowKit Limb

/-- Words as they are read: their numbers. -/
theorem came_of_ints {W : World} {b : Bool} {a : Addr} {len cap : Nat} {zs : List Int} (hl : len ≤ cap) (hm : cap ≤ maxLen) (hz : zs.length = cap)
    (hc : ∀ i, i < zs.length → W.cell? (a.add i) = some (.int .u32 (zs.getD i 0))) (hw : ∀ n ∈ zs, (Lit.int .u32 n).wf = true) : ∃ l, Came W b (some a) len l := by
  refine ⟨(zs.take len).map Int.toNat, ?_, ?_, by simp; omega, by unfold maxLen at hm; omega⟩
  · by_cases h0 : 0 < len
    · obtain ⟨blk, off, rfl, hcell⟩ := ints_at hc (by omega)
      refine ⟨blk, off, fun _ => ⟨rfl, World.block_lt_of_cell? W _ (hcell 0 (by omega))⟩, fun i hi => ?_⟩
      have hi' : i < len := by simp at hi; omega
      have hiz : i < zs.length := by omega
      rw [hcell i hiz]
      have e : zs.getD i 0 = zs[i] := by rw [List.getD_eq_getElem?_getD, List.getElem?_eq_getElem hiz]; rfl
      have hb := bounds_u32 (hw zs[i] (List.getElem_mem hiz))
      rw [e, wd_lt hi]
      simp only [List.getElem_map, List.getElem_take]
      rw [Int.toNat_of_nonneg hb.1]
    · have : len = 0 := by omega
      subst this
      exact Lay.nil _ _ _
  · intro x hx
    obtain ⟨n, hn, rfl⟩ := List.mem_map.1 hx
    have hb := bounds_u32 (hw n (List.mem_of_mem_take hn))
    omega

section
variable {H : Type} {enc : TypeId × Value → H}
set_option maxRecDepth 100000 in
/-- An argument of type api.Int. -/
theorem open_api {W : World} {base : Nat} {v : Value} {d : DataW H} {p : List MemPlace} (hv : Value.okWide Tryz.prog W .any base 24 v) (h : DataW.Trod enc Tryz.prog W 0 (fun _ => true) true 24 v d p) :
    ∃ b a n c l, v = .agg #[.bool b, .slice a n c] ∧ Came W b a n l ∧ n ≤ c := by
  obtain ⟨v0, v1, y0, y1, n, rfl, _, _, h0, h1⟩ := Joins.open_agg2 Tryz.underlying24 (by kernel_rfl) (by kernel_rfl) hv h
  have h0 : DataW.trod enc Tryz.prog W 0 (fun _ => true) true n 4 [v0] = some y0 := h0
  have h1 : DataW.trod enc Tryz.prog W 0 (fun _ => true) true n 22 [v1] = some y1 := h1
  obtain ⟨b, e0, _⟩ := DataW.trod_bool Tryz.underlying4 h0
  have e0 : v0 = .bool b := by simpa using e0
  subst e0
  rcases open_ints Tryz.underlying22 Tryz.underlying60 (by kernel_rfl) h1 with ⟨e1, _⟩ | ⟨a, len, cap, zs, e1, _, hl, hm, hz, _, hc, hw⟩
  · have e1 : v1 = .slice none 0 0 := by simpa using e1
    subst e1
    exact ⟨b, none, 0, 0, [], rfl, ⟨Lay.nil _ _ _, Lim.nil, rfl, by decide⟩, Nat.le_refl _⟩
  · have e1 : v1 = .slice (some a) len cap := by simpa using e1
    subst e1
    simp only [if_true] at hz
    obtain ⟨l, hcame⟩ := came_of_ints (b := b) hl hm hz hc hw
    exact ⟨b, some a, len, cap, l, rfl, hcame, hl⟩
end

end Go.Proofs.YtbffpkmfhkphdaaGreatDoor
