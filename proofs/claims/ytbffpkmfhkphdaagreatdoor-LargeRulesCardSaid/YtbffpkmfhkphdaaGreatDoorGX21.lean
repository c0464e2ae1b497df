/- (*Int).SetInt64 and NewInt of package big. Plain arithmetic: the quotients and remainders, by truncation and by the floor. The walks of (*Int).Text and of large.Print. -/
import Derived.Test.YtbffpkmfhkphdaaGreatDoorAtC
import Derived.Test.YtbffpkmfhkphdaaGreatDoorGX14
set_option linter.unusedVariables false
set_option linter.unusedSimpArgs false
namespace Go.Proofs.YtbffpkmfhkphdaaGreatDoor
open Go Go.RowKit Limb

theorem u64_nat {n : Nat} (h : n < 9223372036854775808) : IntKind.u64.wrap (n : Int) = n := by
  simp only [IntKind.wrap, IntKind.signed, IntKind.bits, Bool.false_and, Bool.false_eq_true, if_false]; omega
theorem u64_neg {n : Nat} (h : n ≤ 9223372036854775808) : IntKind.u64.wrap (-(IntKind.u64.wrap (-(n : Int)))) = n := by
  simp only [IntKind.wrap, IntKind.signed, IntKind.bits, Bool.false_and, Bool.false_eq_true, if_false]; omega

set_option maxHeartbeats 800000 in
set_option maxRecDepth 100000 in
theorem int_setint (w : World) (p : Nat) (y v : Int) (hp : IntAt w p y) (h1 : -9223372036854775808 ≤ v) (h2 : v ≤ 9223372036854775807) :
    Calls Tryz.prog 154 #[.pointer (some ⟨p, 0, none⟩), .int .i64 v] w fun e w' => IntRes w w' e p v := by
  by_cases hv : v < 0
  · obtain ⟨n, hn⟩ : ∃ n : Nat, v = -(n : Int) := ⟨v.natAbs, by omega⟩
    have hd : decide (v < 0) = true := by simpa using hv
    have hw : IntKind.u64.wrap (-(IntKind.u64.wrap v)) = n := by rw [hn]; exact u64_neg (by omega)
    have hna : v.natAbs = n := by omega
    have hB := fun W => big_word W n (by omega)
    have HB := Lib.hid hB; clear hB
    have Hna := Lib.hid hna; clear hna hn
    go_enter Tryz.func154, Tryz.ntmps154
    go_wp2_with fail
    refine (HB.out _).mono ?_
    rintro e w1 ⟨a, c, rfl, g1, g2, g3, g4⟩
    rw [← Hna.out] at g1 g3 ⊢
    go_wp2_with fail
    refine (big_made _ p y v true a _ c (hp.below g4) g3 rfl g1 ⟨fun _ => by omega, (fun h => by (cases h))⟩).mono ?_
    rintro e w2 ⟨rfl, k1, k2⟩
    go_wp2
    go_ret
    exact ⟨rfl, k1, (Only.of_below g4).trans k2 (by simp)⟩
  · obtain ⟨n, hn⟩ : ∃ n : Nat, v = (n : Int) := ⟨v.natAbs, by omega⟩
    have hd : decide (v < 0) = false := by simpa using hv
    have hw : IntKind.u64.wrap v = n := by rw [hn]; exact u64_nat (by omega)
    have hna : v.natAbs = n := by omega
    have hB := fun W => big_word W n (by omega)
    have HB := Lib.hid hB; clear hB
    have Hna := Lib.hid hna; clear hna hn
    go_enter Tryz.func154, Tryz.ntmps154
    go_wp2_with fail
    refine (HB.out _).mono ?_
    rintro e w1 ⟨a, c, rfl, g1, g2, g3, g4⟩
    rw [← Hna.out] at g1 g3 ⊢
    go_wp2_with fail
    refine (big_made _ p y v false a _ c (hp.below g4) g3 rfl g1 ⟨(fun h => by (cases h)), fun _ => by omega⟩).mono ?_
    rintro e w2 ⟨rfl, k1, k2⟩
    go_wp2
    go_ret
    exact ⟨rfl, k1, (Only.of_below g4).trans k2 (by simp)⟩

set_option maxRecDepth 100000 in
theorem big_newint (w : World) (v : Int) (h1 : -9223372036854775808 ≤ v) (h2 : v ≤ 9223372036854775807) :
    Calls Tryz.prog 73 #[.int .i64 v] w fun e w' => ∃ p, e = .returned (.pointer (some ⟨p, 0, none⟩)) ∧ w.heap.size ≤ p ∧ IntAt w' p v ∧ Below w.heap.size w w' := by
  have HS := Lib.hid (int_setint (w.alloc (.cells #[.bool false, .slice none 0 0] 117)) w.heap.size 0 v (IntAt.new w) h1 h2)
  go_enter Tryz.func73, Tryz.ntmps73
  go_wp2_with fail
  refine HS.out.mono ?_
  rintro e w1 ⟨rfl, k1, k2⟩
  go_wp2
  go_ret
  exact ⟨_, rfl, Nat.le_refl _, k1, ((Below.refl _ _).alloc (Nat.le_refl _) _).trans (k2.belowB (by rw [World.size_alloc]; omega) (by simp))⟩
theorem at_newint {w1 X : World} {l : List (Nat × Int)} (h : At w1 X l) (v : Int) (h1 : -9223372036854775808 ≤ v) (h2 : v ≤ 9223372036854775807) :
    Calls Tryz.prog 73 #[.int .i64 v] X fun e X' => ∃ p, e = .returned (.pointer (some ⟨p, 0, none⟩)) ∧ At w1 X' ((p, v) :: l) := by
  refine (big_newint X v h1 h2).mono ?_
  rintro e X' ⟨p, rfl, k1, k2, k3⟩
  exact ⟨p, rfl, h.cons k3 k1 k2⟩
theorem at_quorem {w1 X : World} {l : List (Nat × Int)} {p q r s : Nat} {v u x y : Int} (h : At w1 X l) (hp : (p, v) ∈ l) (hq : (q, x) ∈ l) (hr : (r, y) ∈ l) (hs : (s, u) ∈ l) (hne : (l.map Prod.fst).Nodup → p ≠ s) (hy : y ≠ 0) (lx : (rep x.natAbs).length ≤ 68719476736) (ly : (rep y.natAbs).length ≤ 68719476736) :
    Calls Tryz.prog 166 #[.pointer (some ⟨p, 0, none⟩), .pointer (some ⟨q, 0, none⟩), .pointer (some ⟨r, 0, none⟩), .pointer (some ⟨s, 0, none⟩)] X fun e X' =>
      e = .returned (.tuple #[.pointer (some ⟨p, 0, none⟩), .pointer (some ⟨s, 0, none⟩)]) ∧ At w1 X' (upd (upd l p (x.tdiv y)) s (x.tmod y)) := by
  refine (int_quorem X p q r s v u x y (h.ints _ hp).1 (h.ints _ hq).1 (h.ints _ hr).1 (h.ints _ hs).1 (hne h.nd) hy lx ly).mono ?_
  rintro e X' ⟨rfl, k1, k2, k3⟩
  refine ⟨rfl, ?_, ?_, by rw [upd_fst, upd_fst]; exact h.nd⟩
  · exact h.below.trans (k3.belowB h.below.size (by intro q hq; simp only [List.mem_cons, List.not_mem_nil, or_false] at hq; rcases hq with rfl | rfl; exact (h.ints _ hp).2; exact (h.ints _ hs).2))
  · have hib : IntBlocks X [p, s] := by
      intro b hb
      simp only [List.mem_cons, List.not_mem_nil, or_false] at hb
      rcases hb with rfl | rfl
      · exact ⟨_, (h.ints _ hp).1⟩
      · exact ⟨_, (h.ints _ hs).1⟩
    intro b hb
    obtain ⟨c, hc, e⟩ := List.mem_map.mp hb
    split at e
    · subst e; exact ⟨k2, (h.ints _ hs).2⟩
    · rename_i hcs
      subst e
      obtain ⟨d, hd, e⟩ := List.mem_map.mp hc
      split at e
      · subst e; exact ⟨k1, (h.ints _ hp).2⟩
      · rename_i hcp
        subst e
        exact ⟨(h.ints _ hd).1.only k3 (by simp; exact ⟨hcp, hcs⟩) hib, (h.ints _ hd).2⟩
theorem at_sign {w1 X : World} {l : List (Nat × Int)} {p : Nat} {z : Int} (h : At w1 X l) (hp : (p, z) ∈ l) :
    Calls Tryz.prog 61 #[.pointer (some ⟨p, 0, none⟩)] X fun e X' => e = .returned (.int .i64 (sgnI z)) ∧ X = X' := int_sign X p z (h.ints _ hp).1

end Go.Proofs.YtbffpkmfhkphdaaGreatDoor

namespace Go.Proofs.YtbffpkmfhkphdaaGreatDoor
open Limb

/-- The quotient and the remainder: by the floor, or truncated. -/
def dquo (floor : Bool) (x y : Int) : Int := if floor = true then x.fdiv y else x.tdiv y
def drem (floor : Bool) (x y : Int) : Int := if floor = true then x.fmod y else x.tmod y

theorem sgnI_eq {a b : Int} : (sgnI a = sgnI b) ↔ ((a < 0 ↔ b < 0) ∧ (a = 0 ↔ b = 0)) := by
  unfold sgnI
  constructor
  · intro h; split at h <;> split at h <;> (try split at h) <;> (try split at h) <;> omega
  · rintro ⟨h1, h2⟩
    by_cases ha : a < 0
    · rw [if_pos ha, if_pos (h1.mp ha)]
    · rw [if_neg ha, if_neg (fun h => ha (h1.mpr h))]
      by_cases h0 : a = 0
      · rw [if_pos h0, if_pos (h2.mp h0)]
      · rw [if_neg h0, if_neg (fun h => h0 (h2.mpr h))]
theorem sgnI_zero {a : Int} : sgnI a = 0 ↔ a = 0 := by
  unfold sgnI; split <;> (try split) <;> omega

theorem tmod_bound (x : Int) {y : Int} (hy : y ≠ 0) : (x.tmod y).natAbs < y.natAbs := by
  rw [tmod_abs]; exact Nat.mod_lt _ (by omega)

theorem floor_fix {x y : Int} (hy : y ≠ 0) : (sgnI (x.tmod y) ≠ 0 → sgnI (x.tmod y) ≠ sgnI y → x.fdiv y = x.tdiv y - 1 ∧ x.fmod y = x.tmod y + y) ∧
    ((sgnI (x.tmod y) = 0 ∨ sgnI (x.tmod y) = sgnI y) → x.fdiv y = x.tdiv y ∧ x.fmod y = x.tmod y) := by
  have e := Int.mul_tdiv_add_tmod x y
  have hb := tmod_bound x hy
  generalize x.tdiv y = q at e hb ⊢
  generalize x.tmod y = r at e hb ⊢
  have e2 : y * (q - 1) = y * q - y := by rw [Int.mul_sub, Int.mul_one]
  rw [Ne, Ne, sgnI_zero, sgnI_eq]
  constructor
  · intro h1 h2
    by_cases hp : 0 < y
    · exact (Int.fdiv_fmod_unique hp).mpr ⟨by omega, by omega, by omega⟩
    · exact (Int.fdiv_fmod_unique' (by omega)).mpr ⟨by omega, by omega, by omega⟩
  · intro h
    by_cases hp : 0 < y
    · exact (Int.fdiv_fmod_unique hp).mpr ⟨by omega, by omega, by omega⟩
    · exact (Int.fdiv_fmod_unique' (by omega)).mpr ⟨by omega, by omega, by omega⟩

theorem dquo_abs (f : Bool) (x : Int) {y : Int} (hy : y ≠ 0) : (dquo f x y).natAbs ≤ x.natAbs := by
  have e := Int.mul_tdiv_add_tmod x y
  have ha : (x.tdiv y).natAbs = x.natAbs / y.natAbs := tdiv_abs x y
  have hle : x.natAbs / y.natAbs ≤ x.natAbs := Nat.div_le_self _ _
  unfold dquo
  cases f
  · rw [if_neg (by decide)]; omega
  · rw [if_pos rfl]
    by_cases h : sgnI (x.tmod y) = 0 ∨ sgnI (x.tmod y) = sgnI y
    · rw [((floor_fix hy).2 h).1]; omega
    · simp only [not_or] at h
      rw [((floor_fix hy).1 h.1 h.2).1]
      have h0 : x.tmod y ≠ 0 := fun e => h.1 (sgnI_zero.mpr e)
      have hb := tmod_bound x hy
      have hy2 : 2 ≤ y.natAbs := by omega
      have hx : x ≠ 0 := by rintro rfl; simp at h0
      have hd : 2 * (x.natAbs / y.natAbs) ≤ x.natAbs := by
        have := Nat.div_mul_le_self x.natAbs y.natAbs
        have h3 : x.natAbs / y.natAbs * 2 ≤ x.natAbs / y.natAbs * y.natAbs := Nat.mul_le_mul_left _ hy2
        omega
      omega
theorem drem_abs (f : Bool) (x : Int) {y : Int} (hy : y ≠ 0) : (drem f x y).natAbs < y.natAbs := by
  have hb := tmod_bound x hy
  unfold drem
  cases f
  · rw [if_neg (by decide)]; exact hb
  · rw [if_pos rfl]
    by_cases hp : 0 < y
    · have h1 := Int.fmod_nonneg_of_pos x hp
      have h2 := Int.fmod_lt_of_pos x hp
      omega
    · have e := (Int.fdiv_fmod_unique' (a := x) (b := y) (r := x.fmod y) (q := x.fdiv y) (by omega)).mp ⟨rfl, rfl⟩
      omega
end Go.Proofs.YtbffpkmfhkphdaaGreatDoor

namespace Go.Proofs.YtbffpkmfhkphdaaGreatDoor
open Go Go.RowKit Limb

set_option maxHeartbeats 800000 in
set_option maxRecDepth 1000000 in
theorem big_text0 (w : World) (a : Option Addr) (c : Nat) (b : Int) :
    Calls Tryz.prog 174 #[.slice a 0 c, .int .i64 b] w fun e w' => (∃ s, e = .returned (.string s) ∧ s.data.toList = ([48] : List Nat).map UInt8.ofNat) ∧ Below w.heap.size w w' := by
  go_enter Tryz.func174, Tryz.ntmps174
  go_wp2_with fail
  go_ret
  exact ⟨⟨_, rfl, rfl⟩, Below.refl _ _⟩

theorem big_text_any (w : World) (a : Option Addr) (n c N b : Nat) (ha : Lay .u32 w a (rep N)) (hn : n = (rep N).length) (h2 : 2 ≤ b) (h36 : b ≤ 36) (lx : n ≤ 68719476736) :
    Calls Tryz.prog 174 #[.slice a n c, .int .i64 b] w fun e w' => (∃ s, e = .returned (.string s) ∧ s.data.toList = (txt b N).map UInt8.ofNat) ∧ Below w.heap.size w w' := by
  by_cases hN : N = 0
  · subst hN
    have : n = 0 := hn
    subst this
    exact big_text0 w a c b
  · exact big_text w a n c N b ha hn hN h2 h36 lx

/-- The text of an integer. -/
def ztxt (b : Nat) (z : Int) : List Nat := if z < 0 then 45 :: txt b z.natAbs else txt b z.natAbs

theorem txt_length {b : Nat} (hb : 2 ≤ b) (N k : Nat) (h : N < 2 ^ k) : (txt b N).length ≤ k + 1 := by
  unfold txt
  split
  · simp
  · have := digs_length hb N k h
    simp; omega
theorem txt_len_rep {b : Nat} (hb : 2 ≤ b) (N n : Nat) (hn : n = (rep N).length) : (txt b N).length ≤ 32 * n + 1 :=
  txt_length hb N (32 * n) (by have := rep_len_hi N; rw [← hn, W_two] at this; exact this)

set_option maxHeartbeats 800000 in
set_option maxRecDepth 100000 in
theorem int_text (w : World) (p : Nat) (z : Int) (b : Nat) (hp : IntAt w p z) (h2 : 2 ≤ b) (h36 : b ≤ 36) (lx : (rep z.natAbs).length ≤ 68719476736) :
    Calls Tryz.prog 93 #[.pointer (some ⟨p, 0, none⟩), .int .i64 b] w fun e w' => (∃ s, e = .returned (.string s) ∧ s.data.toList = (ztxt b z).map UInt8.ofNat) ∧ Below w.heap.size w w' := by
  obtain ⟨b1, a1, n1, cap1, Hb1, Hn1, hc1, hl1, hcells1⟩ := hp.use
  obtain ⟨c0, c1⟩ := hcells1 w (Only.refl _ _)
  clear hcells1
  rw [← Hn1.out] at lx
  have hl := txt_len_rep h2 z.natAbs n1 Hn1.out
  have htx := big_text_any w a1 n1 cap1 z.natAbs b hl1 Hn1.out h2 h36 lx
  have HT := Lib.hid htx; clear htx
  by_cases hx : z < 0
  · obtain rfl : b1 = true := by rw [Hb1.out]; simpa using hx
    have e0 : ztxt b z = 45 :: txt b z.natAbs := by unfold ztxt; rw [if_pos hx]
    rw [e0]
    clear e0 hx
    go_enter Tryz.func93, Tryz.ntmps93
    go_wp2_with fail
    refine HT.out.mono ?_
    rintro e w1 ⟨⟨s, rfl, hs⟩, hb⟩
    have hsz : s.size ≤ 9223372036854775806 := by
      rw [ByteArray.size, ← Array.length_toList, hs, List.length_map]; omega
    have Hs := Lib.hid hs; clear hs
    go_wp2_with fail
    go_ret
    refine ⟨⟨_, rfl, ?_⟩, hb⟩
    rw [List.map_cons, ← Hs.out]
    simp
  · obtain rfl : b1 = false := by rw [Hb1.out]; simpa using hx
    have e0 : ztxt b z = txt b z.natAbs := by unfold ztxt; rw [if_neg hx]
    rw [e0]
    clear e0 hx
    go_enter Tryz.func93, Tryz.ntmps93
    go_wp2_with fail
    refine HT.out.mono ?_
    rintro e w1 ⟨⟨s, rfl, hs⟩, hb⟩
    go_wp2_with fail
    go_ret
    exact ⟨⟨s, rfl, hs⟩, hb⟩

/-- The text of an integer, its letters great. -/
def utxt (b : Nat) (z : Int) : List UInt8 := Lib.toUpperA ((ztxt b z).map UInt8.ofNat)

theorem txt_lt {b : Nat} (h2 : 2 ≤ b) (h36 : b ≤ 36) (N : Nat) : ∀ x ∈ txt b N, x < 128 := by
  unfold txt
  split
  · intro x hx; simp at hx; omega
  · intro x hx
    obtain ⟨d, hd, rfl⟩ := List.mem_map.1 hx
    have := digs_lt h2 N d (List.mem_reverse.1 hd)
    unfold sgn; split <;> omega
theorem ztxt_lt {b : Nat} (h2 : 2 ≤ b) (h36 : b ≤ 36) (z : Int) : ∀ x ∈ ztxt b z, x < 128 := by
  unfold ztxt
  split
  · intro x hx
    rcases List.mem_cons.1 hx with rfl | hx
    · omega
    · exact txt_lt h2 h36 _ x hx
  · exact txt_lt h2 h36 _
theorem ascii_of {l : List Nat} {s : ByteArray} (hs : s.data.toList = l.map UInt8.ofNat) (h : ∀ x ∈ l, x < 128) : ∀ (j : Nat) (c : UInt8), s.data.toList[j]? = some c → c.toNat < 128 := by
  intro j c hc
  rw [hs, List.getElem?_map] at hc
  cases hl : l[j]? with
  | none => rw [hl] at hc; cases hc
  | some x =>
    rw [hl] at hc
    have : UInt8.ofNat x = c := by simpa using hc
    subst this
    have := h x (List.mem_of_getElem? hl)
    rw [UInt8.toNat_ofNat']; omega


theorem signed_abs' (neg : Bool) (n : Nat) : (signed neg n).natAbs = n := by unfold signed; split <;> omega

set_option maxHeartbeats 800000 in
set_option maxRecDepth 100000 in
theorem large_print_ok (w : World) (neg : Bool) (a : Option Addr) (l : List Nat) (n cap b : Nat) (hlay : Lay .u32 w a l) (hlim : Lim l) (hn : n = l.length) (hmay : mayB neg l = true) (h2 : 2 ≤ b) (h36 : b ≤ 36) :
    Calls Tryz.prog 29 #[.agg #[.bool neg, .slice a n cap], .int .i64 b] w fun e w' => (∃ s, e = .returned (.tuple #[.string s, .int .i64 0]) ∧ s.data.toList = utxt b (signed neg (val l))) ∧ Below w.heap.size w w' := by
  have hn10 : n ≤ 1024 := by rw [hn]; exact (mayB_int hlim hmay).2.2
  have hMay := fun W (h : Below w.heap.size w W) => large_May W neg a l n cap (hlay.below h) hlim hn (by omega)
  rw [hmay] at hMay
  have hWide := fun W (h : Below w.heap.size w W) => large_wide W neg a l n cap (hlay.below h) hlim hn (by omega)
  have lz : (rep (signed neg (val l)).natAbs).length ≤ 1024 := by
    rw [signed_abs']; exact Nat.le_trans (rep_val_le hlim) (by omega)
  have hTx := fun W p (h : IntAt W p (signed neg (val l))) => int_text W p (signed neg (val l)) b h h2 h36 (Nat.le_trans lz (by decide))
  have HM := Lib.hid hMay; clear hMay
  have HW := Lib.hid hWide; clear hWide
  have HT := Lib.hid hTx; clear hTx
  have Hlen : Hid (∀ s : ByteArray, s.data.toList = (ztxt b (signed neg (val l))).map UInt8.ofNat → s.size ≤ 140737488355328) := Lib.hid (fun s hs => by
    rw [ByteArray.size, ← Array.length_toList, hs, List.length_map]
    have h := txt_len_rep h2 (signed neg (val l)).natAbs _ rfl
    unfold ztxt; split
    · rw [List.length_cons]; omega
    · omega)
  clear hn hmay hlim lz
  obtain ⟨z, hz⟩ : ∃ z, z = signed neg (val l) := ⟨_, rfl⟩
  rw [← hz] at HW HT Hlen ⊢
  clear hz
  have d1 : decide (b < 2) = false := by rw [decide_eq_false_iff_not]; omega
  have d2 : decide (36 < b) = false := by rw [decide_eq_false_iff_not]; omega
  go_enter Tryz.func29, Tryz.ntmps29
  go_wp2_with fail
  have hB0 : Below w.heap.size w (w.alloc (.cells #[.bool neg, .slice a n cap] 24)) := (Below.refl _ _).alloc (Nat.le_refl _) _
  have hbox : Row (w.alloc (.cells #[.bool neg, .slice a n cap] 24)) w.heap.size 24 [.bool neg, .slice a n cap] := by unfold Row; exact heap_alloc_new _ _
  refine (HM.out _ hB0).mono ?_
  rintro e w1 ⟨rfl, hb1⟩
  have hB1 : Below w.heap.size w w1 := hB0.trans (hb1.mono hB0.size)
  have hbox1 := hbox.below hb1 hbox.lt
  have c0 := hbox1.cell_at 0
  have c1 := hbox1.cell_at 1
  simp only [List.getElem?_cons_zero, List.getElem?_cons_succ] at c0 c1
  go_wp2_with fail
  refine (HW.out _ hB1).mono ?_
  rintro e w2 ⟨p, rfl, hpp, hp, hb2'⟩
  go_wp2_with fail
  refine (HT.out _ p hp).mono ?_
  rintro e w3 ⟨⟨s, rfl, hs⟩, hb3⟩
  have Hs := Lib.hid hs; clear hs
  go_wp2_with fail
  refine (Tryz.strings_ToUpper_ascii s _ (Hlen.out s Hs.out) (ascii_of Hs.out (ztxt_lt h2 h36 z))).mono ?_
  rintro e w4 ⟨rfl, hb4⟩
  go_wp2_with fail
  go_ret2
  exact ⟨⟨_, rfl, by rw [Hs.out]; rfl⟩, ((hB1.trans (hb2'.mono hB1.size)).trans (hb3.mono (by have := hB1.size; have := hb2'.size; omega))).trans (hb4.mono (by have := hB1.size; have := hb2'.size; have := hb3.size; omega))⟩

end Go.Proofs.YtbffpkmfhkphdaaGreatDoor
