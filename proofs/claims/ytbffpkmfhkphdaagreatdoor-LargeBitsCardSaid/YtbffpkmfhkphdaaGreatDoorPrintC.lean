/- The walks of (*Int).Text and of large.Print. -/
import Derived.Test.YtbffpkmfhkphdaaGreatDoorTextC
import Derived.Test.YtbffpkmfhkphdaaGreatDoorAtC
namespace Go.Proofs.YtbffpkmfhkphdaaGreatDoor
open Go Go.RowKit Limb

set_option maxHeartbeats 800000 in
set_option maxRecDepth 1000000 in
theorem big_text0 (w : World) (a : Option Addr) (c : Nat) (b : Int) :
    Calls Tryz.prog 174 #[.slice a 0 c, .int .i64 b] w fun e w' => (∃ s, e = .returned (.string s) ∧ s.data.toList = ([48] : List Nat).map UInt8.ofNat) ∧ Below w.heap.size w w' := by
  go_enter Tryz.func174, Tryz.ntmps174
  go_wp2_with fail
  go_ret
  exact ⟨⟨_, rfl, rfl⟩, Below.refl _ _⟩

theorem big_text_any (w : World) (a : Option Addr) (n c N b : Nat) (ha : Lay .u32 w a (rep N)) (hn : n = (rep N).length) (h2 : 2 ≤ b) (h36 : b ≤ 36) (lx : n ≤ 68719476736) :
    Calls Tryz.prog 174 #[.slice a n c, .int .i64 b] w fun e w' => (∃ s, e = .returned (.string s) ∧ s.data.toList = (txt b N).map UInt8.ofNat) ∧ Below w.heap.size w w' := by
  by_cases hN : N = 0
  · subst hN
    have : n = 0 := hn
    subst this
    exact big_text0 w a c b
  · exact big_text w a n c N b ha hn hN h2 h36 lx

/-- The text of an integer. -/
def ztxt (b : Nat) (z : Int) : List Nat := if z < 0 then 45 :: txt b z.natAbs else txt b z.natAbs

theorem txt_length {b : Nat} (hb : 2 ≤ b) (N k : Nat) (h : N < 2 ^ k) : (txt b N).length ≤ k + 1 := by
  unfold txt
  split
  · simp
  · have := digs_length hb N k h
    simp; omega
theorem txt_len_rep {b : Nat} (hb : 2 ≤ b) (N n : Nat) (hn : n = (rep N).length) : (txt b N).length ≤ 32 * n + 1 :=
  txt_length hb N (32 * n) (by have := rep_len_hi N; rw [← hn, W_two] at this; exact this)

set_option maxHeartbeats 800000 in
set_option maxRecDepth 100000 in
theorem int_text (w : World) (p : Nat) (z : Int) (b : Nat) (hp : IntAt w p z) (h2 : 2 ≤ b) (h36 : b ≤ 36) (lx : (rep z.natAbs).length ≤ 68719476736) :
    Calls Tryz.prog 93 #[.pointer (some ⟨p, 0, none⟩), .int .i64 b] w fun e w' => (∃ s, e = .returned (.string s) ∧ s.data.toList = (ztxt b z).map UInt8.ofNat) ∧ Below w.heap.size w w' := by
  obtain ⟨b1, a1, n1, cap1, Hb1, Hn1, hc1, hl1, hcells1⟩ := hp.use
  obtain ⟨c0, c1⟩ := hcells1 w (Only.refl _ _)
  clear hcells1
  rw [← Hn1.out] at lx
  have hl := txt_len_rep h2 z.natAbs n1 Hn1.out
  have htx := big_text_any w a1 n1 cap1 z.natAbs b hl1 Hn1.out h2 h36 lx
  have HT := Lib.hid htx; clear htx
  by_cases hx : z < 0
  · obtain rfl : b1 = true := by rw [Hb1.out]; simpa using hx
    have e0 : ztxt b z = 45 :: txt b z.natAbs := by unfold ztxt; rw [if_pos hx]
    rw [e0]
    clear e0 hx
    go_enter Tryz.func93, Tryz.ntmps93
    go_wp2_with fail
    refine HT.out.mono ?_
    rintro e w1 ⟨⟨s, rfl, hs⟩, hb⟩
    have hsz : s.size ≤ 9223372036854775806 := by
      rw [ByteArray.size, ← Array.length_toList, hs, List.length_map]; omega
    have Hs := Lib.hid hs; clear hs
    go_wp2_with fail
    go_ret
    refine ⟨⟨_, rfl, ?_⟩, hb⟩
    rw [List.map_cons, ← Hs.out]
    simp
  · obtain rfl : b1 = false := by rw [Hb1.out]; simpa using hx
    have e0 : ztxt b z = txt b z.natAbs := by unfold ztxt; rw [if_neg hx]
    rw [e0]
    clear e0 hx
    go_enter Tryz.func93, Tryz.ntmps93
    go_wp2_with fail
    refine HT.out.mono ?_
    rintro e w1 ⟨⟨s, rfl, hs⟩, hb⟩
    go_wp2_with fail
    go_ret
    exact ⟨⟨s, rfl, hs⟩, hb⟩

/-- The text of an integer, its letters great. -/
def utxt (b : Nat) (z : Int) : List UInt8 := Lib.toUpperA ((ztxt b z).map UInt8.ofNat)

theorem txt_lt {b : Nat} (h2 : 2 ≤ b) (h36 : b ≤ 36) (N : Nat) : ∀ x ∈ txt b N, x < 128 := by
  unfold txt
  split
  · intro x hx; simp at hx; omega
  · intro x hx
    obtain ⟨d, hd, rfl⟩ := List.mem_map.1 hx
    have := digs_lt h2 N d (List.mem_reverse.1 hd)
    unfold sgn; split <;> omega
theorem ztxt_lt {b : Nat} (h2 : 2 ≤ b) (h36 : b ≤ 36) (z : Int) : ∀ x ∈ ztxt b z, x < 128 := by
  unfold ztxt
  split
  · intro x hx
    rcases List.mem_cons.1 hx with rfl | hx
    · omega
    · exact txt_lt h2 h36 _ x hx
  · exact txt_lt h2 h36 _
theorem ascii_of {l : List Nat} {s : ByteArray} (hs : s.data.toList = l.map UInt8.ofNat) (h : ∀ x ∈ l, x < 128) : ∀ (j : Nat) (c : UInt8), s.data.toList[j]? = some c → c.toNat < 128 := by
  intro j c hc
  rw [hs, List.getElem?_map] at hc
  cases hl : l[j]? with
  | none => rw [hl] at hc; cases hc
  | some x =>
    rw [hl] at hc
    have : UInt8.ofNat x = c := by simpa using hc
    subst this
    have := h x (List.mem_of_getElem? hl)
    rw [UInt8.toNat_ofNat']; omega


theorem signed_abs' (neg : Bool) (n : Nat) : (signed neg n).natAbs = n := by unfold signed; split <;> omega

set_option maxHeartbeats 800000 in
set_option maxRecDepth 100000 in
theorem large_print_ok (w : World) (neg : Bool) (a : Option Addr) (l : List Nat) (n cap b : Nat) (hlay : Lay .u32 w a l) (hlim : Lim l) (hn : n = l.length) (hmay : mayB neg l = true) (h2 : 2 ≤ b) (h36 : b ≤ 36) :
    Calls Tryz.prog 29 #[.agg #[.bool neg, .slice a n cap], .int .i64 b] w fun e w' => (∃ s, e = .returned (.tuple #[.string s, .int .i64 0]) ∧ s.data.toList = utxt b (signed neg (val l))) ∧ Below w.heap.size w w' := by
  have hn10 : n ≤ 1024 := by rw [hn]; exact (mayB_int hlim hmay).2.2
  have hMay := fun W (h : Below w.heap.size w W) => large_May W neg a l n cap (hlay.below h) hlim hn (by omega)
  rw [hmay] at hMay
  have hWide := fun W (h : Below w.heap.size w W) => large_wide W neg a l n cap (hlay.below h) hlim hn (by omega)
  have lz : (rep (signed neg (val l)).natAbs).length ≤ 1024 := by
    rw [signed_abs']; exact Nat.le_trans (rep_val_le hlim) (by omega)
  have hTx := fun W p (h : IntAt W p (signed neg (val l))) => int_text W p (signed neg (val l)) b h h2 h36 (Nat.le_trans lz (by decide))
  have HM := Lib.hid hMay; clear hMay
  have HW := Lib.hid hWide; clear hWide
  have HT := Lib.hid hTx; clear hTx
  have Hlen : Hid (∀ s : ByteArray, s.data.toList = (ztxt b (signed neg (val l))).map UInt8.ofNat → s.size ≤ 140737488355328) := Lib.hid (fun s hs => by
    rw [ByteArray.size, ← Array.length_toList, hs, List.length_map]
    have h := txt_len_rep h2 (signed neg (val l)).natAbs _ rfl
    unfold ztxt; split
    · rw [List.length_cons]; omega
    · omega)
  clear hn hmay hlim lz
  obtain ⟨z, hz⟩ : ∃ z, z = signed neg (val l) := ⟨_, rfl⟩
  rw [← hz] at HW HT Hlen ⊢
  clear hz
  have d1 : decide (b < 2) = false := by rw [decide_eq_false_iff_not]; omega
  have d2 : decide (36 < b) = false := by rw [decide_eq_false_iff_not]; omega
  go_enter Tryz.func29, Tryz.ntmps29
  go_wp2_with fail
  have hB0 : Below w.heap.size w (w.alloc (.cells #[.bool neg, .slice a n cap] 24)) := (Below.refl _ _).alloc (Nat.le_refl _) _
  have hbox : Row (w.alloc (.cells #[.bool neg, .slice a n cap] 24)) w.heap.size 24 [.bool neg, .slice a n cap] := by unfold Row; exact heap_alloc_new _ _
  refine (HM.out _ hB0).mono ?_
  rintro e w1 ⟨rfl, hb1⟩
  have hB1 : Below w.heap.size w w1 := hB0.trans (hb1.mono hB0.size)
  have hbox1 := hbox.below hb1 hbox.lt
  have c0 := hbox1.cell_at 0
  have c1 := hbox1.cell_at 1
  simp only [List.getElem?_cons_zero, List.getElem?_cons_succ] at c0 c1
  go_wp2_with fail
  refine (HW.out _ hB1).mono ?_
  rintro e w2 ⟨p, rfl, hpp, hp, hb2'⟩
  go_wp2_with fail
  refine (HT.out _ p hp).mono ?_
  rintro e w3 ⟨⟨s, rfl, hs⟩, hb3⟩
  have Hs := Lib.hid hs; clear hs
  go_wp2_with fail
  refine (Tryz.strings_ToUpper_ascii s _ (Hlen.out s Hs.out) (ascii_of Hs.out (ztxt_lt h2 h36 z))).mono ?_
  rintro e w4 ⟨rfl, hb4⟩
  go_wp2_with fail
  go_ret2
  exact ⟨⟨_, rfl, by rw [Hs.out]; rfl⟩, ((hB1.trans (hb2'.mono hB1.size)).trans (hb3.mono (by have := hB1.size; have := hb2'.size; omega))).trans (hb4.mono (by have := hB1.size; have := hb2'.size; have := hb3.size; omega))⟩

end Go.Proofs.YtbffpkmfhkphdaaGreatDoor
