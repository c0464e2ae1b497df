/- The walk of SetString of package big's integers, of digits. -/
import Derived.Test.YtbffpkmfhkphdaaGreatDoorGX19
import Derived.Test.YtbffpkmfhkphdaaGreatDoorAtC
import Derived.Test.YtbffpkmfhkphdaaGreatDoorModPowC
set_option linter.unusedVariables false
set_option linter.unusedSimpArgs false
namespace Go.Proofs.YtbffpkmfhkphdaaGreatDoor
open Go Go.RowKit Limb

set_option maxHeartbeats 1600000 in
set_option maxRecDepth 100000 in
theorem int_setstring (w : World) (p : Nat) (v : Int) (s : ByteArray) (b : Nat) (hp : IntAt w p v) (hb : 2 ≤ b) (h36 : b ≤ 36) (hs : s.size ≤ 32768) (h0 : 0 < s.size) (hd : ∀ c ∈ bytesN s, dgt c < b) :
    Calls Tryz.prog 97 #[.pointer (some ⟨p, 0, none⟩), .string s, .int .i64 b] w fun e w' => e = .returned (.tuple #[.pointer (some ⟨p, 0, none⟩), .bool true]) ∧ IntAt w' p (numF b 0 (bytesN s) : Nat) ∧ Only [p] w w' := by
  have e0 : (!s.toList.isEmpty) = true := by
    rw [Lib.toList_data, Bool.not_eq_true', List.isEmpty_eq_false_iff]
    intro h
    have h1 : s.data.toList.length = 0 := by rw [h]; rfl
    rw [Array.length_toList] at h1
    have h2 : s.size = 0 := h1
    omega
  have hm := hd _ (bytesN_mem s 0 h0)
  obtain ⟨c, hc⟩ : ∃ c, s[0].toNat = c := ⟨_, rfl⟩
  rw [hc] at hm
  have e1 : ((c : Int) == 45) = false := by
    rw [beq_eq_false_iff_ne]
    rcases dgt_cases hm h36 with ⟨d, hcd, _, _⟩ | ⟨d, hcd, _, _⟩ <;> omega
  have HR := Lib.hid (big_read w s b hb h36 hs h0 hd)
  obtain ⟨N, hN⟩ : ∃ N, N = numF b 0 (bytesN s) := ⟨_, rfl⟩
  rw [← hN] at HR ⊢
  clear hN hm hd
  go_enter Tryz.func97, Tryz.ntmps97
  go_wp2_with fail
  refine HR.out.mono ?_
  rintro e w1 ⟨a, n, cap, rfl, hh, hb1⟩
  have Hm := Lib.hid (big_made w1 p v (N : Nat) false a n cap (hp.below hb1) (by rw [Int.natAbs_natCast]; exact hh.out.2.2) (by rw [Int.natAbs_natCast]; exact hh.out.1) hh.out.2.1 ⟨fun h => (by cases h), fun _ => Int.natCast_nonneg _⟩)
  have ho1 := Only.of_below (ps := [p]) hb1
  clear hh
  go_wp2_with fail
  refine Hm.out.mono ?_
  rintro e w2 ⟨rfl, h5, h6⟩
  have ho2 := ho1.trans h6 (by simp)
  go_wp2_with fail
  go_ret2
  exact ⟨rfl, h5, ho2⟩

theorem at_setstring {w1 X : World} {l : List (Nat × Int)} {p : Nat} {v : Int} {s : ByteArray} {b : Nat} (h : At w1 X ((p, v) :: l)) (hb : 2 ≤ b) (h36 : b ≤ 36) (hs : s.size ≤ 32768) (h0 : 0 < s.size) (hd : ∀ c ∈ bytesN s, dgt c < b) :
    Calls Tryz.prog 97 #[.pointer (some ⟨p, 0, none⟩), .string s, .int .i64 b] X fun e X' => e = .returned (.tuple #[.pointer (some ⟨p, 0, none⟩), .bool true]) ∧ At w1 X' ((p, (numF b 0 (bytesN s) : Nat)) :: l) := by
  refine (int_setstring X p v s b (h.ints _ (.head _)).1 hb h36 hs h0 hd).mono ?_
  rintro e X' ⟨rfl, h1, h2⟩
  exact ⟨rfl, by have := h.set (.head _) h2 h1; rwa [upd_head h.nd] at this⟩

end Go.Proofs.YtbffpkmfhkphdaaGreatDoor
