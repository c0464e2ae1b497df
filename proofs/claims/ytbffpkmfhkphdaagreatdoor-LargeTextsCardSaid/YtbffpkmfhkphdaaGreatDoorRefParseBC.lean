/- The reference's Parse of what is no number; Parse and Print of package large without an answer. -/
import Derived.Test.YtbffpkmfhkphdaaGreatDoorRefParseC
set_option linter.unusedVariables false
set_option linter.unusedSimpArgs false
namespace Go.Proofs.YtbffpkmfhkphdaaGreatDoor
open Go Go.RowKit Limb

theorem digit_bad (X : World) (cc : Nat) (hc : cc < 256) : Calls Tryz.prog 100 #[.int .u8 cc] X fun e w' => e = .returned (.int .i64 (dgtZ cc)) ∧ X = w' := ref_digit X cc hc
theorem dgtZ_bad {cc b : Nat} (h : ¬ dgt cc < b) (hb : b ≤ 36) : dgtZ cc < 0 ∨ (b : Int) ≤ dgtZ cc := by
  unfold dgtZ; split <;> omega
theorem dgtZ_good {cc b : Nat} (h : dgt cc < b) (hb : b ≤ 36) : ¬ dgtZ cc < 0 ∧ ¬ (b : Int) ≤ dgtZ cc := by
  unfold dgtZ; rw [if_pos (by omega)]; omega

set_option maxHeartbeats 3200000 in
set_option maxRecDepth 1000000 in
theorem ref_parse_bad (w : World) (s : ByteArray) (b : Nat) (hb : 2 ≤ b) (h36 : b ≤ 36) (hs : s.size ≤ 140737488355328) (hbad : badT b (parseT (bytesN s)) = true) :
    Calls Tryz.prog 34 #[.string s, .int .i64 b] w fun e w' => e = .returned (.tuple #[.agg #[.bool false, .slice none 0 0], .int .i64 91]) ∧ Below w.heap.size w w' := by
  obtain ⟨W, hWe, r4, hbW, hzW⟩ := rows1 w 24 (.bool false) (.slice none 0 0)
  have HWe := Lib.hid hWe; clear hWe hzW
  obtain ⟨ng, t, hng, ht, htz, hneg, hpos, h45⟩ := parse_parts s
  rw [← ht] at hbad
  have Hb := Lib.hid hbad
  have hst : t.size ≤ 140737488355328 := by omega
  have Hneg := Lib.hid hneg
  have Hpos := Lib.hid hpos
  have H45 := Lib.hid h45
  clear hng ht hneg hpos h45 hbad
  go_enter Tryz.func34, Tryz.ntmps34
  by_cases hs0 : s.size = 0
  · have hts : t.size = 0 := by omega
    have d0 : decide (0 < s.size) = false := decide_eq_false (by omega)
    have d0' : decide ((0 : Int) < (s.size : Int)) = false := decide_eq_false (by omega)
    have es : ((s.size : Int) == 0) = true := by rw [beq_iff_eq]; omega
    clear Hneg Hpos H45 hts
    go_wp2_with fail
    rw [← HWe.out]
    have e0 := r4.cell_at 0
    have e1 := r4.cell_at 1
    simp only [List.getElem?_cons_zero, List.getElem?_cons_succ] at e0 e1
    clear r4
    go_wp2
    (try simp only [Exit.inBlock, Exit.then])
    refine bodyPost_ret (v := .tuple #[.agg #[.bool false, .slice none 0 0], .int .i64 91]) (by simp [results, Tryz.results34, go_sem, e0, e1]) rfl ?_
    exact ⟨rfl, hbW⟩
  · have hs1 : 0 < s.size := by omega
    have e45 := H45.out hs1
    have d0 : decide (0 < s.size) = true := decide_eq_true hs1
    clear H45 hs0
    go_upto_if 22 with fail
    rw [← HWe.out]
    go_cut [0] (fun s0 wx => s0 = .string t ∧ W = wx)
    case first =>
      cases ng with
      | true =>
        have ht := (Hneg.out rfl).1
        go_wp2_with fail
        go_meet
        exact ⟨rfl, rfl⟩
      | false =>
        have ht := Hpos.out rfl
        subst ht
        go_wp2_with fail
        go_meet
        exact ⟨rfl, rfl⟩
    case rest =>
    obtain ⟨rfl, rfl⟩ := hcut
    clear e45 Hneg Hpos d0
    by_cases h0 : t.size = 0
    · have et : ((t.size : Int) == 0) = true := by rw [beq_iff_eq]; omega
      clear h0
      have k0 := r4.cell_at 0
      have k1 := r4.cell_at 1
      have k2 := r4.free 0
      have k3 := r4.free 1
      simp only [List.getElem?_cons_zero, List.getElem?_cons_succ] at k0 k1
      have e0 : (W.setCell ⟨w.heap.size, 0, none⟩ (.bool false)).cell? ⟨w.heap.size, 0, none⟩ = some (.bool false) := (r4.store_any 0 _).cell_at 0
      have e1 : ((W.setCell ⟨w.heap.size, 0, none⟩ (.bool false)).setCell ⟨w.heap.size, 1, none⟩ (.slice none 0 0)).cell? ⟨w.heap.size, 1, none⟩ = some (.slice none 0 0) := ((r4.store_any 0 _).store_any 1 _).cell_at 1
      have HF := Lib.hid (below_store (below_store hbW (g := w.heap.size) (i := 0) (Nat.le_refl _) (.bool false)) (g := w.heap.size) (i := 1) (Nat.le_refl _) (.slice none 0 0))
      clear hbW r4
      go_wp2
      (try simp only [Exit.inBlock, Exit.then])
      refine bodyPost_ret (v := .tuple #[.agg #[.bool false, .slice none 0 0], .int .i64 91]) (by simp [results, Tryz.results34, go_sem, e0, e1]) rfl ?_
      exact ⟨rfl, HF.out⟩
    · have et : ((t.size : Int) == 0) = false := by rw [beq_eq_false_iff_ne]; omega
      have hne : bytesN t ≠ [] := fun h => h0 (by rw [← bytesN_length, h]; rfl)
      have Hne := Lib.hid hne
      clear h0 hne
      go_wp2_with fail
      go_loop [7] (fun i => ∃ k : Nat, k ≤ t.size ∧ i = .int .i64 k ∧ Hid (∀ c ∈ (bytesN t).take k, dgt c < b)) (fun i => t.size - (intOf i).toNat)
      case atStart => exact ⟨0, Nat.zero_le _, rfl, Lib.hid (fun c hc => by simp at hc)⟩
      case round =>
        obtain ⟨k, hk, rfl, Hg⟩ := hrel
        by_cases hlt : k < t.size
        · have Hts := Lib.hid (bytesN_take t k hlt)
          obtain ⟨cc, hcc⟩ : ∃ cc, t[k].toNat = cc := ⟨_, rfl⟩
          have hc256 : cc < 256 := by rw [← hcc]; exact UInt8.toNat_lt _
          have Hcc := Lib.hid (show (bytesN t).take (k + 1) = (bytesN t).take k ++ [cc] by rw [← hcc]; exact Hts.out)
          have hI := digit_bad W cc hc256
          obtain ⟨d, hde⟩ : ∃ d, d = dgtZ cc := ⟨_, rfl⟩
          rw [← hde] at hI
          have HI := Lib.hid hI
          clear hI Hts
          by_cases hd : dgt cc < b
          · have Hn := Lib.hid (show ∀ c ∈ (bytesN t).take (k + 1), dgt c < b by
              rw [Hcc.out]; intro c hc
              rcases List.mem_append.1 hc with h | h
              · exact Hg.out c h
              · rw [List.mem_singleton] at h; rw [h]; exact hd)
            have hg := dgtZ_good hd h36
            rw [← hde] at hg
            have d1 : decide (d < 0) = false := decide_eq_false hg.1
            have d2 : decide ((b : Int) ≤ d) = false := decide_eq_false hg.2
            clear hde hc256 hg hd
            go_wp2_with fail
            refine HI.out.mono ?_
            rintro e w1 ⟨rfl, rfl⟩
            (try dsimp only)
            go_wp2_with fail
            go_round
            case rel => exact ⟨k + 1, hlt, by go_num, Lib.hid Hn.out⟩
            case measure => simp [intOf]; omega
          · have hg := dgtZ_bad hd h36
            rw [← hde] at hg
            by_cases hd0 : d < 0
            · have d1 : decide (d < 0) = true := decide_eq_true hd0
              clear hde hc256 hg hd hd0
              go_wp2_with fail
              refine HI.out.mono ?_
              rintro e w1 ⟨rfl, rfl⟩
              (try dsimp only)
              have k0 := r4.cell_at 0
              have k1 := r4.cell_at 1
              have k2 := r4.free 0
              have k3 := r4.free 1
              simp only [List.getElem?_cons_zero, List.getElem?_cons_succ] at k0 k1
              have e0 : (W.setCell ⟨w.heap.size, 0, none⟩ (.bool false)).cell? ⟨w.heap.size, 0, none⟩ = some (.bool false) := (r4.store_any 0 _).cell_at 0
              have e1 : ((W.setCell ⟨w.heap.size, 0, none⟩ (.bool false)).setCell ⟨w.heap.size, 1, none⟩ (.slice none 0 0)).cell? ⟨w.heap.size, 1, none⟩ = some (.slice none 0 0) := ((r4.store_any 0 _).store_any 1 _).cell_at 1
              have HF := Lib.hid (below_store (below_store hbW (g := w.heap.size) (i := 0) (Nat.le_refl _) (.bool false)) (g := w.heap.size) (i := 1) (Nat.le_refl _) (.slice none 0 0))
              clear hbW r4
              go_wp2
              (try simp only [Exit.inBlock, Exit.then])
              refine bodyPost_ret (v := .tuple #[.agg #[.bool false, .slice none 0 0], .int .i64 91]) (by simp [results, Tryz.results34, go_sem, e0, e1]) rfl ?_
              exact ⟨rfl, HF.out⟩
            · have d1 : decide (d < 0) = false := decide_eq_false hd0
              have d2 : decide ((b : Int) ≤ d) = true := decide_eq_true (by omega)
              clear hde hc256 hg hd hd0
              go_wp2_with fail
              refine HI.out.mono ?_
              rintro e w1 ⟨rfl, rfl⟩
              (try dsimp only)
              have k0 := r4.cell_at 0
              have k1 := r4.cell_at 1
              have k2 := r4.free 0
              have k3 := r4.free 1
              simp only [List.getElem?_cons_zero, List.getElem?_cons_succ] at k0 k1
              have e0 : (W.setCell ⟨w.heap.size, 0, none⟩ (.bool false)).cell? ⟨w.heap.size, 0, none⟩ = some (.bool false) := (r4.store_any 0 _).cell_at 0
              have e1 : ((W.setCell ⟨w.heap.size, 0, none⟩ (.bool false)).setCell ⟨w.heap.size, 1, none⟩ (.slice none 0 0)).cell? ⟨w.heap.size, 1, none⟩ = some (.slice none 0 0) := ((r4.store_any 0 _).store_any 1 _).cell_at 1
              have HF := Lib.hid (below_store (below_store hbW (g := w.heap.size) (i := 0) (Nat.le_refl _) (.bool false)) (g := w.heap.size) (i := 1) (Nat.le_refl _) (.slice none 0 0))
              clear hbW r4
              go_wp2
              (try simp only [Exit.inBlock, Exit.then])
              refine bodyPost_ret (v := .tuple #[.agg #[.bool false, .slice none 0 0], .int .i64 91]) (by simp [results, Tryz.results34, go_sem, e0, e1]) rfl ?_
              exact ⟨rfl, HF.out⟩
        · exfalso
          obtain rfl : k = t.size := by omega
          have h1 := Hb.out
          have h2 := Hg.out
          rw [List.take_of_length_le (by rw [bytesN_length]; exact Nat.le_refl _)] at h2
          rw [badT_iff.2 ⟨Hne.out, h2⟩] at h1
          cases h1

set_option maxHeartbeats 1600000 in
set_option maxRecDepth 100000 in
theorem parse_base (w : World) (s : ByteArray) (b : Int) (hb : b < 2 ∨ 36 < b) :
    Calls Tryz.prog 30 #[.string s, .int .i64 b] w fun e w' => e = .returned (.tuple #[.agg #[.bool false, .slice none 0 0], .int .i64 1]) ∧ Below w.heap.size w w' := by
  obtain ⟨W, hWe, r4, hbW, hzW⟩ := rows1 w 24 (.bool false) (.slice none 0 0)
  have HWe := Lib.hid hWe; clear hWe hzW
  by_cases h2 : b < 2
  · have d1 : decide (b < 2) = true := decide_eq_true h2
    clear hb h2
    go_enter Tryz.func30, Tryz.ntmps30
    go_wp2_with fail
    rw [← HWe.out]
    have e0 := r4.cell_at 0
    have e1 := r4.cell_at 1
    simp only [List.getElem?_cons_zero, List.getElem?_cons_succ] at e0 e1
    clear r4
    go_wp2
    (try simp only [Exit.inBlock, Exit.then])
    refine bodyPost_ret (v := .tuple #[.agg #[.bool false, .slice none 0 0], .int .i64 1]) (by simp [results, Tryz.results30, go_sem, e0, e1]) rfl ?_
    exact ⟨rfl, hbW⟩
  · have d1 : decide (b < 2) = false := decide_eq_false h2
    have d2 : decide (36 < b) = true := decide_eq_true (by omega)
    clear hb h2
    go_enter Tryz.func30, Tryz.ntmps30
    go_wp2_with fail
    rw [← HWe.out]
    have e0 := r4.cell_at 0
    have e1 := r4.cell_at 1
    simp only [List.getElem?_cons_zero, List.getElem?_cons_succ] at e0 e1
    clear r4
    go_wp2
    (try simp only [Exit.inBlock, Exit.then])
    refine bodyPost_ret (v := .tuple #[.agg #[.bool false, .slice none 0 0], .int .i64 1]) (by simp [results, Tryz.results30, go_sem, e0, e1]) rfl ?_
    exact ⟨rfl, hbW⟩

set_option maxHeartbeats 1600000 in
set_option maxRecDepth 100000 in
theorem print_base (w : World) (neg : Bool) (a : Option Addr) (n cap : Nat) (b : Int) (hb : b < 2 ∨ 36 < b) :
    Calls Tryz.prog 29 #[.agg #[.bool neg, .slice a n cap], .int .i64 b] w fun e w' => e = .returned (.tuple #[.string ⟨#[]⟩, .int .i64 1]) ∧ Below w.heap.size w w' := by
  have hB0 : Below w.heap.size w (w.alloc (.cells #[.bool neg, .slice a n cap] 24)) := (Below.refl _ _).alloc (Nat.le_refl _) _
  by_cases h2 : b < 2
  · have d1 : decide (b < 2) = true := decide_eq_true h2
    clear hb h2
    go_enter Tryz.func29, Tryz.ntmps29
    go_wp2_with fail
    go_ret2
    exact ⟨rfl, hB0⟩
  · have d1 : decide (b < 2) = false := decide_eq_false h2
    have d2 : decide (36 < b) = true := decide_eq_true (by omega)
    clear hb h2
    go_enter Tryz.func29, Tryz.ntmps29
    go_wp2_with fail
    go_ret2
    exact ⟨rfl, hB0⟩

set_option maxHeartbeats 1600000 in
set_option maxRecDepth 100000 in
theorem print_no (w : World) (neg : Bool) (a : Option Addr) (l : List Nat) (n cap : Nat) (b : Int) (hc : Came w neg a n l) (hmay : mayB neg l = false) (h2 : 2 ≤ b) (h36 : b ≤ 36) :
    Calls Tryz.prog 29 #[.agg #[.bool neg, .slice a n cap], .int .i64 b] w fun e w' => e = .returned (.tuple #[.string ⟨#[]⟩, .int .i64 1]) ∧ Below w.heap.size w w' := by
  obtain ⟨hlay, hlim, hn, hm⟩ := hc
  have hB0 : Below w.heap.size w (w.alloc (.cells #[.bool neg, .slice a n cap] 24)) := (Below.refl _ _).alloc (Nat.le_refl _) _
  have hM := large_May (w.alloc (.cells #[.bool neg, .slice a n cap] 24)) neg a l n cap (hlay.below hB0) hlim hn hm
  rw [hmay] at hM
  have HM := Lib.hid hM
  have d1 : decide (b < 2) = false := decide_eq_false (by omega)
  have d2 : decide (36 < b) = false := decide_eq_false (by omega)
  clear hM hmay hlay hlim hn
  go_enter Tryz.func29, Tryz.ntmps29
  go_wp2_with fail
  refine HM.out.mono ?_
  rintro e w1 ⟨rfl, hb1⟩
  (try dsimp only)
  have hB1 := hB0.trans (hb1.mono hB0.size)
  go_wp2_with fail
  go_ret2
  exact ⟨rfl, hB1⟩

end Go.Proofs.YtbffpkmfhkphdaaGreatDoor
