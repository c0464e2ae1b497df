/- The walk of large.Parse. -/
import Derived.Test.YtbffpkmfhkphdaaGreatDoorGX32
import Derived.Test.YtbffpkmfhkphdaaGreatDoorShelf
import Derived.Test.YtbffpkmfhkphdaaGreatDoorGX27
set_option linter.unusedVariables false
set_option linter.unusedSimpArgs false
namespace Go.Proofs.YtbffpkmfhkphdaaGreatDoor
open Go Go.RowKit Limb

/-- A text without its sign; whether it has one; whether it is none; its number. -/
def parseT (l : List Nat) : List Nat := if l.head? = some 45 then l.tail else l
def parseN (l : List Nat) : Bool := decide (l.head? = some 45)
def badT (b : Nat) (l : List Nat) : Bool := l.isEmpty || l.any fun c => decide (b ≤ dgt c)
def parseZ (b : Nat) (l : List Nat) : Int := if parseN l = true then -((numF b 0 (parseT l) : Nat) : Int) else (numF b 0 (parseT l) : Nat)

theorem nat_of_u8 (x : UInt8) : x.toNat = 45 ↔ x = 45 := by
  constructor
  · intro h; exact UInt8.toNat_inj.1 h
  · intro h; rw [h]; rfl
theorem trim_bytes (s : ByteArray) : bytesN ⟨(Lib.trimPrefix s.data.toList [45]).toArray⟩ = parseT (bytesN s) := by
  unfold bytesN parseT Lib.trimPrefix
  generalize s.data.toList = l
  cases l with
  | nil => rfl
  | cons x l =>
    simp only [List.map_cons, List.head?_cons, Option.some.injEq, List.tail_cons]
    by_cases h : x = 45
    · subst h; simp [Lib.hasPrefix, List.isPrefixOf]
    · have h2 : ¬ x.toNat = 45 := fun h3 => h ((nat_of_u8 x).1 h3)
      rw [if_neg h2]
      have h3 : Lib.hasPrefix (x :: l) [45] = false := by simp [Lib.hasPrefix, List.isPrefixOf]; exact fun h4 => h h4.symm
      rw [h3]; simp
theorem sign_index : ∀ c : Fin 256, Lib.indexByte (⟨#[48, 49, 50, 51, 52, 53, 54, 55, 56, 57, 65, 66, 67, 68, 69, 70, 71, 72, 73, 74, 75, 76, 77, 78, 79, 80, 81, 82, 83, 84, 85, 86, 87, 88, 89, 90]⟩ : ByteArray).data.toList (UInt8.ofNat c.val) = if dgt c.val < 99 then (dgt c.val : Int) else -1 := by decide +kernel
theorem sign_index' {c : Nat} (h : c < 256) : Lib.indexByte (⟨#[48, 49, 50, 51, 52, 53, 54, 55, 56, 57, 65, 66, 67, 68, 69, 70, 71, 72, 73, 74, 75, 76, 77, 78, 79, 80, 81, 82, 83, 84, 85, 86, 87, 88, 89, 90]⟩ : ByteArray).data.toList ((c : Int).toNat.toUInt8) = if dgt c < 99 then (dgt c : Int) else -1 := sign_index ⟨c, h⟩
theorem dgt_99 (c : Nat) : dgt c < 99 ∨ dgt c = 99 := by unfold dgt; split; · omega
                                                         · split <;> omega
theorem badT_iff {b : Nat} {l : List Nat} : badT b l = false ↔ l ≠ [] ∧ ∀ c ∈ l, dgt c < b := by
  unfold badT
  rw [Bool.or_eq_false_iff, List.isEmpty_eq_false_iff, List.any_eq_false]
  constructor
  · rintro ⟨h1, h2⟩; exact ⟨h1, fun c hc => by have := h2 c hc; simp at this; omega⟩
  · rintro ⟨h1, h2⟩; exact ⟨h1, fun c hc => by have := h2 c hc; simp; omega⟩
theorem str_empty {t : ByteArray} : t.toList.isEmpty = decide (t.size = 0) := by
  rw [Lib.toList_data, Bool.eq_iff_iff, List.isEmpty_iff, decide_eq_true_eq]
  constructor
  · intro h
    have h1 : t.data.toList.length = 0 := by rw [h]; rfl
    rw [Array.length_toList] at h1; exact h1
  · intro h
    exact List.eq_nil_of_length_eq_zero (by rw [Array.length_toList]; exact h)
theorem at_neg1 {w1 X : World} {l : List (Nat × Int)} {p : Nat} {z : Int} (h : At w1 X ((p, z) :: l)) (hs : (rep z.natAbs).length ≤ 68719476736) :
    Calls Tryz.prog 74 #[.pointer (some ⟨p, 0, none⟩), .pointer (some ⟨p, 0, none⟩)] X fun e X' => e = .returned (.pointer (some ⟨p, 0, none⟩)) ∧ At w1 X' ((p, -z) :: l) := by
  refine (int_neg X p p z z (h.ints _ (.head _)).1 (h.ints _ (.head _)).1 hs).mono ?_
  rintro e X' ⟨rfl, h1, h2⟩
  exact ⟨rfl, by have := h.set (.head _) h2 h1; rwa [upd_head h.nd] at this⟩
theorem index_call (X : World) (cc : Nat) (h : cc < 256) : Calls Tryz.prog 95 #[.string ⟨#[48, 49, 50, 51, 52, 53, 54, 55, 56, 57, 65, 66, 67, 68, 69, 70, 71, 72, 73, 74, 75, 76, 77, 78, 79, 80, 81, 82, 83, 84, 85, 86, 87, 88, 89, 90]⟩, .int .u8 cc] X fun e X' => e = .returned (.int .i64 (if dgt cc < 99 then (dgt cc : Int) else -1)) ∧ X = X' :=
  (Tryz.strings_IndexByte _ (cc : Int) X).mono fun e X' he => ⟨by rw [he.1, sign_index' h], he.2.symm⟩
theorem trim_noughts (t : ByteArray) (b : Nat) : numF b 0 (bytesN ⟨(Lib.trimLeftB t.data.toList 48).toArray⟩) = numF b 0 (bytesN t) ∧ (bytesN ⟨(Lib.trimLeftB t.data.toList 48).toArray⟩ : List Nat).length ≤ (bytesN t).length ∧
    (∀ c ∈ bytesN ⟨(Lib.trimLeftB t.data.toList 48).toArray⟩, c ∈ bytesN t) ∧ (∀ c l, bytesN ⟨(Lib.trimLeftB t.data.toList 48).toArray⟩ = c :: l → c ≠ 48) := by
  unfold bytesN Lib.trimLeftB
  simp only []
  generalize t.data.toList = l
  have e := List.takeWhile_append_dropWhile (p := fun x : UInt8 => x == 48) (l := l)
  refine ⟨?_, ?_, ?_, ?_⟩
  · conv => rhs; rw [← e, List.map_append]
    rw [numF_noughts]
    intro c hc
    obtain ⟨x, hx, rfl⟩ := List.mem_map.1 hc
    have h2 := List.all_eq_true.1 (List.all_takeWhile (p := fun x : UInt8 => x == 48) (l := l)) x hx
    simp at h2; rw [h2]; rfl
  · rw [List.length_map, List.length_map]
    have := congrArg List.length e
    rw [List.length_append] at this; omega
  · intro c hc
    obtain ⟨x, hx, rfl⟩ := List.mem_map.1 hc
    exact List.mem_map.2 ⟨x, (List.dropWhile_sublist _).subset hx, rfl⟩
  · intro c r h h48
    cases hd : l.dropWhile (fun x => x == 48) with
    | nil => rw [hd] at h; simp at h
    | cons x r' =>
      rw [hd, List.map_cons] at h
      simp only [List.cons.injEq] at h
      have h3 := List.head?_dropWhile_not (fun x : UInt8 => x == 48) l
      rw [hd] at h3
      simp at h3
      apply h3
      have : x.toNat = 48 := h.1.trans h48
      exact UInt8.toNat_inj.1 this

set_option maxHeartbeats 3200000 in
set_option maxRecDepth 100000 in
theorem parse_bad (w : World) (s : ByteArray) (b : Nat) (hb : 2 ≤ b) (h36 : b ≤ 36) (hs : s.size ≤ 140737488355328) (hbad : badT b (parseT (bytesN s)) = true) :
    Calls Tryz.prog 30 #[.string s, .int .i64 b] w fun e w' => e = .returned (.tuple #[.agg #[.bool false, .slice none 0 0], .int .i64 91]) ∧ Below w.heap.size w w' := by
  obtain ⟨W, hWe, r4, hbW, hzW⟩ := rows1 w 24 (.bool false) (.slice none 0 0)
  have HWe := Lib.hid hWe; clear hWe
  obtain ⟨t, hT⟩ : ∃ t : ByteArray, t = ⟨(Lib.trimPrefix s.data.toList [45]).toArray⟩ := ⟨_, rfl⟩
  have ht : bytesN t = parseT (bytesN s) := by rw [hT]; exact trim_bytes s
  have htz : t.size ≤ s.size := by
    rw [← bytesN_length, ht, ← bytesN_length s]; unfold parseT; split
    · rw [List.length_tail]; omega
    · exact Nat.le_refl _
  have htp := fun X => (Tryz.strings_TrimPrefix s ⟨#[45]⟩ X).mono fun e X' he => show e = .returned (.string t) ∧ X = X' from ⟨by rw [hT]; exact he.1, he.2.symm⟩
  have HTp := Lib.hid htp; clear htp hT hzW
  by_cases h0 : t.size = 0
  · have hE : t.toList.isEmpty = true := by rw [str_empty]; exact decide_eq_true h0
    clear h0 ht hbad htz
    go_enter Tryz.func30, Tryz.ntmps30
    go_wp2_with fail
    rw [← HWe.out]
    refine (HTp.out W).mono ?_
    rintro e w1 ⟨rfl, rfl⟩
    (try dsimp only)
    have k0 := r4.cell_at 0
    have k1 := r4.cell_at 1
    have k2 := r4.free 0
    have k3 := r4.free 1
    simp only [List.getElem?_cons_zero, List.getElem?_cons_succ] at k0 k1
    have e0 : (W.setCell ⟨w.heap.size, 0, none⟩ (.bool false)).cell? ⟨w.heap.size, 0, none⟩ = some (.bool false) := (r4.store_any 0 _).cell_at 0
    have e1 : ((W.setCell ⟨w.heap.size, 0, none⟩ (.bool false)).setCell ⟨w.heap.size, 1, none⟩ (.slice none 0 0)).cell? ⟨w.heap.size, 1, none⟩ = some (.slice none 0 0) := ((r4.store_any 0 _).store_any 1 _).cell_at 1
    have HF := Lib.hid (below_store (below_store hbW (g := w.heap.size) (i := 0) (Nat.le_refl _) (.bool false)) (g := w.heap.size) (i := 1) (Nat.le_refl _) (.slice none 0 0))
    clear hbW r4
    go_wp2
    (try simp only [Exit.inBlock, Exit.then])
    refine bodyPost_ret (v := .tuple #[.agg #[.bool false, .slice none 0 0], .int .i64 91]) (by simp [results, Tryz.results30, go_sem, e0, e1]) rfl ?_
    exact ⟨rfl, HF.out⟩
  · have hE : t.toList.isEmpty = false := by rw [str_empty]; exact decide_eq_false h0
    have Hb := Lib.hid (show badT b (bytesN t) = true by rw [ht]; exact hbad)
    have hst : t.size ≤ 140737488355328 := by omega
    clear ht hbad htz h0
    go_enter Tryz.func30, Tryz.ntmps30
    go_wp2_with fail
    rw [← HWe.out]
    refine (HTp.out W).mono ?_
    rintro e w1 ⟨rfl, rfl⟩
    (try dsimp only)
    go_wp2_with fail
    go_loop [25] (fun i => ∃ k : Nat, k ≤ t.size ∧ i = .int .i64 k ∧ Hid (∀ c ∈ (bytesN t).take k, dgt c < b)) (fun i => t.size - (intOf i).toNat)
    case atStart => exact ⟨0, Nat.zero_le _, rfl, Lib.hid (fun c hc => by simp at hc)⟩
    case round =>
      obtain ⟨k, hk, rfl, Hg⟩ := hrel
      by_cases hlt : k < t.size
      · have Hts := Lib.hid (bytesN_take t k hlt)
        have hmem := bytesN_mem t k hlt
        obtain ⟨cc, hcc⟩ : ∃ cc, t[k].toNat = cc := ⟨_, rfl⟩
        have hc256 : cc < 256 := by rw [← hcc]; exact UInt8.toNat_lt _
        have Hcc := Lib.hid (show (bytesN t).take (k + 1) = (bytesN t).take k ++ [cc] by rw [← hcc]; exact Hts.out)
        rw [hcc] at hmem
        have HI := Lib.hid (index_call W cc hc256)
        clear Hts
        by_cases hd : dgt cc < b
        · have Hn := Lib.hid (show ∀ c ∈ (bytesN t).take (k + 1), dgt c < b by
            rw [Hcc.out]; intro c hc
            rcases List.mem_append.1 hc with h | h
            · exact Hg.out c h
            · rw [List.mem_singleton] at h; rw [h]; exact hd)
          have hI := HI.out
          rw [if_pos (by omega)] at hI
          obtain ⟨d, hde⟩ : ∃ d, d = dgt cc := ⟨_, rfl⟩
          rw [← hde] at hI hd
          have HI2 := Lib.hid hI
          have d1 : decide ((d : Int) < 0) = false := decide_eq_false (by omega)
          have d2 : decide ((b : Int) ≤ (d : Int)) = false := decide_eq_false (by omega)
          have d2' : decide (b ≤ d) = false := decide_eq_false (by omega)
          clear hI HI hde hmem hc256
          go_wp2_with fail
          refine HI2.out.mono ?_
          rintro e w1 ⟨rfl, rfl⟩
          (try dsimp only)
          go_wp2_with fail
          go_round
          case rel => exact ⟨k + 1, hlt, by go_num, Lib.hid Hn.out⟩
          case measure => simp [intOf]; omega
        · rcases dgt_99 cc with h99 | h99
          · have hI := HI.out
            rw [if_pos h99] at hI
            obtain ⟨d, hde⟩ : ∃ d, d = dgt cc := ⟨_, rfl⟩
            rw [← hde] at hI hd h99
            have HI2 := Lib.hid hI
            have d1 : decide ((d : Int) < 0) = false := decide_eq_false (by omega)
            have d2 : decide ((b : Int) ≤ (d : Int)) = true := decide_eq_true (by omega)
            have d2' : decide (b ≤ d) = true := decide_eq_true (by omega)
            clear hI HI hde hmem hc256
            go_wp2_with fail
            refine HI2.out.mono ?_
            rintro e w1 ⟨rfl, rfl⟩
            (try dsimp only)
            have k0 := r4.cell_at 0
            have k1 := r4.cell_at 1
            have k2 := r4.free 0
            have k3 := r4.free 1
            simp only [List.getElem?_cons_zero, List.getElem?_cons_succ] at k0 k1
            have e0 : (W.setCell ⟨w.heap.size, 0, none⟩ (.bool false)).cell? ⟨w.heap.size, 0, none⟩ = some (.bool false) := (r4.store_any 0 _).cell_at 0
            have e1 : ((W.setCell ⟨w.heap.size, 0, none⟩ (.bool false)).setCell ⟨w.heap.size, 1, none⟩ (.slice none 0 0)).cell? ⟨w.heap.size, 1, none⟩ = some (.slice none 0 0) := ((r4.store_any 0 _).store_any 1 _).cell_at 1
            have HF := Lib.hid (below_store (below_store hbW (g := w.heap.size) (i := 0) (Nat.le_refl _) (.bool false)) (g := w.heap.size) (i := 1) (Nat.le_refl _) (.slice none 0 0))
            clear hbW r4
            go_wp2
            (try simp only [Exit.inBlock, Exit.then])
            refine bodyPost_ret (v := .tuple #[.agg #[.bool false, .slice none 0 0], .int .i64 91]) (by simp [results, Tryz.results30, go_sem, e0, e1]) rfl ?_
            exact ⟨rfl, HF.out⟩
          · have hI := HI.out
            rw [if_neg (by omega)] at hI
            have HI2 := Lib.hid hI
            clear hI HI hmem hc256 h99 hd
            go_wp2_with fail
            refine HI2.out.mono ?_
            rintro e w1 ⟨rfl, rfl⟩
            (try dsimp only)
            have k0 := r4.cell_at 0
            have k1 := r4.cell_at 1
            have k2 := r4.free 0
            have k3 := r4.free 1
            simp only [List.getElem?_cons_zero, List.getElem?_cons_succ] at k0 k1
            have e0 : (W.setCell ⟨w.heap.size, 0, none⟩ (.bool false)).cell? ⟨w.heap.size, 0, none⟩ = some (.bool false) := (r4.store_any 0 _).cell_at 0
            have e1 : ((W.setCell ⟨w.heap.size, 0, none⟩ (.bool false)).setCell ⟨w.heap.size, 1, none⟩ (.slice none 0 0)).cell? ⟨w.heap.size, 1, none⟩ = some (.slice none 0 0) := ((r4.store_any 0 _).store_any 1 _).cell_at 1
            have HF := Lib.hid (below_store (below_store hbW (g := w.heap.size) (i := 0) (Nat.le_refl _) (.bool false)) (g := w.heap.size) (i := 1) (Nat.le_refl _) (.slice none 0 0))
            clear hbW r4
            go_wp2
            (try simp only [Exit.inBlock, Exit.then])
            refine bodyPost_ret (v := .tuple #[.agg #[.bool false, .slice none 0 0], .int .i64 91]) (by simp [results, Tryz.results30, go_sem, e0, e1]) rfl ?_
            exact ⟨rfl, HF.out⟩
      · exfalso
        obtain rfl : k = t.size := by omega
        have h1 := Hb.out
        have hne : bytesN t ≠ [] := fun h => by
          have h2 : t.size = 0 := by rw [← bytesN_length, h]; rfl
          rw [str_empty, decide_eq_false_iff_not] at hE
          exact hE h2
        have h2 := Hg.out
        rw [List.take_of_length_le (by rw [bytesN_length]; exact Nat.le_refl _)] at h2
        rw [badT_iff.2 ⟨hne, h2⟩] at h1
        cases h1

theorem long_digits {b : Nat} (hb : 2 ≤ b) {l : List Nat} (h0 : ∀ c r, l = c :: r → c ≠ 48) (hd : ∀ c ∈ l, dgt c < b) (h36 : b ≤ 36) (hl : 32768 < l.length) : 1024 < (rep (numF b 0 l)).length := by
  obtain ⟨c, hc⟩ : ∃ c, c = 1024 := ⟨_, rfl⟩
  have hl2 : 32 * c < l.length := by omega
  rw [← hc]
  clear hc hl
  cases l with
  | nil => simp at hl2
  | cons x r =>
    have h1 : 1 ≤ dgt x := by
      have h3 := h0 x r rfl
      rcases dgt_cases (hd x (by simp)) h36 with ⟨d, k1, k2, k3⟩ | ⟨d, k1, k2, k3⟩ <;> omega
    have h2 := numF_long (l := r) (show 1 ≤ b by omega) h1
    rw [rep_length_lt, W_two]
    have h3 : 2 ^ r.length ≤ b ^ r.length := Nat.pow_le_pow_left hb _
    have h4 : 2 ^ (32 * c) ≤ 2 ^ r.length := Nat.pow_le_pow_right (by decide) (by simp at hl2; omega)
    omega
theorem ans_zero {w w' : World} (hb : Below w.heap.size w w') : Answer true w w' (.returned (.tuple #[.agg #[.bool false, .slice none 0 0], .int .i64 0])) 0 := ⟨hb, .inr ⟨by decide, _, rfl, none, 0, 0, rfl, rfl, Nat.le_refl _, Lay.nil _ _ _⟩⟩
theorem ans_long {w w' : World} {z : Int} (hl : 1024 < (rep z.natAbs).length) (hb : Below w.heap.size w w') : Answer true w w' (.returned (.tuple #[.agg #[.bool false, .slice none 0 0], .int .i64 2])) z := ⟨hb, .inl ⟨hl, rfl⟩⟩
theorem parseZ_abs (b : Nat) (l : List Nat) : (parseZ b l).natAbs = numF b 0 (parseT l) := by unfold parseZ; split <;> omega

set_option maxHeartbeats 3200000 in
set_option maxRecDepth 100000 in
theorem parse_ok (w : World) (s : ByteArray) (b : Nat) (hb : 2 ≤ b) (h36 : b ≤ 36) (hs : s.size ≤ 140737488355328) (hbad : badT b (parseT (bytesN s)) = false) :
    Calls Tryz.prog 30 #[.string s, .int .i64 b] w fun e w' => Answer true w w' e (parseZ b (bytesN s)) := by
  obtain ⟨W, hWe, r4, hbW, hzW⟩ := rows1 w 24 (.bool false) (.slice none 0 0)
  have HWe := Lib.hid hWe; clear hWe
  obtain ⟨t, hT⟩ : ∃ t : ByteArray, t = ⟨(Lib.trimPrefix s.data.toList [45]).toArray⟩ := ⟨_, rfl⟩
  have ht : bytesN t = parseT (bytesN s) := by rw [hT]; exact trim_bytes s
  have htz : t.size ≤ s.size := by
    rw [← bytesN_length, ht, ← bytesN_length s]; unfold parseT; split
    · rw [List.length_tail]; omega
    · exact Nat.le_refl _
  have htp := fun X => (Tryz.strings_TrimPrefix s ⟨#[45]⟩ X).mono fun e X' he => show e = .returned (.string t) ∧ X = X' from ⟨by rw [hT]; exact he.1, he.2.symm⟩
  have HTp := Lib.hid htp; clear htp hT hzW
  rw [← ht] at hbad
  obtain ⟨hne, hgood⟩ := badT_iff.1 hbad
  have h0 : t.size ≠ 0 := fun h => hne (List.eq_nil_of_length_eq_zero (by rw [bytesN_length]; exact h))
  have hE : t.toList.isEmpty = false := by rw [str_empty]; exact decide_eq_false h0
  have HG := Lib.hid hgood
  have hst : t.size ≤ 140737488355328 := by omega
  have hs0 : 0 < s.size := by omega
  obtain ⟨u, hU⟩ : ∃ u : ByteArray, u = ⟨(Lib.trimLeftB t.data.toList 48).toArray⟩ := ⟨_, rfl⟩
  have hu := trim_noughts t b
  rw [← hU] at hu
  obtain ⟨u1, u2, u3, u4⟩ := hu
  have htl := fun X => (Tryz.strings_TrimLeft_one t 48 (by decide) X).mono fun e X' he => show e = .returned (.string u) ∧ X = X' from ⟨by rw [hU]; exact he.1, he.2.symm⟩
  have HTl := Lib.hid htl; clear htl hU
  have hgu : ∀ c ∈ bytesN u, dgt c < b := fun c hc => hgood c (u3 c hc)
  obtain ⟨z, hz⟩ : ∃ z, z = parseZ b (bytesN s) := ⟨_, rfl⟩
  have hza : z.natAbs = numF b 0 (bytesN u) := by rw [hz, parseZ_abs, ← ht, u1]
  rw [← hz]
  obtain ⟨c0, hc0⟩ : ∃ c, s[0].toNat = c := ⟨_, rfl⟩
  have hneg : ((c0 : Int) == 45) = parseN (bytesN s) := by
    have h1 : (bytesN s).head? = some c0 := by
      rw [List.head?_eq_getElem?, List.getElem?_eq_getElem (by rw [bytesN_length]; exact hs0)]
      congr 1
      rw [← hc0]; simp [bytesN]; rfl
    unfold parseN
    rw [h1, Bool.eq_iff_iff, beq_iff_eq, decide_eq_true_eq, Option.some.injEq]; omega
  obtain ⟨ng, hng⟩ : ∃ ng, ng = parseN (bytesN s) := ⟨_, rfl⟩
  rw [← hng] at hneg
  have hzs : z = if ng = true then -((numF b 0 (bytesN u) : Nat) : Int) else (numF b 0 (bytesN u) : Nat) := by rw [hz, hng]; unfold parseZ; rw [← ht, u1]
  have HZs := Lib.hid hzs
  have HZa := Lib.hid hza
  have HU4 := Lib.hid u4
  have HGu := Lib.hid hgu
  have hul : u.size ≤ t.size := by rw [← bytesN_length, ← bytesN_length t]; exact u2
  clear ht hbad htz h0 hne hgood u1 u2 u3 u4 hgu hz hza hzs hng
  go_enter Tryz.func30, Tryz.ntmps30
  go_wp2_with fail
  rw [← HWe.out]
  refine (HTp.out W).mono ?_
  rintro e w1 ⟨rfl, rfl⟩
  (try dsimp only)
  go_wp2_with fail
  go_loop [25] (fun i => ∃ k : Nat, k ≤ t.size ∧ i = .int .i64 k ∧ Hid (∀ c ∈ (bytesN t).take k, dgt c < b)) (fun i => t.size - (intOf i).toNat)
  case atStart => exact ⟨0, Nat.zero_le _, rfl, Lib.hid (fun c hc => by simp at hc)⟩
  case round =>
    obtain ⟨k, hk, rfl, Hg⟩ := hrel
    by_cases hlt : k < t.size
    · have Hts := Lib.hid (bytesN_take t k hlt)
      have hmem := bytesN_mem t k hlt
      obtain ⟨cc, hcc⟩ : ∃ cc, t[k].toNat = cc := ⟨_, rfl⟩
      have hc256 : cc < 256 := by rw [← hcc]; exact UInt8.toNat_lt _
      have Hcc := Lib.hid (show (bytesN t).take (k + 1) = (bytesN t).take k ++ [cc] by rw [← hcc]; exact Hts.out)
      rw [hcc] at hmem
      have HI := Lib.hid (index_call W cc hc256)
      clear Hts
      by_cases hd : dgt cc < b
      · have Hn := Lib.hid (show ∀ c ∈ (bytesN t).take (k + 1), dgt c < b by
          rw [Hcc.out]; intro c hc
          rcases List.mem_append.1 hc with h | h
          · exact Hg.out c h
          · rw [List.mem_singleton] at h; rw [h]; exact hd)
        have hI := HI.out
        rw [if_pos (by omega)] at hI
        obtain ⟨d, hde⟩ : ∃ d, d = dgt cc := ⟨_, rfl⟩
        rw [← hde] at hI hd
        have HI2 := Lib.hid hI
        have d1 : decide ((d : Int) < 0) = false := decide_eq_false (by omega)
        have d2 : decide ((b : Int) ≤ (d : Int)) = false := decide_eq_false (by omega)
        have d2' : decide (b ≤ d) = false := decide_eq_false (by omega)
        clear hI HI hde hmem hc256
        go_wp2_with fail
        refine HI2.out.mono ?_
        rintro e w1 ⟨rfl, rfl⟩
        (try dsimp only)
        go_wp2_with fail
        go_round
        case rel => exact ⟨k + 1, hlt, by go_num, Lib.hid Hn.out⟩
        case measure => simp [intOf]; omega
      · exact absurd (HG.out cc hmem) hd
    · obtain rfl : k = t.size := by omega
      clear Hg
      go_wp2_with fail
      refine (HTl.out W).mono ?_
      rintro e w1 ⟨rfl, rfl⟩
      (try dsimp only)
      by_cases hu0 : u.size = 0
      · have hEu : u.toList.isEmpty = true := by rw [str_empty]; exact decide_eq_true hu0
        have HZ0 := Lib.hid (show z = 0 by
          have h1 := HZa.out
          rw [List.eq_nil_of_length_eq_zero (show (bytesN u).length = 0 by rw [bytesN_length]; exact hu0), numF_nil] at h1
          omega)
        clear hu0
        have k0 := r4.cell_at 0
        have k1 := r4.cell_at 1
        have k2 := r4.free 0
        have k3 := r4.free 1
        simp only [List.getElem?_cons_zero, List.getElem?_cons_succ] at k0 k1
        have e0 : (W.setCell ⟨w.heap.size, 0, none⟩ (.bool false)).cell? ⟨w.heap.size, 0, none⟩ = some (.bool false) := (r4.store_any 0 _).cell_at 0
        have e1 : ((W.setCell ⟨w.heap.size, 0, none⟩ (.bool false)).setCell ⟨w.heap.size, 1, none⟩ (.slice none 0 0)).cell? ⟨w.heap.size, 1, none⟩ = some (.slice none 0 0) := ((r4.store_any 0 _).store_any 1 _).cell_at 1
        have HF := Lib.hid (below_store (below_store hbW (g := w.heap.size) (i := 0) (Nat.le_refl _) (.bool false)) (g := w.heap.size) (i := 1) (Nat.le_refl _) (.slice none 0 0))
        clear hbW r4
        go_wp2
        (try simp only [Exit.inBlock, Exit.then])
        refine bodyPost_ret (v := .tuple #[.agg #[.bool false, .slice none 0 0], .int .i64 0]) (by simp [results, Tryz.results30, go_sem, e0, e1]) rfl ?_
        rw [HZ0.out]
        exact ans_zero HF.out
      · have hEu : u.toList.isEmpty = false := by rw [str_empty]; exact decide_eq_false hu0
        by_cases hlong : 32768 < u.size
        · have d1 : decide (32768 < u.size) = true := decide_eq_true hlong
          have d1' : decide ((32768 : Int) < (u.size : Int)) = true := decide_eq_true (by omega)
          have HL := Lib.hid (show 1024 < (rep z.natAbs).length by rw [HZa.out]; exact long_digits hb HU4.out HGu.out h36 (by rw [bytesN_length]; exact hlong))
          clear hlong hu0
          have k0 := r4.cell_at 0
          have k1 := r4.cell_at 1
          have k2 := r4.free 0
          have k3 := r4.free 1
          simp only [List.getElem?_cons_zero, List.getElem?_cons_succ] at k0 k1
          have e0 : (W.setCell ⟨w.heap.size, 0, none⟩ (.bool false)).cell? ⟨w.heap.size, 0, none⟩ = some (.bool false) := (r4.store_any 0 _).cell_at 0
          have e1 : ((W.setCell ⟨w.heap.size, 0, none⟩ (.bool false)).setCell ⟨w.heap.size, 1, none⟩ (.slice none 0 0)).cell? ⟨w.heap.size, 1, none⟩ = some (.slice none 0 0) := ((r4.store_any 0 _).store_any 1 _).cell_at 1
          have HF := Lib.hid (below_store (below_store hbW (g := w.heap.size) (i := 0) (Nat.le_refl _) (.bool false)) (g := w.heap.size) (i := 1) (Nat.le_refl _) (.slice none 0 0))
          clear hbW r4
          go_wp2
          (try simp only [Exit.inBlock, Exit.then])
          refine bodyPost_ret (v := .tuple #[.agg #[.bool false, .slice none 0 0], .int .i64 2]) (by simp [results, Tryz.results30, go_sem, e0, e1]) rfl ?_
          exact ans_long HL.out HF.out
        · have d1 : decide (32768 < u.size) = false := decide_eq_false hlong
          have d1' : decide ((32768 : Int) < (u.size : Int)) = false := decide_eq_false (by omega)
          have hup : 0 < u.size := by omega
          have hu3 : u.size ≤ 32768 := by omega
          have HSS := Lib.hid (fun X (h : At W X [(W.heap.size, (0 : Int))]) => at_setstring h hb h36 hu3 hup HGu.out)
          have HLn := Lib.hid (show (rep (((numF b 0 (bytesN u) : Nat) : Int)).natAbs).length ≤ 68719476736 by
            rw [Int.natAbs_natCast]
            exact Nat.le_trans (numF_len (k := 32768) (by omega) h36 HGu.out (by rw [bytesN_length]; exact hu3)) (by decide))
          obtain ⟨N, hN⟩ : ∃ N, N = numF b 0 (bytesN u) := ⟨_, rfl⟩
          rw [← hN] at HSS HLn HZs HZa
          have hA := (At.refl W).new
          clear hlong hu0 hN
          go_wp2_with fail
          refine (HSS.out _ hA).mono ?_
          rintro e w2 ⟨rfl, h2⟩
          (try dsimp only)
          cases ng with
          | true =>
            go_wp2_with fail
            refine (at_neg1 h2 HLn.out).mono ?_
            rintro e w3 ⟨rfl, h3⟩
            (try dsimp only)
            go_wp2_with fail
            refine (at_narrow_shape h3 (.head _) (by have h := HLn.out; first | exact h | (rw [Int.natAbs_neg]; exact h))).mono ?_
            rintro e w5 ⟨⟨b', a', n', c', k', rfl, hnext⟩, h5⟩
            have HN := Lib.hid hnext; clear hnext
            have hB5 := hbW.trans (h5.below.mono hbW.size)
            have hR := r4.below h5.below r4.lt
            have k0 := hR.cell_at 0
            have k1 := hR.cell_at 1
            have k2 := hR.free 0
            have k3 := hR.free 1
            simp only [List.getElem?_cons_zero, List.getElem?_cons_succ] at k0 k1
            have e0 : (w5.setCell ⟨w.heap.size, 0, none⟩ (.bool b')).cell? ⟨w.heap.size, 0, none⟩ = some (.bool b') := (hR.store_any 0 _).cell_at 0
            have e1 : ((w5.setCell ⟨w.heap.size, 0, none⟩ (.bool b')).setCell ⟨w.heap.size, 1, none⟩ (.slice a' n' c')).cell? ⟨w.heap.size, 1, none⟩ = some (.slice a' n' c') := ((hR.store_any 0 _).store_any 1 _).cell_at 1
            have HF := Lib.hid (below_store (below_store hB5 (g := w.heap.size) (i := 0) (Nat.le_refl _) (.bool b')) (g := w.heap.size) (i := 1) (Nat.le_refl _) (.slice a' n' c'))
            have HP := Lib.hid (fun l (hl : Lay .u32 w5 a' l) => hl.pair hR (.bool b') (.slice a' n' c'))
            clear hR hB5 h5 r4 hbW
            go_wp2
            (try simp only [Exit.inBlock, Exit.then])
            refine bodyPost_ret (v := .tuple #[.agg #[.bool b', .slice a' n' c'], .int .i64 k']) (by simp [results, Tryz.results30, go_sem, e0, e1]) rfl ?_
            rw [show z = -((N : Nat) : Int) from HZs.out]
            exact HN.out _ _ HF.out (fun l hl => HP.out l hl)
          | false =>
            go_wp2_with fail
            refine (at_narrow_shape h2 (.head _) (by have h := HLn.out; first | exact h | (rw [Int.natAbs_neg]; exact h))).mono ?_
            rintro e w5 ⟨⟨b', a', n', c', k', rfl, hnext⟩, h5⟩
            have HN := Lib.hid hnext; clear hnext
            have hB5 := hbW.trans (h5.below.mono hbW.size)
            have hR := r4.below h5.below r4.lt
            have k0 := hR.cell_at 0
            have k1 := hR.cell_at 1
            have k2 := hR.free 0
            have k3 := hR.free 1
            simp only [List.getElem?_cons_zero, List.getElem?_cons_succ] at k0 k1
            have e0 : (w5.setCell ⟨w.heap.size, 0, none⟩ (.bool b')).cell? ⟨w.heap.size, 0, none⟩ = some (.bool b') := (hR.store_any 0 _).cell_at 0
            have e1 : ((w5.setCell ⟨w.heap.size, 0, none⟩ (.bool b')).setCell ⟨w.heap.size, 1, none⟩ (.slice a' n' c')).cell? ⟨w.heap.size, 1, none⟩ = some (.slice a' n' c') := ((hR.store_any 0 _).store_any 1 _).cell_at 1
            have HF := Lib.hid (below_store (below_store hB5 (g := w.heap.size) (i := 0) (Nat.le_refl _) (.bool b')) (g := w.heap.size) (i := 1) (Nat.le_refl _) (.slice a' n' c'))
            have HP := Lib.hid (fun l (hl : Lay .u32 w5 a' l) => hl.pair hR (.bool b') (.slice a' n' c'))
            clear hR hB5 h5 r4 hbW
            go_wp2
            (try simp only [Exit.inBlock, Exit.then])
            refine bodyPost_ret (v := .tuple #[.agg #[.bool b', .slice a' n' c'], .int .i64 k']) (by simp [results, Tryz.results30, go_sem, e0, e1]) rfl ?_
            rw [show z = ((N : Nat) : Int) from HZs.out]
            exact HN.out _ _ HF.out (fun l hl => HP.out l hl)


end Go.Proofs.YtbffpkmfhkphdaaGreatDoor
