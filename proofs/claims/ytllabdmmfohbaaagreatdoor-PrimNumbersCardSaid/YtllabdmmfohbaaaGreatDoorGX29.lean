/- The functions in the table of numbers: what each answers of two small integers. The walk of package kernel's found, for the two functions that it is handed. -/
import Derived.Test.YtllabdmmfohbaaaGreatDoorGX28
import Derived.Test.YtllabdmmfohbaaaGreatDoorGX11
import Derived.Test.YtllabdmmfohbaaaGreatDoorGX22
import Derived.Test.YtllabdmmfohbaaaGreatDoorGX12
set_option linter.unusedVariables false
set_option linter.unusedSimpArgs false
namespace Go.Proofs.YtllabdmmfohbaaaGreatDoor
open Go Go.RowKit Limb
def FnAns (o : Option Int) (e : Ending) : Prop := e = .returned (.tuple #[.int .i64 (o.getD 0), .bool o.isSome])
section
variable {w : World}
theorem num_all (x : Int) : Calls Tryz.prog 69 #[.int .i64 x] w fun e w' => e = .returned (.tuple #[.int .i64 x, .bool true]) ∧ w = w' := by
  go_enter Tryz.func69, Tryz.ntmps69
  go_wp2_with fail
  go_ret2
  exact ⟨rfl, rfl⟩
set_option maxRecDepth 100000 in
theorem num_1 {x y : Int} (hx : Sm x) (hy : Sm y) {a : Nat} (RA : Row w a 112 [.func (.func 69) #[] #[]]) :
    Calls Tryz.prog 71 #[.int .i64 x, .int .i64 y, .pointer (some ⟨a, 0, none⟩)] w fun e w' => FnAns (opN 1 x y) e ∧ Below w.heap.size w w' := by
  have c0 := RA.cell_at 0
  simp only [List.getElem?_cons_zero] at c0
  obtain ⟨x1, x2⟩ := id hx; obtain ⟨y1, y2⟩ := id hy
  have HA := Lib.hid (fun z => num_all (w := w) z)
  clear RA hx hy
  go_enter Tryz.func71, Tryz.ntmps71
  go_wp2_with fail
  refine (HA.out _).mono ?_
  rintro e W ⟨rfl, rfl⟩
  (try dsimp only)
  go_wp2_with fail
  go_ret2
  exact ⟨rfl, Below.refl _ _⟩
set_option maxRecDepth 100000 in
theorem num_2 {x y : Int} (hx : Sm x) (hy : Sm y) {a : Nat} (RA : Row w a 112 [.func (.func 69) #[] #[]]) :
    Calls Tryz.prog 72 #[.int .i64 x, .int .i64 y, .pointer (some ⟨a, 0, none⟩)] w fun e w' => FnAns (opN 2 x y) e ∧ Below w.heap.size w w' := by
  have c0 := RA.cell_at 0
  simp only [List.getElem?_cons_zero] at c0
  obtain ⟨x1, x2⟩ := id hx; obtain ⟨y1, y2⟩ := id hy
  have HA := Lib.hid (fun z => num_all (w := w) z)
  clear RA hx hy
  go_enter Tryz.func72, Tryz.ntmps72
  go_wp2_with fail
  refine (HA.out _).mono ?_
  rintro e W ⟨rfl, rfl⟩
  (try dsimp only)
  go_wp2_with fail
  go_ret2
  exact ⟨rfl, Below.refl _ _⟩
set_option maxRecDepth 100000 in
theorem num_3 {x y : Int} (hx : Sm x) (hy : Sm y) {a : Nat} (RA : Row w a 112 [.func (.func 69) #[] #[]]) :
    Calls Tryz.prog 73 #[.int .i64 x, .int .i64 y, .pointer (some ⟨a, 0, none⟩)] w fun e w' => FnAns (opN 3 x y) e ∧ Below w.heap.size w w' := by
  have c0 := RA.cell_at 0
  simp only [List.getElem?_cons_zero] at c0
  have hm := hx.mul hy
  have HA := Lib.hid (fun z => num_all (w := w) z)
  clear RA hx hy
  go_enter Tryz.func73, Tryz.ntmps73
  go_wp2_with fail
  refine (HA.out _).mono ?_
  rintro e W ⟨rfl, rfl⟩
  (try dsimp only)
  go_wp2_with fail
  go_ret2
  exact ⟨rfl, Below.refl _ _⟩
set_option maxRecDepth 100000 in
theorem num_14 {x y : Int} (hx : Sm x) (hy : Sm y) {a : Nat} (RA : Row w a 112 [.func (.func 69) #[] #[]]) :
    Calls Tryz.prog 86 #[.int .i64 x, .int .i64 y, .pointer (some ⟨a, 0, none⟩)] w fun e w' => FnAns (opN 14 x y) e ∧ Below w.heap.size w w' := by
  have c0 := RA.cell_at 0
  simp only [List.getElem?_cons_zero] at c0
  skip
  have HA := Lib.hid (fun z => num_all (w := w) z)
  clear RA hx hy
  go_enter Tryz.func86, Tryz.ntmps86
  go_wp2_with fail
  refine (HA.out _).mono ?_
  rintro e W ⟨rfl, rfl⟩
  (try dsimp only)
  go_wp2_with fail
  go_ret2
  exact ⟨rfl, Below.refl _ _⟩
set_option maxRecDepth 100000 in
theorem num_15 {x y : Int} (hx : Sm x) (hy : Sm y) {a : Nat} (RA : Row w a 112 [.func (.func 69) #[] #[]]) :
    Calls Tryz.prog 87 #[.int .i64 x, .int .i64 y, .pointer (some ⟨a, 0, none⟩)] w fun e w' => FnAns (opN 15 x y) e ∧ Below w.heap.size w w' := by
  have c0 := RA.cell_at 0
  simp only [List.getElem?_cons_zero] at c0
  skip
  have HA := Lib.hid (fun z => num_all (w := w) z)
  clear RA hx hy
  go_enter Tryz.func87, Tryz.ntmps87
  go_wp2_with fail
  refine (HA.out _).mono ?_
  rintro e W ⟨rfl, rfl⟩
  (try dsimp only)
  go_wp2_with fail
  go_ret2
  exact ⟨rfl, Below.refl _ _⟩
set_option maxRecDepth 100000 in
theorem num_16 {x y : Int} (hx : Sm x) (hy : Sm y) {a : Nat} (RA : Row w a 112 [.func (.func 69) #[] #[]]) :
    Calls Tryz.prog 88 #[.int .i64 x, .int .i64 y, .pointer (some ⟨a, 0, none⟩)] w fun e w' => FnAns (opN 16 x y) e ∧ Below w.heap.size w w' := by
  have c0 := RA.cell_at 0
  simp only [List.getElem?_cons_zero] at c0
  skip
  have HA := Lib.hid (fun z => num_all (w := w) z)
  clear RA hx hy
  go_enter Tryz.func88, Tryz.ntmps88
  go_wp2_with fail
  refine (HA.out _).mono ?_
  rintro e W ⟨rfl, rfl⟩
  (try dsimp only)
  go_wp2_with fail
  go_ret2
  exact ⟨rfl, Below.refl _ _⟩
theorem num_8 (x y : Int) : Calls Tryz.prog 80 #[.int .i64 x, .int .i64 y] w fun e w' => e = .returned (.bool (cmpN 8 x y)) ∧ Below w.heap.size w w' := by
  go_enter Tryz.func80, Tryz.ntmps80
  go_wp2_with fail
  go_ret
  exact ⟨rfl, Below.refl _ _⟩
theorem num_9 (x y : Int) : Calls Tryz.prog 81 #[.int .i64 x, .int .i64 y] w fun e w' => e = .returned (.bool (cmpN 9 x y)) ∧ Below w.heap.size w w' := by
  go_enter Tryz.func81, Tryz.ntmps81
  go_wp2_with fail
  go_ret
  exact ⟨rfl, Below.refl _ _⟩
theorem num_10 (x y : Int) : Calls Tryz.prog 82 #[.int .i64 x, .int .i64 y] w fun e w' => e = .returned (.bool (cmpN 10 x y)) ∧ Below w.heap.size w w' := by
  go_enter Tryz.func82, Tryz.ntmps82
  go_wp2_with fail
  go_ret
  exact ⟨rfl, Below.refl _ _⟩
theorem num_11 (x y : Int) : Calls Tryz.prog 83 #[.int .i64 x, .int .i64 y] w fun e w' => e = .returned (.bool (cmpN 11 x y)) ∧ Below w.heap.size w w' := by
  go_enter Tryz.func83, Tryz.ntmps83
  go_wp2_with fail
  go_ret
  exact ⟨rfl, Below.refl _ _⟩
theorem num_12 (x y : Int) : Calls Tryz.prog 84 #[.int .i64 x, .int .i64 y] w fun e w' => e = .returned (.bool (cmpN 12 x y)) ∧ Below w.heap.size w w' := by
  go_enter Tryz.func84, Tryz.ntmps84
  go_wp2_with fail
  go_ret
  exact ⟨rfl, Below.refl _ _⟩
theorem num_13 (x y : Int) : Calls Tryz.prog 85 #[.int .i64 x, .int .i64 y] w fun e w' => e = .returned (.bool (cmpN 13 x y)) ∧ Below w.heap.size w w' := by
  go_enter Tryz.func85, Tryz.ntmps85
  go_wp2_with fail
  go_ret
  exact ⟨rfl, Below.refl _ _⟩
set_option maxHeartbeats 1600000 in
set_option maxRecDepth 100000 in
theorem prim_floor {x y : Int} (hx : Sm x) (hy : Sm y) (h0 : y ≠ 0) : Calls Tryz.prog 75 #[.int .i64 x, .int .i64 y] w fun e w' => e = .returned (.int .i64 (floorQ x y)) ∧ w = w' := by
  have hq := tdiv_small (y := y) hx
  have hm := tmod_small (y := y) hx
  have hz : (y == 0) = false := by rw [beq_eq_false_iff_ne]; exact h0
  by_cases c1 : x.tmod y = 0
  · have hf : floorQ x y = x.tdiv y := by unfold floorQ; rw [if_neg (fun h => h.1 c1)]
    have e1 : (x.tmod y != 0) = false := by rw [c1]; rfl
    rw [hf]
    clear hf hx hy
    go_enter Tryz.func75, Tryz.ntmps75
    go_wp2_with fail
    go_ret
    exact ⟨rfl, rfl⟩
  · have e1 : (x.tmod y != 0) = true := by rw [bne_iff_ne]; exact c1
    cases hdd : (decide (x < 0) != decide (y < 0)) with
    | false =>
      have hdd2 : (decide (x < 0) == decide (y < 0)) = true := by simpa using hdd
      have hf : floorQ x y = x.tdiv y := by
        unfold floorQ
        rw [if_neg]
        rintro ⟨_, h⟩
        apply h
        have h2 : decide (x < 0) = decide (y < 0) := by simpa using hdd
        exact decide_eq_decide.1 h2
      rw [hf]
      clear hf hx hy c1
      go_enter Tryz.func75, Tryz.ntmps75
      go_wp2_with fail
      go_ret
      exact ⟨rfl, rfl⟩
    | true =>
      have hdd2 : (decide (x < 0) == decide (y < 0)) = false := by simpa using hdd
      have hf : floorQ x y = x.tdiv y - 1 := by
        unfold floorQ
        rw [if_pos]
        refine ⟨c1, fun h => ?_⟩
        have h2 : decide (x < 0) = decide (y < 0) := decide_eq_decide.2 h
        rw [h2] at hdd
        simp at hdd
      rw [hf]
      clear hf hx hy c1
      go_enter Tryz.func75, Tryz.ntmps75
      go_wp2_with fail
      go_ret
      exact ⟨rfl, rfl⟩
end
section
variable {w : World}
set_option maxHeartbeats 1600000 in
set_option maxRecDepth 100000 in
theorem num_4 {x y : Int} (hx : Sm x) (hy : Sm y) {a : Nat} (RA : Row w a 112 [.func (.func 69) #[] #[]]) :
    Calls Tryz.prog 74 #[.int .i64 x, .int .i64 y, .pointer (some ⟨a, 0, none⟩)] w fun e w' => FnAns (opN 4 x y) e ∧ Below w.heap.size w w' := by
  have SX := Lib.hid (fun X (hb : Below w.heap.size w X) => show X.cell? ⟨a, 0, none⟩ = some (.func (.func 69) #[] #[]) from (RA.below hb RA.lt).cell_at 0)
  have hX := SX.out _ (Below.refl _ _).drew
  have c0 := SX.out _ (Below.refl _ _)
  have HA := Lib.hid (fun X z => num_all (w := X) z)
  by_cases h0 : y = 0
  · subst h0
    clear RA hX hx hy
    go_enter Tryz.func74, Tryz.ntmps74
    go_wp2_with fail
    go_ret2
    exact ⟨rfl, Below.refl _ _⟩
  · have hz : (y == 0) = false := by rw [beq_eq_false_iff_ne]; exact h0
    have hn : opN 4 x y = some (floorQ x y) := if_neg h0
    rw [hn]
    have hfb := floor_small (y := y) hx
    have hqb := tdiv_small (y := y) hx
    have hmb := tmod_small (y := y) hx
    have hfm := floor_mul hx hy
    have hw1 : IntKind.i64.wrap (x.tdiv y) = x.tdiv y := by rw [IntKind.wrap_i64]; omega
    have hw3 : IntKind.i64.wrap (floorQ x y * y) = floorQ x y * y := by rw [IntKind.wrap_i64]; omega
    have hx' := hx
    unfold Sm at hx'
    have hw4 : IntKind.i64.wrap (x - floorQ x y * y) = x - floorQ x y * y := by rw [IntKind.wrap_i64]; omega
    clear hx'
    have HFl := Lib.hid (fun X => prim_floor (w := X) hx hy h0)
    have HBd := Lib.hid (show (-1073741824 ≤ x ∧ x ≤ 1073741823) ∧ (-1073741824 ≤ y ∧ y ≤ 1073741823) from ⟨hx, hy⟩)
    obtain ⟨⟨x1, x2⟩, ⟨y1, y2⟩⟩ := HBd.out
    clear RA hx hy hn HBd
    go_enter Tryz.func74, Tryz.ntmps74
    go_wp2_with fail
    refine wp_region_held (S := fun X => X.cell? ⟨a, 0, none⟩ = some (.func (.func 69) #[] #[])) (by kernel_rfl) ?_
    refine wpAnyH_take_at (i := 0) (v := .func (.func 69) #[] #[]) 9 rfl rfl (by kernel_rfl) (by kernel_rfl) (by kernel_rfl) (fun _ _ _ h => h) (.inl ⟨rfl, fun X hX => by go_simp⟩) hX ?_
    simp only [Act.put, List.setIfInBounds_toArray, List.set_cons_zero, List.set_cons_succ]
    refine wpAnyH_take_at (i := 1) (v := .int .i64 x) 10 rfl rfl (by kernel_rfl) (by kernel_rfl) (by kernel_rfl) (fun _ _ _ h => h) (.inl ⟨rfl, fun X hX => by go_simp⟩) hX ?_
    simp only [Act.put, List.setIfInBounds_toArray, List.set_cons_zero, List.set_cons_succ]
    refine wpAnyH_take_at (i := 2) (v := .int .i64 y) 11 rfl rfl (by kernel_rfl) (by kernel_rfl) (by kernel_rfl) (fun _ _ _ h => h) (.inl ⟨rfl, fun X hX => by go_simp⟩) hX ?_
    simp only [Act.put, List.setIfInBounds_toArray, List.set_cons_zero, List.set_cons_succ]
    refine wpAnyH_all (rs := [3]) (by kernel_rfl) (by decide) (fun i hi => ?_)
    rw [List.mem_singleton] at hi
    subst hi
    unfold wpOp
    go_simp
    refine .inl ((HFl.out _).mono ?_)
    rintro e X1 ⟨rfl, rfl⟩
    refine ⟨hX, ?_⟩
    (try simp only [Act.put, List.setIfInBounds_toArray, List.set_cons_zero, List.set_cons_succ])
    refine wpAnyH_all (rs := [4]) (by kernel_rfl) (by decide) (fun i hi => ?_)
    rw [List.mem_singleton] at hi
    subst hi
    unfold wpOp
    go_simp
    refine .inl ((HA.out _ _).mono ?_)
    rintro e X2 ⟨rfl, rfl⟩
    refine ⟨hX, ?_⟩
    (try simp only [Act.put, List.setIfInBounds_toArray, List.set_cons_zero, List.set_cons_succ])
    refine wpAnyH_take_at (i := 5) (v := .int .i64 (floorQ x y)) 14 rfl rfl (by kernel_rfl) (by kernel_rfl) (by kernel_rfl) (fun _ _ _ h => h) (.inl ⟨rfl, fun X hX => by go_simp⟩) hX ?_
    simp only [Act.put, List.setIfInBounds_toArray, List.set_cons_zero, List.set_cons_succ]
    refine wpAnyH_take_at (i := 6) (v := .bool true) 15 rfl rfl (by kernel_rfl) (by kernel_rfl) (by kernel_rfl) (fun _ _ _ h => h) (.inl ⟨rfl, fun X hX => by go_simp⟩) hX ?_
    simp only [Act.put, List.setIfInBounds_toArray, List.set_cons_zero, List.set_cons_succ]
    refine wpAnyH_take_at (i := 7) (v := .int .i64 (floorQ x y)) 5 rfl rfl (by kernel_rfl) (by kernel_rfl) (by kernel_rfl) (fun _ _ _ h => h) (.inl ⟨rfl, fun X hX => by go_simp⟩) hX ?_
    simp only [Act.put, List.setIfInBounds_toArray, List.set_cons_zero, List.set_cons_succ]
    refine wpAnyH_take_at (i := 8) (v := .bool true) 6 rfl rfl (by kernel_rfl) (by kernel_rfl) (by kernel_rfl) (fun _ _ _ h => h) (.inl ⟨rfl, fun X hX => by go_simp⟩) hX ?_
    simp only [Act.put, List.setIfInBounds_toArray, List.set_cons_zero, List.set_cons_succ]
    refine wpAnyH_done (by kernel_rfl) ?_ _
    go_wp2_with fail
    go_ret2
    exact ⟨rfl, (Below.refl _ _).drew⟩
set_option maxHeartbeats 1600000 in
set_option maxRecDepth 100000 in
theorem num_5 {x y : Int} (hx : Sm x) (hy : Sm y) {a : Nat} (RA : Row w a 112 [.func (.func 69) #[] #[]]) :
    Calls Tryz.prog 76 #[.int .i64 x, .int .i64 y, .pointer (some ⟨a, 0, none⟩)] w fun e w' => FnAns (opN 5 x y) e ∧ Below w.heap.size w w' := by
  have SX := Lib.hid (fun X (hb : Below w.heap.size w X) => show X.cell? ⟨a, 0, none⟩ = some (.func (.func 69) #[] #[]) from (RA.below hb RA.lt).cell_at 0)
  have hX := SX.out _ (Below.refl _ _).drew
  have c0 := SX.out _ (Below.refl _ _)
  have HA := Lib.hid (fun X z => num_all (w := X) z)
  by_cases h0 : y = 0
  · subst h0
    clear RA hX hx hy
    go_enter Tryz.func76, Tryz.ntmps76
    go_wp2_with fail
    go_ret2
    exact ⟨rfl, Below.refl _ _⟩
  · have hz : (y == 0) = false := by rw [beq_eq_false_iff_ne]; exact h0
    have hn : opN 5 x y = some (x - floorQ x y * y) := if_neg h0
    rw [hn]
    have hfb := floor_small (y := y) hx
    have hqb := tdiv_small (y := y) hx
    have hmb := tmod_small (y := y) hx
    have hfm := floor_mul hx hy
    have hw1 : IntKind.i64.wrap (x.tdiv y) = x.tdiv y := by rw [IntKind.wrap_i64]; omega
    have hw3 : IntKind.i64.wrap (floorQ x y * y) = floorQ x y * y := by rw [IntKind.wrap_i64]; omega
    have hx' := hx
    unfold Sm at hx'
    have hw4 : IntKind.i64.wrap (x - floorQ x y * y) = x - floorQ x y * y := by rw [IntKind.wrap_i64]; omega
    clear hx'
    have HFl := Lib.hid (fun X => prim_floor (w := X) hx hy h0)
    have HBd := Lib.hid (show (-1073741824 ≤ x ∧ x ≤ 1073741823) ∧ (-1073741824 ≤ y ∧ y ≤ 1073741823) from ⟨hx, hy⟩)
    obtain ⟨⟨x1, x2⟩, ⟨y1, y2⟩⟩ := HBd.out
    clear RA hx hy hn HBd
    go_enter Tryz.func76, Tryz.ntmps76
    go_wp2_with fail
    refine wp_region_held (S := fun X => X.cell? ⟨a, 0, none⟩ = some (.func (.func 69) #[] #[])) (by kernel_rfl) ?_
    refine wpAnyH_take_at (i := 0) (v := .func (.func 69) #[] #[]) 9 rfl rfl (by kernel_rfl) (by kernel_rfl) (by kernel_rfl) (fun _ _ _ h => h) (.inl ⟨rfl, fun X hX => by go_simp⟩) hX ?_
    simp only [Act.put, List.setIfInBounds_toArray, List.set_cons_zero, List.set_cons_succ]
    refine wpAnyH_take_at (i := 1) (v := .int .i64 x) 10 rfl rfl (by kernel_rfl) (by kernel_rfl) (by kernel_rfl) (fun _ _ _ h => h) (.inl ⟨rfl, fun X hX => by go_simp⟩) hX ?_
    simp only [Act.put, List.setIfInBounds_toArray, List.set_cons_zero, List.set_cons_succ]
    refine wpAnyH_take_at (i := 2) (v := .int .i64 x) 11 rfl rfl (by kernel_rfl) (by kernel_rfl) (by kernel_rfl) (fun _ _ _ h => h) (.inl ⟨rfl, fun X hX => by go_simp⟩) hX ?_
    simp only [Act.put, List.setIfInBounds_toArray, List.set_cons_zero, List.set_cons_succ]
    refine wpAnyH_take_at (i := 3) (v := .int .i64 y) 12 rfl rfl (by kernel_rfl) (by kernel_rfl) (by kernel_rfl) (fun _ _ _ h => h) (.inl ⟨rfl, fun X hX => by go_simp⟩) hX ?_
    simp only [Act.put, List.setIfInBounds_toArray, List.set_cons_zero, List.set_cons_succ]
    refine wpAnyH_take_at (i := 5) (v := .int .i64 y) 14 rfl rfl (by kernel_rfl) (by kernel_rfl) (by kernel_rfl) (fun _ _ _ h => h) (.inl ⟨rfl, fun X hX => by go_simp⟩) hX ?_
    simp only [Act.put, List.setIfInBounds_toArray, List.set_cons_zero, List.set_cons_succ]
    refine wpAnyH_all (rs := [4]) (by kernel_rfl) (by decide) (fun i hi => ?_)
    rw [List.mem_singleton] at hi
    subst hi
    unfold wpOp
    go_simp
    refine .inl ((HFl.out _).mono ?_)
    rintro e X1 ⟨rfl, rfl⟩
    refine ⟨hX, ?_⟩
    (try simp only [Act.put, List.setIfInBounds_toArray, List.set_cons_zero, List.set_cons_succ])
    refine wpAnyH_take_at (i := 6) (v := .int .i64 (floorQ x y * y)) 15 rfl rfl (by kernel_rfl) (by kernel_rfl) (by kernel_rfl) (fun _ _ _ h => h) (.inl ⟨rfl, fun X hX => by go_simp⟩) hX ?_
    simp only [Act.put, List.setIfInBounds_toArray, List.set_cons_zero, List.set_cons_succ]
    refine wpAnyH_take_at (i := 7) (v := .int .i64 (x - floorQ x y * y)) 16 rfl rfl (by kernel_rfl) (by kernel_rfl) (by kernel_rfl) (fun _ _ _ h => h) (.inl ⟨rfl, fun X hX => by go_simp⟩) hX ?_
    simp only [Act.put, List.setIfInBounds_toArray, List.set_cons_zero, List.set_cons_succ]
    refine wpAnyH_all (rs := [8]) (by kernel_rfl) (by decide) (fun i hi => ?_)
    rw [List.mem_singleton] at hi
    subst hi
    unfold wpOp
    go_simp
    refine .inl ((HA.out _ _).mono ?_)
    rintro e X2 ⟨rfl, rfl⟩
    refine ⟨hX, ?_⟩
    (try simp only [Act.put, List.setIfInBounds_toArray, List.set_cons_zero, List.set_cons_succ])
    refine wpAnyH_take_at (i := 9) (v := .int .i64 (x - floorQ x y * y)) 18 rfl rfl (by kernel_rfl) (by kernel_rfl) (by kernel_rfl) (fun _ _ _ h => h) (.inl ⟨rfl, fun X hX => by go_simp⟩) hX ?_
    simp only [Act.put, List.setIfInBounds_toArray, List.set_cons_zero, List.set_cons_succ]
    refine wpAnyH_take_at (i := 10) (v := .bool true) 19 rfl rfl (by kernel_rfl) (by kernel_rfl) (by kernel_rfl) (fun _ _ _ h => h) (.inl ⟨rfl, fun X hX => by go_simp⟩) hX ?_
    simp only [Act.put, List.setIfInBounds_toArray, List.set_cons_zero, List.set_cons_succ]
    refine wpAnyH_take_at (i := 11) (v := .int .i64 (x - floorQ x y * y)) 5 rfl rfl (by kernel_rfl) (by kernel_rfl) (by kernel_rfl) (fun _ _ _ h => h) (.inl ⟨rfl, fun X hX => by go_simp⟩) hX ?_
    simp only [Act.put, List.setIfInBounds_toArray, List.set_cons_zero, List.set_cons_succ]
    refine wpAnyH_take_at (i := 12) (v := .bool true) 6 rfl rfl (by kernel_rfl) (by kernel_rfl) (by kernel_rfl) (fun _ _ _ h => h) (.inl ⟨rfl, fun X hX => by go_simp⟩) hX ?_
    simp only [Act.put, List.setIfInBounds_toArray, List.set_cons_zero, List.set_cons_succ]
    refine wpAnyH_done (by kernel_rfl) ?_ _
    go_wp2_with fail
    go_ret2
    exact ⟨rfl, (Below.refl _ _).drew⟩
set_option maxHeartbeats 1600000 in
set_option maxRecDepth 100000 in
theorem num_6 {x y : Int} (hx : Sm x) (hy : Sm y) {a : Nat} (RA : Row w a 112 [.func (.func 69) #[] #[]]) :
    Calls Tryz.prog 77 #[.int .i64 x, .int .i64 y, .pointer (some ⟨a, 0, none⟩)] w fun e w' => FnAns (opN 6 x y) e ∧ Below w.heap.size w w' := by
  have SX := Lib.hid (fun X (hb : Below w.heap.size w X) => show X.cell? ⟨a, 0, none⟩ = some (.func (.func 69) #[] #[]) from (RA.below hb RA.lt).cell_at 0)
  have hX := SX.out _ (Below.refl _ _).drew
  have c0 := SX.out _ (Below.refl _ _)
  have HA := Lib.hid (fun X z => num_all (w := X) z)
  by_cases h0 : y = 0
  · subst h0
    clear RA hX hx hy
    go_enter Tryz.func77, Tryz.ntmps77
    go_wp2_with fail
    go_ret2
    exact ⟨rfl, Below.refl _ _⟩
  · have hz : (y == 0) = false := by rw [beq_eq_false_iff_ne]; exact h0
    have hn : opN 6 x y = some (x.tdiv y) := if_neg h0
    rw [hn]
    have hfb := floor_small (y := y) hx
    have hqb := tdiv_small (y := y) hx
    have hmb := tmod_small (y := y) hx
    have hfm := floor_mul hx hy
    have hw1 : IntKind.i64.wrap (x.tdiv y) = x.tdiv y := by rw [IntKind.wrap_i64]; omega
    have hw3 : IntKind.i64.wrap (floorQ x y * y) = floorQ x y * y := by rw [IntKind.wrap_i64]; omega
    have hx' := hx
    unfold Sm at hx'
    have hw4 : IntKind.i64.wrap (x - floorQ x y * y) = x - floorQ x y * y := by rw [IntKind.wrap_i64]; omega
    clear hx'
    have HFl := Lib.hid (fun X => prim_floor (w := X) hx hy h0)
    have HBd := Lib.hid (show (-1073741824 ≤ x ∧ x ≤ 1073741823) ∧ (-1073741824 ≤ y ∧ y ≤ 1073741823) from ⟨hx, hy⟩)
    obtain ⟨⟨x1, x2⟩, ⟨y1, y2⟩⟩ := HBd.out
    clear RA hx hy hn HBd
    go_enter Tryz.func77, Tryz.ntmps77
    go_wp2_with fail
    refine wp_region_held (S := fun X => X.cell? ⟨a, 0, none⟩ = some (.func (.func 69) #[] #[])) (by kernel_rfl) ?_
    refine wpAnyH_take_at (i := 0) (v := .func (.func 69) #[] #[]) 9 rfl rfl (by kernel_rfl) (by kernel_rfl) (by kernel_rfl) (fun _ _ _ h => h) (.inl ⟨rfl, fun X hX => by go_simp⟩) hX ?_
    simp only [Act.put, List.setIfInBounds_toArray, List.set_cons_zero, List.set_cons_succ]
    refine wpAnyH_take_at (i := 1) (v := .int .i64 x) 10 rfl rfl (by kernel_rfl) (by kernel_rfl) (by kernel_rfl) (fun _ _ _ h => h) (.inl ⟨rfl, fun X hX => by go_simp⟩) hX ?_
    simp only [Act.put, List.setIfInBounds_toArray, List.set_cons_zero, List.set_cons_succ]
    refine wpAnyH_take_at (i := 2) (v := .int .i64 y) 11 rfl rfl (by kernel_rfl) (by kernel_rfl) (by kernel_rfl) (fun _ _ _ h => h) (.inl ⟨rfl, fun X hX => by go_simp⟩) hX ?_
    simp only [Act.put, List.setIfInBounds_toArray, List.set_cons_zero, List.set_cons_succ]
    refine wpAnyH_take_at (i := 3) (v := .int .i64 (x.tdiv y)) 12 rfl rfl (by kernel_rfl) (by kernel_rfl) (by kernel_rfl) (fun _ _ _ h => h) (.inl ⟨rfl, fun X hX => by go_simp⟩) hX ?_
    simp only [Act.put, List.setIfInBounds_toArray, List.set_cons_zero, List.set_cons_succ]
    refine wpAnyH_all (rs := [4]) (by kernel_rfl) (by decide) (fun i hi => ?_)
    rw [List.mem_singleton] at hi
    subst hi
    unfold wpOp
    go_simp
    refine .inl ((HA.out _ _).mono ?_)
    rintro e X1 ⟨rfl, rfl⟩
    refine ⟨hX, ?_⟩
    (try simp only [Act.put, List.setIfInBounds_toArray, List.set_cons_zero, List.set_cons_succ])
    refine wpAnyH_take_at (i := 5) (v := .int .i64 (x.tdiv y)) 14 rfl rfl (by kernel_rfl) (by kernel_rfl) (by kernel_rfl) (fun _ _ _ h => h) (.inl ⟨rfl, fun X hX => by go_simp⟩) hX ?_
    simp only [Act.put, List.setIfInBounds_toArray, List.set_cons_zero, List.set_cons_succ]
    refine wpAnyH_take_at (i := 6) (v := .bool true) 15 rfl rfl (by kernel_rfl) (by kernel_rfl) (by kernel_rfl) (fun _ _ _ h => h) (.inl ⟨rfl, fun X hX => by go_simp⟩) hX ?_
    simp only [Act.put, List.setIfInBounds_toArray, List.set_cons_zero, List.set_cons_succ]
    refine wpAnyH_take_at (i := 7) (v := .int .i64 (x.tdiv y)) 5 rfl rfl (by kernel_rfl) (by kernel_rfl) (by kernel_rfl) (fun _ _ _ h => h) (.inl ⟨rfl, fun X hX => by go_simp⟩) hX ?_
    simp only [Act.put, List.setIfInBounds_toArray, List.set_cons_zero, List.set_cons_succ]
    refine wpAnyH_take_at (i := 8) (v := .bool true) 6 rfl rfl (by kernel_rfl) (by kernel_rfl) (by kernel_rfl) (fun _ _ _ h => h) (.inl ⟨rfl, fun X hX => by go_simp⟩) hX ?_
    simp only [Act.put, List.setIfInBounds_toArray, List.set_cons_zero, List.set_cons_succ]
    refine wpAnyH_done (by kernel_rfl) ?_ _
    go_wp2_with fail
    go_ret2
    exact ⟨rfl, (Below.refl _ _).drew⟩
set_option maxHeartbeats 1600000 in
set_option maxRecDepth 100000 in
theorem num_7 {x y : Int} (hx : Sm x) (hy : Sm y) {a : Nat} (RA : Row w a 112 [.func (.func 69) #[] #[]]) :
    Calls Tryz.prog 78 #[.int .i64 x, .int .i64 y, .pointer (some ⟨a, 0, none⟩)] w fun e w' => FnAns (opN 7 x y) e ∧ Below w.heap.size w w' := by
  have SX := Lib.hid (fun X (hb : Below w.heap.size w X) => show X.cell? ⟨a, 0, none⟩ = some (.func (.func 69) #[] #[]) from (RA.below hb RA.lt).cell_at 0)
  have hX := SX.out _ (Below.refl _ _).drew
  have c0 := SX.out _ (Below.refl _ _)
  have HA := Lib.hid (fun X z => num_all (w := X) z)
  by_cases h0 : y = 0
  · subst h0
    clear RA hX hx hy
    go_enter Tryz.func78, Tryz.ntmps78
    go_wp2_with fail
    go_ret2
    exact ⟨rfl, Below.refl _ _⟩
  · have hz : (y == 0) = false := by rw [beq_eq_false_iff_ne]; exact h0
    have hn : opN 7 x y = some (x.tmod y) := if_neg h0
    rw [hn]
    have hfb := floor_small (y := y) hx
    have hqb := tdiv_small (y := y) hx
    have hmb := tmod_small (y := y) hx
    have hfm := floor_mul hx hy
    have hw1 : IntKind.i64.wrap (x.tdiv y) = x.tdiv y := by rw [IntKind.wrap_i64]; omega
    have hw3 : IntKind.i64.wrap (floorQ x y * y) = floorQ x y * y := by rw [IntKind.wrap_i64]; omega
    have hx' := hx
    unfold Sm at hx'
    have hw4 : IntKind.i64.wrap (x - floorQ x y * y) = x - floorQ x y * y := by rw [IntKind.wrap_i64]; omega
    clear hx'
    have HFl := Lib.hid (fun X => prim_floor (w := X) hx hy h0)
    have HBd := Lib.hid (show (-1073741824 ≤ x ∧ x ≤ 1073741823) ∧ (-1073741824 ≤ y ∧ y ≤ 1073741823) from ⟨hx, hy⟩)
    obtain ⟨⟨x1, x2⟩, ⟨y1, y2⟩⟩ := HBd.out
    clear RA hx hy hn HBd
    go_enter Tryz.func78, Tryz.ntmps78
    go_wp2_with fail
    refine wp_region_held (S := fun X => X.cell? ⟨a, 0, none⟩ = some (.func (.func 69) #[] #[])) (by kernel_rfl) ?_
    refine wpAnyH_take_at (i := 0) (v := .func (.func 69) #[] #[]) 9 rfl rfl (by kernel_rfl) (by kernel_rfl) (by kernel_rfl) (fun _ _ _ h => h) (.inl ⟨rfl, fun X hX => by go_simp⟩) hX ?_
    simp only [Act.put, List.setIfInBounds_toArray, List.set_cons_zero, List.set_cons_succ]
    refine wpAnyH_take_at (i := 1) (v := .int .i64 x) 10 rfl rfl (by kernel_rfl) (by kernel_rfl) (by kernel_rfl) (fun _ _ _ h => h) (.inl ⟨rfl, fun X hX => by go_simp⟩) hX ?_
    simp only [Act.put, List.setIfInBounds_toArray, List.set_cons_zero, List.set_cons_succ]
    refine wpAnyH_take_at (i := 2) (v := .int .i64 y) 11 rfl rfl (by kernel_rfl) (by kernel_rfl) (by kernel_rfl) (fun _ _ _ h => h) (.inl ⟨rfl, fun X hX => by go_simp⟩) hX ?_
    simp only [Act.put, List.setIfInBounds_toArray, List.set_cons_zero, List.set_cons_succ]
    refine wpAnyH_take_at (i := 3) (v := .int .i64 (x.tmod y)) 12 rfl rfl (by kernel_rfl) (by kernel_rfl) (by kernel_rfl) (fun _ _ _ h => h) (.inl ⟨rfl, fun X hX => by go_simp⟩) hX ?_
    simp only [Act.put, List.setIfInBounds_toArray, List.set_cons_zero, List.set_cons_succ]
    refine wpAnyH_all (rs := [4]) (by kernel_rfl) (by decide) (fun i hi => ?_)
    rw [List.mem_singleton] at hi
    subst hi
    unfold wpOp
    go_simp
    refine .inl ((HA.out _ _).mono ?_)
    rintro e X1 ⟨rfl, rfl⟩
    refine ⟨hX, ?_⟩
    (try simp only [Act.put, List.setIfInBounds_toArray, List.set_cons_zero, List.set_cons_succ])
    refine wpAnyH_take_at (i := 5) (v := .int .i64 (x.tmod y)) 14 rfl rfl (by kernel_rfl) (by kernel_rfl) (by kernel_rfl) (fun _ _ _ h => h) (.inl ⟨rfl, fun X hX => by go_simp⟩) hX ?_
    simp only [Act.put, List.setIfInBounds_toArray, List.set_cons_zero, List.set_cons_succ]
    refine wpAnyH_take_at (i := 6) (v := .bool true) 15 rfl rfl (by kernel_rfl) (by kernel_rfl) (by kernel_rfl) (fun _ _ _ h => h) (.inl ⟨rfl, fun X hX => by go_simp⟩) hX ?_
    simp only [Act.put, List.setIfInBounds_toArray, List.set_cons_zero, List.set_cons_succ]
    refine wpAnyH_take_at (i := 7) (v := .int .i64 (x.tmod y)) 5 rfl rfl (by kernel_rfl) (by kernel_rfl) (by kernel_rfl) (fun _ _ _ h => h) (.inl ⟨rfl, fun X hX => by go_simp⟩) hX ?_
    simp only [Act.put, List.setIfInBounds_toArray, List.set_cons_zero, List.set_cons_succ]
    refine wpAnyH_take_at (i := 8) (v := .bool true) 6 rfl rfl (by kernel_rfl) (by kernel_rfl) (by kernel_rfl) (fun _ _ _ h => h) (.inl ⟨rfl, fun X hX => by go_simp⟩) hX ?_
    simp only [Act.put, List.setIfInBounds_toArray, List.set_cons_zero, List.set_cons_succ]
    refine wpAnyH_done (by kernel_rfl) ?_ _
    go_wp2_with fail
    go_ret2
    exact ⟨rfl, (Below.refl _ _).drew⟩
set_option maxHeartbeats 1600000 in
set_option maxRecDepth 100000 in
theorem num_17 {x y : Int} (hx : Sm x) (hy : Sm y) : Calls Tryz.prog 89 #[.int .i64 x, .int .i64 y] w fun e w' => FnAns (opN 17 x y) e ∧ Below w.heap.size w w' := by
  obtain ⟨x1, x2⟩ := hx
  obtain ⟨y1, y2⟩ := hy
  show Calls _ _ _ _ fun e w' => FnAns (shiftQ x y) e ∧ Below w.heap.size w w'
  by_cases c0 : x = 0
  · subst c0
    rw [shift_zero]
    go_enter Tryz.func89, Tryz.ntmps89
    go_wp2_with fail
    go_ret2
    exact ⟨rfl, Below.refl _ _⟩
  · have e0 : (x == 0) = false := by rw [beq_eq_false_iff_ne]; exact c0
    by_cases c1 : 31 < y
    · have d1 : decide (31 < y) = true := decide_eq_true c1
      have hs : shiftQ x y = none := by unfold shiftQ; rw [if_neg c0, if_pos c1]
      rw [hs]
      clear hs
      go_enter Tryz.func89, Tryz.ntmps89
      go_wp2_with fail
      go_ret2
      exact ⟨rfl, Below.refl _ _⟩
    · have d1 : decide (31 < y) = false := decide_eq_false c1
      by_cases c2 : 0 ≤ y
      · have d2 : decide (0 ≤ y) = true := decide_eq_true c2
        have hs : shiftQ x y = some (x * 2 ^ y.toNat) := by unfold shiftQ; rw [if_neg c0, if_neg c1, if_pos c2]
        have hw : wrap64 (x * 2 ^ y.toNat) = x * 2 ^ y.toNat := by
          have h2 : (2 : Nat) ^ y.toNat ≤ 2 ^ 31 := Nat.pow_le_pow_right (by decide) (by omega)
          have h3 : (x * 2 ^ y.toNat).natAbs ≤ 1073741824 * 2 ^ 31 := by
            rw [Int.natAbs_mul, Int.natAbs_pow]
            exact Nat.mul_le_mul (by omega) h2
          unfold wrap64; omega
        rw [hs]
        clear hs
        go_enter Tryz.func89, Tryz.ntmps89
        go_wp2_with fail
        (try rw [hw])
        go_ret2
        exact ⟨rfl, Below.refl _ _⟩
      · have d2 : decide (0 ≤ y) = false := decide_eq_false c2
        have hs : shiftQ x y = some (x / 2 ^ (min (-y) 60).toNat) := by unfold shiftQ; rw [if_neg c0, if_neg c1, if_neg c2]
        rw [hs]
        clear hs
        go_enter Tryz.func89, Tryz.ntmps89
        go_wp2_with fail
        go_ret2
        exact ⟨rfl, Below.refl _ _⟩
end
end Go.Proofs.YtllabdmmfohbaaaGreatDoor
namespace Go.Proofs.YtllabdmmfohbaaaGreatDoor
open Go Go.RowKit Limb
theorem ahead_find (z : Nat) (p : Nat → Bool) : ∀ (fl : List Nat) (k : Nat), (∀ j, j < k → wd fl j ≠ z ∧ p (wd fl j) = false) → k ≤ fl.length → (Limb.ahead z fl).find? p = (Limb.ahead z (fl.drop k)).find? p
  | _, 0, _, _ => rfl
  | [], k + 1, _, h => by simp at h
  | a :: t, k + 1, h, hk => by
    obtain ⟨h1, h2⟩ := h 0 (by omega)
    have h1 : a ≠ z := h1
    have h2 : p a = false := h2
    show (if a = z then [] else a :: Limb.ahead z t).find? p = (Limb.ahead z (t.drop k)).find? p
    rw [if_neg h1, List.find?_cons_of_neg (by rw [h2]; decide)]
    exact ahead_find z p t k (fun j hj => h (j + 1) (by omega)) (by simpa using hk)
theorem drop_wd {l : List Nat} {k : Nat} (h : k < l.length) : l.drop k = wd l k :: l.drop (k + 1) := by
  rw [List.drop_eq_getElem_cons h, wd_lt h]
section
variable {w : World} {F : Foot} {h : Hp}
theorem getA_fld {o k : Nat} (hp : isF h o 1 0 = true) (hk : k < (hdO h o).size) : getA h o (k : Int) [1, 4] = fld h o k ∧ lookE h o (k : Int) [1, 4] = 0 := by
  unfold isF at hp
  simp only [Bool.and_eq_true, decide_eq_true_eq] at hp
  obtain ⟨⟨h1, h2⟩, _⟩ := hp
  have hlen : (hdO h o).len = (hdO h o).size := len_size (by omega)
  have e : lookE h o (k : Int) [1, 4] = 0 := lookE_zero.2 ⟨h1, by rw [h2]; rfl, by omega, by rw [hlen]; omega⟩
  exact ⟨by unfold getA; rw [if_pos e, Int.toNat_natCast], e⟩
theorem fld_lt32 (k : Limb.Good h) (o i : Nat) : fld h o i < 4294967296 := k.lim.wd _
set_option maxHeartbeats 3200000 in
set_option maxRecDepth 100000 in
theorem found_symbol (H : HeapAt w F h) (l : Nat) (hl : l < 4294967296) (p : Nat → Bool) (c1 c2 : Value) (HIs : ∀ X, Below w.heap.size w X → ∀ o, o < 4294967296 → Calls Tryz.prog 256 #[.int .u32 (o : Nat), c1, c2] X fun e X' => e = .returned (.bool (p o)) ∧ Below X.heap.size X X') :
    Calls Tryz.prog 186 #[.pointer (some ⟨F.p, 0, none⟩), .int .u32 l, .func (.func 256) #[] #[c1, c2]] w fun e w' =>
      (∃ z : Int, e = .returned (.int .i64 z) ∧ ((z = -1 ∧ (isF h l 1 0 = true → (Limb.ahead (wd h.rt 0) (flds h l)).find? p = none)) ∨ ∃ k : Nat, z = k ∧ isF h l 1 0 = true ∧ k < (hdO h l).size ∧ (Limb.ahead (wd h.rt 0) (flds h l)).find? p = some (fld h l k))) ∧ Below w.heap.size w w' := by
  have HP := Lib.hid (kernel_pointers H l 0 hl)
  cases hp : isF h l 1 0 with
  | false =>
    have hP := HP.out
    rw [hp] at hP
    have HP := Lib.hid hP
    clear hP hp H HIs
    go_enter Tryz.func186, Tryz.ntmps186
    go_wp2_with fail
    refine (HP.out).mono ?_
    rintro e V ⟨rfl, hB⟩
    (try dsimp only)
    go_wp2_with fail
    go_ret
    exact ⟨⟨-1, rfl, .inl ⟨rfl, fun h => by cases h⟩⟩, hB⟩
  | true =>
    have hP := HP.out
    rw [hp] at hP
    have HP := Lib.hid hP
    have hi : isO h l = true := by unfold isF at hp; simp only [Bool.and_eq_true] at hp; exact hp.1.1
    have hX : hdX h l = hdO h l := by unfold hdX; rw [if_pos hi]
    have HR := Lib.hid (fun X (hb : Below w.heap.size w X) => kernel_root (H.below hb) 0 (by decide))
    have hS := fun X (hb : Below w.heap.size w X) => kernel_size (H.below hb) l hl
    rw [hX] at hS
    have HS := Lib.hid hS
    have hg := fun X (hb : Below w.heap.size w X) (k : Nat) (hk : k < (hdO h l).size) => heap_get (H.below hb) l hl (k : Int) (by omega) (by have := (H.good.ok _ (isO_iff.1 hi).2.2).1.size; have hk : k < (Limb.hd h (l / 2)).size := hk; omega)
    have HG := Lib.hid (fun X (hb : Below w.heap.size w X) (k : Nat) (hk : k < (hdO h l).size) => show Calls Tryz.prog 112 #[.pointer (some ⟨F.p, 0, none⟩), .int .u32 l, .int .i64 (k : Nat)] X fun e X' => e = .returned (.tuple #[.int .u32 (fld h l k), .int .i64 (0 : Nat)]) ∧ Below X.heap.size X X' from by
      have := hg X hb k hk
      rw [(getA_fld hp hk).1, (getA_fld hp hk).2] at this; exact this)
    have HF := Lib.hid (fun k (hk : k < (hdO h l).size) => show fld h l k = wd (flds h l) k from (flds_wd hk).symm)
    have HFL := Lib.hid (flds_length H.good hi)
    have HLt := Lib.hid (fun k => fld_lt32 H.good l k)
    have HI := Lib.hid HIs
    have hz0 := root_lt H.good 0
    generalize wd h.rt 0 = nl at *
    have hsz : (hdO h l).size ≤ 65535 := (H.good.ok _ (isO_iff.1 hi).2.2).1.size
    generalize (hdO h l).size = sz at *
    have Hp := Lib.hid hp
    clear hP hp hi hX hS hg H HIs
    go_enter Tryz.func186, Tryz.ntmps186
    go_wp2_with fail
    refine (HP.out).mono ?_
    rintro e V ⟨rfl, hB⟩
    (try dsimp only)
    go_wp2_with fail
    refine (HR.out V hB).mono ?_
    rintro e V1 ⟨rfl, rfl⟩
    (try dsimp only)
    go_wp2_with fail
    refine (HS.out _ hB).mono ?_
    rintro e V2 ⟨rfl, hb⟩
    (try dsimp only)
    replace hB := hB.trans (hb.mono hB.size)
    clear hb
    go_wp2_with fail
    go_loopw [20] (fun i wr => ∃ k : Nat, k ≤ sz ∧ i = .int .i64 k ∧ Hid (∀ j, j < k → wd (flds h l) j ≠ nl ∧ p (wd (flds h l) j) = false) ∧ Below w.heap.size w wr) (fun i _ => sz - (RowKit.intOf i).toNat)
    case atStart => exact ⟨0, Nat.zero_le _, rfl, fun j hj => absurd hj (by omega), hB⟩
    case round =>
      clear hB
      obtain ⟨k, hk, rfl, HPre, hB⟩ := hrel
      by_cases h0 : k < sz
      · have d1 : decide ((k : Int) < (sz : Int)) = true := decide_eq_true (by omega)
        have d2 : decide (k < sz) = true := decide_eq_true h0
        have hlt := HLt.out k
        have hfk := HF.out k h0
        have HG1 := Lib.hid (HG.out wr hB k h0)
        have Hfk := Lib.hid hfk
        have HFind := Lib.hid (ahead_find nl p (flds h l) k HPre.out (by rw [HFL.out]; exact hk))
        have HDrop := Lib.hid (drop_wd (l := flds h l) (k := k) (by rw [HFL.out]; exact h0))
        clear hfk
        go_wp2_with fail
        refine (HG1.out).mono ?_
        rintro e V3 ⟨rfl, hb⟩
        (try dsimp only)
        replace hB := hB.trans (hb.mono hB.size)
        clear hb
        by_cases hn : fld h l k = nl
        · have q : ((fld h l k : Int) == (nl : Int)) = true := by rw [beq_iff_eq]; omega
          have HN := Lib.hid (show (Limb.ahead nl (flds h l)).find? p = none from by
            rw [HFind.out, HDrop.out, ← Hfk.out, hn]; show (if nl = nl then [] else _).find? p = none; rw [if_pos rfl]; rfl)
          rw [hn]
          clear q hn Hfk HDrop HFind
          go_wp2_with fail
          go_ret
          exact ⟨⟨-1, rfl, .inl ⟨rfl, fun _ => HN.out⟩⟩, hB⟩
        · have q : ((fld h l k : Int) == (nl : Int)) = false := by rw [beq_eq_false_iff_ne]; omega
          have q2 : (fld h l k == nl) = false := by rw [beq_eq_false_iff_ne]; exact hn
          have HN := Lib.hid hn
          have HIs1 := Lib.hid (HI.out V3 hB (fld h l k) hlt)
          generalize hfv : fld h l k = v at *
          have Hfv := Lib.hid hfv
          clear hfv hn
          go_wp2_with fail
          refine (HIs1.out).mono ?_
          rintro e V4 ⟨rfl, hb⟩
          (try dsimp only)
          replace hB := hB.trans (hb.mono hB.size)
          clear hb
          cases hpv : p v with
          | true =>
            have HN2 := Lib.hid (show (Limb.ahead nl (flds h l)).find? p = some (fld h l k) from by
              rw [HFind.out, HDrop.out, ← Hfk.out, Hfv.out]
              show (if v = nl then [] else v :: _).find? p = some v
              rw [if_neg HN.out, List.find?_cons_of_pos hpv])
            clear Hfk HDrop HFind HN
            rw [← Hfv.out] at hpv
            clear hpv
            go_wp2_with fail
            go_ret
            exact ⟨⟨k, rfl, .inr ⟨k, rfl, by trivial, h0, HN2.out⟩⟩, hB⟩
          | false =>
            have HN2 := Lib.hid (show ∀ j, j < k + 1 → wd (flds h l) j ≠ nl ∧ p (wd (flds h l) j) = false from fun j hj => by
              by_cases e : j = k
              · rw [e, ← Hfk.out]; exact ⟨HN.out, hpv⟩
              · exact HPre.out j (by omega))
            clear Hfk HDrop HFind HN hpv
            go_wp2_with fail
            go_roundw
            case rel => exact ⟨k + 1, h0, by simp, HN2.out, hB⟩
            case measure => simp [RowKit.intOf]; omega
      · obtain rfl : k = sz := by omega
        have d1 : decide ((k : Int) < (k : Int)) = false := decide_eq_false (by omega)
        have d2 : decide (k < k) = false := decide_eq_false (by omega)
        have HN := Lib.hid (show (Limb.ahead nl (flds h l)).find? p = none from by
          rw [ahead_find nl p (flds h l) k HPre.out (by rw [HFL.out]; exact hk), List.drop_of_length_le (by rw [HFL.out]; exact Nat.le_refl _)]; rfl)
        go_wp2_with fail
        go_ret
        exact ⟨⟨-1, rfl, .inl ⟨rfl, fun _ => HN.out⟩⟩, hB⟩
set_option maxHeartbeats 3200000 in
set_option maxRecDepth 100000 in
theorem found_global (H : HeapAt w F h) (l : Nat) (hl : l < 4294967296) (p : Nat → Bool) (c1 c2 : Value) (HIs : ∀ X, Below w.heap.size w X → ∀ o, o < 4294967296 → Calls Tryz.prog 187 #[.int .u32 (o : Nat), c1, c2] X fun e X' => e = .returned (.bool (p o)) ∧ Below X.heap.size X X') :
    Calls Tryz.prog 186 #[.pointer (some ⟨F.p, 0, none⟩), .int .u32 l, .func (.func 187) #[] #[c1, c2]] w fun e w' =>
      (∃ z : Int, e = .returned (.int .i64 z) ∧ ((z = -1 ∧ (isF h l 1 0 = true → (Limb.ahead (wd h.rt 0) (flds h l)).find? p = none)) ∨ ∃ k : Nat, z = k ∧ isF h l 1 0 = true ∧ k < (hdO h l).size ∧ (Limb.ahead (wd h.rt 0) (flds h l)).find? p = some (fld h l k))) ∧ Below w.heap.size w w' := by
  have HP := Lib.hid (kernel_pointers H l 0 hl)
  cases hp : isF h l 1 0 with
  | false =>
    have hP := HP.out
    rw [hp] at hP
    have HP := Lib.hid hP
    clear hP hp H HIs
    go_enter Tryz.func186, Tryz.ntmps186
    go_wp2_with fail
    refine (HP.out).mono ?_
    rintro e V ⟨rfl, hB⟩
    (try dsimp only)
    go_wp2_with fail
    go_ret
    exact ⟨⟨-1, rfl, .inl ⟨rfl, fun h => by cases h⟩⟩, hB⟩
  | true =>
    have hP := HP.out
    rw [hp] at hP
    have HP := Lib.hid hP
    have hi : isO h l = true := by unfold isF at hp; simp only [Bool.and_eq_true] at hp; exact hp.1.1
    have hX : hdX h l = hdO h l := by unfold hdX; rw [if_pos hi]
    have HR := Lib.hid (fun X (hb : Below w.heap.size w X) => kernel_root (H.below hb) 0 (by decide))
    have hS := fun X (hb : Below w.heap.size w X) => kernel_size (H.below hb) l hl
    rw [hX] at hS
    have HS := Lib.hid hS
    have hg := fun X (hb : Below w.heap.size w X) (k : Nat) (hk : k < (hdO h l).size) => heap_get (H.below hb) l hl (k : Int) (by omega) (by have := (H.good.ok _ (isO_iff.1 hi).2.2).1.size; have hk : k < (Limb.hd h (l / 2)).size := hk; omega)
    have HG := Lib.hid (fun X (hb : Below w.heap.size w X) (k : Nat) (hk : k < (hdO h l).size) => show Calls Tryz.prog 112 #[.pointer (some ⟨F.p, 0, none⟩), .int .u32 l, .int .i64 (k : Nat)] X fun e X' => e = .returned (.tuple #[.int .u32 (fld h l k), .int .i64 (0 : Nat)]) ∧ Below X.heap.size X X' from by
      have := hg X hb k hk
      rw [(getA_fld hp hk).1, (getA_fld hp hk).2] at this; exact this)
    have HF := Lib.hid (fun k (hk : k < (hdO h l).size) => show fld h l k = wd (flds h l) k from (flds_wd hk).symm)
    have HFL := Lib.hid (flds_length H.good hi)
    have HLt := Lib.hid (fun k => fld_lt32 H.good l k)
    have HI := Lib.hid HIs
    have hz0 := root_lt H.good 0
    generalize wd h.rt 0 = nl at *
    have hsz : (hdO h l).size ≤ 65535 := (H.good.ok _ (isO_iff.1 hi).2.2).1.size
    generalize (hdO h l).size = sz at *
    have Hp := Lib.hid hp
    clear hP hp hi hX hS hg H HIs
    go_enter Tryz.func186, Tryz.ntmps186
    go_wp2_with fail
    refine (HP.out).mono ?_
    rintro e V ⟨rfl, hB⟩
    (try dsimp only)
    go_wp2_with fail
    refine (HR.out V hB).mono ?_
    rintro e V1 ⟨rfl, rfl⟩
    (try dsimp only)
    go_wp2_with fail
    refine (HS.out _ hB).mono ?_
    rintro e V2 ⟨rfl, hb⟩
    (try dsimp only)
    replace hB := hB.trans (hb.mono hB.size)
    clear hb
    go_wp2_with fail
    go_loopw [20] (fun i wr => ∃ k : Nat, k ≤ sz ∧ i = .int .i64 k ∧ Hid (∀ j, j < k → wd (flds h l) j ≠ nl ∧ p (wd (flds h l) j) = false) ∧ Below w.heap.size w wr) (fun i _ => sz - (RowKit.intOf i).toNat)
    case atStart => exact ⟨0, Nat.zero_le _, rfl, fun j hj => absurd hj (by omega), hB⟩
    case round =>
      clear hB
      obtain ⟨k, hk, rfl, HPre, hB⟩ := hrel
      by_cases h0 : k < sz
      · have d1 : decide ((k : Int) < (sz : Int)) = true := decide_eq_true (by omega)
        have d2 : decide (k < sz) = true := decide_eq_true h0
        have hlt := HLt.out k
        have hfk := HF.out k h0
        have HG1 := Lib.hid (HG.out wr hB k h0)
        have Hfk := Lib.hid hfk
        have HFind := Lib.hid (ahead_find nl p (flds h l) k HPre.out (by rw [HFL.out]; exact hk))
        have HDrop := Lib.hid (drop_wd (l := flds h l) (k := k) (by rw [HFL.out]; exact h0))
        clear hfk
        go_wp2_with fail
        refine (HG1.out).mono ?_
        rintro e V3 ⟨rfl, hb⟩
        (try dsimp only)
        replace hB := hB.trans (hb.mono hB.size)
        clear hb
        by_cases hn : fld h l k = nl
        · have q : ((fld h l k : Int) == (nl : Int)) = true := by rw [beq_iff_eq]; omega
          have HN := Lib.hid (show (Limb.ahead nl (flds h l)).find? p = none from by
            rw [HFind.out, HDrop.out, ← Hfk.out, hn]; show (if nl = nl then [] else _).find? p = none; rw [if_pos rfl]; rfl)
          rw [hn]
          clear q hn Hfk HDrop HFind
          go_wp2_with fail
          go_ret
          exact ⟨⟨-1, rfl, .inl ⟨rfl, fun _ => HN.out⟩⟩, hB⟩
        · have q : ((fld h l k : Int) == (nl : Int)) = false := by rw [beq_eq_false_iff_ne]; omega
          have q2 : (fld h l k == nl) = false := by rw [beq_eq_false_iff_ne]; exact hn
          have HN := Lib.hid hn
          have HIs1 := Lib.hid (HI.out V3 hB (fld h l k) hlt)
          generalize hfv : fld h l k = v at *
          have Hfv := Lib.hid hfv
          clear hfv hn
          go_wp2_with fail
          refine (HIs1.out).mono ?_
          rintro e V4 ⟨rfl, hb⟩
          (try dsimp only)
          replace hB := hB.trans (hb.mono hB.size)
          clear hb
          cases hpv : p v with
          | true =>
            have HN2 := Lib.hid (show (Limb.ahead nl (flds h l)).find? p = some (fld h l k) from by
              rw [HFind.out, HDrop.out, ← Hfk.out, Hfv.out]
              show (if v = nl then [] else v :: _).find? p = some v
              rw [if_neg HN.out, List.find?_cons_of_pos hpv])
            clear Hfk HDrop HFind HN
            rw [← Hfv.out] at hpv
            clear hpv
            go_wp2_with fail
            go_ret
            exact ⟨⟨k, rfl, .inr ⟨k, rfl, by trivial, h0, HN2.out⟩⟩, hB⟩
          | false =>
            have HN2 := Lib.hid (show ∀ j, j < k + 1 → wd (flds h l) j ≠ nl ∧ p (wd (flds h l) j) = false from fun j hj => by
              by_cases e : j = k
              · rw [e, ← Hfk.out]; exact ⟨HN.out, hpv⟩
              · exact HPre.out j (by omega))
            clear Hfk HDrop HFind HN hpv
            go_wp2_with fail
            go_roundw
            case rel => exact ⟨k + 1, h0, by simp, HN2.out, hB⟩
            case measure => simp [RowKit.intOf]; omega
      · obtain rfl : k = sz := by omega
        have d1 : decide ((k : Int) < (k : Int)) = false := decide_eq_false (by omega)
        have d2 : decide (k < k) = false := decide_eq_false (by omega)
        have HN := Lib.hid (show (Limb.ahead nl (flds h l)).find? p = none from by
          rw [ahead_find nl p (flds h l) k HPre.out (by rw [HFL.out]; exact hk), List.drop_of_length_le (by rw [HFL.out]; exact Nat.le_refl _)]; rfl)
        go_wp2_with fail
        go_ret
        exact ⟨⟨-1, rfl, .inl ⟨rfl, fun _ => HN.out⟩⟩, hB⟩
end
end Go.Proofs.YtllabdmmfohbaaaGreatDoor
