/- The walks of the booter's methods: alloc, class, intern, of. -/
import Derived.Test.YtllabdmmfohbaaaGreatDoorGX36
import Derived.Test.YtllabdmmfohbaaaGreatDoorGX18
set_option linter.unusedVariables false
set_option linter.unusedSimpArgs false
namespace Go.Proofs.YtllabdmmfohbaaaGreatDoor
open Go Go.RowKit Limb
section
variable {w : World} {F : Foot} {h : Hp}
def BootRow (w : World) (F : Foot) (pb : Nat) : Prop := Row w pb 46 [.pointer (some ⟨F.p, 0, none⟩), .int .i64 0]
theorem BootRow.cells {pb : Nat} (r : BootRow w F pb) : w.cell? ⟨pb, 0, none⟩ = some (.pointer (some ⟨F.p, 0, none⟩)) ∧ w.cell? ⟨pb, 1, none⟩ = some (.int .i64 0) := by
  have c0 := Row.cell_at r 0
  have c1 := Row.cell_at r 1
  exact ⟨c0, c1⟩
set_option maxHeartbeats 1600000 in
set_option maxRecDepth 100000 in
theorem booter_alloc (H : HeapAt w F h) {pb : Nat} (rb : BootRow w F pb) (hpb : pb ∉ F.l) (n o : Nat) (h' : Hp) (hn : n ≤ 65535) (hp : allocP h 0 1 n = some (o, h')) :
    Calls Tryz.prog 18 #[.pointer (some ⟨pb, 0, none⟩), .int .i64 n] w fun e w' => e = .returned (.int .u32 o) ∧ Moved w F w' h' := by
  have HA := Lib.hid (show Calls Tryz.prog 31 #[.pointer (some ⟨F.p, 0, none⟩), .int .u32 0, .int .i64 1, .int .i64 n] w fun e w' => e = .returned (.tuple #[.int .u32 o, .int .i64 0]) ∧ Moved w F w' h' from heap_Alloc H 0 1 n o h' (by decide) (by decide) hn hp)
  obtain ⟨c0, c1⟩ := rb.cells
  have RB := Lib.hid rb
  have HPB := Lib.hid hpb
  clear H rb hpb hp
  go_enter Tryz.func18, Tryz.ntmps18
  go_wp2_with fail
  refine (HA.out).mono ?_
  rintro e V ⟨rfl, F', hS⟩
  (try dsimp only)
  have rb := hS.beside RB.out HPB.out
  have c2 := Row.cell_at rb 1
  have z2 := rb.free 1
  have hself := cell_self (i := 1) rb rfl
  simp only [List.getElem?_cons_zero, List.getElem?_cons_succ] at c2
  have HS := Lib.hid (show Moved w F V h' from ⟨F', hS⟩)
  clear hS rb RB HPB
  go_wp2_with fail
  go_ret
  exact ⟨rfl, HS.out⟩
set_option maxRecDepth 100000 in
theorem booter_class (H : HeapAt w F h) {pb : Nat} (rb : BootRow w F pb) (i : Nat) (hi : i < 64) :
    Calls Tryz.prog 33 #[.pointer (some ⟨pb, 0, none⟩), .int .i64 i] w fun e w' => e = .returned (.int .u32 (wd h.rt i : Nat)) ∧ w = w' := by
  have HR := Lib.hid (kernel_root H i hi)
  obtain ⟨c0, c1⟩ := rb.cells
  clear H rb
  go_enter Tryz.func33, Tryz.ntmps33
  go_wp2_with fail
  refine (HR.out).mono ?_
  rintro e w1 ⟨rfl, rfl⟩
  (try dsimp only)
  go_wp2_with fail
  go_ret
  exact ⟨rfl, rfl⟩
set_option maxHeartbeats 1600000 in
set_option maxRecDepth 100000 in
theorem booter_intern (H : HeapAt w F h) (K : Limb.Ker h) {pb : Nat} (rb : BootRow w F pb) (hpb : pb ∉ F.l) (S : ByteArray) (hS : S.size ≤ 262140) (h0 : 0 < S.size) (o : Nat) (h' : Hp) (hp : internP h (tx S) = some (o, h')) :
    Calls Tryz.prog 40 #[.pointer (some ⟨pb, 0, none⟩), .string S] w fun e w' => e = .returned (.int .u32 o) ∧ Moved w F w' h' := by
  have HA := Lib.hid (kernel_intern H K S hS h0 o h' hp)
  obtain ⟨c0, c1⟩ := rb.cells
  have RB := Lib.hid rb
  have HPB := Lib.hid hpb
  clear H rb hpb hp
  go_enter Tryz.func40, Tryz.ntmps40
  go_wp2_with fail
  refine (HA.out).mono ?_
  rintro e V ⟨rfl, F', hS⟩
  (try dsimp only)
  have rb := hS.beside RB.out HPB.out
  have c2 := Row.cell_at rb 1
  have z2 := rb.free 1
  have hself := cell_self (i := 1) rb rfl
  simp only [List.getElem?_cons_zero, List.getElem?_cons_succ] at c2
  have HS := Lib.hid (show Moved w F V h' from ⟨F', hS⟩)
  clear hS rb RB HPB
  go_wp2_with fail
  go_ret
  exact ⟨rfl, HS.out⟩
set_option maxHeartbeats 1600000 in
set_option maxRecDepth 100000 in
theorem booter_of (H : HeapAt w F h) {pb : Nat} (rb : BootRow w F pb) (hpb : pb ∉ F.l) (o i : Nat) (hi : i < 64) (ho : isO h o = true) (hc : isO h (wd h.rt i) = true) :
    Calls Tryz.prog 39 #[.pointer (some ⟨pb, 0, none⟩), .int .u32 o, .int .i64 i] w fun e w' => e = .returned (.tuple #[]) ∧ Step w F w' F (setC h o (wd h.rt i)) := by
  have HR := Lib.hid (fun V (hB : Below w.heap.size w V) => (booter_class (H.below hB) (Row.below rb hB rb.lt) i hi).mono (R' := fun e w' => e = .returned (.int .u32 (wd h.rt i : Nat)) ∧ Below V.heap.size V w') fun e w' ⟨x, y⟩ => ⟨x, by rw [← y]; exact Below.refl _ _⟩)
  have HSc := Lib.hid (fun V (hB : Below w.heap.size w V) => (heap_setclass (H.below hB) o (wd h.rt i) (isO_lt H.good ho) (root_lt H.good i) ho (isO_cls hc)).mono fun e w' ⟨x, y⟩ => (⟨x, Step.of_below hB y⟩ : _ ∧ Step w F w' F (setC h o (wd h.rt i))))
  have hB : Below w.heap.size w w.drew := (Below.refl _ _).drew
  have hX : Row w.drew pb 46 [.pointer (some ⟨F.p, 0, none⟩), .int .i64 0] := rb
  have HRB := Lib.hid (show Row w pb 46 [.pointer (some ⟨F.p, 0, none⟩), .int .i64 0] from rb)
  clear H rb ho hc
  go_enter Tryz.func39, Tryz.ntmps39
  go_wp2_with fail
  refine wp_region_held (S := fun Y => Row Y pb 46 [.pointer (some ⟨F.p, 0, none⟩), .int .i64 0]) (by kernel_rfl) ?_
  refine wpAnyH_take_at (i := 0) (v := .pointer (some ⟨pb, 0, none⟩)) 6 rfl rfl (by kernel_rfl) (by kernel_rfl) (by kernel_rfl) (fun _ _ _ h => h) (.inl ⟨rfl, fun X hX => by go_simp⟩) hX ?_
  simp only [Act.put, List.setIfInBounds_toArray, List.set_cons_zero, List.set_cons_succ]
  refine wpAnyH_take_at (i := 1) (v := .pointer (some ⟨pb, 0, none⟩)) 7 rfl rfl (by kernel_rfl) (by kernel_rfl) (by kernel_rfl) (fun _ _ _ h => h) (.inl ⟨rfl, fun X hX => by go_simp⟩) hX ?_
  simp only [Act.put, List.setIfInBounds_toArray, List.set_cons_zero, List.set_cons_succ]
  refine wpAnyH_take_at (i := 2) (v := .pointer (some ⟨pb, 0, none⟩)) 8 rfl rfl (by kernel_rfl) (by kernel_rfl) (by kernel_rfl) (fun _ _ _ h => h) (.inl ⟨rfl, fun X hX => by go_simp⟩) hX ?_
  simp only [Act.put, List.setIfInBounds_toArray, List.set_cons_zero, List.set_cons_succ]
  refine wpAnyH_take_at (i := 3) (v := .pointer (some ⟨F.p, 0, none⟩)) 9 rfl rfl (by kernel_rfl) (by kernel_rfl) (by kernel_rfl) (fun _ _ _ h => h) (.inl ⟨rfl, fun X hX => by have c0 := hX.cell_at 0; simp only [List.getElem?_cons_zero] at c0; go_simp⟩) hX ?_
  simp only [Act.put, List.setIfInBounds_toArray, List.set_cons_zero, List.set_cons_succ]
  refine wpAnyH_take_at (i := 4) (v := .int .u32 o) 10 rfl rfl (by kernel_rfl) (by kernel_rfl) (by kernel_rfl) (fun _ _ _ h => h) (.inl ⟨rfl, fun X hX => by go_simp⟩) hX ?_
  simp only [Act.put, List.setIfInBounds_toArray, List.set_cons_zero, List.set_cons_succ]
  refine wpAnyH_take_at (i := 5) (v := .pointer (some ⟨pb, 0, none⟩)) 11 rfl rfl (by kernel_rfl) (by kernel_rfl) (by kernel_rfl) (fun _ _ _ h => h) (.inl ⟨rfl, fun X hX => by go_simp⟩) hX ?_
  simp only [Act.put, List.setIfInBounds_toArray, List.set_cons_zero, List.set_cons_succ]
  refine wpAnyH_take_at (i := 6) (v := .int .i64 i) 12 rfl rfl (by kernel_rfl) (by kernel_rfl) (by kernel_rfl) (fun _ _ _ h => h) (.inl ⟨rfl, fun X hX => by go_simp⟩) hX ?_
  simp only [Act.put, List.setIfInBounds_toArray, List.set_cons_zero, List.set_cons_succ]
  refine wpAnyH_all (rs := [7]) (by kernel_rfl) (by decide) (fun i hi => ?_)
  rw [List.mem_singleton] at hi
  subst hi
  unfold wpOp
  go_simp
  refine .inl ((HR.out _ hB).mono ?_)
  rintro e X1 ⟨rfl, hb⟩
  replace hX := hX.below hb hX.lt
  replace hB := hB.trans (hb.mono hB.size)
  clear hb
  refine ⟨hX, ?_⟩
  refine wpAnyH_all (rs := [8]) (by kernel_rfl) (by decide) (fun i hi => ?_)
  rw [List.mem_singleton] at hi
  subst hi
  unfold wpOp
  go_simp
  refine .inl ((HSc.out _ hB).mono ?_)
  rintro e X2 ⟨rfl, hSt⟩
  replace hX := HRB.out.only hSt.2.2 hpb
  refine ⟨hX, ?_⟩
  refine wpAnyH_done (by kernel_rfl) ?_ _
  have HSt := Lib.hid hSt
  clear hSt hB hX HR HSc HRB
  go_wp2_with fail
  go_returns
  exact ⟨rfl, HSt.out⟩
end
end Go.Proofs.YtllabdmmfohbaaaGreatDoor
