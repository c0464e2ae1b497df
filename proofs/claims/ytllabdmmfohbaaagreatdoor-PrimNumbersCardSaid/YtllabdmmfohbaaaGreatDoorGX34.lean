/- A string's bytes as a new slice. The walk of the function that package kernel's Intern hands to undo. -/
import Derived.Test.YtllabdmmfohbaaaGreatDoorGX33
import Derived.Lib.ConvBytes
import Derived.Test.YtllabdmmfohbaaaGreatDoorGX07
import Derived.Test.YtllabdmmfohbaaaGreatDoorGX12
set_option linter.unusedVariables false
set_option linter.unusedSimpArgs false
namespace Go.Proofs.YtllabdmmfohbaaaGreatDoor
open Go Go.RowKit Limb
theorem conv_bytes_out {P : Program} (w : World) (src dst e : TypeId) (S : ByteArray) {u : TypeDesc}
    (hs : P.underlying src = some u) (hd : P.underlying dst = some (.slice e)) (he : P.underlying e = some (.int .u8)) :
    ∃ c W, (convert src dst (.string S)).run P w = .ok (.slice (some ⟨w.heap.size, 0, none⟩) S.size c) W ∧ Lay .u8 W (some ⟨w.heap.size, 0, none⟩) (tx S) ∧ Below w.heap.size w W := by
  refine ⟨_, _, Lib.run_convert_string_bytes w src dst e S hs hd he, ?_, ?_⟩
  · refine ⟨w.heap.size, 0, fun _ => ⟨rfl, by rw [Lib.bytesWorld_size]; omega⟩, fun i hi => ?_⟩
    rw [tx_length] at hi
    rw [Nat.zero_add, Lib.bytesWorld_cell w e S i hi]
    have : wd (tx S) i = (S.data.toList.getD i 0).toNat := by
      have h1 : i < S.data.toList.length := by rw [Array.length_toList]; exact hi
      have h2 : i < (tx S).length := by rw [tx_length]; exact hi
      rw [wd_lt h2]
      simp [tx, List.getD, List.getElem?_eq_getElem h1]
    rw [this]
  · refine ⟨?_, ?_, ?_, by rw [Lib.bytesWorld_size]; omega, fun k hk => Lib.bytesWorld_at_old w e S k hk⟩
    all_goals simp [Lib.bytesWorld, World.freeze, World.alloc, World.drew, -World.alloc_eq, -World.drew_eq]
end Go.Proofs.YtllabdmmfohbaaaGreatDoor
namespace Go.Proofs.YtllabdmmfohbaaaGreatDoor
open Go Go.RowKit Limb
section
variable {F : Foot} {h : Hp}
theorem aside_next {w : World} {F F' : Foot} {g : Nat} (n : F.Next F' w) (hl : g < w.heap.size) (hg : g ∉ F.l) : g ∉ F'.l := fun e => by
  rcases n.mem g e with x | x
  · exact hg x
  · omega
set_option maxHeartbeats 1600000 in
set_option maxRecDepth 100000 in
theorem kernel_intern_fn (S : ByteArray) (hS : S.size ≤ 262140) (h0 : 0 < S.size) (a b c : Nat) (X : World) (HX : HeapAt X F h) (ra : Row X a 22 [.pointer (some ⟨F.p, 0, none⟩)]) (rb : Row X b 9 [.string S]) (v0 : Value) (rc : Row X c 30 [v0]) (ha : a ∉ F.l) (hb : b ∉ F.l) (hc : c ∉ F.l) (hc5 : 5 ≤ c) (hac : a ≠ c) (o : Nat) (h1 h2 : Hp) (hp1 : makeP h (wd h.rt 18) (tx S) = some (o, h1)) (hp2 : putL h1 3 o = some h2) :
    Calls Tryz.prog 184 #[.pointer (some ⟨a, 0, none⟩), .pointer (some ⟨b, 0, none⟩), .pointer (some ⟨c, 0, none⟩)] X fun e X' => e = .returned (.int .i64 0) ∧ ∃ F', HeapAt X' F' h2 ∧ F.Next F' X ∧ Only (c :: F.l) X X' ∧ Row X' c 30 [.int .u32 o] := by
  obtain ⟨-, i1⟩ := grow_make HX.good (tx_b8 S) (by rw [tx_length]; exact hS) hp1
  have HMk := Lib.hid (fun Y cap g (hY : Below X.heap.size X Y) (hl : Lay .u8 Y (some ⟨g, 0, none⟩) (tx S)) => show Calls Tryz.prog 185 #[.pointer (some ⟨F.p, 0, none⟩), .int .u32 (wd h.rt 18 : Nat), .slice (some ⟨g, 0, none⟩) S.size cap] Y fun e w' => e = .returned (.tuple #[.int .u32 o, .int .i64 0]) ∧ Moved X F w' h1 from
    (heap_Make (HX.below hY) (wd h.rt 18) _ (tx S) S.size cap o h1 hl (tx_b8 S) (tx_length S).symm h0 hS hp1).mono fun e w' ⟨x, F', y⟩ => ⟨x, F', Step.of_below hY y⟩)
  have HR := Lib.hid (fun V (hB : Below X.heap.size X V) => (kernel_root (HX.below hB) 18 (by decide)).mono (R' := fun e w' => e = .returned (.int .u32 (wd h.rt 18 : Nat)) ∧ Below V.heap.size V w') fun e w' ⟨x, y⟩ => ⟨x, by rw [← y]; exact Below.refl _ _⟩)
  have HCv := Lib.hid (fun V => conv_bytes_out (P := Tryz.prog) V 9 132 5 S Tryz.underlying9 Tryz.underlying132 Tryz.underlying5)
  have HPt := Lib.hid (fun Y F1 (H1 : HeapAt Y F1 h1) => kernel_put H1 3 (by decide) o (isO_lt H1.good (isF_isO i1)) (isO_val (isF_isO i1)) h2 hp2)
  have HXs := Lib.hid HX
  have hB : Below X.heap.size X X.drew := (Below.refl _ _).drew
  have ra0 : Row X.drew a 22 [.pointer (some ⟨F.p, 0, none⟩)] := ra
  have rb0 : Row X.drew b 9 [.string S] := rb
  have RA := Lib.hid ra
  have RB := Lib.hid rb
  have RC := Lib.hid rc
  have HA := Lib.hid (show a ∉ F.l ∧ b ∉ F.l ∧ c ∉ F.l ∧ a ≠ c from ⟨ha, hb, hc, hac⟩)
  clear HX ra rb rc ha hb hc hac hp1 hp2 i1
  go_enter Tryz.func184, Tryz.ntmps184
  go_wp2_with fail
  have hX : Row X.drew a 22 [.pointer (some ⟨F.p, 0, none⟩)] ∧ Row X.drew b 9 [.string S] := ⟨ra0, rb0⟩
  clear ra0 rb0
  refine wp_region_held (S := fun Y => Row Y a 22 [.pointer (some ⟨F.p, 0, none⟩)] ∧ Row Y b 9 [.string S]) (by kernel_rfl) ?_
  refine wpAnyH_take_at (i := 0) (v := .pointer (some ⟨F.p, 0, none⟩)) 7 rfl rfl (by kernel_rfl) (by kernel_rfl) (by kernel_rfl) (fun _ _ _ h => h) (.inl ⟨rfl, fun X hX => by have c0 := hX.1.cell_at 0; simp only [List.getElem?_cons_zero] at c0; go_simp⟩) hX ?_
  simp only [Act.put, List.setIfInBounds_toArray, List.set_cons_zero, List.set_cons_succ]
  refine wpAnyH_take_at (i := 1) (v := .pointer (some ⟨F.p, 0, none⟩)) 8 rfl rfl (by kernel_rfl) (by kernel_rfl) (by kernel_rfl) (fun _ _ _ h => h) (.inl ⟨rfl, fun X hX => by have c0 := hX.1.cell_at 0; simp only [List.getElem?_cons_zero] at c0; go_simp⟩) hX ?_
  simp only [Act.put, List.setIfInBounds_toArray, List.set_cons_zero, List.set_cons_succ]
  refine wpAnyH_take_at (i := 3) (v := .string S) 10 rfl rfl (by kernel_rfl) (by kernel_rfl) (by kernel_rfl) (fun _ _ _ h => h) (.inl ⟨rfl, fun X hX => by have c0 := hX.2.cell_at 0; simp only [List.getElem?_cons_zero] at c0; go_simp⟩) hX ?_
  simp only [Act.put, List.setIfInBounds_toArray, List.set_cons_zero, List.set_cons_succ]
  refine wpAnyH_all (rs := [2, 4]) (by kernel_rfl) (by decide) (fun i hi => ?_)
  simp only [List.mem_cons, List.not_mem_nil, or_false] at hi
  rcases hi with rfl | rfl
  · unfold wpOp
    go_simp
    refine .inl ((HR.out _ hB).mono ?_)
    rintro e X1 ⟨rfl, hb⟩
    replace hX := (⟨hX.1.below hb hX.1.lt, hX.2.below hb hX.2.lt⟩ : _ ∧ _)
    replace hB := hB.trans (hb.mono hB.size)
    (try replace hlc := hlc.below hb)
    clear hb
    refine ⟨hX, ?_⟩
    refine wpAnyH_all (rs := [4]) (by kernel_rfl) (by decide) (fun i hi => ?_)
    rw [List.mem_singleton] at hi
    subst hi
    obtain ⟨cp, X2, hcv, hlc, hbc⟩ := HCv.out (X1)
    generalize hgg : (X1).heap.size = gg at hcv hlc hbc
    unfold wpOp
    go_simp
    clear hcv
    rw [← hgg] at hbc
    replace hX := (⟨hX.1.below hbc hX.1.lt, hX.2.below hbc hX.2.lt⟩ : _ ∧ _)
    replace hB := hB.trans (hbc.mono hB.size)
    clear hbc hgg
    refine .inl ⟨hX, ?_⟩
    refine wpAnyH_all (rs := [5]) (by kernel_rfl) (by decide) (fun i hi => ?_)
    rw [List.mem_singleton] at hi
    subst hi
    unfold wpOp
    go_simp
    refine .inl ((HMk.out _ _ _ hB hlc).mono ?_)
    rintro e X3 ⟨rfl, F1, hMv⟩
    obtain ⟨q1, q2, q3, q4⟩ := HA.out
    replace hX := (⟨RA.out.only hMv.2.2 q1, RB.out.only hMv.2.2 q2⟩ : _ ∧ _)
    refine ⟨hX, ?_⟩
    refine wpAnyH_take_at (i := 6) (v := .tuple #[.int .u32 o, .int .i64 0]) 6 rfl rfl (by kernel_rfl) (by kernel_rfl) (by kernel_rfl) (fun _ _ _ h => h) (.inl ⟨rfl, fun X hX => by go_simp⟩) hX ?_
    simp only [Act.put, List.setIfInBounds_toArray, List.set_cons_zero, List.set_cons_succ]
    refine wpAnyH_take_at (i := 7) (v := .int .u32 o) 13 rfl rfl (by kernel_rfl) (by kernel_rfl) (by kernel_rfl) (fun _ _ _ h => h) (.inl ⟨rfl, fun X hX => by go_simp⟩) hX ?_
    simp only [Act.put, List.setIfInBounds_toArray, List.set_cons_zero, List.set_cons_succ]
    refine wpAnyH_take_at (i := 8) (v := .int .i64 0) 14 rfl rfl (by kernel_rfl) (by kernel_rfl) (by kernel_rfl) (fun _ _ _ h => h) (.inl ⟨rfl, fun X hX => by go_simp⟩) hX ?_
    simp only [Act.put, List.setIfInBounds_toArray, List.set_cons_zero, List.set_cons_succ]
    refine wpAnyH_take_at (i := 9) (v := .int .u32 o) 4 rfl rfl (by kernel_rfl) (by kernel_rfl) (by kernel_rfl) (fun _ _ _ h => h) (.inl ⟨rfl, fun X hX => by go_simp⟩) hX ?_
    simp only [Act.put, List.setIfInBounds_toArray, List.set_cons_zero, List.set_cons_succ]
    refine wpAnyH_take_at (i := 10) (v := .int .i64 0) 5 rfl rfl (by kernel_rfl) (by kernel_rfl) (by kernel_rfl) (fun _ _ _ h => h) (.inl ⟨rfl, fun X hX => by go_simp⟩) hX ?_
    simp only [Act.put, List.setIfInBounds_toArray, List.set_cons_zero, List.set_cons_succ]
    refine wpAnyH_done (by kernel_rfl) ?_ _
    have ra := hX.1
    have c0 := ra.cell_at 0
    simp only [List.getElem?_cons_zero] at c0
    have hcl : c < X.heap.size := RC.out.lt
    have n1 : F.Next F1 X := hMv.2.1
    have on1 : Only F.l X X3 := hMv.2.2
    have rc := RC.out.only on1 q3
    have cc := rc.cell_at 0
    have zc := rc.free 0
    simp only [List.getElem?_cons_zero] at cc
    have ho1 : Only (c :: F.l) X X3 := ⟨on1.os, on1.tape, on1.output, on1.size, fun k hk hn => on1.block k hk (fun e => hn (List.mem_cons_of_mem _ e))⟩
    have hF1 : c ∉ F1.l := aside_next n1 hcl q3
    have HH1 := hMv.1
    obtain ⟨Z, hZ⟩ : ∃ Z, Z = X3.setCell ⟨c, 0, none⟩ (.int .u32 o) := ⟨_, rfl⟩
    have hoZ : Only [c] X3 Z := by rw [hZ]; exact (Only.refl _ _).setCell (by simp) _
    have HZ := Lib.hid hZ
    have H2 : HeapAt Z F1 h1 := HH1.only hoZ (fun g hg e => hF1 (by rw [List.mem_singleton] at e; rw [← e]; exact hg)) (by simp; omega)
    have rcZ : Row Z c 30 [.int .u32 o] := by rw [hZ]; exact rc.store_any 0 _
    have raZ : Row Z a 22 [.pointer (some ⟨F.p, 0, none⟩)] := ra.only hoZ (by simp; exact q4)
    have hoX : Only (c :: F.l) X Z := ho1.trans hoZ (fun q hq => .inl (by rw [List.mem_singleton] at hq; rw [hq]; exact List.mem_cons_self))
    have hF1p : F1.p = F.p := n1.p
    have hPt := HPt.out Z F1 H2
    rw [hF1p] at hPt
    have HP2 := Lib.hid hPt
    have c1 := raZ.cell_at 0
    simp only [List.getElem?_cons_zero] at c1
    clear hX hMv ra rc ho1 on1 HH1 hoZ hPt raZ hZ hF1p hB hlc HMk HR HCv HPt RA RB RC HA q1 q2 q3 q4 H2
    rw [HZ.out] at c1
    go_wp2_with fail
    rw [← HZ.out]
    refine (HP2.out).mono ?_
    rintro e Y2 ⟨rfl, hSt⟩
    (try dsimp only)
    have hfin : ∃ F', HeapAt Y2 F' h2 ∧ F.Next F' X ∧ Only (c :: F.l) X Y2 ∧ Row Y2 c 30 [.int .u32 o] :=
      ⟨F1, hSt.1, n1, hoX.trans hSt.2.2 (fun q hq => (n1.mem q hq).imp (fun e => List.mem_cons_of_mem _ e) id), hSt.beside rcZ hF1⟩
    have HFin := Lib.hid hfin
    clear hSt hfin rcZ hoX n1 hF1
    go_wp2_with fail
    go_ret
    exact ⟨rfl, HFin.out⟩
  · obtain ⟨cp, X4, hcv, hlc, hbc⟩ := HCv.out (X.drew)
    generalize hgg : (X.drew).heap.size = gg at hcv hlc hbc
    unfold wpOp
    go_simp
    clear hcv
    rw [← hgg] at hbc
    replace hX := (⟨hX.1.below hbc hX.1.lt, hX.2.below hbc hX.2.lt⟩ : _ ∧ _)
    replace hB := hB.trans (hbc.mono hB.size)
    clear hbc hgg
    refine .inl ⟨hX, ?_⟩
    refine wpAnyH_all (rs := [2]) (by kernel_rfl) (by decide) (fun i hi => ?_)
    rw [List.mem_singleton] at hi
    subst hi
    unfold wpOp
    go_simp
    refine .inl ((HR.out _ hB).mono ?_)
    rintro e X5 ⟨rfl, hb⟩
    replace hX := (⟨hX.1.below hb hX.1.lt, hX.2.below hb hX.2.lt⟩ : _ ∧ _)
    replace hB := hB.trans (hb.mono hB.size)
    (try replace hlc := hlc.below hb)
    clear hb
    refine ⟨hX, ?_⟩
    refine wpAnyH_all (rs := [5]) (by kernel_rfl) (by decide) (fun i hi => ?_)
    rw [List.mem_singleton] at hi
    subst hi
    unfold wpOp
    go_simp
    refine .inl ((HMk.out _ _ _ hB hlc).mono ?_)
    rintro e X6 ⟨rfl, F1, hMv⟩
    obtain ⟨q1, q2, q3, q4⟩ := HA.out
    replace hX := (⟨RA.out.only hMv.2.2 q1, RB.out.only hMv.2.2 q2⟩ : _ ∧ _)
    refine ⟨hX, ?_⟩
    refine wpAnyH_take_at (i := 6) (v := .tuple #[.int .u32 o, .int .i64 0]) 6 rfl rfl (by kernel_rfl) (by kernel_rfl) (by kernel_rfl) (fun _ _ _ h => h) (.inl ⟨rfl, fun X hX => by go_simp⟩) hX ?_
    simp only [Act.put, List.setIfInBounds_toArray, List.set_cons_zero, List.set_cons_succ]
    refine wpAnyH_take_at (i := 7) (v := .int .u32 o) 13 rfl rfl (by kernel_rfl) (by kernel_rfl) (by kernel_rfl) (fun _ _ _ h => h) (.inl ⟨rfl, fun X hX => by go_simp⟩) hX ?_
    simp only [Act.put, List.setIfInBounds_toArray, List.set_cons_zero, List.set_cons_succ]
    refine wpAnyH_take_at (i := 8) (v := .int .i64 0) 14 rfl rfl (by kernel_rfl) (by kernel_rfl) (by kernel_rfl) (fun _ _ _ h => h) (.inl ⟨rfl, fun X hX => by go_simp⟩) hX ?_
    simp only [Act.put, List.setIfInBounds_toArray, List.set_cons_zero, List.set_cons_succ]
    refine wpAnyH_take_at (i := 9) (v := .int .u32 o) 4 rfl rfl (by kernel_rfl) (by kernel_rfl) (by kernel_rfl) (fun _ _ _ h => h) (.inl ⟨rfl, fun X hX => by go_simp⟩) hX ?_
    simp only [Act.put, List.setIfInBounds_toArray, List.set_cons_zero, List.set_cons_succ]
    refine wpAnyH_take_at (i := 10) (v := .int .i64 0) 5 rfl rfl (by kernel_rfl) (by kernel_rfl) (by kernel_rfl) (fun _ _ _ h => h) (.inl ⟨rfl, fun X hX => by go_simp⟩) hX ?_
    simp only [Act.put, List.setIfInBounds_toArray, List.set_cons_zero, List.set_cons_succ]
    refine wpAnyH_done (by kernel_rfl) ?_ _
    have ra := hX.1
    have c0 := ra.cell_at 0
    simp only [List.getElem?_cons_zero] at c0
    have hcl : c < X.heap.size := RC.out.lt
    have n1 : F.Next F1 X := hMv.2.1
    have on1 : Only F.l X X6 := hMv.2.2
    have rc := RC.out.only on1 q3
    have cc := rc.cell_at 0
    have zc := rc.free 0
    simp only [List.getElem?_cons_zero] at cc
    have ho1 : Only (c :: F.l) X X6 := ⟨on1.os, on1.tape, on1.output, on1.size, fun k hk hn => on1.block k hk (fun e => hn (List.mem_cons_of_mem _ e))⟩
    have hF1 : c ∉ F1.l := aside_next n1 hcl q3
    have HH1 := hMv.1
    obtain ⟨Z, hZ⟩ : ∃ Z, Z = X6.setCell ⟨c, 0, none⟩ (.int .u32 o) := ⟨_, rfl⟩
    have hoZ : Only [c] X6 Z := by rw [hZ]; exact (Only.refl _ _).setCell (by simp) _
    have HZ := Lib.hid hZ
    have H2 : HeapAt Z F1 h1 := HH1.only hoZ (fun g hg e => hF1 (by rw [List.mem_singleton] at e; rw [← e]; exact hg)) (by simp; omega)
    have rcZ : Row Z c 30 [.int .u32 o] := by rw [hZ]; exact rc.store_any 0 _
    have raZ : Row Z a 22 [.pointer (some ⟨F.p, 0, none⟩)] := ra.only hoZ (by simp; exact q4)
    have hoX : Only (c :: F.l) X Z := ho1.trans hoZ (fun q hq => .inl (by rw [List.mem_singleton] at hq; rw [hq]; exact List.mem_cons_self))
    have hF1p : F1.p = F.p := n1.p
    have hPt := HPt.out Z F1 H2
    rw [hF1p] at hPt
    have HP2 := Lib.hid hPt
    have c1 := raZ.cell_at 0
    simp only [List.getElem?_cons_zero] at c1
    clear hX hMv ra rc ho1 on1 HH1 hoZ hPt raZ hZ hF1p hB hlc HMk HR HCv HPt RA RB RC HA q1 q2 q3 q4 H2
    rw [HZ.out] at c1
    go_wp2_with fail
    rw [← HZ.out]
    refine (HP2.out).mono ?_
    rintro e Y2 ⟨rfl, hSt⟩
    (try dsimp only)
    have hfin : ∃ F', HeapAt Y2 F' h2 ∧ F.Next F' X ∧ Only (c :: F.l) X Y2 ∧ Row Y2 c 30 [.int .u32 o] :=
      ⟨F1, hSt.1, n1, hoX.trans hSt.2.2 (fun q hq => (n1.mem q hq).imp (fun e => List.mem_cons_of_mem _ e) id), hSt.beside rcZ hF1⟩
    have HFin := Lib.hid hfin
    clear hSt hfin rcZ hoX n1 hF1
    go_wp2_with fail
    go_ret
    exact ⟨rfl, HFin.out⟩
end
end Go.Proofs.YtllabdmmfohbaaaGreatDoor
