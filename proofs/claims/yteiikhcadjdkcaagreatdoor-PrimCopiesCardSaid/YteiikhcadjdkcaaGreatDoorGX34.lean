/- kernel.String, and what is made of a primitive's answer. Primitives over Strings: copied, part, joined. The walk of the function that package kernel's Intern hands to undo. Steps of a heap, joined; Put where it may. -/
import Derived.Test.YteiikhcadjdkcaaGreatDoorGX29
import Derived.Test.YteiikhcadjdkcaaGreatDoorGX21
import Derived.Test.YteiikhcadjdkcaaGreatDoorGX33
import Derived.Test.YteiikhcadjdkcaaGreatDoorGX26
import Derived.Test.YteiikhcadjdkcaaGreatDoorGX07
import Derived.Test.YteiikhcadjdkcaaGreatDoorGX12
set_option linter.unusedVariables false
set_option linter.unusedSimpArgs false
namespace Go.Proofs.YteiikhcadjdkcaaGreatDoor
open Go Go.RowKit Limb
section
variable {w : World} {F : Foot} {h : Hp}
set_option maxHeartbeats 1600000 in
set_option maxRecDepth 100000 in
theorem kernel_string (H : HeapAt w F h) (S : SC h) (T : ByteArray) (hT : T.size ≤ 262140) (o : Nat) (h' : Hp) (hp : makeP h (wd h.rt 19) (tx T) = some (o, h')) :
    Calls Tryz.prog 7 #[.pointer (some ⟨F.p, 0, none⟩), .string T] w fun e w' => e = .returned (.tuple #[.int .u32 o, .int .i64 0]) ∧ Moved w F w' h' := by
  have HBa := Lib.hid (kernel_bare H (live_of S.live))
  obtain ⟨cv, hcv⟩ : ∃ cv, cv = wd h.rt 19 := ⟨_, rfl⟩
  have HRt := Lib.hid (fun X (hb : Below w.heap.size w X) => show Calls Tryz.prog 16 #[.pointer (some ⟨F.p, 0, none⟩), .int .i64 19] X fun e w' => e = .returned (.int .u32 (cv : Nat)) ∧ X = w' from by rw [hcv]; exact kernel_root (H.below hb) 19 (by decide))
  have HMk := Lib.hid (fun X g cap (hb : Below w.heap.size w X) (hl : Lay .u8 X (some ⟨g, 0, none⟩) (tx T)) => show Calls Tryz.prog 22 #[.pointer (some ⟨F.p, 0, none⟩), .int .u32 (cv : Nat), .slice (some ⟨g, 0, none⟩) T.size cap] X fun e w' => e = .returned (.tuple #[.int .u32 o, .int .i64 0]) ∧ Moved w F w' h' from by
    rw [hcv]
    exact (heap_MakeE (H.below hb) (wd h.rt 19) _ (tx T) T.size cap o h' hl (tx_b8 T) (tx_length T).symm hT hp).mono fun e w' ⟨x, F', y⟩ => ⟨x, F', Step.of_below hb y⟩)
  clear H S hT hp hcv
  go_enter Tryz.func7, Tryz.ntmps7
  go_wp2_with fail
  refine (HBa.out).mono ?_
  rintro e V ⟨rfl, hb⟩
  (try dsimp only)
  obtain ⟨cp, V2, hcv, hl, hb2⟩ := conv_bytes_out (P := Tryz.prog) V 9 22 5 T Tryz.underlying9 Tryz.underlying22 Tryz.underlying5
  have HB := Lib.hid hb
  have HMk2 := Lib.hid (HMk.out V2 V.heap.size cp (hb.trans (hb2.mono hb.size)) hl)
  clear HBa HMk hl hb2 hb
  go_wp2_with fail
  refine (HRt.out _ HB.out).mono ?_
  rintro e V3 ⟨rfl, rfl⟩
  (try dsimp only)
  go_wp2_with fail
  refine HMk2.out.mono ?_
  rintro e V4 ⟨rfl, hM⟩
  (try dsimp only)
  have HM := Lib.hid hM
  clear hM HMk2
  go_wp2_with fail
  go_ret2
  exact ⟨rfl, HM.out⟩
end
end Go.Proofs.YteiikhcadjdkcaaGreatDoor
namespace Go.Proofs.YteiikhcadjdkcaaGreatDoor
open Go Go.RowKit Limb
def Done (w : World) (F : Foot) (p r : Nat) (a : Option Addr) (n c : Nat) (w' : World) (s : Nat) (h' : Hp) : Prop :=
  ∃ F', HeapAt w' F' h' ∧ F.Next F' w ∧ Only (p :: F.l) w w' ∧ Row w' p 57 (callC F.p r a n c s)
section
variable {w : World} {F : Foot} {h : Hp}
theorem next_not {F F' : Foot} {w : World} (hn : F.Next F' w) {p : Nat} (hp : p ∉ F.l) (hl : p < w.heap.size) : p ∉ F'.l := fun hm => by
  rcases hn.mem p hm with e | e
  · exact hp e
  · omega
theorem done_of {W1 W2 : World} {F' : Foot} {p r : Nat} {a : Option Addr} {n c s : Nat} {h' : Hp} (hb : Below w.heap.size w W1) (hFw : ∀ g ∈ F.l, g < w.heap.size) (hlt : p < w.heap.size) (hp : p ∉ F.l) (h5 : 5 ≤ p) {W1' : World} (st : Step W1 F W1' F' h')
    (ro : Row W2 p 57 (callC F.p r a n c s)) (oo : Only [p] W1' W2) : Done w F p r a n c W2 s h' := by
  have st2 := Step.of_below hb st
  refine ⟨F', st2.1.only oo (fun g hg hm => ?_) (by simp; omega), st2.2.1, ?_, ro⟩
  · rw [List.mem_singleton] at hm
    exact next_not st2.2.1 hp hlt (hm ▸ hg)
  · exact (st2.2.2.mono (fun q hq => List.mem_cons_of_mem _ hq)).trans oo (fun q hq => .inl (by rw [List.mem_singleton.1 hq]; exact List.mem_cons_self ..))
set_option maxHeartbeats 3200000 in
set_option maxRecDepth 100000 in
theorem prim_copied (H : HeapAt w F h) (S : SC h) {p r : Nat} {a : Option Addr} {n c v : Nat} (R : Row w p 57 (callC F.p r a n c v)) (hpF : p ∉ F.l) (h5 : 5 ≤ p) {t : List Nat} (b : Bs h r (wd h.rt 19) t) (hl : t.length ≤ 262140) {o : Nat} {h' : Hp} (hp : makeP h (wd h.rt 19) t = some (o, h')) :
    Calls Tryz.prog 121 #[.pointer (some ⟨p, 0, none⟩)] w fun e w' => e = .returned (.int .i64 1) ∧ Done w F p r a n c w' o h' := by
  have hr := isO_iff.1 b.is
  have hrl := isO_lt H.good b.is
  have HK := Lib.hid (show Calls Tryz.prog 23 #[.int .u32 r] w fun e w' => e = .returned (.int .i64 2) ∧ w = w' from by
    have := oop_kind w r hrl
    rwa [kind_two.2 ⟨hr.1, hr.2.1⟩] at this)
  obtain ⟨x0, x1, x2, x3, x4, hx⟩ : ∃ x0 x1 x2 x3 x4, hdO h r = ⟨x0, x1, x2, x3, x4⟩ := ⟨_, _, _, _, _, rfl⟩
  have hcl := b.cls
  rw [hx] at hcl
  replace hcl : x3 = wd h.rt 19 := hcl
  have HSy := Lib.hid (fun X (hb : Below w.heap.size w X) => prim_isSymbol_no (H.below hb) (R.below hb R.lt) b S.d18)
  have HHd := Lib.hid (fun X (hb : Below w.heap.size w X) => prim_header (H.below hb) (R.below hb R.lt) b.is hx)
  have HCl := Lib.hid (fun X (hb : Below w.heap.size w X) => prim_isClass_no (H.below hb) S (R.below hb R.lt) b)
  have HBy := Lib.hid (fun X (hb : Below w.heap.size w X) => prim_bytes (H.below hb) (R.below hb R.lt) b)
  have HMk := Lib.hid (fun X g cap (hb : Below w.heap.size w X) (hly : Lay .u8 X (some ⟨g, 0, none⟩) t) => show Calls Tryz.prog 22 #[.pointer (some ⟨F.p, 0, none⟩), .int .u32 (x3 : Nat), .slice (some ⟨g, 0, none⟩) t.length cap] X fun e w' => e = .returned (.tuple #[.int .u32 o, .int .i64 0]) ∧ Moved X F w' h' from by
    rw [hcl]; exact heap_MakeE (H.below hb) (wd h.rt 19) _ t t.length cap o h' hly b.b8 rfl hl hp)
  have HFw := Lib.hid H.lt
  have HR := Lib.hid R
  have HpF := Lib.hid (And.intro hpF h5)
  have q1 := R.cell_at 1
  have q2 := R.cell_at 2
  unfold callC at q1 q2
  simp only [List.getElem?_cons_zero, List.getElem?_cons_succ] at q1 q2
  generalize t.length = tl at *
  clear H S R hpF h5 b hl hp hr hrl hx hcl
  go_enter Tryz.func121, Tryz.ntmps121
  go_wp2_with fail
  refine (HK.out).mono ?_
  rintro e V ⟨rfl, rfl⟩
  (try dsimp only)
  go_wp2_with fail
  refine (HSy.out _ (Below.refl _ _)).mono ?_
  rintro e V1 ⟨rfl, hb⟩
  (try dsimp only)
  have HB1 := Lib.hid hb
  have q1' := (HR.out.below hb HR.out.lt).cell_at 1
  have q2' := (HR.out.below hb HR.out.lt).cell_at 2
  unfold callC at q1' q2'
  simp only [List.getElem?_cons_zero, List.getElem?_cons_succ] at q1' q2'
  clear hb HK HSy q1 q2
  go_wp2_with fail
  refine (HHd.out _ HB1.out).mono ?_
  rintro e V2 ⟨rfl, hb⟩
  (try dsimp only)
  obtain ⟨V3, hV3, r3, hb3, hz3⟩ := alloc_row V2 102 [.int .i64 x0, .int .i64 x1, .int .i64 x2, .int .u32 x3, .int .u32 x4]
  have HV3 := Lib.hid hV3
  have HB3 := Lib.hid (HB1.out.trans ((hb.trans (hb3.mono hb.size)).mono HB1.out.size))
  have Hgw := Lib.hid (show w.heap.size ≤ V2.heap.size from Nat.le_trans HB1.out.size hb.size)
  obtain ⟨g, hg⟩ : ∃ g, g = V2.heap.size := ⟨_, rfl⟩
  rw [← hg] at r3 Hgw
  have Hg := Lib.hid hg
  have R3 := Lib.hid r3
  clear q1' q2' hb hV3 hb3 hz3 hg r3 HHd HB1
  go_upto_region 4 with fail
  rw [← HV3.out, ← Hg.out]
  have q2 := (HR.out.below HB3.out HR.out.lt).cell_at 2
  unfold callC at q2
  simp only [List.getElem?_cons_zero, List.getElem?_cons_succ] at q2
  go_wp2_with fail
  refine (HCl.out _ HB3.out).mono ?_
  rintro e V4 ⟨rfl, hb⟩
  (try dsimp only)
  have HB4 := Lib.hid (HB3.out.trans (hb.mono HB3.out.size))
  have R4 := Lib.hid (R3.out.below hb R3.out.lt)
  clear hb q2 HCl R3 HB3 HV3 Hg
  have q2 := (HR.out.below HB4.out HR.out.lt).cell_at 2
  unfold callC at q2
  simp only [List.getElem?_cons_zero, List.getElem?_cons_succ] at q2
  go_wp2_with fail
  refine (HBy.out _ HB4.out).mono ?_
  rintro e V5 ⟨⟨gb, rfl, -, hly⟩, hb⟩
  (try dsimp only)
  have HB5 := Lib.hid (HB4.out.trans (hb.mono HB4.out.size))
  have R5 := Lib.hid (R4.out.below hb R4.out.lt)
  have HLy := Lib.hid hly
  clear hb q2 HBy R4 HB4 hly
  have SX := Lib.hid (fun X (hb : Below V5.heap.size V5 X) => show X.cell? ⟨p, 1, none⟩ = some (.pointer (some ⟨F.p, 0, none⟩)) ∧ X.cell? ⟨g, 3, none⟩ = some (.int .u32 x3) from
    ⟨((HR.out.below HB5.out HR.out.lt).below hb (Nat.lt_of_lt_of_le HR.out.lt HB5.out.size)).cell_at 1, (R5.out.below hb R5.out.lt).cell_at 3⟩)
  have hX := SX.out _ (Below.refl _ _).drew
  go_wp2_with fail
  refine wp_region_held (S := fun X => X.cell? ⟨p, 1, none⟩ = some (.pointer (some ⟨F.p, 0, none⟩)) ∧ X.cell? ⟨g, 3, none⟩ = some (.int .u32 x3)) (by kernel_rfl) ?_
  refine wpAnyH_take_at (i := 0) (v := .pointer (some ⟨p, 0, none⟩)) 63 rfl rfl (by kernel_rfl) (by kernel_rfl) (by kernel_rfl) (fun _ _ _ h => h) (.inl ⟨rfl, fun X hX => by go_simp⟩) hX ?_
  simp only [Act.put, List.setIfInBounds_toArray, List.set_cons_zero, List.set_cons_succ]
  refine wpAnyH_take_at (i := 1) (v := .pointer (some ⟨p, 0, none⟩)) 64 rfl rfl (by kernel_rfl) (by kernel_rfl) (by kernel_rfl) (fun _ _ _ h => h) (.inl ⟨rfl, fun X hX => by go_simp⟩) hX ?_
  simp only [Act.put, List.setIfInBounds_toArray, List.set_cons_zero, List.set_cons_succ]
  refine wpAnyH_take_at (i := 2) (v := .pointer (some ⟨p, 0, none⟩)) 65 rfl rfl (by kernel_rfl) (by kernel_rfl) (by kernel_rfl) (fun _ _ _ h => h) (.inl ⟨rfl, fun X hX => by go_simp⟩) hX ?_
  simp only [Act.put, List.setIfInBounds_toArray, List.set_cons_zero, List.set_cons_succ]
  refine wpAnyH_take_at (i := 3) (v := .pointer (some ⟨p, 1, none⟩)) 66 rfl rfl (by kernel_rfl) (by kernel_rfl) (by kernel_rfl) (fun _ _ _ h => h) (.inl ⟨rfl, fun X hX => by go_simp⟩) hX ?_
  simp only [Act.put, List.setIfInBounds_toArray, List.set_cons_zero, List.set_cons_succ]
  refine wpAnyH_take_at (i := 4) (v := .pointer (some ⟨F.p, 0, none⟩)) 67 rfl rfl (by kernel_rfl) (by kernel_rfl) (by kernel_rfl) (fun _ _ _ h => h) (.inl ⟨rfl, fun X hX => by obtain ⟨q0, q3⟩ := hX; go_simp⟩) hX ?_
  simp only [Act.put, List.setIfInBounds_toArray, List.set_cons_zero, List.set_cons_succ]
  refine wpAnyH_take_at (i := 5) (v := .pointer (some ⟨g, 3, none⟩)) 68 rfl rfl (by kernel_rfl) (by kernel_rfl) (by kernel_rfl) (fun _ _ _ h => h) (.inl ⟨rfl, fun X hX => by go_simp⟩) hX ?_
  simp only [Act.put, List.setIfInBounds_toArray, List.set_cons_zero, List.set_cons_succ]
  refine wpAnyH_take_at (i := 6) (v := .int .u32 x3) 69 rfl rfl (by kernel_rfl) (by kernel_rfl) (by kernel_rfl) (fun _ _ _ h => h) (.inl ⟨rfl, fun X hX => by obtain ⟨q0, q3⟩ := hX; go_simp⟩) hX ?_
  simp only [Act.put, List.setIfInBounds_toArray, List.set_cons_zero, List.set_cons_succ]
  refine wpAnyH_take_at (i := 7) (v := .slice (some ⟨gb, 0, none⟩) tl tl) 70 rfl rfl (by kernel_rfl) (by kernel_rfl) (by kernel_rfl) (fun _ _ _ h => h) (.inl ⟨rfl, fun X hX => by go_simp⟩) hX ?_
  simp only [Act.put, List.setIfInBounds_toArray, List.set_cons_zero, List.set_cons_succ]
  refine wpAnyH_all (rs := [8]) (by kernel_rfl) (by decide) (fun i hi => ?_)
  rw [List.mem_singleton] at hi
  subst hi
  unfold wpOp
  go_simp
  refine .inl ((HMk.out _ gb tl HB5.out.drew (HLy.out.below (Below.refl _ _).drew)).mono ?_)
  rintro e X1 ⟨rfl, F1, hst⟩
  have hFg : g ∉ F.l := fun hm => by have := HFw.out g hm; have := Hgw.out; omega
  have rp := hst.beside ((HR.out.below HB5.out.drew HR.out.lt)) HpF.out.1
  have rg := hst.beside (R5.out.below (Below.refl _ _).drew R5.out.lt) hFg
  have HSt := Lib.hid hst
  have RP := Lib.hid rp
  have RG := Lib.hid rg
  replace hX : X1.cell? ⟨p, 1, none⟩ = some (.pointer (some ⟨F.p, 0, none⟩)) ∧ X1.cell? ⟨g, 3, none⟩ = some (.int .u32 x3) := ⟨rp.cell_at 1, rg.cell_at 3⟩
  clear hst rp rg
  refine ⟨hX, ?_⟩
  (try simp only [Act.put, List.setIfInBounds_toArray, List.set_cons_zero, List.set_cons_succ])
  refine wpAnyH_take_at (i := 9) (v := .int .u32 o) 72 rfl rfl (by kernel_rfl) (by kernel_rfl) (by kernel_rfl) (fun _ _ _ h => h) (.inl ⟨rfl, fun X hX => by go_simp⟩) hX ?_
  simp only [Act.put, List.setIfInBounds_toArray, List.set_cons_zero, List.set_cons_succ]
  refine wpAnyH_take_at (i := 10) (v := .int .i64 0) 73 rfl rfl (by kernel_rfl) (by kernel_rfl) (by kernel_rfl) (fun _ _ _ h => h) (.inl ⟨rfl, fun X hX => by go_simp⟩) hX ?_
  simp only [Act.put, List.setIfInBounds_toArray, List.set_cons_zero, List.set_cons_succ]
  refine wpAnyH_all (rs := [11]) (by kernel_rfl) (by decide) (fun i hi => ?_)
  rw [List.mem_singleton] at hi
  subst hi
  unfold wpOp
  go_simp
  refine .inl ((prim_made_ok RP.out o).mono ?_)
  rintro e X2 ⟨rfl, ro, oo⟩
  have HDn := Lib.hid (done_of (W1' := X1) HB5.out.drew HFw.out HR.out.lt HpF.out.1 HpF.out.2 HSt.out ro oo)
  replace hX : X2.cell? ⟨p, 1, none⟩ = some (.pointer (some ⟨F.p, 0, none⟩)) ∧ X2.cell? ⟨g, 3, none⟩ = some (.int .u32 x3) := ⟨ro.cell_at 1, (RG.out.only oo (fun hm => by rw [List.mem_singleton] at hm; have := Hgw.out; have := HR.out.lt; omega)).cell_at 3⟩
  clear ro oo
  refine ⟨hX, ?_⟩
  (try simp only [Act.put, List.setIfInBounds_toArray, List.set_cons_zero, List.set_cons_succ])
  refine wpAnyH_take_at (i := 12) (v := .int .i64 1) 2 rfl rfl (by kernel_rfl) (by kernel_rfl) (by kernel_rfl) (fun _ _ _ h => h) (.inl ⟨rfl, fun X hX => by go_simp⟩) hX ?_
  simp only [Act.put, List.setIfInBounds_toArray, List.set_cons_zero, List.set_cons_succ]
  refine wpAnyH_done (by kernel_rfl) ?_ _
  clear hX SX HMk RP RG HSt R5 HLy
  go_wp2_with fail
  go_ret
  exact ⟨rfl, HDn.out⟩
end
end Go.Proofs.YteiikhcadjdkcaaGreatDoor
namespace Go.Proofs.YteiikhcadjdkcaaGreatDoor
open Go Go.RowKit Limb
section
variable {F : Foot} {h : Hp}
theorem aside_next {w : World} {F F' : Foot} {g : Nat} (n : F.Next F' w) (hl : g < w.heap.size) (hg : g ∉ F.l) : g ∉ F'.l := fun e => by
  rcases n.mem g e with x | x
  · exact hg x
  · omega
set_option maxHeartbeats 1600000 in
set_option maxRecDepth 100000 in
theorem kernel_intern_fn (S : ByteArray) (hS : S.size ≤ 262140) (h0 : 0 < S.size) (a b c : Nat) (X : World) (HX : HeapAt X F h) (ra : Row X a 23 [.pointer (some ⟨F.p, 0, none⟩)]) (rb : Row X b 9 [.string S]) (v0 : Value) (rc : Row X c 30 [v0]) (ha : a ∉ F.l) (hb : b ∉ F.l) (hc : c ∉ F.l) (hc5 : 5 ≤ c) (hac : a ≠ c) (o : Nat) (h1 h2 : Hp) (hp1 : makeP h (wd h.rt 18) (tx S) = some (o, h1)) (hp2 : putL h1 3 o = some h2) :
    Calls Tryz.prog 186 #[.pointer (some ⟨a, 0, none⟩), .pointer (some ⟨b, 0, none⟩), .pointer (some ⟨c, 0, none⟩)] X fun e X' => e = .returned (.int .i64 0) ∧ ∃ F', HeapAt X' F' h2 ∧ F.Next F' X ∧ Only (c :: F.l) X X' ∧ Row X' c 30 [.int .u32 o] := by
  obtain ⟨-, i1⟩ := grow_make HX.good (tx_b8 S) (by rw [tx_length]; exact hS) hp1
  have HMk := Lib.hid (fun Y cap g (hY : Below X.heap.size X Y) (hl : Lay .u8 Y (some ⟨g, 0, none⟩) (tx S)) => show Calls Tryz.prog 22 #[.pointer (some ⟨F.p, 0, none⟩), .int .u32 (wd h.rt 18 : Nat), .slice (some ⟨g, 0, none⟩) S.size cap] Y fun e w' => e = .returned (.tuple #[.int .u32 o, .int .i64 0]) ∧ Moved X F w' h1 from
    (heap_Make (HX.below hY) (wd h.rt 18) _ (tx S) S.size cap o h1 hl (tx_b8 S) (tx_length S).symm h0 hS hp1).mono fun e w' ⟨x, F', y⟩ => ⟨x, F', Step.of_below hY y⟩)
  have HR := Lib.hid (fun V (hB : Below X.heap.size X V) => (kernel_root (HX.below hB) 18 (by decide)).mono (R' := fun e w' => e = .returned (.int .u32 (wd h.rt 18 : Nat)) ∧ Below V.heap.size V w') fun e w' ⟨x, y⟩ => ⟨x, by rw [← y]; exact Below.refl _ _⟩)
  have HCv := Lib.hid (fun V => conv_bytes_out (P := Tryz.prog) V 9 22 5 S Tryz.underlying9 Tryz.underlying22 Tryz.underlying5)
  have HPt := Lib.hid (fun Y F1 (H1 : HeapAt Y F1 h1) => kernel_put H1 3 (by decide) o (isO_lt H1.good (isF_isO i1)) (isO_val (isF_isO i1)) h2 hp2)
  have HXs := Lib.hid HX
  have hB : Below X.heap.size X X.drew := (Below.refl _ _).drew
  have ra0 : Row X.drew a 23 [.pointer (some ⟨F.p, 0, none⟩)] := ra
  have rb0 : Row X.drew b 9 [.string S] := rb
  have RA := Lib.hid ra
  have RB := Lib.hid rb
  have RC := Lib.hid rc
  have HA := Lib.hid (show a ∉ F.l ∧ b ∉ F.l ∧ c ∉ F.l ∧ a ≠ c from ⟨ha, hb, hc, hac⟩)
  clear HX ra rb rc ha hb hc hac hp1 hp2 i1
  go_enter Tryz.func186, Tryz.ntmps186
  go_wp2_with fail
  have hX : Row X.drew a 23 [.pointer (some ⟨F.p, 0, none⟩)] ∧ Row X.drew b 9 [.string S] := ⟨ra0, rb0⟩
  clear ra0 rb0
  refine wp_region_held (S := fun Y => Row Y a 23 [.pointer (some ⟨F.p, 0, none⟩)] ∧ Row Y b 9 [.string S]) (by kernel_rfl) ?_
  refine wpAnyH_take_at (i := 0) (v := .pointer (some ⟨F.p, 0, none⟩)) 7 rfl rfl (by kernel_rfl) (by kernel_rfl) (by kernel_rfl) (fun _ _ _ h => h) (.inl ⟨rfl, fun X hX => by have c0 := hX.1.cell_at 0; simp only [List.getElem?_cons_zero] at c0; go_simp⟩) hX ?_
  simp only [Act.put, List.setIfInBounds_toArray, List.set_cons_zero, List.set_cons_succ]
  refine wpAnyH_take_at (i := 1) (v := .pointer (some ⟨F.p, 0, none⟩)) 8 rfl rfl (by kernel_rfl) (by kernel_rfl) (by kernel_rfl) (fun _ _ _ h => h) (.inl ⟨rfl, fun X hX => by have c0 := hX.1.cell_at 0; simp only [List.getElem?_cons_zero] at c0; go_simp⟩) hX ?_
  simp only [Act.put, List.setIfInBounds_toArray, List.set_cons_zero, List.set_cons_succ]
  refine wpAnyH_take_at (i := 3) (v := .string S) 10 rfl rfl (by kernel_rfl) (by kernel_rfl) (by kernel_rfl) (fun _ _ _ h => h) (.inl ⟨rfl, fun X hX => by have c0 := hX.2.cell_at 0; simp only [List.getElem?_cons_zero] at c0; go_simp⟩) hX ?_
  simp only [Act.put, List.setIfInBounds_toArray, List.set_cons_zero, List.set_cons_succ]
  refine wpAnyH_all (rs := [2, 4]) (by kernel_rfl) (by decide) (fun i hi => ?_)
  simp only [List.mem_cons, List.not_mem_nil, or_false] at hi
  rcases hi with rfl | rfl
  · unfold wpOp
    go_simp
    refine .inl ((HR.out _ hB).mono ?_)
    rintro e X1 ⟨rfl, hb⟩
    replace hX := (⟨hX.1.below hb hX.1.lt, hX.2.below hb hX.2.lt⟩ : _ ∧ _)
    replace hB := hB.trans (hb.mono hB.size)
    (try replace hlc := hlc.below hb)
    clear hb
    refine ⟨hX, ?_⟩
    refine wpAnyH_all (rs := [4]) (by kernel_rfl) (by decide) (fun i hi => ?_)
    rw [List.mem_singleton] at hi
    subst hi
    obtain ⟨cp, X2, hcv, hlc, hbc⟩ := HCv.out (X1)
    generalize hgg : (X1).heap.size = gg at hcv hlc hbc
    unfold wpOp
    go_simp
    clear hcv
    rw [← hgg] at hbc
    replace hX := (⟨hX.1.below hbc hX.1.lt, hX.2.below hbc hX.2.lt⟩ : _ ∧ _)
    replace hB := hB.trans (hbc.mono hB.size)
    clear hbc hgg
    refine .inl ⟨hX, ?_⟩
    refine wpAnyH_all (rs := [5]) (by kernel_rfl) (by decide) (fun i hi => ?_)
    rw [List.mem_singleton] at hi
    subst hi
    unfold wpOp
    go_simp
    refine .inl ((HMk.out _ _ _ hB hlc).mono ?_)
    rintro e X3 ⟨rfl, F1, hMv⟩
    obtain ⟨q1, q2, q3, q4⟩ := HA.out
    replace hX := (⟨RA.out.only hMv.2.2 q1, RB.out.only hMv.2.2 q2⟩ : _ ∧ _)
    refine ⟨hX, ?_⟩
    refine wpAnyH_take_at (i := 6) (v := .tuple #[.int .u32 o, .int .i64 0]) 6 rfl rfl (by kernel_rfl) (by kernel_rfl) (by kernel_rfl) (fun _ _ _ h => h) (.inl ⟨rfl, fun X hX => by go_simp⟩) hX ?_
    simp only [Act.put, List.setIfInBounds_toArray, List.set_cons_zero, List.set_cons_succ]
    refine wpAnyH_take_at (i := 7) (v := .int .u32 o) 13 rfl rfl (by kernel_rfl) (by kernel_rfl) (by kernel_rfl) (fun _ _ _ h => h) (.inl ⟨rfl, fun X hX => by go_simp⟩) hX ?_
    simp only [Act.put, List.setIfInBounds_toArray, List.set_cons_zero, List.set_cons_succ]
    refine wpAnyH_take_at (i := 8) (v := .int .i64 0) 14 rfl rfl (by kernel_rfl) (by kernel_rfl) (by kernel_rfl) (fun _ _ _ h => h) (.inl ⟨rfl, fun X hX => by go_simp⟩) hX ?_
    simp only [Act.put, List.setIfInBounds_toArray, List.set_cons_zero, List.set_cons_succ]
    refine wpAnyH_take_at (i := 9) (v := .int .u32 o) 4 rfl rfl (by kernel_rfl) (by kernel_rfl) (by kernel_rfl) (fun _ _ _ h => h) (.inl ⟨rfl, fun X hX => by go_simp⟩) hX ?_
    simp only [Act.put, List.setIfInBounds_toArray, List.set_cons_zero, List.set_cons_succ]
    refine wpAnyH_take_at (i := 10) (v := .int .i64 0) 5 rfl rfl (by kernel_rfl) (by kernel_rfl) (by kernel_rfl) (fun _ _ _ h => h) (.inl ⟨rfl, fun X hX => by go_simp⟩) hX ?_
    simp only [Act.put, List.setIfInBounds_toArray, List.set_cons_zero, List.set_cons_succ]
    refine wpAnyH_done (by kernel_rfl) ?_ _
    have ra := hX.1
    have c0 := ra.cell_at 0
    simp only [List.getElem?_cons_zero] at c0
    have hcl : c < X.heap.size := RC.out.lt
    have n1 : F.Next F1 X := hMv.2.1
    have on1 : Only F.l X X3 := hMv.2.2
    have rc := RC.out.only on1 q3
    have cc := rc.cell_at 0
    have zc := rc.free 0
    simp only [List.getElem?_cons_zero] at cc
    have ho1 : Only (c :: F.l) X X3 := ⟨on1.os, on1.tape, on1.output, on1.size, fun k hk hn => on1.block k hk (fun e => hn (List.mem_cons_of_mem _ e))⟩
    have hF1 : c ∉ F1.l := aside_next n1 hcl q3
    have HH1 := hMv.1
    obtain ⟨Z, hZ⟩ : ∃ Z, Z = X3.setCell ⟨c, 0, none⟩ (.int .u32 o) := ⟨_, rfl⟩
    have hoZ : Only [c] X3 Z := by rw [hZ]; exact (Only.refl _ _).setCell (by simp) _
    have HZ := Lib.hid hZ
    have H2 : HeapAt Z F1 h1 := HH1.only hoZ (fun g hg e => hF1 (by rw [List.mem_singleton] at e; rw [← e]; exact hg)) (by simp; omega)
    have rcZ : Row Z c 30 [.int .u32 o] := by rw [hZ]; exact rc.store_any 0 _
    have raZ : Row Z a 23 [.pointer (some ⟨F.p, 0, none⟩)] := ra.only hoZ (by simp; exact q4)
    have hoX : Only (c :: F.l) X Z := ho1.trans hoZ (fun q hq => .inl (by rw [List.mem_singleton] at hq; rw [hq]; exact List.mem_cons_self))
    have hF1p : F1.p = F.p := n1.p
    have hPt := HPt.out Z F1 H2
    rw [hF1p] at hPt
    have HP2 := Lib.hid hPt
    have c1 := raZ.cell_at 0
    simp only [List.getElem?_cons_zero] at c1
    clear hX hMv ra rc ho1 on1 HH1 hoZ hPt raZ hZ hF1p hB hlc HMk HR HCv HPt RA RB RC HA q1 q2 q3 q4 H2
    rw [HZ.out] at c1
    go_wp2_with fail
    rw [← HZ.out]
    refine (HP2.out).mono ?_
    rintro e Y2 ⟨rfl, hSt⟩
    (try dsimp only)
    have hfin : ∃ F', HeapAt Y2 F' h2 ∧ F.Next F' X ∧ Only (c :: F.l) X Y2 ∧ Row Y2 c 30 [.int .u32 o] :=
      ⟨F1, hSt.1, n1, hoX.trans hSt.2.2 (fun q hq => (n1.mem q hq).imp (fun e => List.mem_cons_of_mem _ e) id), hSt.beside rcZ hF1⟩
    have HFin := Lib.hid hfin
    clear hSt hfin rcZ hoX n1 hF1
    go_wp2_with fail
    go_ret
    exact ⟨rfl, HFin.out⟩
  · obtain ⟨cp, X4, hcv, hlc, hbc⟩ := HCv.out (X.drew)
    generalize hgg : (X.drew).heap.size = gg at hcv hlc hbc
    unfold wpOp
    go_simp
    clear hcv
    rw [← hgg] at hbc
    replace hX := (⟨hX.1.below hbc hX.1.lt, hX.2.below hbc hX.2.lt⟩ : _ ∧ _)
    replace hB := hB.trans (hbc.mono hB.size)
    clear hbc hgg
    refine .inl ⟨hX, ?_⟩
    refine wpAnyH_all (rs := [2]) (by kernel_rfl) (by decide) (fun i hi => ?_)
    rw [List.mem_singleton] at hi
    subst hi
    unfold wpOp
    go_simp
    refine .inl ((HR.out _ hB).mono ?_)
    rintro e X5 ⟨rfl, hb⟩
    replace hX := (⟨hX.1.below hb hX.1.lt, hX.2.below hb hX.2.lt⟩ : _ ∧ _)
    replace hB := hB.trans (hb.mono hB.size)
    (try replace hlc := hlc.below hb)
    clear hb
    refine ⟨hX, ?_⟩
    refine wpAnyH_all (rs := [5]) (by kernel_rfl) (by decide) (fun i hi => ?_)
    rw [List.mem_singleton] at hi
    subst hi
    unfold wpOp
    go_simp
    refine .inl ((HMk.out _ _ _ hB hlc).mono ?_)
    rintro e X6 ⟨rfl, F1, hMv⟩
    obtain ⟨q1, q2, q3, q4⟩ := HA.out
    replace hX := (⟨RA.out.only hMv.2.2 q1, RB.out.only hMv.2.2 q2⟩ : _ ∧ _)
    refine ⟨hX, ?_⟩
    refine wpAnyH_take_at (i := 6) (v := .tuple #[.int .u32 o, .int .i64 0]) 6 rfl rfl (by kernel_rfl) (by kernel_rfl) (by kernel_rfl) (fun _ _ _ h => h) (.inl ⟨rfl, fun X hX => by go_simp⟩) hX ?_
    simp only [Act.put, List.setIfInBounds_toArray, List.set_cons_zero, List.set_cons_succ]
    refine wpAnyH_take_at (i := 7) (v := .int .u32 o) 13 rfl rfl (by kernel_rfl) (by kernel_rfl) (by kernel_rfl) (fun _ _ _ h => h) (.inl ⟨rfl, fun X hX => by go_simp⟩) hX ?_
    simp only [Act.put, List.setIfInBounds_toArray, List.set_cons_zero, List.set_cons_succ]
    refine wpAnyH_take_at (i := 8) (v := .int .i64 0) 14 rfl rfl (by kernel_rfl) (by kernel_rfl) (by kernel_rfl) (fun _ _ _ h => h) (.inl ⟨rfl, fun X hX => by go_simp⟩) hX ?_
    simp only [Act.put, List.setIfInBounds_toArray, List.set_cons_zero, List.set_cons_succ]
    refine wpAnyH_take_at (i := 9) (v := .int .u32 o) 4 rfl rfl (by kernel_rfl) (by kernel_rfl) (by kernel_rfl) (fun _ _ _ h => h) (.inl ⟨rfl, fun X hX => by go_simp⟩) hX ?_
    simp only [Act.put, List.setIfInBounds_toArray, List.set_cons_zero, List.set_cons_succ]
    refine wpAnyH_take_at (i := 10) (v := .int .i64 0) 5 rfl rfl (by kernel_rfl) (by kernel_rfl) (by kernel_rfl) (fun _ _ _ h => h) (.inl ⟨rfl, fun X hX => by go_simp⟩) hX ?_
    simp only [Act.put, List.setIfInBounds_toArray, List.set_cons_zero, List.set_cons_succ]
    refine wpAnyH_done (by kernel_rfl) ?_ _
    have ra := hX.1
    have c0 := ra.cell_at 0
    simp only [List.getElem?_cons_zero] at c0
    have hcl : c < X.heap.size := RC.out.lt
    have n1 : F.Next F1 X := hMv.2.1
    have on1 : Only F.l X X6 := hMv.2.2
    have rc := RC.out.only on1 q3
    have cc := rc.cell_at 0
    have zc := rc.free 0
    simp only [List.getElem?_cons_zero] at cc
    have ho1 : Only (c :: F.l) X X6 := ⟨on1.os, on1.tape, on1.output, on1.size, fun k hk hn => on1.block k hk (fun e => hn (List.mem_cons_of_mem _ e))⟩
    have hF1 : c ∉ F1.l := aside_next n1 hcl q3
    have HH1 := hMv.1
    obtain ⟨Z, hZ⟩ : ∃ Z, Z = X6.setCell ⟨c, 0, none⟩ (.int .u32 o) := ⟨_, rfl⟩
    have hoZ : Only [c] X6 Z := by rw [hZ]; exact (Only.refl _ _).setCell (by simp) _
    have HZ := Lib.hid hZ
    have H2 : HeapAt Z F1 h1 := HH1.only hoZ (fun g hg e => hF1 (by rw [List.mem_singleton] at e; rw [← e]; exact hg)) (by simp; omega)
    have rcZ : Row Z c 30 [.int .u32 o] := by rw [hZ]; exact rc.store_any 0 _
    have raZ : Row Z a 23 [.pointer (some ⟨F.p, 0, none⟩)] := ra.only hoZ (by simp; exact q4)
    have hoX : Only (c :: F.l) X Z := ho1.trans hoZ (fun q hq => .inl (by rw [List.mem_singleton] at hq; rw [hq]; exact List.mem_cons_self))
    have hF1p : F1.p = F.p := n1.p
    have hPt := HPt.out Z F1 H2
    rw [hF1p] at hPt
    have HP2 := Lib.hid hPt
    have c1 := raZ.cell_at 0
    simp only [List.getElem?_cons_zero] at c1
    clear hX hMv ra rc ho1 on1 HH1 hoZ hPt raZ hZ hF1p hB hlc HMk HR HCv HPt RA RB RC HA q1 q2 q3 q4 H2
    rw [HZ.out] at c1
    go_wp2_with fail
    rw [← HZ.out]
    refine (HP2.out).mono ?_
    rintro e Y2 ⟨rfl, hSt⟩
    (try dsimp only)
    have hfin : ∃ F', HeapAt Y2 F' h2 ∧ F.Next F' X ∧ Only (c :: F.l) X Y2 ∧ Row Y2 c 30 [.int .u32 o] :=
      ⟨F1, hSt.1, n1, hoX.trans hSt.2.2 (fun q hq => (n1.mem q hq).imp (fun e => List.mem_cons_of_mem _ e) id), hSt.beside rcZ hF1⟩
    have HFin := Lib.hid hfin
    clear hSt hfin rcZ hoX n1 hF1
    go_wp2_with fail
    go_ret
    exact ⟨rfl, HFin.out⟩
end
end Go.Proofs.YteiikhcadjdkcaaGreatDoor
namespace Go.Proofs.YteiikhcadjdkcaaGreatDoor
open Go Go.RowKit Limb
section
variable {w : World} {F : Foot} {h : Hp}
theorem Moved.then {w' w'' : World} {h' h'' : Hp} (a : Moved w F w' h') (b : ∀ F', Step w F w' F' h' → Moved w' F' w'' h'') : Moved w F w'' h'' := by
  obtain ⟨F', a⟩ := a
  obtain ⟨F'', b⟩ := b F' a
  exact ⟨F'', a.trans b⟩
def StepC (ps : List Nat) (w : World) (F : Foot) (w' : World) (F' : Foot) (h' : Hp) : Prop := HeapAt w' F' h' ∧ F.Next F' w ∧ Only (ps ++ F.l) w w'
theorem StepC.refl {ps : List Nat} (H : HeapAt w F h) : StepC ps w F w F h := ⟨H, Foot.Next.refl _ _, Only.refl _ _⟩
theorem StepC.step {ps : List Nat} {w' w'' : World} {F' F'' : Foot} {h' h'' : Hp} (a : StepC ps w F w' F' h') (b : Step w' F' w'' F'' h'') : StepC ps w F w'' F'' h'' :=
  ⟨b.1, a.2.1.trans b.2.1 a.2.2.size, a.2.2.trans b.2.2 (fun q hq => (a.2.1.mem q hq).imp (fun e => List.mem_append_right _ e) id)⟩
theorem StepC.below {ps : List Nat} {w' w'' : World} {F' : Foot} {h' : Hp} (a : StepC ps w F w' F' h') (hb : Below w'.heap.size w' w'') : StepC ps w F w'' F' h' :=
  ⟨a.1.below hb, a.2.1, a.2.2.trans (qs := []) (Only.of_below hb) (fun q hq => by cases hq)⟩
theorem StepC.store {ps : List Nat} {w' : World} {F' : Foot} {h' : Hp} (a : StepC ps w F w' F' h') {c i : Nat} (v : Value) (hc : c ∈ ps ∨ w.heap.size ≤ c) (hn : c ∉ F'.l) (h5 : 5 ≤ c) : StepC ps w F (w'.setCell ⟨c, i, none⟩ v) F' h' := by
  have ho : Only [c] w' (w'.setCell ⟨c, i, none⟩ v) := (Only.refl _ _).setCell (by simp) _
  refine ⟨a.1.only ho (fun g hg e => hn (by rw [List.mem_singleton] at e; rw [← e]; exact hg)) (by simp; omega), a.2.1, a.2.2.trans ho (fun q hq => ?_)⟩
  rw [List.mem_singleton] at hq
  subst hq
  exact hc.imp (fun e => List.mem_append_left _ e) id
theorem StepC.moved {ps : List Nat} {w0 w' : World} {F' : Foot} {h' : Hp} (a : StepC ps w F w' F' h') (hb : Below w0.heap.size w0 w) (hp : ∀ g ∈ ps, w0.heap.size ≤ g) : Moved w0 F w' h' :=
  ⟨F', a.1, ⟨a.2.1.p, a.2.1.gr, a.2.1.gw.imp id (fun e => Nat.le_trans hb.size e), a.2.1.gs.imp id (fun e => Nat.le_trans hb.size e)⟩,
    (Only.of_below hb).trans a.2.2 (fun q hq => by rcases List.mem_append.1 hq with e | e; exact .inr (hp q e); exact .inl e)⟩
theorem StepC.row {ps : List Nat} {w' : World} {F' : Foot} {h' : Hp} (a : StepC ps w F w' F' h') {g : Nat} {e : TypeId} {cs : List Value} (hr : Row w g e cs) (h1 : g ∉ F.l) (h2 : g ∉ ps) : Row w' g e cs :=
  hr.only a.2.2 (fun e => by rcases List.mem_append.1 e with e | e; exact h2 e; exact h1 e)
theorem StepC.aside {ps : List Nat} {w' : World} {F' : Foot} {h' : Hp} (a : StepC ps w F w' F' h') {g : Nat} (h1 : g ∉ F.l) (hl : g < w.heap.size) : g ∉ F'.l := aside_next a.2.1 hl h1
set_option maxRecDepth 100000 in
theorem heap_putF (H : HeapAt w F h) {o i v : Nat} (hf : isF h o 1 (i + 1) = true) (hi : i ≤ 65535) (hv : valO h v = true) (hv2 : v < 4294967296) :
    Calls Tryz.prog 37 #[.pointer (some ⟨F.p, 0, none⟩), .int .u32 o, .int .i64 i, .int .u32 v] w fun e w' => e = .returned (.int .i64 0) ∧ Step w F w' F (Limb.putF h o i v) := by
  obtain ⟨e1, e2, e3⟩ := isF_iff.1 hf
  have hlen : (hdO h o).len = (hdO h o).size := len_size (by omega)
  have hE : lookE h o (i : Int) [1, 4] = 0 := lookE_zero.2 ⟨e1, by rw [e2]; rfl, by omega, by rw [hlen]; omega⟩
  have hPE : putE h o (i : Int) v = 0 := by unfold putE; rw [if_pos hE, if_pos hv]
  have hPH : putH h o (i : Int) v = Limb.putF h o i v := by unfold putH; rw [if_pos hPE, Int.toNat_natCast]
  have := heap_put H o (isO_lt H.good e1) (i : Int) (by omega) (by omega) v hv2
  rw [hPE, hPH] at this
  exact this
end
end Go.Proofs.YteiikhcadjdkcaaGreatDoor
