/- Steps of a heap, joined; Put where it may. The walk of package kernel's Intern. -/
import Derived.Test.YtllabdmmfohbaaaGreatDoorGX34
import Derived.Test.YtllabdmmfohbaaaGreatDoorGX13
set_option linter.unusedVariables false
set_option linter.unusedSimpArgs false
namespace Go.Proofs.YtllabdmmfohbaaaGreatDoor
open Go Go.RowKit Limb
section
variable {w : World} {F : Foot} {h : Hp}
def StepC (ps : List Nat) (w : World) (F : Foot) (w' : World) (F' : Foot) (h' : Hp) : Prop := HeapAt w' F' h' ∧ F.Next F' w ∧ Only (ps ++ F.l) w w'
theorem StepC.refl {ps : List Nat} (H : HeapAt w F h) : StepC ps w F w F h := ⟨H, Foot.Next.refl _ _, Only.refl _ _⟩
theorem StepC.step {ps : List Nat} {w' w'' : World} {F' F'' : Foot} {h' h'' : Hp} (a : StepC ps w F w' F' h') (b : Step w' F' w'' F'' h'') : StepC ps w F w'' F'' h'' :=
  ⟨b.1, a.2.1.trans b.2.1 a.2.2.size, a.2.2.trans b.2.2 (fun q hq => (a.2.1.mem q hq).imp (fun e => List.mem_append_right _ e) id)⟩
theorem StepC.below {ps : List Nat} {w' w'' : World} {F' : Foot} {h' : Hp} (a : StepC ps w F w' F' h') (hb : Below w'.heap.size w' w'') : StepC ps w F w'' F' h' :=
  ⟨a.1.below hb, a.2.1, a.2.2.trans (qs := []) (Only.of_below hb) (fun q hq => by cases hq)⟩
theorem StepC.store {ps : List Nat} {w' : World} {F' : Foot} {h' : Hp} (a : StepC ps w F w' F' h') {c i : Nat} (v : Value) (hc : c ∈ ps ∨ w.heap.size ≤ c) (hn : c ∉ F'.l) (h5 : 5 ≤ c) : StepC ps w F (w'.setCell ⟨c, i, none⟩ v) F' h' := by
  have ho : Only [c] w' (w'.setCell ⟨c, i, none⟩ v) := (Only.refl _ _).setCell (by simp) _
  refine ⟨a.1.only ho (fun g hg e => hn (by rw [List.mem_singleton] at e; rw [← e]; exact hg)) (by simp; omega), a.2.1, a.2.2.trans ho (fun q hq => ?_)⟩
  rw [List.mem_singleton] at hq
  subst hq
  exact hc.imp (fun e => List.mem_append_left _ e) id
theorem StepC.moved {ps : List Nat} {w0 w' : World} {F' : Foot} {h' : Hp} (a : StepC ps w F w' F' h') (hb : Below w0.heap.size w0 w) (hp : ∀ g ∈ ps, w0.heap.size ≤ g) : Moved w0 F w' h' :=
  ⟨F', a.1, ⟨a.2.1.p, a.2.1.gr, a.2.1.gw.imp id (fun e => Nat.le_trans hb.size e), a.2.1.gs.imp id (fun e => Nat.le_trans hb.size e)⟩,
    (Only.of_below hb).trans a.2.2 (fun q hq => by rcases List.mem_append.1 hq with e | e; exact .inr (hp q e); exact .inl e)⟩
theorem StepC.row {ps : List Nat} {w' : World} {F' : Foot} {h' : Hp} (a : StepC ps w F w' F' h') {g : Nat} {e : TypeId} {cs : List Value} (hr : Row w g e cs) (h1 : g ∉ F.l) (h2 : g ∉ ps) : Row w' g e cs :=
  hr.only a.2.2 (fun e => by rcases List.mem_append.1 e with e | e; exact h2 e; exact h1 e)
theorem StepC.aside {ps : List Nat} {w' : World} {F' : Foot} {h' : Hp} (a : StepC ps w F w' F' h') {g : Nat} (h1 : g ∉ F.l) (hl : g < w.heap.size) : g ∉ F'.l := aside_next a.2.1 hl h1
set_option maxRecDepth 100000 in
theorem heap_putF (H : HeapAt w F h) {o i v : Nat} (hf : isF h o 1 (i + 1) = true) (hi : i ≤ 65535) (hv : valO h v = true) (hv2 : v < 4294967296) :
    Calls Tryz.prog 37 #[.pointer (some ⟨F.p, 0, none⟩), .int .u32 o, .int .i64 i, .int .u32 v] w fun e w' => e = .returned (.int .i64 0) ∧ Step w F w' F (Limb.putF h o i v) := by
  obtain ⟨e1, e2, e3⟩ := isF_iff.1 hf
  have hlen : (hdO h o).len = (hdO h o).size := len_size (by omega)
  have hE : lookE h o (i : Int) [1, 4] = 0 := lookE_zero.2 ⟨e1, by rw [e2]; rfl, by omega, by rw [hlen]; omega⟩
  have hPE : putE h o (i : Int) v = 0 := by unfold putE; rw [if_pos hE, if_pos hv]
  have hPH : putH h o (i : Int) v = Limb.putF h o i v := by unfold putH; rw [if_pos hPE, Int.toNat_natCast]
  have := heap_put H o (isO_lt H.good e1) (i : Int) (by omega) (by omega) v hv2
  rw [hPE, hPH] at this
  exact this
end
end Go.Proofs.YtllabdmmfohbaaaGreatDoor
namespace Go.Proofs.YtllabdmmfohbaaaGreatDoor
open Go Go.RowKit Limb
theorem Ker.bare {h : Hp} (K : Limb.Ker h) : Live h := fun j hj => by
  have h1 := isO_iff.1 (K.live j hj)
  rw [kind_two.2 ⟨h1.1, h1.2.1⟩]; decide
section
variable {w : World} {F : Foot} {h : Hp}
set_option maxHeartbeats 1600000 in
set_option maxRecDepth 100000 in
theorem kernel_intern (H : HeapAt w F h) (K : Limb.Ker h) (S : ByteArray) (hS : S.size ≤ 262140) (h0 : 0 < S.size) (o : Nat) (h' : Hp) (hp : internP h (tx S) = some (o, h')) :
    Calls Tryz.prog 58 #[.pointer (some ⟨F.p, 0, none⟩), .string S] w fun e w' => e = .returned (.tuple #[.int .u32 o, .int .i64 0]) ∧ Moved w F w' h' := by
  obtain ⟨W, hW, ra, hb1, hz1⟩ := alloc_row w 22 [.pointer (some ⟨F.p, 0, none⟩)]
  obtain ⟨V, hV, rb, hb2, hz2⟩ := alloc_row W 9 [.string S]
  rw [hz1] at rb
  have hB : Below w.heap.size w V := hb1.trans (hb2.mono (by omega))
  replace ra := ra.below hb2 ra.lt
  have HV := Lib.hid (show V = (w.alloc (.cells #[.pointer (some ⟨F.p, 0, none⟩)] 22)).alloc (.cells #[.string S] 9) by rw [hV, hW])
  have HH := H.below hB
  have HSy := Lib.hid (kernel_symbol HH (Ker.bare K) S hS)
  have c0 := ra.cell_at 0
  have c1 := rb.cell_at 0
  simp only [List.getElem?_cons_zero] at c0 c1
  have hzV : V.heap.size = w.heap.size + 2 := by omega
  by_cases hs : symP h (tx S) = 0
  · have hp2 := hp
    unfold internP at hp2
    simp only [hs, if_true] at hp2
    obtain ⟨⟨o1, h1⟩, e1, e2⟩ := Option.bind_eq_some_iff.1 hp2
    obtain ⟨h2, e3, e4⟩ := Option.map_eq_some_iff.1 e2
    rw [Prod.mk.injEq] at e4
    obtain ⟨rfl, rfl⟩ := e4
    have hsy := HSy.out
    rw [hs] at hsy
    have HSy := Lib.hid hsy
    have HFn := Lib.hid (fun X (HX : HeapAt X F h) c (rA : Row X w.heap.size 22 [.pointer (some ⟨F.p, 0, none⟩)]) (rB : Row X (w.heap.size + 1) 9 [.string S]) (rc : Row X c 30 [.int .u32 0]) (hcw : w.heap.size + 1 < c) =>
      kernel_intern_fn S hS h0 w.heap.size (w.heap.size + 1) c X HX rA rB _ rc (fun e => Nat.lt_irrefl _ (H.lt _ e)) (fun e => absurd (H.lt _ e) (by omega)) (fun e => absurd (H.lt _ e) (by omega)) (by have := H.lt _ (mem_p F); have := H.low; omega) (by omega) o1 h1 h2 e1 e3)
    have HLt := Lib.hid (H.lt)
    clear hW hV hz1 hz2 hb1 hb2 hsy hp hp2 hs e1 e2 e3 H
    go_enter Tryz.func58, Tryz.ntmps58
    go_wp2_with fail
    rw [← HV.out]
    go_wp2_with fail
    refine (HSy.out).mono ?_
    rintro e V1 ⟨rfl, hb⟩
    (try dsimp only)
    replace ra := ra.below hb ra.lt
    replace rb := rb.below hb rb.lt
    replace HH := HH.below hb
    replace hB := hB.trans (hb.mono hB.size)
    replace hzV : w.heap.size + 2 ≤ V1.heap.size := by have := hb.size; omega
    clear hb c0 c1 HSy HV
    have HBa := Lib.hid (fun Y (hC : Below V1.heap.size V1 Y) => (kernel_bare (HH.below hC) (Ker.bare K)).mono (R' := fun e w' => e = .returned (.bool false) ∧ Below V1.heap.size V1 w') fun e w' ⟨x, y⟩ => ⟨x, hC.trans (y.mono hC.size)⟩)
    have HR := Lib.hid (fun Y (hC : Below V1.heap.size V1 Y) => (kernel_root (HH.below hC) 3 (by decide)).mono (R' := fun e w' => e = .returned (.int .u32 (wd h.rt 3 : Nat)) ∧ Below V1.heap.size V1 w') fun e w' ⟨x, y⟩ => ⟨x, by rw [← y]; exact hC⟩)
    have HP := Lib.hid (fun Y (hC : Below V1.heap.size V1 Y) => (kernel_pointers (HH.below hC) (wd h.rt 3) 0 (root_lt HH.good 3)).mono (R' := fun e w' => e = .returned (.bool true) ∧ Below V1.heap.size V1 w') fun e w' ⟨x, y⟩ => ⟨by rw [x, K.l3], hC.trans (y.mono hC.size)⟩)
    go_wp2_with fail
    refine wp_region_calm (fun Y => Below V1.heap.size V1 Y) (by kernel_rfl) (by kernel_rfl) (Below.refl _ _).drew ?_
    show wpQuiet _ _ _ _ [_, _, _, _, _, _, _, _, _] _
    refine wpQuiet_at 15 (.pointer (some ⟨F.p, 0, none⟩)) rfl (by kernel_rfl) (fun Y hC => ?_) ?_
    · have c0 := (ra.below hC ra.lt).cell_at 0
      simp only [List.getElem?_cons_zero] at c0
      go_simp
    simp only [Act.put, List.setIfInBounds_toArray, List.set_cons_zero, List.set_cons_succ]
    refine wpQuiet_at 16 (.bool false) rfl (by kernel_rfl) (fun Y hC => ?_) ?_
    · go_simp
      exact HBa.out Y hC
    simp only [Act.put, List.setIfInBounds_toArray, List.set_cons_zero, List.set_cons_succ]
    refine wpQuiet_at 17 (.bool false) rfl (by kernel_rfl) (fun Y hC => ?_) ?_
    · go_simp
    simp only [Act.put, List.setIfInBounds_toArray, List.set_cons_zero, List.set_cons_succ]
    refine wpQuiet_at 18 (.pointer (some ⟨F.p, 0, none⟩)) rfl (by kernel_rfl) (fun Y hC => ?_) ?_
    · have c0 := (ra.below hC ra.lt).cell_at 0
      simp only [List.getElem?_cons_zero] at c0
      go_simp
    simp only [Act.put, List.setIfInBounds_toArray, List.set_cons_zero, List.set_cons_succ]
    refine wpQuiet_at 19 (.pointer (some ⟨F.p, 0, none⟩)) rfl (by kernel_rfl) (fun Y hC => ?_) ?_
    · have c0 := (ra.below hC ra.lt).cell_at 0
      simp only [List.getElem?_cons_zero] at c0
      go_simp
    simp only [Act.put, List.setIfInBounds_toArray, List.set_cons_zero, List.set_cons_succ]
    refine wpQuiet_at 20 (.int .u32 (wd h.rt 3 : Nat)) rfl (by kernel_rfl) (fun Y hC => ?_) ?_
    · go_simp
      exact HR.out Y hC
    simp only [Act.put, List.setIfInBounds_toArray, List.set_cons_zero, List.set_cons_succ]
    refine wpQuiet_at 21 (.bool true) rfl (by kernel_rfl) (fun Y hC => ?_) ?_
    · go_simp
      exact HP.out Y hC
    simp only [Act.put, List.setIfInBounds_toArray, List.set_cons_zero, List.set_cons_succ]
    refine wpQuiet_at 22 (.bool false) rfl (by kernel_rfl) (fun Y hC => ?_) ?_
    · go_simp
    simp only [Act.put, List.setIfInBounds_toArray, List.set_cons_zero, List.set_cons_succ]
    refine wpQuiet_at 23 (.bool false) rfl (by kernel_rfl) (fun Y hC => ?_) ?_
    · go_simp
    simp only [Act.put, List.setIfInBounds_toArray, List.set_cons_zero, List.set_cons_succ]
    refine wpQuiet_nil ?_
    intro V2 hb2
    replace ra := ra.below hb2 ra.lt
    replace rb := rb.below hb2 rb.lt
    replace HH := HH.below hb2
    replace hB := hB.trans (hb2.mono hB.size)
    replace hzV : w.heap.size + 2 ≤ V2.heap.size := by have := hb2.size; omega
    clear hb2 HBa HR HP
    obtain ⟨V3, hV3, rc, hb3, hz3⟩ := alloc_row V2 30 [.int .u32 0]
    have HV3 := Lib.hid hV3
    have ra2' := ra
    have hlt := ra.lt
    replace ra := ra.below hb3 ra.lt
    replace rb := rb.below hb3 rb.lt
    replace HH := HH.below hb3
    replace hB := hB.trans (hb3.mono hB.size)
    obtain ⟨c, hc⟩ : ∃ c, c = V2.heap.size := ⟨_, rfl⟩
    rw [← hc] at rc
    have Hc := Lib.hid hc
    have hcw : w.heap.size + 1 < c := by omega
    have ra2 : Row V2 w.heap.size 22 [.pointer (some ⟨F.p, 0, none⟩)] := ra2'
    have c0 := ra2.cell_at 0
    have hlt2 := ra2.lt
    simp only [List.getElem?_cons_zero] at c0
    have hcl := rc.lt
    have HQ := Lib.hid (undo_intern HH (.pointer (some ⟨w.heap.size, 0, none⟩)) (.pointer (some ⟨w.heap.size + 1, 0, none⟩)) (.pointer (some ⟨c, 0, none⟩)) (fun X' => ∃ F', StepC [c] V3 F X' F' h2 ∧ Row X' c 30 [.int .u32 o1])
      (fun X hX => (HFn.out X (HH.below hX) c (ra.below hX ra.lt) (rb.below hX rb.lt) (rc.below hX rc.lt) hcw).mono fun e X' ⟨x, F', y1, y2, y3, y4⟩ => ⟨x, F', ⟨y1, ⟨y2.p, y2.gr, y2.gw.imp id (fun e => Nat.le_trans hX.size e), y2.gs.imp id (fun e => Nat.le_trans hX.size e)⟩, (Only.of_below hX).trans y3 (fun q hq => .inl hq)⟩, y4⟩))
    have HcF := Lib.hid (show w.heap.size ≤ c from by omega)
    clear HH HFn ra rb rc ra2 ra2' hlt hcw hV3 hb3 hz3 hc hzV
    go_wp2_with fail
    rw [← Hc.out, ← HV3.out]
    refine (HQ.out).mono ?_
    rintro e V4 ⟨rfl, F', hT, rc4⟩
    (try dsimp only)
    have HM := Lib.hid (hT.moved hB (by intro g hg; rw [List.mem_singleton] at hg; rw [hg]; exact HcF.out))
    have c4 := rc4.cell_at 0
    simp only [List.getElem?_cons_zero] at c4
    clear hT rc4 HQ
    go_wp2_with fail
    go_ret2
    exact ⟨rfl, HM.out⟩
  · have hp2 := hp
    unfold internP at hp2
    simp only [hs, if_false] at hp2
    rw [Option.some.injEq, Prod.mk.injEq] at hp2
    obtain ⟨rfl, rfl⟩ := hp2
    have q : (((symP h (tx S) : Nat) : Int) == 0) = false := by rw [beq_eq_false_iff_ne]; omega
    have q2 : (((symP h (tx S) : Nat)) == 0) = false := by rw [beq_eq_false_iff_ne]; omega
    have HSt := Lib.hid (show ∀ Y, Below w.heap.size w Y → Moved w F Y h from fun Y hY => ⟨F, (Step.refl H).below hY⟩)
    generalize symP h (tx S) = o at *
    clear hW hV hz1 hz2 hb1 hb2 hp hs H HH ra rb hzV
    go_enter Tryz.func58, Tryz.ntmps58
    go_wp2_with fail
    rw [← HV.out]
    go_wp2_with fail
    refine (HSy.out).mono ?_
    rintro e V1 ⟨rfl, hb⟩
    (try dsimp only)
    have HM := Lib.hid (HSt.out _ (hB.trans (hb.mono hB.size)))
    clear hb HSt c0 c1
    go_wp2_with fail
    go_ret2
    exact ⟨rfl, HM.out⟩
end
end Go.Proofs.YtllabdmmfohbaaaGreatDoor
