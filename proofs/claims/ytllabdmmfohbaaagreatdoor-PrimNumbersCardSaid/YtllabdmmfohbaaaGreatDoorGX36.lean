/- The walk of the function that package kernel's SetGlobal hands to undo. The walk of package kernel's SetGlobal, where the name is new. -/
import Derived.Test.YtllabdmmfohbaaaGreatDoorGX35
set_option linter.unusedVariables false
set_option linter.unusedSimpArgs false
namespace Go.Proofs.YtllabdmmfohbaaaGreatDoor
open Go Go.RowKit Limb
section
variable {F : Foot} {h : Hp}
set_option maxHeartbeats 1600000 in
set_option maxRecDepth 100000 in
theorem kernel_setglobal_fn (K : Limb.Ker h) (S : ByteArray) (hS : S.size ≤ 262140) (h0 : 0 < S.size) (v : Nat) (hv : isO h v = true) (a b c d : Nat) (X : World) (HX : HeapAt X F h) (ra : Row X a 22 [.pointer (some ⟨F.p, 0, none⟩)]) (rb : Row X b 9 [.string S]) (v0 : Value) (rc : Row X c 30 [v0]) (rd : Row X d 30 [.int .u32 v]) (ha : a ∉ F.l) (hc : c ∉ F.l) (hd : d ∉ F.l) (hc5 : 5 ≤ c) (hac : a ≠ c) (hdc : d ≠ c)
    (k : Nat) (h1 : Hp) (hp1 : internP h (tx S) = some (k, h1)) (o : Nat) (h2 : Hp) (hp2 : allocP h1 (wd h1.rt 23) 1 2 = some (o, h2)) (h3 : Hp) (hp3 : putL (Limb.putF (Limb.putF h2 o 0 k) o 1 v) 4 o = some h3) :
    Calls Tryz.prog 63 #[.pointer (some ⟨a, 0, none⟩), .pointer (some ⟨b, 0, none⟩), .pointer (some ⟨c, 0, none⟩), .pointer (some ⟨d, 0, none⟩)] X fun e X' => e = .returned (.int .i64 0) ∧ ∃ F', StepC [c] X F X' F' h3 ∧ Row X' c 30 [.int .u32 o] := by
  obtain ⟨g1, i1⟩ := grow_intern HX.good (tx_b8 S) (by rw [tx_length]; exact hS) hp1
  obtain ⟨g2, i2⟩ := grow_alloc g1.good (by decide) (by decide) (by decide) hp2
  have kk := isF_isO i1
  have g3 := grow_put g2.good (i := 0) (isF_le i2 (by decide)) (isO_lt g1.good kk)
  have vO := (g1.trans g2).isO hv
  have vlt := isO_lt HX.good hv
  have g4 := grow_put g3.good (i := 1) (v := v) (g3.isF _ _ _ i2) vlt
  have oF := isF_isO (g4.isF _ _ _ (g3.isF _ _ _ i2))
  have olt := isO_lt g4.good oF
  have HIn := Lib.hid (kernel_intern HX K S hS h0 k h1 hp1)
  have HR := Lib.hid (fun V F1 (H1 : HeapAt V F1 h1) (hp : F1.p = F.p) => show Calls Tryz.prog 19 #[.pointer (some ⟨F.p, 0, none⟩), .int .i64 23] V fun e w' => e = .returned (.int .u32 (wd h1.rt 23 : Nat)) ∧ Below V.heap.size V w' from by rw [← hp]; exact (kernel_root H1 23 (by decide)).mono fun e w' ⟨x, y⟩ => ⟨x, by rw [← y]; exact Below.refl _ _⟩)
  have HAl := Lib.hid (fun V F1 (H1 : HeapAt V F1 h1) (hp : F1.p = F.p) => show Calls Tryz.prog 31 #[.pointer (some ⟨F.p, 0, none⟩), .int .u32 (wd h1.rt 23 : Nat), .int .i64 1, .int .i64 2] V fun e w' => e = .returned (.tuple #[.int .u32 o, .int .i64 0]) ∧ Moved V F1 w' h2 from by rw [← hp]; exact heap_Alloc H1 (wd h1.rt 23) 1 2 o h2 (by decide) (by decide) (by decide) hp2)
  have HP0 := Lib.hid (fun V F1 (H1 : HeapAt V F1 h2) (hp : F1.p = F.p) => show Calls Tryz.prog 37 #[.pointer (some ⟨F.p, 0, none⟩), .int .u32 o, .int .i64 0, .int .u32 k] V fun e w' => e = .returned (.int .i64 0) ∧ Step V F1 w' F1 (Limb.putF h2 o 0 k) from by rw [← hp]; exact heap_putF H1 (i := 0) (isF_le i2 (by decide)) (by decide) (g2.val (isO_val kk)) (isO_lt g1.good kk))
  have HP1 := Lib.hid (fun V F1 (H1 : HeapAt V F1 (Limb.putF h2 o 0 k)) (hp : F1.p = F.p) => show Calls Tryz.prog 37 #[.pointer (some ⟨F.p, 0, none⟩), .int .u32 o, .int .i64 1, .int .u32 v] V fun e w' => e = .returned (.int .i64 0) ∧ Step V F1 w' F1 (Limb.putF (Limb.putF h2 o 0 k) o 1 v) from by rw [← hp]; exact heap_putF H1 (i := 1) (g3.isF _ _ _ i2) (by decide) (g3.val (isO_val vO)) vlt)
  have HPt := Lib.hid (fun V F1 (H1 : HeapAt V F1 (Limb.putF (Limb.putF h2 o 0 k) o 1 v)) (hp : F1.p = F.p) => show Calls Tryz.prog 64 #[.pointer (some ⟨F.p, 0, none⟩), .int .i64 4, .int .u32 o] V fun e w' => e = .returned (.int .i64 0) ∧ Step V F1 w' F1 h3 from by rw [← hp]; exact kernel_put H1 4 (by decide) o olt (isO_val oF) h3 hp3)
  have c0 := ra.cell_at 0
  have c1 := rb.cell_at 0
  simp only [List.getElem?_cons_zero] at c0 c1
  have HT : StepC [c] X F X F h := StepC.refl HX
  have RA := Lib.hid (fun Y F1 (hs : ∃ hh, StepC [c] X F Y F1 hh) => show Row Y a 22 [.pointer (some ⟨F.p, 0, none⟩)] from hs.elim fun _ x => x.row ra ha (by simp; exact hac))
  have RD := Lib.hid (fun Y F1 (hs : ∃ hh, StepC [c] X F Y F1 hh) => show Row Y d 30 [.int .u32 v] from hs.elim fun _ x => x.row rd hd (by simp; exact hdc))
  have RC := Lib.hid rc
  have HC := Lib.hid (show c ∉ F.l ∧ 5 ≤ c ∧ c < X.heap.size from ⟨hc, hc5, rc.lt⟩)
  clear HX rb rc rd hd hdc hc hc5 hac hp1 hp2 hp3 g1 i1 g2 i2 kk g3 vO vlt g4 oF olt K hv
  go_enter Tryz.func63, Tryz.ntmps63
  go_wp2_with fail
  refine (HIn.out).mono ?_
  rintro e X1 ⟨rfl, F1, hSt⟩
  (try dsimp only)
  have hT := HT.step hSt
  have hp1 : F1.p = F.p := hT.2.1.p
  have hX := RA.out _ _ ⟨_, hT⟩
  have RC1 := Lib.hid (show Row X1 c 30 [v0] from hSt.beside RC.out HC.out.1)
  have HTT := Lib.hid hT
  clear HT hSt hT HIn c0 c1 RC ra ha
  go_wp2_with fail
  replace hX : Row X1.drew a 22 [.pointer (some ⟨F.p, 0, none⟩)] := hX
  have hT := HTT.out.below (Below.refl _ X1).drew
  have rc1 : Row X1.drew c 30 [v0] := RC1.out
  clear HTT RC1
  refine wp_region_held (S := fun Y => Row Y a 22 [.pointer (some ⟨F.p, 0, none⟩)]) (by kernel_rfl) ?_
  refine wpAnyH_take_at (i := 0) (v := .pointer (some ⟨F.p, 0, none⟩)) 18 rfl rfl (by kernel_rfl) (by kernel_rfl) (by kernel_rfl) (fun _ _ _ h => h) (.inl ⟨rfl, fun X hX => by have c0 := hX.cell_at 0; simp only [List.getElem?_cons_zero] at c0; go_simp⟩) hX ?_
  simp only [Act.put, List.setIfInBounds_toArray, List.set_cons_zero, List.set_cons_succ]
  refine wpAnyH_take_at (i := 1) (v := .pointer (some ⟨F.p, 0, none⟩)) 19 rfl rfl (by kernel_rfl) (by kernel_rfl) (by kernel_rfl) (fun _ _ _ h => h) (.inl ⟨rfl, fun X hX => by have c0 := hX.cell_at 0; simp only [List.getElem?_cons_zero] at c0; go_simp⟩) hX ?_
  simp only [Act.put, List.setIfInBounds_toArray, List.set_cons_zero, List.set_cons_succ]
  refine wpAnyH_all (rs := [2]) (by kernel_rfl) (by decide) (fun i hi => ?_)
  rw [List.mem_singleton] at hi
  subst hi
  unfold wpOp
  go_simp
  refine .inl ((HR.out _ _ hT.1 hp1).mono ?_)
  rintro e X1 ⟨rfl, hb⟩
  replace hX := hX.below hb hX.lt
  replace hT := hT.below hb
  replace rc1 := rc1.below hb rc1.lt
  clear hb
  refine ⟨hX, ?_⟩
  refine wpAnyH_all (rs := [3]) (by kernel_rfl) (by decide) (fun i hi => ?_)
  rw [List.mem_singleton] at hi
  subst hi
  unfold wpOp
  go_simp
  refine .inl ((HAl.out _ _ hT.1 hp1).mono ?_)
  rintro e X2 ⟨rfl, F2, hMv⟩
  have hcF1 := hT.aside HC.out.1 HC.out.2.2
  replace rc1 := hMv.beside rc1 hcF1
  replace hT := hT.step hMv
  replace hX := RA.out _ _ ⟨_, hT⟩
  clear hMv hcF1
  refine ⟨hX, ?_⟩
  refine wpAnyH_take_at (i := 4) (v := .tuple #[.int .u32 o, .int .i64 0]) 17 rfl rfl (by kernel_rfl) (by kernel_rfl) (by kernel_rfl) (fun _ _ _ h => h) (.inl ⟨rfl, fun X hX => by go_simp⟩) hX ?_
  simp only [Act.put, List.setIfInBounds_toArray, List.set_cons_zero, List.set_cons_succ]
  refine wpAnyH_take_at (i := 5) (v := .int .u32 o) 22 rfl rfl (by kernel_rfl) (by kernel_rfl) (by kernel_rfl) (fun _ _ _ h => h) (.inl ⟨rfl, fun X hX => by go_simp⟩) hX ?_
  simp only [Act.put, List.setIfInBounds_toArray, List.set_cons_zero, List.set_cons_succ]
  refine wpAnyH_take_at (i := 6) (v := .int .i64 0) 23 rfl rfl (by kernel_rfl) (by kernel_rfl) (by kernel_rfl) (fun _ _ _ h => h) (.inl ⟨rfl, fun X hX => by go_simp⟩) hX ?_
  simp only [Act.put, List.setIfInBounds_toArray, List.set_cons_zero, List.set_cons_succ]
  refine wpAnyH_take_at (i := 7) (v := .int .u32 o) 7 rfl rfl (by kernel_rfl) (by kernel_rfl) (by kernel_rfl) (fun _ _ _ h => h) (.inl ⟨rfl, fun X hX => by go_simp⟩) hX ?_
  simp only [Act.put, List.setIfInBounds_toArray, List.set_cons_zero, List.set_cons_succ]
  refine wpAnyH_take_at (i := 8) (v := .int .i64 0) 6 rfl rfl (by kernel_rfl) (by kernel_rfl) (by kernel_rfl) (fun _ _ _ h => h) (.inl ⟨rfl, fun X hX => by go_simp⟩) hX ?_
  simp only [Act.put, List.setIfInBounds_toArray, List.set_cons_zero, List.set_cons_succ]
  refine wpAnyH_done (by kernel_rfl) ?_ _
  have cc := rc1.cell_at 0
  have zc := rc1.free 0
  simp only [List.getElem?_cons_zero] at cc
  have hcF2 := hT.aside HC.out.1 HC.out.2.2
  have hTZ := hT.store (i := 0) (.int .u32 o) (.inl (by simp : c ∈ [c])) hcF2 HC.out.2.1
  have rcZ : Row (X2.setCell ⟨c, 0, none⟩ (.int .u32 o)) c 30 [.int .u32 o] := rc1.store_any 0 _
  obtain ⟨Z, hZ⟩ : ∃ Z, Z = X2.setCell ⟨c, 0, none⟩ (.int .u32 o) := ⟨_, rfl⟩
  rw [← hZ] at hTZ rcZ
  have HZ := Lib.hid hZ
  have hp2 : F2.p = F.p := hTZ.2.1.p
  have hP0 := HP0.out _ _ hTZ.1 hp2
  have HP0' := Lib.hid hP0
  have hX2 := RA.out _ _ ⟨_, hTZ⟩
  have c0 := hX2.cell_at 0
  simp only [List.getElem?_cons_zero] at c0
  rw [hZ] at c0
  have HTZ := Lib.hid hTZ
  have RCZ := Lib.hid rcZ
  clear hX hX2 hT rc1 hTZ rcZ hZ hP0 HP0 HR HAl hp1 hcF2
  go_wp2_with fail
  rw [← HZ.out]
  refine (HP0'.out).mono ?_
  rintro e Y1 ⟨rfl, hSt⟩
  (try dsimp only)
  have hT := HTZ.out.step hSt
  have rc2 := hSt.beside RCZ.out (HTZ.out.aside HC.out.1 HC.out.2.2)
  have hP1 := HP1.out _ _ hT.1 hp2
  have HP1' := Lib.hid hP1
  have hX2 := RA.out _ _ ⟨_, hT⟩
  have c0 := hX2.cell_at 0
  have hX3 := RD.out _ _ ⟨_, hT⟩
  have c3 := hX3.cell_at 0
  simp only [List.getElem?_cons_zero] at c0 c3
  clear cc zc HZ
  have HT1 := Lib.hid hT
  have RC2 := Lib.hid rc2
  clear HTZ RCZ hSt hT rc2 hP1 HP1 HP0' hX2 hX3
  go_wp2_with fail
  refine (HP1'.out).mono ?_
  rintro e Y2 ⟨rfl, hSt⟩
  (try dsimp only)
  have hT := HT1.out.step hSt
  have rc2 := hSt.beside RC2.out (HT1.out.aside HC.out.1 HC.out.2.2)
  have hP2 := HPt.out _ _ hT.1 hp2
  have HP2' := Lib.hid hP2
  have hX2 := RA.out _ _ ⟨_, hT⟩
  have c0 := hX2.cell_at 0
  simp only [List.getElem?_cons_zero] at c0
  have HT2 := Lib.hid hT
  have RC3 := Lib.hid rc2
  clear HT1 RC2 hSt hT rc2 hP2 HPt HP1' hX2 c3
  go_wp2_with fail
  refine (HP2'.out).mono ?_
  rintro e Y3 ⟨rfl, hSt⟩
  (try dsimp only)
  have hfin : ∃ F', StepC [c] X F Y3 F' h3 ∧ Row Y3 c 30 [.int .u32 o] := ⟨_, HT2.out.step hSt, hSt.beside RC3.out (HT2.out.aside HC.out.1 HC.out.2.2)⟩
  have HFin := Lib.hid hfin
  clear hSt hfin HT2 RC3 RA RD HC c0
  go_wp2_with fail
  go_ret
  exact ⟨rfl, HFin.out⟩
end
end Go.Proofs.YtllabdmmfohbaaaGreatDoor
namespace Go.Proofs.YtllabdmmfohbaaaGreatDoor
open Go Go.RowKit Limb
section
variable {w : World} {F : Foot} {h : Hp}
set_option maxHeartbeats 1600000 in
set_option maxRecDepth 100000 in
theorem kernel_setglobal (H : HeapAt w F h) (K : Limb.Ker h) (S : ByteArray) (hS : S.size ≤ 262140) (h0 : 0 < S.size) (v : Nat) (hv : isO h v = true) (o : Nat) (h' : Hp) (hp : setGlobP h (tx S) v = some (o, h')) :
    Calls Tryz.prog 41 #[.pointer (some ⟨F.p, 0, none⟩), .string S, .int .u32 v] w fun e w' => e = .returned (.tuple #[.int .u32 o, .int .i64 0]) ∧ Moved w F w' h' := by
  obtain ⟨W, hW, ra, hb1, hz1⟩ := alloc_row w 22 [.pointer (some ⟨F.p, 0, none⟩)]
  obtain ⟨V, hV, rb, hb2, hz2⟩ := alloc_row W 9 [.string S]
  obtain ⟨U, hU, rd, hb3, hz3⟩ := alloc_row V 30 [.int .u32 v]
  rw [hz1] at rb
  rw [hz2, hz1] at rd
  have hB : Below w.heap.size w U := (hb1.trans (hb2.mono (by omega))).trans (hb3.mono (by omega))
  replace ra := (ra.below hb2 ra.lt)
  replace ra := (ra.below hb3 ra.lt)
  replace rb := (rb.below hb3 rb.lt)
  have HV := Lib.hid (show U = ((w.alloc (.cells #[.pointer (some ⟨F.p, 0, none⟩)] 22)).alloc (.cells #[.string S] 9)).alloc (.cells #[.int .u32 v] 30) by rw [hU, hV, hW])
  have HH := H.below hB
  have hzV : U.heap.size = w.heap.size + 3 := by omega
  have vlt := isO_lt H.good hv
  have hp2 := hp
  unfold setGlobP at hp2
  split at hp2
  case isFalse => cases hp2
  rename_i hg
  obtain ⟨⟨k, h1⟩, e1, e2⟩ := Option.bind_eq_some_iff.1 hp2
  obtain ⟨⟨o2, h2⟩, e3, e4⟩ := Option.bind_eq_some_iff.1 e2
  obtain ⟨h3, e5, e6⟩ := Option.map_eq_some_iff.1 e4
  rw [Prod.mk.injEq] at e6
  obtain ⟨rfl, rfl⟩ := e6
  have HBa := Lib.hid ((kernel_bare HH (Ker.bare K)))
  have HKd := Lib.hid (fun X => show Calls Tryz.prog 24 #[.int .u32 v] X fun e w' => e = .returned (.int .i64 2) ∧ X = w' from by
    have h3 := oop_kind X v vlt
    have h4 := isO_iff.1 hv
    rw [kind_two.2 ⟨h4.1, h4.2.1⟩] at h3; exact h3)
  have HIs := Lib.hid (fun X (HX : HeapAt X F h) => show Calls Tryz.prog 25 #[.pointer (some ⟨F.p, 0, none⟩), .int .u32 v] X fun e w' => e = .returned (.bool true) ∧ X = w' from by
    have := heap_is HX v vlt
    rw [hv] at this; exact this)
  have HGl := Lib.hid (fun X (HX : HeapAt X F h) => show Calls Tryz.prog 60 #[.pointer (some ⟨F.p, 0, none⟩), .string S] X fun e w' => e = .returned (.int .u32 (0 : Nat)) ∧ Below X.heap.size X w' from by
    have := kernel_global HX (Ker.bare K) S hS
    rw [hg] at this; exact this)
  have HFn := Lib.hid (fun X (HX : HeapAt X F h) c (rA : Row X w.heap.size 22 [.pointer (some ⟨F.p, 0, none⟩)]) (rB : Row X (w.heap.size + 1) 9 [.string S]) (rc : Row X c 30 [.int .u32 0]) (rD : Row X (w.heap.size + 1 + 1) 30 [.int .u32 v]) (hcw : w.heap.size + 1 + 1 < c) =>
    kernel_setglobal_fn K S hS h0 v hv w.heap.size (w.heap.size + 1) c (w.heap.size + 1 + 1) X HX rA rB _ rc rD (fun e => Nat.lt_irrefl _ (H.lt _ e)) (fun e => absurd (H.lt _ e) (by omega)) (fun e => absurd (H.lt _ e) (by omega)) (by have := H.lt _ (mem_p F); have := H.low; omega) (by omega) (by omega) k h1 e1 o2 h2 e3 h3 e5)
  have c0 := ra.cell_at 0
  have c1 := rb.cell_at 0
  have c2 := rd.cell_at 0
  simp only [List.getElem?_cons_zero] at c0 c1 c2
  clear hW hV hU hz1 hz2 hz3 hb1 hb2 hb3 hp hp2 hg e1 e2 e3 e4 e5 H hv vlt
  go_enter Tryz.func41, Tryz.ntmps41
  go_wp2_with fail
  rw [← HV.out]
  go_wp2_with fail
  refine (HBa.out).mono ?_
  rintro e V0 ⟨rfl, hb⟩
  (try dsimp only)
  replace ra := ra.below hb ra.lt
  replace rb := rb.below hb rb.lt
  replace rd := rd.below hb rd.lt
  replace HH := HH.below hb
  replace hB := hB.trans (hb.mono hB.size)
  replace hzV : w.heap.size + 3 ≤ V0.heap.size := by have := hb.size; omega
  clear hb c0 c1 c2 HBa HV
  have c0 := ra.cell_at 0
  have c1 := rb.cell_at 0
  have c2 := rd.cell_at 0
  simp only [List.getElem?_cons_zero] at c0 c1 c2
  have HIs0 := Lib.hid (HIs.out _ HH)
  have HGl0 := Lib.hid (HGl.out _ HH)
  go_wp2_with fail
  refine (HKd.out _).mono ?_
  rintro e V00 ⟨rfl, rfl⟩
  (try dsimp only)
  go_wp2_with fail
  refine (HIs0.out).mono ?_
  rintro e V00 ⟨rfl, rfl⟩
  (try dsimp only)
  go_wp2_with fail
  refine (HGl0.out).mono ?_
  rintro e V1 ⟨rfl, hb⟩
  (try dsimp only)
  replace ra := ra.below hb ra.lt
  replace rb := rb.below hb rb.lt
  replace rd := rd.below hb rd.lt
  replace HH := HH.below hb
  replace hB := hB.trans (hb.mono hB.size)
  replace hzV : w.heap.size + 3 ≤ V1.heap.size := by have := hb.size; omega
  clear hb c0 c1 c2 HIs HGl HIs0 HGl0 HKd
  have HR := Lib.hid (fun Y (hC : Below V1.heap.size V1 Y) => (kernel_root (HH.below hC) 4 (by decide)).mono (R' := fun e w' => e = .returned (.int .u32 (wd h.rt 4 : Nat)) ∧ Below V1.heap.size V1 w') fun e w' ⟨x, y⟩ => ⟨x, by rw [← y]; exact hC⟩)
  have HP := Lib.hid (fun Y (hC : Below V1.heap.size V1 Y) => (kernel_pointers (HH.below hC) (wd h.rt 4) 0 (root_lt HH.good 4)).mono (R' := fun e w' => e = .returned (.bool true) ∧ Below V1.heap.size V1 w') fun e w' ⟨x, y⟩ => ⟨by rw [x, K.l4], hC.trans (y.mono hC.size)⟩)
  go_wp2_with fail
  refine wp_region_calm (fun Y => Below V1.heap.size V1 Y) (by kernel_rfl) (by kernel_rfl) (Below.refl _ _).drew ?_
  show wpQuiet _ _ _ _ [_, _, _, _, _] _
  refine wpQuiet_at 32 (.pointer (some ⟨F.p, 0, none⟩)) rfl (by kernel_rfl) (fun Y hC => ?_) ?_
  · have c0 := (ra.below hC ra.lt).cell_at 0
    simp only [List.getElem?_cons_zero] at c0
    go_simp
  simp only [Act.put, List.setIfInBounds_toArray, List.set_cons_zero, List.set_cons_succ]
  refine wpQuiet_at 33 (.pointer (some ⟨F.p, 0, none⟩)) rfl (by kernel_rfl) (fun Y hC => ?_) ?_
  · have c0 := (ra.below hC ra.lt).cell_at 0
    simp only [List.getElem?_cons_zero] at c0
    go_simp
  simp only [Act.put, List.setIfInBounds_toArray, List.set_cons_zero, List.set_cons_succ]
  refine wpQuiet_at 34 (.int .u32 (wd h.rt 4 : Nat)) rfl (by kernel_rfl) (fun Y hC => ?_) ?_
  · go_simp
    exact HR.out Y hC
  simp only [Act.put, List.setIfInBounds_toArray, List.set_cons_zero, List.set_cons_succ]
  refine wpQuiet_at 35 (.bool true) rfl (by kernel_rfl) (fun Y hC => ?_) ?_
  · go_simp
    exact HP.out Y hC
  simp only [Act.put, List.setIfInBounds_toArray, List.set_cons_zero, List.set_cons_succ]
  refine wpQuiet_at 36 (.bool false) rfl (by kernel_rfl) (fun Y hC => ?_) ?_
  · go_simp
  simp only [Act.put, List.setIfInBounds_toArray, List.set_cons_zero, List.set_cons_succ]
  refine wpQuiet_nil ?_
  intro V2 hb2
  replace ra := ra.below hb2 ra.lt
  replace rb := rb.below hb2 rb.lt
  replace rd := rd.below hb2 rd.lt
  replace HH := HH.below hb2
  replace hB := hB.trans (hb2.mono hB.size)
  replace hzV : w.heap.size + 3 ≤ V2.heap.size := by have := hb2.size; omega
  clear hb2 HR HP
  obtain ⟨V3, hV3, rc, hb3, hz3⟩ := alloc_row V2 30 [.int .u32 0]
  have HV3 := Lib.hid hV3
  have ra2 := ra
  have hlt := ra.lt
  replace ra := ra.below hb3 ra.lt
  replace rb := rb.below hb3 rb.lt
  replace rd := rd.below hb3 rd.lt
  replace HH := HH.below hb3
  replace hB := hB.trans (hb3.mono hB.size)
  obtain ⟨c, hc⟩ : ∃ c, c = V2.heap.size := ⟨_, rfl⟩
  rw [← hc] at rc
  have Hc := Lib.hid hc
  have hcw : w.heap.size + 1 + 1 < c := by omega
  have c0 := ra2.cell_at 0
  simp only [List.getElem?_cons_zero] at c0
  have HQ := Lib.hid (undo_setglobal HH (.pointer (some ⟨w.heap.size, 0, none⟩)) (.pointer (some ⟨w.heap.size + 1, 0, none⟩)) (.pointer (some ⟨c, 0, none⟩)) (.pointer (some ⟨w.heap.size + 1 + 1, 0, none⟩)) (fun X' => ∃ F', StepC [c] V3 F X' F' h3 ∧ Row X' c 30 [.int .u32 o2])
    (fun X hX => (HFn.out X (HH.below hX) c (ra.below hX ra.lt) (rb.below hX rb.lt) (rc.below hX rc.lt) (rd.below hX rd.lt) hcw).mono fun e X' ⟨x, F', ⟨y1, y2, y3⟩, y4⟩ => ⟨x, F', ⟨y1, ⟨y2.p, y2.gr, y2.gw.imp id (fun e => Nat.le_trans hX.size e), y2.gs.imp id (fun e => Nat.le_trans hX.size e)⟩, (Only.of_below hX).trans y3 (fun q hq => .inl hq)⟩, y4⟩))
  have HcF := Lib.hid (show w.heap.size ≤ c from by omega)
  clear HH HFn ra rb rc rd ra2 hcw hV3 hb3 hz3 hc hzV
  go_wp2_with fail
  rw [← Hc.out, ← HV3.out]
  refine (HQ.out).mono ?_
  rintro e V4 ⟨rfl, F', hT, rc4⟩
  (try dsimp only)
  have HM := Lib.hid (hT.moved hB (by intro g hg; rw [List.mem_singleton] at hg; rw [hg]; exact HcF.out))
  have c4 := rc4.cell_at 0
  simp only [List.getElem?_cons_zero] at c4
  clear hT rc4 HQ
  go_wp2_with fail
  go_ret2
  exact ⟨rfl, HM.out⟩
end
end Go.Proofs.YtllabdmmfohbaaaGreatDoor
