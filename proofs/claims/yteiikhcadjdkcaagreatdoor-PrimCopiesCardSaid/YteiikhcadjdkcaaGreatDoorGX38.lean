/- prim.Data of a primitive over objects that fails; the law's calls of that kind; kernel.Text; conversions of what came in. The walk of package kernel's SetGlobal, where the name is new. The walks of the booter's methods: alloc, class, intern, of. -/
import Derived.Test.YteiikhcadjdkcaaGreatDoorGX37
import Derived.Test.YteiikhcadjdkcaaGreatDoorGX16
set_option linter.unusedVariables false
set_option linter.unusedSimpArgs false
namespace Go.Proofs.YteiikhcadjdkcaaGreatDoor
open Go Go.RowKit Go.Maps Limb
def RuleF (F : Foot) (h : Hp) (r : Nat) (l : List Nat) (f : FuncId) : Prop :=
  (∀ args w, (callFunc f args).run Tryz.prog w = .ok (.enter f args) w) ∧ ∀ Y p ao, HeapAt Y F h → Row Y p 57 (callC F.p r ao l.length l.length 0) → ArgsAt Y ao l → p ∉ F.l → 5 ≤ p → (∀ ga, ao = some ⟨ga, 0, none⟩ → ga ∉ F.l) →
    Calls Tryz.prog f #[.pointer (some ⟨p, 0, none⟩)] Y fun e Y' => e = .returned (.int .i64 0) ∧ Below Y.heap.size Y Y'
section
variable {w : World} {F : Foot} {h : Hp}
set_option maxHeartbeats 6400000 in
set_option maxRecDepth 1000000 in
theorem prim_dataF (H : HeapAt w F h) (n r : Nat) (l : List Nat) {ao : Option Addr} (A : ArgsAt w ao l) (hga : ∀ ga, ao = some ⟨ga, 0, none⟩ → ga ∉ F.l) (hl : l.length ≤ 2) (h1 : 40 ≤ n) (h2 : n ≤ 56) (hr : ∀ k, k < 1 + l.length → wd (r :: l) k < 4294967296 ∧ (wd (r :: l) k % 2 = 1 ∨ isO h (wd (r :: l) k) = true)) {f : FuncId}
    (HT : ∀ X, Calls Tryz.prog 25 #[] X fun e X' => ∃ b t, e = .returned (.map (some b)) ∧ OwnM X X' b t ∧ t.map (·.1) = upK 5 ∧ ((n : Int), entV (l.length, .func f, #[], #[])) ∈ t) (hR : RuleF F h r l f) :
    Calls Tryz.prog 8 #[.pointer (some ⟨F.p, 0, none⟩), .int .i64 n, .int .u32 r, .slice ao l.length l.length] w fun e w' => e = .returned (.tuple #[.int .u32 0, .int .i64 0]) ∧ Below w.heap.size w w' := by
  obtain ⟨W1, hW1, r1, b1, z1⟩ := alloc_row w 57 [.pointer none, .pointer (some ⟨F.p, 0, none⟩), .int .u32 (r : Nat), .slice ao l.length l.length, .int .u32 0]
  obtain ⟨W2, hW2, r2, b2, z2⟩ := alloc_row W1 30 [.int .u32 (r : Nat)]
  have A2 := (A.below b1).below b2
  obtain ⟨g3, c3, W3, hr3, sl3, ho3⟩ := app_args W2 r2 A2 (by omega)
  have hB3 : Below w.heap.size w W3 := b1.trans ((b2.trans (ho3.belowB (B := W1.heap.size) (by omega) (fun p hp => by rw [List.mem_singleton] at hp; omega))).mono b1.size)
  have R3 : Row W3 w.heap.size 57 [.pointer none, .pointer (some ⟨F.p, 0, none⟩), .int .u32 (r : Nat), .slice ao l.length l.length, .int .u32 0] := (r1.below b2 r1.lt).only ho3 (by simp; omega)
  have A3 := A.below hB3
  have HIx := Lib.hid (fun W k (hk : k < 1 + l.length) => sl3.index 53 Tryz.underlying53 size_oop W .i64 k hk)
  have HCx := Lib.hid (fun k (hk : k < 1 + l.length) => show W3.cell? ⟨g3, k, none⟩ = some (.int .u32 (wd (r :: l) k : Nat)) from by
    have := sl3.cell hk
    rwa [nums_get (by rw [List.length_cons]; omega)] at this)
  have HK := Lib.hid (fun k (hk : k < 1 + l.length) => oop_kind W3 (wd (r :: l) k) (hr k hk).1)
  have HIs := Lib.hid (fun k (hk : k < 1 + l.length) => heap_is (H.below hB3) (wd (r :: l) k) (hr k hk).1)
  have HCs := Lib.hid (fun k (hk : k < 1 + l.length) => show (kindN (wd (r :: l) k) = 1) ∨ (kindN (wd (r :: l) k) = 2 ∧ isO h (wd (r :: l) k) = true) from by
    rcases (hr k hk).2 with e | e
    · exact .inl (by unfold kindN; rw [if_neg (by omega), if_pos e])
    · have e1 := isO_iff.1 e
      exact .inr ⟨kind_two.2 ⟨e1.1, e1.2.1⟩, e⟩)
  have HW := Lib.hid (show W2 = (w.alloc (.cells #[.pointer none, .pointer (some ⟨F.p, 0, none⟩), .int .u32 (r : Nat), .slice ao l.length l.length, .int .u32 0] 57)).alloc (.cells #[.int .u32 (r : Nat)] 30) by rw [hW2, hW1])
  have HT3 := Lib.hid (HT W3)
  have HB := Lib.hid hB3
  have HPf := Lib.hid (show w.heap.size ∉ F.l ∧ 5 ≤ w.heap.size from ⟨fun hm => Nat.lt_irrefl _ (H.lt _ hm), by have := H.low; have := H.lt F.p (by simp [Foot.l]); omega⟩)
  have HCall := Lib.hid (fun V (hb : Below W3.heap.size W3 V) => hR.2 V w.heap.size ao ((H.below hB3).below hb) (R3.below hb R3.lt) (A3.below hb) HPf.out.1 HPf.out.2 hga)
  have eF := hR.1
  have HAl := Lib.hid (fun X => prim_alone2 X n h1 h2)
  have HN := Lib.hid (show n ≤ 1000 by omega)
  rw [z1] at hr3
  have HR3 := Lib.hid hr3
  obtain ⟨m, hm⟩ : ∃ m, m = l.length := ⟨_, rfl⟩
  obtain ⟨M, hM⟩ : ∃ M, M = 1 + m := ⟨_, rfl⟩
  rw [← hm] at HR3 HW HT3 HIx HCx HK HIs HCs ⊢
  rw [← hM] at HR3 HIx HCx HK HIs HCs
  have hne : ((m : Int) != (m : Int)) = false := by simp
  have HM3 := Lib.hid (show M ≤ 3 by omega)
  generalize wd (r :: l) = ks at *
  clear hW1 r1 b1 z1 hW2 r2 b2 z2 A A2 sl3 hr3 ho3 hB3 R3 A3 HT H h1 h2 hr hga hR hm hl HPf hM
  go_enter Tryz.func8, Tryz.ntmps8
  go_wp2_with (at_builtin; (try rw [← HW.out]); refine Lib.wpList_append_run _ rfl _ _ _ _ rfl _ _ rfl rfl _ _ HR3.out ?_)
  clear HW HR3
  go_loopw [26] (fun i wr => ∃ k : Nat, k ≤ M ∧ i = .int .i64 k ∧ W3 = wr) (fun i _ => M - (RowKit.intOf i).toNat)
  case atStart => exact ⟨0, Nat.zero_le _, rfl, rfl⟩
  case round =>
    obtain ⟨k, hk, rfl, rfl⟩ := hrel
    by_cases hkm : k < M
    · have ix := fun W => HIx.out W k hkm
      have cx := HCx.out k hkm
      have d1 : decide ((k : Int) < (M : Int)) = true := decide_eq_true (by omega)
      have hk3 : (k : Int) ≤ 3 := by have := HM3.out; omega
      have hk4 : k ≤ 3 := by omega
      have HKk := Lib.hid (HK.out k hkm)
      have HIk := Lib.hid (HIs.out k hkm)
      rcases HCs.out k hkm with e1 | ⟨e1, e2⟩
      · rw [e1] at HKk
        have Hkm := Lib.hid hkm
        clear e1 HT3 HIk
        go_wp2_with fail
        refine HKk.out.mono ?_
        rintro e V ⟨rfl, rfl⟩
        (try dsimp only)
        go_wp2_with fail
        go_roundw
        case rel => exact ⟨k + 1, Hkm.out, by simp, by first | rfl | trivial⟩
        case measure => have := Hkm.out; simp [RowKit.intOf]; omega
      · rw [e1] at HKk
        rw [e2] at HIk
        have Hkm := Lib.hid hkm
        clear e1 e2 HT3
        go_wp2_with fail
        refine HKk.out.mono ?_
        rintro e V ⟨rfl, rfl⟩
        (try dsimp only)
        go_wp2_with fail
        refine HIk.out.mono ?_
        rintro e V ⟨rfl, rfl⟩
        (try dsimp only)
        go_wp2_with fail
        go_roundw
        case rel => exact ⟨k + 1, Hkm.out, by simp, by first | rfl | trivial⟩
        case measure => have := Hkm.out; simp [RowKit.intOf]; omega
    · obtain rfl : k = M := by omega
      have d1 : decide ((k : Int) < (k : Int)) = false := decide_eq_false (by omega)
      clear HIx HCx HK HIs HCs hk hkm
      go_wp2_with fail
      refine HT3.out.mono ?_
      rintro e X ⟨b, t, rfl, hO, hkl, hm⟩
      (try dsimp only)
      have hlk := look_ent hO hkl HN.out hm
      unfold entV at hlk
      have hbX := hO.2.2
      obtain ⟨Y, hY, ry, hby, hzy⟩ := alloc_row X 64 [.int .i64 m, .nilFunc]
      have q1' := ry.cell_at 1
      have f1' := ry.free 1
      have s1 := ry.store_any 1 (.func (.func f) #[] #[])
      have e0 := s1.cell_at 0
      have e1 := s1.cell_at 1
      simp only [List.set_cons_zero, List.set_cons_succ, List.getElem?_cons_zero, List.getElem?_cons_succ] at q1' e0 e1
      obtain ⟨Z, hZ⟩ : ∃ Z, Z = Y.setCell ⟨X.heap.size, 1, none⟩ (.func (.func f) #[] #[]) := ⟨_, rfl⟩
      have hst : (store ⟨X.heap.size, 1, none⟩ (.func (.func f) #[] #[])).run Tryz.prog Y = .ok () Z := by rw [hZ]; simp [store, Sem.run, q1', f1']
      have hbz : Below X.heap.size X Z := by rw [hZ]; exact hby.setCell (by simp) _
      rw [← hZ] at e0 e1 s1
      rw [hY] at hst
      have HS1 := Lib.hid s1
      have HBZ := Lib.hid hbz
      have HBX := Lib.hid hbX
      clear hZ hbz hO hkl hm hY ry hby hzy q1' f1' s1 hbX HT3
      go_wp2_with fail
      refine (HAl.out _).mono ?_
      rintro e V ⟨rfl, hb⟩
      (try dsimp only)
      have s2 := HS1.out.below hb HS1.out.lt
      have e0 := s2.cell_at 0
      have e1 := s2.cell_at 1
      simp only [List.set_cons_zero, List.set_cons_succ, List.getElem?_cons_zero, List.getElem?_cons_succ] at e0 e1
      have hbv := HBZ.out.trans (hb.mono HBZ.out.size)
      have HBV := Lib.hid (HBX.out.trans (hbv.mono HBX.out.size))
      have HCl := Lib.hid (HCall.out V HBV.out)
      have HBw := Lib.hid (HB.out.trans (HBV.out.mono HB.out.size))
      clear s2 hb hbv HS1 HBZ hst hlk HAl HN HBX HCall HBV HB
      go_wp2_with fail
      refine HCl.out.mono ?_
      rintro e U ⟨rfl, hd⟩
      (try dsimp only)
      have HMv := Lib.hid (HBw.out.trans (hd.mono HBw.out.size))
      clear hd HCl e0 e1
      go_wp2_with fail
      go_ret2
      exact ⟨rfl, HMv.out⟩
end
section
variable {w X : World} {P j : Nat} {F : Foot} {h : Hp}
theorem d_54no (S : St w P X F h j) {s q1 q2 : Nat} {t : List Nat} (b : Bs h s (wd h.rt 19) t) (ht : t.length ≤ 2000) (hq1 : q1 % 2 = 1 ∧ q1 < 4294967296) (hq2 : q2 % 2 = 1 ∧ q2 < 4294967296) (hw : withinB (valueO q1) (valueO q2) t.length = false) :
    Calls Tryz.prog 8 #[.pointer (some ⟨P, 0, none⟩), .int .i64 54, .int .u32 s, .slice (some ⟨X.heap.size, 0, none⟩) 2 2] (X.alloc (.cells #[.int .u32 (q1 : Nat), .int .u32 (q2 : Nat)] 30)) fun e X' => e = .returned (.tuple #[.int .u32 0, .int .i64 0]) ∧ Below X.heap.size X X' := by
  obtain ⟨V, hV, A, hbV⟩ := row_args X [q1, q2] (by simp)
  have := prim_dataF (S.at_.below hbV) 54 s [q1, q2] A (args_new S.at_) (by simp) (by decide) (by decide) (fun k hk => by
    have : k = 0 ∨ k = 1 ∨ k = 2 := by simp at hk; omega
    rcases this with rfl | rfl | rfl
    · exact ⟨bs_lt S.at_.good b, .inr b.is⟩
    · exact ⟨hq1.2, .inl hq1.1⟩
    · exact ⟨hq2.2, .inl hq2.1⟩) (f := 127) (tab_objE (by simp [objE, txtE])) ⟨enters_of Tryz.func127 (by kernel_rfl) rfl, fun Y p ao HY R A hp h5 hga => by
      obtain ⟨ga, rfl, ra, -⟩ := A.resolve_left (fun e => by cases e.1)
      exact (prim_part (o := 0) (h' := h) HY S.sc R ra hq1.1 hq1.2 hq2.1 hq2.2 hp h5 b (by omega) (fun e => by rw [hw] at e; cases e)).mono fun e Y' h => h.2 hw⟩
  rw [S.p, hV] at this
  exact this.mono fun e X' ⟨he, hm⟩ => ⟨he, hbV.trans ((hV ▸ hm).mono hbV.size)⟩
set_option maxHeartbeats 1600000 in
set_option maxRecDepth 100000 in
theorem kernel_text (H : HeapAt w F h) (L : Live h) {o c : Nat} {T : ByteArray} (b : Bs h o c (tx T)) :
    Calls Tryz.prog 9 #[.pointer (some ⟨F.p, 0, none⟩), .int .u32 o] w fun e w' => e = .returned (.tuple #[.string T, .int .i64 0]) ∧ Below w.heap.size w w' := by
  have HBa := Lib.hid (kernel_bare H L)
  have HBy := Lib.hid (fun X (hb : Below w.heap.size w X) => by
    have hB := heap_BytesC (H.below hb) o b.is b.fmt
    rw [b.len, b.byt] at hB
    exact hB)
  have HB8 := Lib.hid b.b8
  clear H L b
  go_enter Tryz.func9, Tryz.ntmps9
  go_wp2_with fail
  refine (HBa.out).mono ?_
  rintro e V ⟨rfl, hb⟩
  (try dsimp only)
  have HB := Lib.hid hb
  clear hb HBa
  go_wp2_with fail
  refine (HBy.out _ HB.out).mono ?_
  rintro e V1 ⟨⟨g, rfl, -, hly⟩, hb⟩
  (try dsimp only)
  have HB1 := Lib.hid (HB.out.trans (hb.mono HB.out.size))
  obtain ⟨s1, e1, c1⟩ := conv_lay (P := Tryz.prog) (c := (tx T).length) 22 5 Tryz.underlying22 Tryz.underlying5 hly ⟨_, rfl⟩ rfl HB8.out
  obtain rfl : s1 = T := tx_inj e1
  have d1 := c1 9 Tryz.underlying9
  clear hb HBy HB hly e1 c1
  generalize (tx s1).length = n at *
  go_wp2_with fail
  go_ret2
  exact ⟨rfl, HB1.out⟩
end
end Go.Proofs.YteiikhcadjdkcaaGreatDoor
namespace Go.Proofs.YteiikhcadjdkcaaGreatDoor
open Go Go.RowKit Limb
section
variable {w : World} {F : Foot} {h : Hp}
set_option maxHeartbeats 1600000 in
set_option maxRecDepth 100000 in
theorem kernel_setglobal (H : HeapAt w F h) (K : Limb.Ker h) (S : ByteArray) (hS : S.size ≤ 262140) (h0 : 0 < S.size) (v : Nat) (hv : isO h v = true) (o : Nat) (h' : Hp) (hp : setGlobP h (tx S) v = some (o, h')) :
    Calls Tryz.prog 41 #[.pointer (some ⟨F.p, 0, none⟩), .string S, .int .u32 v] w fun e w' => e = .returned (.tuple #[.int .u32 o, .int .i64 0]) ∧ Moved w F w' h' := by
  obtain ⟨W, hW, ra, hb1, hz1⟩ := alloc_row w 23 [.pointer (some ⟨F.p, 0, none⟩)]
  obtain ⟨V, hV, rb, hb2, hz2⟩ := alloc_row W 9 [.string S]
  obtain ⟨U, hU, rd, hb3, hz3⟩ := alloc_row V 30 [.int .u32 v]
  rw [hz1] at rb
  rw [hz2, hz1] at rd
  have hB : Below w.heap.size w U := (hb1.trans (hb2.mono (by omega))).trans (hb3.mono (by omega))
  replace ra := (ra.below hb2 ra.lt)
  replace ra := (ra.below hb3 ra.lt)
  replace rb := (rb.below hb3 rb.lt)
  have HV := Lib.hid (show U = ((w.alloc (.cells #[.pointer (some ⟨F.p, 0, none⟩)] 23)).alloc (.cells #[.string S] 9)).alloc (.cells #[.int .u32 v] 30) by rw [hU, hV, hW])
  have HH := H.below hB
  have hzV : U.heap.size = w.heap.size + 3 := by omega
  have vlt := isO_lt H.good hv
  have hp2 := hp
  unfold setGlobP at hp2
  split at hp2
  case isFalse => cases hp2
  rename_i hg
  obtain ⟨⟨k, h1⟩, e1, e2⟩ := Option.bind_eq_some_iff.1 hp2
  obtain ⟨⟨o2, h2⟩, e3, e4⟩ := Option.bind_eq_some_iff.1 e2
  obtain ⟨h3, e5, e6⟩ := Option.map_eq_some_iff.1 e4
  rw [Prod.mk.injEq] at e6
  obtain ⟨rfl, rfl⟩ := e6
  have HBa := Lib.hid ((kernel_bare HH (Ker.bare K)))
  have HKd := Lib.hid (fun X => show Calls Tryz.prog 23 #[.int .u32 v] X fun e w' => e = .returned (.int .i64 2) ∧ X = w' from by
    have h3 := oop_kind X v vlt
    have h4 := isO_iff.1 hv
    rw [kind_two.2 ⟨h4.1, h4.2.1⟩] at h3; exact h3)
  have HIs := Lib.hid (fun X (HX : HeapAt X F h) => show Calls Tryz.prog 24 #[.pointer (some ⟨F.p, 0, none⟩), .int .u32 v] X fun e w' => e = .returned (.bool true) ∧ X = w' from by
    have := heap_is HX v vlt
    rw [hv] at this; exact this)
  have HGl := Lib.hid (fun X (HX : HeapAt X F h) => show Calls Tryz.prog 63 #[.pointer (some ⟨F.p, 0, none⟩), .string S] X fun e w' => e = .returned (.int .u32 (0 : Nat)) ∧ Below X.heap.size X w' from by
    have := kernel_global HX (Ker.bare K) S hS
    rw [hg] at this; exact this)
  have HFn := Lib.hid (fun X (HX : HeapAt X F h) c (rA : Row X w.heap.size 23 [.pointer (some ⟨F.p, 0, none⟩)]) (rB : Row X (w.heap.size + 1) 9 [.string S]) (rc : Row X c 30 [.int .u32 0]) (rD : Row X (w.heap.size + 1 + 1) 30 [.int .u32 v]) (hcw : w.heap.size + 1 + 1 < c) =>
    kernel_setglobal_fn K S hS h0 v hv w.heap.size (w.heap.size + 1) c (w.heap.size + 1 + 1) X HX rA rB _ rc rD (fun e => Nat.lt_irrefl _ (H.lt _ e)) (fun e => absurd (H.lt _ e) (by omega)) (fun e => absurd (H.lt _ e) (by omega)) (by have := H.lt _ (mem_p F); have := H.low; omega) (by omega) (by omega) k h1 e1 o2 h2 e3 h3 e5)
  have c0 := ra.cell_at 0
  have c1 := rb.cell_at 0
  have c2 := rd.cell_at 0
  simp only [List.getElem?_cons_zero] at c0 c1 c2
  clear hW hV hU hz1 hz2 hz3 hb1 hb2 hb3 hp hp2 hg e1 e2 e3 e4 e5 H hv vlt
  go_enter Tryz.func41, Tryz.ntmps41
  go_wp2_with fail
  rw [← HV.out]
  go_wp2_with fail
  refine (HBa.out).mono ?_
  rintro e V0 ⟨rfl, hb⟩
  (try dsimp only)
  replace ra := ra.below hb ra.lt
  replace rb := rb.below hb rb.lt
  replace rd := rd.below hb rd.lt
  replace HH := HH.below hb
  replace hB := hB.trans (hb.mono hB.size)
  replace hzV : w.heap.size + 3 ≤ V0.heap.size := by have := hb.size; omega
  clear hb c0 c1 c2 HBa HV
  have c0 := ra.cell_at 0
  have c1 := rb.cell_at 0
  have c2 := rd.cell_at 0
  simp only [List.getElem?_cons_zero] at c0 c1 c2
  have HIs0 := Lib.hid (HIs.out _ HH)
  have HGl0 := Lib.hid (HGl.out _ HH)
  go_wp2_with fail
  refine (HKd.out _).mono ?_
  rintro e V00 ⟨rfl, rfl⟩
  (try dsimp only)
  go_wp2_with fail
  refine (HIs0.out).mono ?_
  rintro e V00 ⟨rfl, rfl⟩
  (try dsimp only)
  go_wp2_with fail
  refine (HGl0.out).mono ?_
  rintro e V1 ⟨rfl, hb⟩
  (try dsimp only)
  replace ra := ra.below hb ra.lt
  replace rb := rb.below hb rb.lt
  replace rd := rd.below hb rd.lt
  replace HH := HH.below hb
  replace hB := hB.trans (hb.mono hB.size)
  replace hzV : w.heap.size + 3 ≤ V1.heap.size := by have := hb.size; omega
  clear hb c0 c1 c2 HIs HGl HIs0 HGl0 HKd
  have HR := Lib.hid (fun Y (hC : Below V1.heap.size V1 Y) => (kernel_root (HH.below hC) 4 (by decide)).mono (R' := fun e w' => e = .returned (.int .u32 (wd h.rt 4 : Nat)) ∧ Below V1.heap.size V1 w') fun e w' ⟨x, y⟩ => ⟨x, by rw [← y]; exact hC⟩)
  have HP := Lib.hid (fun Y (hC : Below V1.heap.size V1 Y) => (kernel_pointers (HH.below hC) (wd h.rt 4) 0 (root_lt HH.good 4)).mono (R' := fun e w' => e = .returned (.bool true) ∧ Below V1.heap.size V1 w') fun e w' ⟨x, y⟩ => ⟨by rw [x, K.l4], hC.trans (y.mono hC.size)⟩)
  go_wp2_with fail
  refine wp_region_calm (fun Y => Below V1.heap.size V1 Y) (by kernel_rfl) (by kernel_rfl) (Below.refl _ _).drew ?_
  show wpQuiet _ _ _ _ [_, _, _, _, _] _
  refine wpQuiet_at 32 (.pointer (some ⟨F.p, 0, none⟩)) rfl (by kernel_rfl) (fun Y hC => ?_) ?_
  · have c0 := (ra.below hC ra.lt).cell_at 0
    simp only [List.getElem?_cons_zero] at c0
    go_simp
  simp only [Act.put, List.setIfInBounds_toArray, List.set_cons_zero, List.set_cons_succ]
  refine wpQuiet_at 33 (.pointer (some ⟨F.p, 0, none⟩)) rfl (by kernel_rfl) (fun Y hC => ?_) ?_
  · have c0 := (ra.below hC ra.lt).cell_at 0
    simp only [List.getElem?_cons_zero] at c0
    go_simp
  simp only [Act.put, List.setIfInBounds_toArray, List.set_cons_zero, List.set_cons_succ]
  refine wpQuiet_at 34 (.int .u32 (wd h.rt 4 : Nat)) rfl (by kernel_rfl) (fun Y hC => ?_) ?_
  · go_simp
    exact HR.out Y hC
  simp only [Act.put, List.setIfInBounds_toArray, List.set_cons_zero, List.set_cons_succ]
  refine wpQuiet_at 35 (.bool true) rfl (by kernel_rfl) (fun Y hC => ?_) ?_
  · go_simp
    exact HP.out Y hC
  simp only [Act.put, List.setIfInBounds_toArray, List.set_cons_zero, List.set_cons_succ]
  refine wpQuiet_at 36 (.bool false) rfl (by kernel_rfl) (fun Y hC => ?_) ?_
  · go_simp
  simp only [Act.put, List.setIfInBounds_toArray, List.set_cons_zero, List.set_cons_succ]
  refine wpQuiet_nil ?_
  intro V2 hb2
  replace ra := ra.below hb2 ra.lt
  replace rb := rb.below hb2 rb.lt
  replace rd := rd.below hb2 rd.lt
  replace HH := HH.below hb2
  replace hB := hB.trans (hb2.mono hB.size)
  replace hzV : w.heap.size + 3 ≤ V2.heap.size := by have := hb2.size; omega
  clear hb2 HR HP
  obtain ⟨V3, hV3, rc, hb3, hz3⟩ := alloc_row V2 30 [.int .u32 0]
  have HV3 := Lib.hid hV3
  have ra2 := ra
  have hlt := ra.lt
  replace ra := ra.below hb3 ra.lt
  replace rb := rb.below hb3 rb.lt
  replace rd := rd.below hb3 rd.lt
  replace HH := HH.below hb3
  replace hB := hB.trans (hb3.mono hB.size)
  obtain ⟨c, hc⟩ : ∃ c, c = V2.heap.size := ⟨_, rfl⟩
  rw [← hc] at rc
  have Hc := Lib.hid hc
  have hcw : w.heap.size + 1 + 1 < c := by omega
  have c0 := ra2.cell_at 0
  simp only [List.getElem?_cons_zero] at c0
  have HQ := Lib.hid (undo_setglobal HH (.pointer (some ⟨w.heap.size, 0, none⟩)) (.pointer (some ⟨w.heap.size + 1, 0, none⟩)) (.pointer (some ⟨c, 0, none⟩)) (.pointer (some ⟨w.heap.size + 1 + 1, 0, none⟩)) (fun X' => ∃ F', StepC [c] V3 F X' F' h3 ∧ Row X' c 30 [.int .u32 o2])
    (fun X hX => (HFn.out X (HH.below hX) c (ra.below hX ra.lt) (rb.below hX rb.lt) (rc.below hX rc.lt) (rd.below hX rd.lt) hcw).mono fun e X' ⟨x, F', ⟨y1, y2, y3⟩, y4⟩ => ⟨x, F', ⟨y1, ⟨y2.p, y2.gr, y2.gw.imp id (fun e => Nat.le_trans hX.size e), y2.gs.imp id (fun e => Nat.le_trans hX.size e)⟩, (Only.of_below hX).trans y3 (fun q hq => .inl hq)⟩, y4⟩))
  have HcF := Lib.hid (show w.heap.size ≤ c from by omega)
  clear HH HFn ra rb rc rd ra2 hcw hV3 hb3 hz3 hc hzV
  go_wp2_with fail
  rw [← Hc.out, ← HV3.out]
  refine (HQ.out).mono ?_
  rintro e V4 ⟨rfl, F', hT, rc4⟩
  (try dsimp only)
  have HM := Lib.hid (hT.moved hB (by intro g hg; rw [List.mem_singleton] at hg; rw [hg]; exact HcF.out))
  have c4 := rc4.cell_at 0
  simp only [List.getElem?_cons_zero] at c4
  clear hT rc4 HQ
  go_wp2_with fail
  go_ret2
  exact ⟨rfl, HM.out⟩
end
end Go.Proofs.YteiikhcadjdkcaaGreatDoor
namespace Go.Proofs.YteiikhcadjdkcaaGreatDoor
open Go Go.RowKit Limb
section
variable {w : World} {F : Foot} {h : Hp}
def BootRow (w : World) (F : Foot) (pb : Nat) : Prop := Row w pb 44 [.pointer (some ⟨F.p, 0, none⟩), .int .i64 0]
theorem BootRow.cells {pb : Nat} (r : BootRow w F pb) : w.cell? ⟨pb, 0, none⟩ = some (.pointer (some ⟨F.p, 0, none⟩)) ∧ w.cell? ⟨pb, 1, none⟩ = some (.int .i64 0) := by
  have c0 := Row.cell_at r 0
  have c1 := Row.cell_at r 1
  exact ⟨c0, c1⟩
set_option maxHeartbeats 1600000 in
set_option maxRecDepth 100000 in
theorem booter_alloc (H : HeapAt w F h) {pb : Nat} (rb : BootRow w F pb) (hpb : pb ∉ F.l) (n o : Nat) (h' : Hp) (hn : n ≤ 65535) (hp : allocP h 0 1 n = some (o, h')) :
    Calls Tryz.prog 15 #[.pointer (some ⟨pb, 0, none⟩), .int .i64 n] w fun e w' => e = .returned (.int .u32 o) ∧ Moved w F w' h' := by
  have HA := Lib.hid (show Calls Tryz.prog 31 #[.pointer (some ⟨F.p, 0, none⟩), .int .u32 0, .int .i64 1, .int .i64 n] w fun e w' => e = .returned (.tuple #[.int .u32 o, .int .i64 0]) ∧ Moved w F w' h' from heap_Alloc H 0 1 n o h' (by decide) (by decide) hn hp)
  obtain ⟨c0, c1⟩ := rb.cells
  have RB := Lib.hid rb
  have HPB := Lib.hid hpb
  clear H rb hpb hp
  go_enter Tryz.func15, Tryz.ntmps15
  go_wp2_with fail
  refine (HA.out).mono ?_
  rintro e V ⟨rfl, F', hS⟩
  (try dsimp only)
  have rb := hS.beside RB.out HPB.out
  have c2 := Row.cell_at rb 1
  have z2 := rb.free 1
  have hself := cell_self (i := 1) rb rfl
  simp only [List.getElem?_cons_zero, List.getElem?_cons_succ] at c2
  have HS := Lib.hid (show Moved w F V h' from ⟨F', hS⟩)
  clear hS rb RB HPB
  go_wp2_with fail
  go_ret
  exact ⟨rfl, HS.out⟩
set_option maxRecDepth 100000 in
theorem booter_class (H : HeapAt w F h) {pb : Nat} (rb : BootRow w F pb) (i : Nat) (hi : i < 64) :
    Calls Tryz.prog 33 #[.pointer (some ⟨pb, 0, none⟩), .int .i64 i] w fun e w' => e = .returned (.int .u32 (wd h.rt i : Nat)) ∧ w = w' := by
  have HR := Lib.hid (kernel_root H i hi)
  obtain ⟨c0, c1⟩ := rb.cells
  clear H rb
  go_enter Tryz.func33, Tryz.ntmps33
  go_wp2_with fail
  refine (HR.out).mono ?_
  rintro e w1 ⟨rfl, rfl⟩
  (try dsimp only)
  go_wp2_with fail
  go_ret
  exact ⟨rfl, rfl⟩
set_option maxHeartbeats 1600000 in
set_option maxRecDepth 100000 in
theorem booter_intern (H : HeapAt w F h) (K : Limb.Ker h) {pb : Nat} (rb : BootRow w F pb) (hpb : pb ∉ F.l) (S : ByteArray) (hS : S.size ≤ 262140) (h0 : 0 < S.size) (o : Nat) (h' : Hp) (hp : internP h (tx S) = some (o, h')) :
    Calls Tryz.prog 40 #[.pointer (some ⟨pb, 0, none⟩), .string S] w fun e w' => e = .returned (.int .u32 o) ∧ Moved w F w' h' := by
  have HA := Lib.hid (kernel_intern H K S hS h0 o h' hp)
  obtain ⟨c0, c1⟩ := rb.cells
  have RB := Lib.hid rb
  have HPB := Lib.hid hpb
  clear H rb hpb hp
  go_enter Tryz.func40, Tryz.ntmps40
  go_wp2_with fail
  refine (HA.out).mono ?_
  rintro e V ⟨rfl, F', hS⟩
  (try dsimp only)
  have rb := hS.beside RB.out HPB.out
  have c2 := Row.cell_at rb 1
  have z2 := rb.free 1
  have hself := cell_self (i := 1) rb rfl
  simp only [List.getElem?_cons_zero, List.getElem?_cons_succ] at c2
  have HS := Lib.hid (show Moved w F V h' from ⟨F', hS⟩)
  clear hS rb RB HPB
  go_wp2_with fail
  go_ret
  exact ⟨rfl, HS.out⟩
set_option maxHeartbeats 1600000 in
set_option maxRecDepth 100000 in
theorem booter_of (H : HeapAt w F h) {pb : Nat} (rb : BootRow w F pb) (hpb : pb ∉ F.l) (o i : Nat) (hi : i < 64) (ho : isO h o = true) (hc : isO h (wd h.rt i) = true) :
    Calls Tryz.prog 39 #[.pointer (some ⟨pb, 0, none⟩), .int .u32 o, .int .i64 i] w fun e w' => e = .returned (.tuple #[]) ∧ Step w F w' F (setC h o (wd h.rt i)) := by
  have HR := Lib.hid (fun V (hB : Below w.heap.size w V) => (booter_class (H.below hB) (Row.below rb hB rb.lt) i hi).mono (R' := fun e w' => e = .returned (.int .u32 (wd h.rt i : Nat)) ∧ Below V.heap.size V w') fun e w' ⟨x, y⟩ => ⟨x, by rw [← y]; exact Below.refl _ _⟩)
  have HSc := Lib.hid (fun V (hB : Below w.heap.size w V) => (heap_setclass (H.below hB) o (wd h.rt i) (isO_lt H.good ho) (root_lt H.good i) ho (isO_cls hc)).mono fun e w' ⟨x, y⟩ => (⟨x, Step.of_below hB y⟩ : _ ∧ Step w F w' F (setC h o (wd h.rt i))))
  have hB : Below w.heap.size w w.drew := (Below.refl _ _).drew
  have hX : Row w.drew pb 44 [.pointer (some ⟨F.p, 0, none⟩), .int .i64 0] := rb
  have HRB := Lib.hid (show Row w pb 44 [.pointer (some ⟨F.p, 0, none⟩), .int .i64 0] from rb)
  clear H rb ho hc
  go_enter Tryz.func39, Tryz.ntmps39
  go_wp2_with fail
  refine wp_region_held (S := fun Y => Row Y pb 44 [.pointer (some ⟨F.p, 0, none⟩), .int .i64 0]) (by kernel_rfl) ?_
  refine wpAnyH_take_at (i := 0) (v := .pointer (some ⟨pb, 0, none⟩)) 6 rfl rfl (by kernel_rfl) (by kernel_rfl) (by kernel_rfl) (fun _ _ _ h => h) (.inl ⟨rfl, fun X hX => by go_simp⟩) hX ?_
  simp only [Act.put, List.setIfInBounds_toArray, List.set_cons_zero, List.set_cons_succ]
  refine wpAnyH_take_at (i := 1) (v := .pointer (some ⟨pb, 0, none⟩)) 7 rfl rfl (by kernel_rfl) (by kernel_rfl) (by kernel_rfl) (fun _ _ _ h => h) (.inl ⟨rfl, fun X hX => by go_simp⟩) hX ?_
  simp only [Act.put, List.setIfInBounds_toArray, List.set_cons_zero, List.set_cons_succ]
  refine wpAnyH_take_at (i := 2) (v := .pointer (some ⟨pb, 0, none⟩)) 8 rfl rfl (by kernel_rfl) (by kernel_rfl) (by kernel_rfl) (fun _ _ _ h => h) (.inl ⟨rfl, fun X hX => by go_simp⟩) hX ?_
  simp only [Act.put, List.setIfInBounds_toArray, List.set_cons_zero, List.set_cons_succ]
  refine wpAnyH_take_at (i := 3) (v := .pointer (some ⟨F.p, 0, none⟩)) 9 rfl rfl (by kernel_rfl) (by kernel_rfl) (by kernel_rfl) (fun _ _ _ h => h) (.inl ⟨rfl, fun X hX => by have c0 := hX.cell_at 0; simp only [List.getElem?_cons_zero] at c0; go_simp⟩) hX ?_
  simp only [Act.put, List.setIfInBounds_toArray, List.set_cons_zero, List.set_cons_succ]
  refine wpAnyH_take_at (i := 4) (v := .int .u32 o) 10 rfl rfl (by kernel_rfl) (by kernel_rfl) (by kernel_rfl) (fun _ _ _ h => h) (.inl ⟨rfl, fun X hX => by go_simp⟩) hX ?_
  simp only [Act.put, List.setIfInBounds_toArray, List.set_cons_zero, List.set_cons_succ]
  refine wpAnyH_take_at (i := 5) (v := .pointer (some ⟨pb, 0, none⟩)) 11 rfl rfl (by kernel_rfl) (by kernel_rfl) (by kernel_rfl) (fun _ _ _ h => h) (.inl ⟨rfl, fun X hX => by go_simp⟩) hX ?_
  simp only [Act.put, List.setIfInBounds_toArray, List.set_cons_zero, List.set_cons_succ]
  refine wpAnyH_take_at (i := 6) (v := .int .i64 i) 12 rfl rfl (by kernel_rfl) (by kernel_rfl) (by kernel_rfl) (fun _ _ _ h => h) (.inl ⟨rfl, fun X hX => by go_simp⟩) hX ?_
  simp only [Act.put, List.setIfInBounds_toArray, List.set_cons_zero, List.set_cons_succ]
  refine wpAnyH_all (rs := [7]) (by kernel_rfl) (by decide) (fun i hi => ?_)
  rw [List.mem_singleton] at hi
  subst hi
  unfold wpOp
  go_simp
  refine .inl ((HR.out _ hB).mono ?_)
  rintro e X1 ⟨rfl, hb⟩
  replace hX := hX.below hb hX.lt
  replace hB := hB.trans (hb.mono hB.size)
  clear hb
  refine ⟨hX, ?_⟩
  refine wpAnyH_all (rs := [8]) (by kernel_rfl) (by decide) (fun i hi => ?_)
  rw [List.mem_singleton] at hi
  subst hi
  unfold wpOp
  go_simp
  refine .inl ((HSc.out _ hB).mono ?_)
  rintro e X2 ⟨rfl, hSt⟩
  replace hX := HRB.out.only hSt.2.2 hpb
  refine ⟨hX, ?_⟩
  refine wpAnyH_done (by kernel_rfl) ?_ _
  have HSt := Lib.hid hSt
  clear hSt hB hX HR HSc HRB
  go_wp2_with fail
  go_returns
  exact ⟨rfl, HSt.out⟩
end
end Go.Proofs.YteiikhcadjdkcaaGreatDoor
