/- The walk of package kernel's ownFields. What the walk of the booter's classes carries along. -/
import Derived.Test.YteiikhcadjdkcaaGreatDoorGX40
import Derived.Test.YteiikhcadjdkcaaGreatDoorGX10
set_option linter.unusedVariables false
set_option linter.unusedSimpArgs false
namespace Go.Proofs.YteiikhcadjdkcaaGreatDoor
open Go Go.RowKit Limb
def Syms (w : World) (v : Value) (xs : List Nat) (B : Nat) (F : Foot) : Prop :=
  (v = .slice none 0 0 ∧ xs = []) ∨ ∃ g c, v = .slice (some ⟨g, 0, none⟩) xs.length c ∧ Sl w g 30 xs.length c (nums .u32 xs) ∧ B ≤ g ∧ g ∉ F.l ∧ 0 < xs.length
section
variable {w : World} {F : Foot} {h : Hp}
theorem Syms.step {v : Value} {xs : List Nat} {B : Nat} (hs : Syms w v xs B F) {w' : World} {F' : Foot} {h' : Hp} (st : Step w F w' F' h') : Syms w' v xs B F' := by
  rcases hs with hs | ⟨g, c, h1, h2, h3, h4, h5⟩
  · exact .inl hs
  · exact .inr ⟨g, c, h1, h2.only st.2.2 h4, h3, aside_next st.2.1 h2.lt h4, h5⟩
theorem Syms.owns {v : Value} {xs : List Nat} {B : Nat} (hs : Syms w v xs B F) : w.ownsRow 0 30 1 v xs.length (nums .u32 xs) := by
  rcases hs with ⟨rfl, rfl⟩ | ⟨g, c, rfl, h2, h3, h4, h5⟩
  · exact ⟨rfl, .inl ⟨rfl, rfl⟩⟩
  · exact h2.owns
theorem Syms.ownBlock {v : Value} {xs : List Nat} {B : Nat} (hs : Syms w v xs B F) : v.ownBlock = none ∨ ∃ g, v.ownBlock = some g ∧ B ≤ g ∧ g ∉ F.l := by
  rcases hs with ⟨rfl, rfl⟩ | ⟨g, c, rfl, h2, h3, h4, h5⟩
  · exact .inl rfl
  · exact .inr ⟨g, rfl, h3, h4⟩
theorem syms_append {v : Value} {xs : List Nat} {X : World} {F1 : Foot} {h1 : Hp} (st : Step w F X F1 h1) (hs : Syms X v xs w.heap.size F1) (h5w : 5 ≤ w.heap.size) (o : Nat) (hl : xs.length ≤ 100000) :
    ∃ v' X', (Builtin.append_ #[53, 53] 53 #[v, .slice (some ⟨X.heap.size, 0, none⟩) 1 1]).run Tryz.prog (X.alloc (.cells #[.int .u32 o] 30)) = .ok v' X' ∧ Step w F X' F1 h1 ∧ Syms X' v' (xs ++ [o]) w.heap.size F1 := by
  obtain ⟨i0, hi, hz0, hz1, hz2⟩ := info_parts info_oop
  have hb : Below X.heap.size X (X.alloc (.cells #[.int .u32 o] 30)) := (Below.refl _ _).alloc (Nat.le_refl _) _
  have hown := hs.owns
  have hown2 : (X.alloc (.cells #[.int .u32 o] 30)).ownsRow 0 30 1 v xs.length (nums .u32 xs) := hown.alloc _
  obtain ⟨v', X', hr, h2, h3, h4, h5⟩ := run_append_own_at (P := Tryz.prog) (w := X.alloc (.cells #[.int .u32 o] 30)) 0 53 53 30 i0 (.int .u32 0) 1 4 Tryz.underlying53 hi hz0 hz1 hz2 rfl (by decide) v xs.length _ hown2 ⟨X.heap.size, 0, none⟩ 1 1 (nums .u32 [o]) rfl (cell_one_new _ _ _) (by simp [nums, Value.oneCell']) (Nat.le_trans (show xs.length + 1 ≤ 100001 by omega) (by decide)) (by omega) (Nat.zero_le _)
  have stX := st.below hb
  have hXs : X.heap.size < (X.alloc (.cells #[.int .u32 o] 30)).heap.size := by rw [World.size_alloc]; omega
  have hlt := st.1.lt
  have hob := hs.ownBlock
  have ho : Only v.ownBlock.toList (X.alloc (.cells #[.int .u32 o] 30)) X' := ⟨h3.os, h3.tape, h3.output, h3.size, fun k hk hn => h3.block k hk (fun e => by rw [← e] at hn; exact hn (List.mem_singleton.2 rfl))⟩
  have hot : ∀ q ∈ v.ownBlock.toList, w.heap.size ≤ q ∧ q ∉ F1.l ∧ 5 ≤ q := by
    intro q hq
    rcases hob with e | ⟨g, e, e1, e2⟩
    · rw [e] at hq; cases hq
    · rw [e] at hq; have hq : q = g := List.mem_singleton.1 hq
      subst hq; exact ⟨e1, e2, by omega⟩
  have st2 : Step w F X' F1 h1 := ⟨stX.1.only ho (fun g hg e => (hot g e).2.1 hg) (fun e => absurd (hot _ e).2.2 (by decide)), stX.2.1, stX.2.2.trans ho (fun q hq => .inr (hot q hq).1)⟩
  obtain ⟨g', c', rfl, hgb, hs'⟩ := Sl.of_owns h2 (by omega)
  rw [← nums_append] at hs'
  refine ⟨_, X', hr, st2, .inr ⟨g', c', by rw [List.length_append]; rfl, by rw [List.length_append]; exact hs', ?_, ?_, by rw [List.length_append]; exact Nat.succ_pos _⟩⟩
  · rw [hgb] at h5
    rcases h5 with h5 | h5
    · rcases hob with e | ⟨g, e, e1, e2⟩
      · rw [e] at h5; cases h5
      · rw [e] at h5; rw [Option.some.inj h5]; exact e1
    · have := st.2.2.size; rw [Option.some.inj h5]; omega
  · rw [hgb] at h5
    rcases h5 with h5 | h5
    · rcases hob with e | ⟨g, e, e1, e2⟩
      · rw [e] at h5; cases h5
      · rw [e] at h5; rw [Option.some.inj h5]; exact e2
    · intro e; have := hlt _ e; rw [Option.some.inj h5] at this; omega
theorem nameAt {fs : List (List Nat)} {k : Nat} (hk : k < fs.length) : (fs.map sv)[k]? = some (sv (fs.getD k [])) := by
  rw [List.getElem?_map, List.getElem?_eq_getElem hk, List.getD_eq_getElem?_getD, List.getElem?_eq_getElem hk]; rfl
theorem drop_names {fs : List (List Nat)} {k : Nat} (hk : k < fs.length) : fs.drop k = fs.getD k [] :: fs.drop (k + 1) := by
  rw [List.getD_eq_getElem?_getD, List.getElem?_eq_getElem hk]; exact List.drop_eq_getElem_cons hk
set_option maxHeartbeats 3200000 in
set_option maxRecDepth 1000000 in
theorem kernel_ownFields (H : HeapAt w F h) (K : Limb.Ker h) (cls : Nat) (hc : isF h cls 1 6 = true) (fs : List (List Nat)) (n gf : Nat) (hn : n = fs.length) (hn0 : 0 < n) (hn1 : n ≤ 100) (rf : Row w gf 9 (fs.map sv)) (hgf : gf ∉ F.l) (hfs : fs.all (fun t => okT t && decide (0 < t.length)) = true) (h' : Hp) (hp : ownF h cls fs = some h') :
    Calls Tryz.prog 43 #[.pointer (some ⟨F.p, 0, none⟩), .int .u32 cls, .slice (some ⟨gf, 0, none⟩) n n] w fun e w' => e = .returned (.int .i64 0) ∧ Moved w F w' h' := by
  unfold ownF at hp
  obtain ⟨⟨all, hI⟩, e1, e2⟩ := Option.bind_eq_some_iff.1 hp
  obtain ⟨⟨a, hA⟩, e3, e4⟩ := Option.map_eq_some_iff.1 e2
  simp only at e3 e4
  have hok : ∀ k, k < n → okT (fs.getD k []) = true ∧ 0 < (fs.getD k []).length := fun k hk => by
    rw [List.all_eq_true] at hfs
    have hk' : k < fs.length := by omega
    have := hfs (fs.getD k []) (by rw [List.getD_eq_getElem?_getD, List.getElem?_eq_getElem hk']; exact List.getElem_mem hk')
    simpa using this
  have sl := rf.sl (n := n) (by rw [List.length_map]; exact hn) (Nat.le_trans hn1 (by decide))
  have HIx := Lib.hid (fun W k (hk : k < n) => sl.index 79 Tryz.underlying79 size_str W .i64 k hk)
  have HCx := Lib.hid (fun X (ho : Only F.l w X) k (hk : k < n) => show X.cell? ⟨gf, k, none⟩ = some (.string (strOf (fs.getD k []))) from by
    rw [(rf.only ho hgf).cell_at]; exact nameAt (by omega))
  have HIn := Lib.hid (fun X F1 h1 (HX : HeapAt X F1 h1) (hF : F1.p = F.p) (gr : Limb.Grow h h1) k (hk : k < n) o h2 (hp : internP h1 (fs.getD k []) = some (o, h2)) => show Calls Tryz.prog 62 #[.pointer (some ⟨F.p, 0, none⟩), .string (strOf (fs.getD k []))] X fun e w' => e = .returned (.tuple #[.int .u32 o, .int .i64 0]) ∧ Moved X F1 w' h2 from by
    obtain ⟨q1, q2⟩ := hok k hk
    obtain ⟨q3, q4⟩ := okT_iff q1
    rw [← hF]
    exact kernel_intern HX (K.grow gr) (strOf (fs.getD k [])) (by rw [strOf_size]; exact q4) (by rw [strOf_size]; exact q2) o h2 (by rw [tx_strOf q3]; exact hp))
  have HGr := Lib.hid (fun h1 (gr : Limb.Grow h h1) k (hk : k < n) o h2 (hp : internP h1 (fs.getD k []) = some (o, h2)) => show Limb.Grow h h2 ∧ isO h2 o = true ∧ Limb.Grow h1 h2 from by
    obtain ⟨q1, q2⟩ := hok k hk
    obtain ⟨q3, q4⟩ := okT_iff q1
    obtain ⟨x, y⟩ := grow_intern gr.good q3 q4 hp
    exact ⟨gr.trans x, isF_isO y, x⟩)
  have HNext := Lib.hid (fun h1 k (hk : k < n) rest (hr : internAll (fs.drop k) h1 = some (rest, hI)) => show ∃ o h2 rest', internP h1 (fs.getD k []) = some (o, h2) ∧ rest = o :: rest' ∧ internAll (fs.drop (k + 1)) h2 = some (rest', hI) from by
    rw [drop_names (by omega)] at hr
    obtain ⟨⟨o, h2⟩, x1, x2⟩ := Option.bind_eq_some_iff.1 hr
    obtain ⟨⟨r', h3⟩, x3, x4⟩ := Option.map_eq_some_iff.1 x2
    rw [Prod.mk.injEq] at x4
    obtain ⟨rfl, rfl⟩ := x4
    exact ⟨o, h2, r', x1, rfl, x3⟩)
  have HEnd := Lib.hid (fun h1 rest (hr : internAll (fs.drop n) h1 = some (rest, hI)) => show rest = [] ∧ h1 = hI from by
    rw [hn, List.drop_length] at hr
    have := Option.some.inj hr
    rw [Prod.mk.injEq] at this
    exact ⟨this.1.symm, this.2⟩)
  have HAr := Lib.hid (fun X F1 (HX : HeapAt X F1 hI) (hF : F1.p = F.p) (gr : Limb.Grow h hI) (ge c : Nat) (sl : Sl X ge 30 n c (nums .u32 all)) (hge : ge ∉ F1.l) (hall : ∀ x ∈ all, isO hI x = true) (hl : n = all.length) => show Calls Tryz.prog 68 #[.pointer (some ⟨F.p, 0, none⟩), .slice (some ⟨ge, 0, none⟩) n c] X fun e w' => e = .returned (.tuple #[.int .u32 a, .int .i64 0]) ∧ Moved X F1 w' (putAll a 0 all hA) from by
    rw [← hF]
    exact kernel_array HX (K.grow gr) all n c ge hl (by omega) sl hge hall a hA (by rw [hn]; exact e3))
  have HGA := Lib.hid (fun (gr : Limb.Grow h hI) (hall : ∀ x ∈ all, isO hI x = true) (hl : n = all.length) => show Limb.Grow h (putAll a 0 all hA) ∧ isO (putAll a 0 all hA) a = true from by
    obtain ⟨g1, i1⟩ := grow_alloc gr.good (by decide) (by decide) (show fs.length ≤ 65535 by omega) e3
    have key : ∀ (l : List Nat) (k : Nat) (hk : Hp), Limb.Grow hA hk → (∀ x ∈ l, isO hI x = true) → k + l.length ≤ fs.length → Limb.Grow hA (putAll a k l hk) := by
      intro l
      induction l with
      | nil => intro k hk g _ _; exact g
      | cons v t ih =>
        intro k hk g hx hlen
        have hlen : k + (t.length + 1) ≤ fs.length := hlen
        exact ih (k + 1) _ (g.trans (grow_put g.good (isF_le (g.isF _ _ _ i1) (by omega)) (isO_lt g.good (g.isO (g1.isO (hx v (by simp))))))) (fun x hm => hx x (List.mem_cons_of_mem _ hm)) (by omega)
    have k2 := key all 0 hA (Limb.Grow.refl g1.good) hall (by omega)
    exact ⟨(gr.trans g1).trans k2, k2.isO (isF_isO i1)⟩)
  have HPut := Lib.hid (fun X F1 (HX : HeapAt X F1 (putAll a 0 all hA)) (hF : F1.p = F.p) (gr : Limb.Grow h (putAll a 0 all hA)) (ha : isO (putAll a 0 all hA) a = true) => show Calls Tryz.prog 37 #[.pointer (some ⟨F.p, 0, none⟩), .int .u32 cls, .int .i64 3, .int .u32 a] X fun e w' => e = .returned (.int .i64 0) ∧ Moved X F1 w' h' from by
    rw [← hF, ← e4]
    exact (heap_putF HX (i := 3) (isF_le (gr.isF _ _ _ hc) (by decide)) (by decide) (isO_val ha) (isO_lt HX.good ha)).mono fun e w' ⟨x, y⟩ => ⟨x, _, y⟩)
  have e10 : internAll (fs.drop 0) h = some (all, hI) := e1
  have HS0 := Lib.hid (Step.refl H)
  have HG0 := Lib.hid (Limb.Grow.refl H.good)
  have h5w : 5 ≤ w.heap.size := by have := H.lt F.p (mem_p F); have := H.low; omega
  clear hp e1 e2 e3 e4 hok sl rf hgf hfs H K hc hn
  go_enter Tryz.func43, Tryz.ntmps43
  go_wp2_with fail
  go_loopw [16, 7] (fun i s wr => ∃ (k : Nat) (F' : Foot) (hk : Hp) (done rest : List Nat), k ≤ n ∧ i = .int .i64 k ∧ Hid (k = done.length) ∧ Hid (Step w F wr F' hk) ∧ Hid (Limb.Grow h hk) ∧ Hid (internAll (fs.drop k) hk = some (rest, hI)) ∧ Hid (done ++ rest = all) ∧ Hid (∀ x ∈ done, isO hk x = true) ∧ Hid (Syms wr s done w.heap.size F')) (fun i _ _ => n - (RowKit.intOf i).toNat)
  case atStart => exact ⟨0, F, h, [], all, Nat.zero_le _, rfl, Lib.hid rfl, HS0, HG0, Lib.hid e10, Lib.hid rfl, Lib.hid (by simp), Lib.hid (.inl ⟨rfl, rfl⟩)⟩
  case round =>
    clear HS0 HG0 e10
    obtain ⟨k, F', hk, done, rest, hkn, rfl, HLd, HS, HG, HIa, HAll, HDn, HSy⟩ := hrel
    by_cases h0 : k < n
    · have d1 : decide ((k : Int) < (n : Int)) = true := decide_eq_true (by omega)
      have d2 : decide (k < n) = true := decide_eq_true h0
      obtain ⟨o, h2, rest', x1, x2, x3⟩ := HNext.out hk k h0 rest HIa.out
      obtain ⟨y1, y2, y3⟩ := HGr.out hk HG.out k h0 o h2 x1
      have ix := fun W => HIx.out W k h0
      have cx := HCx.out wr HS.out.2.2 k h0
      have HI1 := Lib.hid (HIn.out wr F' hk HS.out.1 HS.out.2.1.p HG.out k h0 o h2 x1)
      have HX3 := Lib.hid x3
      have HAll2 := Lib.hid (show (done ++ [o]) ++ rest' = all by rw [← HAll.out, x2, List.append_assoc]; rfl)
      have HDn2 := Lib.hid (show ∀ x ∈ done ++ [o], isO h2 x = true from fun x hx => by
        rcases List.mem_append.1 hx with e | e
        · exact y3.isO (HDn.out x e)
        · rw [List.mem_singleton.1 e]; exact y2)
      have HG2 := Lib.hid y1
      have HLd2 := Lib.hid (show k + 1 = (done ++ [o]).length by rw [List.length_append, ← HLd.out]; rfl)
      generalize strOf (fs.getD k []) = S at *
      clear x1 x2 x3 y1 y2 y3 HIa HAll HDn HG
      go_wp2_with fail
      refine (HI1.out).mono ?_
      rintro e X1 ⟨rfl, F1, hS1⟩
      (try dsimp only)
      have hsy := HSy.out.step hS1
      obtain ⟨s', X2, hr, hS2, hsy2⟩ := syms_append (HS.out.trans hS1) hsy h5w o (by have := HLd.out; omega)
      have HR2 := Lib.hid hr
      have HS2 := Lib.hid hS2
      have HSy2 := Lib.hid hsy2
      clear hS1 hsy hr hS2 hsy2 HSy HS cx ix
      go_wp2_with (at_builtin; refine Lib.wpList_append_run _ rfl _ _ _ _ rfl _ _ rfl rfl _ _ HR2.out ?_)
      go_roundw
      case rel => exact ⟨k + 1, F1, h2, done ++ [o], rest', h0, by simp, HLd2, HS2, HG2, HX3, HAll2, HDn2, HSy2⟩
      case measure => simp [RowKit.intOf]; omega
    · obtain rfl : k = n := by omega
      obtain ⟨x1, x2⟩ := HEnd.out hk rest HIa.out
      subst x1 x2
      have hal := HAll.out
      rw [List.append_nil] at hal
      subst hal
      have hl := HLd.out
      rcases HSy.out with ⟨_, e⟩ | ⟨ge, c, rfl, sl, q3, q4, q5⟩
      · rw [e] at hl; simp at hl; omega
      · rw [← hl] at sl ⊢
        have HA1 := Lib.hid (HAr.out wr F' HS.out.1 HS.out.2.1.p HG.out ge c sl q4 HDn.out hl)
        obtain ⟨z1, z2⟩ := HGA.out HG.out HDn.out hl
        have HP1 := Lib.hid (fun X F1 hX hF => HPut.out X F1 hX hF z1 z2)
        have d1 : decide ((k : Int) < (k : Int)) = false := decide_eq_false (by omega)
        have d2 : decide (k < k) = false := decide_eq_false (by omega)
        clear hl sl q3 q4 q5 z1 z2 HLd HAll HDn HSy HIa HEnd HNext HGr HIn HAr HGA HPut
        go_wp2_with fail
        refine (HA1.out).mono ?_
        rintro e X1 ⟨rfl, F1, hS1⟩
        (try dsimp only)
        have hS2 := HS.out.trans hS1
        have HP2 := Lib.hid (HP1.out X1 F1 hS2.1 hS2.2.1.p)
        have HS2 := Lib.hid hS2
        clear hS1 hS2 HA1 HS HP1
        go_wp2_with fail
        refine (HP2.out).mono ?_
        rintro e X2 ⟨rfl, F2, hS3⟩
        (try dsimp only)
        have HM := Lib.hid (show Moved w F X2 h' from ⟨F2, HS2.out.trans hS3⟩)
        clear hS3 HS2
        go_wp2_with fail
        go_ret
        exact ⟨rfl, HM.out⟩
end
end Go.Proofs.YteiikhcadjdkcaaGreatDoor
namespace Go.Proofs.YteiikhcadjdkcaaGreatDoor
open Go Go.RowKit Limb
section
variable {w : World} {F : Foot} {h : Hp}
theorem HeapAt.not_mem {g : Nat} {e : TypeId} {cs : List Value} (H : HeapAt w F h) (r : Row w g e cs) (h1 : e ≠ 74) (h2 : e ≠ 29) (h3 : e ≠ 4) (h4 : e ≠ 30) : g ∉ F.l := by
  obtain ⟨cw, cs', r1, r2, r3⟩ := H.row
  obtain ⟨_, r2⟩ := r2.row
  obtain ⟨_, r3⟩ := r3.row
  have r4 := H.roots
  intro hm
  unfold Foot.l at hm
  simp only [List.mem_cons, List.not_mem_nil, or_false] at hm
  rcases hm with e | e | e | e
  · exact r.ne r1 h1 e
  · exact r.ne r2 h2 e
  · exact r.ne r3 h3 e
  · exact r.ne r4 h4 e
theorem PlansAt.step {w' : World} {F' : Foot} {h' : Hp} {g : Nat} {vs : List Value} (p : PlansAt w g vs) (H : HeapAt w F h) (s : Step w F w' F' h') : PlansAt w' g vs := by
  refine ⟨p.1, s.beside p.2.1 (H.not_mem p.2.1 (by decide) (by decide) (by decide) (by decide)), fun i hi => ?_⟩
  rcases p.2.2 i hi with x | ⟨x1, gf, x2, x3⟩
  · exact .inl x
  · exact .inr ⟨x1, gf, x2, s.beside x3 (H.not_mem x3 (by decide) (by decide) (by decide) (by decide))⟩
theorem PlansAt.store {g gm i : Nat} {vs cs : List Value} {v : Value} (p : PlansAt w g vs) (r : Row w gm 30 cs) : PlansAt (w.setCell ⟨gm, i, none⟩ v) g vs := by
  refine ⟨p.1, p.2.1.other (p.2.1.ne r (by decide)) v, fun j hj => ?_⟩
  rcases p.2.2 j hj with x | ⟨x1, gf, x2, x3⟩
  · exact .inl x
  · exact .inr ⟨x1, gf, x2, x3.other (x3.ne r (by decide)) v⟩
theorem BootRow.step {w' : World} {F' : Foot} {h' : Hp} {pb : Nat} {G : Foot} (r : BootRow w G pb) (H : HeapAt w F h) (s : Step w F w' F' h') : BootRow w' G pb :=
  s.beside r (H.not_mem r (by decide) (by decide) (by decide) (by decide))
end
def Rider (X : World) : Option (Nat × List Value) → Prop
  | none => True
  | some (pc, cs) => Row X pc 81 cs
structure CW (B0 : World) (F : Foot) (gm g pb : Nat) (rd : Option (Nat × List Value)) (vs : List Value) (ms : List Nat) (X : World) (F' : Foot) (hk : Hp) : Prop where
  gmo : gm ∉ F.l ∧ gm < B0.heap.size ∧ 5 ≤ gm
  st : StepC [gm] B0 F X F' hk
  boot : BootRow X F pb
  plans : PlansAt X g vs
  metas : Row X gm 30 (nums .u32 ms)
  rider : Rider X rd
section
variable {B0 X X' : World} {F F' F'' : Foot} {gm g pb : Nat} {rd : Option (Nat × List Value)} {vs : List Value} {ms : List Nat} {hk h' : Hp}
theorem CW.step (c : CW B0 F gm g pb rd vs ms X F' hk) (s : Step X F' X' F'' h') : CW B0 F gm g pb rd vs ms X' F'' h' :=
  ⟨c.gmo, c.st.step s, c.boot.step c.st.1 s, c.plans.step c.st.1 s, s.beside c.metas (c.st.aside c.gmo.1 c.gmo.2.1), by
    match rd, c.rider with
    | none, _ => trivial
    | some (pc, cs), r => exact s.beside r (c.st.1.not_mem r (by decide) (by decide) (by decide) (by decide))⟩
theorem CW.below (c : CW B0 F gm g pb rd vs ms X F' hk) (hb : Below X.heap.size X X') : CW B0 F gm g pb rd vs ms X' F' hk :=
  ⟨c.gmo, c.st.below hb, Row.below c.boot hb (Row.lt c.boot), c.plans.below hb, c.metas.below hb c.metas.lt, by
    match rd, c.rider with
    | none, _ => trivial
    | some (pc, cs), r => exact Row.below r hb (Row.lt r)⟩
theorem CW.store (c : CW B0 F gm g pb rd vs ms X F' hk) (i v : Nat) : CW B0 F gm g pb rd vs (ms.set i v) (X.setCell ⟨gm, i, none⟩ (.int .u32 v)) F' hk :=
  ⟨c.gmo, c.st.store _ (.inl (by simp)) (c.st.aside c.gmo.1 c.gmo.2.1) c.gmo.2.2, Row.other c.boot (Row.ne c.boot c.metas (by decide)) _, c.plans.store c.metas, c.metas.store i v v rfl, by
    match rd, c.rider with
    | none, _ => trivial
    | some (pc, cs), r => exact Row.other r (Row.ne r c.metas (by decide)) _⟩
theorem CW.ride (c : CW B0 F gm g pb none vs ms X F' hk) {pc : Nat} {cs : List Value} (r : Row X pc 81 cs) : CW B0 F gm g pb (some (pc, cs)) vs ms X F' hk := ⟨c.gmo, c.st, c.boot, c.plans, c.metas, r⟩
theorem CW.unride (c : CW B0 F gm g pb rd vs ms X F' hk) : CW B0 F gm g pb none vs ms X F' hk := ⟨c.gmo, c.st, c.boot, c.plans, c.metas, trivial⟩
theorem CW.p (c : CW B0 F gm g pb rd vs ms X F' hk) : F'.p = F.p := c.st.2.1.p
theorem CW.hp (c : CW B0 F gm g pb rd vs ms X F' hk) : HeapAt X F' hk := c.st.1
theorem CW.at (c : CW B0 F gm g pb rd vs ms X F' hk) {i : Nat} (hi : i < ms.length) : X.cell? ⟨gm, i, none⟩ = some (.int .u32 (wd ms i : Nat)) := c.metas.cell hi
end
theorem smallO_nat {n : Nat} (h : n < 1073741824) : smallO n = 2 * n + 1 := by unfold smallO; omega
theorem val_odd (h : Hp) (n : Nat) : valO h (2 * n + 1) = true := by
  unfold valO
  rw [decide_eq_true (show (2 * n + 1) % 2 = 1 by omega)]; simp
theorem writtenN_lt {f fx : Nat} {b : Bool} (h1 : f ≤ 1000) (h2 : fx ≤ 1000) : writtenN f fx b < 100000 := by
  unfold writtenN; split <;> omega
section
variable {B0 X : World} {F F' : Foot} {gm g pb : Nat} {rd : Option (Nat × List Value)} {vs : List Value} {ms : List Nat} {hk : Hp}
theorem cw_alloc (c : CW B0 F gm g pb rd vs ms X F' hk) (n o : Nat) (h' : Hp) (hn : n ≤ 65535) (hp : allocP hk 0 1 n = some (o, h')) :
    Calls Tryz.prog 15 #[.pointer (some ⟨pb, 0, none⟩), .int .i64 n] X fun e X' => e = .returned (.int .u32 o) ∧ ∃ F'', CW B0 F gm g pb rd vs ms X' F'' h' := by
  have rb : BootRow X F' pb := by have := c.boot; unfold BootRow at this ⊢; rw [c.p]; exact this
  exact (booter_alloc c.hp rb (c.hp.not_mem c.boot (by decide) (by decide) (by decide) (by decide)) n o h' hn hp).mono fun e X' ⟨x, F'', y⟩ => ⟨x, F'', c.step y⟩
theorem cw_setroot (c : CW B0 F gm g pb rd vs ms X F' hk) (i : Nat) (hi : i < 64) (v : Nat) (hv : v < 4294967296) (hval : valO hk v = true) :
    Calls Tryz.prog 14 #[.pointer (some ⟨F.p, 0, none⟩), .int .i64 i, .int .u32 v] X fun e X' => e = .returned (.int .i64 0) ∧ ∃ F'', CW B0 F gm g pb rd vs ms X' F'' (setR hk i v) := by
  rw [← c.p]
  exact (heap_setroot c.hp i hi v hv hval).mono fun e X' ⟨x, y⟩ => ⟨x, F', c.step y⟩
theorem cw_class (c : CW B0 F gm g pb rd vs ms X F' hk) (i : Nat) (hi : i < 64) :
    Calls Tryz.prog 33 #[.pointer (some ⟨pb, 0, none⟩), .int .i64 i] X fun e X' => e = .returned (.int .u32 (wd hk.rt i : Nat)) ∧ Below X.heap.size X X' := by
  have rb : BootRow X F' pb := by have := c.boot; unfold BootRow at this ⊢; rw [c.p]; exact this
  exact (booter_class c.hp rb i hi).mono fun e X' ⟨x, y⟩ => ⟨x, by rw [← y]; exact Below.refl _ _⟩
theorem cw_root (c : CW B0 F gm g pb rd vs ms X F' hk) (i : Nat) (hi : i < 64) :
    Calls Tryz.prog 16 #[.pointer (some ⟨F.p, 0, none⟩), .int .i64 i] X fun e X' => e = .returned (.int .u32 (wd hk.rt i : Nat)) ∧ Below X.heap.size X X' := by
  rw [← c.p]
  exact (kernel_root c.hp i hi).mono fun e X' ⟨x, y⟩ => ⟨x, by rw [← y]; exact Below.refl _ _⟩
theorem cw_put (c : CW B0 F gm g pb rd vs ms X F' hk) {o i v : Nat} (hf : isF hk o 1 (i + 1) = true) (hi : i ≤ 65535) (hv : valO hk v = true) (hv2 : v < 4294967296) :
    Calls Tryz.prog 37 #[.pointer (some ⟨F.p, 0, none⟩), .int .u32 o, .int .i64 i, .int .u32 v] X fun e X' => e = .returned (.int .i64 0) ∧ ∃ F'', CW B0 F gm g pb rd vs ms X' F'' (Limb.putF hk o i v) := by
  rw [← c.p]
  exact (heap_putF c.hp hf hi hv hv2).mono fun e X' ⟨x, y⟩ => ⟨x, F', c.step y⟩
theorem cw_setclass (c : CW B0 F gm g pb rd vs ms X F' hk) {o k : Nat} (ho : isO hk o = true) (hc : isO hk k = true) :
    Calls Tryz.prog 38 #[.pointer (some ⟨F.p, 0, none⟩), .int .u32 o, .int .u32 k] X fun e X' => e = .returned (.int .i64 0) ∧ ∃ F'', CW B0 F gm g pb rd vs ms X' F'' (Limb.setC hk o k) := by
  rw [← c.p]
  exact (heap_setclass c.hp o k (isO_lt c.hp.good ho) (isO_lt c.hp.good hc) ho (isO_cls hc)).mono fun e X' ⟨x, y⟩ => ⟨x, F', c.step y⟩
theorem cw_of (c : CW B0 F gm g pb rd vs ms X F' hk) {o i : Nat} (hi : i < 64) (ho : isO hk o = true) (hc : isO hk (wd hk.rt i) = true) :
    Calls Tryz.prog 39 #[.pointer (some ⟨pb, 0, none⟩), .int .u32 o, .int .i64 i] X fun e X' => e = .returned (.tuple #[]) ∧ ∃ F'', CW B0 F gm g pb rd vs ms X' F'' (Limb.setC hk o (wd hk.rt i)) := by
  have rb : BootRow X F' pb := by have := c.boot; unfold BootRow at this ⊢; rw [c.p]; exact this
  exact (booter_of c.hp rb (c.hp.not_mem c.boot (by decide) (by decide) (by decide) (by decide)) o i hi ho hc).mono fun e X' ⟨x, y⟩ => ⟨x, F', c.step y⟩
end
end Go.Proofs.YteiikhcadjdkcaaGreatDoor
