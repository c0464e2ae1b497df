/- The walks of package prim's numbers: ints, number, done, truth, and what is done with two numbers. The walk of package heap's Alloc. Entries laid one by one, and maps laid into one another: plain laws. Slices that grow by appends, from nil on: ints, strings, methods. -/
import Derived.Test.YteiikhcadjdkcaaGreatDoorGX17
import Derived.Test.YteiikhcadjdkcaaGreatDoorGX10
import Derived.Test.YteiikhcadjdkcaaGreatDoorGX13
import Derived.Test.YteiikhcadjdkcaaGreatDoorGX16
import Derived.Test.YteiikhcadjdkcaaGreatDoorGX12
import Derived.Lib.SlKeysI
import Derived.Lib.AppendZeros
set_option linter.unusedVariables false
set_option linter.unusedSimpArgs false
namespace Go.Proofs.YteiikhcadjdkcaaGreatDoor
open Go Go.RowKit Limb
def callC (hp r : Nat) (a : Option Addr) (n c v : Nat) : List Value := [.pointer none, .pointer (some ⟨hp, 0, none⟩), .int .u32 r, .slice a n c, .int .u32 v]
set_option maxRecDepth 100000 in
theorem prim_done (w : World) (p hp r : Nat) (a : Option Addr) (n c v v' : Nat) (H : Row w p 57 (callC hp r a n c v)) :
    Calls Tryz.prog 113 #[.pointer (some ⟨p, 0, none⟩), .int .u32 v'] w fun e w' => e = .returned (.int .i64 1) ∧ Row w' p 57 (callC hp r a n c v') ∧ Only [p] w w' := by
  have c0 := H.cell_at 0
  have c4 := H.cell_at 4
  have f4 := H.free 4
  have hs := H.store_any 4 (.int .u32 v')
  have ho := (Only.refl [p] w).setCell (a := ⟨p, 4, none⟩) (List.mem_singleton.2 rfl) (.int .u32 v')
  have HS := Lib.hid hs
  have HO := Lib.hid ho
  unfold callC at c0 c4
  simp only [List.getElem?_cons_zero, List.getElem?_cons_succ] at c0 c4
  clear hs ho H
  go_enter Tryz.func113, Tryz.ntmps113
  go_wp2_with fail
  go_ret
  exact ⟨rfl, HS.out, HO.out⟩
set_option maxRecDepth 100000 in
theorem oop_small_no (w : World) (n : Int) (hn : isSm n = false) :
    Calls Tryz.prog 34 #[.int .i64 n] w fun e w' => (∃ k : Nat, 0 < k ∧ k < 100 ∧ e = .returned (.tuple #[.int .u32 0, .int .i64 k])) ∧ w = w' := by
  have HF := oop_fits w n
  unfold isSm at hn
  rw [hn] at HF
  have HF := Lib.hid HF
  clear hn
  go_enter Tryz.func34, Tryz.ntmps34
  go_wp2_with fail
  refine (HF.out).mono ?_
  rintro e W ⟨rfl, rfl⟩
  (try dsimp only)
  go_wp2_with fail
  go_ret2
  exact ⟨⟨_, by decide, by decide, rfl⟩, rfl⟩
set_option maxRecDepth 100000 in
theorem prim_number (w : World) (p hp r : Nat) (a : Option Addr) (n c v : Nat) (z : Int) (hz : isSm z = true) (H : Row w p 57 (callC hp r a n c v)) :
    Calls Tryz.prog 108 #[.pointer (some ⟨p, 0, none⟩), .int .i64 z] w fun e w' => e = .returned (.int .i64 1) ∧ Row w' p 57 (callC hp r a n c (smallO z)) ∧ Only [p] w w' := by
  have HS := Lib.hid (oop_small w z hz)
  have HD := Lib.hid (prim_done w p hp r a n c v (smallO z) H)
  clear hz H
  go_enter Tryz.func108, Tryz.ntmps108
  go_wp2_with fail
  refine (HS.out).mono ?_
  rintro e W ⟨rfl, rfl⟩
  (try dsimp only)
  go_wp2_with fail
  refine (HD.out).mono ?_
  rintro e W ⟨rfl, h1, h2⟩
  (try dsimp only)
  have H1 := Lib.hid h1
  have H2 := Lib.hid h2
  clear h1 h2 HD HS
  go_wp2_with fail
  go_ret
  exact ⟨rfl, H1.out, H2.out⟩
set_option maxRecDepth 100000 in
theorem prim_number_no (w : World) (p : Nat) (z : Int) (hz : isSm z = false) :
    Calls Tryz.prog 108 #[.pointer (some ⟨p, 0, none⟩), .int .i64 z] w fun e w' => e = .returned (.int .i64 0) ∧ w = w' := by
  have HS := Lib.hid (oop_small_no w z hz)
  clear hz
  go_enter Tryz.func108, Tryz.ntmps108
  go_wp2_with fail
  refine (HS.out).mono ?_
  rintro e W ⟨⟨k, k1, k2, rfl⟩, rfl⟩
  (try dsimp only)
  have d : (((k : Nat) : Int) != 0) = true := by rw [bne_iff_ne]; omega
  have d2 : (((k : Nat) : Int) == 0) = false := by rw [beq_eq_false_iff_ne]; omega
  have d3 : (k == 0) = false := by rw [beq_eq_false_iff_ne]; omega
  go_wp2_with fail
  go_ret
  exact ⟨rfl, rfl⟩
section
variable {w : World} {F : Foot} {h : Hp}
set_option maxRecDepth 100000 in
theorem prim_root (H : HeapAt w F h) (i : Nat) (hi : i < 64) (p r : Nat) (a : Option Addr) (n c v : Nat) (R : Row w p 57 (callC F.p r a n c v)) :
    Calls Tryz.prog 177 #[.pointer (some ⟨p, 0, none⟩), .int .i64 i] w fun e w' => e = .returned (.int .u32 (wd h.rt i : Nat)) ∧ w = w' := by
  have HR := Lib.hid (heap_root H i hi)
  have c1 := R.cell_at 1
  unfold callC at c1
  simp only [List.getElem?_cons_zero, List.getElem?_cons_succ] at c1
  clear H R hi
  go_enter Tryz.func177, Tryz.ntmps177
  go_wp2_with fail
  refine (HR.out).mono ?_
  rintro e W ⟨rfl, rfl⟩
  (try dsimp only)
  go_wp2_with fail
  go_ret
  exact ⟨rfl, rfl⟩
set_option maxRecDepth 100000 in
theorem prim_truth (H : HeapAt w F h) (b : Bool) (p r : Nat) (a : Option Addr) (n c v : Nat) (R : Row w p 57 (callC F.p r a n c v)) :
    Calls Tryz.prog 116 #[.pointer (some ⟨p, 0, none⟩), .bool b] w fun e w' => e = .returned (.int .i64 1) ∧ Row w' p 57 (callC F.p r a n c (wd h.rt (if b then 1 else 2))) ∧ Only [p] w w' := by
  obtain ⟨t1, ht1⟩ : ∃ t, t = wd h.rt 1 := ⟨_, rfl⟩
  obtain ⟨t2, ht2⟩ : ∃ t, t = wd h.rt 2 := ⟨_, rfl⟩
  have H1 := Lib.hid (show Calls Tryz.prog 177 #[.pointer (some ⟨p, 0, none⟩), .int .i64 1] w fun e w' => e = .returned (.int .u32 (t1 : Nat)) ∧ w = w' from by rw [ht1]; exact prim_root H 1 (by decide) p r a n c v R)
  have H2 := Lib.hid (show Calls Tryz.prog 177 #[.pointer (some ⟨p, 0, none⟩), .int .i64 2] w fun e w' => e = .returned (.int .u32 (t2 : Nat)) ∧ w = w' from by rw [ht2]; exact prim_root H 2 (by decide) p r a n c v R)
  have HD := Lib.hid (fun v' => prim_done w p F.p r a n c v v' R)
  have HE := Lib.hid (show wd h.rt 1 = t1 ∧ wd h.rt 2 = t2 from ⟨ht1.symm, ht2.symm⟩)
  clear H R ht1 ht2
  cases b
  · rw [if_neg (by decide), HE.out.2]
    go_enter Tryz.func116, Tryz.ntmps116
    go_wp2_with fail
    refine (H2.out).mono ?_
    rintro e W ⟨rfl, rfl⟩
    (try dsimp only)
    go_wp2_with fail
    refine (HD.out _).mono ?_
    rintro e W ⟨rfl, h1, h2⟩
    have H1' := Lib.hid h1
    have H2' := Lib.hid h2
    clear h1 h2
    go_wp2_with fail
    go_ret
    exact ⟨rfl, H1'.out, H2'.out⟩
  · rw [if_pos rfl, HE.out.1]
    go_enter Tryz.func116, Tryz.ntmps116
    go_wp2_with fail
    refine (H1.out).mono ?_
    rintro e W ⟨rfl, rfl⟩
    (try dsimp only)
    go_wp2_with fail
    refine (HD.out _).mono ?_
    rintro e W ⟨rfl, h1, h2⟩
    have H1' := Lib.hid h1
    have H2' := Lib.hid h2
    clear h1 h2
    go_wp2_with fail
    go_ret
    exact ⟨rfl, H1'.out, H2'.out⟩
end
end Go.Proofs.YteiikhcadjdkcaaGreatDoor
namespace Go.Proofs.YteiikhcadjdkcaaGreatDoor
open Go Go.RowKit Limb
def Moved (w : World) (F : Foot) (w' : World) (h' : Hp) : Prop := ∃ F', Step w F w' F' h'
section
variable {w : World} {F : Foot} {h : Hp}
theorem allocP_some {c f n : Nat} {o : Nat} {h' : Hp} (e : allocP h c f n = some (o, h')) : clsO h c = true ∧ room h n = true ∧ o = newO h ∧ h' = addO h f 0 c (List.replicate n (if f = 1 ∨ f = 4 then wd h.rt 0 else 0)) := by
  unfold allocP at e
  split at e
  · rename_i hc
    rw [Bool.and_eq_true] at hc
    rw [Option.some.injEq, Prod.mk.injEq] at e
    exact ⟨hc.1, hc.2, e.1.symm, e.2.symm⟩
  · cases e
set_option maxHeartbeats 1600000 in
set_option maxRecDepth 100000 in
theorem heap_Alloc (H : HeapAt w F h) (c f n o : Nat) (h' : Hp) (h1 : 1 ≤ f) (h4 : f ≤ 4) (hn : n ≤ 65535) (hp : allocP h c f n = some (o, h')) :
    Calls Tryz.prog 31 #[.pointer (some ⟨F.p, 0, none⟩), .int .u32 c, .int .i64 f, .int .i64 n] w fun e w' => e = .returned (.tuple #[.int .u32 o, .int .i64 0]) ∧ Moved w F w' h' := by
  obtain ⟨hc, hr, ho, hh⟩ := allocP_some hp
  have hcl := clsO_lt H.good hc
  have hG := good_alloc H.good h1 h4 hn (v := if f = 1 ∨ f = 4 then wd h.rt 0 else 0) (by split; exact H.good.rlim.wd 0; decide) hc hr
  have hA := heap_alloc H ⟨n, f, 0, c, 0⟩ hc hcl ⟨hn, h1, h4, Nat.zero_le _, .inl rfl⟩ hr _ rfl hG
  have ex : hdV ⟨n, f, 0, c, 0⟩ = .agg #[.int .i64 n, .int .i64 f, .int .i64 0, .int .u32 c, .int .u32 0] := rfl
  rw [ex] at hA
  have hA2 : Calls Tryz.prog 48 #[.pointer (some ⟨F.p, 0, none⟩), .agg #[.int .i64 n, .int .i64 f, .int .i64 0, .int .u32 c, .int .u32 0]] w fun e w' => e = .returned (.tuple #[.int .u32 o, .int .i64 0]) ∧ Moved w F w' h' :=
    hA.mono fun e w' ⟨F', a, b⟩ => ⟨by rw [ho]; exact a, F', by rw [hh]; exact b⟩
  have d1 : decide ((f : Int) < 1) = false := decide_eq_false (by omega)
  have d1' : decide (f < 1) = false := decide_eq_false (by omega)
  have d1'' : decide (f = 0) = false := decide_eq_false (by omega)
  have d2 : decide ((4 : Int) < (f : Int)) = false := decide_eq_false (by omega)
  have d2' : decide (4 < f) = false := decide_eq_false (by omega)
  have d3 : decide ((n : Int) < 0) = false := decide_eq_false (by omega)
  have d4 : decide ((65535 : Int) < (n : Int)) = false := decide_eq_false (by omega)
  have d4' : decide (65535 < n) = false := decide_eq_false (by omega)
  have HA := Lib.hid hA2
  clear hA hA2 ex hG hcl hc hr hp ho hh H
  go_enter Tryz.func31, Tryz.ntmps31
  go_wp2_with fail
  refine (HA.out).mono ?_
  rintro e V ⟨rfl, hS⟩
  (try dsimp only)
  have HS := Lib.hid hS
  clear hS
  go_wp2_with fail
  go_ret2
  exact ⟨rfl, HS.out⟩
end
end Go.Proofs.YteiikhcadjdkcaaGreatDoor
namespace Go.Proofs.YteiikhcadjdkcaaGreatDoor
open Go Go.RowKit Go.Maps Limb
def encL (l : List (Int × Value)) : List (Lit × DataW Value) := l.map fun p => (.int .i64 p.1, .held p.2)
theorem putsD_fold (l : List (Int × Value)) : putsD l = (encL l).foldl (fun D p => D.put p.1 p.2) (.map []) := by
  unfold putsD encL; rw [List.foldl_map]
theorem encL_lit (l : List (Int × Value)) : ∀ p ∈ encL l, WideAt.IsKeyLit p.1 := by
  intro p hp
  unfold encL at hp
  obtain ⟨q, _, rfl⟩ := List.mem_map.1 hp
  trivial
theorem isMap_fold : ∀ (es : List (Lit × DataW Value)) (D : DataW Value), IsMap D → IsMap (es.foldl (fun D p => D.put p.1 p.2) D)
  | [], _, h => h
  | a :: r, _, h => isMap_fold r _ (h.put _ _)
theorem putsD_isMap (l : List (Int × Value)) : IsMap (putsD l) := by rw [putsD_fold]; exact isMap_fold _ _ isMap_empty
theorem encL_apart {l : List (Int × Value)} (h : (l.map (·.1)).Nodup) : (encL l).Pairwise (fun p q => p.1 ≠ q.1) := by
  unfold encL
  rw [List.pairwise_map]
  exact (List.pairwise_map.1 h).imp fun hne e => hne (by simpa using e)
def Wfs (l : List (Int × Value)) : Prop := ∀ k ∈ l.map (·.1), (Lit.int .i64 k).wf = true
theorem encL_keys {l : List (Int × Value)} (h : Wfs l) : Keys (KeysOf Tryz.prog 3) (encL l) := by
  intro p hp
  unfold encL at hp
  obtain ⟨q, hq, rfl⟩ := List.mem_map.1 hp
  exact ⟨_, key_int (h q.1 (List.mem_map.2 ⟨q, hq, rfl⟩))⟩
theorem putsD_canon {l : List (Int × Value)} (h : Wfs l) : CanonK (KeysOf Tryz.prog 3) (putsD l) := by
  rw [putsD_fold]
  exact canonK_fold keyed_int.one _ _ (encL_keys h) ⟨[], rfl, List.Pairwise.nil, fun p hp => by cases hp⟩
theorem putsD_append (a b : List (Int × Value)) : putsD (a ++ b) = (encL b).foldl (fun D p => D.put p.1 p.2) (putsD a) := by
  unfold putsD encL; rw [List.foldl_append, List.foldl_map]
theorem Wfs.append {a b : List (Int × Value)} (ha : Wfs a) (hb : Wfs b) : Wfs (a ++ b) := by
  intro k hk
  rw [List.map_append, List.mem_append] at hk
  exact hk.elim (ha k) (hb k)
theorem has_map (es : List (Lit × DataW Value)) (k : Lit) (hl : ∀ p ∈ es, WideAt.IsKeyLit p.1) : has (es.foldl (fun D p => D.put p.1 p.2) (.map [])) k = es.any (fun p => p.1.sameKey k) := by
  rw [has_foldPut k es _ isMap_empty hl]; rfl
theorem merged_puts {Dout : DataW Value} {a b : List (Int × Value)} {left : Lit → Bool} (hM : Merged Dout (putsD a) (putsD b) left) (hl : ∀ k, left k = false) (cOut : Canon Dout) (ha : Wfs a) (hb : Wfs b) (hn : (b.map (·.1)).Nodup) : Dout = putsD (a ++ b) := by
  refine ext cOut ((putsD_canon (ha.append hb)).canon keyed_int.one) (fun k => ?_) (fun k z _ => ?_)
  · rw [hM.1 k, hl k, putsD_append, has_foldPut k _ _ (putsD_isMap a) (encL_lit b), putsD_fold b, has_map _ _ (encL_lit b)]
    simp
  · rw [hM.2 k z, hl k, putsD_append, atKey_foldPut k z _ _ (putsD_isMap a) (encL_lit b) (encL_apart hn), putsD_fold b, has_map _ _ (encL_lit b), atKey_foldPut k z _ _ isMap_empty (encL_lit b) (encL_apart hn)]
    cases hf : (encL b).find? (fun p => p.1.sameKey k) with
    | none =>
      have h0 : (encL b).any (fun p => p.1.sameKey k) = false := List.any_eq_false.2 (fun p hp => by simpa using List.find?_eq_none.1 hf p hp)
      rw [h0]; simp
    | some p =>
      have h1 : (encL b).any (fun p => p.1.sameKey k) = true := List.any_eq_true.2 ⟨p, List.mem_of_find?_eq_some hf, List.find?_some (p := fun (q : Lit × DataW Value) => q.1.sameKey k) hf⟩
      rw [h1]; simp
theorem putsD_keys {l : List (Int × Value)} (h : Wfs l) (hn : (l.map (·.1)).Nodup) : (l.map (·.1)).Perm (intKeys (putsD l)) := by
  obtain ⟨es, he, hp, hk⟩ := putsD_canon h
  rw [he]
  refine perm_intKeys (apart_of_rising hp) (fun p hp' => ?_) hn (fun x => ?_)
  · obtain ⟨v, hv⟩ := hk p hp'
    obtain ⟨x, _, hx, _⟩ := Maps.keyOf_i64 Tryz.underlying3 hv
    exact ⟨x, hx⟩
  · rw [← he, putsD_fold, has_map _ _ (encL_lit l), List.any_eq_true]
    constructor
    · intro hx
      obtain ⟨q, hq, rfl⟩ := List.mem_map.1 hx
      exact ⟨_, List.mem_map.2 ⟨q, hq, rfl⟩, WideAt.sameKey_self trivial⟩
    · rintro ⟨p, hp', hs⟩
      obtain ⟨q, hq, rfl⟩ := List.mem_map.1 hp'
      have := WideAt.sameKey_eq hs
      simp only [Lit.int.injEq, true_and] at this
      exact List.mem_map.2 ⟨q, hq, this⟩
def OwnM (w W : World) (b : Nat) (l : List (Int × Value)) : Prop := w.heap.size ≤ b ∧ MapL W b l ∧ Below w.heap.size w W
theorem OwnM.start {w W : World} (h : Below w.heap.size w W) : OwnM w (W.alloc (.map #[] 0)) W.heap.size [] := ⟨h.size, MapL.start W, h.alloc h.size _⟩
theorem OwnM.below {w W W' : World} {b : Nat} {l : List (Int × Value)} (h : OwnM w W b l) (hb : Below W.heap.size W W') : OwnM w W' b l := ⟨h.1, h.2.1.below hb, h.2.2.trans (hb.mono h.2.2.size)⟩
theorem OwnM.step {w W W' : World} {b : Nat} {l l' : List (Int × Value)} (h : OwnM w W b l) (hm : MapL W' b l') (ho : Only [b] W W') : OwnM w W' b l' :=
  ⟨h.1, hm, h.2.2.trans (ho.belowB h.2.2.size (fun p hp => by rw [List.mem_singleton.1 hp]; exact h.1))⟩
theorem wpList_insert_next {w W : World} {ops : Array Oper} {rest : List Oper} {o : Oper} {a : Act} {Q : Exit → Act → World → Prop} {b : Nat} {l : List (Int × Value)} {n k : Int} {f : Fn} {x1 x2 : Array Value}
    (H : Hid (OwnM w W b l)) (m x y : Operand) (hg : o.guard = none) (hop : o.op = Op.insert 66 m x y) (hm : a.eval m = .map (some b)) (hx : a.eval x = .int .i64 n) (hv : a.eval y = entV (k, f, x1, x2)) (hn : (Lit.int .i64 n).wf = true) (hl : l.length ≤ 1000)
    (hK : ∀ W', Hid (OwnM w W' b (l ++ [(n, entV (k, f, x1, x2))])) → wpList Tryz.prog ops Q rest (a.put o.dst undef) W') : wpList Tryz.prog ops Q (o :: rest) a W :=
  wpList_insert_map W n (entV (k, f, x1, x2)) H.out.2.1 (heldR_ent _) m x y hg hop hm hx hv hn hl fun W' h1 h2 => hK W' (Lib.hid (H.out.step h1 h2))
theorem wpList_update_next {w W : World} {ops : Array Oper} {rest : List Oper} {o : Oper} {a : Act} {Q : Exit → Act → World → Prop} {b : Nat} {l : List (Int × Value)} {n k : Int} {f : Fn} {x1 x2 : Array Value}
    (H : Hid (OwnM w W b l)) (m x y : Operand) (hg : o.guard = none) (hop : o.op = Op.mapUpdate 66 m x y) (hm : a.eval m = .map (some b)) (hx : a.eval x = .int .i64 n) (hv : a.eval y = entV (k, f, x1, x2)) (hn : (Lit.int .i64 n).wf = true) (hl : l.length ≤ 1000)
    (hK : ∀ W', Hid (OwnM w W' b (l ++ [(n, entV (k, f, x1, x2))])) → wpList Tryz.prog ops Q rest (a.put o.dst undef) W') : wpList Tryz.prog ops Q (o :: rest) a W :=
  wpList_mapUpdate_own W hg m x y 66 hop 3 64 keyed_int Tryz.underlying66 heldR b l.length (putsD l) hm H.out.2.1 (by unfold maxLen; omega) _ _ _ hx hv (key_int hn) _ [] (heldR_ent _) fun W' h1 h2 => hK W' (Lib.hid (H.out.step (by
    unfold MapL
    rw [List.length_append, ← putsD_snoc]
    exact h1) (.of_grown h2)))
end Go.Proofs.YteiikhcadjdkcaaGreatDoor
namespace Go.Proofs.YteiikhcadjdkcaaGreatDoor
open Go Go.RowKit Limb
def Own1 (w : World) (e : TypeId) (v : Value) (xs : List Value) (B : Nat) : Prop :=
  (v = .slice none 0 0 ∧ xs = []) ∨ ∃ g c, v = .slice (some ⟨g, 0, none⟩) xs.length c ∧ Sl w g e xs.length c xs ∧ B ≤ g ∧ 0 < xs.length
section
variable {w w' X : World} {e : TypeId} {v : Value} {xs : List Value} {B : Nat}
theorem Own1.below (hs : Own1 w e v xs B) (hb : Below w.heap.size w w') : Own1 w' e v xs B := by
  rcases hs with hs | ⟨g, c, h1, h2, h3, h4⟩
  · exact .inl hs
  · exact .inr ⟨g, c, h1, h2.below hb, h3, h4⟩
theorem Own1.only (hs : Own1 w e v xs B) {ps : List Nat} (ho : Only ps w w') (hp : ∀ p ∈ ps, p < B) : Own1 w' e v xs B := by
  rcases hs with hs | ⟨g, c, h1, h2, h3, h4⟩
  · exact .inl hs
  · exact .inr ⟨g, c, h1, h2.only ho (fun hm => by have := hp g hm; omega), h3, h4⟩
theorem Own1.owns (hs : Own1 w e v xs B) : w.ownsRow 0 e 1 v xs.length xs := by
  rcases hs with ⟨rfl, rfl⟩ | ⟨g, c, rfl, h2, h3, h4⟩
  · exact ⟨rfl, .inl ⟨rfl, rfl⟩⟩
  · exact h2.owns
theorem Own1.ownBlock (hs : Own1 w e v xs B) : v.ownBlock = none ∨ ∃ g, v.ownBlock = some g ∧ B ≤ g := by
  rcases hs with ⟨rfl, rfl⟩ | ⟨g, c, rfl, h2, h3, h4⟩
  · exact .inl rfl
  · exact .inr ⟨g, rfl, h3⟩
theorem Own1.kept (hs : Own1 w e v xs B) {ps : List Nat} (ho : Only ps w w') (hp : ∀ g, v.ownBlock = some g → g ∉ ps) : Own1 w' e v xs B := by
  rcases hs with hs | ⟨g, c, rfl, h2, h3, h4⟩
  · exact .inl hs
  · exact .inr ⟨g, c, rfl, h2.only ho (hp g rfl), h3, h4⟩
theorem own1_append2 (t : TypeId) (z : Value) (bytes : Nat) (ht : Tryz.prog.underlying t = some (.slice e)) (h2 : (Tryz.prog.info? e).map (fun i => (i.zero, i.size, i.bytes)) = some (some z, 1, bytes)) (hz : z.cells.size = 1) (hby : bytes ≤ 16) (hs : Own1 X e v xs B) (hB : B ≤ X.heap.size) (x : Value) (hx : x.oneCell' = true) (hl : xs.length ≤ 100000) :
    ∃ v' X', (Builtin.append_ #[t, t] t #[v, .slice (some ⟨X.heap.size, 0, none⟩) 1 1]).run Tryz.prog (X.alloc (.cells #[x] e)) = .ok v' X' ∧ Own1 X' e v' (xs ++ [x]) B ∧ Below B X X' ∧ Only v.ownBlock.toList X X' ∧ (v'.ownBlock = v.ownBlock ∨ ∃ g, v'.ownBlock = some g ∧ X.heap.size ≤ g) := by
  obtain ⟨i0, hi, hz0, hz1, hz2⟩ := info_parts h2
  have hb : Below B X (X.alloc (.cells #[x] e)) := (Below.refl _ _).alloc hB _
  have hown2 : (X.alloc (.cells #[x] e)).ownsRow 0 e 1 v xs.length xs := hs.owns.alloc _
  obtain ⟨v', X', hr, h2, h3, h4, h5⟩ := run_append_own_at (P := Tryz.prog) (w := X.alloc (.cells #[x] e)) 0 t t e i0 z 1 bytes ht hi hz0 hz1 hz2 hz (by decide) v xs.length _ hown2 ⟨X.heap.size, 0, none⟩ 1 1 [x] rfl (cell_one_new _ _ _) (by simpa using hx) (Nat.le_trans (show xs.length + 1 ≤ 100001 by omega) (by decide)) (by have : (xs.length + 1) * bytes ≤ 100001 * 16 := Nat.mul_le_mul (by omega) hby; omega) (Nat.zero_le _)
  have hXs : X.heap.size < (X.alloc (.cells #[x] e)).heap.size := by rw [World.size_alloc]; omega
  have hob := hs.ownBlock
  have hb2 : Below B (X.alloc (.cells #[x] e)) X' := ⟨h3.os, h3.tape, h3.output, h3.size, fun k hk => h3.block k (by omega) (fun e => by
    rcases hob with e1 | ⟨g, e1, e2⟩
    · rw [e1] at e; cases e
    · rw [e1] at e; have := Option.some.inj e; omega)⟩
  have honly : Only v.ownBlock.toList X X' := ⟨hb.os ▸ h3.os, hb.tape ▸ h3.tape, hb.output ▸ h3.output, by have := h3.size; omega, fun k hk hn => by
    rw [h3.block k (by omega) (fun e => hn (by first | (rw [e]; simp) | (rw [← e]; simp)))]
    exact Below.heap_alloc _ _ _ hk⟩
  obtain ⟨g', c', rfl, hgb, hs'⟩ := Sl.of_owns h2 (by omega)
  have hnew : (Value.slice (some ⟨g', 0, none⟩) (xs.length + 1) c').ownBlock = v.ownBlock ∨ ∃ g, (Value.slice (some ⟨g', 0, none⟩) (xs.length + 1) c').ownBlock = some g ∧ X.heap.size ≤ g := h5.imp id (fun h => ⟨_, h, by rw [World.size_alloc]; omega⟩)
  refine ⟨_, X', hr, .inr ⟨g', c', by rw [List.length_append]; rfl, by rw [List.length_append]; exact hs', ?_, by rw [List.length_append]; exact Nat.succ_pos _⟩, hb.trans hb2, honly, hnew⟩
  rw [hgb] at h5
  rcases h5 with h5 | h5
  · rcases hob with e | ⟨g, e, e1⟩
    · rw [e] at h5; cases h5
    · rw [e] at h5; rw [Option.some.inj h5]; exact e1
  · rw [Option.some.inj h5]; omega
theorem own1_append (t : TypeId) (z : Value) (bytes : Nat) (ht : Tryz.prog.underlying t = some (.slice e)) (h2 : (Tryz.prog.info? e).map (fun i => (i.zero, i.size, i.bytes)) = some (some z, 1, bytes)) (hz : z.cells.size = 1) (hby : bytes ≤ 16) (hs : Own1 X e v xs B) (hB : B ≤ X.heap.size) (x : Value) (hx : x.oneCell' = true) (hl : xs.length ≤ 100000) :
    ∃ v' X', (Builtin.append_ #[t, t] t #[v, .slice (some ⟨X.heap.size, 0, none⟩) 1 1]).run Tryz.prog (X.alloc (.cells #[x] e)) = .ok v' X' ∧ Own1 X' e v' (xs ++ [x]) B ∧ Below B X X' :=
  let ⟨v', X', h1, h2, h3, _⟩ := own1_append2 t z bytes ht h2 hz hby hs hB x hx hl
  ⟨v', X', h1, h2, h3⟩
end
end Go.Proofs.YteiikhcadjdkcaaGreatDoor
