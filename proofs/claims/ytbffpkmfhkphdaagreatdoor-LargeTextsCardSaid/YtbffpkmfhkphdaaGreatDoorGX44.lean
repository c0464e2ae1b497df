/- An answer's parts: an error's number, or the integer. The walk of the reference's Print. An integer of package api that came in, with the reach of its words. -/
import Derived.Test.YtbffpkmfhkphdaaGreatDoorAnsC
import Derived.Test.YtbffpkmfhkphdaaGreatDoorGX41
import Derived.Test.YtbffpkmfhkphdaaGreatDoorGX07
import Derived.Test.YtbffpkmfhkphdaaGreatDoorGX30
import Derived.SizedLaws
set_option linter.unusedVariables false
set_option linter.unusedSimpArgs false
namespace Go.Proofs.YtbffpkmfhkphdaaGreatDoor
open Go Go.RowKit Limb

/-- An answer's parts: why there is none (a number of an error), or 0 and the number. -/
def AnsC (code : Int) (X : World) (b : Bool) (a : Option Addr) (n c : Nat) (k z : Int) : Prop :=
  (code = 0 ∧ Ans X b a n c k z) ∨ (code ≠ 0 ∧ b = false ∧ a = none ∧ n = 0 ∧ c = 0 ∧ k = code)
theorem AnsC.below {code : Int} {X X' : World} {b : Bool} {a : Option Addr} {n c : Nat} {k z : Int} (h : AnsC code X b a n c k z) (hb : Below X.heap.size X X') : AnsC code X' b a n c k z := by
  rcases h with ⟨h1, h2⟩ | h
  · exact .inl ⟨h1, h2.below hb⟩
  · exact .inr h
theorem AnsC.yes {code : Int} {X : World} {b : Bool} {a : Option Addr} {n c : Nat} {k z : Int} (h : AnsC code X b a n c k z) (hc : code = 0) : Ans X b a n c k z := by
  rcases h with ⟨_, h⟩ | ⟨h, _⟩
  · exact h
  · exact absurd hc h
theorem AnsC.no {code : Int} {X : World} {b : Bool} {a : Option Addr} {n c : Nat} {k z d : Int} (h : AnsC code X b a n c k z) (hc : code = d) (hd : d ≠ 0) : b = false ∧ a = none ∧ n = 0 ∧ c = 0 ∧ k = d := by
  subst hc
  rcases h with ⟨h, _⟩ | ⟨_, h⟩
  · exact absurd h hd
  · exact h
theorem AnsC.kept {code : Int} {X X' : World} {b : Bool} {a : Option Addr} {n c : Nat} {k z : Int} (h : AnsC code X b a n c k z) (hl : ∀ x l, Lay .u32 X x l → Lay .u32 X' x l) : AnsC code X' b a n c k z := by
  rcases h with ⟨h1, h2⟩ | h
  · refine .inl ⟨h1, ?_⟩
    rcases h2 with ⟨h3, h4, h5⟩ | h2
    · exact .inl ⟨h3, h4, ApiV.to h5 hl⟩
    · exact .inr h2
  · exact .inr h
/-- What a call answers. -/
def AnsR (code z : Int) (X X' : World) (e : Ending) : Prop := ∃ b a n c k, e = .returned (.tuple #[.agg #[.bool b, .slice a n c], .int .i64 k]) ∧ Hid (AnsC code X' b a n c k z) ∧ Below X.heap.size X X'
theorem AnsR.ok {z : Int} {X X' : World} {e : Ending} (h : Answer true X X' e z) : AnsR 0 z X X' e := by
  obtain ⟨b, a, n, c, k, h1, h2, h3⟩ := h.any
  exact ⟨b, a, n, c, k, h1, Lib.hid (.inl ⟨rfl, h2⟩), h3⟩
theorem AnsR.bad {z d : Int} {X X' : World} {e : Ending} (hd : d ≠ 0) (h : e = .returned (.tuple #[.agg #[.bool false, .slice none 0 0], .int .i64 d]) ∧ Below X.heap.size X X') : AnsR d z X X' e :=
  ⟨_, _, _, _, _, h.1, Lib.hid (.inr ⟨hd, rfl, rfl, rfl, rfl, rfl⟩), h.2⟩
theorem AnsR.long {z : Int} {X X' : World} {e : Ending} (hl : 1024 < (rep z.natAbs).length) (h : e = .returned (.tuple #[.agg #[.bool false, .slice none 0 0], .int .i64 2]) ∧ Below X.heap.size X X') : AnsR 0 z X X' e :=
  ⟨_, _, _, _, _, h.1, Lib.hid (.inl ⟨rfl, .inr ⟨hl, rfl, rfl, rfl, rfl, rfl⟩⟩), h.2⟩

end Go.Proofs.YtbffpkmfhkphdaaGreatDoor

namespace Go.Proofs.YtbffpkmfhkphdaaGreatDoor
open Go Go.RowKit Limb

theorem owns_other {w : World} {B : Nat} {e t : TypeId} {v : Value} {n : Nat} {xs cs : List Value} {g i : Nat} (h : w.ownsRow B e 1 v n xs) (hr : Row w g t cs) (hne : e ≠ t) (u : Value) : (w.setCell ⟨g, i, none⟩ u).ownsRow B e 1 v n xs := by
  obtain ⟨h1, h2⟩ := h
  refine ⟨h1, ?_⟩
  rcases h2 with h2 | ⟨g', cap, cur, hv, hg, hh, hx⟩
  · exact .inl h2
  · refine .inr ⟨g', cap, cur, hv, hg, ?_, hx⟩
    have hgg : g' ≠ g := fun e => by
      subst e
      unfold Row at hr
      rw [hr] at hh
      simp only [Option.some.injEq, Obj.cells.injEq] at hh
      exact hne hh.2.1.symm
    have h3 : Row w g' e cur.toList := by unfold Row; simpa using hh
    have h4 := h3.other (a := ⟨g, i, none⟩) (by exact hgg) u
    unfold Row at h4; simpa using h4

set_option maxHeartbeats 6400000 in
set_option maxRecDepth 1000000 in
theorem ref_print (w : World) (v : Value) (z : Int) (b : Nat) (hv : ApiV w v z) (hl : (rep z.natAbs).length ≤ 1024) (h2 : 2 ≤ b) (h36 : b ≤ 36) :
    Calls Tryz.prog 35 #[v, .int .i64 b] w fun e w' => (∃ s, e = .returned (.string s) ∧ s.data.toList = utxt b z) ∧ Below w.heap.size w w' := by
  rw [utxt_dtxt h2 h36]
  obtain ⟨a00, cap, rfl, hc, hlay⟩ := hv
  obtain ⟨n0, hn0⟩ : ∃ n, n = (rep z.natAbs).length := ⟨_, rfl⟩
  obtain ⟨ng, hng⟩ : ∃ s, s = decide (z < 0) := ⟨_, rfl⟩
  rw [← hn0, ← hng]
  rw [← hn0] at hl hc
  obtain ⟨W, hWe, r4, hbW, hzW⟩ := rows1 w 24 (.bool ng) (.slice a00 n0 cap)
  have HWe := Lib.hid hWe; clear hWe
  have hWs : w.heap.size + 1 ≤ W.heap.size := by omega
  have c0 := r4.cell_at 0
  have c1 := r4.cell_at 1
  simp only [List.getElem?_cons_zero, List.getElem?_cons_succ] at c0 c1
  by_cases hz : z = 0
  · have e0 : n0 = 0 := by rw [hn0, hz]; rfl
    have HD := Lib.hid (show dtxt b z = [48] by unfold dtxt; rw [if_pos hz])
    clear hn0 hng hz hlay hc hl hzW
    subst e0
    go_enter Tryz.func35, Tryz.ntmps35
    go_wp2_with fail
    rw [← HWe.out]
    go_ret
    exact ⟨⟨_, rfl, by rw [HD.out]; rfl⟩, hbW⟩
  · obtain ⟨N, hN⟩ : ∃ N, N = z.natAbs := ⟨_, rfl⟩
    rw [← hN] at hn0 hlay
    have hnp : 0 < n0 := by have := rep_length_zero (n := N); omega
    have en : ((n0 : Int) == 0) = false := by rw [beq_eq_false_iff_ne]; omega
    obtain ⟨L, hL⟩ : ∃ L, L = (digs b N).length := ⟨_, rfl⟩
    have hLL : L ≤ 32768 := by
      rw [hL]
      refine Nat.le_trans (digs_length h2 N (32 * n0) ?_) (by omega)
      have := rep_len_hi N
      rw [← hn0, W_two] at this; exact this
    have HD := Lib.hid (show dtxt b z = (if ng = true then [45] else []) ++ ((digs b N).map usgn).reverse by
      unfold dtxt; rw [if_neg hz, hng, List.map_reverse, hN]
      by_cases h : z < 0
      · rw [if_pos h, if_pos (decide_eq_true h)]
      · rw [if_neg h, if_neg (by rw [decide_eq_false h]; decide)])
    have HL := Lib.hid hL
    have Hn0 := Lib.hid hn0
    have hlW := hlay.below hbW
    clear hL hn0 hng hz hlay hzW hN
    go_enter Tryz.func35, Tryz.ntmps35
    go_wp2_with fail
    rw [← HWe.out]
    go_loopw [5, 6] (fun dv mv wr => ∃ (a : Option Addr) (n c y mm : Nat) (l : List Nat), mv = .slice a n c ∧ n ≤ c ∧ Hid (n = (rep y).length) ∧ n ≤ 1024 ∧ Lay .u32 wr a (rep y) ∧ wr.ownsRow (w.heap.size + 1) 5 1 dv mm (nums .u8 l) ∧ Hid (mm = l.length) ∧ Hid (PartU b N l y) ∧ Row wr w.heap.size 24 [.bool ng, .slice a00 n0 cap] ∧ Below w.heap.size w wr ∧ w.heap.size + 1 ≤ wr.heap.size) (fun dv _ _ => L - slen dv)
    case atStart => exact ⟨a00, n0, cap, N, 0, [], rfl, hc, Hn0, hl, hlW, World.ownsRow_nil _ _ _ _, Lib.hid rfl, Lib.hid (PartU.start _ _), r4, hbW, hWs⟩
    case round =>
      clear hlW r4 hbW hWs c0 c1 hc hl hnp en Hn0
      obtain ⟨a, n, c, y, mm, l, rfl, hc, Hn, hl, hlay, hown, Hm, HP, r4, hB, hws⟩ := hrel
      by_cases hy : y = 0
      · have n0' : n = 0 := by rw [Hn.out, hy]; rfl
        have d1 : decide (0 < n) = false := decide_eq_false (by omega)
        have d1' : decide ((0 : Int) < (n : Int)) = false := decide_eq_false (by omega)
        have HE := Lib.hid (show l = (digs b N).map usgn by have h := HP.out; rw [hy] at h; exact h.done)
        have mL : mm ≤ 32768 := by rw [Hm.out, HE.out, List.length_map, ← HL.out]; exact hLL
        have c0 := r4.cell_at 0
        have c1 := r4.cell_at 1
        simp only [List.getElem?_cons_zero, List.getElem?_cons_succ] at c0 c1
        clear HP hy n0' hlay
        go_upto_if 61 with fail
        go_cut [5] (fun dv wx => ∃ (m2 : Nat) (l2 : List Nat), wx.ownsRow (w.heap.size + 1) 5 1 dv m2 (nums .u8 l2) ∧ Hid (l2 = (digs b N).map usgn ++ (if ng = true then [45] else [])) ∧ m2 ≤ 32769 ∧ Below w.heap.size w wx)
        case first =>
          have hsz := hB.size
          cases ng with
          | true =>
            go_wp2_with (at_builtin; refine wpList_append_row rfl _ _ 72 rfl .u8 (w.heap.size + 1) 5 (.int .u8 0) 1 Tryz.underlying72 info8 rfl _ mm l rfl (hown.alloc _) wr.heap.size 1 rfl 45 _ (by simp) rfl (by omega) (by omega) (by rw [World.size_alloc]; omega) ?_; intro v' w3 hown3 hb3 hszw hgr; replace hszw := Lib.hid hszw; clear hgr)
            have hB4 := (hB.alloc hB.size (.cells #[.int .u8 45] 5)).trans (hb3.mono (Nat.le_succ _))
            clear hown hB
            go_wp2_with fail
            go_meet
            exact ⟨mm + 1, l ++ [45], hown3, Lib.hid (by rw [HE.out]; simp), by omega, hB4⟩
          | false =>
            go_wp2_with fail
            go_meet
            exact ⟨mm, l, hown, Lib.hid (by rw [HE.out]; simp), by omega, hB⟩
        case rest =>
        clear hown hB hws c0 c1 r4 HE Hm
        obtain ⟨m2, l2, hown, HE, hm2, hB⟩ := hcut
        obtain ⟨ad, capd, hvd, hcd, hml, hlay, -⟩ := lay_of_owns hown
        subst hvd
        obtain ⟨X, hX⟩ : ∃ X, X = wc := ⟨_, rfl⟩
        rw [← hX] at hlay hB hown ⊢
        obtain ⟨b2, off2, hix, hcx, _⟩ := hlay.use 72 5 Tryz.underlying72 size8 capd
        rw [← hml] at hix hcx
        have HX := Lib.hid hix; clear hix
        have HCX := Lib.hid hcx; clear hcx
        have Hml := Lib.hid hml
        clear hX hlay hown hml
        go_wp2_with (at_make; refine wpList_make_row rfl _ _ _ rfl 5 (.int .u8 0) 1 Tryz.underlying72 info8 rfl _ _ _ _ m2 m2 rfl rfl rfl rfl (Nat.le_refl _) (by omega) (by omega) ?_; intro w1 g hg1 hg2 hrow hbel)
        have hB1 := hB.trans (hbel.mono hB.size)
        have hgw : w.heap.size ≤ g := Nat.le_trans hB.size hg1
        go_loopw [70] (fun i wx => ∃ k : Nat, k ≤ m2 ∧ i = .int .i64 k ∧ Row wx g 5 (nums .u8 (turned l2 k)) ∧ Below X.heap.size X wx ∧ Below w.heap.size w wx) (fun i _ => m2 - (intOf i).toNat)
        case atStart => exact ⟨0, Nat.zero_le _, rfl, by rw [turned_zero, nums_replicate, ← Hml.out]; exact hrow, hbel, hB1⟩
        case round =>
          clear hrow hbel hB1
          obtain ⟨k, hk, rfl, hr, hbX, hB2⟩ := hrel
          have hl := Lib.hid (show (turned l2 k).length = m2 by rw [turned_length l2 (by rw [← Hml.out]; exact hk), ← Hml.out])
          by_cases hlt : k < m2
          · have ix := HX.out wr .i64 k (by omega) (by omega)
            rw [Int.toNat_natCast] at ix
            have cx := HCX.out wr hbX k hlt
            obtain ⟨j, hj⟩ : ∃ j, j = m2 - 1 - k := ⟨_, rfl⟩
            have ej : (m2 : Int) - 1 - (k : Int) = (j : Int) := by omega
            have ej1 : (0 : Int) ≤ (m2 : Int) - 1 := by omega
            have hjm : j < m2 := by omega
            have ig := row_index (P := Tryz.prog) Tryz.underlying72 size8 g m2 m2 .i64 (j : Int) j rfl (by omega)
            have hcell := hr.cell (i := j) (by rw [hl.out]; exact hjm)
            have hfk := hr.free j
            have hr2 := hr.store j ((wd l2 k : Nat) : Int) (wd l2 k) rfl
            have Hst := Lib.hid (show (turned l2 k).set j (wd l2 k) = turned l2 (k + 1) by rw [hj, Hml.out]; exact turned_step l2 (by rw [← Hml.out]; exact hlt))
            rw [Hst.out] at hr2
            have hbX2 := below_store hbX hg1 (i := j) (.int .u8 ((wd l2 k : Nat) : Int))
            have hB3 := below_store hB2 hgw (i := j) (.int .u8 ((wd l2 k : Nat) : Int))
            clear hj hr hbX hB2
            go_wp2_with fail
            go_roundw
            case rel => exact ⟨k + 1, hlt, by go_num, hr2, hbX2, hB3⟩
            case measure => simp [intOf]; omega
          · obtain rfl : k = m2 := by omega
            rw [Hml.out, turned_all] at hr
            have hcv := conv_row (P := Tryz.prog) (rest := []) (by rw [List.append_nil]; exact hr) 72 Tryz.underlying72 Tryz.underlying5 k k (by rw [List.length_reverse]; exact Hml.out) 9 Tryz.underlying9
            clear hr hbX
            go_wp2_with fail
            go_ret
            refine ⟨⟨_, rfl, ?_⟩, hB2⟩
            rw [HD.out]
            have e : (if ng = true then [45] else []) ++ ((digs b N).map usgn).reverse = l2.reverse := by
              rw [HE.out, List.reverse_append]
              cases ng <;> rfl
            rw [e, ← List.map_reverse]
            exact strOf_nats _
      · have np : 0 < n := by have h1 := rep_length_zero (n := y); have h3 := Hn.out; omega
        have d1 : decide (0 < n) = true := decide_eq_true np
        have d1' : decide ((0 : Int) < (n : Int)) = true := decide_eq_true (by omega)
        have hmL := Lib.hid (show mm < L by rw [Hm.out, HL.out]; exact HP.out.len_lt h2 (by omega))
        have mL := hmL.out
        obtain ⟨b1, off1, hix, hcx, _⟩ := hlay.use 22 60 Tryz.underlying22 size32 c
        rw [← Hn.out] at hix hcx
        have HX := Lib.hid hix; clear hix
        have HCX := Lib.hid hcx; clear hcx
        obtain ⟨ad, capd, hvd, -, -, -, -⟩ := lay_of_owns hown
        subst hvd
        have hcy : y / b < y := Nat.div_lt_self (by omega) (by omega)
        clear np
        go_wp2_with (at_make; refine wpList_make_row rfl _ _ _ rfl 60 (.int .u32 0) 4 Tryz.underlying22 info32 rfl _ _ _ _ n n rfl rfl rfl rfl (Nat.le_refl _) (by omega) (by omega) ?_; intro w1 g hg1 hg2 hrow hbel)
        have hown1 := owns_below hown hbel
        have r41 := r4.below hbel r4.lt
        have hB1 := hB.trans (hbel.mono hB.size)
        have hws1 : w.heap.size + 1 ≤ w1.heap.size := r41.lt
        have hgw : w.heap.size + 1 ≤ g := by omega
        clear hown r4 hws
        go_loopw [7, 9] (fun rv i wx => ∃ (k rr : Nat) (qs : List Nat), k ≤ n ∧ i = .int .i64 ((k : Int) - 1) ∧ rv = .int .u64 rr ∧ rr < b ∧ Hid (qs.length = n) ∧ Hid (Lim qs) ∧ Row wx g 60 (nums .u32 qs) ∧
          Hid (val ((rep y).drop k) = b * val (qs.drop k) + rr) ∧ Below wr.heap.size wr wx ∧ wx.ownsRow (w.heap.size + 1) 5 1 (.slice ad mm capd) mm (nums .u8 l) ∧ Row wx w.heap.size 24 [.bool ng, .slice a00 n0 cap] ∧ Below w.heap.size w wx ∧ w.heap.size + 1 ≤ wx.heap.size) (fun _ i _ => (intOf i + 1).toNat)
        case atStart => exact ⟨n, 0, List.replicate n 0, Nat.le_refl _, rfl, rfl, by omega, Lib.hid (by simp), Lib.hid (Lim.replicate _ (by decide)), by rw [nums_replicate]; exact hrow, Lib.hid (by rw [List.drop_of_length_le (by rw [← Hn.out]; exact Nat.le_refl _), List.drop_of_length_le (by simp)]; rfl), hbel, hown1, r41, hB1, hws1⟩
        case round =>
          clear hrow hbel hown1 r41 hB1 hws1
          obtain ⟨k, r, qs, hk, rfl, rfl, hr, Hql, Hqlim, hrw, Hv, hbl, hown, r4, hB2, hws2⟩ := hrel
          by_cases h0 : k = 0
          · subst h0
            have hle2 := rep_val_le Hqlim.out
            have h3 := Hv.out
            simp only [List.drop_zero, val_rep] at h3
            have hq : Hid (val qs = y / b) := Lib.hid (by rw [h3, Nat.mul_add_div (by omega), Nat.div_eq_of_lt hr, Nat.add_zero])
            have hm : Hid (r = y % b) := Lib.hid (by rw [h3, Nat.mul_add_mod, Nat.mod_eq_of_lt hr])
            have HCt := Lib.hid (ref_cut wr (some ⟨g, 0, none⟩) qs n n hrw.lay Hqlim.out Hql.out.symm (by omega) (Nat.le_refl _))
            have sg := fun W => usign_at W r (by omega)
            have Hly := Lib.hid (hrw.lay.norm Hqlim.out)
            have HP2 := Lib.hid (HP.out.step h2 (show 0 < y by omega))
            rw [← hm.out, ← hq.out] at HP2
            rw [Hql.out] at hle2
            have hsz := hB2.size
            have r4l := r4.lt
            clear h3 Hv hm Hly
            go_wp2_with fail
            refine HCt.out.mono ?_
            rintro e w5 ⟨rfl, rfl⟩
            (try dsimp only)
            go_wp2_with (at_builtin; refine wpList_append_row rfl _ _ 72 rfl .u8 (w.heap.size + 1) 5 (.int .u8 0) 1 Tryz.underlying72 info8 rfl _ mm l rfl (hown.alloc _) wr.heap.size 1 rfl (usgn r) _ (by simp) rfl (by omega) (by omega) (by rw [World.size_alloc]; omega) ?_; intro v' w3 hown3 hb3 hszw hgr; replace hszw := Lib.hid hszw)
            have r43 := hgr w.heap.size 24 _ (by decide) (r4.alloc (.cells #[.int .u8 ((usgn r : Nat) : Int)] 5))
            have hrw3 := hgr g 60 _ (by decide) (hrw.alloc (.cells #[.int .u8 ((usgn r : Nat) : Int)] 5))
            have Hly := Lib.hid (show Lay .u32 w3 (some ⟨g, 0, none⟩) (rep (y / b)) from by rw [← hq.out]; exact hrw3.lay.norm Hqlim.out)
            have hB4 := (hB2.alloc hB2.size (.cells #[.int .u8 ((usgn r : Nat) : Int)] 5)).trans (hb3.mono (Nat.le_succ _))
            have hws4 : w.heap.size + 1 ≤ w3.heap.size := r43.lt
            have Hs3 := Lib.hid (owns_len hown3)
            have HQn := Lib.hid (show (rep (val qs)).length = (rep (y / b)).length by rw [hq.out])
            clear hgr hown r4 hrw hrw3 hB2 hb3 hws2 sg
            go_wp2_with fail
            go_roundw
            case rel => exact ⟨some ⟨g, 0, none⟩, (rep (val qs)).length, n, y / b, mm + 1, l ++ [usgn r], rfl, hle2, Lib.hid HQn.out, by omega, Hly.out, hown3, Lib.hid (by rw [List.length_append, Hm.out]; rfl), Lib.hid (by rw [← hq.out]; exact HP2.out), r43, hB4, hws4⟩
            case measure => rw [Hs3.out]; simp only [slen]; omega
          · obtain ⟨j, rfl⟩ : ∃ j, k = j + 1 := ⟨k - 1, by omega⟩
            have hj : ((j + 1 : Nat) : Int) - 1 = (j : Int) := by omega
            rw [hj]
            clear hj h0
            have ix := HX.out wr .i64 j (by omega) (by omega)
            rw [Int.toNat_natCast] at ix
            have cx := HCX.out wr hbl j (by omega)
            have ig := row_index (P := Tryz.prog) Tryz.underlying22 size32 g n n .i64 (j : Int) j rfl (by omega)
            have hcell := hrw.cell (i := j) (by rw [Hql.out]; omega)
            have hfk := hrw.free j
            have h1 := (rep_lim y).wd j
            have hst := Lib.hid (short_step (d := b) (by omega) (by rw [← Hn.out]; omega) (by rw [Hql.out, Hn.out]) Hv.out)
            obtain ⟨x, hx⟩ : ∃ x, x = wd (rep y) j := ⟨_, rfl⟩
            rw [← hx] at cx h1 hst
            obtain ⟨t0, ht0⟩ : ∃ t0, t0 = r * 4294967296 := ⟨_, rfl⟩
            rw [← ht0] at hst
            have eM : IntKind.u64.wrap ((r : Int) * 4294967296) = (t0 : Int) := by rw [IntKind.wrap_u64]; omega
            have eM2 : (r : Int) * 4294967296 = (t0 : Int) := by omega
            obtain ⟨t, ht⟩ : ∃ t, t = t0 + x := ⟨_, rfl⟩
            rw [← ht] at hst
            have eT : IntKind.u64.wrap ((t0 : Int) + (x : Int)) = (t : Int) := by rw [IntKind.wrap_u64]; omega
            have eT2 : (t0 : Int) + (x : Int) = (t : Int) := by omega
            have htlt : t / b < 4294967296 := by rw [Nat.div_lt_iff_lt_mul (by omega)]; have := Nat.mul_le_mul_right 4294967296 (show r + 1 ≤ b from hr); omega
            have htm : t % b < b := Nat.mod_lt _ (by omega)
            obtain ⟨q, hq⟩ : ∃ q, q = t / b := ⟨_, rfl⟩
            obtain ⟨m, hm⟩ : ∃ m, m = t % b := ⟨_, rfl⟩
            have eq1 : (t : Int) / (b : Int) = (q : Int) := by rw [hq, Int.natCast_ediv]
            have em1 : (t : Int) % (b : Int) = (m : Int) := by rw [hm, Int.natCast_emod]
            rw [← hq] at hst htlt
            rw [← hm] at hst htm
            have hbz : b ≠ 0 := by omega
            have eqm : (q : Int) % 4294967296 = (q : Int) := by omega
            have hrw2 := hrw.store j (q : Int) q rfl
            have hbl2 := below_store hbl hg1 (i := j) (.int .u32 (q : Int))
            have hB3 := below_store hB2 (show w.heap.size ≤ g by omega) (i := j) (.int .u32 (q : Int))
            have r43 := r4.other (a := ⟨g, j, none⟩) (by simp; omega) (.int .u32 (q : Int))
            have hown2 := owns_other hown hrw (by decide) (i := j) (.int .u32 (q : Int))
            have hws3 : w.heap.size + 1 ≤ (wr.setCell ⟨g, j, none⟩ (.int .u32 (q : Int))).heap.size := r43.lt
            have hlim2 := Lib.hid (Hqlim.out.set (i := j) htlt)
            have hql2 := Lib.hid (show (qs.set j q).length = n by rw [List.length_set]; exact Hql.out)
            have tl : t < 18446744073709551616 := by omega
            clear ht0 ht hq hm hx hown r4 hB2 hbl hrw hws2
            go_wp2
            go_roundw
            case rel => exact ⟨j, m, qs.set j q, by omega, by go_num, by rw [em1], htm, Lib.hid hql2.out, Lib.hid hlim2.out, hrw2, Lib.hid hst.out, hbl2, hown2, r43, hB3, hws3⟩
            case measure => first | (simp [intOf]; done) | (simp [intOf]; omega)

end Go.Proofs.YtbffpkmfhkphdaaGreatDoor

namespace Go.Proofs.YtbffpkmfhkphdaaGreatDoor
open Go Go.ChangeShapes Go.WideShapes Go.ChangeAt Go.RowKit Limb

section
variable {H : Type} {enc : TypeId × Value → H}
set_option maxRecDepth 100000 in
/-- An argument of type api.Int, no longer than the reach. -/
theorem open_api_reach {W : World} {base : Nat} {v : Value} {d : DataW H} {p : List MemPlace} (hv : Value.okWide Tryz.prog W .any base 24 v) (h : DataW.Trod enc Tryz.prog W 0 (fun _ => true) true 24 v d p)
    (hw : ∀ n ∈ d.weights Tryz.prog 24, n ≤ reachBytes) :
    ∃ b a n c l, v = .agg #[.bool b, .slice a n c] ∧ Came W b a n l ∧ n ≤ c ∧ n ≤ 35184372088832 := by
  obtain ⟨v0, v1, y0, y1, n, rfl, hd, _, h0, h1⟩ := Joins.open_agg2 Tryz.underlying24 (by kernel_rfl) (by kernel_rfl) hv h
  have h0 : DataW.trod enc Tryz.prog W 0 (fun _ => true) true n 4 [v0] = some y0 := h0
  have h1 : DataW.trod enc Tryz.prog W 0 (fun _ => true) true n 22 [v1] = some y1 := h1
  obtain ⟨b, e0, _⟩ := DataW.trod_bool Tryz.underlying4 h0
  have e0 : v0 = .bool b := by simpa using e0
  subst e0
  rcases open_ints Tryz.underlying22 Tryz.underlying60 (by kernel_rfl) h1 with ⟨e1, _⟩ | ⟨a, len, cap, zs, e1, _, hl, hm, hz, hy, hc, hwf⟩
  · have e1 : v1 = .slice none 0 0 := by simpa using e1
    subst e1
    exact ⟨b, none, 0, 0, [], rfl, ⟨Lay.nil _ _ _, Lim.nil, rfl, by decide⟩, Nat.le_refl _, by decide⟩
  · have e1 : v1 = .slice (some a) len cap := by simpa using e1
    subst e1
    simp only [if_true] at hz
    obtain ⟨l, hcame⟩ := came_of_ints (b := b) hl hm hz hc hwf
    refine ⟨b, some a, len, cap, l, rfl, hcame, hl, ?_⟩
    subst hy
    rw [hd] at hw
    have h4 : Tryz.prog.bytesOf 60 = 4 := by kernel_rfl
    have := hw (((lits (H := H) .u32 (zs.take len)).length + (lits (H := H) .u32 (zs.drop len)).length) * Tryz.prog.bytesOf 60) (by
      simp [DataW.weights, DataW.weightsEach, Tryz.underlying24, Tryz.underlying22])
    rw [h4] at this
    simp only [lits, List.length_map, List.length_take, List.length_drop] at this
    unfold reachBytes at this
    omega
end

end Go.Proofs.YtbffpkmfhkphdaaGreatDoor
