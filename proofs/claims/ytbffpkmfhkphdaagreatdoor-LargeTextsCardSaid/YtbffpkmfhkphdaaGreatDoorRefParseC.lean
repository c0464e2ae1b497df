/- The walk of the reference's Parse. -/
import Derived.Test.YtbffpkmfhkphdaaGreatDoorGX41
import Derived.Test.YtbffpkmfhkphdaaGreatDoorLParseC
import Derived.Deep.DeepCutAuto
set_option linter.unusedVariables false
set_option linter.unusedSimpArgs false
namespace Go.Proofs.YtbffpkmfhkphdaaGreatDoor
open Go Go.RowKit Limb

theorem tail_bytes (s : ByteArray) : bytesN (s.extract 1 s.size) = (bytesN s).tail := by
  unfold bytesN
  rw [Lib.extract_to_end, List.map_drop, List.drop_one]
/-- The sign, and what stands behind it. -/
theorem parse_parts (s : ByteArray) : ∃ (ng : Bool) (t : ByteArray), ng = parseN (bytesN s) ∧ bytesN t = parseT (bytesN s) ∧ t.size ≤ s.size ∧ (ng = true → s.extract 1 s.size = t ∧ 0 < s.size) ∧ (ng = false → t = s) ∧
    (∀ h : 0 < s.size, ((s[0].toNat : Int) == 45) = ng) := by
  have hh : ∀ h : 0 < s.size, (bytesN s).head? = some s[0].toNat := fun h => by
    rw [List.head?_eq_getElem?, List.getElem?_eq_getElem (by rw [bytesN_length]; exact h)]
    congr 1
    simp [bytesN]; rfl
  have h45 : ∀ h : 0 < s.size, ((s[0].toNat : Int) == 45) = parseN (bytesN s) := fun h => by
    unfold parseN
    rw [hh h, Bool.eq_iff_iff, beq_iff_eq, decide_eq_true_eq, Option.some.injEq]; omega
  cases hn : parseN (bytesN s) with
  | true =>
    have h1 : (bytesN s).head? = some 45 := of_decide_eq_true hn
    have hp : 0 < s.size := by
      rcases Nat.eq_zero_or_pos s.size with h | h
      · rw [List.eq_nil_of_length_eq_zero (show (bytesN s).length = 0 by rw [bytesN_length]; exact h)] at h1; cases h1
      · exact h
    refine ⟨true, s.extract 1 s.size, rfl, ?_, ?_, fun _ => ⟨rfl, hp⟩, fun h => by (cases h), fun h => by rw [h45 h, hn]⟩
    · rw [tail_bytes]; unfold parseT; rw [if_pos h1]
    · rw [← bytesN_length, tail_bytes, List.length_tail, bytesN_length]; omega
  | false =>
    have h1 : ¬ (bytesN s).head? = some 45 := of_decide_eq_false hn
    exact ⟨false, s, rfl, by unfold parseT; rw [if_neg h1], Nat.le_refl _, fun h => by (cases h), fun _ => rfl, fun h => by rw [h45 h, hn]⟩

theorem digit_good (X : World) (cc b : Nat) (h : dgt cc < b) (h36 : b ≤ 36) (hc : cc < 256) : Calls Tryz.prog 100 #[.int .u8 cc] X fun e w' => e = .returned (.int .i64 (dgt cc : Nat)) ∧ X = w' := by
  have h1 := ref_digit X cc hc
  unfold dgtZ at h1
  rw [if_pos (by omega)] at h1; exact h1

/-- What the reference's Parse answers of digits. -/
def RParseRes (w w' : World) (e : Ending) (z : Int) : Prop :=
  ((1024 < (rep z.natAbs).length ∧ e = .returned (.tuple #[.agg #[.bool false, .slice none 0 0], .int .i64 2])) ∨
    ((rep z.natAbs).length ≤ 1024 ∧ ∃ b a n c, e = .returned (.tuple #[.agg #[.bool b, .slice a n c], .int .i64 0]) ∧ ApiV w' (.agg #[.bool b, .slice a n c]) z)) ∧ Below w.heap.size w w'

set_option maxHeartbeats 6400000 in
set_option maxRecDepth 1000000 in
theorem ref_parse_ok (w : World) (s : ByteArray) (b : Nat) (hb : 2 ≤ b) (h36 : b ≤ 36) (hs : s.size ≤ 140737488355328) (hbad : badT b (parseT (bytesN s)) = false) :
    Calls Tryz.prog 34 #[.string s, .int .i64 b] w fun e w' => RParseRes w w' e (parseZ b (bytesN s)) := by
  obtain ⟨W, hWe, r4, hbW, hzW⟩ := rows1 w 24 (.bool false) (.slice none 0 0)
  have HWe := Lib.hid hWe; clear hWe
  have hWs : w.heap.size + 1 ≤ W.heap.size := by omega
  clear hzW
  obtain ⟨ng, t, hng, ht, htz, hneg, hpos, h45⟩ := parse_parts s
  obtain ⟨z, hz⟩ : ∃ z, z = parseZ b (bytesN s) := ⟨_, rfl⟩
  have hza : z.natAbs = numF b 0 (bytesN t) := by rw [hz, parseZ_abs, ← ht]
  have hzs : (ng = true → z ≤ 0) ∧ (ng = false → 0 ≤ z) := by
    rw [hz, hng]; unfold parseZ
    constructor
    · intro h; rw [if_pos h]; omega
    · intro h; rw [if_neg (by rw [h]; decide)]; omega
  rw [← ht] at hbad
  rw [← hz]
  obtain ⟨hne, hgood⟩ := badT_iff.1 hbad
  have h0 : t.size ≠ 0 := fun h => hne (List.eq_nil_of_length_eq_zero (by rw [bytesN_length]; exact h))
  have hs0 : 0 < s.size := by omega
  have HG := Lib.hid hgood
  have HZa := Lib.hid hza
  have HZs := Lib.hid hzs
  have hst : t.size ≤ 140737488355328 := by omega
  have e45 := h45 hs0
  have Hneg := Lib.hid hneg
  have Hpos := Lib.hid hpos
  have et : ((t.size : Int) == 0) = false := by rw [beq_eq_false_iff_ne]; omega
  clear hz hza hzs hng ht hneg hpos h45 hbad hne hgood h0
  go_enter Tryz.func34, Tryz.ntmps34
  go_upto_if 22 with fail
  rw [← HWe.out]
  go_cut [0] (fun s0 wx => s0 = .string t ∧ W = wx)
  case first =>
    cases ng with
    | true =>
      have ht := (Hneg.out rfl).1
      go_wp2_with fail
      go_meet
      exact ⟨rfl, rfl⟩
    | false =>
      have ht := Hpos.out rfl
      subst ht
      go_wp2_with fail
      go_meet
      exact ⟨rfl, rfl⟩
  case rest =>
  obtain ⟨rfl, rfl⟩ := hcut
  clear e45 Hneg Hpos
  go_wp2_with fail
  go_loop [7] (fun i => ∃ k : Nat, k ≤ t.size ∧ i = .int .i64 k) (fun i => t.size - (intOf i).toNat)
  case atStart => exact ⟨0, Nat.zero_le _, rfl⟩
  case round =>
    obtain ⟨k, hk, rfl⟩ := hrel
    by_cases hlt : k < t.size
    · have hmem := bytesN_mem t k hlt
      obtain ⟨cc, hcc⟩ : ∃ cc, t[k].toNat = cc := ⟨_, rfl⟩
      have hc256 : cc < 256 := by rw [← hcc]; exact UInt8.toNat_lt _
      rw [hcc] at hmem
      have hI := digit_good W cc b (HG.out cc hmem) h36 hc256
      have hd := HG.out cc hmem
      obtain ⟨d, hde⟩ : ∃ d, d = dgt cc := ⟨_, rfl⟩
      rw [← hde] at hI hd
      have HI := Lib.hid hI
      have d1 : decide ((d : Int) < 0) = false := decide_eq_false (by omega)
      have d2 : decide ((b : Int) ≤ (d : Int)) = false := decide_eq_false (by omega)
      have d2' : decide (b ≤ d) = false := decide_eq_false (by omega)
      clear hI hde hmem hc256
      go_wp2_with fail
      refine HI.out.mono ?_
      rintro e w1 ⟨rfl, rfl⟩
      (try dsimp only)
      go_wp2_with fail
      go_round
      case rel => exact ⟨k + 1, hlt, by go_num⟩
      case measure => simp [intOf]; omega
    · obtain rfl : k = t.size := by omega
      go_wp2_with fail
      go_loopw [9, 10] (fun m i wr => ∃ (k n : Nat), k ≤ t.size ∧ i = .int .i64 k ∧ n ≤ 1024 ∧ wr.ownsRow (w.heap.size + 1) 60 1 m n (nums .u32 (rep (numF b 0 ((bytesN t).take k)))) ∧ Row wr w.heap.size 24 [.bool false, .slice none 0 0] ∧ Below w.heap.size w wr ∧ w.heap.size + 1 ≤ wr.heap.size) (fun _ i _ => t.size - (intOf i).toNat)
      case atStart => exact ⟨0, 0, Nat.zero_le _, rfl, by decide, World.ownsRow_nil _ _ _ _, r4, hbW, hWs⟩
      case round =>
        clear r4 hbW hWs hk hlt
        obtain ⟨k, n, hk, rfl, hn10, hown, r4, hB, hws⟩ := hrel
        by_cases hlt : k < t.size
        · have Hts := Lib.hid (bytesN_take t k hlt)
          have hmem := bytesN_mem t k hlt
          obtain ⟨cc, hcc⟩ : ∃ cc, t[k].toNat = cc := ⟨_, rfl⟩
          have hc256 : cc < 256 := by rw [← hcc]; exact UInt8.toNat_lt _
          rw [hcc] at hmem
          have hI := digit_good wr cc b (HG.out cc hmem) h36 hc256
          have hd := HG.out cc hmem
          obtain ⟨d, hde⟩ : ∃ d, d = dgt cc := ⟨_, rfl⟩
          obtain ⟨V, hV⟩ : ∃ V, V = numF b 0 ((bytesN t).take k) := ⟨_, rfl⟩
          have Hnext := Lib.hid (show numF b 0 ((bytesN t).take (k + 1)) = V * b + d by rw [Hts.out, numF_snoc, ← hV, hcc, hde])
          rw [← hde] at hI hd
          rw [← hV] at hown
          have HI := Lib.hid hI
          obtain ⟨a, cap, hv, hcap, hlen, -, -⟩ := lay_of_owns hown
          subst hv
          have Hlen := Lib.hid hlen
          clear hI hde hmem hc256 hV hlen Hts
          go_wp2_with fail
          refine HI.out.mono ?_
          rintro e w1 ⟨rfl, rfl⟩
          (try dsimp only)
          go_wp2_with fail
          go_loopw [11, 12] (fun cv i wx => ∃ (j c : Nat) (cur : List Nat), j ≤ n ∧ i = .int .i64 j ∧ cv = .int .u64 c ∧ c < b ∧ Hid (Put b d (rep V) j cur c) ∧ wx.ownsRow (w.heap.size + 1) 60 1 (.slice a n cap) n (nums .u32 cur) ∧ Row wx w.heap.size 24 [.bool false, .slice none 0 0] ∧ Below w.heap.size w wx ∧ w.heap.size + 1 ≤ wx.heap.size) (fun _ i _ => n - (intOf i).toNat)
          case atStart => exact ⟨0, d, rep V, Nat.zero_le _, rfl, by first | rfl | go_num, hd, Lib.hid (Put.start (rep_lim _) hd), hown, r4, hB, hws⟩
          case round =>
            clear hown r4 hB hws
            obtain ⟨j, c, cur, hj, rfl, rfl, hc, HP, hown2, r42, hB2, hws2⟩ := hrel
            by_cases hjn : j < n
            · obtain ⟨g, rfl, hg⟩ := owns_some hown2 (by omega)
              have ix := row_index (P := Tryz.prog) Tryz.underlying22 size32 g n cap .i64 (j : Int) j rfl (by omega)
              have hcl : Hid (cur.length = n) := Lib.hid (owns_length hown2).symm
              have hcell := hown2.cellAt j (by omega)
              rw [nums_get (by rw [hcl.out]; exact hjn), HP.out.rest j (Nat.le_refl _)] at hcell
              have hfk := hown2.frozenAt j
              have hxl := (rep_lim V).wd j
              have Hst := Lib.hid (HP.out.step (rep_lim V) (by rw [← Hlen.out]; exact hjn))
              obtain ⟨x, hxe⟩ : ∃ x, x = wd (rep V) j := ⟨_, rfl⟩
              rw [← hxe] at hcell hxl Hst
              obtain ⟨m, hm⟩ : ∃ m, m = x * b := ⟨_, rfl⟩
              have hmul : x * b ≤ 4294967295 * 36 := Nat.mul_le_mul (by omega) (by omega)
              have eM : (x : Int) * (b : Int) = (m : Int) := by rw [hm, Int.natCast_mul]
              rw [← hm] at Hst hmul
              obtain ⟨t1, ht1⟩ : ∃ t1, t1 = m + c := ⟨_, rfl⟩
              rw [← ht1] at Hst
              have eT : (m : Int) + (c : Int) = (t1 : Int) := by omega
              have eM2 : IntKind.u64.wrap ((x : Int) * (b : Int)) = (m : Int) := by rw [eM, IntKind.wrap_u64]; omega
              have eT2 : IntKind.u64.wrap ((m : Int) + (c : Int)) = (t1 : Int) := by rw [eT, IntKind.wrap_u64]; omega
              have tl : t1 < 18446744073709551616 := by omega
              obtain ⟨r, hre⟩ : ∃ r, r = t1 % 4294967296 := ⟨_, rfl⟩
              obtain ⟨q, hqe⟩ : ∃ q, q = t1 / 4294967296 := ⟨_, rfl⟩
              rw [← hre, ← hqe] at Hst
              have er : (t1 : Int) % 4294967296 = (r : Int) := by omega
              have eq : (t1 : Int) / 4294967296 = (q : Int) := by omega
              have rl : r < 4294967296 := by omega
              have qb : q < b := Hst.out.car
              have hown3 := (hown2.stored j (.int .u32 (r : Int))).1
              rw [← nums_set] at hown3
              have hB3 := below_store hB2 (show w.heap.size ≤ g by omega) (i := j) (.int .u32 (r : Int))
              have r43 := r42.other (a := ⟨g, j, none⟩) (by simp; omega) (.int .u32 (r : Int))
              have hws3 : w.heap.size + 1 ≤ (wr.setCell ⟨g, j, none⟩ (.int .u32 (r : Int))).heap.size := r43.lt
              clear hm ht1 hre hqe hmul hxe hown2 hB2 HP r42 hws2
              go_wp2
              go_roundw
              case rel => exact ⟨j + 1, q, cur.set j r, by omega, by go_num, rfl, qb, Lib.hid Hst.out, hown3, r43, hB3, hws3⟩
              case measure => simp [intOf]; omega
            · obtain rfl : j = n := by omega
              have HD := Lib.hid (Put.done (by omega) (show Put b d (rep V) (rep V).length cur c by rw [← Hlen.out]; exact HP.out))
              have hsz := hB2.size
              have hlong : ∀ N : Nat, N = V * b + d → ¬ (rep N).length ≤ 1024 → 1024 < (rep z.natAbs).length := fun N hN h => by
                have h1 : N ≤ z.natAbs := by
                  rw [HZa.out, hN, ← Hnext.out]
                  conv => rhs; rw [← List.take_append_drop (k + 1) (bytesN t)]
                  rw [numF_append]
                  exact numF_le (by omega) _ _
                have := rep_mono h1
                omega
              have HLong := Lib.hid hlong
              clear hlong
              by_cases c0 : c = 0
              · have HE := Lib.hid (HD.out.1 c0)
                have hl1 : ((j : Nat) : Int) ≤ 1024 := by omega
                have d1 : decide ((1024 : Int) < (j : Int)) = false := decide_eq_false (by omega)
                have d1' : decide (1024 < j) = false := decide_eq_false (by omega)
                subst c0
                clear HP HD HLong
                go_wp2_with fail
                go_roundw
                case rel => exact ⟨k + 1, j, hlt, by go_num, hn10, by rw [Hnext.out, ← HE.out]; exact hown2, r42, hB2, hws2⟩
                case measure => simp [intOf]; omega
              · have HE := Lib.hid (HD.out.2 (by omega) (by omega))
                have d1 : decide (0 < c) = true := decide_eq_true (by omega)
                have ec : (c : Int) % 4294967296 = (c : Int) := by omega
                clear HP HD c0
                obtain ⟨n2, hn2⟩ : ∃ n2, n2 = j + 1 := ⟨_, rfl⟩
                have n2b : n2 ≤ 1025 := by omega
                have Hn2 := Lib.hid hn2
                clear hn2
                by_cases hl : n2 ≤ 1024
                · have d2 : decide ((1024 : Int) < (n2 : Int)) = false := decide_eq_false (by omega)
                  have d2' : decide (1024 < n2) = false := decide_eq_false (by omega)
                  go_wp2_with (at_builtin; refine wpList_append_row rfl _ _ 22 rfl .u32 (w.heap.size + 1) 60 (.int .u32 0) 4 Tryz.underlying22 info32 rfl _ j cur rfl (hown2.alloc _) wr.heap.size 1 rfl c _ (by simp) rfl (by omega) (by omega) (by rw [World.size_alloc]; omega) ?_; intro v' w3 hown3 hb3 hszw hgr; replace hszw := Lib.hid hszw; rw [← Hn2.out] at hown3; obtain ⟨a', cap', hv', hcp, hlen', hly, hrw⟩ := lay_of_owns hown3; subst hv'; clear hly hrw; replace hlen' := Lib.hid hlen')
                  have r43 := hgr w.heap.size 24 _ (by decide) (r42.alloc (.cells #[.int .u32 (c : Int)] 60))
                  have hB4 := (hB2.alloc hB2.size (.cells #[.int .u32 (c : Int)] 60)).trans (hb3.mono (Nat.le_succ _))
                  have hws4 : w.heap.size + 1 ≤ w3.heap.size := r43.lt
                  have HN := Lib.hid (show n2 = (rep (V * b + d)).length by rw [← HE.out, ← hlen'.out])
                  clear hgr hown2 r42 hB2 hb3 hlen' hws2
                  go_wp2_with fail
                  go_roundw
                  case rel => exact ⟨k + 1, n2, hlt, by go_num, hl, by rw [Hnext.out, ← HE.out]; exact hown3, r43, hB4, hws4⟩
                  case measure => simp [intOf]; omega
                · have d2 : decide ((1024 : Int) < (n2 : Int)) = true := decide_eq_true (by omega)
                  have d2' : decide (1024 < n2) = true := decide_eq_true (by omega)
                  go_wp2_with (at_builtin; refine wpList_append_row rfl _ _ 22 rfl .u32 (w.heap.size + 1) 60 (.int .u32 0) 4 Tryz.underlying22 info32 rfl _ j cur rfl (hown2.alloc _) wr.heap.size 1 rfl c _ (by simp) rfl (by omega) (by omega) (by rw [World.size_alloc]; omega) ?_; intro v' w3 hown3 hb3 hszw hgr; replace hszw := Lib.hid hszw; rw [← Hn2.out] at hown3; obtain ⟨a', cap', hv', hcp, hlen', hly, hrw⟩ := lay_of_owns hown3; subst hv'; clear hly hrw; replace hlen' := Lib.hid hlen'; have r43 := hgr w.heap.size 24 _ (by decide) (r42.alloc (.cells #[.int .u32 (c : Int)] 60)); have k0 := r43.cell_at 0; have k1 := r43.cell_at 1; have k2 := r43.free 0; have k3 := r43.free 1; simp only [List.getElem?_cons_zero, List.getElem?_cons_succ] at k0 k1)
                  have hB4 := (hB2.alloc hB2.size (.cells #[.int .u32 (c : Int)] 60)).trans (hb3.mono (Nat.le_succ _))
                  have hws4 : w.heap.size + 1 ≤ w3.heap.size := r43.lt
                  have HN := Lib.hid (show n2 = (rep (V * b + d)).length by rw [← HE.out, ← hlen'.out])
                  clear hgr hown2 r42 hB2 hb3 hlen' hws2
                  have HL := Lib.hid (HLong.out _ rfl (by rw [← HN.out]; exact hl))
                  have e0 : (w3.setCell ⟨w.heap.size, 0, none⟩ (.bool false)).cell? ⟨w.heap.size, 0, none⟩ = some (.bool false) := (r43.store_any 0 _).cell_at 0
                  have e1 : ((w3.setCell ⟨w.heap.size, 0, none⟩ (.bool false)).setCell ⟨w.heap.size, 1, none⟩ (.slice none 0 0)).cell? ⟨w.heap.size, 1, none⟩ = some (.slice none 0 0) := ((r43.store_any 0 _).store_any 1 _).cell_at 1
                  have HF := Lib.hid (below_store (below_store hB4 (g := w.heap.size) (i := 0) (Nat.le_refl _) (.bool false)) (g := w.heap.size) (i := 1) (Nat.le_refl _) (.slice none 0 0))
                  clear hB4 r43 hown3
                  go_wp2
                  (try simp only [Exit.inBlock, Exit.then])
                  refine bodyPost_ret (v := .tuple #[.agg #[.bool false, .slice none 0 0], .int .i64 2]) (by simp [results, Tryz.results34, go_sem, e0, e1]) rfl ?_
                  exact ⟨.inl ⟨HL.out, rfl⟩, HF.out⟩
        · obtain rfl : k = t.size := by omega
          rw [List.take_of_length_le (by rw [bytesN_length]; exact Nat.le_refl _), ← HZa.out] at hown
          obtain ⟨a, cap, hv, hcap, hlen, hlay, -⟩ := lay_of_owns hown
          subst hv
          have HM := Lib.hid (ref_made wr ng a (rep z.natAbs) n cap z hlay (rep_lim _) hlen (by omega) hcap (val_rep _) HZs.out)
          have HL := Lib.hid (show (rep z.natAbs).length ≤ 1024 by omega)
          clear hown hlay hlen
          go_wp2_with fail
          refine HM.out.mono ?_
          rintro e w5 ⟨u, rfl, hu, hb5⟩
          obtain ⟨b', a', n', c', rfl, -⟩ := hu.open
          (try dsimp only)
          have hR := r4.below hb5 r4.lt
          have hB5 := hB.trans (hb5.mono hB.size)
          have k0 := hR.cell_at 0
          have k1 := hR.cell_at 1
          have k2 := hR.free 0
          have k3 := hR.free 1
          simp only [List.getElem?_cons_zero, List.getElem?_cons_succ] at k0 k1
          have e0 : (w5.setCell ⟨w.heap.size, 0, none⟩ (.bool b')).cell? ⟨w.heap.size, 0, none⟩ = some (.bool b') := (hR.store_any 0 _).cell_at 0
          have e1 : ((w5.setCell ⟨w.heap.size, 0, none⟩ (.bool b')).setCell ⟨w.heap.size, 1, none⟩ (.slice a' n' c')).cell? ⟨w.heap.size, 1, none⟩ = some (.slice a' n' c') := ((hR.store_any 0 _).store_any 1 _).cell_at 1
          have HF := Lib.hid (below_store (below_store hB5 (g := w.heap.size) (i := 0) (Nat.le_refl _) (.bool b')) (g := w.heap.size) (i := 1) (Nat.le_refl _) (.slice a' n' c'))
          have HA := Lib.hid (ApiV.to hu (fun _ _ hl => hl.pair hR (.bool b') (.slice a' n' c')))
          clear hR hB5 hb5 r4 hB hu
          go_wp2
          (try simp only [Exit.inBlock, Exit.then])
          refine bodyPost_ret (v := .tuple #[.agg #[.bool b', .slice a' n' c'], .int .i64 0]) (by simp [results, Tryz.results34, go_sem, e0, e1]) rfl ?_
          exact ⟨.inr ⟨HL.out, b', a', n', c', rfl, HA.out⟩, HF.out⟩

end Go.Proofs.YtbffpkmfhkphdaaGreatDoor
