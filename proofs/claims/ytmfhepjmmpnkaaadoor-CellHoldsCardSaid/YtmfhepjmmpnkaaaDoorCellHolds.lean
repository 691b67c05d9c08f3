/-
  CellHolds: the walk.
-/
import Derived.Test.YtmfhepjmmpnkaaaDoorCellRows
import Derived.Test.YtmfhepjmmpnkaaaDoorRowP
import Derived.Deep.CutRange
set_option linter.unusedSimpArgs false
set_option linter.unusedVariables false
namespace Go.Proofs.YtmfhepjmmpnkaaaDoor
open Go.RowKit

/-- A guarded operation whose guard holds is done as one without a guard. -/
theorem wpList_unguard {P : Program} {ops : Array Oper} {Q : Exit → Act → World → Prop} {rest : List Oper} {o : Oper} {a : Act} {w : World} (h : Region.wanted o (yielded ops a.tmps) = true) (h2 : wpList P ops Q ({ o with guard := none } :: rest) a w) : wpList P ops Q (o :: rest) a w := by
  unfold wpList at h2 ⊢
  rw [if_pos h]
  rw [if_pos (by simp [Region.wanted])] at h2
  exact h2
theorem of_holds {r : Int} {p : Pen} {l : List Cell} (h : ofCells r p = (l, 0)) : rowOk l = true ∧ ∃ c t, l = c :: t ∧ c.ok = true ∧ c.nMarks = 0 := by
  unfold ofCells at h
  by_cases h1 : wOf r < 1 ∨ p.ok = false
  · rw [if_pos h1] at h; cases h
  · rw [if_neg h1] at h
    have hp : p.ok = true := by cases hh : p.ok; exact absurd (.inr hh) h1; rfl
    have hw : ¬ wOf r < 1 := fun hh => h1 (.inl hh)
    have hr : ¬ r = 0 := fun hh => by rw [hh, wOf_zero] at hw; omega
    have hc := wOf_cases r
    by_cases h2 : wOf r = 2
    · rw [if_pos h2] at h
      obtain rfl := (Prod.mk.inj h).1
      have ho : (⟨r, 0, 0, 0, 2, p⟩ : Cell).ok = true := by simp [Cell.ok, hr, hp, Cell.marksOk, Cell.mOk, h2]
      refine ⟨rowOk_yes fun k hk => ?_, _, _, rfl, ho, rfl⟩
      have hk' : k = 0 ∨ k = 1 := by simp at hk; omega
      rcases hk' with rfl | rfl
      · exact row_of (by simp) ho (by simp [behindAt]) (by simp [behindAt]) (by simp)
      · exact row_of (by simp) (ok_spacer hp) (by simp [behindAt, cAt, spacer]) (by simp [cAt, spacer]) (by simp [spacer])
    · rw [if_neg h2] at h
      obtain rfl := (Prod.mk.inj h).1
      have h1' : wOf r = 1 := by omega
      have ho : (⟨r, 0, 0, 0, 1, p⟩ : Cell).ok = true := by simp [Cell.ok, hr, hp, Cell.marksOk, Cell.mOk, h1']
      refine ⟨rowOk_yes fun k hk => ?_, _, _, rfl, ho, rfl⟩
      have hk' : k = 0 := by simp at hk; omega
      subst hk'
      exact row_of (by simp) ho (by simp [behindAt]) (by simp [behindAt]) (by simp)
theorem row_yes {A : Option Addr} {c : Nat} {cs : List Cell} (h : rowOk cs = true) (w : World) (ht : Tabs w) (ha : RdC w A c cs) (hn : cs.length ≤ 1000000) : Calls Tryd.prog 22 #[.slice A cs.length c] w fun e w' => e = .returned (.bool true) ∧ Below w.heap.size w w' := h ▸ cellRow_any A c cs w ht ha hn
theorem row_no {A : Option Addr} {c : Nat} {cs : List Cell} (h : rowOk cs = false) (w : World) (ht : Tabs w) (ha : RdC w A c cs) (hn : cs.length ≤ 1000000) : Calls Tryd.prog 22 #[.slice A cs.length c] w fun e w' => e = .returned (.bool false) ∧ Below w.heap.size w w' := h ▸ cellRow_any A c cs w ht ha hn
theorem same_yes {A B : Option Addr} {ca cb : Nat} {xs ys : List Cell} (h : xs = ys) (w : World) (ha : RdC w A ca xs) (hb : RdC w B cb ys) (hn : xs.length ≤ 1000000) (hm : ys.length ≤ 1000000) : Calls Tryd.prog 27 #[.slice A xs.length ca, .slice B ys.length cb] w fun e w' => e = .returned (.bool true) ∧ Below w.heap.size w w' := (r04Same_any A B ca cb xs ys w ha hb hn hm).mono fun e w' ⟨h1, h2⟩ => ⟨by rw [h1]; simp [h], h2⟩

set_option maxRecDepth 100000 in
set_option maxHeartbeats 4000000 in
theorem l04CellHolds_any (A0 : Option Addr) (c0 : Nat) (l0 : List Cell) (A1 : Option Addr) (c1 : Nat) (l1 : List Cell) (r m : Int) (p : Pen) (w : World) (ht : Tabs w) (ha0 : RdC w A0 c0 l0) (hm0 : c0 ≤ maxLen) (ha1 : RdC w A1 c1 l1) (hm1 : c1 ≤ maxLen) :
    Calls Tryd.prog 6 #[.slice A0 l0.length c0, .slice A1 l1.length c1, .int .i32 r, .int .i32 m, .agg (pv p)] w fun e w' => e = .returned (.bool true) ∧ Below w.heap.size w w' := by
  have HT := Lib.hid ht
  have HA0 := Lib.hid ha0
  have HA1 := Lib.hid ha1
  have hlen0 : l0.length ≤ 9223372036854775807 := by have := ha0.1; unfold maxLen at hm0; omega
  have hlen1 : l1.length ≤ 9223372036854775807 := by have := ha1.1; unfold maxLen at hm1; omega
  clear ht ha0 ha1 hm0 hm1
  have HB0 := Lib.hid ((Below.refl w.heap.size w).alloc (Nat.le_refl _) (.cells (pv p) 27))
  by_cases h0 : 30 < l0.length
  · go_enter Tryd.func6, Tryd.ntmps6
    go_wp2_with fail
    refine (l04known_any _ (HT.out.bel HB0.out)).mono ?_
    rintro e w1 ⟨rfl, hb⟩
    go_wp2_with fail
    go_ret
    exact ⟨rfl, below_one hb⟩
  by_cases h1 : 30 < l1.length
  · go_enter Tryd.func6, Tryd.ntmps6
    go_wp2_with fail
    refine (l04known_any _ (HT.out.bel HB0.out)).mono ?_
    rintro e w1 ⟨rfl, hb⟩
    go_wp2_with fail
    go_ret
    exact ⟨rfl, below_one hb⟩
  go_enter Tryd.func6, Tryd.ntmps6
  go_wp2_with fail
  refine (cellOf_any _ _ _ (HT.out.bel HB0.out)).mono ?_
  generalize hg : ofCells r p = q
  obtain ⟨l, n⟩ := q
  have HG := Lib.hid hg
  have HL := Lib.hid (show l.length ≤ 2 by have := ofCells_len r p; rw [hg] at this; exact this)
  clear hg
  rintro e w1 ⟨v, rfl, ho, hb⟩
  obtain ⟨A2, c2, rfl, hr2⟩ := ho.form
  have HB1 := Lib.hid (below_one hb)
  have HR2 := Lib.hid hr2
  clear hb ho hr2
  have HN := Lib.hid HG.out
  go_upto_region 4 with (fail)
  go_cut [48] from 37 (fun s wc => s = .bool false ∧ Below w.heap.size w wc ∧ Below w1.heap.size w1 wc)
  case first =>
    by_cases hn : n = 0
    · have h1 := beq_yes hn
      have HX := Lib.hid (of_holds (hn ▸ HG.out))
      clear hn
      have hpos : 0 < l.length := by obtain ⟨_, c, t, e, _⟩ := HX.out; rw [e]; simp
      go_wp2_with fail
      refine (row_yes HX.out.1 _ (HT.out.bel HB1.out) HR2.out (by have := HL.out; omega)).mono ?_
      rintro e w2 ⟨rfl, hb2⟩
      go_wp2_with fail
      go_meet
      case rel => exact ⟨by simp; omega, HB1.out.trans (hb2.mono HB1.out.size), hb2⟩
    · have h1 := beq_no hn
      clear hn
      go_wp2_with fail
      go_meet
      case rel => exact ⟨rfl, HB1.out, Below.refl _ _⟩
  case rest =>
    obtain ⟨rfl, hb2, hc2⟩ := hcut
    have HB2 := Lib.hid hb2
    have HR3 := Lib.hid (HR2.out.bel hc2)
    clear hb2 hc2
    go_upto_if 50 with (fail)
    go_cut [10, 13, 14, 15, 16] from 37 (fun _ _ _ _ _ wd => Below w.heap.size w wd)
    case first =>
      by_cases hn : n = 0
      case neg =>
        have h1 := beq_no hn
        clear hn
        go_wp2_with fail
        go_meet
        case rel => exact HB2.out
      subst hn
      obtain ⟨-, d0, t0, hl0, hok0, hn0⟩ := of_holds HG.out
      have HK0 := Lib.hid hok0
      have HN0 := Lib.hid hn0
      have HL0 := Lib.hid hl0
      clear hok0 hn0
      obtain ⟨b1, o1, rfl, hz1, hr1⟩ := HR3.out.at_ (k := 0) (by rw [HL0.out]; simp)
      have hc1 : cellAt wc b1 o1 = some d0 := by
        have := elem_cell hr1 (k := 0) (by rw [HL0.out]; simp)
        simp only [HL0.out, List.getElem_cons_zero, Nat.zero_mul, Nat.add_zero] at this
        exact this
      have hpos : 0 < l.length := by rw [HL0.out]; simp
      clear hr1 hl0
      go_wp2_with fail
      go_loopw [14] (fun i wr => ∃ k : Nat, i = .int .i64 k ∧ (∃ d : Cell, Blk wr wc.heap.size 30 (cv d) ∧ d.ok = true ∧ d.nMarks = k) ∧ Below w.heap.size w wr) (fun i _ => 5 - (intOf i).toNat)
      case atStart => exact ⟨0, rfl, ⟨d0, Blk.new _ _ _, HK0.out, HN0.out⟩, HB2.out.alloc HB2.out.size _⟩
      case round =>
        obtain ⟨k, rfl, ⟨d, hx, hok, hnm⟩, hb⟩ := hrel
        have hk3 : k < 5 := by have : d.nMarks ≤ 3 := by (unfold Cell.nMarks; repeat' split) <;> omega
                               omega
        have HX := Lib.hid hx
        have HO := Lib.hid hok
        have HM := Lib.hid hnm
        have HB := Lib.hid hb
        clear hx hok hnm hb hc1 hz1
        obtain ⟨hx1, hf1, hg1, hca1, hpa1⟩ := HX.out.box
        go_wp2_with fail
        refine (cellMark_any _ _ _ (HT.out.bel HB.out)).mono ?_
        generalize hq : markOf d m = q
        obtain ⟨x, e0⟩ := q
        have HQ := Lib.hid hq
        unfold MarkEnd
        rw [hq]
        clear hq
        rintro e w5 ⟨rfl, hb5⟩
        have HX5 := Lib.hid (HX.out.bel hb5)
        have HB5 := Lib.hid (HB.out.trans (hb5.mono HB.out.size))
        clear hb5 hx1 hf1 hg1 hca1 hpa1
        by_cases he : e0 = 0
        · have h2 := bne_no he
          obtain ⟨m1, m2, m3, m4⟩ := mark_holds HO.out (he ▸ HQ.out)
          have h3 : decide ((3 : Int) ≤ (k : Int)) = false := by have := HM.out; simp; omega
          have h4 : decide ((x.text.size : Int) ≤ (d.text.size : Int)) = false := by simp; omega
          have h3p : ¬ (3 : Int) ≤ (k : Int) := by simpa using h3
          have h3q : ¬ 3 ≤ k := by omega
          have h4p : ¬ (x.text.size : Int) ≤ (d.text.size : Int) := by simpa using h4
          have h4q : ¬ x.text.size ≤ d.text.size := by omega
          have hm2 : x.nMarks = ((k + 1 : Nat) : Int) := by have := HM.out; omega
          have M1 := Lib.hid m1
          have M2 := Lib.hid hm2
          clear m1 m2 m3 m4 he hm2
          have HX6 := Lib.hid (HX5.out.alloc (.cells (cv x) 30))
          have HY6 := Lib.hid (Blk.new w5 30 (cv x))
          have HB6 := Lib.hid (HB5.out.alloc HB5.out.size (.cells (cv x) 30))
          have hlt5 : wc.heap.size < w5.heap.size := HX5.out.lt
          have hw0 : w.heap.size ≤ wc.heap.size := HB2.out.size
          go_upto_region 13 with (fail)
          generalize w5.alloc (.cells (cv x) 30) = W at HX6 HY6 HB6 ⊢
          obtain ⟨hx1, hf1, hg1, hca1, hpa1⟩ := HX6.out.box
          obtain ⟨hx2, hf2, hg2, hca2, hpa2⟩ := HY6.out.box
          refine wp_region_below (by kernel_rfl) (by kernel_rfl) ?_
          repeat (go_big_quiet_step ((first | (go_at_call 32; exact quiet_below (valid_yes M1.out _ ((HT.out.bel HB6.out).bel (below_plus _ _)))) | (go_at_call 33; exact quiet_below (cellText_any _ _)))))
          refine wpQuiet_nil ?_
          intro w7 hb7
          have HX7 := Lib.hid (HX6.out.bel hb7)
          have HY7 := Lib.hid (HY6.out.bel hb7)
          have HB7 := Lib.hid (HB6.out.trans (hb7.mono HB6.out.size))
          clear hx1 hf1 hg1 hca1 hpa1 hx2 hf2 hg2 hca2 hpa2 hb7
          obtain ⟨hx2, hf2, hg2, hca2, hpa2⟩ := HY7.out.box
          have hst := HX7.out.put
          have hz3 := HX7.out.lt
          go_wp2_with fail
          go_roundw
          case rel =>
            repeat' apply Exists.intro
            exact ⟨⟨k + 1, by go_num, ⟨x, HX7.out.row _, M1.out, M2.out⟩, below_row HB7.out hw0 _⟩, rfl⟩
          case measure => simp [intOf]; omega
        · have h2 := bne_yes he
          clear he
          go_wp2_with fail
          go_meet
          case rel => exact HB5.out.alloc HB5.out.size _
    case rest =>
      have HB3 := Lib.hid hcut
      clear hcut
      go_wp2_with fail
      refine (cellFix_any _ _ _ _ (HA0.out.bel HB3.out) (by omega)).mono ?_
      rintro e w4 ⟨v4, rfl, ho4, hb4⟩
      obtain ⟨A4, c4, rfl, hr4⟩ := ho4.form
      have HR4 := Lib.hid hr4
      have HB4 := Lib.hid (HB3.out.trans (hb4.mono HB3.out.size))
      have HZ0 := Lib.hid (fixL_length l0)
      have HZ1 := Lib.hid (fixL_length l1)
      clear hr4 hb4 ho4
      go_wp2_with fail
      refine (cellFix_any _ _ _ _ (HA1.out.bel HB4.out) (by omega)).mono ?_
      rintro e w5 ⟨v5, rfl, ho5, hb5⟩
      obtain ⟨A5, c5, rfl, hr5⟩ := ho5.form
      have HR5 := Lib.hid hr5
      have HX5 := Lib.hid (HR4.out.bel hb5)
      have HB5 := Lib.hid (HB4.out.trans (hb5.mono HB4.out.size))
      clear hr5 hb5 ho5
      go_wp2_with fail
      go_loopw [19, 89] (fun v i wr => ∃ k : Nat, k ≤ l0.length ∧ i = .int .i64 k ∧ v = .bool ((l0.take k).all Cell.ok) ∧ Below w5.heap.size w5 wr) (fun _ i _ => l0.length - (intOf i).toNat)
      case atStart => exact ⟨0, by omega, rfl, rfl, Below.refl _ _⟩
      case round =>
        obtain ⟨k, hk, rfl, rfl, hb⟩ := hrel
        have HC := Lib.hid hb
        have HB := Lib.hid (HB5.out.trans (hb.mono HB5.out.size))
        clear hb
        by_cases hlt : k < l0.length
        · obtain ⟨b1, o1, rfl, hz1, hr1⟩ := (HA0.out.bel HB.out).at_ hlt
          have hc1 := elem_cell hr1 hlt
          have HS := Lib.hid (show ((l0.take (k + 1)).all Cell.ok) = (((l0.take k).all Cell.ok) && l0[k].ok) by rw [List.take_add_one, List.getElem?_eq_getElem hlt, List.all_append]; simp)
          clear hr1
          cases hv : (l0.take k).all Cell.ok
          · have HV := Lib.hid hv
            clear hv
            go_wp2_with fail
            go_roundw
            case rel => exact ⟨k + 1, by omega, by go_num, by rw [HS.out, HV.out]; rfl, HC.out.alloc HC.out.size _⟩
            case measure => simp [intOf]; omega
          · have HV := Lib.hid hv
            clear hv
            go_wp2_with fail
            refine (cellValid_any _ _ (HT.out.bel (HB.out.alloc HB.out.size _))).mono ?_
            rintro e w6 ⟨rfl, hb6⟩
            go_wp2_with fail
            go_roundw
            case rel => exact ⟨k + 1, by omega, by go_num, by rw [HS.out, HV.out]; simp, HC.out.trans (((Below.refl _ _).alloc (Nat.le_refl _) _).trans (hb6.mono (by simp)) |>.mono HC.out.size)⟩
            case measure => simp [intOf]; omega
        · have HK := Lib.hid (show (l0.take k).all Cell.ok = l0.all Cell.ok by rw [List.take_of_length_le (by omega)])
          rw [HK.out]
          have HX6 := Lib.hid (HX5.out.bel HC.out)
          have HY6 := Lib.hid (HR5.out.bel HC.out)
          have HF := Lib.hid (fix_fix l0)
          go_upto_region 23 with (fail)
          go_cut [19, 128] from 99 (fun _ s wz => s = .bool false ∧ Below w5.heap.size w5 wz)
          case first =>
            have X0 := Lib.hid HX6.out
            have C0 := Lib.hid HC.out
            have B0 := Lib.hid HB.out
            cases hv : l0.all Cell.ok
            · clear hv
              cases hw : rowOk l0
              · have HW := Lib.hid hw
                clear hw
                go_wp2_with fail
                refine (row_no HW.out _ (HT.out.bel B0.out) (HA0.out.bel B0.out) (by omega)).mono ?_
                rintro e wa0 ⟨rfl, hba0⟩
                have X1 := Lib.hid (X0.out.bel hba0)
                have C1 := Lib.hid (C0.out.trans (hba0.mono C0.out.size))
                have B1 := Lib.hid (B0.out.trans (hba0.mono B0.out.size))
                clear hba0
                go_wp2_with fail
                refine (cellFix_any _ _ _ _ X1.out (by rw [HZ0.out]; omega)).mono ?_
                rintro e w7 ⟨v7, rfl, ho7, hb7⟩
                obtain ⟨A7, c7, rfl, hr7⟩ := ho7.form
                have HR7 := Lib.hid hr7
                have X7 := Lib.hid (X1.out.bel hb7)
                have C7 := Lib.hid (C1.out.trans (hb7.mono C1.out.size))
                clear hr7 ho7 hb7
                go_wp2_with fail
                refine (same_yes HF.out _ HR7.out X7.out (by rw [fixL_length, fixL_length]; omega) (by rw [fixL_length]; omega)).mono ?_
                rintro e w8 ⟨rfl, hb8⟩
                go_wp2_with fail
                go_meet
                case rel => exact ⟨by simp [HZ0.out], C7.out.trans (hb8.mono C7.out.size)⟩
              · have HW := Lib.hid hw
                have HS := Lib.hid (fix_row hw)
                clear hw
                go_wp2_with fail
                refine (row_yes HW.out _ (HT.out.bel B0.out) (HA0.out.bel B0.out) (by omega)).mono ?_
                rintro e wa0 ⟨rfl, hba0⟩
                have X1 := Lib.hid (X0.out.bel hba0)
                have C1 := Lib.hid (C0.out.trans (hba0.mono C0.out.size))
                have B1 := Lib.hid (B0.out.trans (hba0.mono B0.out.size))
                clear hba0
                go_wp2_with fail
                refine (same_yes HS.out _ X1.out (HA0.out.bel B1.out) (by rw [fixL_length]; omega) (by omega)).mono ?_
                rintro e ws0 ⟨rfl, hbs0⟩
                have X2 := Lib.hid (X1.out.bel hbs0)
                have C2 := Lib.hid (C1.out.trans (hbs0.mono C1.out.size))
                have B2 := Lib.hid (B1.out.trans (hbs0.mono B1.out.size))
                clear hbs0
                go_wp2_with fail
                refine (cellFix_any _ _ _ _ X2.out (by rw [HZ0.out]; omega)).mono ?_
                rintro e w7 ⟨v7, rfl, ho7, hb7⟩
                obtain ⟨A7, c7, rfl, hr7⟩ := ho7.form
                have HR7 := Lib.hid hr7
                have X7 := Lib.hid (X2.out.bel hb7)
                have C7 := Lib.hid (C2.out.trans (hb7.mono C2.out.size))
                clear hr7 ho7 hb7
                go_wp2_with fail
                refine (same_yes HF.out _ HR7.out X7.out (by rw [fixL_length, fixL_length]; omega) (by rw [fixL_length]; omega)).mono ?_
                rintro e w8 ⟨rfl, hb8⟩
                go_wp2_with fail
                go_meet
                case rel => exact ⟨by simp [HZ0.out], C7.out.trans (hb8.mono C7.out.size)⟩
            · have HV := Lib.hid (fix_valid (List.all_eq_true.1 hv))
              clear hv
              go_wp2_with fail
              refine (row_yes HV.out _ (HT.out.bel B0.out) X0.out (by rw [fixL_length]; omega)).mono ?_
              rintro e wv ⟨rfl, hbv⟩
              have X1 := Lib.hid (X0.out.bel hbv)
              have C1 := Lib.hid (C0.out.trans (hbv.mono C0.out.size))
              have B1 := Lib.hid (B0.out.trans (hbv.mono B0.out.size))
              clear hbv
              cases hw : rowOk l0
              · have HW := Lib.hid hw
                clear hw
                go_wp2_with fail
                refine (row_no HW.out _ (HT.out.bel B1.out) (HA0.out.bel B1.out) (by omega)).mono ?_
                rintro e wa1 ⟨rfl, hba1⟩
                have X2 := Lib.hid (X1.out.bel hba1)
                have C2 := Lib.hid (C1.out.trans (hba1.mono C1.out.size))
                have B2 := Lib.hid (B1.out.trans (hba1.mono B1.out.size))
                clear hba1
                go_wp2_with fail
                refine (cellFix_any _ _ _ _ X2.out (by rw [HZ0.out]; omega)).mono ?_
                rintro e w7 ⟨v7, rfl, ho7, hb7⟩
                obtain ⟨A7, c7, rfl, hr7⟩ := ho7.form
                have HR7 := Lib.hid hr7
                have X7 := Lib.hid (X2.out.bel hb7)
                have C7 := Lib.hid (C2.out.trans (hb7.mono C2.out.size))
                clear hr7 ho7 hb7
                go_wp2_with fail
                refine (same_yes HF.out _ HR7.out X7.out (by rw [fixL_length, fixL_length]; omega) (by rw [fixL_length]; omega)).mono ?_
                rintro e w8 ⟨rfl, hb8⟩
                go_wp2_with fail
                go_meet
                case rel => exact ⟨by simp [HZ0.out], C7.out.trans (hb8.mono C7.out.size)⟩
              · have HW := Lib.hid hw
                have HS := Lib.hid (fix_row hw)
                clear hw
                go_wp2_with fail
                refine (row_yes HW.out _ (HT.out.bel B1.out) (HA0.out.bel B1.out) (by omega)).mono ?_
                rintro e wa1 ⟨rfl, hba1⟩
                have X2 := Lib.hid (X1.out.bel hba1)
                have C2 := Lib.hid (C1.out.trans (hba1.mono C1.out.size))
                have B2 := Lib.hid (B1.out.trans (hba1.mono B1.out.size))
                clear hba1
                go_wp2_with fail
                refine (same_yes HS.out _ X2.out (HA0.out.bel B2.out) (by rw [fixL_length]; omega) (by omega)).mono ?_
                rintro e ws1 ⟨rfl, hbs1⟩
                have X3 := Lib.hid (X2.out.bel hbs1)
                have C3 := Lib.hid (C2.out.trans (hbs1.mono C2.out.size))
                have B3 := Lib.hid (B2.out.trans (hbs1.mono B2.out.size))
                clear hbs1
                go_wp2_with fail
                refine (cellFix_any _ _ _ _ X3.out (by rw [HZ0.out]; omega)).mono ?_
                rintro e w7 ⟨v7, rfl, ho7, hb7⟩
                obtain ⟨A7, c7, rfl, hr7⟩ := ho7.form
                have HR7 := Lib.hid hr7
                have X7 := Lib.hid (X3.out.bel hb7)
                have C7 := Lib.hid (C3.out.trans (hb7.mono C3.out.size))
                clear hr7 ho7 hb7
                go_wp2_with fail
                refine (same_yes HF.out _ HR7.out X7.out (by rw [fixL_length, fixL_length]; omega) (by rw [fixL_length]; omega)).mono ?_
                rintro e w8 ⟨rfl, hb8⟩
                go_wp2_with fail
                go_meet
                case rel => exact ⟨by simp [HZ0.out], C7.out.trans (hb8.mono C7.out.size)⟩
          case rest =>
            obtain ⟨rfl, hcz⟩ := hcut
            have C0 := Lib.hid hcz
            have B0 := Lib.hid (HB5.out.trans (hcz.mono HB5.out.size))
            have X0 := Lib.hid (HX5.out.bel hcz)
            have Y0 := Lib.hid (HR5.out.bel hcz)
            clear hcz
            cases hv : rowOk (fixL l0)
            · have HV := Lib.hid hv
              clear hv
              go_wp2_with fail
              refine (row_no HV.out _ (HT.out.bel B0.out) X0.out (by rw [fixL_length]; omega)).mono ?_
              rintro e wv ⟨rfl, hbv⟩
              have X1 := Lib.hid (X0.out.bel hbv)
              have C1 := Lib.hid (C0.out.trans (hbv.mono C0.out.size))
              have B1 := Lib.hid (B0.out.trans (hbv.mono B0.out.size))
              clear hbv
              go_wp2_with fail
              refine (l04known_any _ (HT.out.bel B1.out)).mono ?_
              rintro e wk ⟨rfl, hbk⟩
              go_wp2_with fail
              go_ret
              exact ⟨rfl, (B1.out).trans (hbk.mono (B1.out).size)⟩
            have HV := Lib.hid hv
            clear hv
            go_wp2_with fail
            refine (row_yes HV.out _ (HT.out.bel B0.out) X0.out (by rw [fixL_length]; omega)).mono ?_
            rintro e wv ⟨rfl, hbv⟩
            have X1 := Lib.hid (X0.out.bel hbv)
            have Y1 := Lib.hid (Y0.out.bel hbv)
            have B1 := Lib.hid (B0.out.trans (hbv.mono B0.out.size))
            clear hbv
            cases hv : rowOk (fixL l1)
            · have HU := Lib.hid hv
              clear hv
              go_wp2_with fail
              refine (row_no HU.out _ (HT.out.bel B1.out) Y1.out (by rw [fixL_length]; omega)).mono ?_
              rintro e wu ⟨rfl, hbu⟩
              have B2 := Lib.hid (B1.out.trans (hbu.mono B1.out.size))
              clear hbu
              go_wp2_with fail
              refine (l04known_any _ (HT.out.bel B2.out)).mono ?_
              rintro e wk ⟨rfl, hbk⟩
              go_wp2_with fail
              go_ret
              exact ⟨rfl, (B2.out).trans (hbk.mono (B2.out).size)⟩
            have HU := Lib.hid hv
            clear hv
            go_wp2_with fail
            refine (row_yes HU.out _ (HT.out.bel B1.out) Y1.out (by rw [fixL_length]; omega)).mono ?_
            rintro e wu ⟨rfl, hbu⟩
            have X2 := Lib.hid (X1.out.bel hbu)
            have Y2 := Lib.hid (Y1.out.bel hbu)
            have B2 := Lib.hid (B1.out.trans (hbu.mono B1.out.size))
            clear hbu
            go_wp2_with (first
              | (at_builtin; (refine wpList_unguard (by rfl) (wpList_appC rfl _ _ rfl wu.heap.size (.slice none 0 0) [] rfl (OwnC.nil wu _) A4 c4 (fixL l0) rfl X2.out (by rw [fixL_length]; simp; omega) (Nat.le_refl _) ?_)); intro v1 w8 hown1 hg1 hat1; rw [List.nil_append] at hown1; obtain ⟨A8, c8, rfl, hrd1⟩ := hown1.form; have HO8 := Lib.hid hown1; have HG8 := Lib.hid ((Below.refl _ _).grown hg1 (Nat.le_refl _) (by simp [Value.ownBlock])); clear hown1 hg1 hat1 hrd1)
              | (at_builtin; (refine wpList_unguard (by rfl) (wpList_appC rfl _ _ rfl wu.heap.size (.slice A8 (fixL l0).length c8) (fixL l0) rfl HO8.out A5 c5 (fixL l1) rfl (Y2.out.bel HG8.out) (by rw [fixL_length, fixL_length]; omega) HG8.out.size ?_)); intro v1 w9 hown1 hg1 hat1; obtain ⟨lx, hlx⟩ : ∃ lx, lx = fixL l0 ++ fixL l1 := ⟨_, rfl⟩; rw [← hlx] at hown1; have HLX := Lib.hid hlx; clear hlx; obtain ⟨A9, c9, rfl, hrd1⟩ := hown1.form; have HR9 := Lib.hid hrd1; have HG9 := Lib.hid (HG8.out.grown hg1 HG8.out.size (fun q hq => (World.ownsRow.lt HO8.out q hq).1)); clear hown1 hg1 hat1 hrd1))
            have B3 := Lib.hid (B2.out.trans (HG9.out.mono B2.out.size))
            refine (row_yes (by rw [HLX.out]; exact row_append HV.out HU.out) _ (HT.out.bel B3.out) HR9.out (by rw [HLX.out, List.length_append, fixL_length, fixL_length]; omega)).mono ?_
            rintro e w10 ⟨rfl, hb10⟩
            have B4 := Lib.hid (B3.out.trans (hb10.mono B3.out.size))
            clear hb10
            go_wp2_with fail
            refine (l04known_any _ (HT.out.bel B4.out)).mono ?_
            rintro e wk ⟨rfl, hbk⟩
            go_wp2_with fail
            go_ret
            exact ⟨rfl, B4.out.trans (hbk.mono B4.out.size)⟩
end Go.Proofs.YtmfhepjmmpnkaaaDoor
