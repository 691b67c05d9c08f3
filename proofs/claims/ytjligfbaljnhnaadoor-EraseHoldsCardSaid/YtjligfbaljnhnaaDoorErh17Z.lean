/-
  EraseHolds, the stage's theorem: the law returns true.
-/
import Derived.Test.YtjligfbaljnhnaaDoorErs17Z
set_option linter.unusedSimpArgs false
set_option linter.unusedVariables false
namespace Go.Proofs.YtjligfbaljnhnaaDoor
open Go.RowKit

section
variable {y j s : Nat} {pend : Bool} {q : Pen} {wh n : Int} {L : List Ln}
theorem act17L_0 : act17L ⟨0, n, y, j, pend, q⟩ s L = eraseLine s y j n q L := by simp [act17L]
theorem act17L_1 : act17L ⟨1, n, y, j, pend, q⟩ s L = eraseScr s y j n q L := by simp [act17L]
theorem cl_twice (hR : Rect s L) (hj : j < s) (hw : wh = 0 ∨ wh = 1) : act17L ⟨wh, n, y, j, pend, q⟩ s (act17L ⟨wh, n, y, j, pend, q⟩ s L) = act17L ⟨wh, n, y, j, pend, q⟩ s L := by
  rcases hw with rfl | rfl
  · rw [act17L_0, act17L_0]; exact eraseLine_twice hR hj
  · rw [act17L_1, act17L_1]; exact eraseScr_twice hR hj
theorem cl_se (hR : Rect s L) (hj : j < s) (hw : wh = 0 ∨ wh = 1) : act17L ⟨wh, 0, y, j, pend, q⟩ s (act17L ⟨wh, 1, y, j, pend, q⟩ s L) = act17L ⟨wh, 2, y, j, pend, q⟩ s L := by
  rcases hw with rfl | rfl
  · rw [act17L_0, act17L_0, act17L_0]; exact eraseLine_es hR hj
  · rw [act17L_1, act17L_1, act17L_1]; exact eraseScr_es hR hj
theorem cl_es (hR : Rect s L) (hj : j < s) (hw : wh = 0 ∨ wh = 1) : act17L ⟨wh, 1, y, j, pend, q⟩ s (act17L ⟨wh, 0, y, j, pend, q⟩ s L) = act17L ⟨wh, 2, y, j, pend, q⟩ s L := by
  rcases hw with rfl | rfl
  · rw [act17L_0, act17L_0, act17L_0]; exact eraseLine_se hR hj
  · rw [act17L_1, act17L_1, act17L_1]; exact eraseScr_se hR hj
end
set_option maxRecDepth 100000 in
set_option maxHeartbeats 8000000 in
theorem l17EraseHolds_any (rows cols : Int) (A : Option Addr) (c : Nat) (fill : List Cell) (soft : Int) (row col : Int) (pend : Bool) (q : Pen) (w : World) (hT : Tabs w) (ha : RdC w A c fill) (hm : c ≤ maxLen) (hs : 0 ≤ soft ∧ soft ≤ 65535) :
    Calls Tryd.prog 8 #[.int .i64 rows, .int .i64 cols, .slice A fill.length c, .int .u16 soft, .agg #[.int .i64 row, .int .i64 col, .bool pend], .agg (pv q)] w fun e w' => e = .returned (.bool true) ∧ Below w.heap.size w w' := by
  have HT := Lib.hid hT
  have HA := Lib.hid ha
  have hfm : fill.length ≤ maxLen := Nat.le_trans ha.1 hm
  clear hT ha hm
  have S := Lib.hid ((objs_start w).alloc2 (c1 := #[.int .i64 row, .int .i64 col, .bool pend]) (t1 := 23) (c2 := pv q) (t2 := 29))
  cases hsm : smallB rows cols fill.length with
  | false =>
    have HSM := Lib.hid hsm
    clear hsm
    go_enter Tryd.func8, Tryd.ntmps8
    go_wp2_with fail
    refine (l17small_any rows cols A fill.length c _ hfm).mono ?_
    rw [HSM.out]
    rintro e w1 ⟨rfl, rfl⟩
    go_wp2_with fail
    refine (l17known_any _ (S.out.tabs HT.out)).mono ?_
    rintro e w1 ⟨rfl, hb⟩
    have HB := Lib.hid (S.out.bel hb).base
    clear hb
    go_wp2_with fail
    go_ret
    exact ⟨rfl, HB.out⟩
  | true =>
    obtain ⟨rr, s, rfl, rfl, ⟨h1, h2⟩, ⟨h3, h4⟩, h5⟩ := small_true hsm
    have HSM := Lib.hid hsm
    clear hsm
    go_enter Tryd.func8, Tryd.ntmps8
    go_wp2_with fail
    refine (l17small_any rr s A fill.length c _ hfm).mono ?_
    rw [HSM.out]
    rintro e w1 ⟨rfl, rfl⟩
    generalize w.heap.size + 1 = b11 at S ⊢
    generalize hb10 : w.heap.size = b10 at S ⊢
    clear hb10
    go_wp2_with fail
    refine (l17begun_base A c fill rr s soft _ (S.out.tabs HT.out) (HA.out.bel S.out.base) h1 h2 h3 h4 h5 hs).mono ?_
    rintro e w1 ⟨p, x, rfl, hS⟩
    have hc0 : 0 < s := by omega
    have hcm0 : s ≤ 1000 := by omega
    have HR0 := Lib.hid (begunP_rect rr s fill soft).1
    have hlen0 := (begunP_rect rr s fill soft).2
    obtain ⟨L0, hL0e⟩ : ∃ L0, L0 = begunP rr s fill soft := ⟨_, rfl⟩
    rw [← hL0e] at HR0 hlen0 hS
    have hL0 : 0 < L0.length := by omega
    have hLm0 : L0.length ≤ 1000000 := by omega
    have hS1 := (show Objs w w1 [.grid p 35 ↑s L0, .grid x 48 ↑s L0, .box b11 29 (pv q), .box b10 23 #[.int .i64 row, .int .i64 col, .bool pend]] from S.out.nestAll hS)
    have S1 := Lib.hid hS1
    obtain ⟨hx10, hf10, hz10⟩ := (hS1.box (k := 3) rfl).facts
    have hp11 := (hS1.box (k := 2) rfl).penAt
    have hz11 := (hS1.box (k := 2) rfl).lt
    clear hS hS1 S hL0e
    go_wp2_with fail
    refine (l17in_any row col pend S1.out (k := 1) rfl hcm0).mono ?_
    rintro e w2 ⟨rfl, hS⟩
    have S2 := Lib.hid hS
    clear hx10 hf10 hz10 hp11 hz11
    obtain ⟨hx10, hf10, hz10⟩ := (hS.box (k := 3) rfl).facts
    have hp11 := (hS.box (k := 2) rfl).penAt
    have hz11 := (hS.box (k := 2) rfl).lt
    clear hS S1
    cases hin : inG row col pend L0.length s with
    | false =>
      clear hin
      go_wp2_with fail
      refine (l17known_any _ (S2.out.tabs HT.out)).mono ?_
      rintro e w3 ⟨rfl, hb⟩
      have HB := Lib.hid (S2.out.bel hb).base
      clear hb
      go_wp2_with fail
      go_ret
      exact ⟨rfl, HB.out⟩
    | true =>
    have HI := Lib.hid hin
    clear hin
    go_wp2_with fail
    refine (pure_call (r14Blank_any _ _) S2.out).mono ?_
    rintro e w3 ⟨rfl, hS⟩
    have S3 := Lib.hid hS
    clear hS S2
    go_wp2_with fail
    refine (pure_call (cellValid_any _ _ (S3.out.tabs HT.out)) S3.out).mono ?_
    rw [ok_blank]
    rintro e w4 ⟨rfl, hS⟩
    have S4 := Lib.hid hS
    clear hS S3 hx10 hf10 hz10 hp11 hz11
    cases hq : q.ok with
    | false =>
      clear hq
      go_wp2_with fail
      refine (l17known_any _ (S4.out.tabs HT.out)).mono ?_
      rintro e w5 ⟨rfl, hb⟩
      have HB := Lib.hid (S4.out.bel hb).base
      clear hb
      go_wp2_with fail
      go_ret
      exact ⟨rfl, HB.out⟩
    | true =>
    have HQ := Lib.hid hq
    clear hq
    have hin := ingrid_iff.1 HI.out
    obtain ⟨y, rfl⟩ : ∃ y : Nat, row = y := ⟨row.toNat, by have := hin.1; omega⟩
    obtain ⟨j, rfl⟩ : ∃ j : Nat, col = j := ⟨col.toNat, by have := hin.2.1; omega⟩
    have hy : y < L0.length := by have := hin.1; omega
    have hj : j < s := by have := hin.2.1; omega
    clear hin
    have HOK := Lib.hid (show ∀ (wh n : Int) (L : List Ln), L.length = L0.length → (0 ≤ n ∧ n ≤ 2) → act17ok ⟨wh, n, y, j, pend, q⟩ L.length s = true from fun wh n L h hn => by rw [h]; exact act17ok_iff.2 ⟨HI.out, HQ.out, hn.1, fun _ => hn.2⟩)
    have HREC := Lib.hid (show ∀ (wh n : Int) (L : List Ln), Rect s L → L.length = L0.length → (0 ≤ n ∧ n ≤ 2) → Rect s (act17L ⟨wh, n, y, j, pend, q⟩ s L) ∧ (act17L ⟨wh, n, y, j, pend, q⟩ s L).length = L0.length from fun wh n L hR h hn => by
      have := act17_rect (a := ⟨wh, n, y, j, pend, q⟩) hR (HOK.out wh n L h hn); rw [h] at this; exact this)
    have HCALL := Lib.hid (show ∀ (wh n : Int) (L : List Ln), Rect s L → L.length = L0.length → (0 ≤ n ∧ n ≤ 2) → ∀ ⦃W : World⦄ ⦃os : List Ob⦄ ⦃k pp : Nat⦄, Objs w W os → os[k]? = some (.grid pp 35 ↑s L) → Calls Tryd.prog 14 #[.pointer (some ⟨pp, 0, none⟩), .agg (av17 ⟨wh, n, y, j, pend, q⟩)] W fun e w' => e = .returned (.int .i64 0) ∧ Objs w w' (os.set k (.grid pp 35 ↑s (act17L ⟨wh, n, y, j, pend, q⟩ s L))) from fun wh n L hR h hn W os k pp hS hk => l17call_yes _ HT.out hS hk hcm0 hR (by omega) (HOK.out wh n L h hn))
    go_wp2_with fail
    go_loopw [12, 15, 16, 17, 18, 19, 20, 21, 22, 23, 24, 25] (fun _ vw _ _ _ _ _ _ _ _ _ _ wr => ∃ k : Nat, k ≤ 2 ∧ vw = .int .i64 k ∧ Objs w wr [.grid p 35 ↑s L0, .grid x 48 ↑s L0, .box b11 29 (pv q), .box b10 23 #[.int .i64 ↑y, .int .i64 ↑j, .bool pend]]) (fun _ vw _ _ _ _ _ _ _ _ _ _ _ => 2 - (intOf vw).toNat)
    case atStart => exact ⟨0, by omega, rfl, S4.out⟩
    case round =>
      obtain ⟨k, hk, rfl, hS⟩ := hrel
      have S5 := Lib.hid hS
      clear hS S4
      by_cases hlt : k < 2
      case neg =>
        have HRA := Lib.hid (show Rect s (eraseLine s y j 0 q L0) ∧ (eraseLine s y j 0 q L0).length = L0.length from ⟨HR0.out.eraseLine _ _ _ hj, eraseLine_length _ _ _ _ _ _⟩)
        have HGET := Lib.hid (eraseLine_get s y j 0 q L0)
        have HCH := Lib.hid (eraseCh_end (row := y) (q := q) (L := L0) hj)
        obtain ⟨LA, hLA⟩ : ∃ LA, LA = eraseLine s y j 0 q L0 := ⟨_, rfl⟩
        have HLA := Lib.hid hLA.symm
        rw [← hLA] at HRA HGET HCH
        have hLAm : LA.length ≤ 1000000 := by rw [HRA.out.2]; exact hLm0
        clear hLA
        have hwsub : IntKind.i64.wrap ((s : Int) - (j : Int)) = (s : Int) - (j : Int) := IntWalk.i64_in _ (by omega)
        have HWS := Lib.hid hwsub
        clear hwsub
        go_wp2_with fail
        refine (CopyG S5.out (k := 0) rfl hc0 hcm0 HR0.out hLm0).mono ?_
        rintro e w5 ⟨pa, rfl, hS⟩
        have S6 := Lib.hid hS
        clear hS S5
        go_wp2_with fail
        refine (CopyG S6.out (k := 1) rfl hc0 hcm0 HR0.out hLm0).mono ?_
        rintro e w6 ⟨pb, rfl, hS⟩
        have T0 := Lib.hid hS
        obtain ⟨hx10, hf10, hz10⟩ := (hS.box (k := 5) rfl).facts
        have hp11 := (hS.box (k := 4) rfl).penAt
        have hz11 := (hS.box (k := 4) rfl).lt
        clear hS S6
        have hws := HWS.out
        go_wp2_with fail
        refine (front_call T0.out (k := 1) rfl (fun os1 h => eraseChars_front (y := y) (j := j) ((s : Int) - j) q HT.out h hcm0 HR0.out hLm0 HI.out HQ.out (by clear hws; omega))).mono ?_
        rintro e w7 ⟨rfl, hS⟩
        rw [HCH.out] at hS
        clear hx10 hf10 hz10 hp11 hz11 hws
        have T1 := Lib.hid (show Objs w w7 [.grid pb 35 ↑s L0, .grid pa 35 ↑s LA, .grid p 35 ↑s L0, .grid x 48 ↑s L0, .box b11 29 (pv q), .box b10 23 #[.int .i64 ↑y, .int .i64 ↑j, .bool pend]] from hS)
        obtain ⟨hx10, hf10, hz10⟩ := (T1.out.box (k := 5) rfl).facts
        have hp11 := (T1.out.box (k := 4) rfl).penAt
        have hz11 := (T1.out.box (k := 4) rfl).lt
        clear hS T0
        go_wp2_with fail
        refine (front_call T1.out (k := 0) rfl (fun os1 h => eraseInLine_front (i := y) (j := j) 0 q HT.out h hcm0 HR0.out hLm0 HI.out HQ.out (.inl rfl))).mono ?_
        rintro e w8 ⟨rfl, hS⟩
        rw [HLA.out] at hS
        clear hx10 hf10 hz10 hp11 hz11
        have T2 := Lib.hid (show Objs w w8 [.grid pb 35 ↑s LA, .grid pa 35 ↑s LA, .grid p 35 ↑s L0, .grid x 48 ↑s L0, .box b11 29 (pv q), .box b10 23 #[.int .i64 ↑y, .int .i64 ↑j, .bool pend]] from hS)
        clear hS T1
        have hcs := Same_any T2.out (k1 := 1) (k2 := 0) rfl rfl hc0 hc0 hLAm hLAm (HRA.out.1.mill hcm0) (HRA.out.1.mill hcm0)
        simp only [decide_true, Bool.and_self] at hcs
        have HCS := Lib.hid hcs
        clear hcs
        go_wp2_with fail
        refine HCS.out.mono ?_
        rintro e w9 ⟨rfl, hS⟩
        have T3 := Lib.hid hS
        clear hS T2 HCS
        go_wp2_with fail
        go_loopw [12, 28, 29, 30, 31] (fun _ vr _ _ _ wr => ∃ r : Nat, r ≤ rr ∧ vr = .int .i64 r ∧ Objs w wr [.grid pb 35 ↑s LA, .grid pa 35 ↑s LA, .grid p 35 ↑s L0, .grid x 48 ↑s L0, .box b11 29 (pv q), .box b10 23 #[.int .i64 ↑y, .int .i64 ↑j, .bool pend]]) (fun _ vr _ _ _ _ => rr - (intOf vr).toNat)
        case atStart => exact ⟨0, by omega, rfl, T3.out⟩
        case round =>
          obtain ⟨r, hr, rfl, hS⟩ := hrel
          have T4 := Lib.hid hS
          clear hS T3
          by_cases hrt : r < rr
          case neg =>
            go_wp2_with fail
            refine (l17known_any _ (T4.out.tabs HT.out)).mono ?_
            rintro e w10 ⟨rfl, hb⟩
            have HB := Lib.hid (T4.out.bel hb).base
            clear hb
            go_wp2_with fail
            go_ret
            exact ⟨rfl, HB.out⟩
          have hdr : decide ((r : Int) < rr) = true := by simp; omega
          have hrL : r < L0.length := by omega
          obtain ⟨l0, hl0⟩ := get_of hrL
          have hg := HGET.out r
          rw [hl0, Option.map_some] at hg
          obtain ⟨l1, hl1⟩ : ∃ l1, l1 = (if r = y then eRow s (eFrom 0 j) (eTo 0 j s) q l0 else l0) := ⟨_, rfl⟩
          rw [← hl1] at hg
          have HL1 := Lib.hid hl1
          have HG := Lib.hid hg
          have HL0 := Lib.hid hl0
          have hn1 : l1.1.length = s := HRA.out.1.at_ hg
          have hn0 : l0.1.length = s := HR0.out.at_ hl0
          have hb1 : ((l1.1.length : Int) != (s : Int)) = false := by simp; omega
          have HN1 := Lib.hid hn1
          have HN0 := Lib.hid hn0
          clear hg hl0 hl1 hn1 hn0
          go_wp2_with fail
          refine (Line_yes T4.out (k := 1) rfl hc0 HG.out (by rw [HN1.out]; omega)).mono ?_
          rintro e w10 ⟨v, rfl, hS⟩
          obtain ⟨Av, cv', rfl, hrv⟩ := hS.cellsRd (k := 0) rfl
          have T5 := Lib.hid (hS.alloc1 (c1 := #[.slice Av l1.1.length cv', .bool l1.2]) (t1 := 71))
          clear hS hrv T4
          generalize hb29 : w10.heap.size = b29 at T5
          go_upto_region 34 with (fail)
          try rw [hb29]
          clear hb29
          refine at_objsC T5.out (fun W hW => ?_)
          obtain ⟨hx29, hf29, hz29⟩ := (hW.box (k := 0) rfl).facts
          obtain ⟨hx10, hf10, hz10⟩ := (hW.box (k := 7) rfl).facts
          have hp11 := (hW.box (k := 6) rfl).penAt
          have hz11 := (hW.box (k := 6) rfl).lt
          obtain ⟨Ax, cx, hBx, hmx, hrx⟩ := hW.gridRd (k := 5) rfl
          obtain ⟨hxx, hfx, hzx⟩ := hBx.facts
          obtain ⟨bx, ox, A', c', rfl, hzr, hc1, hc2, hrd⟩ := hrx.at_ HL0.out
          obtain ⟨-, hrv⟩ := hW.cellsRd' (k := 1) rfl
          have HRV := Lib.hid hrv
          have HRD := Lib.hid hrd
          have T6 := Lib.hid hW
          clear hW hBx hmx hrx hrd hrv T5
          by_cases hry : r = y
          case neg =>
            have hne : ((r : Int) != (y : Int)) = true := by simp; omega
            have hne2 : ((r : Int) == (y : Int)) = false := by simp; omega
            have hll : l1 = l0 := by rw [HL1.out, if_neg hry]
            have HQ2 := Lib.hid (show eqL l1.1 l1.2 l0.1 l0.2 = true by rw [eqL_line, hll]; simp)
            have HM1 := Lib.hid (show l1.1.length ≤ 1000000 by rw [HN1.out]; omega)
            have HM0 := Lib.hid (show l0.1.length ≤ 1000000 by rw [HN0.out]; omega)
            clear hll hry
            refine wp_region_below (by kernel_rfl) (by kernel_rfl) ?_
            repeat (go_big_quiet_step ((go_at_call 35; exact quiet_below (tt_of (r14SameLine_any Av A' cv' c' l1.1 l0.1 l1.2 l0.2 _ (HRV.out.bel (below_plus _ _)) (HRD.out.bel (below_plus _ _)) HM1.out HM0.out) HQ2.out))))
            refine wpQuiet_nil ?_
            intro w11 hb2
            have T7 := Lib.hid (T6.out.bel hb2)
            clear hx29 hf29 hz29 hx10 hf10 hz10 hp11 hz11 hxx hfx hzx hzr hc1 hc2
            obtain ⟨hx10, hf10, hz10⟩ := (T7.out.box (k := 7) rfl).facts
            go_wp2_with fail
            go_loopw [12, 31] (fun _ vc wr => vc = .int .i64 0 ∧ Objs w wr [.box b29 71 #[.slice Av l1.1.length cv', .bool l1.2], .cells (.slice Av l1.1.length cv') l1.1, .grid pb 35 ↑s LA, .grid pa 35 ↑s LA, .grid p 35 ↑s L0, .grid x 48 ↑s L0, .box b11 29 (pv q), .box b10 23 #[.int .i64 ↑y, .int .i64 ↑j, .bool pend]]) (fun _ _ _ => 0)
            case atStart => exact ⟨rfl, T7.out⟩
            case round =>
              obtain ⟨rfl, hS⟩ := hrel
              have T8 := Lib.hid hS
              clear hx10 hf10 hz10
              obtain ⟨hx10, hf10, hz10⟩ := (hS.box (k := 7) rfl).facts
              clear hS
              go_wp2_with fail
              go_roundw
              case rel => exact ⟨r + 1, by omega, by go_num, T8.out.tail.tail⟩
              case measure => simp [intOf]; omega
          have hne : ((r : Int) != (y : Int)) = false := by simp; omega
          have hne2 : ((r : Int) == (y : Int)) = true := by simp; omega
          have hll : l1.1 = clearC j s q l0.1 := by rw [HL1.out, if_pos hry]; rfl
          have HLL := Lib.hid hll
          clear hll hry
          refine wp_region_below (by kernel_rfl) (by kernel_rfl) ?_
          repeat (go_big_quiet_step (fail))
          refine wpQuiet_nil ?_
          intro w11 hb2
          have T7 := Lib.hid (T6.out.bel hb2)
          clear hx29 hf29 hz29 hx10 hf10 hz10 hp11 hz11 hxx hfx hzx hzr hc1 hc2 HRV HRD
          go_wp2_with fail
          go_loopw [12, 31] (fun _ vc wr => ∃ cc : Nat, cc ≤ s ∧ vc = .int .i64 cc ∧ Objs w wr [.box b29 71 #[.slice Av l1.1.length cv', .bool l1.2], .cells (.slice Av l1.1.length cv') l1.1, .grid pb 35 ↑s LA, .grid pa 35 ↑s LA, .grid p 35 ↑s L0, .grid x 48 ↑s L0, .box b11 29 (pv q), .box b10 23 #[.int .i64 ↑y, .int .i64 ↑j, .bool pend]]) (fun _ vc _ => s - (intOf vc).toNat)
          case atStart => exact ⟨0, by omega, rfl, T7.out⟩
          case round =>
            obtain ⟨cc, hcc, rfl, hW⟩ := hrel
            obtain ⟨hx29, hf29, hz29⟩ := (hW.box (k := 0) rfl).facts
            obtain ⟨hx10, hf10, hz10⟩ := (hW.box (k := 7) rfl).facts
            have hp11 := (hW.box (k := 6) rfl).penAt
            have hz11 := (hW.box (k := 6) rfl).lt
            obtain ⟨Ax, cx, hBx, hmx, hrx⟩ := hW.gridRd (k := 5) rfl
            obtain ⟨hxx, hfx, hzx⟩ := hBx.facts
            obtain ⟨bx, ox, A2, c2, rfl, hzr, hc1, hc2, hrd⟩ := hrx.at_ HL0.out
            obtain ⟨-, hrv⟩ := hW.cellsRd' (k := 1) rfl
            have T8 := Lib.hid hW
            clear hW hBx hmx hrx T6
            by_cases hct : cc < s
            case neg =>
              clear hxx hfx hzx hzr hc1 hc2 hrd hrv
              go_wp2_with fail
              go_roundw
              case rel => exact ⟨r + 1, by omega, by go_num, T8.out.tail.tail⟩
              case measure => simp [intOf]; omega
            have hk1 : cc < l1.1.length := by rw [HN1.out]; exact hct
            have hk0 : cc < l0.1.length := by rw [HN0.out]; exact hct
            obtain ⟨b1, o1, rfl, hz1, hr1⟩ := hrv.at_ hk1
            obtain ⟨b0, o0, rfl, hz0, hr0⟩ := hrd.at_ hk0
            have hce1 := elem_cell hr1 hk1
            have hce0 := elem_cell hr0 hk0
            have hwj : IntKind.i64.wrap ((j : Int) - 1) = (j : Int) - 1 := IntWalk.i64_in _ (by omega)
            have HWJ := Lib.hid hwj
            clear hwj hrv hrd hr1 hr0
            rcases Nat.lt_or_ge cc j with hcj | hcj
            · have dg : decide ((j : Int) ≤ cc) = false := by simp; omega
              have dgn : decide (j ≤ cc) = false := by simp; omega
              by_cases hfar : cc + 1 < j
              · have dl : decide ((cc : Int) < (j : Int) - 1) = true := by simp; omega
                have hv : l1.1[cc] = l0.1[cc] := by
                  have := clear_far (q := q) (cs := l0.1) hj (by rw [HN0.out]; exact Nat.le_refl _) hfar
                  rw [← HLL.out, cAt_eq hk1, cAt_eq hk0] at this
                  exact this
                rw [hv] at hce1
                clear hv
                have hwj := HWJ.out
                go_upto_region 39 with (fail)
                refine wp_region_below (by kernel_rfl) (by kernel_rfl) ?_
                repeat (go_big_quiet_step (fail))
                refine wpQuiet_nil ?_
                intro w12 hb3
                have T9 := Lib.hid (T8.out.bel hb3)
                clear hx29 hf29 hz29 hx10 hf10 hz10 hp11 hz11 hxx hfx hzx hzr hc1 hc2 hce1 hce0 hwj
                go_wp2_with fail
                go_roundw
                case rel => exact ⟨cc + 1, by omega, by go_num, T9.out⟩
                case measure => simp [intOf]; omega
              · have dl : decide ((cc : Int) < (j : Int) - 1) = false := by simp; omega
                have hwj := HWJ.out
                go_upto_region 39 with (fail)
                refine wp_region_below (by kernel_rfl) (by kernel_rfl) ?_
                repeat (go_big_quiet_step (fail))
                refine wpQuiet_nil ?_
                intro w12 hb3
                have T9 := Lib.hid (T8.out.bel hb3)
                clear hx29 hf29 hz29 hx10 hf10 hz10 hp11 hz11 hxx hfx hzx hzr hc1 hc2 hce1 hce0 hwj
                go_wp2_with fail
                go_roundw
                case rel => exact ⟨cc + 1, by omega, by go_num, T9.out⟩
                case measure => simp [intOf]; omega
            · have dg : decide ((j : Int) ≤ cc) = true := by simp; omega
              have dl : decide ((cc : Int) < (j : Int) - 1) = false := by simp; omega
              have hv : l1.1[cc] = blank q := by
                have := clear_in (q := q) (cs := l0.1) hj (by rw [HN0.out]; exact Nat.le_refl _) hcj hct
                rw [← HLL.out, cAt_eq hk1] at this
                exact this
              rw [hv] at hce1
              clear hv
              have hwj := HWJ.out
              go_upto_region 39 with (fail)
              refine wp_region_below (by kernel_rfl) (by kernel_rfl) ?_
              repeat (go_big_quiet_step ((go_at_call 29; exact quiet_below (r14Blank_any q _))))
              refine wpQuiet_nil ?_
              intro w12 hb3
              have T9 := Lib.hid (T8.out.bel hb3)
              clear hx29 hf29 hz29 hx10 hf10 hz10 hp11 hz11 hxx hfx hzx hzr hc1 hc2 hce1 hce0 hwj
              go_wp2_with fail
              go_roundw
              case rel => exact ⟨cc + 1, by omega, by go_num, T9.out⟩
              case measure => simp [intOf]; omega
      have hdk : decide ((k : Int) < 2) = true := by simp; omega
      have HW := Lib.hid (show (k : Int) = 0 ∨ (k : Int) = 1 by omega)
      go_wp2_with fail
      refine (CopyG S5.out (k := 0) rfl hc0 hcm0 HR0.out hLm0).mono ?_
      rintro e w5 ⟨pa, rfl, hS⟩
      have S6 := Lib.hid hS
      clear hS S5
      go_wp2_with fail
      refine (CopyG S6.out (k := 1) rfl hc0 hcm0 HR0.out hLm0).mono ?_
      rintro e w6 ⟨pb, rfl, hS⟩
      have S7 := Lib.hid hS
      clear hS S6
      go_wp2_with fail
      refine (CopyG S7.out (k := 2) rfl hc0 hcm0 HR0.out hLm0).mono ?_
      rintro e w7 ⟨pd, rfl, hS⟩
      have S8 := Lib.hid hS
      clear hS S7
      go_wp2_with fail
      go_loopw [12, 19, 20, 21, 22] (fun _ vm _ _ _ wr => ∃ m : Nat, m ≤ 3 ∧ vm = .int .i64 m ∧ Objs w wr [.grid pd 35 ↑s L0, .grid pb 35 ↑s L0, .grid pa 35 ↑s L0, .grid p 35 ↑s L0, .grid x 48 ↑s L0, .box b11 29 (pv q), .box b10 23 #[.int .i64 ↑y, .int .i64 ↑j, .bool pend]]) (fun _ vm _ _ _ _ => 3 - (intOf vm).toNat)
      case atStart => exact ⟨0, by omega, rfl, S8.out⟩
      case round =>
        obtain ⟨m, hm, rfl, hS⟩ := hrel
        have S9 := Lib.hid hS
        clear hS S8
        by_cases hmt : m < 3
        case neg =>
          have SZ := Lib.hid S9.out.pad.pad.pad
          have HRS := Lib.hid (HREC.out k 1 L0 HR0.out rfl ⟨by omega, by omega⟩)
          have HRE := Lib.hid (HREC.out k 0 L0 HR0.out rfl ⟨by omega, by omega⟩)
          have HRA := Lib.hid (HREC.out k 2 L0 HR0.out rfl ⟨by omega, by omega⟩)
          obtain ⟨LS, hLS⟩ : ∃ LS, LS = act17L ⟨k, 1, y, j, pend, q⟩ s L0 := ⟨_, rfl⟩
          obtain ⟨LE, hLE⟩ : ∃ LE, LE = act17L ⟨k, 0, y, j, pend, q⟩ s L0 := ⟨_, rfl⟩
          obtain ⟨LA, hLA⟩ : ∃ LA, LA = act17L ⟨k, 2, y, j, pend, q⟩ s L0 := ⟨_, rfl⟩
          have e1 := cl_se (y := y) (pend := pend) (q := q) HR0.out hj HW.out
          have e2 := cl_es (y := y) (pend := pend) (q := q) HR0.out hj HW.out
          have HCS := Lib.hid (HCALL.out k 1 L0 HR0.out rfl ⟨by omega, by omega⟩)
          have HCE := Lib.hid (HCALL.out k 0 L0 HR0.out rfl ⟨by omega, by omega⟩)
          have HCA := Lib.hid (HCALL.out k 2 L0 HR0.out rfl ⟨by omega, by omega⟩)
          have HCSA := Lib.hid (HCALL.out k 0 _ HRS.out.1 HRS.out.2 ⟨by omega, by omega⟩)
          have HCEA := Lib.hid (HCALL.out k 1 _ HRE.out.1 HRE.out.2 ⟨by omega, by omega⟩)
          rw [e1] at HCSA
          rw [e2] at HCEA
          rw [← hLS] at HCS HCSA HRS
          rw [← hLE] at HCE HCEA HRE
          rw [← hLA] at HCA HCSA HCEA HRA
          clear e1 e2 hLS hLE hLA
          have HSAME := Lib.hid (show ∀ ⦃W : World⦄ ⦃os : List Ob⦄ ⦃k1 k2 p1 p2 : Nat⦄, Objs w W os → os[k1]? = some (.grid p1 35 ↑s LA) → os[k2]? = some (.grid p2 35 ↑s LA) → Calls Tryd.prog 31 #[.pointer (some ⟨p1, 0, none⟩), .pointer (some ⟨p2, 0, none⟩)] W fun e w' => e = .returned (.bool true) ∧ Objs w w' os from fun W os k1 k2 p1 p2 hS hk1 hk2 => by
            have := Same_any hS hk1 hk2 hc0 hc0 (by rw [HRA.out.2]; exact hLm0) (by rw [HRA.out.2]; exact hLm0) (HRA.out.1.mill hcm0) (HRA.out.1.mill hcm0)
            simpa using this)
          go_upto_region 24 with (fail)
          refine wp_region_stage (w0 := w) (os := []) (by kernel_rfl) (by kernel_rfl) (by kernel_rfl) [(0, 12, [12], fun vs => .box (blkOf (vs 12)) 31 #[.int .i64 0, .int .i64 0, .int .i64 0, .int .i64 0, .bool false, .int .i64 0, .int .u8 0, .int .u8 0, .int .u8 0, .int .u8 0, .int .i64 0, .int .u8 0, .int .u8 0, .int .u8 0, .int .u8 0, .int .u8 0]), (1, 13, [13], fun vs => .box (blkOf (vs 13)) 31 #[.int .i64 0, .int .i64 0, .int .i64 0, .int .i64 0, .bool false, .int .i64 0, .int .u8 0, .int .u8 0, .int .u8 0, .int .u8 0, .int .i64 0, .int .u8 0, .int .u8 0, .int .u8 0, .int .u8 0, .int .u8 0]), (2, 14, [14], fun vs => .box (blkOf (vs 14)) 31 #[.int .i64 0, .int .i64 0, .int .i64 0, .int .i64 0, .bool false, .int .i64 0, .int .u8 0, .int .u8 0, .int .u8 0, .int .u8 0, .int .i64 0, .int .u8 0, .int .u8 0, .int .u8 0, .int .u8 0, .int .u8 0]), (0, 15, [12], fun vs => .box (blkOf (vs 12)) 31 (av17 ⟨↑k, 1, ↑y, ↑j, pend, q⟩)), (1, 16, [13], fun vs => .box (blkOf (vs 13)) 31 (av17 ⟨↑k, 0, ↑y, ↑j, pend, q⟩)), (2, 17, [14], fun vs => .box (blkOf (vs 14)) 31 (av17 ⟨↑k, 2, ↑y, ↑j, pend, q⟩))] [[], [9], [8], [], [], [9], [8], [], [], [9], [8], [], [0], [1], [2], [0], [1], [2]] [.none, .none, .none, .grid pd 35 ↑s L0, .grid pb 35 ↑s L0, .grid pa 35 ↑s L0, .grid p 35 ↑s L0, .grid x 48 ↑s L0, .box b11 29 (pv q), .box b10 23 #[.int .i64 ↑y, .int .i64 ↑j, .bool pend]] (fun i u => match i with | 0 => u = (.int .i64 ↑k : Value) | 1 => u = (.agg #[.int .i64 ↑y, .int .i64 ↑j, .bool pend] : Value) | 2 => u = (.agg (pv q) : Value) | 3 => u = (.agg (av17 ⟨↑k, 1, ↑y, ↑j, pend, q⟩) : Value) | 4 => u = (.int .i64 ↑k : Value) | 5 => u = (.agg #[.int .i64 ↑y, .int .i64 ↑j, .bool pend] : Value) | 6 => u = (.agg (pv q) : Value) | 7 => u = (.agg (av17 ⟨↑k, 0, ↑y, ↑j, pend, q⟩) : Value) | 8 => u = (.int .i64 ↑k : Value) | 9 => u = (.agg #[.int .i64 ↑y, .int .i64 ↑j, .bool pend] : Value) | 10 => u = (.agg (pv q) : Value) | 11 => u = (.agg (av17 ⟨↑k, 2, ↑y, ↑j, pend, q⟩) : Value) | 12 => ∃ g, u = .pointer (some ⟨g, 0, none⟩) | 13 => ∃ g, u = .pointer (some ⟨g, 0, none⟩) | 14 => ∃ g, u = .pointer (some ⟨g, 0, none⟩) | 15 => True | 16 => True | 17 => True | _ => True) (fun vs => [.box (blkOf (vs 12)) 31 (av17 ⟨↑k, 1, ↑y, ↑j, pend, q⟩), .box (blkOf (vs 13)) 31 (av17 ⟨↑k, 0, ↑y, ↑j, pend, q⟩), .box (blkOf (vs 14)) 31 (av17 ⟨↑k, 2, ↑y, ↑j, pend, q⟩), .grid pd 35 ↑s L0, .grid pb 35 ↑s L0, .grid pa 35 ↑s L0, .grid p 35 ↑s L0, .grid x 48 ↑s L0, .box b11 29 (pv q), .box b10 23 #[.int .i64 ↑y, .int .i64 ↑j, .bool pend]]) (by kernel_rfl) (fun vs => by rfl) SZ.out ?_ ?_
          · refine SSteps.cons (fun a w' vs σ hS hl hs hk => ?_) ?_
            · have e15 : a.tmps.getD 15 undef = (.int .i64 ↑k : Value) := (sk_old hk 15 (by kernel_rfl)).trans rfl
              have f15 := gd e15
              exact ro_pure (v := .int .i64 ↑k) (wanted_none rfl) (by simp [execOp, Act.eval, e15, f15, go_sem]) (sp_same (by kernel_rfl) hl hs hS (show (.int .i64 ↑k : Value) = _ from rfl)) trivial
            refine SSteps.cons (fun a w' vs σ hS hl hs hk => ?_) ?_
            · have e10 : a.tmps.getD 10 undef = (.pointer (some ⟨b10, 0, none⟩) : Value) := (sk_old hk 10 (by kernel_rfl)).trans rfl
              have f10 := gd e10
              have hx := (hS.box (sg (hs 9 (by decide)))).cell
              exact ro_pure (v := .agg #[.int .i64 ↑y, .int .i64 ↑j, .bool pend]) (wanted_none rfl) (by simp [execOp, Act.eval, e10, f10, go_sem, hx]) (sp_same (by kernel_rfl) hl hs hS (show (.agg #[.int .i64 ↑y, .int .i64 ↑j, .bool pend] : Value) = _ from rfl)) trivial
            refine SSteps.cons (fun a w' vs σ hS hl hs hk => ?_) ?_
            · have e11 : a.tmps.getD 11 undef = (.pointer (some ⟨b11, 0, none⟩) : Value) := (sk_old hk 11 (by kernel_rfl)).trans rfl
              have f11 := gd e11
              have hx := (hS.box (sg (hs 8 (by decide)))).penAt
              exact ro_pure (v := .agg (pv q)) (wanted_none rfl) (by simp [execOp, Act.eval, e11, f11, go_sem, hx]) (sp_same (by kernel_rfl) hl hs hS (show (.agg (pv q) : Value) = _ from rfl)) trivial
            refine SSteps.cons (fun a w' vs σ hS hl hs hk => ?_) ?_
            · have e114 : a.tmps.getD 114 undef = (.int .i64 ↑k : Value) := (sk_val hk 0 (by kernel_rfl) rfl rfl).trans ((hk.1 0 (by kernel_rfl)).1)
              have f114 := gd e114
              have e115 : a.tmps.getD 115 undef = (.agg #[.int .i64 ↑y, .int .i64 ↑j, .bool pend] : Value) := (sk_val hk 1 (by kernel_rfl) rfl rfl).trans ((hk.1 1 (by kernel_rfl)).1)
              have f115 := gd e115
              have e116 : a.tmps.getD 116 undef = (.agg (pv q) : Value) := (sk_val hk 2 (by kernel_rfl) rfl rfl).trans ((hk.1 2 (by kernel_rfl)).1)
              have f116 := gd e116
              exact ro_pure (v := .agg (av17 ⟨↑k, 1, ↑y, ↑j, pend, q⟩)) (wanted_none rfl) (by simp [execOp, Act.eval, e114, f114, e115, f115, e116, f116, go_sem]) (sp_same (by kernel_rfl) hl hs hS (show (.agg (av17 ⟨↑k, 1, ↑y, ↑j, pend, q⟩) : Value) = _ from rfl)) trivial
            refine SSteps.cons (fun a w' vs σ hS hl hs hk => ?_) ?_
            · have e15 : a.tmps.getD 15 undef = (.int .i64 ↑k : Value) := (sk_old hk 15 (by kernel_rfl)).trans rfl
              have f15 := gd e15
              exact ro_pure (v := .int .i64 ↑k) (wanted_none rfl) (by simp [execOp, Act.eval, e15, f15, go_sem]) (sp_same (by kernel_rfl) hl hs hS (show (.int .i64 ↑k : Value) = _ from rfl)) trivial
            refine SSteps.cons (fun a w' vs σ hS hl hs hk => ?_) ?_
            · have e10 : a.tmps.getD 10 undef = (.pointer (some ⟨b10, 0, none⟩) : Value) := (sk_old hk 10 (by kernel_rfl)).trans rfl
              have f10 := gd e10
              have hx := (hS.box (sg (hs 9 (by decide)))).cell
              exact ro_pure (v := .agg #[.int .i64 ↑y, .int .i64 ↑j, .bool pend]) (wanted_none rfl) (by simp [execOp, Act.eval, e10, f10, go_sem, hx]) (sp_same (by kernel_rfl) hl hs hS (show (.agg #[.int .i64 ↑y, .int .i64 ↑j, .bool pend] : Value) = _ from rfl)) trivial
            refine SSteps.cons (fun a w' vs σ hS hl hs hk => ?_) ?_
            · have e11 : a.tmps.getD 11 undef = (.pointer (some ⟨b11, 0, none⟩) : Value) := (sk_old hk 11 (by kernel_rfl)).trans rfl
              have f11 := gd e11
              have hx := (hS.box (sg (hs 8 (by decide)))).penAt
              exact ro_pure (v := .agg (pv q)) (wanted_none rfl) (by simp [execOp, Act.eval, e11, f11, go_sem, hx]) (sp_same (by kernel_rfl) hl hs hS (show (.agg (pv q) : Value) = _ from rfl)) trivial
            refine SSteps.cons (fun a w' vs σ hS hl hs hk => ?_) ?_
            · have e118 : a.tmps.getD 118 undef = (.int .i64 ↑k : Value) := (sk_val hk 4 (by kernel_rfl) rfl rfl).trans ((hk.1 4 (by kernel_rfl)).1)
              have f118 := gd e118
              have e119 : a.tmps.getD 119 undef = (.agg #[.int .i64 ↑y, .int .i64 ↑j, .bool pend] : Value) := (sk_val hk 5 (by kernel_rfl) rfl rfl).trans ((hk.1 5 (by kernel_rfl)).1)
              have f119 := gd e119
              have e120 : a.tmps.getD 120 undef = (.agg (pv q) : Value) := (sk_val hk 6 (by kernel_rfl) rfl rfl).trans ((hk.1 6 (by kernel_rfl)).1)
              have f120 := gd e120
              exact ro_pure (v := .agg (av17 ⟨↑k, 0, ↑y, ↑j, pend, q⟩)) (wanted_none rfl) (by simp [execOp, Act.eval, e118, f118, e119, f119, e120, f120, go_sem]) (sp_same (by kernel_rfl) hl hs hS (show (.agg (av17 ⟨↑k, 0, ↑y, ↑j, pend, q⟩) : Value) = _ from rfl)) trivial
            refine SSteps.cons (fun a w' vs σ hS hl hs hk => ?_) ?_
            · have e15 : a.tmps.getD 15 undef = (.int .i64 ↑k : Value) := (sk_old hk 15 (by kernel_rfl)).trans rfl
              have f15 := gd e15
              exact ro_pure (v := .int .i64 ↑k) (wanted_none rfl) (by simp [execOp, Act.eval, e15, f15, go_sem]) (sp_same (by kernel_rfl) hl hs hS (show (.int .i64 ↑k : Value) = _ from rfl)) trivial
            refine SSteps.cons (fun a w' vs σ hS hl hs hk => ?_) ?_
            · have e10 : a.tmps.getD 10 undef = (.pointer (some ⟨b10, 0, none⟩) : Value) := (sk_old hk 10 (by kernel_rfl)).trans rfl
              have f10 := gd e10
              have hx := (hS.box (sg (hs 9 (by decide)))).cell
              exact ro_pure (v := .agg #[.int .i64 ↑y, .int .i64 ↑j, .bool pend]) (wanted_none rfl) (by simp [execOp, Act.eval, e10, f10, go_sem, hx]) (sp_same (by kernel_rfl) hl hs hS (show (.agg #[.int .i64 ↑y, .int .i64 ↑j, .bool pend] : Value) = _ from rfl)) trivial
            refine SSteps.cons (fun a w' vs σ hS hl hs hk => ?_) ?_
            · have e11 : a.tmps.getD 11 undef = (.pointer (some ⟨b11, 0, none⟩) : Value) := (sk_old hk 11 (by kernel_rfl)).trans rfl
              have f11 := gd e11
              have hx := (hS.box (sg (hs 8 (by decide)))).penAt
              exact ro_pure (v := .agg (pv q)) (wanted_none rfl) (by simp [execOp, Act.eval, e11, f11, go_sem, hx]) (sp_same (by kernel_rfl) hl hs hS (show (.agg (pv q) : Value) = _ from rfl)) trivial
            refine SSteps.cons (fun a w' vs σ hS hl hs hk => ?_) ?_
            · have e122 : a.tmps.getD 122 undef = (.int .i64 ↑k : Value) := (sk_val hk 8 (by kernel_rfl) rfl rfl).trans ((hk.1 8 (by kernel_rfl)).1)
              have f122 := gd e122
              have e123 : a.tmps.getD 123 undef = (.agg #[.int .i64 ↑y, .int .i64 ↑j, .bool pend] : Value) := (sk_val hk 9 (by kernel_rfl) rfl rfl).trans ((hk.1 9 (by kernel_rfl)).1)
              have f123 := gd e123
              have e124 : a.tmps.getD 124 undef = (.agg (pv q) : Value) := (sk_val hk 10 (by kernel_rfl) rfl rfl).trans ((hk.1 10 (by kernel_rfl)).1)
              have f124 := gd e124
              exact ro_pure (v := .agg (av17 ⟨↑k, 2, ↑y, ↑j, pend, q⟩)) (wanted_none rfl) (by simp [execOp, Act.eval, e122, f122, e123, f123, e124, f124, go_sem]) (sp_same (by kernel_rfl) hl hs hS (show (.agg (av17 ⟨↑k, 2, ↑y, ↑j, pend, q⟩) : Value) = _ from rfl)) trivial
            refine SSteps.cons (fun a w' vs σ hS hl hs hk => ?_) ?_
            · have h1 : σ[0]? = some .none := hs 0 (by decide)
              exact rs_run (v' := .pointer (some ⟨w'.heap.size, 0, none⟩)) (w' := w'.alloc (.cells #[.int .i64 0, .int .i64 0, .int .i64 0, .int .i64 0, .bool false, .int .i64 0, .int .u8 0, .int .u8 0, .int .u8 0, .int .u8 0, .int .i64 0, .int .u8 0, .int .u8 0, .int .u8 0, .int .u8 0, .int .u8 0] 31)) (wanted_none rfl) (by simp [execOp, go_sem]) (sp_set 0 (.box w'.heap.size 31 #[.int .i64 0, .int .i64 0, .int .i64 0, .int .i64 0, .bool false, .int .i64 0, .int .u8 0, .int .u8 0, .int .u8 0, .int .u8 0, .int .i64 0, .int .u8 0, .int .u8 0, .int .u8 0, .int .u8 0, .int .u8 0]) (by kernel_rfl) (by simp) (by decide) hl hs (by rfl) (hS.alloc1.place (sg h1)) ⟨_, rfl⟩)
            refine SSteps.cons (fun a w' vs σ hS hl hs hk => ?_) ?_
            · have h1 : σ[1]? = some .none := hs 1 (by decide)
              exact rs_run (v' := .pointer (some ⟨w'.heap.size, 0, none⟩)) (w' := w'.alloc (.cells #[.int .i64 0, .int .i64 0, .int .i64 0, .int .i64 0, .bool false, .int .i64 0, .int .u8 0, .int .u8 0, .int .u8 0, .int .u8 0, .int .i64 0, .int .u8 0, .int .u8 0, .int .u8 0, .int .u8 0, .int .u8 0] 31)) (wanted_none rfl) (by simp [execOp, go_sem]) (sp_set 1 (.box w'.heap.size 31 #[.int .i64 0, .int .i64 0, .int .i64 0, .int .i64 0, .bool false, .int .i64 0, .int .u8 0, .int .u8 0, .int .u8 0, .int .u8 0, .int .i64 0, .int .u8 0, .int .u8 0, .int .u8 0, .int .u8 0, .int .u8 0]) (by kernel_rfl) (by simp) (by decide) hl hs (by rfl) (hS.alloc1.place (sg h1)) ⟨_, rfl⟩)
            refine SSteps.cons (fun a w' vs σ hS hl hs hk => ?_) ?_
            · have h1 : σ[2]? = some .none := hs 2 (by decide)
              exact rs_run (v' := .pointer (some ⟨w'.heap.size, 0, none⟩)) (w' := w'.alloc (.cells #[.int .i64 0, .int .i64 0, .int .i64 0, .int .i64 0, .bool false, .int .i64 0, .int .u8 0, .int .u8 0, .int .u8 0, .int .u8 0, .int .i64 0, .int .u8 0, .int .u8 0, .int .u8 0, .int .u8 0, .int .u8 0] 31)) (wanted_none rfl) (by simp [execOp, go_sem]) (sp_set 2 (.box w'.heap.size 31 #[.int .i64 0, .int .i64 0, .int .i64 0, .int .i64 0, .bool false, .int .i64 0, .int .u8 0, .int .u8 0, .int .u8 0, .int .u8 0, .int .i64 0, .int .u8 0, .int .u8 0, .int .u8 0, .int .u8 0, .int .u8 0]) (by kernel_rfl) (by simp) (by decide) hl hs (by rfl) (hS.alloc1.place (sg h1)) ⟨_, rfl⟩)
            refine SSteps.cons (fun a w' vs σ hS hl hs hk => ?_) ?_
            · have e23 : a.tmps.getD 23 undef = vs 12 := sk_val hk 12 (by kernel_rfl) rfl rfl
              have p23 : (fun u : Value => ∃ g, u = .pointer (some ⟨g, 0, none⟩)) (vs 12) := (hk.1 12 (by kernel_rfl)).1
              have f23 := gd e23
              have e117 : a.tmps.getD 117 undef = (.agg (av17 ⟨↑k, 1, ↑y, ↑j, pend, q⟩) : Value) := (sk_val hk 3 (by kernel_rfl) rfl rfl).trans ((hk.1 3 (by kernel_rfl)).1)
              have f117 := gd e117
              obtain ⟨g9, q9⟩ := p23
              have h1 : σ[0]? = some (.box (blkOf (vs 12)) 31 #[.int .i64 0, .int .i64 0, .int .i64 0, .int .i64 0, .bool false, .int .i64 0, .int .u8 0, .int .u8 0, .int .u8 0, .int .u8 0, .int .i64 0, .int .u8 0, .int .u8 0, .int .u8 0, .int .u8 0, .int .u8 0]) := hs 0 (by decide)
              rw [q9, show blkOf (.pointer (some ⟨g9, 0, none⟩)) = g9 from rfl] at h1
              have hst := store_rec (P := Tryd.prog) w' g9 31 _ (av17 ⟨↑k, 1, ↑y, ↑j, pend, q⟩) (hS.box (sg h1)) (by rw [av17_size]; rfl) (av17_one _)
              exact rstep_store (w2 := w'.setRow g9 (av17 ⟨↑k, 1, ↑y, ↑j, pend, q⟩)) (wanted_none rfl) rfl (by simp [execOp, Act.eval, e23, f23, e117, f117, q9, hst, go_sem]) (sp_set 0 (.box g9 31 (av17 ⟨↑k, 1, ↑y, ↑j, pend, q⟩)) (by kernel_rfl) (by simp) (by decide) hl hs (by show Ob.box (blkOf (vs 12)) 31 _ = _; rw [q9]; rfl) (hS.rowBox 0 (sg h1)) trivial) trivial
            refine SSteps.cons (fun a w' vs σ hS hl hs hk => ?_) ?_
            · have e24 : a.tmps.getD 24 undef = vs 13 := sk_val hk 13 (by kernel_rfl) rfl rfl
              have p24 : (fun u : Value => ∃ g, u = .pointer (some ⟨g, 0, none⟩)) (vs 13) := (hk.1 13 (by kernel_rfl)).1
              have f24 := gd e24
              have e121 : a.tmps.getD 121 undef = (.agg (av17 ⟨↑k, 0, ↑y, ↑j, pend, q⟩) : Value) := (sk_val hk 7 (by kernel_rfl) rfl rfl).trans ((hk.1 7 (by kernel_rfl)).1)
              have f121 := gd e121
              obtain ⟨g9, q9⟩ := p24
              have h1 : σ[1]? = some (.box (blkOf (vs 13)) 31 #[.int .i64 0, .int .i64 0, .int .i64 0, .int .i64 0, .bool false, .int .i64 0, .int .u8 0, .int .u8 0, .int .u8 0, .int .u8 0, .int .i64 0, .int .u8 0, .int .u8 0, .int .u8 0, .int .u8 0, .int .u8 0]) := hs 1 (by decide)
              rw [q9, show blkOf (.pointer (some ⟨g9, 0, none⟩)) = g9 from rfl] at h1
              have hst := store_rec (P := Tryd.prog) w' g9 31 _ (av17 ⟨↑k, 0, ↑y, ↑j, pend, q⟩) (hS.box (sg h1)) (by rw [av17_size]; rfl) (av17_one _)
              exact rstep_store (w2 := w'.setRow g9 (av17 ⟨↑k, 0, ↑y, ↑j, pend, q⟩)) (wanted_none rfl) rfl (by simp [execOp, Act.eval, e24, f24, e121, f121, q9, hst, go_sem]) (sp_set 1 (.box g9 31 (av17 ⟨↑k, 0, ↑y, ↑j, pend, q⟩)) (by kernel_rfl) (by simp) (by decide) hl hs (by show Ob.box (blkOf (vs 13)) 31 _ = _; rw [q9]; rfl) (hS.rowBox 1 (sg h1)) trivial) trivial
            refine SSteps.cons (fun a w' vs σ hS hl hs hk => ?_) ?_
            · have e25 : a.tmps.getD 25 undef = vs 14 := sk_val hk 14 (by kernel_rfl) rfl rfl
              have p25 : (fun u : Value => ∃ g, u = .pointer (some ⟨g, 0, none⟩)) (vs 14) := (hk.1 14 (by kernel_rfl)).1
              have f25 := gd e25
              have e125 : a.tmps.getD 125 undef = (.agg (av17 ⟨↑k, 2, ↑y, ↑j, pend, q⟩) : Value) := (sk_val hk 11 (by kernel_rfl) rfl rfl).trans ((hk.1 11 (by kernel_rfl)).1)
              have f125 := gd e125
              obtain ⟨g9, q9⟩ := p25
              have h1 : σ[2]? = some (.box (blkOf (vs 14)) 31 #[.int .i64 0, .int .i64 0, .int .i64 0, .int .i64 0, .bool false, .int .i64 0, .int .u8 0, .int .u8 0, .int .u8 0, .int .u8 0, .int .i64 0, .int .u8 0, .int .u8 0, .int .u8 0, .int .u8 0, .int .u8 0]) := hs 2 (by decide)
              rw [q9, show blkOf (.pointer (some ⟨g9, 0, none⟩)) = g9 from rfl] at h1
              have hst := store_rec (P := Tryd.prog) w' g9 31 _ (av17 ⟨↑k, 2, ↑y, ↑j, pend, q⟩) (hS.box (sg h1)) (by rw [av17_size]; rfl) (av17_one _)
              exact rstep_store (w2 := w'.setRow g9 (av17 ⟨↑k, 2, ↑y, ↑j, pend, q⟩)) (wanted_none rfl) rfl (by simp [execOp, Act.eval, e25, f25, e125, f125, q9, hst, go_sem]) (sp_set 2 (.box g9 31 (av17 ⟨↑k, 2, ↑y, ↑j, pend, q⟩)) (by kernel_rfl) (by simp) (by decide) hl hs (by show Ob.box (blkOf (vs 14)) 31 _ = _; rw [q9]; rfl) (hS.rowBox 2 (sg h1)) trivial) trivial
            exact SSteps.nil
          · intro vs w' hS hv
            have q0 := (show vs 0 = (.int .i64 ↑k : Value) from hv 0 (by decide))
            have q1 := (show vs 1 = (.agg #[.int .i64 ↑y, .int .i64 ↑j, .bool pend] : Value) from hv 1 (by decide))
            have q2 := (show vs 2 = (.agg (pv q) : Value) from hv 2 (by decide))
            have q3 := (show vs 3 = (.agg (av17 ⟨↑k, 1, ↑y, ↑j, pend, q⟩) : Value) from hv 3 (by decide))
            have q4 := (show vs 4 = (.int .i64 ↑k : Value) from hv 4 (by decide))
            have q5 := (show vs 5 = (.agg #[.int .i64 ↑y, .int .i64 ↑j, .bool pend] : Value) from hv 5 (by decide))
            have q6 := (show vs 6 = (.agg (pv q) : Value) from hv 6 (by decide))
            have q7 := (show vs 7 = (.agg (av17 ⟨↑k, 0, ↑y, ↑j, pend, q⟩) : Value) from hv 7 (by decide))
            have q8 := (show vs 8 = (.int .i64 ↑k : Value) from hv 8 (by decide))
            have q9 := (show vs 9 = (.agg #[.int .i64 ↑y, .int .i64 ↑j, .bool pend] : Value) from hv 9 (by decide))
            have q10 := (show vs 10 = (.agg (pv q) : Value) from hv 10 (by decide))
            have q11 := (show vs 11 = (.agg (av17 ⟨↑k, 2, ↑y, ↑j, pend, q⟩) : Value) from hv 11 (by decide))
            obtain ⟨b23, q23⟩ := (show ∃ g, vs 12 = .pointer (some ⟨g, 0, none⟩) from hv 12 (by decide))
            obtain ⟨b24, q24⟩ := (show ∃ g, vs 13 = .pointer (some ⟨g, 0, none⟩) from hv 13 (by decide))
            obtain ⟨b25, q25⟩ := (show ∃ g, vs 14 = .pointer (some ⟨g, 0, none⟩) from hv 14 (by decide))
            rw [q23, q24, q25] at hS
            have S2 := Lib.hid hS
            simp only [putL, Act.put, Nat.zero_add, Nat.reduceAdd, List.setIfInBounds_toArray, List.set_cons_succ, List.set_cons_zero, q0, q1, q2, q3, q4, q5, q6, q7, q8, q9, q10, q11]
            clear hS hv q0 q1 q2 q3 q4 q5 q6 q7 q8 q9 q10 q11
            simp only [q23, q24, q25]
            have T0 := Lib.hid (show Objs w w' [.box b23 31 (av17 ⟨↑k, 1, ↑y, ↑j, pend, q⟩), .box b24 31 (av17 ⟨↑k, 0, ↑y, ↑j, pend, q⟩), .box b25 31 (av17 ⟨↑k, 2, ↑y, ↑j, pend, q⟩), .grid pd 35 ↑s L0, .grid pb 35 ↑s L0, .grid pa 35 ↑s L0, .grid p 35 ↑s L0, .grid x 48 ↑s L0, .box b11 29 (pv q), .box b10 23 #[.int .i64 ↑y, .int .i64 ↑j, .bool pend]] from S2.out)
            obtain ⟨-, -, hz23, hr23, -⟩ := (T0.out.box (k := 0) rfl).act17
            obtain ⟨-, -, hz24, hr24, -⟩ := (T0.out.box (k := 1) rfl).act17
            obtain ⟨-, -, hz25, hr25, -⟩ := (T0.out.box (k := 2) rfl).act17
            go_wp2_with fail
            refine (HCS.out T0.out (k := 5) rfl).mono ?_
            rintro e w20 ⟨rfl, hS⟩
            clear hz23 hr23 hz24 hr24 hz25 hr25
            have T1 := Lib.hid (show Objs w w20 [.box b23 31 (av17 ⟨↑k, 1, ↑y, ↑j, pend, q⟩), .box b24 31 (av17 ⟨↑k, 0, ↑y, ↑j, pend, q⟩), .box b25 31 (av17 ⟨↑k, 2, ↑y, ↑j, pend, q⟩), .grid pd 35 ↑s L0, .grid pb 35 ↑s L0, .grid pa 35 ↑s LS, .grid p 35 ↑s L0, .grid x 48 ↑s L0, .box b11 29 (pv q), .box b10 23 #[.int .i64 ↑y, .int .i64 ↑j, .bool pend]] from hS)
            clear hS T0
            obtain ⟨-, -, hz23, hr23, -⟩ := (T1.out.box (k := 0) rfl).act17
            obtain ⟨-, -, hz24, hr24, -⟩ := (T1.out.box (k := 1) rfl).act17
            obtain ⟨-, -, hz25, hr25, -⟩ := (T1.out.box (k := 2) rfl).act17
            go_wp2_with fail
            refine (HCSA.out T1.out (k := 5) rfl).mono ?_
            rintro e w21 ⟨rfl, hS⟩
            clear hz23 hr23 hz24 hr24 hz25 hr25
            have T2 := Lib.hid (show Objs w w21 [.box b23 31 (av17 ⟨↑k, 1, ↑y, ↑j, pend, q⟩), .box b24 31 (av17 ⟨↑k, 0, ↑y, ↑j, pend, q⟩), .box b25 31 (av17 ⟨↑k, 2, ↑y, ↑j, pend, q⟩), .grid pd 35 ↑s L0, .grid pb 35 ↑s L0, .grid pa 35 ↑s LA, .grid p 35 ↑s L0, .grid x 48 ↑s L0, .box b11 29 (pv q), .box b10 23 #[.int .i64 ↑y, .int .i64 ↑j, .bool pend]] from hS)
            clear hS T1
            obtain ⟨-, -, hz23, hr23, -⟩ := (T2.out.box (k := 0) rfl).act17
            obtain ⟨-, -, hz24, hr24, -⟩ := (T2.out.box (k := 1) rfl).act17
            obtain ⟨-, -, hz25, hr25, -⟩ := (T2.out.box (k := 2) rfl).act17
            go_wp2_with fail
            refine (HCE.out T2.out (k := 4) rfl).mono ?_
            rintro e w22 ⟨rfl, hS⟩
            clear hz23 hr23 hz24 hr24 hz25 hr25
            have T3 := Lib.hid (show Objs w w22 [.box b23 31 (av17 ⟨↑k, 1, ↑y, ↑j, pend, q⟩), .box b24 31 (av17 ⟨↑k, 0, ↑y, ↑j, pend, q⟩), .box b25 31 (av17 ⟨↑k, 2, ↑y, ↑j, pend, q⟩), .grid pd 35 ↑s L0, .grid pb 35 ↑s LE, .grid pa 35 ↑s LA, .grid p 35 ↑s L0, .grid x 48 ↑s L0, .box b11 29 (pv q), .box b10 23 #[.int .i64 ↑y, .int .i64 ↑j, .bool pend]] from hS)
            clear hS T2
            obtain ⟨-, -, hz23, hr23, -⟩ := (T3.out.box (k := 0) rfl).act17
            obtain ⟨-, -, hz24, hr24, -⟩ := (T3.out.box (k := 1) rfl).act17
            obtain ⟨-, -, hz25, hr25, -⟩ := (T3.out.box (k := 2) rfl).act17
            go_wp2_with fail
            refine (HCEA.out T3.out (k := 4) rfl).mono ?_
            rintro e w23 ⟨rfl, hS⟩
            clear hz23 hr23 hz24 hr24 hz25 hr25
            have T4 := Lib.hid (show Objs w w23 [.box b23 31 (av17 ⟨↑k, 1, ↑y, ↑j, pend, q⟩), .box b24 31 (av17 ⟨↑k, 0, ↑y, ↑j, pend, q⟩), .box b25 31 (av17 ⟨↑k, 2, ↑y, ↑j, pend, q⟩), .grid pd 35 ↑s L0, .grid pb 35 ↑s LA, .grid pa 35 ↑s LA, .grid p 35 ↑s L0, .grid x 48 ↑s L0, .box b11 29 (pv q), .box b10 23 #[.int .i64 ↑y, .int .i64 ↑j, .bool pend]] from hS)
            clear hS T3
            obtain ⟨-, -, hz23, hr23, -⟩ := (T4.out.box (k := 0) rfl).act17
            obtain ⟨-, -, hz24, hr24, -⟩ := (T4.out.box (k := 1) rfl).act17
            obtain ⟨-, -, hz25, hr25, -⟩ := (T4.out.box (k := 2) rfl).act17
            go_wp2_with fail
            refine (HCA.out T4.out (k := 3) rfl).mono ?_
            rintro e w24 ⟨rfl, hS⟩
            clear hz23 hr23 hz24 hr24 hz25 hr25
            have T5 := Lib.hid (show Objs w w24 [.box b23 31 (av17 ⟨↑k, 1, ↑y, ↑j, pend, q⟩), .box b24 31 (av17 ⟨↑k, 0, ↑y, ↑j, pend, q⟩), .box b25 31 (av17 ⟨↑k, 2, ↑y, ↑j, pend, q⟩), .grid pd 35 ↑s LA, .grid pb 35 ↑s LA, .grid pa 35 ↑s LA, .grid p 35 ↑s L0, .grid x 48 ↑s L0, .box b11 29 (pv q), .box b10 23 #[.int .i64 ↑y, .int .i64 ↑j, .bool pend]] from hS)
            clear hS T4
            obtain ⟨-, -, hz23, hr23, -⟩ := (T5.out.box (k := 0) rfl).act17
            obtain ⟨-, -, hz24, hr24, -⟩ := (T5.out.box (k := 1) rfl).act17
            obtain ⟨-, -, hz25, hr25, -⟩ := (T5.out.box (k := 2) rfl).act17
            go_wp2_with fail
            refine (HSAME.out T5.out (k1 := 5) (k2 := 3) rfl rfl).mono ?_
            rintro e w25 ⟨rfl, hS⟩
            have T6 := Lib.hid hS
            clear hS T5
            clear hz23 hr23 hz24 hr24 hz25 hr25
            go_wp2_with fail
            refine (HSAME.out T6.out (k1 := 4) (k2 := 3) rfl rfl).mono ?_
            rintro e w26 ⟨rfl, hS⟩
            have T7 := Lib.hid hS
            clear hS T6
            go_wp2_with fail
            go_roundw
            case rel => exact ⟨k + 1, by omega, by go_num, T7.out.tail.tail.tail.tail.tail.tail⟩
            case measure => simp [intOf]; omega
        have hdm : decide ((m : Int) < 3) = true := by simp; omega
        have HR1 := Lib.hid (HREC.out k m L0 HR0.out rfl ⟨by omega, by omega⟩)
        obtain ⟨L1, hL1⟩ : ∃ L1, L1 = act17L ⟨k, m, y, j, pend, q⟩ s L0 := ⟨_, rfl⟩
        have e1 := cl_twice (n := (m : Int)) (y := y) (pend := pend) (q := q) HR0.out hj HW.out
        have HC1 := Lib.hid (HCALL.out k m L0 HR0.out rfl ⟨by omega, by omega⟩)
        have HC2 := Lib.hid (HCALL.out k m _ HR1.out.1 HR1.out.2 ⟨by omega, by omega⟩)
        rw [e1] at HC2
        rw [← hL1] at HC1 HC2 HR1
        clear e1 hL1
        have HSAME := Lib.hid (show ∀ ⦃W : World⦄ ⦃os : List Ob⦄ ⦃k1 k2 p1 p2 : Nat⦄, Objs w W os → os[k1]? = some (.grid p1 35 ↑s L1) → os[k2]? = some (.grid p2 35 ↑s L1) → Calls Tryd.prog 31 #[.pointer (some ⟨p1, 0, none⟩), .pointer (some ⟨p2, 0, none⟩)] W fun e w' => e = .returned (.bool true) ∧ Objs w w' os from fun W os k1 k2 p1 p2 hS hk1 hk2 => by
          have := Same_any hS hk1 hk2 hc0 hc0 (by rw [HR1.out.2]; exact hLm0) (by rw [HR1.out.2]; exact hLm0) (HR1.out.1.mill hcm0) (HR1.out.1.mill hcm0)
          simpa using this)
        have hL1m : L1.length ≤ 1000000 := by rw [HR1.out.2]; exact hLm0
        obtain ⟨hx10, hf10, hz10⟩ := (S9.out.box (k := 6) rfl).facts
        have hp11 := (S9.out.box (k := 5) rfl).penAt
        have hz11 := (S9.out.box (k := 5) rfl).lt
        go_wp2_with fail
        refine (CopyG (S9.out.alloc1 (c1 := av17 ⟨k, m, y, j, pend, q⟩) (t1 := 31)) (k := 4) rfl hc0 hcm0 HR0.out hLm0).mono ?_
        rintro e w9 ⟨pt, rfl, hS⟩
        have T1 := Lib.hid hS
        clear hx10 hf10 hz10 hp11 hz11
        obtain ⟨-, -, hz20, hr20, -⟩ := (hS.box (k := 1) rfl).act17
        clear hS
        go_wp2_with fail
        refine (HC1.out (k := 0) T1.out rfl).mono ?_
        rintro e w10 ⟨rfl, hS⟩
        have T2 := Lib.hid hS
        clear hz20 hr20
        obtain ⟨-, -, hz20, hr20, -⟩ := (hS.box (k := 1) rfl).act17
        clear hS T1
        go_wp2_with fail
        refine (CopyG T2.out (k := 0) rfl hc0 hcm0 HR1.out.1 hL1m).mono ?_
        rintro e w11 ⟨pu, rfl, hS⟩
        have T3 := Lib.hid hS
        clear hz20 hr20
        obtain ⟨-, -, hz20, hr20, -⟩ := (hS.box (k := 2) rfl).act17
        clear hS T2
        go_wp2_with fail
        refine (HC2.out (k := 0) T3.out rfl).mono ?_
        rintro e w12 ⟨rfl, hS⟩
        have T4 := Lib.hid hS
        clear hz20 hr20 hS T3
        go_wp2_with fail
        refine (HSAME.out (k1 := 0) (k2 := 1) T4.out rfl rfl).mono ?_
        rintro e w13 ⟨rfl, hS⟩
        have T5 := Lib.hid hS
        clear hS T4
        go_wp2_with fail
        go_roundw
        case rel => exact ⟨m + 1, by omega, by go_num, T5.out.tail.tail.tail⟩
        case measure => simp [intOf]; omega
end Go.Proofs.YtjligfbaljnhnaaDoor
