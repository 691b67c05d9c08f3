/-
  RegionFeeds: the law returns true.
-/
import Derived.Test.YtghahanpmcpacaaDoorR7
set_option linter.unusedSimpArgs false
set_option linter.unusedVariables false
namespace Go.Proofs.YtghahanpmcpacaaDoor
open Go.RowKit

theorem nil_same (w : World) : Calls Tryd.prog 22 #[.slice none 0 0, .slice none 0 0] w fun e w' => e = .returned (.bool true) ∧ Below w.heap.size w w' :=
  (same_yes ((objs_start w).nilLines.nilLines) (i := 0) (j := 1) rfl rfl (by simp) (by simp)).mono fun e w' ⟨h1, h2⟩ => ⟨h1, h2.base⟩
theorem ixRow_lt {bot R row : Nat} (h : row < R) : ixRow bot R row < R := by unfold ixRow; split <;> omega
theorem rvRow_lt {top R row : Nat} (h : row < R) : rvRow top row < R := by unfold rvRow; split <;> omega
theorem ixL_rect {top bot row : Nat} {q : Pen} {cols : Nat} {L : List Ln} (hR : Rect cols L) (htb : top ≤ bot) (hbl : bot < L.length) : Rect cols (ixL top bot row q cols L) ∧ (ixL top bot row q cols L).length = L.length := by
  unfold ixL; split; exact ⟨rollL_rect19 hR htb hbl, rollL_length htb hbl⟩; exact ⟨hR, rfl⟩
theorem rvL_rect {top bot row : Nat} {q : Pen} {cols : Nat} {L : List Ln} (hR : Rect cols L) (htb : top ≤ bot) (hbl : bot < L.length) : Rect cols (rvL top bot row q cols L) ∧ (rvL top bot row q cols L).length = L.length := by
  unfold rvL; split; exact ⟨rollL_rect19 hR htb hbl, rollL_length htb hbl⟩; exact ⟨hR, rfl⟩
theorem close_rows19 {w0 w : World} {o l1 : Ob} {x : Nat} {t : TypeId} {cols : Int} {v : Value} {L : List Ln} {os : List Ob} (h : Objs w0 w (o :: .box x t #[.int .i64 cols, v] :: l1 :: .lines v L :: os)) : Objs w0 w (o :: .grid x t cols L :: os) := by
  have h1 := (h.lift (k := 3) rfl).closeGrid (k := 1) rfl
  exact (h1.del 2).del 2
set_option maxRecDepth 100000 in
set_option maxHeartbeats 16000000 in
theorem l19RegionFeeds_any (rows cols : Int) (A : Option Addr) (c : Nat) (fill : List Cell) (soft : Int) (tp bt : Int) (dn up : Int) (w : World) (hT : Tabs w) (ha : RdC w A c fill) (hm : c ≤ maxLen) (hs : 0 ≤ soft ∧ soft ≤ 65535) (hdn : 0 ≤ dn ∧ dn ≤ 255) (hup : 0 ≤ up ∧ up ≤ 255) :
    Calls Tryd.prog 9 #[.int .i64 rows, .int .i64 cols, .slice A fill.length c, .int .u16 soft, .agg #[.int .i64 tp, .int .i64 bt], .int .u8 dn, .int .u8 up] w fun e w' => e = .returned (.bool true) ∧ Below w.heap.size w w' := by
  have HT := Lib.hid hT
  have HA := Lib.hid ha
  have hfm : fill.length ≤ maxLen := Nat.le_trans ha.1 hm
  clear hT ha hm
  cases hsm : smallB rows cols fill.length with
  | false =>
    have HSM := Lib.hid hsm
    clear hsm
    go_enter Tryd.func9, Tryd.ntmps9
    go_upto_region 1 with (fail)
    refine at_objsC (objs_start w).alloc1 (fun W hW => ?_)
    have S := Lib.hid hW
    clear hW
    obtain ⟨hx11, hf11, hz11⟩ := (S.out.box (k := 0) rfl).facts
    go_wp2_with fail
    refine (l19small_any rows cols A fill.length c _ hfm).mono ?_
    rw [HSM.out]
    rintro e w1 ⟨rfl, rfl⟩
    clear hx11 hf11 hz11
    go_wp2_with fail
    refine (l19known_any _ (S.out.tabs HT.out)).mono ?_
    rintro e wk ⟨rfl, hb⟩
    have HB := Lib.hid (S.out.bel hb).base
    clear hb
    go_wp2_with fail
    go_ret
    exact ⟨rfl, HB.out⟩
  | true =>
    obtain ⟨rr, s, rfl, rfl, ⟨h1, h2⟩, ⟨h3, h4⟩, h5⟩ := small_true hsm
    have HSM := Lib.hid hsm
    clear hsm
    cases hreg : regB rr tp bt with
    | false =>
      have HREG := Lib.hid hreg
      clear hreg
      go_enter Tryd.func9, Tryd.ntmps9
      go_upto_region 1 with (fail)
      refine at_objsC (objs_start w).alloc1 (fun W hW => ?_)
      have S := Lib.hid hW
      clear hW
      obtain ⟨hx11, hf11, hz11⟩ := (S.out.box (k := 0) rfl).facts
      go_wp2_with fail
      refine (l19small_any rr s A fill.length c _ hfm).mono ?_
      rw [HSM.out]
      rintro e w1 ⟨rfl, rfl⟩
      go_wp2_with fail
      refine (r19Right_is HREG.out _).mono ?_
      rintro e w2 ⟨rfl, hb⟩
      have S1 := Lib.hid (S.out.bel hb)
      clear hb S hx11 hf11 hz11
      go_wp2_with fail
      refine (l19known_any _ (S1.out.tabs HT.out)).mono ?_
      rintro e wk ⟨rfl, hb⟩
      have HB := Lib.hid (S1.out.bel hb).base
      clear hb
      go_wp2_with fail
      go_ret
      exact ⟨rfl, HB.out⟩
    | true =>
      have HREG := Lib.hid hreg
      obtain ⟨top, bot, rfl, rfl, htb, hbr⟩ := regB_nat hreg
      clear hreg
      by_cases hd20 : 20 < dn
      · have d20 : decide (20 < dn) = true := decide_eq_true hd20
        go_enter Tryd.func9, Tryd.ntmps9
        go_upto_region 1 with (fail)
        refine at_objsC (objs_start w).alloc1 (fun W hW => ?_)
        have S := Lib.hid hW
        clear hW
        obtain ⟨hx11, hf11, hz11⟩ := (S.out.box (k := 0) rfl).facts
        go_wp2_with fail
        refine (l19small_any rr s A fill.length c _ hfm).mono ?_
        rw [HSM.out]
        rintro e w1 ⟨rfl, rfl⟩
        go_wp2_with fail
        refine (r19Right_is HREG.out _).mono ?_
        rintro e w2 ⟨rfl, hb⟩
        have S1 := Lib.hid (S.out.bel hb)
        clear hb S hx11 hf11 hz11
        go_wp2_with fail
        refine (l19known_any _ (S1.out.tabs HT.out)).mono ?_
        rintro e wk ⟨rfl, hb⟩
        have HB := Lib.hid (S1.out.bel hb).base
        clear hb
        go_wp2_with fail
        go_ret
        exact ⟨rfl, HB.out⟩
      have d20 : decide (20 < dn) = false := decide_eq_false hd20
      by_cases hu20 : 20 < up
      · have du20 : decide (20 < up) = true := decide_eq_true hu20
        go_enter Tryd.func9, Tryd.ntmps9
        go_upto_region 1 with (fail)
        refine at_objsC (objs_start w).alloc1 (fun W hW => ?_)
        have S := Lib.hid hW
        clear hW
        obtain ⟨hx11, hf11, hz11⟩ := (S.out.box (k := 0) rfl).facts
        go_wp2_with fail
        refine (l19small_any rr s A fill.length c _ hfm).mono ?_
        rw [HSM.out]
        rintro e w1 ⟨rfl, rfl⟩
        go_wp2_with fail
        refine (r19Right_is HREG.out _).mono ?_
        rintro e w2 ⟨rfl, hb⟩
        have S1 := Lib.hid (S.out.bel hb)
        clear hb S hx11 hf11 hz11
        go_wp2_with fail
        refine (l19known_any _ (S1.out.tabs HT.out)).mono ?_
        rintro e wk ⟨rfl, hb⟩
        have HB := Lib.hid (S1.out.bel hb).base
        clear hb
        go_wp2_with fail
        go_ret
        exact ⟨rfl, HB.out⟩
      have du20 : decide (20 < up) = false := decide_eq_false hu20
      go_enter Tryd.func9, Tryd.ntmps9
      go_upto_region 1 with (fail)
      refine at_objsC (objs_start w).alloc1 (fun W hW => ?_)
      have S := Lib.hid hW
      clear hW
      obtain ⟨hx11, hf11, hz11⟩ := (S.out.box (k := 0) rfl).facts
      go_wp2_with fail
      refine (l19small_any rr s A fill.length c _ hfm).mono ?_
      rw [HSM.out]
      rintro e w1 ⟨rfl, rfl⟩
      go_wp2_with fail
      refine (r19Right_is HREG.out _).mono ?_
      rintro e w2 ⟨rfl, hb⟩
      have S1 := Lib.hid (S.out.bel hb)
      clear hb S hx11 hf11 hz11
      go_wp2_with fail
      refine (l19begun_base A c fill rr s soft _ (S1.out.tabs HT.out) (HA.out.bel S1.out.base) h1 h2 h3 h4 h5 hs).mono ?_
      rintro e w1 ⟨p, x, rfl, hS⟩
      have hc0 : 0 < s := by omega
      have hcm0 : s ≤ 1000 := by omega
      have HR0 := Lib.hid (begunP_rect rr s fill soft).1
      have hlen0 := (begunP_rect rr s fill soft).2
      obtain ⟨L0, hL0e⟩ : ∃ L0, L0 = begunP rr s fill soft := ⟨_, rfl⟩
      rw [← hL0e] at HR0 hlen0 hS
      obtain ⟨D, rfl⟩ : ∃ D : Nat, dn = D := ⟨dn.toNat, by omega⟩
      obtain ⟨U, rfl⟩ : ∃ U : Nat, up = U := ⟨up.toNat, by omega⟩
      have HWD := Lib.hid (show IntKind.i64.wrap (D : Int) = (D : Int) from IntWalk.i64_in _ (by omega))
      have HWU := Lib.hid (show IntKind.i64.wrap (U : Int) = (U : Int) from IntWalk.i64_in _ (by omega))
      have HWA := Lib.hid (show IntKind.i64.wrap ((D : Int) + (U : Int)) = (D : Int) + (U : Int) from IntWalk.i64_in _ (by omega))
      generalize hb11 : w.heap.size = b11 at S1 ⊢
      have hS1 := (show Objs w w1 [.grid p 37 ↑s L0, .grid x 63 ↑s L0, .box b11 23 #[.int .i64 ↑top, .int .i64 ↑bot]] from S1.out.nestAll hS)
      have S2 := Lib.hid hS1
      clear hS hS1 S1 hL0e
      go_upto_region 7 with (fail)
      refine at_objsC (S2.out.alloc2 (c1 := #[.int .i64 0, .int .i64 0, .bool false]) (t1 := 25) (c2 := #[.int .i64 0, .int .i64 0, .bool false]) (t2 := 25)) (fun W3 hW => ?_)
      generalize hb18 : w1.heap.size + 1 = b18 at hW ⊢
      generalize hb17 : w1.heap.size = b17 at hW ⊢
      clear hb18 hb17 S2
      have hO := ((hW.lift (k := 3) rfl).lift (k := 3) rfl)
      have S3 := Lib.hid (show Objs w W3 [.grid p 37 ↑s L0, .grid x 63 ↑s L0, .box b18 25 #[.int .i64 ↑(0 : Nat), .int .i64 0, .bool false], .box b17 25 #[.int .i64 ↑(0 : Nat), .int .i64 0, .bool false], .box b11 23 #[.int .i64 ↑top, .int .i64 ↑bot]] from (hO.del 4).del 4)
      clear hW hO
      have hwd := HWD.out
      have hwu := HWU.out
      have hwa := HWA.out
      go_wp2_with fail
      go_loopw [14, 19, 20, 21, 22] (fun _ vi _ _ _ wr => ∃ (i row : Nat) (L0 : List Ln), i ≤ D + U ∧ vi = .int .i64 i ∧ (row < rr ∧ Rect s L0 ∧ L0.length = rr) ∧ Objs w wr [.grid p 37 ↑s L0, .grid x 63 ↑s L0, .box b18 25 #[.int .i64 ↑row, .int .i64 0, .bool false], .box b17 25 #[.int .i64 ↑row, .int .i64 0, .bool false], .box b11 23 #[.int .i64 ↑top, .int .i64 ↑bot]]) (fun _ vi _ _ _ _ => D + U - (intOf vi).toNat)
      case atStart => exact ⟨0, 0, L0, by omega, rfl, ⟨by omega, HR0.out, hlen0⟩, S3.out⟩
      case round =>
        clear hlen0 HR0 S3 L0
        obtain ⟨i, row, L0, hi, rfl, ⟨hrow, hR0, hlen0⟩, hS⟩ := hrel
        have HR0 := Lib.hid hR0
        have S := Lib.hid hS
        clear hS hR0 hwd hwu hwa
        by_cases hlt : i < D + U
        case neg =>
          have hdi : decide ((i : Int) < (D : Int) + (U : Int)) = false := decide_eq_false (by omega)
          have hwd := HWD.out
          have hwu := HWU.out
          have hwa := HWA.out
          go_wp2_with fail
          refine (l19known_any _ (S.out.tabs HT.out)).mono ?_
          rintro e wk ⟨rfl, hb⟩
          have HB := Lib.hid (S.out.bel hb).base
          clear hb
          go_wp2_with fail
          go_ret
          exact ⟨rfl, HB.out⟩
        have hdi : decide ((i : Int) < (D : Int) + (U : Int)) = true := decide_eq_true (by omega)
        have hL0 : 0 < L0.length := by omega
        have hLm1 : L0.length ≤ 1000 := by omega
        have hbl : bot < L0.length := by omega
        have hrl : row < L0.length := by omega
        have HIN := Lib.hid (show inG (row : Int) ((0 : Nat) : Int) false L0.length s = true from ingrid_iff.2 ⟨⟨by omega, by omega⟩, ⟨by omega, by omega⟩, fun h => by cases h⟩)
        have HMILL := Lib.hid (HR0.out.mill hcm0)
        by_cases hid : i < D
        · have hdd : decide ((i : Int) < (D : Int)) = true := decide_eq_true (by omega)
          obtain ⟨L1, hL1⟩ : ∃ L1, L1 = ixL top bot row pen0 s L0 := ⟨_, rfl⟩
          obtain ⟨row1, hrow1⟩ : ∃ r1, r1 = ixRow bot L0.length row := ⟨_, rfl⟩
          have hN := ixL_rect (row := row) (q := pen0) HR0.out htb hbl
          rw [← hL1] at hN
          have HR1 := Lib.hid hN.1
          have hlen1 : L1.length = rr := hN.2.trans hlen0
          have hr1 : row1 < rr := by rw [hrow1, ← hlen0]; exact ixRow_lt hrl
          have hLm16 : L1.length ≤ 1000000 := by omega
          have HM1 := Lib.hid (HR1.out.mill hcm0)
          have HL1 := Lib.hid hL1.symm
          have HROW1 := Lib.hid hrow1.symm
          obtain ⟨G1, hG1⟩ : ∃ G, G = ixGone top bot row L0 := ⟨_, rfl⟩
          have HG1 := Lib.hid (show G1.length ≤ 1000000 ∧ ∀ l ∈ G1, l.1.length ≤ 1000000 from by rw [hG1]; exact ⟨Nat.le_trans ixGone_len (by omega), fun l hl => HMILL.out l (ixGone_mem hl)⟩)
          have HGE := Lib.hid hG1.symm
          clear hG1
          clear hL1 hrow1 hN
          obtain ⟨hx11, hf11, hz11⟩ := (S.out.box (k := 4) rfl).facts
          obtain ⟨hx17, hf17, hz17⟩ := (S.out.box (k := 3) rfl).facts
          have hwd := HWD.out
          have hwu := HWU.out
          have hwa := HWA.out
          go_wp2_with fail
          clear hwd hwu hwa
          have hcon := Index_yes (row := row) (col := 0) (pend := false) pen0 HT.out S.out (k := 0) rfl hcm0 hLm1 htb hbl (by decide +kernel) HIN.out
          rw [HL1.out, HROW1.out, HGE.out] at hcon
          refine (show Calls Tryd.prog 13 #[.pointer (some ⟨p, 0, none⟩), .agg #[.int .i64 ↑top, .int .i64 ↑bot], .agg #[.int .i64 ↑row, .int .i64 0, .bool false], .agg (pv pen0)] _ _ from hcon).mono ?_
          clear hcon
          rintro e w2 ⟨A1, m1, c1, rfl, hS⟩
          have S4 := Lib.hid (show Objs w w2 (.lines (.slice A1 m1 c1) G1 :: [.grid p 37 ↑s L1, .grid x 63 ↑s L0, .box b18 25 #[.int .i64 ↑row, .int .i64 0, .bool false], .box b17 25 #[.int .i64 ↑row, .int .i64 0, .bool false], .box b11 23 #[.int .i64 ↑top, .int .i64 ↑bot]]) from hS)
          clear hS S hx11 hf11 hz11 hx17 hf17 hz17
          obtain ⟨hx17, hf17, hz17⟩ := (S4.out.box (k := 4) rfl).facts
          go_upto_region 14 with (fail)
          refine at_objsC (S4.out.setBox3 (u := .int .i64 row1) (v := .int .i64 0) (x := .bool false) (k := 4) rfl) (fun W5 hW => ?_)
          clear hx17 hf17 hz17
          have S5 := Lib.hid (show Objs w W5 [.lines (.slice A1 m1 c1) G1, .grid p 37 ↑s L1, .grid x 63 ↑s L0, .box b18 25 #[.int .i64 ↑row, .int .i64 0, .bool false], .box b17 25 #[.int .i64 ↑row1, .int .i64 0, .bool false], .box b11 23 #[.int .i64 ↑top, .int .i64 ↑bot]] from hW)
          clear hW S4
          obtain ⟨hx11, hf11, hz11⟩ := (S5.out.box (k := 5) rfl).facts
          obtain ⟨hx18, hf18, hz18⟩ := (S5.out.box (k := 3) rfl).facts
          go_wp2_with fail
          have hcon := r19Index_any (row := row) (col := 0) (pend := false) pen0 S5.out (k := 2) rfl hcm0 hLm1 HR0.out htb hbl hrl
          rw [HL1.out, HROW1.out, HGE.out] at hcon
          refine (show Calls Tryd.prog 28 #[.pointer (some ⟨x, 0, none⟩), .agg #[.int .i64 ↑top, .int .i64 ↑bot], .agg #[.int .i64 ↑row, .int .i64 0, .bool false], .agg (pv pen0)] _ _ from hcon).mono ?_
          clear hcon
          rintro e w3 ⟨A2, m2, c2, rfl, hS⟩
          have S6 := Lib.hid (show Objs w w3 [.lines (.slice A2 m2 c2) G1, .lines (.slice A1 m1 c1) G1, .grid p 37 ↑s L1, .grid x 63 ↑s L1, .box b18 25 #[.int .i64 ↑row, .int .i64 0, .bool false], .box b17 25 #[.int .i64 ↑row1, .int .i64 0, .bool false], .box b11 23 #[.int .i64 ↑top, .int .i64 ↑bot]] from hS)
          clear hS S5 hx11 hf11 hz11 hx18 hf18 hz18
          obtain ⟨hx18, hf18, hz18⟩ := (S6.out.box (k := 4) rfl).facts
          go_upto_region 17 with (fail)
          refine at_objsC (S6.out.setBox3 (u := .int .i64 row1) (v := .int .i64 0) (x := .bool false) (k := 4) rfl) (fun W7 hW => ?_)
          clear hx18 hf18 hz18 S6
          have hO := ((show Objs w W7 [.lines (.slice A2 m2 c2) G1, .lines (.slice A1 m1 c1) G1, .grid p 37 ↑s L1, .grid x 63 ↑s L1, .box b18 25 #[.int .i64 ↑row1, .int .i64 0, .bool false], .box b17 25 #[.int .i64 ↑row1, .int .i64 0, .bool false], .box b11 23 #[.int .i64 ↑top, .int .i64 ↑bot]] from hW).lift (k := 3) rfl).lift (k := 3) rfl
          have SZ := Lib.hid (show Objs w W7 [.grid p 37 ↑s L1, .grid x 63 ↑s L1, .none, .none, .lines (.slice A2 m2 c2) G1, .lines (.slice A1 m1 c1) G1, .none, .none, .box b18 25 #[.int .i64 ↑row1, .int .i64 0, .bool false], .box b17 25 #[.int .i64 ↑row1, .int .i64 0, .bool false], .box b11 23 #[.int .i64 ↑top, .int .i64 ↑bot]] from hO.addNone2)
          clear hW hO
          refine wp_region_stage (w0 := w) (os := []) (by kernel_rfl) (by kernel_rfl) (by kernel_rfl) [(2, 15, [15], fun vs => .lines (vs 15) L1), (1, 19, [19], fun vs => .box x 63 #[.int .i64 ↑s, vs 19]), (3, 19, [19], fun vs => .lines (vs 19) L1)] [[9], [8], [], [], [], [], [], [], [], [], [4, 5], [], [], [], [], [0, 2], [], [], [], [1, 3], [2, 3], [], []] [.grid p 37 ↑s L1, .grid x 63 ↑s L1, .none, .none, .lines (.slice A2 m2 c2) G1, .lines (.slice A1 m1 c1) G1, .none, .none, .box b18 25 #[.int .i64 ↑row1, .int .i64 0, .bool false], .box b17 25 #[.int .i64 ↑row1, .int .i64 0, .bool false], .box b11 23 #[.int .i64 ↑top, .int .i64 ↑bot]] (fun i u => match i with | 0 => u = (.agg #[.int .i64 ↑row1, .int .i64 0, .bool false] : Value) | 1 => u = (.agg #[.int .i64 ↑row1, .int .i64 0, .bool false] : Value) | 2 => u = (.bool false : Value) | 3 => u = (.bool false : Value) | 4 => u = (.int .i64 0 : Value) | 5 => u = (.bool false : Value) | 6 => u = (.bool false : Value) | 7 => u = (.bool false : Value) | 8 => u = (.slice A1 m1 c1 : Value) | 9 => u = (.slice A2 m2 c2 : Value) | 10 => u = (.bool true : Value) | 11 => u = (.bool false : Value) | 12 => u = (.bool false : Value) | 13 => u = (.bool false : Value) | 14 => u = (.pointer (some ⟨p, 0, none⟩) : Value) | 15 => ∃ A c, u = .slice A (L1).length c | 16 => u = (.pointer (some ⟨x, 0, none⟩) : Value) | 17 => u = (.pointer (some ⟨x, 0, none⟩) : Value) | 18 => u = (.pointer (some ⟨x, 1, none⟩) : Value) | 19 => ∃ A c, u = .slice A (L1).length c | 20 => u = (.bool true : Value) | 21 => u = (.bool false : Value) | 22 => u = (.bool false : Value) | _ => True) (fun vs => [.grid p 37 ↑s L1, .box x 63 #[.int .i64 ↑s, vs 19], .lines (vs 15) L1, .lines (vs 19) L1, .lines (.slice A2 m2 c2) G1, .lines (.slice A1 m1 c1) G1, .none, .none, .box b18 25 #[.int .i64 ↑row1, .int .i64 0, .bool false], .box b17 25 #[.int .i64 ↑row1, .int .i64 0, .bool false], .box b11 23 #[.int .i64 ↑top, .int .i64 ↑bot]]) (by kernel_rfl) (fun vs => by rfl) SZ.out ?_ ?_
          · refine SSteps.cons (fun a w' vs σ hS hl hs hk => ?_) ?_
            · have e17 : a.tmps.getD 17 undef = (.pointer (some ⟨b17, 0, none⟩) : Value) := (sk_old hk 17 (by kernel_rfl)).trans rfl
              have f17 := gd e17
              have hx := (hS.box (sg (hs 9 (by decide)))).cell
              exact ro_pure (v := .agg #[.int .i64 ↑row1, .int .i64 0, .bool false]) (wanted_none rfl) (by simp [execOp, Act.eval, e17, f17, go_sem, hx]) (sp_same (by kernel_rfl) hl hs hS (show (.agg #[.int .i64 ↑row1, .int .i64 0, .bool false] : Value) = _ from rfl)) trivial
            refine SSteps.cons (fun a w' vs σ hS hl hs hk => ?_) ?_
            · have e18 : a.tmps.getD 18 undef = (.pointer (some ⟨b18, 0, none⟩) : Value) := (sk_old hk 18 (by kernel_rfl)).trans rfl
              have f18 := gd e18
              have hx := (hS.box (sg (hs 8 (by decide)))).cell
              exact ro_pure (v := .agg #[.int .i64 ↑row1, .int .i64 0, .bool false]) (wanted_none rfl) (by simp [execOp, Act.eval, e18, f18, go_sem, hx]) (sp_same (by kernel_rfl) hl hs hS (show (.agg #[.int .i64 ↑row1, .int .i64 0, .bool false] : Value) = _ from rfl)) trivial
            refine SSteps.cons (fun a w' vs σ hS hl hs hk => ?_) ?_
            · have e98 : a.tmps.getD 98 undef = (.agg #[.int .i64 ↑row1, .int .i64 0, .bool false] : Value) := (sk_val hk 0 (by kernel_rfl) rfl rfl).trans ((hk.1 0 (by kernel_rfl)).1)
              have f98 := gd e98
              have e99 : a.tmps.getD 99 undef = (.agg #[.int .i64 ↑row1, .int .i64 0, .bool false] : Value) := (sk_val hk 1 (by kernel_rfl) rfl rfl).trans ((hk.1 1 (by kernel_rfl)).1)
              have f99 := gd e99
              exact ro_pure (v := .bool false) (wanted_none rfl) (by simp [execOp, Act.eval, e98, f98, e99, f99, go_sem]) (sp_same (by kernel_rfl) hl hs hS (show (.bool false : Value) = _ from rfl)) trivial
            refine SSteps.cons (fun a w' vs σ hS hl hs hk => ?_) ?_
            · have e100 : a.tmps.getD 100 undef = (.bool false : Value) := (sk_val hk 2 (by kernel_rfl) rfl rfl).trans ((hk.1 2 (by kernel_rfl)).1)
              have f100 := gd e100
              exact ro_pure (v := .bool false) (wanted_none rfl) (by simp [execOp, Act.eval, e100, f100, go_sem]) (sp_same (by kernel_rfl) hl hs hS (show (.bool false : Value) = _ from rfl)) trivial
            refine SSteps.cons (fun a w' vs σ hS hl hs hk => ?_) ?_
            · have e20 : a.tmps.getD 20 undef = (.int .i64 0 : Value) := (sk_old hk 20 (by kernel_rfl)).trans rfl
              have f20 := gd e20
              exact ro_pure (v := .int .i64 0) (wanted_yes rfl rfl rfl (show _ = _ from (sk_val hk 3 (by kernel_rfl) rfl rfl).trans ((hk.1 3 (by kernel_rfl)).1))) (by simp [execOp, Act.eval, e20, f20, go_sem]) (sp_same (by kernel_rfl) hl hs hS (show (.int .i64 0 : Value) = _ from rfl)) trivial
            refine SSteps.cons (fun a w' vs σ hS hl hs hk => ?_) ?_
            · have e102 : a.tmps.getD 102 undef = (.int .i64 0 : Value) := (sk_val hk 4 (by kernel_rfl) rfl rfl).trans ((hk.1 4 (by kernel_rfl)).1)
              have f102 := gd e102
              exact ro_pure (v := .bool false) (wanted_yes rfl rfl rfl (show _ = _ from (sk_val hk 3 (by kernel_rfl) rfl rfl).trans ((hk.1 3 (by kernel_rfl)).1))) (by simp [execOp, Act.eval, e102, f102, go_sem]) (sp_same (by kernel_rfl) hl hs hS (show (.bool false : Value) = _ from rfl)) trivial
            refine SSteps.cons (fun a w' vs σ hS hl hs hk => ?_) ?_
            · have e101 : a.tmps.getD 101 undef = (.bool false : Value) := (sk_val hk 3 (by kernel_rfl) rfl rfl).trans ((hk.1 3 (by kernel_rfl)).1)
              have f101 := gd e101
              have e103 : a.tmps.getD 103 undef = (.bool false : Value) := (sk_val hk 5 (by kernel_rfl) rfl rfl).trans ((hk.1 5 (by kernel_rfl)).1)
              have f103 := gd e103
              exact ro_pure (v := .bool false) (wanted_none rfl) (by simp [execOp, Act.eval, e101, f101, e103, f103, go_sem]) (sp_same (by kernel_rfl) hl hs hS (show (.bool false : Value) = _ from rfl)) trivial
            refine SSteps.cons (fun a w' vs σ hS hl hs hk => ?_) ?_
            · have e104 : a.tmps.getD 104 undef = (.bool false : Value) := (sk_val hk 6 (by kernel_rfl) rfl rfl).trans ((hk.1 6 (by kernel_rfl)).1)
              have f104 := gd e104
              exact ro_pure (v := .bool false) (wanted_none rfl) (by simp [execOp, Act.eval, e104, f104, go_sem]) (sp_same (by kernel_rfl) hl hs hS (show (.bool false : Value) = _ from rfl)) trivial
            refine SSteps.cons (fun a w' vs σ hS hl hs hk => ?_) ?_
            · have e21 : a.tmps.getD 21 undef = (.slice A1 m1 c1 : Value) := (sk_old hk 21 (by kernel_rfl)).trans rfl
              have f21 := gd e21
              exact ro_pure (v := .slice A1 m1 c1) (wanted_yes rfl rfl rfl (show _ = _ from (sk_val hk 7 (by kernel_rfl) rfl rfl).trans ((hk.1 7 (by kernel_rfl)).1))) (by simp [execOp, Act.eval, e21, f21, go_sem]) (sp_same (by kernel_rfl) hl hs hS (show (.slice A1 m1 c1 : Value) = _ from rfl)) trivial
            refine SSteps.cons (fun a w' vs σ hS hl hs hk => ?_) ?_
            · have e22 : a.tmps.getD 22 undef = (.slice A2 m2 c2 : Value) := (sk_old hk 22 (by kernel_rfl)).trans rfl
              have f22 := gd e22
              exact ro_pure (v := .slice A2 m2 c2) (wanted_yes rfl rfl rfl (show _ = _ from (sk_val hk 7 (by kernel_rfl) rfl rfl).trans ((hk.1 7 (by kernel_rfl)).1))) (by simp [execOp, Act.eval, e22, f22, go_sem]) (sp_same (by kernel_rfl) hl hs hS (show (.slice A2 m2 c2 : Value) = _ from rfl)) trivial
            refine SSteps.cons (fun a w' vs σ hS hl hs hk => ?_) ?_
            · have e106 : a.tmps.getD 106 undef = (.slice A1 m1 c1 : Value) := (sk_val hk 8 (by kernel_rfl) rfl rfl).trans ((hk.1 8 (by kernel_rfl)).1)
              have f106 := gd e106
              have e107 : a.tmps.getD 107 undef = (.slice A2 m2 c2 : Value) := (sk_val hk 9 (by kernel_rfl) rfl rfl).trans ((hk.1 9 (by kernel_rfl)).1)
              have f107 := gd e107
              have h2 : σ[5]? = some (.lines (.slice A1 m1 c1) G1) := hs 5 (by decide)
              have h3 : σ[4]? = some (.lines (.slice A2 m2 c2) G1) := hs 4 (by decide)
              exact ro_call (f := 22) (wanted_yes rfl rfl rfl (show _ = _ from (sk_val hk 7 (by kernel_rfl) rfl rfl).trans ((hk.1 7 (by kernel_rfl)).1))) rfl (by simp only [List.map_toArray, List.map_cons, List.map_nil, Act.eval, e106, e107] <;> rfl) (fun _ _ => by kernel_rfl) ((same_yes hS (sg h2) (sg h3) HG1.out.1 HG1.out.2).mono fun e w2 ⟨h1, h2⟩ => ⟨_, h1, sp_same (by kernel_rfl) hl hs h2 rfl, trivial⟩)
            refine SSteps.cons (fun a w' vs σ hS hl hs hk => ?_) ?_
            · have e108 : a.tmps.getD 108 undef = (.bool true : Value) := (sk_val hk 10 (by kernel_rfl) rfl rfl).trans ((hk.1 10 (by kernel_rfl)).1)
              have f108 := gd e108
              exact ro_pure (v := .bool false) (wanted_yes rfl rfl rfl (show _ = _ from (sk_val hk 7 (by kernel_rfl) rfl rfl).trans ((hk.1 7 (by kernel_rfl)).1))) (by simp [execOp, Act.eval, e108, f108, go_sem]) (sp_same (by kernel_rfl) hl hs hS (show (.bool false : Value) = _ from rfl)) trivial
            refine SSteps.cons (fun a w' vs σ hS hl hs hk => ?_) ?_
            · have e105 : a.tmps.getD 105 undef = (.bool false : Value) := (sk_val hk 7 (by kernel_rfl) rfl rfl).trans ((hk.1 7 (by kernel_rfl)).1)
              have f105 := gd e105
              have e109 : a.tmps.getD 109 undef = (.bool false : Value) := (sk_val hk 11 (by kernel_rfl) rfl rfl).trans ((hk.1 11 (by kernel_rfl)).1)
              have f109 := gd e109
              exact ro_pure (v := .bool false) (wanted_none rfl) (by simp [execOp, Act.eval, e105, f105, e109, f109, go_sem]) (sp_same (by kernel_rfl) hl hs hS (show (.bool false : Value) = _ from rfl)) trivial
            refine SSteps.cons (fun a w' vs σ hS hl hs hk => ?_) ?_
            · have e110 : a.tmps.getD 110 undef = (.bool false : Value) := (sk_val hk 12 (by kernel_rfl) rfl rfl).trans ((hk.1 12 (by kernel_rfl)).1)
              have f110 := gd e110
              exact ro_pure (v := .bool false) (wanted_none rfl) (by simp [execOp, Act.eval, e110, f110, go_sem]) (sp_same (by kernel_rfl) hl hs hS (show (.bool false : Value) = _ from rfl)) trivial
            refine SSteps.cons (fun a w' vs σ hS hl hs hk => ?_) ?_
            · have e15 : a.tmps.getD 15 undef = (.pointer (some ⟨p, 0, none⟩) : Value) := (sk_old hk 15 (by kernel_rfl)).trans rfl
              have f15 := gd e15
              exact ro_pure (v := .pointer (some ⟨p, 0, none⟩)) (wanted_yes rfl rfl rfl (show _ = _ from (sk_val hk 13 (by kernel_rfl) rfl rfl).trans ((hk.1 13 (by kernel_rfl)).1))) (by simp [execOp, Act.eval, e15, f15, go_sem]) (sp_same (by kernel_rfl) hl hs hS (show (.pointer (some ⟨p, 0, none⟩) : Value) = _ from rfl)) trivial
            refine SSteps.cons (fun a w' vs σ hS hl hs hk => ?_) ?_
            · have e112 : a.tmps.getD 112 undef = (.pointer (some ⟨p, 0, none⟩) : Value) := (sk_val hk 14 (by kernel_rfl) rfl rfl).trans ((hk.1 14 (by kernel_rfl)).1)
              have f112 := gd e112
              have h0 : σ[0]? = some (.grid p 37 ↑s L1) := hs 0 (by decide)
              have hn : σ[2]? = some .none := hs 2 (by decide)
              exact ro_call (f := 23) (wanted_yes rfl rfl rfl (show _ = _ from (sk_val hk 13 (by kernel_rfl) rfl rfl).trans ((hk.1 13 (by kernel_rfl)).1))) rfl (by simp only [List.map_toArray, List.map_cons, List.map_nil, Act.eval, e112] <;> rfl) (fun _ _ => by kernel_rfl) ((Lines_any hS (sg h0) hc0 HM1.out hLm16).mono fun e w2 ⟨x, h1, h2⟩ => ⟨_, h1, sp_set 2 (.lines x L1) (by kernel_rfl) (by simp) (by decide) hl hs (by rfl) (h2.place (sg hn)) (by obtain ⟨A, c, e, -⟩ := h2.linesRd (k := 0) rfl; exact ⟨A, c, e⟩), trivial⟩)
            refine SSteps.cons (fun a w' vs σ hS hl hs hk => ?_) ?_
            · have e16 : a.tmps.getD 16 undef = (.pointer (some ⟨x, 0, none⟩) : Value) := (sk_old hk 16 (by kernel_rfl)).trans rfl
              have f16 := gd e16
              exact ro_pure (v := .pointer (some ⟨x, 0, none⟩)) (wanted_yes rfl rfl rfl (show _ = _ from (sk_val hk 13 (by kernel_rfl) rfl rfl).trans ((hk.1 13 (by kernel_rfl)).1))) (by simp [execOp, Act.eval, e16, f16, go_sem]) (sp_same (by kernel_rfl) hl hs hS (show (.pointer (some ⟨x, 0, none⟩) : Value) = _ from rfl)) trivial
            refine SSteps.cons (fun a w' vs σ hS hl hs hk => ?_) ?_
            · have e114 : a.tmps.getD 114 undef = (.pointer (some ⟨x, 0, none⟩) : Value) := (sk_val hk 16 (by kernel_rfl) rfl rfl).trans ((hk.1 16 (by kernel_rfl)).1)
              have f114 := gd e114
              exact ro_pure (v := .pointer (some ⟨x, 0, none⟩)) (wanted_yes rfl rfl rfl (show _ = _ from (sk_val hk 13 (by kernel_rfl) rfl rfl).trans ((hk.1 13 (by kernel_rfl)).1))) (by simp [execOp, Act.eval, e114, f114, go_sem]) (sp_same (by kernel_rfl) hl hs hS (show (.pointer (some ⟨x, 0, none⟩) : Value) = _ from rfl)) trivial
            refine SSteps.cons (fun a w' vs σ hS hl hs hk => ?_) ?_
            · have e115 : a.tmps.getD 115 undef = (.pointer (some ⟨x, 0, none⟩) : Value) := (sk_val hk 17 (by kernel_rfl) rfl rfl).trans ((hk.1 17 (by kernel_rfl)).1)
              have f115 := gd e115
              exact ro_pure (v := .pointer (some ⟨x, 1, none⟩)) (wanted_yes rfl rfl rfl (show _ = _ from (sk_val hk 13 (by kernel_rfl) rfl rfl).trans ((hk.1 13 (by kernel_rfl)).1))) (by simp [execOp, Act.eval, e115, f115, go_sem]) (sp_same (by kernel_rfl) hl hs hS (show (.pointer (some ⟨x, 1, none⟩) : Value) = _ from rfl)) trivial
            refine SSteps.cons (fun a w' vs σ hS hl hs hk => ?_) ?_
            · have e116 : a.tmps.getD 116 undef = (.pointer (some ⟨x, 1, none⟩) : Value) := (sk_val hk 18 (by kernel_rfl) rfl rfl).trans ((hk.1 18 (by kernel_rfl)).1)
              have f116 := gd e116
              have h1 : σ[1]? = some (.grid x 63 ↑s L1) := hs 1 (by decide)
              have hn : σ[3]? = some .none := hs 3 (by decide)
              obtain ⟨vL, hO⟩ := hS.openGrid (sg h1)
              obtain ⟨A5, c5, q5, -, -⟩ := hO.linesRd (k := 0) rfl
              subst q5
              have hx := (hO.box (k := 2) (show (_ :: List.set _ _ _)[2]? = _ from set_at (sg h1))).cell
              have hO2 := hO.place (k := 3) (by rw [List.getElem?_set_ne (by decide)]; exact sg hn)
              exact rs_run (v' := .slice A5 (L1).length c5) (w' := w') (wanted_yes rfl rfl rfl (show _ = _ from (sk_val hk 13 (by kernel_rfl) rfl rfl).trans ((hk.1 13 (by kernel_rfl)).1))) (by simp [execOp, Act.eval, e116, f116, go_sem, hx]) (sp_set2 1 3 _ _ (by decide) (by kernel_rfl) (by simp) (by simp) (by decide) (by decide) hl hs (by rfl) (by rfl) hO2 ⟨A5, c5, rfl⟩)
            refine SSteps.cons (fun a w' vs σ hS hl hs hk => ?_) ?_
            · have e113 : a.tmps.getD 113 undef = vs 15 := sk_val hk 15 (by kernel_rfl) rfl rfl
              have p113 : (fun u : Value => ∃ A c, u = .slice A (L1).length c) (vs 15) := (hk.1 15 (by kernel_rfl)).1
              have f113 := gd e113
              have e117 : a.tmps.getD 117 undef = vs 19 := sk_val hk 19 (by kernel_rfl) rfl rfl
              have p117 : (fun u : Value => ∃ A c, u = .slice A (L1).length c) (vs 19) := (hk.1 19 (by kernel_rfl)).1
              have f117 := gd e117
              obtain ⟨A1, c1, q1⟩ := p113
              obtain ⟨A2, c2, q2⟩ := p117
              have h2 : σ[2]? = some (.lines (vs 15) L1) := hs 2 (by decide)
              have h3 : σ[3]? = some (.lines (vs 19) L1) := hs 3 (by decide)
              rw [q1] at h2
              rw [q2] at h3
              have hr1 := (hS.linesRd' (sg h2)).2.2
              have hr2 := (hS.linesRd' (sg h3)).2.2
              have hcon := r14SameLines_any A1 A2 c1 c2 L1 L1 w' hr1 hr2 hLm16 hLm16 HM1.out HM1.out
              rw [show decide (L1 = L1) = true by simp] at hcon
              exact ro_call (f := 22) (wanted_yes rfl rfl rfl (show _ = _ from (sk_val hk 13 (by kernel_rfl) rfl rfl).trans ((hk.1 13 (by kernel_rfl)).1))) rfl (by simp only [List.map_toArray, List.map_cons, List.map_nil, Act.eval, e113, e117, q1, q2] <;> rfl) (fun _ _ => by kernel_rfl) (hcon.mono fun e w2 ⟨h1, h2⟩ => ⟨_, h1, sp_same (by kernel_rfl) hl hs (hS.bel h2) rfl, trivial⟩)
            refine SSteps.cons (fun a w' vs σ hS hl hs hk => ?_) ?_
            · have e118 : a.tmps.getD 118 undef = (.bool true : Value) := (sk_val hk 20 (by kernel_rfl) rfl rfl).trans ((hk.1 20 (by kernel_rfl)).1)
              have f118 := gd e118
              exact ro_pure (v := .bool false) (wanted_yes rfl rfl rfl (show _ = _ from (sk_val hk 13 (by kernel_rfl) rfl rfl).trans ((hk.1 13 (by kernel_rfl)).1))) (by simp [execOp, Act.eval, e118, f118, go_sem]) (sp_same (by kernel_rfl) hl hs hS (show (.bool false : Value) = _ from rfl)) trivial
            refine SSteps.cons (fun a w' vs σ hS hl hs hk => ?_) ?_
            · have e111 : a.tmps.getD 111 undef = (.bool false : Value) := (sk_val hk 13 (by kernel_rfl) rfl rfl).trans ((hk.1 13 (by kernel_rfl)).1)
              have f111 := gd e111
              have e119 : a.tmps.getD 119 undef = (.bool false : Value) := (sk_val hk 21 (by kernel_rfl) rfl rfl).trans ((hk.1 21 (by kernel_rfl)).1)
              have f119 := gd e119
              exact ro_pure (v := .bool false) (wanted_none rfl) (by simp [execOp, Act.eval, e111, f111, e119, f119, go_sem]) (sp_same (by kernel_rfl) hl hs hS (show (.bool false : Value) = _ from rfl)) trivial
            exact SSteps.nil
          · intro vs w' hS hv
            have q0 := (show vs 0 = (.agg #[.int .i64 ↑row1, .int .i64 0, .bool false] : Value) from hv 0 (by decide))
            have q1 := (show vs 1 = (.agg #[.int .i64 ↑row1, .int .i64 0, .bool false] : Value) from hv 1 (by decide))
            have q2 := (show vs 2 = (.bool false : Value) from hv 2 (by decide))
            have q3 := (show vs 3 = (.bool false : Value) from hv 3 (by decide))
            have q4 := (show vs 4 = (.int .i64 0 : Value) from hv 4 (by decide))
            have q5 := (show vs 5 = (.bool false : Value) from hv 5 (by decide))
            have q6 := (show vs 6 = (.bool false : Value) from hv 6 (by decide))
            have q7 := (show vs 7 = (.bool false : Value) from hv 7 (by decide))
            have q8 := (show vs 8 = (.slice A1 m1 c1 : Value) from hv 8 (by decide))
            have q9 := (show vs 9 = (.slice A2 m2 c2 : Value) from hv 9 (by decide))
            have q10 := (show vs 10 = (.bool true : Value) from hv 10 (by decide))
            have q11 := (show vs 11 = (.bool false : Value) from hv 11 (by decide))
            have q12 := (show vs 12 = (.bool false : Value) from hv 12 (by decide))
            have q13 := (show vs 13 = (.bool false : Value) from hv 13 (by decide))
            have q14 := (show vs 14 = (.pointer (some ⟨p, 0, none⟩) : Value) from hv 14 (by decide))
            have q16 := (show vs 16 = (.pointer (some ⟨x, 0, none⟩) : Value) from hv 16 (by decide))
            have q17 := (show vs 17 = (.pointer (some ⟨x, 0, none⟩) : Value) from hv 17 (by decide))
            have q18 := (show vs 18 = (.pointer (some ⟨x, 1, none⟩) : Value) from hv 18 (by decide))
            have q20 := (show vs 20 = (.bool true : Value) from hv 20 (by decide))
            have q21 := (show vs 21 = (.bool false : Value) from hv 21 (by decide))
            have q22 := (show vs 22 = (.bool false : Value) from hv 22 (by decide))
            obtain ⟨A9, c9, q9⟩ := (show ∃ A c, vs 15 = .slice A (L1).length c from hv 15 (by decide))
            obtain ⟨A8, c8, q8⟩ := (show ∃ A c, vs 19 = .slice A (L1).length c from hv 19 (by decide))
            have S2 := Lib.hid hS
            simp only [putL, Act.put, Nat.zero_add, Nat.reduceAdd, List.setIfInBounds_toArray, List.set_cons_succ, List.set_cons_zero, q0, q1, q2, q3, q4, q5, q6, q7, q8, q9, q10, q11, q12, q13, q14, q16, q17, q18, q20, q21, q22]
            clear hS hv q0 q1 q2 q3 q4 q5 q6 q7 q8 q9 q10 q11 q12 q13 q14 q16 q17 q18 q20 q21 q22
            simp only [q9, q8]
            have S8 := Lib.hid (close_rows19 S2.out)
            clear S2 SZ
            go_wp2_with fail
            go_roundw
            case rel => exact ⟨i + 1, row1, L1, by omega, by go_num, ⟨hr1, HR1.out, hlen1⟩, (((S8.out.del 2).del 2).del 2).del 2⟩
            case measure => simp [intOf]; omega
        · have hdd : decide ((i : Int) < (D : Int)) = false := decide_eq_false (by omega)
          obtain ⟨L1, hL1⟩ : ∃ L1, L1 = rvL top bot row pen0 s L0 := ⟨_, rfl⟩
          obtain ⟨row1, hrow1⟩ : ∃ r1, r1 = rvRow top row := ⟨_, rfl⟩
          have hN := rvL_rect (row := row) (q := pen0) HR0.out htb hbl
          rw [← hL1] at hN
          have HR1 := Lib.hid hN.1
          have hlen1 : L1.length = rr := hN.2.trans hlen0
          have hr1 : row1 < rr := by rw [hrow1, ← hlen0]; exact rvRow_lt hrl
          have hLm16 : L1.length ≤ 1000000 := by omega
          have HM1 := Lib.hid (HR1.out.mill hcm0)
          have HL1 := Lib.hid hL1.symm
          have HROW1 := Lib.hid hrow1.symm
          clear hL1 hrow1 hN
          obtain ⟨hx11, hf11, hz11⟩ := (S.out.box (k := 4) rfl).facts
          obtain ⟨hx17, hf17, hz17⟩ := (S.out.box (k := 3) rfl).facts
          have hwd := HWD.out
          have hwu := HWU.out
          have hwa := HWA.out
          go_wp2_with fail
          clear hwd hwu hwa
          have hcon := Reverse_yes (row := row) (col := 0) (pend := false) pen0 HT.out S.out (k := 0) rfl hcm0 hLm1 htb hbl (by decide +kernel) HIN.out
          rw [HL1.out, HROW1.out] at hcon
          refine (show Calls Tryd.prog 14 #[.pointer (some ⟨p, 0, none⟩), .agg #[.int .i64 ↑top, .int .i64 ↑bot], .agg #[.int .i64 ↑row, .int .i64 0, .bool false], .agg (pv pen0)] _ _ from hcon).mono ?_
          clear hcon
          rintro e w2 ⟨rfl, hS⟩
          have S4 := Lib.hid (show Objs w w2 [.grid p 37 ↑s L1, .grid x 63 ↑s L0, .box b18 25 #[.int .i64 ↑row, .int .i64 0, .bool false], .box b17 25 #[.int .i64 ↑row, .int .i64 0, .bool false], .box b11 23 #[.int .i64 ↑top, .int .i64 ↑bot]] from hS)
          clear hS S hx11 hf11 hz11 hx17 hf17 hz17
          obtain ⟨hx17, hf17, hz17⟩ := (S4.out.box (k := 3) rfl).facts
          go_upto_region 16 with (fail)
          refine at_objsC (S4.out.setBox3 (u := .int .i64 row1) (v := .int .i64 0) (x := .bool false) (k := 3) rfl) (fun W5 hW => ?_)
          clear hx17 hf17 hz17
          have S5 := Lib.hid (show Objs w W5 [.grid p 37 ↑s L1, .grid x 63 ↑s L0, .box b18 25 #[.int .i64 ↑row, .int .i64 0, .bool false], .box b17 25 #[.int .i64 ↑row1, .int .i64 0, .bool false], .box b11 23 #[.int .i64 ↑top, .int .i64 ↑bot]] from hW)
          clear hW S4
          obtain ⟨hx11, hf11, hz11⟩ := (S5.out.box (k := 4) rfl).facts
          obtain ⟨hx18, hf18, hz18⟩ := (S5.out.box (k := 2) rfl).facts
          go_wp2_with fail
          have hcon := r19Reverse_any (row := row) (col := 0) (pend := false) pen0 S5.out (k := 1) rfl hcm0 hLm1 HR0.out htb hbl hrl
          rw [HL1.out, HROW1.out] at hcon
          refine (show Calls Tryd.prog 29 #[.pointer (some ⟨x, 0, none⟩), .agg #[.int .i64 ↑top, .int .i64 ↑bot], .agg #[.int .i64 ↑row, .int .i64 0, .bool false], .agg (pv pen0)] _ _ from hcon).mono ?_
          clear hcon
          rintro e w3 ⟨rfl, hS⟩
          have S6 := Lib.hid (show Objs w w3 [.grid p 37 ↑s L1, .grid x 63 ↑s L1, .box b18 25 #[.int .i64 ↑row, .int .i64 0, .bool false], .box b17 25 #[.int .i64 ↑row1, .int .i64 0, .bool false], .box b11 23 #[.int .i64 ↑top, .int .i64 ↑bot]] from hS)
          clear hS S5 hx11 hf11 hz11 hx18 hf18 hz18
          obtain ⟨hx18, hf18, hz18⟩ := (S6.out.box (k := 2) rfl).facts
          go_upto_region 17 with (fail)
          refine at_objsC (S6.out.setBox3 (u := .int .i64 row1) (v := .int .i64 0) (x := .bool false) (k := 2) rfl) (fun W7 hW => ?_)
          clear hx18 hf18 hz18 S6
          have SZ := Lib.hid (show Objs w W7 [.grid p 37 ↑s L1, .grid x 63 ↑s L1, .none, .none, .box b18 25 #[.int .i64 ↑row1, .int .i64 0, .bool false], .box b17 25 #[.int .i64 ↑row1, .int .i64 0, .bool false], .box b11 23 #[.int .i64 ↑top, .int .i64 ↑bot]] from (show Objs w W7 (.grid p 37 ↑s L1 :: .grid x 63 ↑s L1 :: [.box b18 25 #[.int .i64 ↑row1, .int .i64 0, .bool false], .box b17 25 #[.int .i64 ↑row1, .int .i64 0, .bool false], .box b11 23 #[.int .i64 ↑top, .int .i64 ↑bot]]) from hW).addNone2)
          clear hW
          refine wp_region_stage (w0 := w) (os := []) (by kernel_rfl) (by kernel_rfl) (by kernel_rfl) [(2, 15, [15], fun vs => .lines (vs 15) L1), (1, 19, [19], fun vs => .box x 63 #[.int .i64 ↑s, vs 19]), (3, 19, [19], fun vs => .lines (vs 19) L1)] [[5], [4], [], [], [], [], [], [], [], [], [], [], [], [], [], [0, 2], [], [], [], [1, 3], [2, 3], [], []] [.grid p 37 ↑s L1, .grid x 63 ↑s L1, .none, .none, .box b18 25 #[.int .i64 ↑row1, .int .i64 0, .bool false], .box b17 25 #[.int .i64 ↑row1, .int .i64 0, .bool false], .box b11 23 #[.int .i64 ↑top, .int .i64 ↑bot]] (fun i u => match i with | 0 => u = (.agg #[.int .i64 ↑row1, .int .i64 0, .bool false] : Value) | 1 => u = (.agg #[.int .i64 ↑row1, .int .i64 0, .bool false] : Value) | 2 => u = (.bool false : Value) | 3 => u = (.bool false : Value) | 4 => u = (.int .i64 0 : Value) | 5 => u = (.bool false : Value) | 6 => u = (.bool false : Value) | 7 => u = (.bool false : Value) | 8 => u = (.slice none 0 0 : Value) | 9 => u = (.slice none 0 0 : Value) | 10 => u = (.bool true : Value) | 11 => u = (.bool false : Value) | 12 => u = (.bool false : Value) | 13 => u = (.bool false : Value) | 14 => u = (.pointer (some ⟨p, 0, none⟩) : Value) | 15 => ∃ A c, u = .slice A (L1).length c | 16 => u = (.pointer (some ⟨x, 0, none⟩) : Value) | 17 => u = (.pointer (some ⟨x, 0, none⟩) : Value) | 18 => u = (.pointer (some ⟨x, 1, none⟩) : Value) | 19 => ∃ A c, u = .slice A (L1).length c | 20 => u = (.bool true : Value) | 21 => u = (.bool false : Value) | 22 => u = (.bool false : Value) | _ => True) (fun vs => [.grid p 37 ↑s L1, .box x 63 #[.int .i64 ↑s, vs 19], .lines (vs 15) L1, .lines (vs 19) L1, .box b18 25 #[.int .i64 ↑row1, .int .i64 0, .bool false], .box b17 25 #[.int .i64 ↑row1, .int .i64 0, .bool false], .box b11 23 #[.int .i64 ↑top, .int .i64 ↑bot]]) (by kernel_rfl) (fun vs => by rfl) SZ.out ?_ ?_
          · refine SSteps.cons (fun a w' vs σ hS hl hs hk => ?_) ?_
            · have e17 : a.tmps.getD 17 undef = (.pointer (some ⟨b17, 0, none⟩) : Value) := (sk_old hk 17 (by kernel_rfl)).trans rfl
              have f17 := gd e17
              have hx := (hS.box (sg (hs 5 (by decide)))).cell
              exact ro_pure (v := .agg #[.int .i64 ↑row1, .int .i64 0, .bool false]) (wanted_none rfl) (by simp [execOp, Act.eval, e17, f17, go_sem, hx]) (sp_same (by kernel_rfl) hl hs hS (show (.agg #[.int .i64 ↑row1, .int .i64 0, .bool false] : Value) = _ from rfl)) trivial
            refine SSteps.cons (fun a w' vs σ hS hl hs hk => ?_) ?_
            · have e18 : a.tmps.getD 18 undef = (.pointer (some ⟨b18, 0, none⟩) : Value) := (sk_old hk 18 (by kernel_rfl)).trans rfl
              have f18 := gd e18
              have hx := (hS.box (sg (hs 4 (by decide)))).cell
              exact ro_pure (v := .agg #[.int .i64 ↑row1, .int .i64 0, .bool false]) (wanted_none rfl) (by simp [execOp, Act.eval, e18, f18, go_sem, hx]) (sp_same (by kernel_rfl) hl hs hS (show (.agg #[.int .i64 ↑row1, .int .i64 0, .bool false] : Value) = _ from rfl)) trivial
            refine SSteps.cons (fun a w' vs σ hS hl hs hk => ?_) ?_
            · have e98 : a.tmps.getD 98 undef = (.agg #[.int .i64 ↑row1, .int .i64 0, .bool false] : Value) := (sk_val hk 0 (by kernel_rfl) rfl rfl).trans ((hk.1 0 (by kernel_rfl)).1)
              have f98 := gd e98
              have e99 : a.tmps.getD 99 undef = (.agg #[.int .i64 ↑row1, .int .i64 0, .bool false] : Value) := (sk_val hk 1 (by kernel_rfl) rfl rfl).trans ((hk.1 1 (by kernel_rfl)).1)
              have f99 := gd e99
              exact ro_pure (v := .bool false) (wanted_none rfl) (by simp [execOp, Act.eval, e98, f98, e99, f99, go_sem]) (sp_same (by kernel_rfl) hl hs hS (show (.bool false : Value) = _ from rfl)) trivial
            refine SSteps.cons (fun a w' vs σ hS hl hs hk => ?_) ?_
            · have e100 : a.tmps.getD 100 undef = (.bool false : Value) := (sk_val hk 2 (by kernel_rfl) rfl rfl).trans ((hk.1 2 (by kernel_rfl)).1)
              have f100 := gd e100
              exact ro_pure (v := .bool false) (wanted_none rfl) (by simp [execOp, Act.eval, e100, f100, go_sem]) (sp_same (by kernel_rfl) hl hs hS (show (.bool false : Value) = _ from rfl)) trivial
            refine SSteps.cons (fun a w' vs σ hS hl hs hk => ?_) ?_
            · have e20 : a.tmps.getD 20 undef = (.int .i64 0 : Value) := (sk_old hk 20 (by kernel_rfl)).trans rfl
              have f20 := gd e20
              exact ro_pure (v := .int .i64 0) (wanted_yes rfl rfl rfl (show _ = _ from (sk_val hk 3 (by kernel_rfl) rfl rfl).trans ((hk.1 3 (by kernel_rfl)).1))) (by simp [execOp, Act.eval, e20, f20, go_sem]) (sp_same (by kernel_rfl) hl hs hS (show (.int .i64 0 : Value) = _ from rfl)) trivial
            refine SSteps.cons (fun a w' vs σ hS hl hs hk => ?_) ?_
            · have e102 : a.tmps.getD 102 undef = (.int .i64 0 : Value) := (sk_val hk 4 (by kernel_rfl) rfl rfl).trans ((hk.1 4 (by kernel_rfl)).1)
              have f102 := gd e102
              exact ro_pure (v := .bool false) (wanted_yes rfl rfl rfl (show _ = _ from (sk_val hk 3 (by kernel_rfl) rfl rfl).trans ((hk.1 3 (by kernel_rfl)).1))) (by simp [execOp, Act.eval, e102, f102, go_sem]) (sp_same (by kernel_rfl) hl hs hS (show (.bool false : Value) = _ from rfl)) trivial
            refine SSteps.cons (fun a w' vs σ hS hl hs hk => ?_) ?_
            · have e101 : a.tmps.getD 101 undef = (.bool false : Value) := (sk_val hk 3 (by kernel_rfl) rfl rfl).trans ((hk.1 3 (by kernel_rfl)).1)
              have f101 := gd e101
              have e103 : a.tmps.getD 103 undef = (.bool false : Value) := (sk_val hk 5 (by kernel_rfl) rfl rfl).trans ((hk.1 5 (by kernel_rfl)).1)
              have f103 := gd e103
              exact ro_pure (v := .bool false) (wanted_none rfl) (by simp [execOp, Act.eval, e101, f101, e103, f103, go_sem]) (sp_same (by kernel_rfl) hl hs hS (show (.bool false : Value) = _ from rfl)) trivial
            refine SSteps.cons (fun a w' vs σ hS hl hs hk => ?_) ?_
            · have e104 : a.tmps.getD 104 undef = (.bool false : Value) := (sk_val hk 6 (by kernel_rfl) rfl rfl).trans ((hk.1 6 (by kernel_rfl)).1)
              have f104 := gd e104
              exact ro_pure (v := .bool false) (wanted_none rfl) (by simp [execOp, Act.eval, e104, f104, go_sem]) (sp_same (by kernel_rfl) hl hs hS (show (.bool false : Value) = _ from rfl)) trivial
            refine SSteps.cons (fun a w' vs σ hS hl hs hk => ?_) ?_
            · have e21 : a.tmps.getD 21 undef = (.slice none 0 0 : Value) := (sk_old hk 21 (by kernel_rfl)).trans rfl
              have f21 := gd e21
              exact ro_pure (v := .slice none 0 0) (wanted_yes rfl rfl rfl (show _ = _ from (sk_val hk 7 (by kernel_rfl) rfl rfl).trans ((hk.1 7 (by kernel_rfl)).1))) (by simp [execOp, Act.eval, e21, f21, go_sem]) (sp_same (by kernel_rfl) hl hs hS (show (.slice none 0 0 : Value) = _ from rfl)) trivial
            refine SSteps.cons (fun a w' vs σ hS hl hs hk => ?_) ?_
            · have e22 : a.tmps.getD 22 undef = (.slice none 0 0 : Value) := (sk_old hk 22 (by kernel_rfl)).trans rfl
              have f22 := gd e22
              exact ro_pure (v := .slice none 0 0) (wanted_yes rfl rfl rfl (show _ = _ from (sk_val hk 7 (by kernel_rfl) rfl rfl).trans ((hk.1 7 (by kernel_rfl)).1))) (by simp [execOp, Act.eval, e22, f22, go_sem]) (sp_same (by kernel_rfl) hl hs hS (show (.slice none 0 0 : Value) = _ from rfl)) trivial
            refine SSteps.cons (fun a w' vs σ hS hl hs hk => ?_) ?_
            · have e106 : a.tmps.getD 106 undef = (.slice none 0 0 : Value) := (sk_val hk 8 (by kernel_rfl) rfl rfl).trans ((hk.1 8 (by kernel_rfl)).1)
              have f106 := gd e106
              have e107 : a.tmps.getD 107 undef = (.slice none 0 0 : Value) := (sk_val hk 9 (by kernel_rfl) rfl rfl).trans ((hk.1 9 (by kernel_rfl)).1)
              have f107 := gd e107
              exact ro_call (f := 22) (wanted_yes rfl rfl rfl (show _ = _ from (sk_val hk 7 (by kernel_rfl) rfl rfl).trans ((hk.1 7 (by kernel_rfl)).1))) rfl (by simp only [List.map_toArray, List.map_cons, List.map_nil, Act.eval, e106, e107] <;> rfl) (fun _ _ => by kernel_rfl) ((nil_same w').mono fun e w2 ⟨h1, h2⟩ => ⟨_, h1, sp_same (by kernel_rfl) hl hs (hS.bel h2) rfl, trivial⟩)
            refine SSteps.cons (fun a w' vs σ hS hl hs hk => ?_) ?_
            · have e108 : a.tmps.getD 108 undef = (.bool true : Value) := (sk_val hk 10 (by kernel_rfl) rfl rfl).trans ((hk.1 10 (by kernel_rfl)).1)
              have f108 := gd e108
              exact ro_pure (v := .bool false) (wanted_yes rfl rfl rfl (show _ = _ from (sk_val hk 7 (by kernel_rfl) rfl rfl).trans ((hk.1 7 (by kernel_rfl)).1))) (by simp [execOp, Act.eval, e108, f108, go_sem]) (sp_same (by kernel_rfl) hl hs hS (show (.bool false : Value) = _ from rfl)) trivial
            refine SSteps.cons (fun a w' vs σ hS hl hs hk => ?_) ?_
            · have e105 : a.tmps.getD 105 undef = (.bool false : Value) := (sk_val hk 7 (by kernel_rfl) rfl rfl).trans ((hk.1 7 (by kernel_rfl)).1)
              have f105 := gd e105
              have e109 : a.tmps.getD 109 undef = (.bool false : Value) := (sk_val hk 11 (by kernel_rfl) rfl rfl).trans ((hk.1 11 (by kernel_rfl)).1)
              have f109 := gd e109
              exact ro_pure (v := .bool false) (wanted_none rfl) (by simp [execOp, Act.eval, e105, f105, e109, f109, go_sem]) (sp_same (by kernel_rfl) hl hs hS (show (.bool false : Value) = _ from rfl)) trivial
            refine SSteps.cons (fun a w' vs σ hS hl hs hk => ?_) ?_
            · have e110 : a.tmps.getD 110 undef = (.bool false : Value) := (sk_val hk 12 (by kernel_rfl) rfl rfl).trans ((hk.1 12 (by kernel_rfl)).1)
              have f110 := gd e110
              exact ro_pure (v := .bool false) (wanted_none rfl) (by simp [execOp, Act.eval, e110, f110, go_sem]) (sp_same (by kernel_rfl) hl hs hS (show (.bool false : Value) = _ from rfl)) trivial
            refine SSteps.cons (fun a w' vs σ hS hl hs hk => ?_) ?_
            · have e15 : a.tmps.getD 15 undef = (.pointer (some ⟨p, 0, none⟩) : Value) := (sk_old hk 15 (by kernel_rfl)).trans rfl
              have f15 := gd e15
              exact ro_pure (v := .pointer (some ⟨p, 0, none⟩)) (wanted_yes rfl rfl rfl (show _ = _ from (sk_val hk 13 (by kernel_rfl) rfl rfl).trans ((hk.1 13 (by kernel_rfl)).1))) (by simp [execOp, Act.eval, e15, f15, go_sem]) (sp_same (by kernel_rfl) hl hs hS (show (.pointer (some ⟨p, 0, none⟩) : Value) = _ from rfl)) trivial
            refine SSteps.cons (fun a w' vs σ hS hl hs hk => ?_) ?_
            · have e112 : a.tmps.getD 112 undef = (.pointer (some ⟨p, 0, none⟩) : Value) := (sk_val hk 14 (by kernel_rfl) rfl rfl).trans ((hk.1 14 (by kernel_rfl)).1)
              have f112 := gd e112
              have h0 : σ[0]? = some (.grid p 37 ↑s L1) := hs 0 (by decide)
              have hn : σ[2]? = some .none := hs 2 (by decide)
              exact ro_call (f := 23) (wanted_yes rfl rfl rfl (show _ = _ from (sk_val hk 13 (by kernel_rfl) rfl rfl).trans ((hk.1 13 (by kernel_rfl)).1))) rfl (by simp only [List.map_toArray, List.map_cons, List.map_nil, Act.eval, e112] <;> rfl) (fun _ _ => by kernel_rfl) ((Lines_any hS (sg h0) hc0 HM1.out hLm16).mono fun e w2 ⟨x, h1, h2⟩ => ⟨_, h1, sp_set 2 (.lines x L1) (by kernel_rfl) (by simp) (by decide) hl hs (by rfl) (h2.place (sg hn)) (by obtain ⟨A, c, e, -⟩ := h2.linesRd (k := 0) rfl; exact ⟨A, c, e⟩), trivial⟩)
            refine SSteps.cons (fun a w' vs σ hS hl hs hk => ?_) ?_
            · have e16 : a.tmps.getD 16 undef = (.pointer (some ⟨x, 0, none⟩) : Value) := (sk_old hk 16 (by kernel_rfl)).trans rfl
              have f16 := gd e16
              exact ro_pure (v := .pointer (some ⟨x, 0, none⟩)) (wanted_yes rfl rfl rfl (show _ = _ from (sk_val hk 13 (by kernel_rfl) rfl rfl).trans ((hk.1 13 (by kernel_rfl)).1))) (by simp [execOp, Act.eval, e16, f16, go_sem]) (sp_same (by kernel_rfl) hl hs hS (show (.pointer (some ⟨x, 0, none⟩) : Value) = _ from rfl)) trivial
            refine SSteps.cons (fun a w' vs σ hS hl hs hk => ?_) ?_
            · have e114 : a.tmps.getD 114 undef = (.pointer (some ⟨x, 0, none⟩) : Value) := (sk_val hk 16 (by kernel_rfl) rfl rfl).trans ((hk.1 16 (by kernel_rfl)).1)
              have f114 := gd e114
              exact ro_pure (v := .pointer (some ⟨x, 0, none⟩)) (wanted_yes rfl rfl rfl (show _ = _ from (sk_val hk 13 (by kernel_rfl) rfl rfl).trans ((hk.1 13 (by kernel_rfl)).1))) (by simp [execOp, Act.eval, e114, f114, go_sem]) (sp_same (by kernel_rfl) hl hs hS (show (.pointer (some ⟨x, 0, none⟩) : Value) = _ from rfl)) trivial
            refine SSteps.cons (fun a w' vs σ hS hl hs hk => ?_) ?_
            · have e115 : a.tmps.getD 115 undef = (.pointer (some ⟨x, 0, none⟩) : Value) := (sk_val hk 17 (by kernel_rfl) rfl rfl).trans ((hk.1 17 (by kernel_rfl)).1)
              have f115 := gd e115
              exact ro_pure (v := .pointer (some ⟨x, 1, none⟩)) (wanted_yes rfl rfl rfl (show _ = _ from (sk_val hk 13 (by kernel_rfl) rfl rfl).trans ((hk.1 13 (by kernel_rfl)).1))) (by simp [execOp, Act.eval, e115, f115, go_sem]) (sp_same (by kernel_rfl) hl hs hS (show (.pointer (some ⟨x, 1, none⟩) : Value) = _ from rfl)) trivial
            refine SSteps.cons (fun a w' vs σ hS hl hs hk => ?_) ?_
            · have e116 : a.tmps.getD 116 undef = (.pointer (some ⟨x, 1, none⟩) : Value) := (sk_val hk 18 (by kernel_rfl) rfl rfl).trans ((hk.1 18 (by kernel_rfl)).1)
              have f116 := gd e116
              have h1 : σ[1]? = some (.grid x 63 ↑s L1) := hs 1 (by decide)
              have hn : σ[3]? = some .none := hs 3 (by decide)
              obtain ⟨vL, hO⟩ := hS.openGrid (sg h1)
              obtain ⟨A5, c5, q5, -, -⟩ := hO.linesRd (k := 0) rfl
              subst q5
              have hx := (hO.box (k := 2) (show (_ :: List.set _ _ _)[2]? = _ from set_at (sg h1))).cell
              have hO2 := hO.place (k := 3) (by rw [List.getElem?_set_ne (by decide)]; exact sg hn)
              exact rs_run (v' := .slice A5 (L1).length c5) (w' := w') (wanted_yes rfl rfl rfl (show _ = _ from (sk_val hk 13 (by kernel_rfl) rfl rfl).trans ((hk.1 13 (by kernel_rfl)).1))) (by simp [execOp, Act.eval, e116, f116, go_sem, hx]) (sp_set2 1 3 _ _ (by decide) (by kernel_rfl) (by simp) (by simp) (by decide) (by decide) hl hs (by rfl) (by rfl) hO2 ⟨A5, c5, rfl⟩)
            refine SSteps.cons (fun a w' vs σ hS hl hs hk => ?_) ?_
            · have e113 : a.tmps.getD 113 undef = vs 15 := sk_val hk 15 (by kernel_rfl) rfl rfl
              have p113 : (fun u : Value => ∃ A c, u = .slice A (L1).length c) (vs 15) := (hk.1 15 (by kernel_rfl)).1
              have f113 := gd e113
              have e117 : a.tmps.getD 117 undef = vs 19 := sk_val hk 19 (by kernel_rfl) rfl rfl
              have p117 : (fun u : Value => ∃ A c, u = .slice A (L1).length c) (vs 19) := (hk.1 19 (by kernel_rfl)).1
              have f117 := gd e117
              obtain ⟨A1, c1, q1⟩ := p113
              obtain ⟨A2, c2, q2⟩ := p117
              have h2 : σ[2]? = some (.lines (vs 15) L1) := hs 2 (by decide)
              have h3 : σ[3]? = some (.lines (vs 19) L1) := hs 3 (by decide)
              rw [q1] at h2
              rw [q2] at h3
              have hr1 := (hS.linesRd' (sg h2)).2.2
              have hr2 := (hS.linesRd' (sg h3)).2.2
              have hcon := r14SameLines_any A1 A2 c1 c2 L1 L1 w' hr1 hr2 hLm16 hLm16 HM1.out HM1.out
              rw [show decide (L1 = L1) = true by simp] at hcon
              exact ro_call (f := 22) (wanted_yes rfl rfl rfl (show _ = _ from (sk_val hk 13 (by kernel_rfl) rfl rfl).trans ((hk.1 13 (by kernel_rfl)).1))) rfl (by simp only [List.map_toArray, List.map_cons, List.map_nil, Act.eval, e113, e117, q1, q2] <;> rfl) (fun _ _ => by kernel_rfl) (hcon.mono fun e w2 ⟨h1, h2⟩ => ⟨_, h1, sp_same (by kernel_rfl) hl hs (hS.bel h2) rfl, trivial⟩)
            refine SSteps.cons (fun a w' vs σ hS hl hs hk => ?_) ?_
            · have e118 : a.tmps.getD 118 undef = (.bool true : Value) := (sk_val hk 20 (by kernel_rfl) rfl rfl).trans ((hk.1 20 (by kernel_rfl)).1)
              have f118 := gd e118
              exact ro_pure (v := .bool false) (wanted_yes rfl rfl rfl (show _ = _ from (sk_val hk 13 (by kernel_rfl) rfl rfl).trans ((hk.1 13 (by kernel_rfl)).1))) (by simp [execOp, Act.eval, e118, f118, go_sem]) (sp_same (by kernel_rfl) hl hs hS (show (.bool false : Value) = _ from rfl)) trivial
            refine SSteps.cons (fun a w' vs σ hS hl hs hk => ?_) ?_
            · have e111 : a.tmps.getD 111 undef = (.bool false : Value) := (sk_val hk 13 (by kernel_rfl) rfl rfl).trans ((hk.1 13 (by kernel_rfl)).1)
              have f111 := gd e111
              have e119 : a.tmps.getD 119 undef = (.bool false : Value) := (sk_val hk 21 (by kernel_rfl) rfl rfl).trans ((hk.1 21 (by kernel_rfl)).1)
              have f119 := gd e119
              exact ro_pure (v := .bool false) (wanted_none rfl) (by simp [execOp, Act.eval, e111, f111, e119, f119, go_sem]) (sp_same (by kernel_rfl) hl hs hS (show (.bool false : Value) = _ from rfl)) trivial
            exact SSteps.nil
          · intro vs w' hS hv
            have q0 := (show vs 0 = (.agg #[.int .i64 ↑row1, .int .i64 0, .bool false] : Value) from hv 0 (by decide))
            have q1 := (show vs 1 = (.agg #[.int .i64 ↑row1, .int .i64 0, .bool false] : Value) from hv 1 (by decide))
            have q2 := (show vs 2 = (.bool false : Value) from hv 2 (by decide))
            have q3 := (show vs 3 = (.bool false : Value) from hv 3 (by decide))
            have q4 := (show vs 4 = (.int .i64 0 : Value) from hv 4 (by decide))
            have q5 := (show vs 5 = (.bool false : Value) from hv 5 (by decide))
            have q6 := (show vs 6 = (.bool false : Value) from hv 6 (by decide))
            have q7 := (show vs 7 = (.bool false : Value) from hv 7 (by decide))
            have q8 := (show vs 8 = (.slice none 0 0 : Value) from hv 8 (by decide))
            have q9 := (show vs 9 = (.slice none 0 0 : Value) from hv 9 (by decide))
            have q10 := (show vs 10 = (.bool true : Value) from hv 10 (by decide))
            have q11 := (show vs 11 = (.bool false : Value) from hv 11 (by decide))
            have q12 := (show vs 12 = (.bool false : Value) from hv 12 (by decide))
            have q13 := (show vs 13 = (.bool false : Value) from hv 13 (by decide))
            have q14 := (show vs 14 = (.pointer (some ⟨p, 0, none⟩) : Value) from hv 14 (by decide))
            have q16 := (show vs 16 = (.pointer (some ⟨x, 0, none⟩) : Value) from hv 16 (by decide))
            have q17 := (show vs 17 = (.pointer (some ⟨x, 0, none⟩) : Value) from hv 17 (by decide))
            have q18 := (show vs 18 = (.pointer (some ⟨x, 1, none⟩) : Value) from hv 18 (by decide))
            have q20 := (show vs 20 = (.bool true : Value) from hv 20 (by decide))
            have q21 := (show vs 21 = (.bool false : Value) from hv 21 (by decide))
            have q22 := (show vs 22 = (.bool false : Value) from hv 22 (by decide))
            obtain ⟨A9, c9, q9⟩ := (show ∃ A c, vs 15 = .slice A (L1).length c from hv 15 (by decide))
            obtain ⟨A8, c8, q8⟩ := (show ∃ A c, vs 19 = .slice A (L1).length c from hv 19 (by decide))
            have S2 := Lib.hid hS
            simp only [putL, Act.put, Nat.zero_add, Nat.reduceAdd, List.setIfInBounds_toArray, List.set_cons_succ, List.set_cons_zero, q0, q1, q2, q3, q4, q5, q6, q7, q8, q9, q10, q11, q12, q13, q14, q16, q17, q18, q20, q21, q22]
            clear hS hv q0 q1 q2 q3 q4 q5 q6 q7 q8 q9 q10 q11 q12 q13 q14 q16 q17 q18 q20 q21 q22
            simp only [q9, q8]
            have S8 := Lib.hid (close_rows19 S2.out)
            clear S2 SZ
            go_wp2_with fail
            go_roundw
            case rel => exact ⟨i + 1, row1, L1, by omega, by go_num, ⟨hr1, HR1.out, hlen1⟩, S8.out⟩
            case measure => simp [intOf]; omega
end Go.Proofs.YtghahanpmcpacaaDoor
