/-
  Part 7 of the texts on which the proofs of this seat stand: each part says ahead of it what it shows.
-/
import Derived.Test.YtghahanpmcpacaaDoorR6

/-
  The grids with which the laws of chapter 19 begin.
-/
set_option linter.unusedSimpArgs false
set_option linter.unusedVariables false
namespace Go.Proofs.YtghahanpmcpacaaDoor
open Go.RowKit

set_option maxRecDepth 100000 in
set_option maxHeartbeats 4000000 in
theorem l19begun_base (A : Option Addr) (c : Nat) (fill : List Cell) (rows cols : Nat) (soft : Int) (w : World) (hT : Tabs w) (ha : RdC w A c fill) (h1 : 1 ≤ rows) (h2 : rows ≤ 6) (h3 : 1 ≤ cols) (h4 : cols ≤ 12) (h5 : fill.length ≤ 20) (hs : 0 ≤ soft ∧ soft ≤ 65535) :
    Calls Tryd.prog 25 #[.int .i64 rows, .int .i64 cols, .slice A fill.length c, .int .u16 soft] w fun e w' => ∃ p x, e = .returned (.tuple #[.pointer (some ⟨p, 0, none⟩), .pointer (some ⟨x, 0, none⟩)]) ∧ Objs w w' [.grid p 37 cols (begunP rows cols fill soft), .grid x 63 cols (begunP rows cols fill soft)] := by
  have HT := Lib.hid hT
  have HA := Lib.hid ha
  obtain ⟨lim, hlim⟩ : ∃ lim : Nat, lim = fill.length * rows * cols := ⟨_, rfl⟩
  obtain ⟨lr, hlr⟩ : ∃ lr : Nat, lr = fill.length * rows := ⟨_, rfl⟩
  have hlrm : lr ≤ 120 := by rw [hlr]; exact Nat.mul_le_mul h5 h2
  have hlimm : lim ≤ 1440 := by rw [hlim, ← hlr]; exact Nat.mul_le_mul hlrm h4
  have HM1 := Lib.hid (show (fill.length : Int) * (rows : Int) = (lr : Int) by rw [hlr]; simp)
  have HM2 := Lib.hid (show (lr : Int) * (cols : Int) = (lim : Int) by rw [hlim, hlr]; simp)
  have HG := Lib.hid (show begunP rows cols fill soft = begRows rows cols lim fill soft (rows - 0) 0 (List.replicate rows (List.replicate cols (blank pen0), false)) by unfold begunP; rw [hlim]; rfl)
  have HF0 := Lib.hid (show 0 < lim → 0 < fill.length from fun h => by rcases Nat.eq_zero_or_pos fill.length with e | e; (rw [hlim, e] at h; simp at h); exact e)
  obtain ⟨G, hG⟩ : ∃ G, G = begunP rows cols fill soft := ⟨_, rfl⟩
  rw [← hG] at HG ⊢
  have HR0 := Lib.hid (rect_new rows cols pen0)
  clear hT ha hlim hlr hG
  go_enter Tryd.func25, Tryd.ntmps25
  go_wp2_with fail
  refine (gridNew_yes rows cols h1 (by omega) h3 (by omega) w w [] (objs_start w)).mono ?_
  rintro e w1 ⟨p, rfl, hS⟩
  have S1 := Lib.hid hS
  clear hS
  go_wp2_with fail
  refine (r14New_any rows cols (by omega) (by omega) w w1 _ S1.out).mono ?_
  rintro e w2 ⟨x, rfl, hS⟩
  have S2 := Lib.hid hS.swap
  clear hS S1
  go_wp2_with fail
  go_loopw [13, 14, 15, 16, 17] (fun vn vr _ _ _ wr => ∃ (n row : Nat) (L : List Ln), (row ≤ rows ∧ n ≤ 2000) ∧ vn = .int .i64 n ∧ vr = .int .i64 row ∧ (Rect cols L ∧ L.length = rows) ∧ Hid (begRows rows cols lim fill soft (rows - row) n L = G) ∧ Objs w wr [.grid p 37 cols L, .grid x 63 cols L]) (fun _ vr _ _ _ _ => rows - (intOf vr).toNat)
  case atStart => exact ⟨0, 0, _, ⟨Nat.zero_le _, by omega⟩, rfl, rfl, ⟨HR0.out, by simp⟩, Lib.hid HG.out.symm, S2.out⟩
  case round =>
    obtain ⟨n, row, L, ⟨hrow, hnm⟩, rfl, rfl, hRL, HJ, hS⟩ := hrel
    have HRL := Lib.hid hRL
    have S := Lib.hid hS
    clear hRL hS
    by_cases hlt : row < rows
    case neg =>
      have HE := Lib.hid (show L = G by have := HJ.out; rw [show rows - row = 0 by omega] at this; exact this)
      go_wp2_with fail
      go_ret2
      exact ⟨p, x, rfl, by rw [← HE.out]; exact S.out⟩
    obtain ⟨R, hRR⟩ : ∃ R, R = begCells cols lim fill row (lim - n) n 0 L := ⟨_, rfl⟩
    have HJ2 := Lib.hid (show begRows rows cols lim fill soft (rows - (row + 1)) R.1 (softMod row (softB soft row) R.2) = G by rw [← begRows_step hlt hRR.symm]; exact HJ.out)
    have HRR := Lib.hid hRR.symm
    clear hRR
    go_wp2_with fail
    go_loopw [13, 15, 16] (fun vn vc _ wr => ∃ (n col : Nat) (L : List Ln), vn = .int .i64 n ∧ vc = .int .i64 col ∧ n ≤ 2000 ∧ col ≤ 20 ∧ (Rect cols L ∧ L.length = rows) ∧ Hid (begCells cols lim fill row (lim - n) n col L = R) ∧ Objs w wr [.grid p 37 cols L, .grid x 63 cols L]) (fun vn _ _ _ => lim - (intOf vn).toNat)
    case atStart => exact ⟨n, 0, L, rfl, rfl, hnm, by omega, HRL.out, HRR, S.out⟩
    case round =>
      obtain ⟨m, col, LL, rfl, rfl, hm, hcol, hRLL, HJC, hS⟩ := hrel
      have HRLL := Lib.hid hRLL
      have SS := Lib.hid hS
      clear hRLL hS
      have HW1 := Lib.hid (show IntKind.i64.wrap ((fill.length : Int) * (rows : Int)) = (lr : Int) by rw [HM1.out]; exact IntWalk.i64_in _ (by omega))
      have HW2 := Lib.hid (show IntKind.i64.wrap ((lr : Int) * (cols : Int)) = (lim : Int) by rw [HM2.out]; exact IntWalk.i64_in _ (by omega))
      by_cases hcc : col < cols
      case neg =>
        have HE := Lib.hid (show R = (m, LL) by rw [← HJC.out]; exact begCells_stop (by omega))
        have HRW := Lib.hid (show row < LL.length by rw [HRLL.out.2]; exact hlt)
        have HLM := Lib.hid (show LL.length ≤ 1000000 by rw [HRLL.out.2]; omega)
        go_wp2_with fail
        refine (SetSoftG _ SS.out (k := 0) rfl (by omega) HRW.out HLM.out).mono ?_
        rintro e w3 ⟨rfl, hS⟩
        obtain ⟨l, hl⟩ := get_of HRW.out
        obtain ⟨sb, hsb⟩ : ∃ sb, sb = softB soft row := ⟨_, rfl⟩
        have HSB := Lib.hid hsb
        rw [show ((soft / 2 ^ (row % 16)).tmod 2 == 1) = sb from hsb.symm] at hS ⊢
        obtain ⟨v, hS1⟩ := (show Objs w w3 [.grid p 37 cols (softMod row sb LL), .grid x 63 cols LL] from hS).openGrid (k := 1) rfl
        have HN := Lib.hid (softMod_some (s := sb) hl)
        obtain ⟨Av, cv', rfl, hcm2, hrd⟩ := hS1.linesRd (k := 0) rfl
        obtain ⟨F, bs, hF, -⟩ := hS1.get (k := 0) rfl
        obtain ⟨A2, c2, e2, -, -, -, h4'⟩ := hF.form
        simp only [Value.slice.injEq, true_and] at e2
        obtain ⟨rfl, rfl⟩ := e2
        have hpos : 0 < LL.length := by have := HRW.out; omega
        obtain ⟨g, rfl, hz, -, hso, hfz⟩ := h4' hpos
        have hso2 := hso row l hl
        obtain ⟨hx0, hf0, hz0⟩ := (hS1.box (k := 2) rfl).facts
        have hS2 := ((hS1.storeSoft (k := 0) (s := sb) rfl hl) : Objs w _ [.lines _ _, _, _]).closeGrid (k := 1) rfl
        rw [← softMod_some hl] at hS2
        have S4 := Lib.hid hS2
        have hrw := HRW.out
        have hll := HRLL.out.2
        rw [hll] at hrw
        have HRX := Lib.hid (show Rect cols (softMod row sb LL) ∧ (softMod row sb LL).length = rows from ⟨HRLL.out.1.softMod _ _, by rw [softMod_length]; exact HRLL.out.2⟩)
        clear hS hS1 hcm2 hrd hF h4' hso hS2 hsb hl hll hpos
        go_wp2_with fail
        go_roundw
        case rel => exact ⟨m, row + 1, softMod row sb LL, ⟨by omega, hm⟩, by go_num, by go_num, HRX.out, Lib.hid (by have := HJ2.out; rw [HE.out, ← HSB.out] at this; exact this), S4.out⟩
        case measure => simp [intOf]; omega
      by_cases hml : m < lim
      case neg =>
        have HE := Lib.hid (show R = (m, LL) by rw [← HJC.out]; exact begCells_stop (by omega))
        have HRW := Lib.hid (show row < LL.length by rw [HRLL.out.2]; exact hlt)
        have HLM := Lib.hid (show LL.length ≤ 1000000 by rw [HRLL.out.2]; omega)
        have hw1 := HW1.out
        have hw2 := HW2.out
        go_wp2_with fail
        refine (SetSoftG _ SS.out (k := 0) rfl (by omega) HRW.out HLM.out).mono ?_
        rintro e w3 ⟨rfl, hS⟩
        obtain ⟨l, hl⟩ := get_of HRW.out
        obtain ⟨sb, hsb⟩ : ∃ sb, sb = softB soft row := ⟨_, rfl⟩
        have HSB := Lib.hid hsb
        rw [show ((soft / 2 ^ (row % 16)).tmod 2 == 1) = sb from hsb.symm] at hS ⊢
        obtain ⟨v, hS1⟩ := (show Objs w w3 [.grid p 37 cols (softMod row sb LL), .grid x 63 cols LL] from hS).openGrid (k := 1) rfl
        have HN := Lib.hid (softMod_some (s := sb) hl)
        obtain ⟨Av, cv', rfl, hcm2, hrd⟩ := hS1.linesRd (k := 0) rfl
        obtain ⟨F, bs, hF, -⟩ := hS1.get (k := 0) rfl
        obtain ⟨A2, c2, e2, -, -, -, h4'⟩ := hF.form
        simp only [Value.slice.injEq, true_and] at e2
        obtain ⟨rfl, rfl⟩ := e2
        have hpos : 0 < LL.length := by have := HRW.out; omega
        obtain ⟨g, rfl, hz, -, hso, hfz⟩ := h4' hpos
        have hso2 := hso row l hl
        obtain ⟨hx0, hf0, hz0⟩ := (hS1.box (k := 2) rfl).facts
        have hS2 := ((hS1.storeSoft (k := 0) (s := sb) rfl hl) : Objs w _ [.lines _ _, _, _]).closeGrid (k := 1) rfl
        rw [← softMod_some hl] at hS2
        have S4 := Lib.hid hS2
        have hrw := HRW.out
        have hll := HRLL.out.2
        rw [hll] at hrw
        have HRX := Lib.hid (show Rect cols (softMod row sb LL) ∧ (softMod row sb LL).length = rows from ⟨HRLL.out.1.softMod _ _, by rw [softMod_length]; exact HRLL.out.2⟩)
        clear hS hS1 hcm2 hrd hF h4' hso hS2 hsb hl hll hpos
        go_wp2_with fail
        go_roundw
        case rel => exact ⟨m, row + 1, softMod row sb LL, ⟨by omega, hm⟩, by go_num, by go_num, HRX.out, Lib.hid (by have := HJ2.out; rw [HE.out, ← HSB.out] at this; exact this), S4.out⟩
        case measure => simp [intOf]; omega
      have hw1 := HW1.out
      have hw2 := HW2.out
      have hf0 : 0 < fill.length := HF0.out (by omega)
      have hkl : m % fill.length < fill.length := Nat.mod_lt _ hf0
      obtain ⟨b, off, rfl, hz, hr⟩ := (HA.out.bel SS.out.base).at_ hkl
      have hce := elem_cell hr hkl
      obtain ⟨y, hy⟩ : ∃ y, fill[m % fill.length] = y := ⟨_, rfl⟩
      rw [hy] at hce
      have HY := Lib.hid (show cAt fill (m % fill.length) = y by rw [cAt_eq hkl]; exact hy)
      clear hy hr
      cases hok : y.ok with
      | false =>
        have HJN := Lib.hid (begCells_skip (row := row) (L := LL) HY.out hcc hml (.inl (by simp [hok])))
        have HOK := Lib.hid hok
        clear hok
        go_wp2_with fail
        refine (pure_call (cellValid_any y _ (SS.out.alloc1.tabs HT.out)) SS.out.alloc1).mono ?_
        rw [HOK.out]
        rintro e w3 ⟨rfl, hS⟩
        have S3 := Lib.hid hS
        clear hS hce
        go_wp2_with fail
        go_roundw
        case rel => exact ⟨m + 1, col + 1, LL, by go_num, by go_num, by omega, by omega, HRLL.out, Lib.hid (HJN.out.symm.trans HJC.out), S3.out.tail⟩
        case measure => simp [intOf]; omega
      | true =>
        have hyw : 0 ≤ y.width ∧ y.width ≤ 2 := by rcases ok_width hok with h | h | h <;> omega
        have HOK := Lib.hid hok
        clear hok
        by_cases hw0 : y.width = 0
        · have HJN := Lib.hid (begCells_skip (row := row) (L := LL) HY.out hcc hml (.inr (.inl hw0)))
          have hb := beq_yes hw0
          clear hw0
          go_wp2_with fail
          refine (pure_call (cellValid_any y _ (SS.out.alloc1.tabs HT.out)) SS.out.alloc1).mono ?_
          rw [HOK.out]
          rintro e w3 ⟨rfl, hS⟩
          obtain ⟨hx, hf, hz2, hc1, hc2⟩ := (hS.box (k := 0) rfl).box
          have S3 := Lib.hid hS
          clear hS hce
          go_wp2_with fail
          go_roundw
          case rel => exact ⟨m + 1, col + 1, LL, by go_num, by go_num, by omega, by omega, HRLL.out, Lib.hid (HJN.out.symm.trans HJC.out), S3.out.tail⟩
          case measure => simp [intOf]; omega
        by_cases hov : (cols : Int) < col + y.width
        · have HJN := Lib.hid (begCells_skip (row := row) (L := LL) HY.out hcc hml (.inr (.inr hov)))
          have hb := beq_no hw0
          clear hw0
          go_wp2_with fail
          refine (pure_call (cellValid_any y _ (SS.out.alloc1.tabs HT.out)) SS.out.alloc1).mono ?_
          rw [HOK.out]
          rintro e w3 ⟨rfl, hS⟩
          obtain ⟨hx, hf, hz2, hc1, hc2⟩ := (hS.box (k := 0) rfl).box
          have S3 := Lib.hid hS
          clear hS hce
          go_wp2_with fail
          go_roundw
          case rel => exact ⟨m + 1, col + 1, LL, by go_num, by go_num, by omega, by omega, HRLL.out, Lib.hid (HJN.out.symm.trans HJC.out), S3.out.tail⟩
          case measure => simp [intOf]; omega
        have HJN := Lib.hid (begCells_put (row := row) (L := LL) HY.out hcc hml (by rw [HOK.out]; simp; omega))
        have hb := beq_no hw0
        have HW := Lib.hid hw0
        have HFIT := Lib.hid (show (col : Int) + y.width ≤ cols by omega)
        have HRW := Lib.hid (show row < LL.length by rw [HRLL.out.2]; exact hlt)
        clear hw0
        go_wp2_with fail
        refine (pure_call (cellValid_any y _ (SS.out.alloc1.tabs HT.out)) SS.out.alloc1).mono ?_
        rw [HOK.out]
        rintro e w3 ⟨rfl, hS⟩
        obtain ⟨hx, hf, hz2, hc1, hc2⟩ := (hS.box (k := 0) rfl).box
        have S3 := Lib.hid hS
        clear hS hce
        go_wp2_with fail
        refine (PutG y HT.out S3.out (k := 1) rfl (by omega) HRLL.out.1 HRW.out HOK.out HW.out HFIT.out).mono ?_
        rintro e w4 ⟨rfl, hS⟩
        clear hx hf hz2 hc1 hc2
        obtain ⟨hx, hf, hz2, hc1, hc2⟩ := (hS.box (k := 0) rfl).box
        have S4 := Lib.hid hS
        clear hS S3
        go_wp2_with fail
        refine (r14PutG y S4.out (k := 2) rfl (by omega) HRLL.out.1 HRW.out HOK.out HW.out HFIT.out).mono ?_
        rintro e w5 ⟨rfl, hS⟩
        clear hx hf hz2 hc1 hc2
        obtain ⟨hx, hf, hz2, hc1, hc2⟩ := (hS.box (k := 0) rfl).box
        have S5 := Lib.hid hS
        clear hS S4
        go_wp2_with fail
        go_roundw
        case rel => exact ⟨m + 1, col + y.width.toNat, rowMod row (putC col y) LL, by go_num, congrArg (Value.int .i64) (by omega), by omega, by omega, ⟨HRLL.out.1.rowMod _ (fun cs h => by rw [putC_length, h]), by rw [rowMod_length]; exact HRLL.out.2⟩, Lib.hid (HJN.out.symm.trans HJC.out), S5.out.tail⟩
        case measure => simp [intOf]; omega
end Go.Proofs.YtghahanpmcpacaaDoor

/-
  The law's small of chapter 19.
-/
set_option linter.unusedSimpArgs false
set_option linter.unusedVariables false
namespace Go.Proofs.YtghahanpmcpacaaDoor
open Go.RowKit

def smallB (rows cols : Int) (n : Nat) : Bool := decide ((1 ≤ rows ∧ rows ≤ 6) ∧ (1 ≤ cols ∧ cols ≤ 12) ∧ n ≤ 20)
set_option maxHeartbeats 1000000 in
theorem l19small_any (rows cols : Int) (A : Option Addr) (n c : Nat) (w : World) (hn : n ≤ maxLen) : Calls Tryd.prog 24 #[.int .i64 rows, .int .i64 cols, .slice A n c] w fun e w' => e = .returned (.bool (smallB rows cols n)) ∧ w = w' := by
  have hn63 : n ≤ 9223372036854775807 := by unfold maxLen at hn; omega
  clear hn
  have no : ∀ h : ¬ ((1 ≤ rows ∧ rows ≤ 6) ∧ (1 ≤ cols ∧ cols ≤ 12) ∧ n ≤ 20), Hid (smallB rows cols n = false) := fun h => Lib.hid (decide_eq_false h)
  by_cases h1 : 1 ≤ rows
  case neg =>
    have HE := no (by omega)
    clear no
    go_enter Tryd.func24, Tryd.ntmps24
    go_wp2_with fail
    go_ret
    exact ⟨by rw [HE.out]; rfl, rfl⟩
  by_cases h2 : rows ≤ 6
  case neg =>
    have HE := no (by omega)
    clear no
    go_enter Tryd.func24, Tryd.ntmps24
    go_wp2_with fail
    go_ret
    exact ⟨by rw [HE.out]; rfl, rfl⟩
  by_cases h3 : 1 ≤ cols
  case neg =>
    have HE := no (by omega)
    clear no
    go_enter Tryd.func24, Tryd.ntmps24
    go_wp2_with fail
    go_ret
    exact ⟨by rw [HE.out]; rfl, rfl⟩
  by_cases h4 : cols ≤ 12
  case neg =>
    have HE := no (by omega)
    clear no
    go_enter Tryd.func24, Tryd.ntmps24
    go_wp2_with fail
    go_ret
    exact ⟨by rw [HE.out]; rfl, rfl⟩
  by_cases h5 : n ≤ 20
  case neg =>
    have HE := no (by omega)
    clear no
    go_enter Tryd.func24, Tryd.ntmps24
    go_wp2_with fail
    go_ret
    exact ⟨by rw [HE.out]; simp; omega, rfl⟩
  have HE := Lib.hid (show smallB rows cols n = true from decide_eq_true ⟨⟨h1, h2⟩, ⟨h3, h4⟩, h5⟩)
  clear no
  go_enter Tryd.func24, Tryd.ntmps24
  go_wp2_with fail
  go_ret
  exact ⟨by rw [HE.out]; simp; omega, rfl⟩
end Go.Proofs.YtghahanpmcpacaaDoor

/-
  What the laws of chapter 19 share.
-/
set_option linter.unusedSimpArgs false
set_option linter.unusedVariables false
namespace Go.Proofs.YtghahanpmcpacaaDoor
open Go.RowKit

theorem front2_call {P : Program} {f : FuncId} {args : Array Value} {a b a' b' : Ob} {r : Value} {w0 w : World} {os : List Ob} (hS : Objs w0 w os) (h0 : os[0]? = some a) (h1 : os[1]? = some b)
    (hc : ∀ r', Objs w0 w (a :: b :: r') → Calls P f args w fun e w' => e = .returned r ∧ Objs w0 w' (a' :: b' :: r')) : Calls P f args w fun e w' => e = .returned r ∧ Objs w0 w' ((os.set 0 a').set 1 b') := by
  match os, h0, h1, hS with
  | x :: y :: r', h0, h1, hS =>
    simp at h0 h1
    subst h0 h1
    exact hc r' hS
theorem Objs.addNone2 {w0 w : World} {a b : Ob} {os : List Ob} (h : Objs w0 w (a :: b :: os)) : Objs w0 w (a :: b :: .none :: .none :: os) :=
  (h.pad.pad.move (i := 2) (j := 0) rfl rfl (by decide)).move (i := 3) (j := 1) rfl rfl (by decide)
theorem small_true {rows cols : Int} {n : Nat} (h : smallB rows cols n = true) : ∃ rr s : Nat, rows = rr ∧ cols = s ∧ (1 ≤ rr ∧ rr ≤ 6) ∧ (1 ≤ s ∧ s ≤ 12) ∧ n ≤ 20 := by
  have := of_decide_eq_true h
  exact ⟨rows.toNat, cols.toNat, by omega, by omega, by omega, by omega, this.2.2⟩
end Go.Proofs.YtghahanpmcpacaaDoor
