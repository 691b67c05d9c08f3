/-
  RegionHolds, the stage's theorem: the law returns true.
-/
import Derived.Test.YtghahanpmcpacaaDoorRgf19Z
set_option linter.unusedSimpArgs false
set_option linter.unusedVariables false
namespace Go.Proofs.YtghahanpmcpacaaDoor
open Go.RowKit

theorem upL_two {top bot k m cols : Nat} {q : Pen} {L : List Ln} (htb : top ≤ bot) (hbl : bot < L.length) (h : k + m ≤ bot - top) : upL top bot (k : Int) L ++ upL top bot (m : Int) (rollL top bot (k : Int) q cols L) = upL top bot ((k : Int) + (m : Int)) L := by
  have e : (k : Int) + (m : Int) = ((k + m : Nat) : Int) := by omega
  rw [e]
  unfold upL
  split
  · rfl
  · exact rollGone_up htb hbl h
theorem rollL_two {top bot k m cols : Nat} {q : Pen} {L : List Ln} (htb : top ≤ bot) (hbl : bot < L.length) : rollL top bot (m : Int) q cols (rollL top bot (k : Int) q cols L) = rollL top bot ((k : Int) + (m : Int)) q cols L := by
  have e : (k : Int) + (m : Int) = ((k + m : Nat) : Int) := by omega
  rw [e]
  exact rollL_up htb hbl
theorem rollL_out {top bot cols r : Nat} {n : Int} {q : Pen} {L : List Ln} {l0 l1 : Ln} (htb : top ≤ bot) (hbl : bot < L.length) (hr : r < top ∨ bot < r) (h0 : L[r]? = some l0) (h1 : (rollL top bot n q cols L)[r]? = some l1) : l1.1 = l0.1 ∧ (¬ r + 1 = top → l1 = l0) := by
  rw [rollL_get htb hbl] at h1
  by_cases hn : n = 0
  · unfold rollAt at h1; rw [if_pos hn, h0] at h1; cases h1; exact ⟨rfl, fun _ => rfl⟩
  · rw [rollAt_out hn hr, h0] at h1
    simp only [Option.map_some, Option.some.injEq] at h1
    subst h1
    unfold hardIf
    split
    · next h => exact ⟨rfl, fun hne => absurd h.2 hne⟩
    · exact ⟨rfl, fun _ => rfl⟩
set_option maxRecDepth 100000 in
/-- append(a, b...) of lines: both are used up. -/
theorem run_appLL {w0 w : World} {os : List Ob} {v1 v2 : Value} {G1 G2 : List Ln} (hS : Objs w0 w (.lines v2 G2 :: .lines v1 G1 :: os)) (hlen : G1.length + G2.length ≤ 1000000) (ty : TypeId) :
    ∃ v' w', (Builtin.append_ #[35, 35] ty #[v1, v2]).run Tryd.prog w = .ok v' w' ∧ Objs w0 w' (.lines v' (G1 ++ G2) :: os) ∧ ∃ A' c', v' = .slice A' (G1 ++ G2).length c' := by
  obtain ⟨T2, e2, f2, h2⟩ := hS.toHeads (k := 0) rfl
  obtain ⟨T1, e1, f1, h1⟩ := (show Objs w0 w (.pile (piP T2) :: .heads v2 (hdP T2) :: .lines v1 G1 :: os) from h2).toHeads (k := 2) rfl
  have h3 := (show Objs w0 w (.pile (piP T1) :: .pile (piP T2) :: .heads v2 (hdP T2) :: .heads v1 (hdP T1) :: os) from h1).pileJoin
  have l1 : (hdP T1).length = G1.length := by rw [← e1]; simp [hdP, lnP]
  have l2 : (hdP T2).length = G2.length := by rw [← e2]; simp [hdP, lnP]
  obtain ⟨A2, c2, rfl, k1, k2, k3, k4⟩ := h3.headsForm (k := 1) rfl
  have hp : piP T1 ++ piP T2 = piP (T1 ++ T2) := by simp [piP]
  have hd : hdP T1 ++ hdP T2 = hdP (T1 ++ T2) := by simp [hdP]
  have hl : lnP (T1 ++ T2) = G1 ++ G2 := by rw [← e1, ← e2]; simp [lnP]
  by_cases h0 : 0 < (hdP T2).length
  · obtain ⟨g, rfl, k5, k6, k7⟩ := k4 h0
    obtain ⟨v', w', hr, hO, A', c', hv⟩ := run_appH h3 (k := 2) rfl (ad := ⟨g, 0, none⟩) (m := (hdP T2).length) (c := c2) (ds := hdP T2) rfl k1 (fun i y hy => by have := h3.headsSub (k := 1) (a := 0) (m := (hdP T2).length) rfl (by omega) i y (by rw [List.drop_zero, List.take_length]; exact hy); rwa [Nat.zero_mul] at this) f2 (by omega) ty
    have hO2 := (show Objs w0 w' (.pile (piP T1 ++ piP T2) :: .heads _ (hdP T2) :: .heads v' (hdP T1 ++ hdP T2) :: os) from hO).del 1
    rw [hp, hd] at hO2
    have hO3 := (show Objs w0 w' (.pile (piP (T1 ++ T2)) :: .heads v' (hdP (T1 ++ T2)) :: os) from hO2).ofHeads (k := 0) rfl
    rw [hl] at hO3
    exact ⟨v', w', hr, hO3, A', c', by rw [hv, l1, l2, List.length_append]⟩
  · have hz : (hdP T2).length = 0 := by omega
    have hnil : hdP T2 = [] := List.eq_nil_of_length_eq_zero hz
    rw [hz] at h3 ⊢
    obtain ⟨v', w', hr, hO, A', c', hv⟩ := run_appE h3 (k := 2) (j := 1) rfl rfl (by omega) ty
    have hO2 := (show Objs w0 w' (.pile (piP T1 ++ piP T2) :: .heads _ (hdP T2) :: .heads v' (hdP T1) :: os) from hO).del 1
    have hd2 : hdP T1 = hdP (T1 ++ T2) := by rw [← hd, hnil, List.append_nil]
    rw [hp, hd2] at hO2
    have hO3 := (show Objs w0 w' (.pile (piP (T1 ++ T2)) :: .heads v' (hdP (T1 ++ T2)) :: os) from hO2).ofHeads (k := 0) rfl
    rw [hl] at hO3
    exact ⟨v', w', hr, hO3, A', c', by rw [hv, l1, List.length_append]; congr 1; omega⟩
set_option maxRecDepth 100000 in
set_option maxHeartbeats 16000000 in
theorem l19RegionHolds_any (rows cols : Int) (A : Option Addr) (c : Nat) (fill : List Cell) (soft : Int) (tp bt : Int) (mm nn : Int) (w : World) (hT : Tabs w) (ha : RdC w A c fill) (hm : c ≤ maxLen) (hs : 0 ≤ soft ∧ soft ≤ 65535) (hmr : 0 ≤ mm ∧ mm ≤ 255) (hnr : 0 ≤ nn ∧ nn ≤ 255) :
    Calls Tryd.prog 11 #[.int .i64 rows, .int .i64 cols, .slice A fill.length c, .int .u16 soft, .agg #[.int .i64 tp, .int .i64 bt], .int .u8 mm, .int .u8 nn] w fun e w' => e = .returned (.bool true) ∧ Below w.heap.size w w' := by
  have HT := Lib.hid hT
  have HA := Lib.hid ha
  have hfm : fill.length ≤ maxLen := Nat.le_trans ha.1 hm
  clear hT ha hm
  cases hsm : smallB rows cols fill.length with
  | false =>
    have HSM := Lib.hid hsm
    clear hsm
    go_enter Tryd.func11, Tryd.ntmps11
    go_upto_region 1 with (fail)
    refine at_objsC (objs_start w).alloc1 (fun W hW => ?_)
    have S := Lib.hid hW
    clear hW
    obtain ⟨hx11, hf11, hz11⟩ := (S.out.box (k := 0) rfl).facts
    go_wp2_with fail
    refine (l19small_any rows cols A fill.length c _ hfm).mono ?_
    rw [HSM.out]
    rintro e w1 ⟨rfl, rfl⟩
    clear hx11 hf11 hz11
    go_wp2_with fail
    refine (l19known_any _ (S.out.tabs HT.out)).mono ?_
    rintro e wk ⟨rfl, hb⟩
    have HB := Lib.hid (S.out.bel hb).base
    clear hb
    go_wp2_with fail
    go_ret
    exact ⟨rfl, HB.out⟩
  | true =>
    obtain ⟨rr, s, rfl, rfl, ⟨h1, h2⟩, ⟨h3, h4⟩, h5⟩ := small_true hsm
    have HSM := Lib.hid hsm
    clear hsm
    cases hreg : regB rr tp bt with
    | false =>
      have HREG := Lib.hid hreg
      clear hreg
      go_enter Tryd.func11, Tryd.ntmps11
      go_upto_region 1 with (fail)
      refine at_objsC (objs_start w).alloc1 (fun W hW => ?_)
      have S := Lib.hid hW
      clear hW
      obtain ⟨hx11, hf11, hz11⟩ := (S.out.box (k := 0) rfl).facts
      go_wp2_with fail
      refine (l19small_any rr s A fill.length c _ hfm).mono ?_
      rw [HSM.out]
      rintro e w1 ⟨rfl, rfl⟩
      go_wp2_with fail
      refine (Right_is HREG.out _).mono ?_
      rintro e w2 ⟨rfl, hb⟩
      have S1 := Lib.hid (S.out.bel hb)
      clear hb S hx11 hf11 hz11
      obtain ⟨hx11, hf11, hz11⟩ := (S1.out.box (k := 0) rfl).facts
      go_wp2_with fail
      refine (l19known_any _ (S1.out.tabs HT.out)).mono ?_
      rintro e wk ⟨rfl, hb⟩
      have HB := Lib.hid (S1.out.bel hb).base
      clear hb
      go_wp2_with fail
      go_ret
      exact ⟨rfl, HB.out⟩
    | true =>
      have HREG := Lib.hid hreg
      obtain ⟨top, bot, rfl, rfl, htb, hbr⟩ := regB_nat hreg
      clear hreg
      obtain ⟨m, rfl⟩ : ∃ D : Nat, mm = D := ⟨mm.toNat, by omega⟩
      obtain ⟨n, rfl⟩ : ∃ U : Nat, nn = U := ⟨nn.toNat, by omega⟩
      have HWM := Lib.hid (show IntKind.i64.wrap (m : Int) = (m : Int) from IntWalk.i64_in _ (by omega))
      have HWN := Lib.hid (show IntKind.i64.wrap (n : Int) = (n : Int) from IntWalk.i64_in _ (by omega))
      have HWA := Lib.hid (show IntKind.i64.wrap ((m : Int) + (n : Int)) = (m : Int) + (n : Int) from IntWalk.i64_in _ (by omega))
      have HWB := Lib.hid (show IntKind.i64.wrap ((bot : Int) - (top : Int)) = (bot : Int) - (top : Int) from IntWalk.i64_in _ (by omega))
      by_cases hgt : (bot : Int) - (top : Int) < (m : Int) + (n : Int)
      · have dg : decide ((bot : Int) - (top : Int) < (m : Int) + (n : Int)) = true := decide_eq_true hgt
        go_enter Tryd.func11, Tryd.ntmps11
        go_upto_region 1 with (fail)
        refine at_objsC (objs_start w).alloc1 (fun W hW => ?_)
        have S := Lib.hid hW
        clear hW
        obtain ⟨hx11, hf11, hz11⟩ := (S.out.box (k := 0) rfl).facts
        go_wp2_with fail
        refine (l19small_any rr s A fill.length c _ hfm).mono ?_
        rw [HSM.out]
        rintro e w1 ⟨rfl, rfl⟩
        go_wp2_with fail
        refine (Right_is HREG.out _).mono ?_
        rintro e w2 ⟨rfl, hb⟩
        have S1 := Lib.hid (S.out.bel hb)
        clear hb S hx11 hf11 hz11
        obtain ⟨hx11, hf11, hz11⟩ := (S1.out.box (k := 0) rfl).facts
        have hwm := HWM.out
        have hwn := HWN.out
        have hwa := HWA.out
        have hwb := HWB.out
        go_wp2_with fail
        refine (l19known_any _ (S1.out.tabs HT.out)).mono ?_
        rintro e wk ⟨rfl, hb⟩
        have HB := Lib.hid (S1.out.bel hb).base
        clear hb
        go_wp2_with fail
        go_ret
        exact ⟨rfl, HB.out⟩
      have dg : decide ((bot : Int) - (top : Int) < (m : Int) + (n : Int)) = false := decide_eq_false hgt
      go_enter Tryd.func11, Tryd.ntmps11
      go_upto_region 1 with (fail)
      refine at_objsC (objs_start w).alloc1 (fun W hW => ?_)
      have S := Lib.hid hW
      clear hW
      obtain ⟨hx11, hf11, hz11⟩ := (S.out.box (k := 0) rfl).facts
      go_wp2_with fail
      refine (l19small_any rr s A fill.length c _ hfm).mono ?_
      rw [HSM.out]
      rintro e w1 ⟨rfl, rfl⟩
      go_wp2_with fail
      refine (Right_is HREG.out _).mono ?_
      rintro e w2 ⟨rfl, hb⟩
      have S1 := Lib.hid (S.out.bel hb)
      clear hb S hx11 hf11 hz11
      obtain ⟨hx11, hf11, hz11⟩ := (S1.out.box (k := 0) rfl).facts
      have hwm := HWM.out
      have hwn := HWN.out
      have hwa := HWA.out
      have hwb := HWB.out
      go_wp2_with fail
      clear hx11 hf11 hz11 hwm hwn hwa hwb
      refine (l19begun_base A c fill rr s soft _ (S1.out.tabs HT.out) (HA.out.bel S1.out.base) h1 h2 h3 h4 h5 hs).mono ?_
      rintro e w1 ⟨p, x, rfl, hS⟩
      have hc0 : 0 < s := by omega
      have hcm0 : s ≤ 1000 := by omega
      have HR0 := Lib.hid (begunP_rect rr s fill soft).1
      have hlen0 := (begunP_rect rr s fill soft).2
      obtain ⟨L0, hL0e⟩ : ∃ L0, L0 = begunP rr s fill soft := ⟨_, rfl⟩
      rw [← hL0e] at HR0 hlen0 hS
      generalize hb11 : w.heap.size = b11 at S1 ⊢
      have S2 := Lib.hid (show Objs w w1 [.grid p 37 ↑s L0, .grid x 63 ↑s L0, .box b11 23 #[.int .i64 ↑top, .int .i64 ↑bot]] from S1.out.nestAll hS)
      have hL0 : 0 < L0.length := by omega
      have hLm1 : L0.length ≤ 1000 := by omega
      have hLm0 : L0.length ≤ 1000000 := by omega
      have hbl : bot < L0.length := by omega
      have hsum : m + n ≤ bot - top := by omega
      have dt0 : decide ((top : Int) < 0) = false := decide_eq_false (by omega)
      have dbr : decide ((rr : Int) ≤ (bot : Int)) = false := decide_eq_false (by omega)
      obtain ⟨L1, hL1⟩ : ∃ L1, L1 = rollL top bot (m : Int) pen0 s L0 := ⟨_, rfl⟩
      have HR1 := Lib.hid (show Rect s L1 ∧ L1.length = rr from by rw [hL1]; exact ⟨rollL_rect19 HR0.out htb hbl, (rollL_length htb hbl).trans hlen0⟩)
      obtain ⟨L2, hL2⟩ : ∃ L2, L2 = rollL top bot (n : Int) pen0 s L1 := ⟨_, rfl⟩
      have hbl1 : bot < L1.length := by rw [HR1.out.2]; exact hbr
      have HR2 := Lib.hid (show Rect s L2 ∧ L2.length = rr from by rw [hL2]; exact ⟨rollL_rect19 HR1.out.1 htb hbl1, (rollL_length htb hbl1).trans HR1.out.2⟩)
      obtain ⟨Ga, hGa⟩ : ∃ G, G = upL top bot (m : Int) L0 := ⟨_, rfl⟩
      obtain ⟨Gb, hGb⟩ : ∃ G, G = upL top bot (n : Int) L1 := ⟨_, rfl⟩
      have HSUM := Lib.hid (show upL top bot ((m : Int) + (n : Int)) L0 = Ga ++ Gb from by rw [hGa, hGb, hL1]; exact (upL_two htb hbl hsum).symm)
      have HL2 := Lib.hid (show rollL top bot ((m : Int) + (n : Int)) pen0 s L0 = L2 from by rw [hL2, hL1]; exact (rollL_two htb hbl).symm)
      have HOUT := Lib.hid (show ∀ r l0 l1, (r < top ∨ bot < r) → L0[r]? = some l0 → L2[r]? = some l1 → l1.1 = l0.1 ∧ (¬ r + 1 = top → l1 = l0) from fun r l0 l1 hr h0 h1 => by rw [← HL2.out] at h1; exact rollL_out htb hbl hr h0 h1)
      have HM0 := Lib.hid (HR0.out.mill hcm0)
      have HGL := Lib.hid (show (Ga ++ Gb).length ≤ 1000000 ∧ (∀ l ∈ Ga ++ Gb, l.1.length ≤ 1000000) ∧ Ga.length + Gb.length ≤ 1000000 from by
        have h1 : (Ga ++ Gb).length ≤ L0.length := by rw [← HSUM.out]; exact upL_len
        refine ⟨by omega, fun l hl => ?_, by rw [List.length_append] at h1; omega⟩
        rw [← HSUM.out] at hl
        exact HM0.out l (upL_mem hl))
      have HGT := Lib.hid (show 0 < top → Ga ++ Gb = [] from fun h => by rw [← HSUM.out]; exact if_pos h)
      have HE1 := Lib.hid hL1.symm
      have HE2 := Lib.hid hL2.symm
      have HEa := Lib.hid hGa.symm
      have HEb := Lib.hid hGb.symm
      clear hS S1 hL0e hL1 hL2 hGa hGb hgt hsum
      obtain ⟨hx11, hf11, hz11⟩ := (S2.out.box (k := 2) rfl).facts
      go_wp2_with fail
      refine (CopyG S2.out (k := 0) rfl hc0 hcm0 HR0.out hLm0).mono ?_
      rintro e w2 ⟨ph, rfl, hS⟩
      have S3 := Lib.hid hS
      clear hS S2 hx11 hf11 hz11
      go_upto_region 8 with (fail)
      refine at_objsC (S3.out.alloc1 (c1 := pv pen0) (t1 := 31)) (fun W3 hW => ?_)
      generalize hb18 : w2.heap.size = b18 at hW ⊢
      clear hb18 S3
      have S4 := Lib.hid hW
      clear hW
      obtain ⟨hx11, hf11, hz11⟩ := (S4.out.box (k := 4) rfl).facts
      have hp18 := (S4.out.box (k := 0) rfl).penAt
      have hz18 := (S4.out.box (k := 0) rfl).lt
      have hwm := HWM.out
      go_wp2_with fail
      clear hwm
      have hcon := Up_yes (n := (m : Int)) pen0 HT.out S4.out (k := 2) rfl hc0 hcm0 hLm1 htb hbl (by decide +kernel) (by omega)
      rw [HEa.out, HE1.out] at hcon
      refine hcon.mono ?_
      clear hcon
      rintro e w4 ⟨Aa, ma, ca, rfl, hS⟩
      have S5 := Lib.hid (show Objs w w4 (.lines (.slice Aa ma ca) Ga :: [.box b18 31 (pv pen0), .grid ph 37 ↑s L0, .grid p 37 ↑s L1, .grid x 63 ↑s L0, .box b11 23 #[.int .i64 ↑top, .int .i64 ↑bot]]) from hS)
      clear hS S4 hx11 hf11 hz11 hp18 hz18
      obtain ⟨hx11, hf11, hz11⟩ := (S5.out.box (k := 5) rfl).facts
      have hp18 := (S5.out.box (k := 1) rfl).penAt
      have hz18 := (S5.out.box (k := 1) rfl).lt
      have hwn := HWN.out
      go_wp2_with fail
      clear hwn
      have hcon := Up_yes (n := (n : Int)) pen0 HT.out S5.out (k := 3) rfl hc0 hcm0 (by rw [HR1.out.2]; omega) htb hbl1 (by decide +kernel) (by omega)
      rw [HEb.out, HE2.out] at hcon
      refine hcon.mono ?_
      clear hcon
      rintro e w5 ⟨Ab, mb, cb, rfl, hS⟩
      have S6 := Lib.hid (show Objs w w5 (.lines (.slice Ab mb cb) Gb :: .lines (.slice Aa ma ca) Ga :: [.box b18 31 (pv pen0), .grid ph 37 ↑s L0, .grid p 37 ↑s L2, .grid x 63 ↑s L0, .box b11 23 #[.int .i64 ↑top, .int .i64 ↑bot]]) from hS)
      clear hS S5 hx11 hf11 hz11 hp18 hz18
      obtain ⟨hx11, hf11, hz11⟩ := (S6.out.box (k := 6) rfl).facts
      have hp18 := (S6.out.box (k := 2) rfl).penAt
      have hz18 := (S6.out.box (k := 2) rfl).lt
      have hwm := HWM.out
      have hwn := HWN.out
      have hwa := HWA.out
      go_wp2_with fail
      clear hwm hwn hwa
      have hcon := Up_yes (n := (m : Int) + (n : Int)) pen0 HT.out S6.out (k := 3) rfl hc0 hcm0 hLm1 htb hbl (by decide +kernel) (by omega)
      rw [HSUM.out, HL2.out] at hcon
      refine hcon.mono ?_
      clear hcon
      rintro e w6 ⟨Ac, mc, cc, rfl, hS⟩
      have hS7 := (show Objs w w6 (.lines (.slice Ac mc cc) (Ga ++ Gb) :: .lines (.slice Ab mb cb) Gb :: .lines (.slice Aa ma ca) Ga :: [.box b18 31 (pv pen0), .grid ph 37 ↑s L2, .grid p 37 ↑s L2, .grid x 63 ↑s L0, .box b11 23 #[.int .i64 ↑top, .int .i64 ↑bot]]) from hS)
      have hmc := (hS7.linesRd' (k := 0) rfl).1
      have hO := (hS7.lift (k := 2) rfl).lift (k := 2) rfl
      have S7 := Lib.hid (show Objs w w6 (.lines (.slice Ab mb cb) Gb :: .lines (.slice Aa ma ca) Ga :: .lines (.slice Ac mc cc) (Ga ++ Gb) :: .none :: .none :: [.box b18 31 (pv pen0), .grid ph 37 ↑s L2, .grid p 37 ↑s L2, .grid x 63 ↑s L0, .box b11 23 #[.int .i64 ↑top, .int .i64 ↑bot]]) from hO)
      clear hS hS7 hO S6 hx11 hf11 hz11 hp18 hz18
      obtain ⟨v9, w9, hr9, hS9, A9, c9, rfl⟩ := run_appLL S7.out HGL.out.2.2 35
      have S9 := Lib.hid hS9
      clear hS9
      by_cases ht : 0 < top
      · as_aux_lemma =>
          have dt : decide ((0 : Int) < (top : Int)) = true := decide_eq_true (by omega)
          have hm0 : mc = 0 := by rw [hmc, HGT.out ht]; rfl
          subst hm0
          clear hmc
          obtain ⟨hx11, hf11, hz11⟩ := (S9.out.box (k := 8) rfl).facts
          go_wp2_with (at_builtin; refine wpList_app _ _ (by rfl) rfl rfl rfl hr9 ?_)
          clear hr9
          have hcon := same_yes S9.out (i := 0) (j := 1) rfl rfl HGL.out.1 HGL.out.2.1
          rw [List.length_append] at hcon
          refine hcon.mono ?_
          clear hcon
          rintro e w10 ⟨rfl, hS⟩
          have T1 := Lib.hid (((((hS.del 0).del 0).del 0).del 0))
          clear hS S9 S7 hx11 hf11 hz11
          have hcs := Same_any (show Objs w w10 [.box b18 31 (pv pen0), .grid ph 37 ↑s L2, .grid p 37 ↑s L2, .grid x 63 ↑s L0, .box b11 23 #[.int .i64 ↑top, .int .i64 ↑bot]] from T1.out) (k1 := 2) (k2 := 1) rfl rfl hc0 hc0 (by rw [HR2.out.2]; omega) (by rw [HR2.out.2]; omega) (HR2.out.1.mill hcm0) (HR2.out.1.mill hcm0)
          simp only [decide_true, Bool.and_self] at hcs
          have HCS := Lib.hid hcs
          clear hcs
          go_wp2_with fail
          refine HCS.out.mono ?_
          rintro e w11 ⟨rfl, hS⟩
          have T2 := Lib.hid hS
          clear hS T1 HCS
          obtain ⟨hx11, hf11, hz11⟩ := (T2.out.box (k := 4) rfl).facts
          go_wp2_with fail
          refine (Lines_any T2.out (k := 2) rfl hc0 (HR2.out.1.mill hcm0) (by rw [HR2.out.2]; omega)).mono ?_
          rintro e w12 ⟨v25, rfl, hS⟩
          obtain ⟨Av, cvl, rfl, hmv, hrv⟩ := hS.linesRd (k := 0) rfl
          obtain ⟨F9, bs9, hF9, -⟩ := hS.get (k := 0) rfl
          obtain ⟨A8, c8, e8, -, -, -, hg8⟩ := hF9.form
          simp only [Value.slice.injEq, true_and] at e8
          obtain ⟨rfl, rfl⟩ := e8
          obtain ⟨gv, e7, -⟩ := hg8 (by rw [HR2.out.2]; omega)
          subst e7
          rw [show L2.length = rr from HR2.out.2] at hS ⊢
          have hS2 := hS.del 2
          have T3 := Lib.hid (show Objs w w12 [.lines (.slice (some ⟨gv, 0, none⟩) rr cvl) L2, .box b18 31 (pv pen0), .grid p 37 ↑s L2, .grid x 63 ↑s L0, .box b11 23 #[.int .i64 ↑top, .int .i64 ↑bot]] from hS2)
          clear hS hS2 T2 hmv hrv hF9 hg8 hx11 hf11 hz11
          go_wp2_with fail
          go_loopw [14, 26] (fun _ vr wr => ∃ (r : Nat) (LL : List Ln), r ≤ rr ∧ vr = .int .i64 r ∧ (LL.length = rr ∧ ∀ i, r ≤ i → LL[i]? = L2[i]?) ∧ Objs w wr [.lines (.slice (some ⟨gv, 0, none⟩) rr cvl) LL, .box b18 31 (pv pen0), .grid p 37 ↑s L2, .grid x 63 ↑s L0, .box b11 23 #[.int .i64 ↑top, .int .i64 ↑bot]]) (fun _ vr _ => rr - (intOf vr).toNat)
          case atStart => exact ⟨0, L2, by omega, rfl, ⟨HR2.out.2, fun _ _ => rfl⟩, T3.out⟩
          case round =>
            clear T3
            obtain ⟨r, LL, hr, rfl, ⟨hLL, hget⟩, hS⟩ := hrel
            have T4 := Lib.hid hS
            have HGET := Lib.hid hget
            clear hS hget
            by_cases hrt : r < rr
            case neg =>
              as_aux_lemma =>
                obtain ⟨hx11, hf11, hz11⟩ := (T4.out.box (k := 4) rfl).facts
                go_upto_region 25 with (fail)
                refine at_objsC (T4.out.alloc1 (c1 := #[.int .i64 top, .int .i64 0, .bool false]) (t1 := 25)) (fun W9 hW => ?_)
                generalize hb27 : wr.heap.size = b27 at hW ⊢
                clear hb27 hx11 hf11 hz11
                have hW2 := hW.del 1
                have T5 := Lib.hid (show Objs w W9 [.box b27 25 #[.int .i64 ↑top, .int .i64 0, .bool false], .box b18 31 (pv pen0), .grid p 37 ↑s L2, .grid x 63 ↑s L0, .box b11 23 #[.int .i64 ↑top, .int .i64 ↑bot]] from hW2)
                clear hW hW2 T4
                go_wp2_with fail
                go_loopw [14, 28, 29, 30, 31] (fun _ vi _ _ _ wr => ∃ (i row : Nat) (LC : List Ln), i ≤ 8 ∧ vi = .int .i64 i ∧ (top ≤ row ∧ row = min (top + i) bot ∧ Rect s LC ∧ LC.length = rr) ∧ Objs w wr [.box b27 25 #[.int .i64 ↑row, .int .i64 0, .bool false], .box b18 31 (pv pen0), .grid p 37 ↑s LC, .grid x 63 ↑s L0, .box b11 23 #[.int .i64 ↑top, .int .i64 ↑bot]]) (fun _ vi _ _ _ _ => 8 - (intOf vi).toNat)
                case atStart => exact ⟨0, top, L2, by omega, rfl, ⟨Nat.le_refl _, by omega, HR2.out.1, HR2.out.2⟩, T5.out⟩
                case round =>
                  clear T5
                  obtain ⟨i, row, LC, hi, rfl, ⟨hge, hrow, hRC, hlenC⟩, hS⟩ := hrel
                  have T6 := Lib.hid hS
                  have HRC := Lib.hid hRC
                  have HROW := Lib.hid hrow
                  clear hS hRC hrow
                  by_cases hlt : i < 8
                  case neg =>
                    obtain rfl : row = bot := by have := HROW.out; omega
                    obtain ⟨hx11, hf11, hz11⟩ := (T6.out.box (k := 4) rfl).facts
                    obtain ⟨hx27, hf27, hz27⟩ := (T6.out.box (k := 0) rfl).facts
                    go_wp2_with fail
                    refine (l19known_any _ (T6.out.tabs HT.out)).mono ?_
                    rintro e wk ⟨rfl, hb⟩
                    have HB := Lib.hid (T6.out.bel hb).base
                    clear hb
                    go_wp2_with fail
                    go_ret
                    exact ⟨rfl, HB.out⟩
                  have hdi : decide ((i : Int) < 8) = true := decide_eq_true (by omega)
                  have hLmC : LC.length ≤ 1000 := by omega
                  have hblC : bot < LC.length := by omega
                  have hrb : row ≤ bot := by have := HROW.out; omega
                  have HIN := Lib.hid (show inG (row : Int) ((0 : Nat) : Int) false LC.length s = true from ingrid_iff.2 ⟨⟨by omega, by omega⟩, ⟨by omega, by omega⟩, fun h => by cases h⟩)
                  obtain ⟨row1, hrow1⟩ : ∃ r1, r1 = ixRow bot LC.length row := ⟨_, rfl⟩
                  have hr1 : row1 = min (row + 1) bot := by rw [hrow1]; unfold ixRow; split <;> omega
                  have HR1R := Lib.hid hr1
                  have HROW1 := Lib.hid hrow1.symm
                  have HMIN := Lib.hid (show min ((row : Int) + 1) (bot : Int) = (row1 : Int) by omega)
                  have HWR := Lib.hid (show IntKind.i64.wrap ((row : Int) + 1) = (row : Int) + 1 from IntWalk.i64_in _ (by omega))
                  have HRN := Lib.hid (ixL_rect (row := row) (q := pen0) HRC.out htb hblC)
                  obtain ⟨LD, hLD⟩ : ∃ LD, LD = ixL top bot row pen0 s LC := ⟨_, rfl⟩
                  rw [← hLD] at HRN
                  have HLD := Lib.hid hLD.symm
                  clear hrow1 hr1 hLD
                  obtain ⟨hx11, hf11, hz11⟩ := (T6.out.box (k := 4) rfl).facts
                  have hp18 := (T6.out.box (k := 1) rfl).penAt
                  have hz18 := (T6.out.box (k := 1) rfl).lt
                  obtain ⟨hx27, hf27, hz27⟩ := (T6.out.box (k := 0) rfl).facts
                  go_wp2_with fail
                  have hcon := Index_yes (row := row) (col := 0) (pend := false) pen0 HT.out T6.out (k := 2) rfl hcm0 hLmC htb hblC (by decide +kernel) HIN.out
                  rw [HLD.out, HROW1.out] at hcon
                  refine (show Calls Tryd.prog 13 #[.pointer (some ⟨p, 0, none⟩), .agg #[.int .i64 ↑top, .int .i64 ↑bot], .agg #[.int .i64 ↑row, .int .i64 0, .bool false], .agg (pv pen0)] _ _ from hcon).mono ?_
                  clear hcon
                  rintro e w13 ⟨Ai, mi, ci, rfl, hS⟩
                  have T7 := Lib.hid (show Objs w w13 [.box b27 25 #[.int .i64 ↑row, .int .i64 0, .bool false], .box b18 31 (pv pen0), .grid p 37 ↑s LD, .grid x 63 ↑s L0, .box b11 23 #[.int .i64 ↑top, .int .i64 ↑bot]] from hS.tail)
                  clear hS T6 hx27 hf27 hz27 hx11 hf11 hz11 hp18 hz18
                  go_upto_region 29 with (fail)
                  refine at_objsC (T7.out.alloc1 (c1 := #[.int .i64 row1, .int .i64 0, .bool false]) (t1 := 25)) (fun W10 hW => ?_)
                  generalize hb29 : w13.heap.size = b29 at hW ⊢
                  clear hb29 T7
                  have T8 := Lib.hid hW
                  clear hW
                  obtain ⟨hx29, hf29, hz29⟩ := (T8.out.box (k := 0) rfl).facts
                  obtain ⟨hx27, hf27, hz27⟩ := (T8.out.box (k := 1) rfl).facts
                  obtain ⟨hx11, hf11, hz11⟩ := (T8.out.box (k := 5) rfl).facts
                  have hmin := HMIN.out
                  have hwr := HWR.out
                  go_wp2_with fail
                  clear hmin hwr
                  go_roundw
                  case rel => exact ⟨i + 1, row1, LD, by omega, by go_num, ⟨by have := HR1R.out; omega, by have h1 := HR1R.out; have h2 := HROW.out; omega, HRN.out.1, HRN.out.2.trans hlenC⟩, (T8.out.setBox3 (u := .int .i64 row1) (v := .int .i64 0) (x := .bool false) (k := 1) rfl).tail⟩
                  case measure => simp [intOf]; omega
            have hdr : decide ((r : Int) < rr) = true := decide_eq_true (by omega)
            have hrL0 : r < L0.length := by omega
            have hrL2 : r < L2.length := by rw [HR2.out.2]; exact hrt
            have hrLL : r < LL.length := by omega
            obtain ⟨l0, hl0⟩ := get_of hrL0
            obtain ⟨l1, hl1⟩ := get_of hrL2
            have HL0 := Lib.hid hl0
            have HL1 := Lib.hid (show LL[r]? = some l1 by rw [HGET.out r (Nat.le_refl _)]; exact hl1)
            have HOUTR := Lib.hid (HOUT.out r l0 l1 · hl0 hl1)
            have HN1 := Lib.hid (show l1.1.length = s from HR2.out.1.at_ hl1)
            have HN0 := Lib.hid (show l0.1.length = s from HR0.out.at_ hl0)
            clear hl0 hl1
            obtain ⟨hx11, hf11, hz11⟩ := (T4.out.box (k := 4) rfl).facts
            by_cases hin : top ≤ r ∧ r ≤ bot
            · have da : decide ((top : Int) ≤ (r : Int)) = true := decide_eq_true (by omega)
              have db : decide ((r : Int) ≤ (bot : Int)) = true := decide_eq_true (by omega)
              go_wp2_with fail
              go_roundw
              case rel => exact ⟨r + 1, LL, by omega, by go_num, ⟨hLL, fun i hi => HGET.out i (by omega)⟩, T4.out⟩
              case measure => simp [intOf]; omega
            have hout : r < top ∨ bot < r := by omega
            have HO := Lib.hid (HOUTR.out hout)
            have HWT := Lib.hid (show IntKind.i64.wrap ((top : Int) - 1) = (top : Int) - 1 from IntWalk.i64_in _ (by omega))
            by_cases hrk : r + 1 = top
            · as_aux_lemma =>
                have HRK := Lib.hid hrk
                have HQ2 := Lib.hid (show eqL l1.1 l0.2 l0.1 l0.2 = true by have := HO.out.1; rw [this]; exact (eqL_line (l0.1, l0.2) (l0.1, l0.2)).trans (by simp))
                have HMM0 := Lib.hid (show l0.1.length ≤ 1000000 by rw [HN0.out]; omega)
                have HMM1 := Lib.hid (show l1.1.length ≤ 1000000 by rw [HN1.out]; omega)
                have da : decide ((top : Int) ≤ (r : Int)) = false := decide_eq_false (by omega)
                have hwr : IntKind.i64.wrap ((top : Int) - 1) = (r : Int) := by rw [HWT.out]; omega
                obtain ⟨Ax, cx, hBx, hmx, hrx⟩ := T4.out.gridRd (k := 3) rfl
                obtain ⟨hxx, hfx, hzx⟩ := hBx.facts
                obtain ⟨bx, ox, A0, c0, rfl, hzr, hcx1, hcx2, hrd0⟩ := hrx.at_ HL0.out
                have hrl := (T4.out.linesRd' (k := 0) rfl).2.2
                obtain ⟨b9, o9, A1, c1, e9, hzl, hcl1, hcl2, hrd1⟩ := hrl.at_ (i := r) (l := l1) HL1.out
                cases e9
                simp only [Nat.zero_add] at hcl1 hcl2
                have HRD0 := Lib.hid hrd0
                have HRD1 := Lib.hid hrd1
                clear hBx hmx hrx hrl hrd0 hrd1
                obtain ⟨F9, bs9, hF9, -⟩ := T4.out.get (k := 0) rfl
                obtain ⟨A8, c8, e8, -, -, -, hg8⟩ := hF9.form
                obtain ⟨g8, e7, hz8, -, -, hf8⟩ := hg8 (by omega)
                simp only [Value.slice.injEq] at e8
                obtain ⟨rfl, -, rfl⟩ := e8
                cases e7
                clear hF9 hg8
                go_upto_region 22 with (fail)
                clear hwr hz8 hf8
                refine at_objsC (T4.out.storeSoft (k := 0) (i := r) (s := l0.2) rfl HL1.out) (fun W9 hW => ?_)
                have T5 := Lib.hid (show Objs w W9 [.lines (.slice (some ⟨gv, 0, none⟩) rr cvl) (LL.set r (l1.1, l0.2)), .box b18 31 (pv pen0), .grid p 37 ↑s L2, .grid x 63 ↑s L0, .box b11 23 #[.int .i64 ↑top, .int .i64 ↑bot]] from hW)
                clear hW HRD0 HRD1 hxx hfx hzx hzr hcx1 hcx2 hzl hcl1 hcl2 hx11 hf11 hz11
                have HLS := Lib.hid (show (LL.set r (l1.1, l0.2))[r]? = some (l1.1, l0.2) from List.getElem?_set_self hrLL)
                obtain ⟨Ax, cx, hBx, hmx, hrx⟩ := T5.out.gridRd (k := 3) rfl
                obtain ⟨hxx, hfx, hzx⟩ := hBx.facts
                obtain ⟨bx, ox, A0, c0, rfl, hzr, hcx1, hcx2, hrd0⟩ := hrx.at_ HL0.out
                have hrl := (T5.out.linesRd' (k := 0) rfl).2.2
                obtain ⟨b9, o9, A1, c1, e9, hzl, hcl1, hcl2, hrd1⟩ := hrl.at_ (i := r) (l := (l1.1, l0.2)) HLS.out
                cases e9
                simp only [Nat.zero_add] at hcl1 hcl2
                have HRD0 := Lib.hid hrd0
                have HRD1 := Lib.hid hrd1
                clear hBx hmx hrx hrl hrd0 hrd1
                refine wp_region_below (by kernel_rfl) (by kernel_rfl) ?_
                repeat (go_big_quiet_step ((go_at_call 35; exact quiet_below (tt_of (r14SameLine_any A1 A0 c1 c0 l1.1 l0.1 l0.2 l0.2 _ (HRD1.out.bel (below_plus _ _)) (HRD0.out.bel (below_plus _ _)) HMM1.out HMM0.out) HQ2.out))))
                refine wpQuiet_nil ?_
                intro w14 hb3
                have T6 := Lib.hid (T5.out.bel hb3)
                clear hb3
                clear hxx hfx hzx hzr hcx1 hcx2 hzl hcl1 hcl2
                go_wp2_with fail
                go_roundw
                case rel => exact ⟨r + 1, LL.set r (l1.1, l0.2), by omega, by go_num, ⟨by rw [List.length_set]; exact hLL, fun i hi => by rw [List.getElem?_set_ne (by omega)]; exact HGET.out i (by omega)⟩, T6.out⟩
                case measure => simp [intOf]; omega
            · by_cases hrt2 : r < top
              · as_aux_lemma =>
                  have hne : ((r : Int) == (top : Int) - 1) = false := by rw [beq_eq_false_iff_ne]; omega
                  have HLL := Lib.hid (show l1 = l0 from HO.out.2 hrk)
                  have HMM0 := Lib.hid (show l0.1.length ≤ 1000000 by rw [HN0.out]; omega)
                  have HMM1 := Lib.hid (show l1.1.length ≤ 1000000 by rw [HN1.out]; omega)
                  have HQ2 := Lib.hid (show eqL l1.1 l1.2 l0.1 l0.2 = true by rw [eqL_line, HLL.out]; simp)
                  have da : decide ((top : Int) ≤ (r : Int)) = false := decide_eq_false (by omega)
                  have hwt := HWT.out
                  go_upto_region 22 with (fail)
                  clear hwt
                  obtain ⟨Ax, cx, hBx, hmx, hrx⟩ := T4.out.gridRd (k := 3) rfl
                  obtain ⟨hxx, hfx, hzx⟩ := hBx.facts
                  obtain ⟨bx, ox, A0, c0, rfl, hzr, hcx1, hcx2, hrd0⟩ := hrx.at_ HL0.out
                  have hrl := (T4.out.linesRd' (k := 0) rfl).2.2
                  obtain ⟨b9, o9, A1, c1, e9, hzl, hcl1, hcl2, hrd1⟩ := hrl.at_ (i := r) (l := l1) HL1.out
                  cases e9
                  simp only [Nat.zero_add] at hcl1 hcl2
                  have HRD0 := Lib.hid hrd0
                  have HRD1 := Lib.hid hrd1
                  clear hBx hmx hrx hrl hrd0 hrd1
                  refine wp_region_below (by kernel_rfl) (by kernel_rfl) ?_
                  repeat (go_big_quiet_step ((go_at_call 35; exact quiet_below (tt_of (r14SameLine_any A1 A0 c1 c0 l1.1 l0.1 l1.2 l0.2 _ (HRD1.out.bel (below_plus _ _)) (HRD0.out.bel (below_plus _ _)) HMM1.out HMM0.out) HQ2.out))))
                  refine wpQuiet_nil ?_
                  intro w14 hb3
                  have T6 := Lib.hid (T4.out.bel hb3)
                  clear hb3
                  clear hxx hfx hzx hzr hcx1 hcx2 hzl hcl1 hcl2 hx11 hf11 hz11
                  go_wp2_with fail
                  go_roundw
                  case rel => exact ⟨r + 1, LL, by omega, by go_num, ⟨hLL, fun i hi => HGET.out i (by omega)⟩, T6.out⟩
                  case measure => simp [intOf]; omega
              · as_aux_lemma =>
                  have hne : ((r : Int) == (top : Int) - 1) = false := by rw [beq_eq_false_iff_ne]; omega
                  have HLL := Lib.hid (show l1 = l0 from HO.out.2 hrk)
                  have HMM0 := Lib.hid (show l0.1.length ≤ 1000000 by rw [HN0.out]; omega)
                  have HMM1 := Lib.hid (show l1.1.length ≤ 1000000 by rw [HN1.out]; omega)
                  have HQ2 := Lib.hid (show eqL l1.1 l1.2 l0.1 l0.2 = true by rw [eqL_line, HLL.out]; simp)
                  have da : decide ((top : Int) ≤ (r : Int)) = true := decide_eq_true (by omega)
                  have db : decide ((r : Int) ≤ (bot : Int)) = false := decide_eq_false (by omega)
                  have hwt := HWT.out
                  go_upto_region 22 with (fail)
                  clear hwt
                  obtain ⟨Ax, cx, hBx, hmx, hrx⟩ := T4.out.gridRd (k := 3) rfl
                  obtain ⟨hxx, hfx, hzx⟩ := hBx.facts
                  obtain ⟨bx, ox, A0, c0, rfl, hzr, hcx1, hcx2, hrd0⟩ := hrx.at_ HL0.out
                  have hrl := (T4.out.linesRd' (k := 0) rfl).2.2
                  obtain ⟨b9, o9, A1, c1, e9, hzl, hcl1, hcl2, hrd1⟩ := hrl.at_ (i := r) (l := l1) HL1.out
                  cases e9
                  simp only [Nat.zero_add] at hcl1 hcl2
                  have HRD0 := Lib.hid hrd0
                  have HRD1 := Lib.hid hrd1
                  clear hBx hmx hrx hrl hrd0 hrd1
                  refine wp_region_below (by kernel_rfl) (by kernel_rfl) ?_
                  repeat (go_big_quiet_step ((go_at_call 35; exact quiet_below (tt_of (r14SameLine_any A1 A0 c1 c0 l1.1 l0.1 l1.2 l0.2 _ (HRD1.out.bel (below_plus _ _)) (HRD0.out.bel (below_plus _ _)) HMM1.out HMM0.out) HQ2.out))))
                  refine wpQuiet_nil ?_
                  intro w14 hb3
                  have T6 := Lib.hid (T4.out.bel hb3)
                  clear hb3
                  clear hxx hfx hzx hzr hcx1 hcx2 hzl hcl1 hcl2 hx11 hf11 hz11
                  go_wp2_with fail
                  go_roundw
                  case rel => exact ⟨r + 1, LL, by omega, by go_num, ⟨hLL, fun i hi => HGET.out i (by omega)⟩, T6.out⟩
                  case measure => simp [intOf]; omega
      · as_aux_lemma =>
          have dt : decide ((0 : Int) < (top : Int)) = false := decide_eq_false (by omega)
          clear hmc
          obtain ⟨hx11, hf11, hz11⟩ := (S9.out.box (k := 8) rfl).facts
          go_wp2_with (at_builtin; refine wpList_app _ _ (by rfl) rfl rfl rfl hr9 ?_)
          clear hr9
          have hcon := same_yes S9.out (i := 0) (j := 1) rfl rfl HGL.out.1 HGL.out.2.1
          rw [List.length_append] at hcon
          refine hcon.mono ?_
          clear hcon
          rintro e w10 ⟨rfl, hS⟩
          have T1 := Lib.hid (((((hS.del 0).del 0).del 0).del 0))
          clear hS S9 S7 hx11 hf11 hz11
          have hcs := Same_any (show Objs w w10 [.box b18 31 (pv pen0), .grid ph 37 ↑s L2, .grid p 37 ↑s L2, .grid x 63 ↑s L0, .box b11 23 #[.int .i64 ↑top, .int .i64 ↑bot]] from T1.out) (k1 := 2) (k2 := 1) rfl rfl hc0 hc0 (by rw [HR2.out.2]; omega) (by rw [HR2.out.2]; omega) (HR2.out.1.mill hcm0) (HR2.out.1.mill hcm0)
          simp only [decide_true, Bool.and_self] at hcs
          have HCS := Lib.hid hcs
          clear hcs
          go_wp2_with fail
          refine HCS.out.mono ?_
          rintro e w11 ⟨rfl, hS⟩
          have T2 := Lib.hid hS
          clear hS T1 HCS
          obtain ⟨hx11, hf11, hz11⟩ := (T2.out.box (k := 4) rfl).facts
          go_wp2_with fail
          refine (Lines_any T2.out (k := 2) rfl hc0 (HR2.out.1.mill hcm0) (by rw [HR2.out.2]; omega)).mono ?_
          rintro e w12 ⟨v25, rfl, hS⟩
          obtain ⟨Av, cvl, rfl, hmv, hrv⟩ := hS.linesRd (k := 0) rfl
          obtain ⟨F9, bs9, hF9, -⟩ := hS.get (k := 0) rfl
          obtain ⟨A8, c8, e8, -, -, -, hg8⟩ := hF9.form
          simp only [Value.slice.injEq, true_and] at e8
          obtain ⟨rfl, rfl⟩ := e8
          obtain ⟨gv, e7, -⟩ := hg8 (by rw [HR2.out.2]; omega)
          subst e7
          rw [show L2.length = rr from HR2.out.2] at hS ⊢
          have hS2 := hS.del 2
          have T3 := Lib.hid (show Objs w w12 [.lines (.slice (some ⟨gv, 0, none⟩) rr cvl) L2, .box b18 31 (pv pen0), .grid p 37 ↑s L2, .grid x 63 ↑s L0, .box b11 23 #[.int .i64 ↑top, .int .i64 ↑bot]] from hS2)
          clear hS hS2 T2 hmv hrv hF9 hg8 hx11 hf11 hz11
          go_wp2_with fail
          go_loopw [14, 26] (fun _ vr wr => ∃ (r : Nat) (LL : List Ln), r ≤ rr ∧ vr = .int .i64 r ∧ (LL.length = rr ∧ ∀ i, r ≤ i → LL[i]? = L2[i]?) ∧ Objs w wr [.lines (.slice (some ⟨gv, 0, none⟩) rr cvl) LL, .box b18 31 (pv pen0), .grid p 37 ↑s L2, .grid x 63 ↑s L0, .box b11 23 #[.int .i64 ↑top, .int .i64 ↑bot]]) (fun _ vr _ => rr - (intOf vr).toNat)
          case atStart => exact ⟨0, L2, by omega, rfl, ⟨HR2.out.2, fun _ _ => rfl⟩, T3.out⟩
          case round =>
            clear T3
            obtain ⟨r, LL, hr, rfl, ⟨hLL, hget⟩, hS⟩ := hrel
            have T4 := Lib.hid hS
            have HGET := Lib.hid hget
            clear hS hget
            by_cases hrt : r < rr
            case neg =>
              as_aux_lemma =>
                obtain ⟨hx11, hf11, hz11⟩ := (T4.out.box (k := 4) rfl).facts
                go_upto_region 25 with (fail)
                refine at_objsC (T4.out.alloc1 (c1 := #[.int .i64 top, .int .i64 0, .bool false]) (t1 := 25)) (fun W9 hW => ?_)
                generalize hb27 : wr.heap.size = b27 at hW ⊢
                clear hb27 hx11 hf11 hz11
                have hW2 := hW.del 1
                have T5 := Lib.hid (show Objs w W9 [.box b27 25 #[.int .i64 ↑top, .int .i64 0, .bool false], .box b18 31 (pv pen0), .grid p 37 ↑s L2, .grid x 63 ↑s L0, .box b11 23 #[.int .i64 ↑top, .int .i64 ↑bot]] from hW2)
                clear hW hW2 T4
                go_wp2_with fail
                go_loopw [14, 28, 29, 30, 31] (fun _ vi _ _ _ wr => ∃ (i row : Nat) (LC : List Ln), i ≤ 8 ∧ vi = .int .i64 i ∧ (top ≤ row ∧ row = min (top + i) bot ∧ Rect s LC ∧ LC.length = rr) ∧ Objs w wr [.box b27 25 #[.int .i64 ↑row, .int .i64 0, .bool false], .box b18 31 (pv pen0), .grid p 37 ↑s LC, .grid x 63 ↑s L0, .box b11 23 #[.int .i64 ↑top, .int .i64 ↑bot]]) (fun _ vi _ _ _ _ => 8 - (intOf vi).toNat)
                case atStart => exact ⟨0, top, L2, by omega, rfl, ⟨Nat.le_refl _, by omega, HR2.out.1, HR2.out.2⟩, T5.out⟩
                case round =>
                  clear T5
                  obtain ⟨i, row, LC, hi, rfl, ⟨hge, hrow, hRC, hlenC⟩, hS⟩ := hrel
                  have T6 := Lib.hid hS
                  have HRC := Lib.hid hRC
                  have HROW := Lib.hid hrow
                  clear hS hRC hrow
                  by_cases hlt : i < 8
                  case neg =>
                    obtain rfl : row = bot := by have := HROW.out; omega
                    obtain ⟨hx11, hf11, hz11⟩ := (T6.out.box (k := 4) rfl).facts
                    obtain ⟨hx27, hf27, hz27⟩ := (T6.out.box (k := 0) rfl).facts
                    go_wp2_with fail
                    refine (l19known_any _ (T6.out.tabs HT.out)).mono ?_
                    rintro e wk ⟨rfl, hb⟩
                    have HB := Lib.hid (T6.out.bel hb).base
                    clear hb
                    go_wp2_with fail
                    go_ret
                    exact ⟨rfl, HB.out⟩
                  have hdi : decide ((i : Int) < 8) = true := decide_eq_true (by omega)
                  have hLmC : LC.length ≤ 1000 := by omega
                  have hblC : bot < LC.length := by omega
                  have hrb : row ≤ bot := by have := HROW.out; omega
                  have HIN := Lib.hid (show inG (row : Int) ((0 : Nat) : Int) false LC.length s = true from ingrid_iff.2 ⟨⟨by omega, by omega⟩, ⟨by omega, by omega⟩, fun h => by cases h⟩)
                  obtain ⟨row1, hrow1⟩ : ∃ r1, r1 = ixRow bot LC.length row := ⟨_, rfl⟩
                  have hr1 : row1 = min (row + 1) bot := by rw [hrow1]; unfold ixRow; split <;> omega
                  have HR1R := Lib.hid hr1
                  have HROW1 := Lib.hid hrow1.symm
                  have HMIN := Lib.hid (show min ((row : Int) + 1) (bot : Int) = (row1 : Int) by omega)
                  have HWR := Lib.hid (show IntKind.i64.wrap ((row : Int) + 1) = (row : Int) + 1 from IntWalk.i64_in _ (by omega))
                  have HRN := Lib.hid (ixL_rect (row := row) (q := pen0) HRC.out htb hblC)
                  obtain ⟨LD, hLD⟩ : ∃ LD, LD = ixL top bot row pen0 s LC := ⟨_, rfl⟩
                  rw [← hLD] at HRN
                  have HLD := Lib.hid hLD.symm
                  clear hrow1 hr1 hLD
                  obtain ⟨hx11, hf11, hz11⟩ := (T6.out.box (k := 4) rfl).facts
                  have hp18 := (T6.out.box (k := 1) rfl).penAt
                  have hz18 := (T6.out.box (k := 1) rfl).lt
                  obtain ⟨hx27, hf27, hz27⟩ := (T6.out.box (k := 0) rfl).facts
                  go_wp2_with fail
                  have hcon := Index_yes (row := row) (col := 0) (pend := false) pen0 HT.out T6.out (k := 2) rfl hcm0 hLmC htb hblC (by decide +kernel) HIN.out
                  rw [HLD.out, HROW1.out] at hcon
                  refine (show Calls Tryd.prog 13 #[.pointer (some ⟨p, 0, none⟩), .agg #[.int .i64 ↑top, .int .i64 ↑bot], .agg #[.int .i64 ↑row, .int .i64 0, .bool false], .agg (pv pen0)] _ _ from hcon).mono ?_
                  clear hcon
                  rintro e w13 ⟨Ai, mi, ci, rfl, hS⟩
                  have T7 := Lib.hid (show Objs w w13 [.box b27 25 #[.int .i64 ↑row, .int .i64 0, .bool false], .box b18 31 (pv pen0), .grid p 37 ↑s LD, .grid x 63 ↑s L0, .box b11 23 #[.int .i64 ↑top, .int .i64 ↑bot]] from hS.tail)
                  clear hS T6 hx27 hf27 hz27 hx11 hf11 hz11 hp18 hz18
                  go_upto_region 29 with (fail)
                  refine at_objsC (T7.out.alloc1 (c1 := #[.int .i64 row1, .int .i64 0, .bool false]) (t1 := 25)) (fun W10 hW => ?_)
                  generalize hb29 : w13.heap.size = b29 at hW ⊢
                  clear hb29 T7
                  have T8 := Lib.hid hW
                  clear hW
                  obtain ⟨hx29, hf29, hz29⟩ := (T8.out.box (k := 0) rfl).facts
                  obtain ⟨hx27, hf27, hz27⟩ := (T8.out.box (k := 1) rfl).facts
                  obtain ⟨hx11, hf11, hz11⟩ := (T8.out.box (k := 5) rfl).facts
                  have hmin := HMIN.out
                  have hwr := HWR.out
                  go_wp2_with fail
                  clear hmin hwr
                  go_roundw
                  case rel => exact ⟨i + 1, row1, LD, by omega, by go_num, ⟨by have := HR1R.out; omega, by have h1 := HR1R.out; have h2 := HROW.out; omega, HRN.out.1, HRN.out.2.trans hlenC⟩, (T8.out.setBox3 (u := .int .i64 row1) (v := .int .i64 0) (x := .bool false) (k := 1) rfl).tail⟩
                  case measure => simp [intOf]; omega
            have hdr : decide ((r : Int) < rr) = true := decide_eq_true (by omega)
            have hrL0 : r < L0.length := by omega
            have hrL2 : r < L2.length := by rw [HR2.out.2]; exact hrt
            have hrLL : r < LL.length := by omega
            obtain ⟨l0, hl0⟩ := get_of hrL0
            obtain ⟨l1, hl1⟩ := get_of hrL2
            have HL0 := Lib.hid hl0
            have HL1 := Lib.hid (show LL[r]? = some l1 by rw [HGET.out r (Nat.le_refl _)]; exact hl1)
            have HOUTR := Lib.hid (HOUT.out r l0 l1 · hl0 hl1)
            have HN1 := Lib.hid (show l1.1.length = s from HR2.out.1.at_ hl1)
            have HN0 := Lib.hid (show l0.1.length = s from HR0.out.at_ hl0)
            clear hl0 hl1
            obtain ⟨hx11, hf11, hz11⟩ := (T4.out.box (k := 4) rfl).facts
            by_cases hin : top ≤ r ∧ r ≤ bot
            · have da : decide ((top : Int) ≤ (r : Int)) = true := decide_eq_true (by omega)
              have db : decide ((r : Int) ≤ (bot : Int)) = true := decide_eq_true (by omega)
              go_wp2_with fail
              go_roundw
              case rel => exact ⟨r + 1, LL, by omega, by go_num, ⟨hLL, fun i hi => HGET.out i (by omega)⟩, T4.out⟩
              case measure => simp [intOf]; omega
            have hout : r < top ∨ bot < r := by omega
            have HO := Lib.hid (HOUTR.out hout)
            have HWT := Lib.hid (show IntKind.i64.wrap ((top : Int) - 1) = (top : Int) - 1 from IntWalk.i64_in _ (by omega))
            by_cases hrk : r + 1 = top
            · exact absurd hrk (by omega)
            · by_cases hrt2 : r < top
              · exact absurd hrt2 (by omega)
              · as_aux_lemma =>
                  have hne : ((r : Int) == (top : Int) - 1) = false := by rw [beq_eq_false_iff_ne]; omega
                  have HLL := Lib.hid (show l1 = l0 from HO.out.2 hrk)
                  have HMM0 := Lib.hid (show l0.1.length ≤ 1000000 by rw [HN0.out]; omega)
                  have HMM1 := Lib.hid (show l1.1.length ≤ 1000000 by rw [HN1.out]; omega)
                  have HQ2 := Lib.hid (show eqL l1.1 l1.2 l0.1 l0.2 = true by rw [eqL_line, HLL.out]; simp)
                  have da : decide ((top : Int) ≤ (r : Int)) = true := decide_eq_true (by omega)
                  have db : decide ((r : Int) ≤ (bot : Int)) = false := decide_eq_false (by omega)
                  have hwt := HWT.out
                  go_upto_region 22 with (fail)
                  clear hwt
                  obtain ⟨Ax, cx, hBx, hmx, hrx⟩ := T4.out.gridRd (k := 3) rfl
                  obtain ⟨hxx, hfx, hzx⟩ := hBx.facts
                  obtain ⟨bx, ox, A0, c0, rfl, hzr, hcx1, hcx2, hrd0⟩ := hrx.at_ HL0.out
                  have hrl := (T4.out.linesRd' (k := 0) rfl).2.2
                  obtain ⟨b9, o9, A1, c1, e9, hzl, hcl1, hcl2, hrd1⟩ := hrl.at_ (i := r) (l := l1) HL1.out
                  cases e9
                  simp only [Nat.zero_add] at hcl1 hcl2
                  have HRD0 := Lib.hid hrd0
                  have HRD1 := Lib.hid hrd1
                  clear hBx hmx hrx hrl hrd0 hrd1
                  refine wp_region_below (by kernel_rfl) (by kernel_rfl) ?_
                  repeat (go_big_quiet_step ((go_at_call 35; exact quiet_below (tt_of (r14SameLine_any A1 A0 c1 c0 l1.1 l0.1 l1.2 l0.2 _ (HRD1.out.bel (below_plus _ _)) (HRD0.out.bel (below_plus _ _)) HMM1.out HMM0.out) HQ2.out))))
                  refine wpQuiet_nil ?_
                  intro w14 hb3
                  have T6 := Lib.hid (T4.out.bel hb3)
                  clear hb3
                  clear hxx hfx hzx hzr hcx1 hcx2 hzl hcl1 hcl2 hx11 hf11 hz11
                  go_wp2_with fail
                  go_roundw
                  case rel => exact ⟨r + 1, LL, by omega, by go_num, ⟨hLL, fun i hi => HGET.out i (by omega)⟩, T6.out⟩
                  case measure => simp [intOf]; omega
end Go.Proofs.YtghahanpmcpacaaDoor
