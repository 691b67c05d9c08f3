/-
  Part 4 of the texts on which the proofs of this seat stand: each part says ahead of it what it shows.
-/
import Derived.Test.YtghahanpmcpacaaDoorM3
import Derived.Deep.DeepAppendRoom
import Derived.Laws.OwnMore

/-
  Roll of the program's grid, downwards.
-/
set_option linter.unusedSimpArgs false
set_option linter.unusedVariables false
namespace Go.Proofs.YtghahanpmcpacaaDoor
open Go.RowKit

section
variable {w0 w : World} {os : List Ob} {p cols : Nat} {L : List Ln}
set_option maxRecDepth 100000 in
set_option maxHeartbeats 8000000 in
theorem Roll_neg {top bot k : Nat} {n : Int} (q : Pen) (hT : Tabs w0) (hS : Objs w0 w (.grid p 37 cols L :: os)) (hc : 0 < cols) (hcm : cols ≤ 1000) (hL : L.length ≤ 100000) (htb : top ≤ bot) (hbl : bot < L.length) (hq : q.ok = true) (hn : n < 0) (hk : (-((bot + 1 - top : Nat) : Int) < n ∧ n = -(k : Int)) ∨ ((n ≤ -((bot + 1 - top : Nat) : Int) ∧ -9223372036854775808 ≤ n) ∧ k = bot + 1 - top)) :
    Calls Tryd.prog 37 #[.pointer (some ⟨p, 0, none⟩), .agg #[.int .i64 top, .int .i64 bot], .int .i64 n, .agg (pv q)] w fun e w' => ∃ A m c, e = .returned (.tuple #[.slice A m c, .int .i64 0]) ∧ Objs w0 w' (.lines (.slice A m c) (rollGone top bot n L) :: .grid p 37 cols (rollL top bot n q cols L) :: os) := by
  have S := Lib.hid hS
  have HT := Lib.hid hT
  have HQ := Lib.hid hq
  have HK := Lib.hid hk
  obtain ⟨many, hmany⟩ : ∃ many, many = bot + 1 - top := ⟨_, rfl⟩
  have HMANY := Lib.hid hmany
  have hb0 := beq_no (show ¬ n = 0 by omega)
  have d1 : decide ((top : Int) < 0) = false := by simp
  have d2 : decide ((bot : Int) < top) = false := by simp; omega
  have d2n : decide (bot < top) = false := by simp; omega
  have d3 : decide ((L.length : Int) ≤ bot) = false := by simp; omega
  have d3n : decide (L.length ≤ bot) = false := by simp; omega
  clear hS hT hq hk hmany
  go_enter Tryd.func37, Tryd.ntmps37
  go_wp2_with fail
  refine (none_no S.out.alloc2 (k := 2) rfl hc).mono ?_
  rintro e w1 ⟨rfl, hS⟩
  generalize w.heap.size + 1 = b7 at hS ⊢
  generalize w.heap.size = b5 at hS ⊢
  obtain ⟨v, hS1⟩ := hS.openGrid (k := 2) rfl
  obtain ⟨T, hTL, hone, hS2⟩ := hS1.toHeads (k := 0) rfl
  obtain ⟨A, c, rfl, hlc, hcmx, -, hgr⟩ := hS2.headsForm (k := 1) rfl
  have hTl : (hdP T).length = L.length := by rw [hdP_length, ← hTL, lnP_length]
  rw [hTl] at hS2 hlc hgr
  obtain ⟨gr, rfl, hgz, -, -⟩ := hgr (by omega)
  have S2 := Lib.hid hS2
  obtain ⟨hx5, hf5, hz5⟩ := (hS2.box (k := 3) rfl).facts
  obtain ⟨hxp, hfp, hzp⟩ := (hS2.box (k := 4) rfl).facts
  have HTL := Lib.hid hTL
  have HTl := Lib.hid hTl
  have HONE := Lib.hid hone
  clear hS hS1 hS2 S hTL hTl hone hgr hgz
  go_wp2_with fail
  refine wp_region_below (by kernel_rfl) (by kernel_rfl) ?_
  repeat (go_big_quiet_step (fail))
  refine wpQuiet_nil ?_
  intro w2 hb2
  have S3 := Lib.hid (S2.out.bel hb2)
  clear hx5 hf5 hz5 hxp hfp hzp S2 hb2
  have hp7 := (S3.out.box (k := 2) rfl).penAt
  have hz7 := (S3.out.box (k := 2) rfl).lt
  go_wp2_with fail
  refine (inked_is HQ.out HT.out S3.out).mono ?_
  rintro e w3 ⟨rfl, hS⟩
  have S4 := Lib.hid hS
  obtain ⟨hx5, hf5, hz5⟩ := (hS.box (k := 3) rfl).facts
  obtain ⟨hxp, hfp, hzp⟩ := (hS.box (k := 4) rfl).facts
  clear hS S3 hp7 hz7
  go_wp2_with fail
  refine wp_region_below (by kernel_rfl) (by kernel_rfl) ?_
  repeat (go_big_quiet_step (fail))
  refine wpQuiet_nil ?_
  intro w4 hb4
  have S5 := Lib.hid (show Objs w0 w4 (.pile (piP T) :: .heads (.slice (some ⟨gr, 0, none⟩) L.length c) (hdP T) :: .box b7 31 (pv q) :: .box b5 23 #[.int .i64 top, .int .i64 bot] :: .box p 37 #[.int .i64 cols, .slice (some ⟨gr, 0, none⟩) L.length c] :: os) from S4.out.bel hb4)
  clear hx5 hf5 hz5 hxp hfp hzp S4 hb4
  rw [← HMANY.out]
  have hmb : many ≤ 100000 := by have := HMANY.out; omega
  have hm1 : 0 < many := by have := HMANY.out; omega
  have htm : top + many ≤ L.length := by have := HMANY.out; omega
  have hkm : k ≤ many := by have := HK.out; have := HMANY.out; omega
  have hk0 : 0 < k := by have := HK.out; have := HMANY.out; omega
  have hctop : many ≤ c - top := by omega
  have HK2 := HK.out
  rw [← HMANY.out] at HK2
  have HKK := Lib.hid (rollK_is (n := n) (k := k) HMANY.out (by rcases HK2 with ⟨a1, a2⟩ | ⟨⟨a1, a3⟩, a2⟩ <;> omega))
  have HPERM := Lib.hid (perm_neg (T := T) (top := top) hkm)
  have HGONE := Lib.hid (gone_neg HTL.out hn HMANY.out HKK.out hkm)
  have HLEFT := Lib.hid (fun (F : List Tr) (hF : lnP F = rollFresh k cols q) => left_neg HTL.out hn HMANY.out htb HKK.out hkm hF)
  have hTn : T.length = L.length := by have := HTl.out; rwa [hdP_length] at this
  obtain ⟨G, hG⟩ : ∃ G, G = (T.drop (top + (many - k))).take k := ⟨_, rfl⟩
  obtain ⟨X1, hX1⟩ : ∃ X1, X1 = T.take top := ⟨_, rfl⟩
  obtain ⟨Sx, hSx⟩ : ∃ Sx, Sx = (T.drop top).take (many - k) := ⟨_, rfl⟩
  obtain ⟨T3, hT3⟩ : ∃ T3, T3 = T.drop (top + many) := ⟨_, rfl⟩
  obtain ⟨R, hR⟩ : ∃ R, R = (T.drop top).take k ++ (hardR Sx ++ T3) := ⟨_, rfl⟩
  obtain ⟨T1, hT1⟩ : ∃ T1, T1 = T.take (top + k) := ⟨_, rfl⟩
  obtain ⟨a0, ha0⟩ : ∃ a0, a0 = top := ⟨_, rfl⟩
  have hT1l : T1.length = top + k := by rw [hT1]; simp; omega
  have hSxl : Sx.length = many - k := by rw [hSx]; simp; omega
  have hRl0 : ((T.drop top).take k).length = k := by simp; omega
  have hRll : R.length = L.length - a0 := by rw [hR, ha0]; simp only [List.length_append, hRl0, hardR_length, hSxl, hT3, List.length_drop]; omega
  have hRd : R.drop k = hardR Sx ++ T3 := by rw [hR]; exact List.drop_left' hRl0
  have hXR : hdP X1 ++ hdP R = hdP T1 ++ (hdP (hardR Sx) ++ hdP T3) := by
    rw [hR, hX1, hT1, List.take_add, hdP_append, hdP_append, hdP_append, List.append_assoc]
  have HX1 := Lib.hid (show X1.length = a0 by rw [hX1, ha0]; simp; omega)
  have HRL := Lib.hid hRll
  have hRk : k ≤ R.length := by omega
  rw [← hX1, ← hSx, ← hT3, ← hG, ← hRd] at HPERM
  rw [← hX1, ← hSx, ← hT3, ← hRd] at HLEFT
  rw [← hG] at HGONE
  have HG := Lib.hid hG.symm
  have HCP := Lib.hid (hdP_copied T (top + k) top (many - k))
  rw [show top + k + (many - k) = top + many by omega, ← hT1, ← hSx, ← hT3] at HCP
  have HXR := Lib.hid hXR
  have HA0 := Lib.hid ha0
  have HSXL := Lib.hid hSxl
  have HT1L := Lib.hid hT1l
  have HPB := Lib.hid (show many = k → (hdP T).take top ++ (((hdP T).drop top).take 0 ++ (hdP T).drop (top + 0)) = hdP X1 ++ hdP R from fun e => by
    have hS0 : Sx = [] := List.eq_nil_of_length_eq_zero (by omega)
    rw [hR, hX1, hS0, hdP_append, hdP_take, hdP_drop, hT3, e]
    show hdP (T.take top) ++ ([] ++ (hdP T).drop (top + 0)) = hdP (T.take top) ++ (hdP ((T.drop top).take k) ++ hdP ([] ++ T.drop (top + k)))
    rw [List.nil_append, List.nil_append, ← hdP_append, show T.drop (top + k) = (T.drop top).drop k by rw [List.drop_drop], List.take_append_drop, Nat.add_zero, hdP_drop])
  clear hG hX1 hSx hT3 hR hT1 hTn hT1l hSxl hRll hRd hXR hRl0
  rcases HK2 with ⟨h1, h2⟩ | ⟨⟨h1, h3⟩, h2⟩
  · subst h2
    have hmax : max (-(k : Int)) (k : Int) = (k : Int) := by omega
    have hnm : (-(k : Int)) < (many : Int) := by omega
    have hngt : ¬ (0 : Int) < -(k : Int) := by omega
    have hkl : k < many := by omega
    have HMK := Lib.hid (show many - (many - k) = k from Nat.sub_sub_self hkm)
    have HOF := Lib.hid (show top * 2 + (many - k) * 2 = (top + (many - k)) * 2 by rw [Nat.add_mul])
    clear ha0
    go_wp2_with fail
    simp only [HMK.out, HOF.out]
    refine (clone_front S5.out.swap HONE.out (a := top + (many - k)) (m := k) (by rw [HTl.out]; omega) (by omega) (by rw [HTl.out]; omega)).mono ?_
    rintro e w5 ⟨Ag, cg, rfl, hS⟩
    obtain ⟨w6, hr6, hS6⟩ := run_copyH hS (k := 1) rfl HONE.out (top + k) top (many - k) (some ⟨gr, top * 2 + k * 2, none⟩) (some ⟨gr, top * 2, none⟩) (many - k) (c - top - k) many (c - top) (Nat.min_eq_right (by omega)) (by rw [HTl.out]; omega) (by rw [HTl.out]; omega) (fun _ => ⟨by rw [Nat.add_mul], rfl⟩) 3
    have HR6 := Lib.hid hr6
    rw [show top + k + (many - k) = top + many by omega, HCP.out, hdP_drop, hdP_take, HG.out] at hS6
    have hS6' := (show Objs w0 w6 (.heads (.slice Ag k cg) (hdP G) :: .heads (.slice (some ⟨gr, 0, none⟩) L.length c) (hdP T1 ++ (hdP Sx ++ hdP T3)) :: .pile (piP T) :: .box b7 31 (pv q) :: .box b5 23 #[.int .i64 top, .int .i64 bot] :: .box p 37 #[.int .i64 cols, .slice (some ⟨gr, 0, none⟩) L.length c] :: os) from hS6)
    have hSl := HSXL.out
    have hTl2 := HT1L.out
    obtain ⟨xs, hxs⟩ := get_of (show Sx.length - 1 < Sx.length by omega)
    have hid : top + (many - 1) = T1.length + (Sx.length - 1) := by omega
    have hxh : (hdP T1 ++ (hdP Sx ++ hdP T3))[top + (many - 1)]? = some (xs.1, xs.2.2) := by
      rw [hid, List.getElem?_append_right (by rw [hdP_length]; omega), hdP_length, Nat.add_sub_cancel_left, List.getElem?_append_left (by rw [hdP_length]; omega)]
      simp [hdP, hxs]
    have hS7 := hS6'.softHead (k := 1) (s := false) rfl hxh
    rw [hid, hdP_harden hxs, ← HXR.out, ← hid] at hS7
    obtain ⟨A8, c8, e8, -, -, -, hg8⟩ := hS6'.headsForm (k := 1) rfl
    simp only [Value.slice.injEq] at e8
    obtain ⟨rfl, -, rfl⟩ := e8
    obtain ⟨g8, e9, hz8, hcs8, hf8⟩ := hg8 (by simp only [List.length_append, hdP_length]; omega)
    cases e9
    have hx8 := (hcs8 _ _ hxh).2
    have hadr : (top + (many - 1)) * 2 + 1 = top * 2 + (many - 1) * 2 + 1 := by omega
    rw [hadr] at hx8 hS7
    have S7 := Lib.hid (ord7 hS7)
    have HAO := HA0.out
    clear hS hr6 hS6 hS6' S5 hS7 hxh hid hcs8 hg8 hadr hSl hTl2 hxs
    go_wp2_with (refine wpList_copyK rfl _ _ 35 35 rfl rfl rfl HR6.out ?_)
    clear hx8 hf8 hz8 hmax hnm hngt
    go_loopw [14, 127] (fun _ vi wr => ∃ (d : Nat) (F : List Tr), d ≤ k ∧ vi = .int .i64 d ∧ (F.length = d ∧ lnP F = rollFresh d cols q) ∧ Objs w0 wr (.heads (.slice (some ⟨gr, 0, none⟩) L.length c) (hdP X1 ++ (hdP F ++ hdP (R.drop d))) :: .box b7 31 (pv q) :: .box p 37 #[.int .i64 ↑cols, .slice (some ⟨gr, 0, none⟩) L.length c] :: .heads (.slice Ag k cg) (hdP G) :: .pile (piP T ++ piP F) :: .box b5 23 #[.int .i64 ↑top, .int .i64 ↑bot] :: os)) (fun _ vi _ => k - (intOf vi).toNat)
    case atStart => exact ⟨0, [], by omega, rfl, ⟨rfl, rfl⟩, by simpa [hdP, piP] using S7.out⟩
    case round =>
      obtain ⟨d, F, hik, rfl, hFF, hS⟩ := hrel
      have HF := Lib.hid hFF
      have S8 := Lib.hid hS
      clear hFF hS S7
      by_cases hlt : d < k
      case neg =>
        have hie : d = k := by omega
        have hX := S8.out
        have hFk := HF.out.2
        rw [hie] at hX hFk
        have hX2 := hX.dealIn HPERM.out
        have HLF := Lib.hid (HLEFT.out F hFk)
        obtain ⟨L1, hL1⟩ : ∃ L1, L1 = lnP X1 ++ (lnP F ++ lnP (R.drop k)) := ⟨_, rfl⟩
        rw [← hL1] at hX2 HLF
        have hL1l : L1.length = L.length := by rw [hL1]; simp only [List.length_append, lnP_length, List.length_drop]; have := HX1.out; have := HF.out.1; have := HRL.out; omega
        have SX := Lib.hid hX2
        obtain ⟨hx5, hf5, hz5⟩ := (hX2.box (k := 4) rfl).facts
        clear hie hX hX2 hFk hL1 S8
        by_cases ht0 : top = 0
        · have HT0 := Lib.hid (show topHard top L1 = L1 by unfold topHard; rw [if_neg (by omega)])
          have htg : ¬ (0 : Int) < (top : Int) := by omega
          have SF := Lib.hid (fin_roll SX.out)
          clear ht0
          go_wp2_with fail
          go_ret2
          exact ⟨Ag, k, cg, rfl, by rw [← HGONE.out, ← HLF.out, HT0.out]; exact SF.out⟩
        · have htg : (0 : Int) < (top : Int) := by omega
          obtain ⟨l9, hlt1⟩ := get_of (show top - 1 < L1.length by omega)
          have HT0 := Lib.hid (show L1.set (top - 1) (l9.1, false) = topHard top L1 by unfold topHard; rw [if_pos (by omega), softMod_some hlt1])
          have HWT := Lib.hid (show IntKind.i64.wrap ((top : Int) - 1) = (top : Int) - 1 from IntWalk.i64_in _ (by omega))
          have htz : (0 : Int) ≤ (top : Int) - 1 := by omega
          have htz2 : (top : Int) - 1 < (L.length : Int) := by omega
          have htz3 : ¬ (top : Int) < 1 := by omega
          have htn : ((top : Int) - 1).toNat = top - 1 := by omega
          have SY := Lib.hid (ord_roll SX.out)
          go_upto_region 31 with (fail)
          refine wp_region_stage (w0 := w0) (os := (.lines (.slice Ag k cg) (lnP G) :: .box b7 31 (pv q) :: os)) (by kernel_rfl) (by kernel_rfl) (by kernel_rfl) [(0, 9, [], fun vs => .lines (.slice (some ⟨gr, 0, none⟩) L.length c) (L1.set (top - 1) (l9.1, false)))] [[], [], [], [1], [], [2], [], [], [], [0]] [.lines (.slice (some ⟨gr, 0, none⟩) L.length c) L1, .box p 37 #[.int .i64 ↑cols, .slice (some ⟨gr, 0, none⟩) L.length c], .box b5 23 #[.int .i64 ↑top, .int .i64 ↑bot]] (fun i u => match i with | 0 => u = (.pointer (some ⟨p, 0, none⟩) : Value) | 1 => u = (.pointer (some ⟨p, 0, none⟩) : Value) | 2 => u = (.pointer (some ⟨p, 1, none⟩) : Value) | 3 => u = (.slice (some ⟨gr, 0, none⟩) L.length c : Value) | 4 => u = (.pointer (some ⟨b5, 0, none⟩) : Value) | 5 => u = (.int .i64 ↑top : Value) | 6 => u = (.int .i64 (↑top - 1) : Value) | 7 => u = (.pointer (some ⟨gr, (top - 1) * 2, none⟩) : Value) | 8 => u = (.pointer (some ⟨gr, (top - 1) * 2 + 1, none⟩) : Value) | 9 => True | _ => True) (fun vs => [.lines (.slice (some ⟨gr, 0, none⟩) L.length c) (L1.set (top - 1) (l9.1, false)), .box p 37 #[.int .i64 ↑cols, .slice (some ⟨gr, 0, none⟩) L.length c], .box b5 23 #[.int .i64 ↑top, .int .i64 ↑bot]]) (by kernel_rfl) (fun vs => by rfl) SY.out ?_ ?_
          · refine SSteps.cons (fun a w' vs σ hS hl hs hk => ?_) ?_
            · have e0 : a.tmps.getD 0 undef = (.pointer (some ⟨p, 0, none⟩) : Value) := (sk_old hk 0 (by kernel_rfl)).trans rfl
              have f0 := gd e0
              exact ro_pure (v := .pointer (some ⟨p, 0, none⟩)) (wanted_none rfl) (by simp [execOp, Act.eval, e0, f0, go_sem]) (sp_same (by kernel_rfl) hl hs hS (show (.pointer (some ⟨p, 0, none⟩) : Value) = _ from rfl)) trivial
            refine SSteps.cons (fun a w' vs σ hS hl hs hk => ?_) ?_
            · have e143 : a.tmps.getD 143 undef = (.pointer (some ⟨p, 0, none⟩) : Value) := (sk_val hk 0 (by kernel_rfl) rfl rfl).trans ((hk.1 0 (by kernel_rfl)).1)
              have f143 := gd e143
              exact ro_pure (v := .pointer (some ⟨p, 0, none⟩)) (wanted_none rfl) (by simp [execOp, Act.eval, e143, f143, go_sem]) (sp_same (by kernel_rfl) hl hs hS (show (.pointer (some ⟨p, 0, none⟩) : Value) = _ from rfl)) trivial
            refine SSteps.cons (fun a w' vs σ hS hl hs hk => ?_) ?_
            · have e144 : a.tmps.getD 144 undef = (.pointer (some ⟨p, 0, none⟩) : Value) := (sk_val hk 1 (by kernel_rfl) rfl rfl).trans ((hk.1 1 (by kernel_rfl)).1)
              have f144 := gd e144
              exact ro_pure (v := .pointer (some ⟨p, 1, none⟩)) (wanted_none rfl) (by simp [execOp, Act.eval, e144, f144, go_sem]) (sp_same (by kernel_rfl) hl hs hS (show (.pointer (some ⟨p, 1, none⟩) : Value) = _ from rfl)) trivial
            refine SSteps.cons (fun a w' vs σ hS hl hs hk => ?_) ?_
            · have e145 : a.tmps.getD 145 undef = (.pointer (some ⟨p, 1, none⟩) : Value) := (sk_val hk 2 (by kernel_rfl) rfl rfl).trans ((hk.1 2 (by kernel_rfl)).1)
              have f145 := gd e145
              have hx := (hS.box (sg (hs 1 (by decide)))).cell
              exact ro_pure (v := .slice (some ⟨gr, 0, none⟩) L.length c) (wanted_none rfl) (by simp [execOp, Act.eval, e145, f145, go_sem, hx]) (sp_same (by kernel_rfl) hl hs hS (show (.slice (some ⟨gr, 0, none⟩) L.length c : Value) = _ from rfl)) trivial
            refine SSteps.cons (fun a w' vs σ hS hl hs hk => ?_) ?_
            · have e5 : a.tmps.getD 5 undef = (.pointer (some ⟨b5, 0, none⟩) : Value) := (sk_old hk 5 (by kernel_rfl)).trans rfl
              have f5 := gd e5
              exact ro_pure (v := .pointer (some ⟨b5, 0, none⟩)) (wanted_none rfl) (by simp [execOp, Act.eval, e5, f5, go_sem]) (sp_same (by kernel_rfl) hl hs hS (show (.pointer (some ⟨b5, 0, none⟩) : Value) = _ from rfl)) trivial
            refine SSteps.cons (fun a w' vs σ hS hl hs hk => ?_) ?_
            · have e147 : a.tmps.getD 147 undef = (.pointer (some ⟨b5, 0, none⟩) : Value) := (sk_val hk 4 (by kernel_rfl) rfl rfl).trans ((hk.1 4 (by kernel_rfl)).1)
              have f147 := gd e147
              have hx := (hS.box (sg (hs 2 (by decide)))).cell
              exact ro_pure (v := .int .i64 ↑top) (wanted_none rfl) (by simp [execOp, Act.eval, e147, f147, go_sem, hx]) (sp_same (by kernel_rfl) hl hs hS (show (.int .i64 ↑top : Value) = _ from rfl)) trivial
            refine SSteps.cons (fun a w' vs σ hS hl hs hk => ?_) ?_
            · have e148 : a.tmps.getD 148 undef = (.int .i64 ↑top : Value) := (sk_val hk 5 (by kernel_rfl) rfl rfl).trans ((hk.1 5 (by kernel_rfl)).1)
              have f148 := gd e148
              exact ro_pure (v := .int .i64 (↑top - 1)) (wanted_none rfl) (by simp [execOp, Act.eval, e148, f148, go_sem, HWT.out]) (sp_same (by kernel_rfl) hl hs hS (show (.int .i64 (↑top - 1) : Value) = _ from rfl)) trivial
            refine SSteps.cons (fun a w' vs σ hS hl hs hk => ?_) ?_
            · have e146 : a.tmps.getD 146 undef = (.slice (some ⟨gr, 0, none⟩) L.length c : Value) := (sk_val hk 3 (by kernel_rfl) rfl rfl).trans ((hk.1 3 (by kernel_rfl)).1)
              have f146 := gd e146
              have e149 : a.tmps.getD 149 undef = (.int .i64 (↑top - 1) : Value) := (sk_val hk 6 (by kernel_rfl) rfl rfl).trans ((hk.1 6 (by kernel_rfl)).1)
              have f149 := gd e149
              exact ro_pure (v := .pointer (some ⟨gr, (top - 1) * 2, none⟩)) (wanted_none rfl) (by simp [execOp, Act.eval, e146, f146, e149, f149, go_sem, htz, htz2, htn, htz3]) (sp_same (by kernel_rfl) hl hs hS (show (.pointer (some ⟨gr, (top - 1) * 2, none⟩) : Value) = _ from rfl)) trivial
            refine SSteps.cons (fun a w' vs σ hS hl hs hk => ?_) ?_
            · have e150 : a.tmps.getD 150 undef = (.pointer (some ⟨gr, (top - 1) * 2, none⟩) : Value) := (sk_val hk 7 (by kernel_rfl) rfl rfl).trans ((hk.1 7 (by kernel_rfl)).1)
              have f150 := gd e150
              exact ro_pure (v := .pointer (some ⟨gr, (top - 1) * 2 + 1, none⟩)) (wanted_none rfl) (by simp [execOp, Act.eval, e150, f150, go_sem]) (sp_same (by kernel_rfl) hl hs hS (show (.pointer (some ⟨gr, (top - 1) * 2 + 1, none⟩) : Value) = _ from rfl)) trivial
            refine SSteps.cons (fun a w' vs σ hS hl hs hk => ?_) ?_
            · have e151 : a.tmps.getD 151 undef = (.pointer (some ⟨gr, (top - 1) * 2 + 1, none⟩) : Value) := (sk_val hk 8 (by kernel_rfl) rfl rfl).trans ((hk.1 8 (by kernel_rfl)).1)
              have f151 := gd e151
              have h1 : σ[0]? = some (.lines (.slice (some ⟨gr, 0, none⟩) L.length c) L1) := hs 0 (by decide)
              obtain ⟨F9, bs9, hF9, -⟩ := hS.get (sg h1)
              obtain ⟨A9, c9, e9, -, -, -, hg9⟩ := hF9.form
              simp only [Value.slice.injEq] at e9
              obtain ⟨rfl, -, rfl⟩ := e9
              obtain ⟨g9, e9', hz, -, hso, hf⟩ := hg9 (by omega)
              cases e9'
              have hx := hso _ _ hlt1
              exact rstep_store (w2 := w'.setCell ⟨gr, (top - 1) * 2 + 1, none⟩ (.bool false)) (wanted_none rfl) rfl (by simp [execOp, Act.eval, e151, f151, hx, hf, hz, go_sem]) (sp_set 0 (.lines (.slice (some ⟨gr, 0, none⟩) L.length c) (L1.set (top - 1) (l9.1, false))) (by kernel_rfl) (by simp) (by decide) hl hs (by rfl) (hS.storeSoft (sg h1) hlt1) trivial) trivial
            exact SSteps.nil
          · intro vs w' hS hv
            have q0 := (show vs 0 = (.pointer (some ⟨p, 0, none⟩) : Value) from hv 0 (by decide))
            have q1 := (show vs 1 = (.pointer (some ⟨p, 0, none⟩) : Value) from hv 1 (by decide))
            have q2 := (show vs 2 = (.pointer (some ⟨p, 1, none⟩) : Value) from hv 2 (by decide))
            have q3 := (show vs 3 = (.slice (some ⟨gr, 0, none⟩) L.length c : Value) from hv 3 (by decide))
            have q4 := (show vs 4 = (.pointer (some ⟨b5, 0, none⟩) : Value) from hv 4 (by decide))
            have q5 := (show vs 5 = (.int .i64 ↑top : Value) from hv 5 (by decide))
            have q6 := (show vs 6 = (.int .i64 (↑top - 1) : Value) from hv 6 (by decide))
            have q7 := (show vs 7 = (.pointer (some ⟨gr, (top - 1) * 2, none⟩) : Value) from hv 7 (by decide))
            have q8 := (show vs 8 = (.pointer (some ⟨gr, (top - 1) * 2 + 1, none⟩) : Value) from hv 8 (by decide))
            have S2 := Lib.hid hS
            simp only [putL, Act.put, Nat.zero_add, Nat.reduceAdd, List.setIfInBounds_toArray, List.set_cons_succ, List.set_cons_zero, q0, q1, q2, q3, q4, q5, q6, q7, q8]
            clear hS hv q0 q1 q2 q3 q4 q5 q6 q7 q8
            have S9 := S2.out
            rw [HT0.out] at S9
            have SF := Lib.hid (fin_roll2 S9)
            clear S9 S2
            go_wp2_with fail
            go_ret2
            exact ⟨Ag, k, cg, rfl, by rw [← HGONE.out, ← HLF.out]; exact SF.out⟩
      have hiR : d < R.length := by omega
      have hiz : (0 : Int) ≤ (d : Int) := by omega
      have hiz2 : (d : Int) < (k : Int) := by omega
      have hoff : top * 2 + d * 2 = (a0 + d) * 2 := by omega
      have HHL := Lib.hid (show (hdP X1 ++ (hdP F ++ hdP (R.drop d))).length = a0 + (d + (R.length - d)) by simp only [List.length_append, hdP_length, List.length_drop, HX1.out, HF.out.1])
      have SZ := Lib.hid S8.out.pad
      clear S8
      go_upto_region 28 with (fail)
      refine wp_region_stage (w0 := w0) (os := (.heads (.slice Ag k cg) (hdP G) :: .pile (piP T ++ piP F) :: .box b5 23 #[.int .i64 ↑top, .int .i64 ↑bot] :: os)) (by kernel_rfl) (by kernel_rfl) (by kernel_rfl) [(0, 7, [7], fun vs => .cells (lineV (vs 7)) (List.replicate cols (blank q))), (1, 9, [7], fun vs => .heads (.slice (some ⟨gr, 0, none⟩) L.length c) (List.set (hdP X1 ++ (hdP F ++ hdP (R.drop d))) (a0 + d) (lineV (vs 7), false)))] [[], [], [], [], [], [3], [2], [0], [], [1]] [.none, .heads (.slice (some ⟨gr, 0, none⟩) L.length c) (hdP X1 ++ (hdP F ++ hdP (R.drop d))), .box b7 31 (pv q), .box p 37 #[.int .i64 ↑cols, .slice (some ⟨gr, 0, none⟩) L.length c]] (fun i u => match i with | 0 => u = (.slice (some ⟨gr, top * 2, none⟩) k (c - top) : Value) | 1 => u = (.int .i64 ↑d : Value) | 2 => u = (.pointer (some ⟨p, 0, none⟩) : Value) | 3 => u = (.pointer (some ⟨p, 0, none⟩) : Value) | 4 => u = (.pointer (some ⟨p, 0, none⟩) : Value) | 5 => u = (.int .i64 ↑cols : Value) | 6 => u = (.agg (pv q) : Value) | 7 => ∃ A m c, u = .agg #[.slice A m c, .bool false] | 8 => u = (.pointer (some ⟨gr, (a0 + d) * 2, none⟩) : Value) | 9 => True | _ => True) (fun vs => [.cells (lineV (vs 7)) (List.replicate cols (blank q)), .heads (.slice (some ⟨gr, 0, none⟩) L.length c) (List.set (hdP X1 ++ (hdP F ++ hdP (R.drop d))) (a0 + d) (lineV (vs 7), false)), .box b7 31 (pv q), .box p 37 #[.int .i64 ↑cols, .slice (some ⟨gr, 0, none⟩) L.length c]]) (by kernel_rfl) (fun vs => by rfl) SZ.out ?_ ?_
      · refine SSteps.cons (fun a w' vs σ hS hl hs hk => ?_) ?_
        · have e13 : a.tmps.getD 13 undef = (.slice (some ⟨gr, top * 2, none⟩) k (c - top) : Value) := (sk_old hk 13 (by kernel_rfl)).trans rfl
          have f13 := gd e13
          exact ro_pure (v := .slice (some ⟨gr, top * 2, none⟩) k (c - top)) (wanted_none rfl) (by simp [execOp, Act.eval, e13, f13, go_sem]) (sp_same (by kernel_rfl) hl hs hS (show (.slice (some ⟨gr, top * 2, none⟩) k (c - top) : Value) = _ from rfl)) trivial
        refine SSteps.cons (fun a w' vs σ hS hl hs hk => ?_) ?_
        · have e14 : a.tmps.getD 14 undef = (.int .i64 ↑d : Value) := (sk_old hk 14 (by kernel_rfl)).trans rfl
          have f14 := gd e14
          exact ro_pure (v := .int .i64 ↑d) (wanted_none rfl) (by simp [execOp, Act.eval, e14, f14, go_sem]) (sp_same (by kernel_rfl) hl hs hS (show (.int .i64 ↑d : Value) = _ from rfl)) trivial
        refine SSteps.cons (fun a w' vs σ hS hl hs hk => ?_) ?_
        · have e0 : a.tmps.getD 0 undef = (.pointer (some ⟨p, 0, none⟩) : Value) := (sk_old hk 0 (by kernel_rfl)).trans rfl
          have f0 := gd e0
          exact ro_pure (v := .pointer (some ⟨p, 0, none⟩)) (wanted_none rfl) (by simp [execOp, Act.eval, e0, f0, go_sem]) (sp_same (by kernel_rfl) hl hs hS (show (.pointer (some ⟨p, 0, none⟩) : Value) = _ from rfl)) trivial
        refine SSteps.cons (fun a w' vs σ hS hl hs hk => ?_) ?_
        · have e132 : a.tmps.getD 132 undef = (.pointer (some ⟨p, 0, none⟩) : Value) := (sk_val hk 2 (by kernel_rfl) rfl rfl).trans ((hk.1 2 (by kernel_rfl)).1)
          have f132 := gd e132
          exact ro_pure (v := .pointer (some ⟨p, 0, none⟩)) (wanted_none rfl) (by simp [execOp, Act.eval, e132, f132, go_sem]) (sp_same (by kernel_rfl) hl hs hS (show (.pointer (some ⟨p, 0, none⟩) : Value) = _ from rfl)) trivial
        refine SSteps.cons (fun a w' vs σ hS hl hs hk => ?_) ?_
        · have e133 : a.tmps.getD 133 undef = (.pointer (some ⟨p, 0, none⟩) : Value) := (sk_val hk 3 (by kernel_rfl) rfl rfl).trans ((hk.1 3 (by kernel_rfl)).1)
          have f133 := gd e133
          exact ro_pure (v := .pointer (some ⟨p, 0, none⟩)) (wanted_none rfl) (by simp [execOp, Act.eval, e133, f133, go_sem]) (sp_same (by kernel_rfl) hl hs hS (show (.pointer (some ⟨p, 0, none⟩) : Value) = _ from rfl)) trivial
        refine SSteps.cons (fun a w' vs σ hS hl hs hk => ?_) ?_
        · have e134 : a.tmps.getD 134 undef = (.pointer (some ⟨p, 0, none⟩) : Value) := (sk_val hk 4 (by kernel_rfl) rfl rfl).trans ((hk.1 4 (by kernel_rfl)).1)
          have f134 := gd e134
          have hx := (hS.box (sg (hs 3 (by decide)))).cell
          exact ro_pure (v := .int .i64 ↑cols) (wanted_none rfl) (by simp [execOp, Act.eval, e134, f134, go_sem, hx]) (sp_same (by kernel_rfl) hl hs hS (show (.int .i64 ↑cols : Value) = _ from rfl)) trivial
        refine SSteps.cons (fun a w' vs σ hS hl hs hk => ?_) ?_
        · have e7 : a.tmps.getD 7 undef = (.pointer (some ⟨b7, 0, none⟩) : Value) := (sk_old hk 7 (by kernel_rfl)).trans rfl
          have f7 := gd e7
          have hx := (hS.box (sg (hs 2 (by decide)))).penAt
          exact ro_pure (v := .agg (pv q)) (wanted_none rfl) (by simp [execOp, Act.eval, e7, f7, go_sem, hx]) (sp_same (by kernel_rfl) hl hs hS (show (.agg (pv q) : Value) = _ from rfl)) trivial
        refine SSteps.cons (fun a w' vs σ hS hl hs hk => ?_) ?_
        · have e135 : a.tmps.getD 135 undef = (.int .i64 ↑cols : Value) := (sk_val hk 5 (by kernel_rfl) rfl rfl).trans ((hk.1 5 (by kernel_rfl)).1)
          have f135 := gd e135
          have e136 : a.tmps.getD 136 undef = (.agg (pv q) : Value) := (sk_val hk 6 (by kernel_rfl) rfl rfl).trans ((hk.1 6 (by kernel_rfl)).1)
          have f136 := gd e136
          have h0 : σ[0]? = some .none := hs 0 (by decide)
          exact ro_call (f := 67) (wanted_none rfl) rfl (by simp only [List.map_toArray, List.map_cons, List.map_nil, Act.eval, e135, e136] <;> rfl) (fun _ _ => by kernel_rfl) ((gridblanks_any cols hcm q _ _ _ hS).mono fun e w2 ⟨x, h1, h2⟩ => ⟨_, h1, sp_set 0 (.cells x (List.replicate cols (blank q))) (by kernel_rfl) (by simp) (by decide) hl hs (by rfl) (h2.place (sg h0)) (by obtain ⟨A', c', e, -⟩ := h2.cellsRd (k := 0) rfl; exact ⟨A', _, c', by rw [e]⟩), trivial⟩)
        refine SSteps.cons (fun a w' vs σ hS hl hs hk => ?_) ?_
        · have e130 : a.tmps.getD 130 undef = (.slice (some ⟨gr, top * 2, none⟩) k (c - top) : Value) := (sk_val hk 0 (by kernel_rfl) rfl rfl).trans ((hk.1 0 (by kernel_rfl)).1)
          have f130 := gd e130
          have e131 : a.tmps.getD 131 undef = (.int .i64 ↑d : Value) := (sk_val hk 1 (by kernel_rfl) rfl rfl).trans ((hk.1 1 (by kernel_rfl)).1)
          have f131 := gd e131
          exact ro_pure (v := .pointer (some ⟨gr, (a0 + d) * 2, none⟩)) (wanted_none rfl) (by simp [execOp, Act.eval, e130, f130, e131, f131, go_sem, hiz, hiz2, hoff]) (sp_same (by kernel_rfl) hl hs hS (show (.pointer (some ⟨gr, (a0 + d) * 2, none⟩) : Value) = _ from rfl)) trivial
        refine SSteps.cons (fun a w' vs σ hS hl hs hk => ?_) ?_
        · have e138 : a.tmps.getD 138 undef = (.pointer (some ⟨gr, (a0 + d) * 2, none⟩) : Value) := (sk_val hk 8 (by kernel_rfl) rfl rfl).trans ((hk.1 8 (by kernel_rfl)).1)
          have f138 := gd e138
          have e137 : a.tmps.getD 137 undef = vs 7 := sk_val hk 7 (by kernel_rfl) rfl rfl
          have p137 : (fun u : Value => ∃ A m c, u = .agg #[.slice A m c, .bool false]) (vs 7) := (hk.1 7 (by kernel_rfl)).1
          have f137 := gd e137
          obtain ⟨A7, n7, c7, q7⟩ := p137
          have h1 : σ[1]? = some (.heads (.slice (some ⟨gr, 0, none⟩) L.length c) (hdP X1 ++ (hdP F ++ hdP (R.drop d)))) := hs 1 (by decide)
          obtain ⟨A8, c8, e8, -, -, -, hg8⟩ := hS.headsForm (sg h1)
          simp only [Value.slice.injEq] at e8
          obtain ⟨rfl, -, rfl⟩ := e8
          have hHl := HHL.out
          obtain ⟨g8, e9, hz, hcs, hf⟩ := hg8 (by omega)
          cases e9
          obtain ⟨x8, hx8⟩ := get_of (show a0 + d < (hdP X1 ++ (hdP F ++ hdP (R.drop d))).length by omega)
          obtain ⟨hx, hx'⟩ := hcs (a0 + d) x8 hx8
          exact rstep_store (w2 := (w'.setCell ⟨gr, (a0 + d) * 2, none⟩ (.slice A7 n7 c7)).setCell ⟨gr, (a0 + d) * 2 + 1, none⟩ (.bool false)) (wanted_none rfl) rfl (by simp [execOp, Act.eval, e138, f138, e137, f137, q7, hx, hx', hf, hz, go_sem]) (sp_set 1 (.heads (.slice (some ⟨gr, 0, none⟩) L.length c) (List.set (hdP X1 ++ (hdP F ++ hdP (R.drop d))) (a0 + d) (.slice A7 n7 c7, false))) (by kernel_rfl) (by simp) (by decide) hl hs (by show Ob.heads _ (List.set _ _ (lineV (vs 7), false)) = _; rw [q7]; rfl) (hS.storeHead (sg h1)) trivial) trivial
        exact SSteps.nil
      · intro vs w' hS hv
        have q0 := (show vs 0 = (.slice (some ⟨gr, top * 2, none⟩) k (c - top) : Value) from hv 0 (by decide))
        have q1 := (show vs 1 = (.int .i64 ↑d : Value) from hv 1 (by decide))
        have q2 := (show vs 2 = (.pointer (some ⟨p, 0, none⟩) : Value) from hv 2 (by decide))
        have q3 := (show vs 3 = (.pointer (some ⟨p, 0, none⟩) : Value) from hv 3 (by decide))
        have q4 := (show vs 4 = (.pointer (some ⟨p, 0, none⟩) : Value) from hv 4 (by decide))
        have q5 := (show vs 5 = (.int .i64 ↑cols : Value) from hv 5 (by decide))
        have q6 := (show vs 6 = (.agg (pv q) : Value) from hv 6 (by decide))
        have q8 := (show vs 8 = (.pointer (some ⟨gr, (a0 + d) * 2, none⟩) : Value) from hv 8 (by decide))
        obtain ⟨A7, n7, c7, q7⟩ := (show ∃ A m c, vs 7 = .agg #[.slice A m c, .bool false] from hv 7 (by decide))
        rw [q7] at hS
        have S2 := Lib.hid hS
        simp only [putL, Act.put, Nat.zero_add, Nat.reduceAdd, List.setIfInBounds_toArray, List.set_cons_succ, List.set_cons_zero, q0, q1, q2, q3, q4, q5, q6, q8]
        clear hS hv q0 q1 q2 q3 q4 q5 q6 q8
        simp only [q7]
        have S9 := S2.out
        rw [show lineV (.agg #[.slice A7 n7 c7, .bool false]) = .slice A7 n7 c7 from rfl, hdP_fill (.slice A7 n7 c7) (List.replicate cols (blank q)) false HX1.out HF.out.1 hiR] at S9
        have S10 := Lib.hid (show Objs w0 w' (.heads (.slice (some ⟨gr, 0, none⟩) L.length c) (hdP X1 ++ (hdP (F ++ [(.slice A7 n7 c7, (List.replicate cols (blank q)), false)]) ++ hdP (R.drop (d + 1)))) :: .box b7 31 (pv q) :: .box p 37 #[.int .i64 ↑cols, .slice (some ⟨gr, 0, none⟩) L.length c] :: .heads (.slice Ag k cg) (hdP G) :: .pile (piP T ++ piP (F ++ [(.slice A7 n7 c7, (List.replicate cols (blank q)), false)])) :: .box b5 23 #[.int .i64 ↑top, .int .i64 ↑bot] :: os) from by have := Objs.pileIn S9; rw [List.append_assoc] at this; rw [piP_append]; exact this)
        clear S9 S2
        go_wp2_with fail
        go_roundw
        case rel => exact ⟨d + 1, F ++ [(.slice A7 n7 c7, (List.replicate cols (blank q)), false)], by omega, by go_num, ⟨by simp [HF.out.1], by rw [lnP_append, HF.out.2]; unfold rollFresh; rw [List.replicate_succ']; rfl⟩, S10.out⟩
        case measure => simp [intOf]; omega
  · have hnl : ¬ -(many : Int) < n := by omega
    have hngt : ¬ (0 : Int) < n := by omega
    subst h2
    have HPB2 := Lib.hid (HPB.out rfl)
    have HG2 := HG.out
    rw [Nat.sub_self, Nat.add_zero] at HG2
    have HG := Lib.hid HG2
    clear HPB ha0 HG2
    by_cases hcap : c - top = k
    · go_wp2_with fail
      refine (clone_front S5.out.swap HONE.out (a := top) (m := k) (by rw [HTl.out]; omega) (by omega) (by rw [HTl.out]; omega)).mono ?_
      rintro e w5 ⟨Ag, cg, rfl, hS⟩
      obtain ⟨w6, hr6, hS6⟩ := run_copyH hS (k := 1) rfl HONE.out top top 0 (some ⟨gr, top * 2, none⟩) (some ⟨gr, top * 2, none⟩) 0 (0) k (k) (Nat.min_zero _) (by rw [HTl.out]; omega) (by rw [HTl.out]; omega) (fun h => absurd h (by omega)) 3
      have HR6 := Lib.hid hr6
      rw [hdP_drop T top, hdP_take, HG.out, ← hdP_drop T top, HPB2.out] at hS6
      have S7 := Lib.hid (ord7 (show Objs w0 w6 (.heads (.slice Ag k cg) (hdP G) :: .heads (.slice (some ⟨gr, 0, none⟩) L.length c) (hdP X1 ++ hdP R) :: .pile (piP T) :: .box b7 31 (pv q) :: .box b5 23 #[.int .i64 top, .int .i64 bot] :: .box p 37 #[.int .i64 cols, .slice (some ⟨gr, 0, none⟩) L.length c] :: os) from hS6))
      have HAO := HA0.out
      clear hS hr6 hS6 S5
      go_wp2_with (refine wpList_copyK rfl _ _ 35 35 rfl rfl rfl HR6.out ?_)
      go_loopw [14, 127] (fun _ vi wr => ∃ (d : Nat) (F : List Tr), d ≤ k ∧ vi = .int .i64 d ∧ (F.length = d ∧ lnP F = rollFresh d cols q) ∧ Objs w0 wr (.heads (.slice (some ⟨gr, 0, none⟩) L.length c) (hdP X1 ++ (hdP F ++ hdP (R.drop d))) :: .box b7 31 (pv q) :: .box p 37 #[.int .i64 ↑cols, .slice (some ⟨gr, 0, none⟩) L.length c] :: .heads (.slice Ag k cg) (hdP G) :: .pile (piP T ++ piP F) :: .box b5 23 #[.int .i64 ↑top, .int .i64 ↑bot] :: os)) (fun _ vi _ => k - (intOf vi).toNat)
      case atStart => exact ⟨0, [], by omega, rfl, ⟨rfl, rfl⟩, by simpa [hdP, piP] using S7.out⟩
      case round =>
        obtain ⟨d, F, hik, rfl, hFF, hS⟩ := hrel
        have HF := Lib.hid hFF
        have S8 := Lib.hid hS
        clear hFF hS S7
        by_cases hlt : d < k
        case neg =>
          have hie : d = k := by omega
          have hX := S8.out
          have hFk := HF.out.2
          rw [hie] at hX hFk
          have hX2 := hX.dealIn HPERM.out
          have HLF := Lib.hid (HLEFT.out F hFk)
          obtain ⟨L1, hL1⟩ : ∃ L1, L1 = lnP X1 ++ (lnP F ++ lnP (R.drop k)) := ⟨_, rfl⟩
          rw [← hL1] at hX2 HLF
          have hL1l : L1.length = L.length := by rw [hL1]; simp only [List.length_append, lnP_length, List.length_drop]; have := HX1.out; have := HF.out.1; have := HRL.out; omega
          have SX := Lib.hid hX2
          obtain ⟨hx5, hf5, hz5⟩ := (hX2.box (k := 4) rfl).facts
          clear hie hX hX2 hFk hL1 S8
          by_cases ht0 : top = 0
          · have HT0 := Lib.hid (show topHard top L1 = L1 by unfold topHard; rw [if_neg (by omega)])
            have htg : ¬ (0 : Int) < (top : Int) := by omega
            have SF := Lib.hid (fin_roll SX.out)
            clear ht0
            go_wp2_with fail
            go_ret2
            exact ⟨Ag, k, cg, rfl, by rw [← HGONE.out, ← HLF.out, HT0.out]; exact SF.out⟩
          · have htg : (0 : Int) < (top : Int) := by omega
            obtain ⟨l9, hlt1⟩ := get_of (show top - 1 < L1.length by omega)
            have HT0 := Lib.hid (show L1.set (top - 1) (l9.1, false) = topHard top L1 by unfold topHard; rw [if_pos (by omega), softMod_some hlt1])
            have HWT := Lib.hid (show IntKind.i64.wrap ((top : Int) - 1) = (top : Int) - 1 from IntWalk.i64_in _ (by omega))
            have htz : (0 : Int) ≤ (top : Int) - 1 := by omega
            have htz2 : (top : Int) - 1 < (L.length : Int) := by omega
            have htz3 : ¬ (top : Int) < 1 := by omega
            have htn : ((top : Int) - 1).toNat = top - 1 := by omega
            have SY := Lib.hid (ord_roll SX.out)
            go_upto_region 31 with (fail)
            refine wp_region_stage (w0 := w0) (os := (.lines (.slice Ag k cg) (lnP G) :: .box b7 31 (pv q) :: os)) (by kernel_rfl) (by kernel_rfl) (by kernel_rfl) [(0, 9, [], fun vs => .lines (.slice (some ⟨gr, 0, none⟩) L.length c) (L1.set (top - 1) (l9.1, false)))] [[], [], [], [1], [], [2], [], [], [], [0]] [.lines (.slice (some ⟨gr, 0, none⟩) L.length c) L1, .box p 37 #[.int .i64 ↑cols, .slice (some ⟨gr, 0, none⟩) L.length c], .box b5 23 #[.int .i64 ↑top, .int .i64 ↑bot]] (fun i u => match i with | 0 => u = (.pointer (some ⟨p, 0, none⟩) : Value) | 1 => u = (.pointer (some ⟨p, 0, none⟩) : Value) | 2 => u = (.pointer (some ⟨p, 1, none⟩) : Value) | 3 => u = (.slice (some ⟨gr, 0, none⟩) L.length c : Value) | 4 => u = (.pointer (some ⟨b5, 0, none⟩) : Value) | 5 => u = (.int .i64 ↑top : Value) | 6 => u = (.int .i64 (↑top - 1) : Value) | 7 => u = (.pointer (some ⟨gr, (top - 1) * 2, none⟩) : Value) | 8 => u = (.pointer (some ⟨gr, (top - 1) * 2 + 1, none⟩) : Value) | 9 => True | _ => True) (fun vs => [.lines (.slice (some ⟨gr, 0, none⟩) L.length c) (L1.set (top - 1) (l9.1, false)), .box p 37 #[.int .i64 ↑cols, .slice (some ⟨gr, 0, none⟩) L.length c], .box b5 23 #[.int .i64 ↑top, .int .i64 ↑bot]]) (by kernel_rfl) (fun vs => by rfl) SY.out ?_ ?_
            · refine SSteps.cons (fun a w' vs σ hS hl hs hk => ?_) ?_
              · have e0 : a.tmps.getD 0 undef = (.pointer (some ⟨p, 0, none⟩) : Value) := (sk_old hk 0 (by kernel_rfl)).trans rfl
                have f0 := gd e0
                exact ro_pure (v := .pointer (some ⟨p, 0, none⟩)) (wanted_none rfl) (by simp [execOp, Act.eval, e0, f0, go_sem]) (sp_same (by kernel_rfl) hl hs hS (show (.pointer (some ⟨p, 0, none⟩) : Value) = _ from rfl)) trivial
              refine SSteps.cons (fun a w' vs σ hS hl hs hk => ?_) ?_
              · have e143 : a.tmps.getD 143 undef = (.pointer (some ⟨p, 0, none⟩) : Value) := (sk_val hk 0 (by kernel_rfl) rfl rfl).trans ((hk.1 0 (by kernel_rfl)).1)
                have f143 := gd e143
                exact ro_pure (v := .pointer (some ⟨p, 0, none⟩)) (wanted_none rfl) (by simp [execOp, Act.eval, e143, f143, go_sem]) (sp_same (by kernel_rfl) hl hs hS (show (.pointer (some ⟨p, 0, none⟩) : Value) = _ from rfl)) trivial
              refine SSteps.cons (fun a w' vs σ hS hl hs hk => ?_) ?_
              · have e144 : a.tmps.getD 144 undef = (.pointer (some ⟨p, 0, none⟩) : Value) := (sk_val hk 1 (by kernel_rfl) rfl rfl).trans ((hk.1 1 (by kernel_rfl)).1)
                have f144 := gd e144
                exact ro_pure (v := .pointer (some ⟨p, 1, none⟩)) (wanted_none rfl) (by simp [execOp, Act.eval, e144, f144, go_sem]) (sp_same (by kernel_rfl) hl hs hS (show (.pointer (some ⟨p, 1, none⟩) : Value) = _ from rfl)) trivial
              refine SSteps.cons (fun a w' vs σ hS hl hs hk => ?_) ?_
              · have e145 : a.tmps.getD 145 undef = (.pointer (some ⟨p, 1, none⟩) : Value) := (sk_val hk 2 (by kernel_rfl) rfl rfl).trans ((hk.1 2 (by kernel_rfl)).1)
                have f145 := gd e145
                have hx := (hS.box (sg (hs 1 (by decide)))).cell
                exact ro_pure (v := .slice (some ⟨gr, 0, none⟩) L.length c) (wanted_none rfl) (by simp [execOp, Act.eval, e145, f145, go_sem, hx]) (sp_same (by kernel_rfl) hl hs hS (show (.slice (some ⟨gr, 0, none⟩) L.length c : Value) = _ from rfl)) trivial
              refine SSteps.cons (fun a w' vs σ hS hl hs hk => ?_) ?_
              · have e5 : a.tmps.getD 5 undef = (.pointer (some ⟨b5, 0, none⟩) : Value) := (sk_old hk 5 (by kernel_rfl)).trans rfl
                have f5 := gd e5
                exact ro_pure (v := .pointer (some ⟨b5, 0, none⟩)) (wanted_none rfl) (by simp [execOp, Act.eval, e5, f5, go_sem]) (sp_same (by kernel_rfl) hl hs hS (show (.pointer (some ⟨b5, 0, none⟩) : Value) = _ from rfl)) trivial
              refine SSteps.cons (fun a w' vs σ hS hl hs hk => ?_) ?_
              · have e147 : a.tmps.getD 147 undef = (.pointer (some ⟨b5, 0, none⟩) : Value) := (sk_val hk 4 (by kernel_rfl) rfl rfl).trans ((hk.1 4 (by kernel_rfl)).1)
                have f147 := gd e147
                have hx := (hS.box (sg (hs 2 (by decide)))).cell
                exact ro_pure (v := .int .i64 ↑top) (wanted_none rfl) (by simp [execOp, Act.eval, e147, f147, go_sem, hx]) (sp_same (by kernel_rfl) hl hs hS (show (.int .i64 ↑top : Value) = _ from rfl)) trivial
              refine SSteps.cons (fun a w' vs σ hS hl hs hk => ?_) ?_
              · have e148 : a.tmps.getD 148 undef = (.int .i64 ↑top : Value) := (sk_val hk 5 (by kernel_rfl) rfl rfl).trans ((hk.1 5 (by kernel_rfl)).1)
                have f148 := gd e148
                exact ro_pure (v := .int .i64 (↑top - 1)) (wanted_none rfl) (by simp [execOp, Act.eval, e148, f148, go_sem, HWT.out]) (sp_same (by kernel_rfl) hl hs hS (show (.int .i64 (↑top - 1) : Value) = _ from rfl)) trivial
              refine SSteps.cons (fun a w' vs σ hS hl hs hk => ?_) ?_
              · have e146 : a.tmps.getD 146 undef = (.slice (some ⟨gr, 0, none⟩) L.length c : Value) := (sk_val hk 3 (by kernel_rfl) rfl rfl).trans ((hk.1 3 (by kernel_rfl)).1)
                have f146 := gd e146
                have e149 : a.tmps.getD 149 undef = (.int .i64 (↑top - 1) : Value) := (sk_val hk 6 (by kernel_rfl) rfl rfl).trans ((hk.1 6 (by kernel_rfl)).1)
                have f149 := gd e149
                exact ro_pure (v := .pointer (some ⟨gr, (top - 1) * 2, none⟩)) (wanted_none rfl) (by simp [execOp, Act.eval, e146, f146, e149, f149, go_sem, htz, htz2, htn, htz3]) (sp_same (by kernel_rfl) hl hs hS (show (.pointer (some ⟨gr, (top - 1) * 2, none⟩) : Value) = _ from rfl)) trivial
              refine SSteps.cons (fun a w' vs σ hS hl hs hk => ?_) ?_
              · have e150 : a.tmps.getD 150 undef = (.pointer (some ⟨gr, (top - 1) * 2, none⟩) : Value) := (sk_val hk 7 (by kernel_rfl) rfl rfl).trans ((hk.1 7 (by kernel_rfl)).1)
                have f150 := gd e150
                exact ro_pure (v := .pointer (some ⟨gr, (top - 1) * 2 + 1, none⟩)) (wanted_none rfl) (by simp [execOp, Act.eval, e150, f150, go_sem]) (sp_same (by kernel_rfl) hl hs hS (show (.pointer (some ⟨gr, (top - 1) * 2 + 1, none⟩) : Value) = _ from rfl)) trivial
              refine SSteps.cons (fun a w' vs σ hS hl hs hk => ?_) ?_
              · have e151 : a.tmps.getD 151 undef = (.pointer (some ⟨gr, (top - 1) * 2 + 1, none⟩) : Value) := (sk_val hk 8 (by kernel_rfl) rfl rfl).trans ((hk.1 8 (by kernel_rfl)).1)
                have f151 := gd e151
                have h1 : σ[0]? = some (.lines (.slice (some ⟨gr, 0, none⟩) L.length c) L1) := hs 0 (by decide)
                obtain ⟨F9, bs9, hF9, -⟩ := hS.get (sg h1)
                obtain ⟨A9, c9, e9, -, -, -, hg9⟩ := hF9.form
                simp only [Value.slice.injEq] at e9
                obtain ⟨rfl, -, rfl⟩ := e9
                obtain ⟨g9, e9', hz, -, hso, hf⟩ := hg9 (by omega)
                cases e9'
                have hx := hso _ _ hlt1
                exact rstep_store (w2 := w'.setCell ⟨gr, (top - 1) * 2 + 1, none⟩ (.bool false)) (wanted_none rfl) rfl (by simp [execOp, Act.eval, e151, f151, hx, hf, hz, go_sem]) (sp_set 0 (.lines (.slice (some ⟨gr, 0, none⟩) L.length c) (L1.set (top - 1) (l9.1, false))) (by kernel_rfl) (by simp) (by decide) hl hs (by rfl) (hS.storeSoft (sg h1) hlt1) trivial) trivial
              exact SSteps.nil
            · intro vs w' hS hv
              have q0 := (show vs 0 = (.pointer (some ⟨p, 0, none⟩) : Value) from hv 0 (by decide))
              have q1 := (show vs 1 = (.pointer (some ⟨p, 0, none⟩) : Value) from hv 1 (by decide))
              have q2 := (show vs 2 = (.pointer (some ⟨p, 1, none⟩) : Value) from hv 2 (by decide))
              have q3 := (show vs 3 = (.slice (some ⟨gr, 0, none⟩) L.length c : Value) from hv 3 (by decide))
              have q4 := (show vs 4 = (.pointer (some ⟨b5, 0, none⟩) : Value) from hv 4 (by decide))
              have q5 := (show vs 5 = (.int .i64 ↑top : Value) from hv 5 (by decide))
              have q6 := (show vs 6 = (.int .i64 (↑top - 1) : Value) from hv 6 (by decide))
              have q7 := (show vs 7 = (.pointer (some ⟨gr, (top - 1) * 2, none⟩) : Value) from hv 7 (by decide))
              have q8 := (show vs 8 = (.pointer (some ⟨gr, (top - 1) * 2 + 1, none⟩) : Value) from hv 8 (by decide))
              have S2 := Lib.hid hS
              simp only [putL, Act.put, Nat.zero_add, Nat.reduceAdd, List.setIfInBounds_toArray, List.set_cons_succ, List.set_cons_zero, q0, q1, q2, q3, q4, q5, q6, q7, q8]
              clear hS hv q0 q1 q2 q3 q4 q5 q6 q7 q8
              have S9 := S2.out
              rw [HT0.out] at S9
              have SF := Lib.hid (fin_roll2 S9)
              clear S9 S2
              go_wp2_with fail
              go_ret2
              exact ⟨Ag, k, cg, rfl, by rw [← HGONE.out, ← HLF.out]; exact SF.out⟩
        have hiR : d < R.length := by omega
        have hiz : (0 : Int) ≤ (d : Int) := by omega
        have hiz2 : (d : Int) < (k : Int) := by omega
        have hoff : top * 2 + d * 2 = (a0 + d) * 2 := by omega
        have HHL := Lib.hid (show (hdP X1 ++ (hdP F ++ hdP (R.drop d))).length = a0 + (d + (R.length - d)) by simp only [List.length_append, hdP_length, List.length_drop, HX1.out, HF.out.1])
        have SZ := Lib.hid S8.out.pad
        clear S8
        go_upto_region 28 with (fail)
        refine wp_region_stage (w0 := w0) (os := (.heads (.slice Ag k cg) (hdP G) :: .pile (piP T ++ piP F) :: .box b5 23 #[.int .i64 ↑top, .int .i64 ↑bot] :: os)) (by kernel_rfl) (by kernel_rfl) (by kernel_rfl) [(0, 7, [7], fun vs => .cells (lineV (vs 7)) (List.replicate cols (blank q))), (1, 9, [7], fun vs => .heads (.slice (some ⟨gr, 0, none⟩) L.length c) (List.set (hdP X1 ++ (hdP F ++ hdP (R.drop d))) (a0 + d) (lineV (vs 7), false)))] [[], [], [], [], [], [3], [2], [0], [], [1]] [.none, .heads (.slice (some ⟨gr, 0, none⟩) L.length c) (hdP X1 ++ (hdP F ++ hdP (R.drop d))), .box b7 31 (pv q), .box p 37 #[.int .i64 ↑cols, .slice (some ⟨gr, 0, none⟩) L.length c]] (fun i u => match i with | 0 => u = (.slice (some ⟨gr, top * 2, none⟩) k (k) : Value) | 1 => u = (.int .i64 ↑d : Value) | 2 => u = (.pointer (some ⟨p, 0, none⟩) : Value) | 3 => u = (.pointer (some ⟨p, 0, none⟩) : Value) | 4 => u = (.pointer (some ⟨p, 0, none⟩) : Value) | 5 => u = (.int .i64 ↑cols : Value) | 6 => u = (.agg (pv q) : Value) | 7 => ∃ A m c, u = .agg #[.slice A m c, .bool false] | 8 => u = (.pointer (some ⟨gr, (a0 + d) * 2, none⟩) : Value) | 9 => True | _ => True) (fun vs => [.cells (lineV (vs 7)) (List.replicate cols (blank q)), .heads (.slice (some ⟨gr, 0, none⟩) L.length c) (List.set (hdP X1 ++ (hdP F ++ hdP (R.drop d))) (a0 + d) (lineV (vs 7), false)), .box b7 31 (pv q), .box p 37 #[.int .i64 ↑cols, .slice (some ⟨gr, 0, none⟩) L.length c]]) (by kernel_rfl) (fun vs => by rfl) SZ.out ?_ ?_
        · refine SSteps.cons (fun a w' vs σ hS hl hs hk => ?_) ?_
          · have e13 : a.tmps.getD 13 undef = (.slice (some ⟨gr, top * 2, none⟩) k (k) : Value) := (sk_old hk 13 (by kernel_rfl)).trans rfl
            have f13 := gd e13
            exact ro_pure (v := .slice (some ⟨gr, top * 2, none⟩) k (k)) (wanted_none rfl) (by simp [execOp, Act.eval, e13, f13, go_sem]) (sp_same (by kernel_rfl) hl hs hS (show (.slice (some ⟨gr, top * 2, none⟩) k (k) : Value) = _ from rfl)) trivial
          refine SSteps.cons (fun a w' vs σ hS hl hs hk => ?_) ?_
          · have e14 : a.tmps.getD 14 undef = (.int .i64 ↑d : Value) := (sk_old hk 14 (by kernel_rfl)).trans rfl
            have f14 := gd e14
            exact ro_pure (v := .int .i64 ↑d) (wanted_none rfl) (by simp [execOp, Act.eval, e14, f14, go_sem]) (sp_same (by kernel_rfl) hl hs hS (show (.int .i64 ↑d : Value) = _ from rfl)) trivial
          refine SSteps.cons (fun a w' vs σ hS hl hs hk => ?_) ?_
          · have e0 : a.tmps.getD 0 undef = (.pointer (some ⟨p, 0, none⟩) : Value) := (sk_old hk 0 (by kernel_rfl)).trans rfl
            have f0 := gd e0
            exact ro_pure (v := .pointer (some ⟨p, 0, none⟩)) (wanted_none rfl) (by simp [execOp, Act.eval, e0, f0, go_sem]) (sp_same (by kernel_rfl) hl hs hS (show (.pointer (some ⟨p, 0, none⟩) : Value) = _ from rfl)) trivial
          refine SSteps.cons (fun a w' vs σ hS hl hs hk => ?_) ?_
          · have e132 : a.tmps.getD 132 undef = (.pointer (some ⟨p, 0, none⟩) : Value) := (sk_val hk 2 (by kernel_rfl) rfl rfl).trans ((hk.1 2 (by kernel_rfl)).1)
            have f132 := gd e132
            exact ro_pure (v := .pointer (some ⟨p, 0, none⟩)) (wanted_none rfl) (by simp [execOp, Act.eval, e132, f132, go_sem]) (sp_same (by kernel_rfl) hl hs hS (show (.pointer (some ⟨p, 0, none⟩) : Value) = _ from rfl)) trivial
          refine SSteps.cons (fun a w' vs σ hS hl hs hk => ?_) ?_
          · have e133 : a.tmps.getD 133 undef = (.pointer (some ⟨p, 0, none⟩) : Value) := (sk_val hk 3 (by kernel_rfl) rfl rfl).trans ((hk.1 3 (by kernel_rfl)).1)
            have f133 := gd e133
            exact ro_pure (v := .pointer (some ⟨p, 0, none⟩)) (wanted_none rfl) (by simp [execOp, Act.eval, e133, f133, go_sem]) (sp_same (by kernel_rfl) hl hs hS (show (.pointer (some ⟨p, 0, none⟩) : Value) = _ from rfl)) trivial
          refine SSteps.cons (fun a w' vs σ hS hl hs hk => ?_) ?_
          · have e134 : a.tmps.getD 134 undef = (.pointer (some ⟨p, 0, none⟩) : Value) := (sk_val hk 4 (by kernel_rfl) rfl rfl).trans ((hk.1 4 (by kernel_rfl)).1)
            have f134 := gd e134
            have hx := (hS.box (sg (hs 3 (by decide)))).cell
            exact ro_pure (v := .int .i64 ↑cols) (wanted_none rfl) (by simp [execOp, Act.eval, e134, f134, go_sem, hx]) (sp_same (by kernel_rfl) hl hs hS (show (.int .i64 ↑cols : Value) = _ from rfl)) trivial
          refine SSteps.cons (fun a w' vs σ hS hl hs hk => ?_) ?_
          · have e7 : a.tmps.getD 7 undef = (.pointer (some ⟨b7, 0, none⟩) : Value) := (sk_old hk 7 (by kernel_rfl)).trans rfl
            have f7 := gd e7
            have hx := (hS.box (sg (hs 2 (by decide)))).penAt
            exact ro_pure (v := .agg (pv q)) (wanted_none rfl) (by simp [execOp, Act.eval, e7, f7, go_sem, hx]) (sp_same (by kernel_rfl) hl hs hS (show (.agg (pv q) : Value) = _ from rfl)) trivial
          refine SSteps.cons (fun a w' vs σ hS hl hs hk => ?_) ?_
          · have e135 : a.tmps.getD 135 undef = (.int .i64 ↑cols : Value) := (sk_val hk 5 (by kernel_rfl) rfl rfl).trans ((hk.1 5 (by kernel_rfl)).1)
            have f135 := gd e135
            have e136 : a.tmps.getD 136 undef = (.agg (pv q) : Value) := (sk_val hk 6 (by kernel_rfl) rfl rfl).trans ((hk.1 6 (by kernel_rfl)).1)
            have f136 := gd e136
            have h0 : σ[0]? = some .none := hs 0 (by decide)
            exact ro_call (f := 67) (wanted_none rfl) rfl (by simp only [List.map_toArray, List.map_cons, List.map_nil, Act.eval, e135, e136] <;> rfl) (fun _ _ => by kernel_rfl) ((gridblanks_any cols hcm q _ _ _ hS).mono fun e w2 ⟨x, h1, h2⟩ => ⟨_, h1, sp_set 0 (.cells x (List.replicate cols (blank q))) (by kernel_rfl) (by simp) (by decide) hl hs (by rfl) (h2.place (sg h0)) (by obtain ⟨A', c', e, -⟩ := h2.cellsRd (k := 0) rfl; exact ⟨A', _, c', by rw [e]⟩), trivial⟩)
          refine SSteps.cons (fun a w' vs σ hS hl hs hk => ?_) ?_
          · have e130 : a.tmps.getD 130 undef = (.slice (some ⟨gr, top * 2, none⟩) k (k) : Value) := (sk_val hk 0 (by kernel_rfl) rfl rfl).trans ((hk.1 0 (by kernel_rfl)).1)
            have f130 := gd e130
            have e131 : a.tmps.getD 131 undef = (.int .i64 ↑d : Value) := (sk_val hk 1 (by kernel_rfl) rfl rfl).trans ((hk.1 1 (by kernel_rfl)).1)
            have f131 := gd e131
            exact ro_pure (v := .pointer (some ⟨gr, (a0 + d) * 2, none⟩)) (wanted_none rfl) (by simp [execOp, Act.eval, e130, f130, e131, f131, go_sem, hiz, hiz2, hoff]) (sp_same (by kernel_rfl) hl hs hS (show (.pointer (some ⟨gr, (a0 + d) * 2, none⟩) : Value) = _ from rfl)) trivial
          refine SSteps.cons (fun a w' vs σ hS hl hs hk => ?_) ?_
          · have e138 : a.tmps.getD 138 undef = (.pointer (some ⟨gr, (a0 + d) * 2, none⟩) : Value) := (sk_val hk 8 (by kernel_rfl) rfl rfl).trans ((hk.1 8 (by kernel_rfl)).1)
            have f138 := gd e138
            have e137 : a.tmps.getD 137 undef = vs 7 := sk_val hk 7 (by kernel_rfl) rfl rfl
            have p137 : (fun u : Value => ∃ A m c, u = .agg #[.slice A m c, .bool false]) (vs 7) := (hk.1 7 (by kernel_rfl)).1
            have f137 := gd e137
            obtain ⟨A7, n7, c7, q7⟩ := p137
            have h1 : σ[1]? = some (.heads (.slice (some ⟨gr, 0, none⟩) L.length c) (hdP X1 ++ (hdP F ++ hdP (R.drop d)))) := hs 1 (by decide)
            obtain ⟨A8, c8, e8, -, -, -, hg8⟩ := hS.headsForm (sg h1)
            simp only [Value.slice.injEq] at e8
            obtain ⟨rfl, -, rfl⟩ := e8
            have hHl := HHL.out
            obtain ⟨g8, e9, hz, hcs, hf⟩ := hg8 (by omega)
            cases e9
            obtain ⟨x8, hx8⟩ := get_of (show a0 + d < (hdP X1 ++ (hdP F ++ hdP (R.drop d))).length by omega)
            obtain ⟨hx, hx'⟩ := hcs (a0 + d) x8 hx8
            exact rstep_store (w2 := (w'.setCell ⟨gr, (a0 + d) * 2, none⟩ (.slice A7 n7 c7)).setCell ⟨gr, (a0 + d) * 2 + 1, none⟩ (.bool false)) (wanted_none rfl) rfl (by simp [execOp, Act.eval, e138, f138, e137, f137, q7, hx, hx', hf, hz, go_sem]) (sp_set 1 (.heads (.slice (some ⟨gr, 0, none⟩) L.length c) (List.set (hdP X1 ++ (hdP F ++ hdP (R.drop d))) (a0 + d) (.slice A7 n7 c7, false))) (by kernel_rfl) (by simp) (by decide) hl hs (by show Ob.heads _ (List.set _ _ (lineV (vs 7), false)) = _; rw [q7]; rfl) (hS.storeHead (sg h1)) trivial) trivial
          exact SSteps.nil
        · intro vs w' hS hv
          have q0 := (show vs 0 = (.slice (some ⟨gr, top * 2, none⟩) k (k) : Value) from hv 0 (by decide))
          have q1 := (show vs 1 = (.int .i64 ↑d : Value) from hv 1 (by decide))
          have q2 := (show vs 2 = (.pointer (some ⟨p, 0, none⟩) : Value) from hv 2 (by decide))
          have q3 := (show vs 3 = (.pointer (some ⟨p, 0, none⟩) : Value) from hv 3 (by decide))
          have q4 := (show vs 4 = (.pointer (some ⟨p, 0, none⟩) : Value) from hv 4 (by decide))
          have q5 := (show vs 5 = (.int .i64 ↑cols : Value) from hv 5 (by decide))
          have q6 := (show vs 6 = (.agg (pv q) : Value) from hv 6 (by decide))
          have q8 := (show vs 8 = (.pointer (some ⟨gr, (a0 + d) * 2, none⟩) : Value) from hv 8 (by decide))
          obtain ⟨A7, n7, c7, q7⟩ := (show ∃ A m c, vs 7 = .agg #[.slice A m c, .bool false] from hv 7 (by decide))
          rw [q7] at hS
          have S2 := Lib.hid hS
          simp only [putL, Act.put, Nat.zero_add, Nat.reduceAdd, List.setIfInBounds_toArray, List.set_cons_succ, List.set_cons_zero, q0, q1, q2, q3, q4, q5, q6, q8]
          clear hS hv q0 q1 q2 q3 q4 q5 q6 q8
          simp only [q7]
          have S9 := S2.out
          rw [show lineV (.agg #[.slice A7 n7 c7, .bool false]) = .slice A7 n7 c7 from rfl, hdP_fill (.slice A7 n7 c7) (List.replicate cols (blank q)) false HX1.out HF.out.1 hiR] at S9
          have S10 := Lib.hid (show Objs w0 w' (.heads (.slice (some ⟨gr, 0, none⟩) L.length c) (hdP X1 ++ (hdP (F ++ [(.slice A7 n7 c7, (List.replicate cols (blank q)), false)]) ++ hdP (R.drop (d + 1)))) :: .box b7 31 (pv q) :: .box p 37 #[.int .i64 ↑cols, .slice (some ⟨gr, 0, none⟩) L.length c] :: .heads (.slice Ag k cg) (hdP G) :: .pile (piP T ++ piP (F ++ [(.slice A7 n7 c7, (List.replicate cols (blank q)), false)])) :: .box b5 23 #[.int .i64 ↑top, .int .i64 ↑bot] :: os) from by have := Objs.pileIn S9; rw [List.append_assoc] at this; rw [piP_append]; exact this)
          clear S9 S2
          go_wp2_with fail
          go_roundw
          case rel => exact ⟨d + 1, F ++ [(.slice A7 n7 c7, (List.replicate cols (blank q)), false)], by omega, by go_num, ⟨by simp [HF.out.1], by rw [lnP_append, HF.out.2]; unfold rollFresh; rw [List.replicate_succ']; rfl⟩, S10.out⟩
          case measure => simp [intOf]; omega
    · go_wp2_with fail
      refine (clone_front S5.out.swap HONE.out (a := top) (m := k) (by rw [HTl.out]; omega) (by omega) (by rw [HTl.out]; omega)).mono ?_
      rintro e w5 ⟨Ag, cg, rfl, hS⟩
      obtain ⟨w6, hr6, hS6⟩ := run_copyH hS (k := 1) rfl HONE.out top top 0 (some ⟨gr, top * 2 + k * 2, none⟩) (some ⟨gr, top * 2, none⟩) 0 (c - top - k) k (c - top) (Nat.min_zero _) (by rw [HTl.out]; omega) (by rw [HTl.out]; omega) (fun h => absurd h (by omega)) 3
      have HR6 := Lib.hid hr6
      rw [hdP_drop T top, hdP_take, HG.out, ← hdP_drop T top, HPB2.out] at hS6
      have S7 := Lib.hid (ord7 (show Objs w0 w6 (.heads (.slice Ag k cg) (hdP G) :: .heads (.slice (some ⟨gr, 0, none⟩) L.length c) (hdP X1 ++ hdP R) :: .pile (piP T) :: .box b7 31 (pv q) :: .box b5 23 #[.int .i64 top, .int .i64 bot] :: .box p 37 #[.int .i64 cols, .slice (some ⟨gr, 0, none⟩) L.length c] :: os) from hS6))
      have HAO := HA0.out
      clear hS hr6 hS6 S5
      go_wp2_with (refine wpList_copyK rfl _ _ 35 35 rfl rfl rfl HR6.out ?_)
      go_loopw [14, 127] (fun _ vi wr => ∃ (d : Nat) (F : List Tr), d ≤ k ∧ vi = .int .i64 d ∧ (F.length = d ∧ lnP F = rollFresh d cols q) ∧ Objs w0 wr (.heads (.slice (some ⟨gr, 0, none⟩) L.length c) (hdP X1 ++ (hdP F ++ hdP (R.drop d))) :: .box b7 31 (pv q) :: .box p 37 #[.int .i64 ↑cols, .slice (some ⟨gr, 0, none⟩) L.length c] :: .heads (.slice Ag k cg) (hdP G) :: .pile (piP T ++ piP F) :: .box b5 23 #[.int .i64 ↑top, .int .i64 ↑bot] :: os)) (fun _ vi _ => k - (intOf vi).toNat)
      case atStart => exact ⟨0, [], by omega, rfl, ⟨rfl, rfl⟩, by simpa [hdP, piP] using S7.out⟩
      case round =>
        obtain ⟨d, F, hik, rfl, hFF, hS⟩ := hrel
        have HF := Lib.hid hFF
        have S8 := Lib.hid hS
        clear hFF hS S7
        by_cases hlt : d < k
        case neg =>
          have hie : d = k := by omega
          have hX := S8.out
          have hFk := HF.out.2
          rw [hie] at hX hFk
          have hX2 := hX.dealIn HPERM.out
          have HLF := Lib.hid (HLEFT.out F hFk)
          obtain ⟨L1, hL1⟩ : ∃ L1, L1 = lnP X1 ++ (lnP F ++ lnP (R.drop k)) := ⟨_, rfl⟩
          rw [← hL1] at hX2 HLF
          have hL1l : L1.length = L.length := by rw [hL1]; simp only [List.length_append, lnP_length, List.length_drop]; have := HX1.out; have := HF.out.1; have := HRL.out; omega
          have SX := Lib.hid hX2
          obtain ⟨hx5, hf5, hz5⟩ := (hX2.box (k := 4) rfl).facts
          clear hie hX hX2 hFk hL1 S8
          by_cases ht0 : top = 0
          · have HT0 := Lib.hid (show topHard top L1 = L1 by unfold topHard; rw [if_neg (by omega)])
            have htg : ¬ (0 : Int) < (top : Int) := by omega
            have SF := Lib.hid (fin_roll SX.out)
            clear ht0
            go_wp2_with fail
            go_ret2
            exact ⟨Ag, k, cg, rfl, by rw [← HGONE.out, ← HLF.out, HT0.out]; exact SF.out⟩
          · have htg : (0 : Int) < (top : Int) := by omega
            obtain ⟨l9, hlt1⟩ := get_of (show top - 1 < L1.length by omega)
            have HT0 := Lib.hid (show L1.set (top - 1) (l9.1, false) = topHard top L1 by unfold topHard; rw [if_pos (by omega), softMod_some hlt1])
            have HWT := Lib.hid (show IntKind.i64.wrap ((top : Int) - 1) = (top : Int) - 1 from IntWalk.i64_in _ (by omega))
            have htz : (0 : Int) ≤ (top : Int) - 1 := by omega
            have htz2 : (top : Int) - 1 < (L.length : Int) := by omega
            have htz3 : ¬ (top : Int) < 1 := by omega
            have htn : ((top : Int) - 1).toNat = top - 1 := by omega
            have SY := Lib.hid (ord_roll SX.out)
            go_upto_region 31 with (fail)
            refine wp_region_stage (w0 := w0) (os := (.lines (.slice Ag k cg) (lnP G) :: .box b7 31 (pv q) :: os)) (by kernel_rfl) (by kernel_rfl) (by kernel_rfl) [(0, 9, [], fun vs => .lines (.slice (some ⟨gr, 0, none⟩) L.length c) (L1.set (top - 1) (l9.1, false)))] [[], [], [], [1], [], [2], [], [], [], [0]] [.lines (.slice (some ⟨gr, 0, none⟩) L.length c) L1, .box p 37 #[.int .i64 ↑cols, .slice (some ⟨gr, 0, none⟩) L.length c], .box b5 23 #[.int .i64 ↑top, .int .i64 ↑bot]] (fun i u => match i with | 0 => u = (.pointer (some ⟨p, 0, none⟩) : Value) | 1 => u = (.pointer (some ⟨p, 0, none⟩) : Value) | 2 => u = (.pointer (some ⟨p, 1, none⟩) : Value) | 3 => u = (.slice (some ⟨gr, 0, none⟩) L.length c : Value) | 4 => u = (.pointer (some ⟨b5, 0, none⟩) : Value) | 5 => u = (.int .i64 ↑top : Value) | 6 => u = (.int .i64 (↑top - 1) : Value) | 7 => u = (.pointer (some ⟨gr, (top - 1) * 2, none⟩) : Value) | 8 => u = (.pointer (some ⟨gr, (top - 1) * 2 + 1, none⟩) : Value) | 9 => True | _ => True) (fun vs => [.lines (.slice (some ⟨gr, 0, none⟩) L.length c) (L1.set (top - 1) (l9.1, false)), .box p 37 #[.int .i64 ↑cols, .slice (some ⟨gr, 0, none⟩) L.length c], .box b5 23 #[.int .i64 ↑top, .int .i64 ↑bot]]) (by kernel_rfl) (fun vs => by rfl) SY.out ?_ ?_
            · refine SSteps.cons (fun a w' vs σ hS hl hs hk => ?_) ?_
              · have e0 : a.tmps.getD 0 undef = (.pointer (some ⟨p, 0, none⟩) : Value) := (sk_old hk 0 (by kernel_rfl)).trans rfl
                have f0 := gd e0
                exact ro_pure (v := .pointer (some ⟨p, 0, none⟩)) (wanted_none rfl) (by simp [execOp, Act.eval, e0, f0, go_sem]) (sp_same (by kernel_rfl) hl hs hS (show (.pointer (some ⟨p, 0, none⟩) : Value) = _ from rfl)) trivial
              refine SSteps.cons (fun a w' vs σ hS hl hs hk => ?_) ?_
              · have e143 : a.tmps.getD 143 undef = (.pointer (some ⟨p, 0, none⟩) : Value) := (sk_val hk 0 (by kernel_rfl) rfl rfl).trans ((hk.1 0 (by kernel_rfl)).1)
                have f143 := gd e143
                exact ro_pure (v := .pointer (some ⟨p, 0, none⟩)) (wanted_none rfl) (by simp [execOp, Act.eval, e143, f143, go_sem]) (sp_same (by kernel_rfl) hl hs hS (show (.pointer (some ⟨p, 0, none⟩) : Value) = _ from rfl)) trivial
              refine SSteps.cons (fun a w' vs σ hS hl hs hk => ?_) ?_
              · have e144 : a.tmps.getD 144 undef = (.pointer (some ⟨p, 0, none⟩) : Value) := (sk_val hk 1 (by kernel_rfl) rfl rfl).trans ((hk.1 1 (by kernel_rfl)).1)
                have f144 := gd e144
                exact ro_pure (v := .pointer (some ⟨p, 1, none⟩)) (wanted_none rfl) (by simp [execOp, Act.eval, e144, f144, go_sem]) (sp_same (by kernel_rfl) hl hs hS (show (.pointer (some ⟨p, 1, none⟩) : Value) = _ from rfl)) trivial
              refine SSteps.cons (fun a w' vs σ hS hl hs hk => ?_) ?_
              · have e145 : a.tmps.getD 145 undef = (.pointer (some ⟨p, 1, none⟩) : Value) := (sk_val hk 2 (by kernel_rfl) rfl rfl).trans ((hk.1 2 (by kernel_rfl)).1)
                have f145 := gd e145
                have hx := (hS.box (sg (hs 1 (by decide)))).cell
                exact ro_pure (v := .slice (some ⟨gr, 0, none⟩) L.length c) (wanted_none rfl) (by simp [execOp, Act.eval, e145, f145, go_sem, hx]) (sp_same (by kernel_rfl) hl hs hS (show (.slice (some ⟨gr, 0, none⟩) L.length c : Value) = _ from rfl)) trivial
              refine SSteps.cons (fun a w' vs σ hS hl hs hk => ?_) ?_
              · have e5 : a.tmps.getD 5 undef = (.pointer (some ⟨b5, 0, none⟩) : Value) := (sk_old hk 5 (by kernel_rfl)).trans rfl
                have f5 := gd e5
                exact ro_pure (v := .pointer (some ⟨b5, 0, none⟩)) (wanted_none rfl) (by simp [execOp, Act.eval, e5, f5, go_sem]) (sp_same (by kernel_rfl) hl hs hS (show (.pointer (some ⟨b5, 0, none⟩) : Value) = _ from rfl)) trivial
              refine SSteps.cons (fun a w' vs σ hS hl hs hk => ?_) ?_
              · have e147 : a.tmps.getD 147 undef = (.pointer (some ⟨b5, 0, none⟩) : Value) := (sk_val hk 4 (by kernel_rfl) rfl rfl).trans ((hk.1 4 (by kernel_rfl)).1)
                have f147 := gd e147
                have hx := (hS.box (sg (hs 2 (by decide)))).cell
                exact ro_pure (v := .int .i64 ↑top) (wanted_none rfl) (by simp [execOp, Act.eval, e147, f147, go_sem, hx]) (sp_same (by kernel_rfl) hl hs hS (show (.int .i64 ↑top : Value) = _ from rfl)) trivial
              refine SSteps.cons (fun a w' vs σ hS hl hs hk => ?_) ?_
              · have e148 : a.tmps.getD 148 undef = (.int .i64 ↑top : Value) := (sk_val hk 5 (by kernel_rfl) rfl rfl).trans ((hk.1 5 (by kernel_rfl)).1)
                have f148 := gd e148
                exact ro_pure (v := .int .i64 (↑top - 1)) (wanted_none rfl) (by simp [execOp, Act.eval, e148, f148, go_sem, HWT.out]) (sp_same (by kernel_rfl) hl hs hS (show (.int .i64 (↑top - 1) : Value) = _ from rfl)) trivial
              refine SSteps.cons (fun a w' vs σ hS hl hs hk => ?_) ?_
              · have e146 : a.tmps.getD 146 undef = (.slice (some ⟨gr, 0, none⟩) L.length c : Value) := (sk_val hk 3 (by kernel_rfl) rfl rfl).trans ((hk.1 3 (by kernel_rfl)).1)
                have f146 := gd e146
                have e149 : a.tmps.getD 149 undef = (.int .i64 (↑top - 1) : Value) := (sk_val hk 6 (by kernel_rfl) rfl rfl).trans ((hk.1 6 (by kernel_rfl)).1)
                have f149 := gd e149
                exact ro_pure (v := .pointer (some ⟨gr, (top - 1) * 2, none⟩)) (wanted_none rfl) (by simp [execOp, Act.eval, e146, f146, e149, f149, go_sem, htz, htz2, htn, htz3]) (sp_same (by kernel_rfl) hl hs hS (show (.pointer (some ⟨gr, (top - 1) * 2, none⟩) : Value) = _ from rfl)) trivial
              refine SSteps.cons (fun a w' vs σ hS hl hs hk => ?_) ?_
              · have e150 : a.tmps.getD 150 undef = (.pointer (some ⟨gr, (top - 1) * 2, none⟩) : Value) := (sk_val hk 7 (by kernel_rfl) rfl rfl).trans ((hk.1 7 (by kernel_rfl)).1)
                have f150 := gd e150
                exact ro_pure (v := .pointer (some ⟨gr, (top - 1) * 2 + 1, none⟩)) (wanted_none rfl) (by simp [execOp, Act.eval, e150, f150, go_sem]) (sp_same (by kernel_rfl) hl hs hS (show (.pointer (some ⟨gr, (top - 1) * 2 + 1, none⟩) : Value) = _ from rfl)) trivial
              refine SSteps.cons (fun a w' vs σ hS hl hs hk => ?_) ?_
              · have e151 : a.tmps.getD 151 undef = (.pointer (some ⟨gr, (top - 1) * 2 + 1, none⟩) : Value) := (sk_val hk 8 (by kernel_rfl) rfl rfl).trans ((hk.1 8 (by kernel_rfl)).1)
                have f151 := gd e151
                have h1 : σ[0]? = some (.lines (.slice (some ⟨gr, 0, none⟩) L.length c) L1) := hs 0 (by decide)
                obtain ⟨F9, bs9, hF9, -⟩ := hS.get (sg h1)
                obtain ⟨A9, c9, e9, -, -, -, hg9⟩ := hF9.form
                simp only [Value.slice.injEq] at e9
                obtain ⟨rfl, -, rfl⟩ := e9
                obtain ⟨g9, e9', hz, -, hso, hf⟩ := hg9 (by omega)
                cases e9'
                have hx := hso _ _ hlt1
                exact rstep_store (w2 := w'.setCell ⟨gr, (top - 1) * 2 + 1, none⟩ (.bool false)) (wanted_none rfl) rfl (by simp [execOp, Act.eval, e151, f151, hx, hf, hz, go_sem]) (sp_set 0 (.lines (.slice (some ⟨gr, 0, none⟩) L.length c) (L1.set (top - 1) (l9.1, false))) (by kernel_rfl) (by simp) (by decide) hl hs (by rfl) (hS.storeSoft (sg h1) hlt1) trivial) trivial
              exact SSteps.nil
            · intro vs w' hS hv
              have q0 := (show vs 0 = (.pointer (some ⟨p, 0, none⟩) : Value) from hv 0 (by decide))
              have q1 := (show vs 1 = (.pointer (some ⟨p, 0, none⟩) : Value) from hv 1 (by decide))
              have q2 := (show vs 2 = (.pointer (some ⟨p, 1, none⟩) : Value) from hv 2 (by decide))
              have q3 := (show vs 3 = (.slice (some ⟨gr, 0, none⟩) L.length c : Value) from hv 3 (by decide))
              have q4 := (show vs 4 = (.pointer (some ⟨b5, 0, none⟩) : Value) from hv 4 (by decide))
              have q5 := (show vs 5 = (.int .i64 ↑top : Value) from hv 5 (by decide))
              have q6 := (show vs 6 = (.int .i64 (↑top - 1) : Value) from hv 6 (by decide))
              have q7 := (show vs 7 = (.pointer (some ⟨gr, (top - 1) * 2, none⟩) : Value) from hv 7 (by decide))
              have q8 := (show vs 8 = (.pointer (some ⟨gr, (top - 1) * 2 + 1, none⟩) : Value) from hv 8 (by decide))
              have S2 := Lib.hid hS
              simp only [putL, Act.put, Nat.zero_add, Nat.reduceAdd, List.setIfInBounds_toArray, List.set_cons_succ, List.set_cons_zero, q0, q1, q2, q3, q4, q5, q6, q7, q8]
              clear hS hv q0 q1 q2 q3 q4 q5 q6 q7 q8
              have S9 := S2.out
              rw [HT0.out] at S9
              have SF := Lib.hid (fin_roll2 S9)
              clear S9 S2
              go_wp2_with fail
              go_ret2
              exact ⟨Ag, k, cg, rfl, by rw [← HGONE.out, ← HLF.out]; exact SF.out⟩
        have hiR : d < R.length := by omega
        have hiz : (0 : Int) ≤ (d : Int) := by omega
        have hiz2 : (d : Int) < (k : Int) := by omega
        have hoff : top * 2 + d * 2 = (a0 + d) * 2 := by omega
        have HHL := Lib.hid (show (hdP X1 ++ (hdP F ++ hdP (R.drop d))).length = a0 + (d + (R.length - d)) by simp only [List.length_append, hdP_length, List.length_drop, HX1.out, HF.out.1])
        have SZ := Lib.hid S8.out.pad
        clear S8
        go_upto_region 28 with (fail)
        refine wp_region_stage (w0 := w0) (os := (.heads (.slice Ag k cg) (hdP G) :: .pile (piP T ++ piP F) :: .box b5 23 #[.int .i64 ↑top, .int .i64 ↑bot] :: os)) (by kernel_rfl) (by kernel_rfl) (by kernel_rfl) [(0, 7, [7], fun vs => .cells (lineV (vs 7)) (List.replicate cols (blank q))), (1, 9, [7], fun vs => .heads (.slice (some ⟨gr, 0, none⟩) L.length c) (List.set (hdP X1 ++ (hdP F ++ hdP (R.drop d))) (a0 + d) (lineV (vs 7), false)))] [[], [], [], [], [], [3], [2], [0], [], [1]] [.none, .heads (.slice (some ⟨gr, 0, none⟩) L.length c) (hdP X1 ++ (hdP F ++ hdP (R.drop d))), .box b7 31 (pv q), .box p 37 #[.int .i64 ↑cols, .slice (some ⟨gr, 0, none⟩) L.length c]] (fun i u => match i with | 0 => u = (.slice (some ⟨gr, top * 2, none⟩) k (c - top) : Value) | 1 => u = (.int .i64 ↑d : Value) | 2 => u = (.pointer (some ⟨p, 0, none⟩) : Value) | 3 => u = (.pointer (some ⟨p, 0, none⟩) : Value) | 4 => u = (.pointer (some ⟨p, 0, none⟩) : Value) | 5 => u = (.int .i64 ↑cols : Value) | 6 => u = (.agg (pv q) : Value) | 7 => ∃ A m c, u = .agg #[.slice A m c, .bool false] | 8 => u = (.pointer (some ⟨gr, (a0 + d) * 2, none⟩) : Value) | 9 => True | _ => True) (fun vs => [.cells (lineV (vs 7)) (List.replicate cols (blank q)), .heads (.slice (some ⟨gr, 0, none⟩) L.length c) (List.set (hdP X1 ++ (hdP F ++ hdP (R.drop d))) (a0 + d) (lineV (vs 7), false)), .box b7 31 (pv q), .box p 37 #[.int .i64 ↑cols, .slice (some ⟨gr, 0, none⟩) L.length c]]) (by kernel_rfl) (fun vs => by rfl) SZ.out ?_ ?_
        · refine SSteps.cons (fun a w' vs σ hS hl hs hk => ?_) ?_
          · have e13 : a.tmps.getD 13 undef = (.slice (some ⟨gr, top * 2, none⟩) k (c - top) : Value) := (sk_old hk 13 (by kernel_rfl)).trans rfl
            have f13 := gd e13
            exact ro_pure (v := .slice (some ⟨gr, top * 2, none⟩) k (c - top)) (wanted_none rfl) (by simp [execOp, Act.eval, e13, f13, go_sem]) (sp_same (by kernel_rfl) hl hs hS (show (.slice (some ⟨gr, top * 2, none⟩) k (c - top) : Value) = _ from rfl)) trivial
          refine SSteps.cons (fun a w' vs σ hS hl hs hk => ?_) ?_
          · have e14 : a.tmps.getD 14 undef = (.int .i64 ↑d : Value) := (sk_old hk 14 (by kernel_rfl)).trans rfl
            have f14 := gd e14
            exact ro_pure (v := .int .i64 ↑d) (wanted_none rfl) (by simp [execOp, Act.eval, e14, f14, go_sem]) (sp_same (by kernel_rfl) hl hs hS (show (.int .i64 ↑d : Value) = _ from rfl)) trivial
          refine SSteps.cons (fun a w' vs σ hS hl hs hk => ?_) ?_
          · have e0 : a.tmps.getD 0 undef = (.pointer (some ⟨p, 0, none⟩) : Value) := (sk_old hk 0 (by kernel_rfl)).trans rfl
            have f0 := gd e0
            exact ro_pure (v := .pointer (some ⟨p, 0, none⟩)) (wanted_none rfl) (by simp [execOp, Act.eval, e0, f0, go_sem]) (sp_same (by kernel_rfl) hl hs hS (show (.pointer (some ⟨p, 0, none⟩) : Value) = _ from rfl)) trivial
          refine SSteps.cons (fun a w' vs σ hS hl hs hk => ?_) ?_
          · have e132 : a.tmps.getD 132 undef = (.pointer (some ⟨p, 0, none⟩) : Value) := (sk_val hk 2 (by kernel_rfl) rfl rfl).trans ((hk.1 2 (by kernel_rfl)).1)
            have f132 := gd e132
            exact ro_pure (v := .pointer (some ⟨p, 0, none⟩)) (wanted_none rfl) (by simp [execOp, Act.eval, e132, f132, go_sem]) (sp_same (by kernel_rfl) hl hs hS (show (.pointer (some ⟨p, 0, none⟩) : Value) = _ from rfl)) trivial
          refine SSteps.cons (fun a w' vs σ hS hl hs hk => ?_) ?_
          · have e133 : a.tmps.getD 133 undef = (.pointer (some ⟨p, 0, none⟩) : Value) := (sk_val hk 3 (by kernel_rfl) rfl rfl).trans ((hk.1 3 (by kernel_rfl)).1)
            have f133 := gd e133
            exact ro_pure (v := .pointer (some ⟨p, 0, none⟩)) (wanted_none rfl) (by simp [execOp, Act.eval, e133, f133, go_sem]) (sp_same (by kernel_rfl) hl hs hS (show (.pointer (some ⟨p, 0, none⟩) : Value) = _ from rfl)) trivial
          refine SSteps.cons (fun a w' vs σ hS hl hs hk => ?_) ?_
          · have e134 : a.tmps.getD 134 undef = (.pointer (some ⟨p, 0, none⟩) : Value) := (sk_val hk 4 (by kernel_rfl) rfl rfl).trans ((hk.1 4 (by kernel_rfl)).1)
            have f134 := gd e134
            have hx := (hS.box (sg (hs 3 (by decide)))).cell
            exact ro_pure (v := .int .i64 ↑cols) (wanted_none rfl) (by simp [execOp, Act.eval, e134, f134, go_sem, hx]) (sp_same (by kernel_rfl) hl hs hS (show (.int .i64 ↑cols : Value) = _ from rfl)) trivial
          refine SSteps.cons (fun a w' vs σ hS hl hs hk => ?_) ?_
          · have e7 : a.tmps.getD 7 undef = (.pointer (some ⟨b7, 0, none⟩) : Value) := (sk_old hk 7 (by kernel_rfl)).trans rfl
            have f7 := gd e7
            have hx := (hS.box (sg (hs 2 (by decide)))).penAt
            exact ro_pure (v := .agg (pv q)) (wanted_none rfl) (by simp [execOp, Act.eval, e7, f7, go_sem, hx]) (sp_same (by kernel_rfl) hl hs hS (show (.agg (pv q) : Value) = _ from rfl)) trivial
          refine SSteps.cons (fun a w' vs σ hS hl hs hk => ?_) ?_
          · have e135 : a.tmps.getD 135 undef = (.int .i64 ↑cols : Value) := (sk_val hk 5 (by kernel_rfl) rfl rfl).trans ((hk.1 5 (by kernel_rfl)).1)
            have f135 := gd e135
            have e136 : a.tmps.getD 136 undef = (.agg (pv q) : Value) := (sk_val hk 6 (by kernel_rfl) rfl rfl).trans ((hk.1 6 (by kernel_rfl)).1)
            have f136 := gd e136
            have h0 : σ[0]? = some .none := hs 0 (by decide)
            exact ro_call (f := 67) (wanted_none rfl) rfl (by simp only [List.map_toArray, List.map_cons, List.map_nil, Act.eval, e135, e136] <;> rfl) (fun _ _ => by kernel_rfl) ((gridblanks_any cols hcm q _ _ _ hS).mono fun e w2 ⟨x, h1, h2⟩ => ⟨_, h1, sp_set 0 (.cells x (List.replicate cols (blank q))) (by kernel_rfl) (by simp) (by decide) hl hs (by rfl) (h2.place (sg h0)) (by obtain ⟨A', c', e, -⟩ := h2.cellsRd (k := 0) rfl; exact ⟨A', _, c', by rw [e]⟩), trivial⟩)
          refine SSteps.cons (fun a w' vs σ hS hl hs hk => ?_) ?_
          · have e130 : a.tmps.getD 130 undef = (.slice (some ⟨gr, top * 2, none⟩) k (c - top) : Value) := (sk_val hk 0 (by kernel_rfl) rfl rfl).trans ((hk.1 0 (by kernel_rfl)).1)
            have f130 := gd e130
            have e131 : a.tmps.getD 131 undef = (.int .i64 ↑d : Value) := (sk_val hk 1 (by kernel_rfl) rfl rfl).trans ((hk.1 1 (by kernel_rfl)).1)
            have f131 := gd e131
            exact ro_pure (v := .pointer (some ⟨gr, (a0 + d) * 2, none⟩)) (wanted_none rfl) (by simp [execOp, Act.eval, e130, f130, e131, f131, go_sem, hiz, hiz2, hoff]) (sp_same (by kernel_rfl) hl hs hS (show (.pointer (some ⟨gr, (a0 + d) * 2, none⟩) : Value) = _ from rfl)) trivial
          refine SSteps.cons (fun a w' vs σ hS hl hs hk => ?_) ?_
          · have e138 : a.tmps.getD 138 undef = (.pointer (some ⟨gr, (a0 + d) * 2, none⟩) : Value) := (sk_val hk 8 (by kernel_rfl) rfl rfl).trans ((hk.1 8 (by kernel_rfl)).1)
            have f138 := gd e138
            have e137 : a.tmps.getD 137 undef = vs 7 := sk_val hk 7 (by kernel_rfl) rfl rfl
            have p137 : (fun u : Value => ∃ A m c, u = .agg #[.slice A m c, .bool false]) (vs 7) := (hk.1 7 (by kernel_rfl)).1
            have f137 := gd e137
            obtain ⟨A7, n7, c7, q7⟩ := p137
            have h1 : σ[1]? = some (.heads (.slice (some ⟨gr, 0, none⟩) L.length c) (hdP X1 ++ (hdP F ++ hdP (R.drop d)))) := hs 1 (by decide)
            obtain ⟨A8, c8, e8, -, -, -, hg8⟩ := hS.headsForm (sg h1)
            simp only [Value.slice.injEq] at e8
            obtain ⟨rfl, -, rfl⟩ := e8
            have hHl := HHL.out
            obtain ⟨g8, e9, hz, hcs, hf⟩ := hg8 (by omega)
            cases e9
            obtain ⟨x8, hx8⟩ := get_of (show a0 + d < (hdP X1 ++ (hdP F ++ hdP (R.drop d))).length by omega)
            obtain ⟨hx, hx'⟩ := hcs (a0 + d) x8 hx8
            exact rstep_store (w2 := (w'.setCell ⟨gr, (a0 + d) * 2, none⟩ (.slice A7 n7 c7)).setCell ⟨gr, (a0 + d) * 2 + 1, none⟩ (.bool false)) (wanted_none rfl) rfl (by simp [execOp, Act.eval, e138, f138, e137, f137, q7, hx, hx', hf, hz, go_sem]) (sp_set 1 (.heads (.slice (some ⟨gr, 0, none⟩) L.length c) (List.set (hdP X1 ++ (hdP F ++ hdP (R.drop d))) (a0 + d) (.slice A7 n7 c7, false))) (by kernel_rfl) (by simp) (by decide) hl hs (by show Ob.heads _ (List.set _ _ (lineV (vs 7), false)) = _; rw [q7]; rfl) (hS.storeHead (sg h1)) trivial) trivial
          exact SSteps.nil
        · intro vs w' hS hv
          have q0 := (show vs 0 = (.slice (some ⟨gr, top * 2, none⟩) k (c - top) : Value) from hv 0 (by decide))
          have q1 := (show vs 1 = (.int .i64 ↑d : Value) from hv 1 (by decide))
          have q2 := (show vs 2 = (.pointer (some ⟨p, 0, none⟩) : Value) from hv 2 (by decide))
          have q3 := (show vs 3 = (.pointer (some ⟨p, 0, none⟩) : Value) from hv 3 (by decide))
          have q4 := (show vs 4 = (.pointer (some ⟨p, 0, none⟩) : Value) from hv 4 (by decide))
          have q5 := (show vs 5 = (.int .i64 ↑cols : Value) from hv 5 (by decide))
          have q6 := (show vs 6 = (.agg (pv q) : Value) from hv 6 (by decide))
          have q8 := (show vs 8 = (.pointer (some ⟨gr, (a0 + d) * 2, none⟩) : Value) from hv 8 (by decide))
          obtain ⟨A7, n7, c7, q7⟩ := (show ∃ A m c, vs 7 = .agg #[.slice A m c, .bool false] from hv 7 (by decide))
          rw [q7] at hS
          have S2 := Lib.hid hS
          simp only [putL, Act.put, Nat.zero_add, Nat.reduceAdd, List.setIfInBounds_toArray, List.set_cons_succ, List.set_cons_zero, q0, q1, q2, q3, q4, q5, q6, q8]
          clear hS hv q0 q1 q2 q3 q4 q5 q6 q8
          simp only [q7]
          have S9 := S2.out
          rw [show lineV (.agg #[.slice A7 n7 c7, .bool false]) = .slice A7 n7 c7 from rfl, hdP_fill (.slice A7 n7 c7) (List.replicate cols (blank q)) false HX1.out HF.out.1 hiR] at S9
          have S10 := Lib.hid (show Objs w0 w' (.heads (.slice (some ⟨gr, 0, none⟩) L.length c) (hdP X1 ++ (hdP (F ++ [(.slice A7 n7 c7, (List.replicate cols (blank q)), false)]) ++ hdP (R.drop (d + 1)))) :: .box b7 31 (pv q) :: .box p 37 #[.int .i64 ↑cols, .slice (some ⟨gr, 0, none⟩) L.length c] :: .heads (.slice Ag k cg) (hdP G) :: .pile (piP T ++ piP (F ++ [(.slice A7 n7 c7, (List.replicate cols (blank q)), false)])) :: .box b5 23 #[.int .i64 ↑top, .int .i64 ↑bot] :: os) from by have := Objs.pileIn S9; rw [List.append_assoc] at this; rw [piP_append]; exact this)
          clear S9 S2
          go_wp2_with fail
          go_roundw
          case rel => exact ⟨d + 1, F ++ [(.slice A7 n7 c7, (List.replicate cols (blank q)), false)], by omega, by go_num, ⟨by simp [HF.out.1], by rw [lnP_append, HF.out.2]; unfold rollFresh; rw [List.replicate_succ']; rfl⟩, S10.out⟩
          case measure => simp [intOf]; omega
end
end Go.Proofs.YtghahanpmcpacaaDoor

/-
  Copies of lines.
-/
set_option linter.unusedSimpArgs false
set_option linter.unusedVariables false
namespace Go.Proofs.YtghahanpmcpacaaDoor
open Go.RowKit

end Go.Proofs.YtghahanpmcpacaaDoor

/-
  What the reference's Roll needs: parts of lines read, heads appended and kept.
-/
set_option linter.unusedSimpArgs false
set_option linter.unusedVariables false
namespace Go.Proofs.YtghahanpmcpacaaDoor
open Go.RowKit

theorem RdL.part {w : World} {b off c c' a m : Nat} {L : List Ln} (h : RdL w (some ⟨b, off, none⟩) c L) (ham : a + m ≤ L.length) (hm : m ≤ c') : RdL w (some ⟨b, off + a * 2, none⟩) c' ((L.drop a).take m) := by
  refine ⟨by simp; omega, (fun e => by cases e), fun hn => ?_⟩
  have hm0 : 0 < m := by simp at hn; omega
  obtain ⟨b', off', e, hz, hr⟩ := h.2.2 (by omega)
  cases e
  refine ⟨b, off + a * 2, rfl, hz, fun i l hl => ?_⟩
  rw [List.getElem?_take] at hl
  split at hl
  · rw [List.getElem?_drop] at hl
    obtain ⟨A', c', h1, h2, h3⟩ := hr (a + i) l hl
    exact ⟨A', c', by rw [show off + a * 2 + i * 2 = off + (a + i) * 2 by omega]; exact h1, by rw [show off + a * 2 + i * 2 + 1 = off + (a + i) * 2 + 1 by omega]; exact h2, h3⟩
  · cases hl
theorem RdL.empty (w : World) (ad : Addr) (c : Nat) : RdL w (some ad) c [] := ⟨by simp, (fun e => by cases e), fun h => by simp at h⟩
section
variable {w0 w : World} {os : List Ob} {v : Value} {hp : List (Value × Bool)}
end
section
variable {T Ts Tf : List Tr} {L : List Ln} {top bot k many cols : Nat} {n : Int} {q : Pen}
end
end Go.Proofs.YtghahanpmcpacaaDoor

/-
  Roll of the reference's grid, upwards.
-/
set_option linter.unusedSimpArgs false
set_option linter.unusedVariables false
namespace Go.Proofs.YtghahanpmcpacaaDoor
open Go.RowKit

section
variable {w0 w : World} {os : List Ob}
end
section
variable {w0 w : World} {os : List Ob} {x cols : Nat} {L : List Ln}
end
end Go.Proofs.YtghahanpmcpacaaDoor

/-
  Roll of the reference's grid, downwards.
-/
set_option linter.unusedSimpArgs false
set_option linter.unusedVariables false
namespace Go.Proofs.YtghahanpmcpacaaDoor
open Go.RowKit

section
variable {w0 w : World} {os : List Ob} {v : Value} {hp : List (Value × Bool)}
end
section
variable {w0 w : World} {os : List Ob} {x cols : Nat} {L : List Ln}
end
end Go.Proofs.YtghahanpmcpacaaDoor

/-
  Shift and Roll wherever the grid lies; what they answer where nothing is done.
-/
set_option linter.unusedSimpArgs false
set_option linter.unusedVariables false
namespace Go.Proofs.YtghahanpmcpacaaDoor
open Go.RowKit

/-- A row's cells from a column on are shifted. -/
def shiftN (j cols : Nat) (n : Int) (q : Pen) (cs : List Cell) : List Cell :=
  if n = 0 then cs else if 0 < n then shiftR j (min n ((cols - j : Nat) : Int)).toNat q cs else shiftL j (min (-n) ((cols - j : Nat) : Int)).toNat q cs
section
variable {w0 w : World} {os : List Ob} {k p cols : Nat} {L : List Ln}
theorem ShiftG {i j : Nat} (n : Int) (q : Pen) (hT : Tabs w0) (hS : Objs w0 w os) (hk : os[k]? = some (.grid p 37 cols L)) (hcm : cols ≤ 1000) (hR : Rect cols L) (hi : i < L.length) (hq : q.ok = true) (hj : j < cols) (hn : -9223372036854775808 ≤ n ∧ n ≤ 9223372036854775807) :
    Calls Tryd.prog 75 #[.pointer (some ⟨p, 0, none⟩), .int .i64 i, .int .i64 j, .int .i64 n, .agg (pv q)] w fun e w' => e = .returned (.int .i64 0) ∧ Objs w0 w' (os.set k (.grid p 37 cols (rowMod i (shiftN j cols n q) L))) := by
  obtain ⟨l, hl⟩ := get_of hi
  rw [rowMod_some hl]
  have hc : 0 < cols := by omega
  have hrow : l.1.length = cols := hR.at_ hl
  by_cases h0 : n = 0
  · have e : shiftN j cols n q l.1 = l.1 := if_pos h0
    rw [e, set_self hl]
    exact front_call hS hk (fun os1 h => Shift_none q hT h hc hcm ⟨by omega, by omega⟩ hq h0)
  by_cases h1 : 0 < n
  · have e : shiftN j cols n q l.1 = shiftR j (min n ((cols - j : Nat) : Int)).toNat q l.1 := by unfold shiftN; rw [if_neg h0, if_pos h1]
    rw [e]
    exact front_call hS hk (fun os1 h => Shift_right q hT h hc hcm hl hrow hq n hj h1 hn.2 (by omega))
  have e : shiftN j cols n q l.1 = shiftL j (min (-n) ((cols - j : Nat) : Int)).toNat q l.1 := by unfold shiftN; rw [if_neg h0, if_neg h1]
  rw [e]
  by_cases h2 : -n < ((cols - j : Nat) : Int)
  · obtain ⟨m, hm⟩ : ∃ m : Nat, (m : Int) = -n := ⟨(-n).toNat, by omega⟩
    obtain rfl : n = -(m : Int) := by omega
    rw [show (min (-(-(m : Int))) ((cols - j : Nat) : Int)).toNat = m by omega]
    exact front_call hS hk (fun os1 h => Shift_left1 q hT h hc hcm hl hrow hq hj (by omega) (by omega))
  · rw [show (min (-n) ((cols - j : Nat) : Int)).toNat = cols - j by omega]
    exact front_call hS hk (fun os1 h => Shift_left2 q hT h hc hcm hl hrow hq n hj (by omega) (by omega) hn.1)
theorem Roll_zero {top bot : Int} {n : Int} (q : Pen) (hT : Tabs w0) (hS : Objs w0 w os) (hk : os[k]? = some (.grid p 37 cols L)) (hc : 0 < cols) (hin : 0 ≤ top ∧ top ≤ bot ∧ bot < L.length) (hq : q.ok = true) (hn : n = 0) :
    Calls Tryd.prog 37 #[.pointer (some ⟨p, 0, none⟩), .agg #[.int .i64 top, .int .i64 bot], .int .i64 n, .agg (pv q)] w fun e w' => e = .returned (.tuple #[.slice none 0 0, .int .i64 0]) ∧ Objs w0 w' os := by
  have HQ := Lib.hid hq
  subst hn
  clear hq
  have S := Lib.hid hS
  have HT := Lib.hid hT
  have HK := Lib.hid hk
  have d1 : decide (top < 0) = false := by simp; omega
  have d2 : decide (bot < top) = false := by simp; omega
  have d3 : decide ((L.length : Int) ≤ bot) = false := by simp; omega
  clear hS hT hk
  go_enter Tryd.func37, Tryd.ntmps37
  go_wp2_with fail
  refine (none_no S.out.alloc2 (k := k + 2) HK.out hc).mono ?_
  rintro e w1 ⟨rfl, hS⟩
  generalize w.heap.size + 1 = b7 at hS ⊢
  generalize w.heap.size = b5 at hS ⊢
  have S2 := Lib.hid hS
  obtain ⟨A, c, hB, hcx, -⟩ := hS.gridRd (k := k + 2) HK.out
  obtain ⟨hx5, hf5, hz5⟩ := (hS.box (k := 1) rfl).facts
  obtain ⟨hxp, hfp, hzp⟩ := hB.facts
  clear hS hB S
  go_wp2_with fail
  refine wp_region_below (by kernel_rfl) (by kernel_rfl) ?_
  repeat (go_big_quiet_step (fail))
  refine wpQuiet_nil ?_
  intro w2 hb2
  have S3 := Lib.hid (S2.out.bel hb2)
  clear hx5 hf5 hz5 hxp hfp hzp S2 hb2
  have hp7 := (S3.out.box (k := 0) rfl).penAt
  have hz7 := (S3.out.box (k := 0) rfl).lt
  go_wp2_with fail
  refine (inked_is HQ.out HT.out S3.out).mono ?_
  rintro e w3 ⟨rfl, hS⟩
  have S4 := Lib.hid hS
  clear hS S3 hp7 hz7
  go_wp2_with fail
  go_ret2
  exact ⟨rfl, S4.out.tail.tail⟩
theorem RollG {top bot : Nat} (n : Int) (q : Pen) (hT : Tabs w0) (hS : Objs w0 w os) (hk : os[k]? = some (.grid p 37 cols L)) (hc : 0 < cols) (hcm : cols ≤ 1000) (hL : L.length ≤ 100000) (htb : top ≤ bot) (hbl : bot < L.length) (hq : q.ok = true) (hn : -9223372036854775808 ≤ n ∧ n ≤ 9223372036854775807) :
    Calls Tryd.prog 37 #[.pointer (some ⟨p, 0, none⟩), .agg #[.int .i64 top, .int .i64 bot], .int .i64 n, .agg (pv q)] w fun e w' => ∃ A m c, e = .returned (.tuple #[.slice A m c, .int .i64 0]) ∧ Objs w0 w' (.lines (.slice A m c) (rollGone top bot n L) :: os.set k (.grid p 37 cols (rollL top bot n q cols L))) := by
  by_cases h0 : n = 0
  · have e1 : rollGone top bot n L = [] := if_pos h0
    have e2 : rollL top bot n q cols L = L := if_pos h0
    rw [e1, e2, set_self hk]
    exact (Roll_zero (top := top) (bot := bot) q hT hS hk hc ⟨by omega, by omega, by omega⟩ hq h0).mono (fun e w' ⟨h1, h2⟩ => ⟨none, 0, 0, h1, h2.nilLines⟩)
  by_cases h1 : 0 < n
  · by_cases h2 : n < ((bot + 1 - top : Nat) : Int)
    · exact (Roll_pos (k := n.toNat) q hT (hS.lift hk) hc hcm hL htb hbl hq h1 (.inl ⟨h2, by omega⟩)).mono (fun e w' ⟨A, m, c, h1, h2⟩ => ⟨A, m, c, h1, h2.lowerNew hk⟩)
    · exact (Roll_pos (k := bot + 1 - top) q hT (hS.lift hk) hc hcm hL htb hbl hq h1 (.inr ⟨⟨by omega, hn.2⟩, rfl⟩)).mono (fun e w' ⟨A, m, c, h1, h2⟩ => ⟨A, m, c, h1, h2.lowerNew hk⟩)
  · by_cases h2 : -((bot + 1 - top : Nat) : Int) < n
    · exact (Roll_neg (k := (-n).toNat) q hT (hS.lift hk) hc hcm hL htb hbl hq (by omega) (.inl ⟨h2, by omega⟩)).mono (fun e w' ⟨A, m, c, h1, h2⟩ => ⟨A, m, c, h1, h2.lowerNew hk⟩)
    · exact (Roll_neg (k := bot + 1 - top) q hT (hS.lift hk) hc hcm hL htb hbl hq (by omega) (.inr ⟨⟨by omega, hn.1⟩, rfl⟩)).mono (fun e w' ⟨A, m, c, h1, h2⟩ => ⟨A, m, c, h1, h2.lowerNew hk⟩)
end
theorem shiftN_length {j cols : Nat} {n : Int} {q : Pen} {cs : List Cell} (h : cs.length = cols) (hj : j < cols) : (shiftN j cols n q cs).length = cols := by
  unfold shiftN
  split
  · exact h
  split
  · rw [shiftR_length (by omega)]; exact h
  · rw [shiftL_length (by omega)]; exact h
end Go.Proofs.YtghahanpmcpacaaDoor

/-
  Erasing, in plain lists: what becomes of a row, of all rows.
-/
set_option linter.unusedSimpArgs false
set_option linter.unusedVariables false
namespace Go.Proofs.YtghahanpmcpacaaDoor
open Go.RowKit

theorem cAt_set (cs : List Cell) (i j : Nat) (x : Cell) : cAt (cs.set i x) j = if i = j ∧ i < cs.length then x else cAt cs j := by
  unfold cAt
  simp only [List.getD_eq_getElem?_getD, List.getElem?_set]
  by_cases h : i = j
  · subst h
    by_cases h2 : i < cs.length
    · simp [h2]
    · simp [h2]
  · simp [h]
theorem cells_ext {xs ys : List Cell} (hl : xs.length = ys.length) (h : ∀ j, j < xs.length → cAt xs j = cAt ys j) : xs = ys := by
  apply List.ext_getElem hl
  intro j h1 h2
  have := h j h1
  rwa [cAt_eq h1, cAt_eq h2] at this
theorem cAt_brk (c : Nat) (cs : List Cell) (j : Nat) : cAt (brk c cs) j = if (1 ≤ c ∧ c < cs.length ∧ (cAt cs (c - 1)).width = 2) ∧ (j + 1 = c ∨ j = c) then blank (cAt cs j).pen else cAt cs j := by
  cases c with
  | zero => simp [brk]
  | succ m =>
    rw [brk_succ]
    by_cases h : m + 1 < cs.length ∧ (cAt cs m).width = 2
    · rw [if_pos h, cAt_set, cAt_set]
      simp only [List.length_set, Nat.add_sub_cancel]
      by_cases h1 : m + 1 = j
      · subst h1; simp [h.1, h.2]
      · by_cases h2 : m = j
        · subst h2; simp [h.2, show m < cs.length by omega, h.1]
        · rw [if_neg (by omega), if_neg (by omega), if_neg (by omega)]
    · rw [if_neg h, if_neg]
      simp only [Nat.add_sub_cancel]
      intro h2; exact h ⟨h2.1.2.1, h2.1.2.2⟩
/-- A row's line turns. -/
def lnMod (i : Nat) (F : Ln → Ln) (L : List Ln) : List Ln := match L[i]? with | some l => L.set i (F l) | none => L
theorem lnMod_get (i : Nat) (F : Ln → Ln) (L : List Ln) (r : Nat) : (lnMod i F L)[r]? = (L[r]?).map (fun l => if r = i then F l else l) := by
  unfold lnMod
  split
  · rename_i l hl
    rw [List.getElem?_set]
    by_cases h : i = r
    · subst h
      have hi := (List.getElem?_eq_some_iff.1 hl).1
      rw [if_pos rfl, if_pos hi, hl]
      simp
    · rw [if_neg h]
      have h' : ¬ r = i := fun e => h e.symm
      simp [h']
  · rename_i hl
    by_cases h : r = i
    · subst h; rw [hl]; rfl
    · simp [h]
theorem rowMod_is (i : Nat) (f : List Cell → List Cell) (L : List Ln) : rowMod i f L = lnMod i (fun l => (f l.1, l.2)) L := rfl
theorem softMod_is (i : Nat) (s : Bool) (L : List Ln) : softMod i s L = lnMod i (fun l => (l.1, s)) L := rfl
theorem lnMod_lnMod (i : Nat) (F G : Ln → Ln) (L : List Ln) : lnMod i F (lnMod i G L) = lnMod i (fun l => F (G l)) L := by
  apply List.ext_getElem?
  intro r
  rw [lnMod_get, lnMod_get, lnMod_get, Option.map_map]
  congr 1
  funext l
  by_cases h : r = i <;> simp [h]
theorem Rect.lnMod {n : Nat} {L : List Ln} (h : Rect n L) (i : Nat) {F : Ln → Ln} (hF : ∀ l : Ln, l.1.length = n → (F l).1.length = n) : Rect n (lnMod i F L) := by
  unfold Proofs.YtghahanpmcpacaaDoor.lnMod
  split
  · rename_i l hl; exact rect_set h (hF _ (h.at_ hl))
  · exact h
/-- The other rows' part of erasing in the screen: the first n rows are done. -/
def otherRow (row : Nat) (k : Int) (n : Nat) : Prop := (n < row ∧ ¬ k = 0) ∨ (row < n ∧ ¬ k = 1)
instance (row : Nat) (k : Int) (n : Nat) : Decidable (otherRow row k n) := by unfold otherRow; infer_instance
section
variable {cols row col : Nat} {k : Int} {q : Pen} {L : List Ln}
end
end Go.Proofs.YtghahanpmcpacaaDoor

/-
  What each row is behind a roll; two rolls, one after the other.
-/
set_option linter.unusedSimpArgs false
set_option linter.unusedVariables false
namespace Go.Proofs.YtghahanpmcpacaaDoor
open Go.RowKit

def hardIf (b : Prop) [Decidable b] (l : Ln) : Ln := if b then (l.1, false) else l
def freshLn (cols : Nat) (q : Pen) : Ln := (List.replicate cols (blank q), false)
theorem hardIf_no {b : Prop} [Decidable b] (h : ¬ b) : hardIf b = id := by funext l; simp [hardIf, h]
theorem softMod_get (i : Nat) (L : List Ln) (r : Nat) : (softMod i false L)[r]? = (L[r]?).map (hardIf (r = i)) := by
  rw [softMod_is, lnMod_get]; rfl
theorem rollFresh_get {k cols r : Nat} {q : Pen} (h : r < k) : (rollFresh k cols q)[r]? = some (freshLn cols q) := by simp [rollFresh, freshLn, h]
theorem rollFresh_len (k cols : Nat) (q : Pen) : (rollFresh k cols q).length = k := by simp [rollFresh]
/-- The row that lies at a place behind a roll. -/
def rollAt (top bot : Nat) (n : Int) (q : Pen) (cols : Nat) (L : List Ln) (r : Nat) : Option Ln :=
  if n = 0 then L[r]? else
  (if r < top ∨ bot < r then L[r]?
   else if 0 < n then (if r + rollK n (bot + 1 - top) ≤ bot then (L[r + rollK n (bot + 1 - top)]?).map (hardIf (r + rollK n (bot + 1 - top) = bot)) else some (freshLn cols q))
   else (if r < top + rollK n (bot + 1 - top) then some (freshLn cols q) else (L[r - rollK n (bot + 1 - top)]?).map (hardIf (r = bot)))).map (hardIf (0 < top ∧ r + 1 = top))
section
variable {top bot : Nat} {n : Int} {q : Pen} {cols : Nat} {L : List Ln}
theorem rollIn_get {r : Nat} (hr : r < bot + 1 - top) : (rollIn top bot L)[r]? = L[top + r]? := by
  unfold rollIn; rw [List.getElem?_take, if_pos hr, List.getElem?_drop]
theorem rollMid_get (htb : top ≤ bot) (hbl : bot < L.length) {r : Nat} (hr : r < bot + 1 - top) :
    (rollMid top bot n q cols L)[r]? = if 0 < n then (if r + rollK n (bot + 1 - top) ≤ bot - top then (L[top + r + rollK n (bot + 1 - top)]?).map (hardIf (r + rollK n (bot + 1 - top) = bot - top)) else some (freshLn cols q))
      else (if r < rollK n (bot + 1 - top) then some (freshLn cols q) else (L[top + r - rollK n (bot + 1 - top)]?).map (hardIf (r = bot - top))) := by
  have hK := rollK_le n (bot + 1 - top)
  have hSl := rollStay_length (n := n) htb hbl
  unfold rollMid
  by_cases h0 : 0 < n
  · rw [if_pos h0, if_pos h0]
    by_cases h1 : r + rollK n (bot + 1 - top) ≤ bot - top
    · rw [if_pos h1, List.getElem?_append_left (by rw [lastHard_length, hSl]; omega)]
      unfold lastHard
      rw [softMod_get, hSl]
      unfold rollStay
      rw [if_pos h0, List.getElem?_drop, rollIn_get (by omega), show top + (rollK n (bot + 1 - top) + r) = top + r + rollK n (bot + 1 - top) by omega]
      congr 1
      funext l
      unfold hardIf
      by_cases h2 : r + rollK n (bot + 1 - top) = bot - top
      · rw [if_pos (by omega), if_pos h2]
      · rw [if_neg (by omega), if_neg h2]
    · rw [if_neg h1, List.getElem?_append_right (by rw [lastHard_length, hSl]; omega), rollFresh_get (by rw [lastHard_length, hSl]; omega)]
  · rw [if_neg h0, if_neg h0]
    by_cases h1 : r < rollK n (bot + 1 - top)
    · rw [if_pos h1, List.getElem?_append_left (by rw [rollFresh_len]; exact h1), rollFresh_get h1]
    · rw [if_neg h1, List.getElem?_append_right (by rw [rollFresh_len]; omega), rollFresh_len]
      unfold lastHard
      rw [softMod_get, hSl]
      unfold rollStay
      rw [if_neg h0, List.getElem?_take, if_pos (by omega), rollIn_get (by omega), show top + (r - rollK n (bot + 1 - top)) = top + r - rollK n (bot + 1 - top) by omega]
      congr 1
      funext l
      unfold hardIf
      by_cases h2 : r = bot - top
      · rw [if_pos (by omega), if_pos h2]
      · rw [if_neg (by omega), if_neg h2]
theorem topHard_get (r : Nat) : (topHard top L)[r]? = (L[r]?).map (hardIf (0 < top ∧ r + 1 = top)) := by
  unfold topHard
  by_cases h : 0 < top
  · rw [if_pos h, softMod_get]
    congr 1
    funext l
    unfold hardIf
    by_cases h2 : r = top - 1
    · rw [if_pos h2, if_pos (by omega)]
    · rw [if_neg h2, if_neg (by omega)]
  · rw [if_neg h, hardIf_no (by omega)]; simp
theorem rollL_get (htb : top ≤ bot) (hbl : bot < L.length) (r : Nat) : (rollL top bot n q cols L)[r]? = rollAt top bot n q cols L r := by
  unfold rollL rollAt
  by_cases h0 : n = 0
  · rw [if_pos h0, if_pos h0]
  rw [if_neg h0, if_neg h0, topHard_get]
  congr 1
  have hM := rollMid_length (n := n) (q := q) (cols := cols) htb hbl
  by_cases h1 : r < top
  · rw [List.getElem?_append_left (by simp; omega), List.getElem?_take, if_pos h1, if_pos (.inl h1)]
  have hTl : (L.take top).length = top := by simp; omega
  rw [List.getElem?_append_right (by omega), hTl]
  by_cases h2 : bot < r
  · rw [List.getElem?_append_right (by omega), hM, List.getElem?_drop, if_pos (.inr h2), show bot + 1 + (r - top - (bot + 1 - top)) = r by omega]
  rw [List.getElem?_append_left (by omega), rollMid_get htb hbl (by omega), if_neg (by omega : ¬ (r < top ∨ bot < r))]
  by_cases h3 : 0 < n
  · rw [if_pos h3, if_pos h3]
    by_cases h4 : r + rollK n (bot + 1 - top) ≤ bot
    · rw [if_pos (by omega), if_pos h4, show top + (r - top) = r by omega]
      congr 1
      funext l
      unfold hardIf
      by_cases h5 : r + rollK n (bot + 1 - top) = bot
      · rw [if_pos (by omega), if_pos h5]
      · rw [if_neg (by omega), if_neg h5]
    · rw [if_neg (show ¬ r - top + rollK n (bot + 1 - top) ≤ bot - top by omega), if_neg h4]
  · rw [if_neg h3, if_neg h3]
    by_cases h4 : r < top + rollK n (bot + 1 - top)
    · rw [if_pos (show r - top < rollK n (bot + 1 - top) by omega), if_pos h4]
    · rw [if_neg (show ¬ r - top < rollK n (bot + 1 - top) by omega), if_neg h4, show top + (r - top) = r by omega]
      congr 1
      funext l
      unfold hardIf
      by_cases h5 : r = bot
      · rw [if_pos (by omega), if_pos h5]
      · rw [if_neg (by omega), if_neg h5]
/-- Two rolls in the same direction are one. -/
theorem hardIf_hardIf (a b : Prop) [Decidable a] [Decidable b] (l : Ln) : hardIf a (hardIf b l) = hardIf (a ∨ b) l := by
  unfold hardIf
  by_cases ha : a <;> by_cases hb : b <;> simp [ha, hb]
theorem hardIf_fresh (a : Prop) [Decidable a] (cols : Nat) (q : Pen) : hardIf a (freshLn cols q) = freshLn cols q := by
  unfold hardIf freshLn; split <;> rfl
theorem hardIf_cong {a b : Prop} [Decidable a] [Decidable b] (h : a ↔ b) : hardIf a = hardIf b := by
  funext l; unfold hardIf; by_cases ha : a
  · rw [if_pos ha, if_pos (h.1 ha)]
  · rw [if_neg ha, if_neg (fun hb => ha (h.2 hb))]
/-- What a row is, piece by piece. -/
theorem rollAt_out (hn : ¬ n = 0) {r : Nat} (h : r < top ∨ bot < r) : rollAt top bot n q cols L r = (L[r]?).map (hardIf (0 < top ∧ r + 1 = top)) := by
  unfold rollAt; rw [if_neg hn, if_pos h]
theorem rollAt_up (hn : 0 < n) {r K : Nat} (hK : rollK n (bot + 1 - top) = K) (h : ¬ (r < top ∨ bot < r)) (h2 : r + K ≤ bot) : rollAt top bot n q cols L r = (L[r + K]?).map (hardIf (r + K = bot)) := by
  subst hK
  unfold rollAt
  rw [if_neg (show ¬ n = 0 by omega), if_neg h, if_pos hn, if_pos h2, hardIf_no (show ¬ (0 < top ∧ r + 1 = top) by omega), Option.map_id, id]
theorem rollAt_upf (hn : 0 < n) {r K : Nat} (hK : rollK n (bot + 1 - top) = K) (h : ¬ (r < top ∨ bot < r)) (h2 : ¬ r + K ≤ bot) : rollAt top bot n q cols L r = some (freshLn cols q) := by
  subst hK
  unfold rollAt
  rw [if_neg (show ¬ n = 0 by omega), if_neg h, if_pos hn, if_neg h2, Option.map_some, hardIf_fresh]
theorem rollAt_dnf (hn : n < 0) {r K : Nat} (hK : rollK n (bot + 1 - top) = K) (h : ¬ (r < top ∨ bot < r)) (h2 : r < top + K) : rollAt top bot n q cols L r = some (freshLn cols q) := by
  subst hK
  unfold rollAt
  rw [if_neg (show ¬ n = 0 by omega), if_neg h, if_neg (show ¬ 0 < n by omega), if_pos h2, Option.map_some, hardIf_fresh]
theorem rollAt_dn (hn : n < 0) {r K : Nat} (hK : rollK n (bot + 1 - top) = K) (h : ¬ (r < top ∨ bot < r)) (h2 : ¬ r < top + K) : rollAt top bot n q cols L r = (L[r - K]?).map (hardIf (r = bot)) := by
  subst hK
  unfold rollAt
  rw [if_neg (show ¬ n = 0 by omega), if_neg h, if_neg (show ¬ 0 < n by omega), if_neg h2, hardIf_no (show ¬ (0 < top ∧ r + 1 = top) by omega), Option.map_id, id]
theorem map_hard (o : Option Ln) (a b c : Prop) [Decidable a] [Decidable b] [Decidable c] (h : a ∨ b ↔ c) : (o.map (hardIf b)).map (hardIf a) = o.map (hardIf c) := by
  rw [Option.map_map]
  congr 1
  funext l
  rw [Function.comp_apply, hardIf_hardIf]
  exact congrFun (hardIf_cong h) l
theorem rollL_up {m k : Nat} (htb : top ≤ bot) (hbl : bot < L.length) : rollL top bot (m : Int) q cols (rollL top bot (k : Int) q cols L) = rollL top bot ((k + m : Nat) : Int) q cols L := by
  by_cases hk0 : k = 0
  · subst hk0; rw [Nat.zero_add]; congr 1
  by_cases hm0 : m = 0
  · subst hm0; rw [Nat.add_zero]; rfl
  have hl : (rollL top bot (k : Int) q cols L).length = L.length := rollL_length htb hbl
  have e0 : rollK (k : Int) (bot + 1 - top) = min k (bot + 1 - top) := by unfold rollK; split <;> omega
  have e1 : rollK (m : Int) (bot + 1 - top) = min m (bot + 1 - top) := by unfold rollK; split <;> omega
  have e2 : rollK ((k + m : Nat) : Int) (bot + 1 - top) = min (k + m) (bot + 1 - top) := by unfold rollK; split <;> omega
  apply List.ext_getElem?
  intro r
  rw [rollL_get htb (by rw [hl]; exact hbl), rollL_get htb hbl]
  by_cases h1 : r < top ∨ bot < r
  · rw [rollAt_out (by omega) h1, rollAt_out (by omega) h1, rollL_get htb hbl, rollAt_out (by omega) h1]
    exact map_hard _ _ _ _ (by omega)
  by_cases h2 : r + min m (bot + 1 - top) ≤ bot
  · rw [rollAt_up (by omega) e1 h1 h2, rollL_get htb hbl]
    by_cases h3 : r + min m (bot + 1 - top) + min k (bot + 1 - top) ≤ bot
    · rw [rollAt_up (by omega) e0 (by omega) h3, rollAt_up (by omega) e2 h1 (by omega), show r + min m (bot + 1 - top) + min k (bot + 1 - top) = r + min (k + m) (bot + 1 - top) by omega]
      exact map_hard _ _ _ _ (by omega)
    · rw [rollAt_upf (by omega) e0 (by omega) h3, rollAt_upf (by omega) e2 h1 (by omega), Option.map_some, hardIf_fresh]
  · rw [rollAt_upf (by omega) e1 h1 h2, rollAt_upf (by omega) e2 h1 (by omega)]
theorem rollL_down {m k : Nat} (htb : top ≤ bot) (hbl : bot < L.length) : rollL top bot (-(m : Int)) q cols (rollL top bot (-(k : Int)) q cols L) = rollL top bot (-((k + m : Nat) : Int)) q cols L := by
  by_cases hk0 : k = 0
  · subst hk0; rw [Nat.zero_add]; congr 1
  by_cases hm0 : m = 0
  · subst hm0; rw [Nat.add_zero]; rfl
  have hl : (rollL top bot (-(k : Int)) q cols L).length = L.length := rollL_length htb hbl
  have e0 : rollK (-(k : Int)) (bot + 1 - top) = min k (bot + 1 - top) := by unfold rollK; split <;> omega
  have e1 : rollK (-(m : Int)) (bot + 1 - top) = min m (bot + 1 - top) := by unfold rollK; split <;> omega
  have e2 : rollK (-((k + m : Nat) : Int)) (bot + 1 - top) = min (k + m) (bot + 1 - top) := by unfold rollK; split <;> omega
  apply List.ext_getElem?
  intro r
  rw [rollL_get htb (by rw [hl]; exact hbl), rollL_get htb hbl]
  by_cases h1 : r < top ∨ bot < r
  · rw [rollAt_out (by omega) h1, rollAt_out (by omega) h1, rollL_get htb hbl, rollAt_out (by omega) h1]
    exact map_hard _ _ _ _ (by omega)
  by_cases h2 : r < top + min m (bot + 1 - top)
  · rw [rollAt_dnf (by omega) e1 h1 h2, rollAt_dnf (by omega) e2 h1 (by omega)]
  · rw [rollAt_dn (by omega) e1 h1 h2, rollL_get htb hbl]
    by_cases h3 : r - min m (bot + 1 - top) < top + min k (bot + 1 - top)
    · rw [rollAt_dnf (by omega) e0 (by omega) h3, rollAt_dnf (by omega) e2 h1 (by omega), Option.map_some, hardIf_fresh]
    · rw [rollAt_dn (by omega) e0 (by omega) h3, rollAt_dn (by omega) e2 h1 (by omega), show r - min m (bot + 1 - top) - min k (bot + 1 - top) = r - min (k + m) (bot + 1 - top) by omega]
      exact map_hard _ _ _ _ (by omega)
end
end Go.Proofs.YtghahanpmcpacaaDoor

/-
  Inserting and deleting, in plain lists.
-/
set_option linter.unusedSimpArgs false
set_option linter.unusedVariables false
namespace Go.Proofs.YtghahanpmcpacaaDoor
open Go.RowKit

theorem brk_id {c : Nat} {cs : List Cell} (h : 1 ≤ c → c < cs.length → ¬ (cAt cs (c - 1)).width = 2) : brk c cs = cs :=
  cells_ext (brk_length _ _) (fun j hj => by rw [cAt_brk, if_neg]; intro h2; exact h h2.1.1 h2.1.2.1 h2.1.2.2)
theorem brk_before {c : Nat} {cs : List Cell} (h1 : 1 ≤ c) (hc : c < cs.length) : ¬ (cAt (brk c cs) (c - 1)).width = 2 := by
  rw [cAt_brk]
  split
  · simp [blank]
  · rename_i h; intro h2; exact h ⟨⟨h1, hc, h2⟩, by omega⟩
section
variable {j k m : Nat} {q : Pen} {cs : List Cell}
theorem cAt_shiftR (h : j + k ≤ cs.length) {i : Nat} (hi : i < cs.length) : cAt (shiftR j k q cs) i = if i < j then cAt (brk (cs.length - k) (brk j cs)) i else if i < j + k then blank q else cAt (brk (cs.length - k) (brk j cs)) (i - k) := by
  obtain ⟨l, hl⟩ : ∃ l, l = brk (cs.length - k) (brk j cs) := ⟨_, rfl⟩
  have hll : l.length = cs.length := by rw [hl, brk_length, brk_length]
  unfold shiftR
  simp only [← hl]
  have ht : (l.take j).length = j := by simp; omega
  unfold cAt
  simp only [List.getD_eq_getElem?_getD]
  by_cases h1 : i < j
  · rw [if_pos h1, List.getElem?_append_left (by omega), List.getElem?_take, if_pos h1]
  · rw [if_neg h1, List.getElem?_append_right (by omega), ht]
    by_cases h2 : i < j + k
    · rw [if_pos h2, List.getElem?_append_left (by simp; omega)]
      simp [List.getElem?_replicate, show i - j < k by omega]
    · rw [if_neg h2, List.getElem?_append_right (by simp; omega), List.length_replicate, List.getElem?_take, if_pos (by omega), List.getElem?_drop, show j + (i - j - k) = i - k by omega]
theorem cAt_shiftL (h : j + k ≤ cs.length) {i : Nat} (hi : i < cs.length) : cAt (shiftL j k q cs) i = if i < j then cAt (brk (j + k) (brk j cs)) i else if i < cs.length - k then cAt (brk (j + k) (brk j cs)) (i + k) else blank q := by
  obtain ⟨l, hl⟩ : ∃ l, l = brk (j + k) (brk j cs) := ⟨_, rfl⟩
  have hll : l.length = cs.length := by rw [hl, brk_length, brk_length]
  unfold shiftL
  simp only [← hl]
  have ht : (l.take j).length = j := by simp; omega
  unfold cAt
  simp only [List.getD_eq_getElem?_getD]
  by_cases h1 : i < j
  · rw [if_pos h1, List.getElem?_append_left (by omega), List.getElem?_take, if_pos h1]
  · rw [if_neg h1, List.getElem?_append_right (by omega), ht]
    by_cases h2 : i < cs.length - k
    · rw [if_pos h2, List.getElem?_append_left (by simp; omega), List.getElem?_drop, show j + k + (i - j) = i + k by omega]
    · rw [if_neg h2, List.getElem?_append_right (by simp; omega)]
      simp [List.getElem?_replicate, show i - j - (l.length - (j + k)) < k by omega]
/-- Cells before the place keep what they are, but for one half. -/
theorem shiftR_before (h : j + k ≤ cs.length) (hj : j < cs.length) {i : Nat} (hi : i < j) : cAt (shiftR j k q cs) i = cAt (brk j cs) i := by
  rw [cAt_shiftR h (by omega), if_pos hi, cAt_brk, if_neg]
  intro h2
  rw [brk_length] at h2
  rcases Nat.lt_or_ge (cs.length - k) (j + 1) with h3 | h3
  · have e : cs.length - k = j := by omega
    rw [e] at h2
    exact brk_before (by omega) hj h2.1.2.2
  · omega
theorem shiftL_before (h : j + k ≤ cs.length) (hj : j < cs.length) {i : Nat} (hi : i < j) : cAt (shiftL j k q cs) i = cAt (brk j cs) i := by
  rw [cAt_shiftL h (by omega), if_pos hi, cAt_brk, if_neg]
  intro h2
  rw [brk_length] at h2
  by_cases hk : k = 0
  · subst hk
    exact brk_before (by omega) hj h2.1.2.2
  · omega
theorem shiftR_brk (h : j + k ≤ cs.length) (hj : j < cs.length) : brk j (shiftR j k q cs) = shiftR j k q cs :=
  brk_id (fun h1 h2 => by rw [shiftR_before h hj (by omega)]; exact brk_before h1 hj)
theorem shiftL_brk (h : j + k ≤ cs.length) (hj : j < cs.length) : brk j (shiftL j k q cs) = shiftL j k q cs :=
  brk_id (fun h1 h2 => by rw [shiftL_before h hj (by omega)]; exact brk_before h1 hj)
theorem shiftR_blank (h : j + k ≤ cs.length) {i : Nat} (h1 : j ≤ i) (h2 : i < j + k) : cAt (shiftR j k q cs) i = blank q := by
  rw [cAt_shiftR h (by omega), if_neg (by omega), if_pos h2]
theorem shiftL_blank (h : j + k ≤ cs.length) {i : Nat} (h1 : cs.length - k ≤ i) (h2 : i < cs.length) : cAt (shiftL j k q cs) i = blank q := by
  rw [cAt_shiftL h h2, if_neg (by omega), if_neg (by omega)]
theorem shiftR_two (hj : j < cs.length) (h1 : j + k ≤ cs.length) (h2 : j + m ≤ cs.length) (hk : 0 < k) (hm : 0 < m) : shiftR j m q (shiftR j k q cs) = shiftR j (min (k + m) (cs.length - j)) q cs := by
  have hl : (shiftR j k q cs).length = cs.length := shiftR_length h1
  refine cells_ext (by rw [shiftR_length (by omega), hl, shiftR_length (by omega)]) (fun i hi => ?_)
  rw [shiftR_length (by omega), hl] at hi
  have ht : j + min (k + m) (cs.length - j) ≤ cs.length := by omega
  by_cases h3 : i < j
  · rw [shiftR_before (by omega) (by omega) h3, shiftR_before ht hj h3, shiftR_brk h1 hj, shiftR_before h1 hj h3]
  by_cases h4 : i < j + m
  · rw [shiftR_blank (by omega) (by omega) h4, shiftR_blank ht (by omega) (by omega)]
  rw [cAt_shiftR (by omega) (by omega), if_neg h3, if_neg h4, hl, shiftR_brk h1 hj]
  by_cases h5 : k + m < cs.length - j
  · rw [Nat.min_eq_left (by omega)]
    by_cases h6 : i < j + (k + m)
    · rw [shiftR_blank (k := k + m) (by omega) (by omega) h6, cAt_brk, hl, if_neg (by omega), shiftR_blank h1 (by omega) (by omega)]
    · have hw : ∀ x, j + k ≤ x → x + m < cs.length → cAt (shiftR j k q cs) x = cAt (brk j cs) (x - k) := fun x hx1 hx2 => by
        rw [cAt_shiftR h1 (by omega), if_neg (by omega), if_neg (by omega), cAt_brk, brk_length, if_neg (by omega)]
      rw [cAt_shiftR (k := k + m) (by omega) hi, if_neg h3, if_neg h6, cAt_brk, cAt_brk, hl, brk_length, hw (i - m) (by omega) (by omega), show i - m - k = i - (k + m) by omega]
      by_cases h7 : i - m + 1 = cs.length - m
      · rw [hw (cs.length - m - 1) (by omega) (by omega), show cs.length - m - 1 - k = cs.length - (k + m) - 1 by omega]
        by_cases h8 : (cAt (brk j cs) (cs.length - (k + m) - 1)).width = 2
        · rw [if_pos ⟨⟨by omega, by omega, h8⟩, by omega⟩, if_pos ⟨⟨by omega, by omega, h8⟩, by omega⟩]
        · rw [if_neg (fun h => h8 h.1.2.2), if_neg (fun h => h8 h.1.2.2)]
      · rw [if_neg (by omega), if_neg (by omega)]
  · rw [Nat.min_eq_right (by omega), shiftR_blank (k := cs.length - j) (by omega) (by omega) (by omega), cAt_brk, if_neg, shiftR_blank h1 (by omega) (by omega)]
    intro h6
    rw [hl] at h6
    obtain ⟨⟨g1, g2, g3⟩, g4⟩ := h6
    rcases Nat.lt_or_ge (cs.length - m - 1) j with h7 | h7
    · rw [shiftR_before h1 hj h7, show cs.length - m - 1 = j - 1 by omega] at g3
      exact brk_before (by omega) hj g3
    · rw [shiftR_blank h1 h7 (by omega)] at g3
      simp [blank] at g3
/-- No wide cell lies right behind another one. -/
def W2 (cs : List Cell) : Prop := ∀ i, i + 1 < cs.length → (cAt cs i).width = 2 → ¬ (cAt cs (i + 1)).width = 2
theorem W2.brk {cs : List Cell} (h : W2 cs) (c : Nat) : W2 (brk c cs) := fun i hi h1 h2 => by
  rw [brk_length] at hi
  rw [cAt_brk] at h1 h2
  split at h1
  · simp [blank] at h1
  · split at h2
    · simp [blank] at h2
    · exact h i hi h1 h2
theorem shiftL_two (hw : W2 cs) (hj : j < cs.length) (h1 : j + k ≤ cs.length) (h2 : j + m ≤ cs.length) (hk : 0 < k) (hm : 0 < m) : shiftL j m q (shiftL j k q cs) = shiftL j (min (k + m) (cs.length - j)) q cs := by
  have hl : (shiftL j k q cs).length = cs.length := shiftL_length h1
  have hwb := hw.brk j
  refine cells_ext (by rw [shiftL_length (by omega), hl, shiftL_length (by omega)]) (fun i hi => ?_)
  rw [shiftL_length (by omega), hl] at hi
  have ht : j + min (k + m) (cs.length - j) ≤ cs.length := by omega
  by_cases h3 : i < j
  · rw [shiftL_before (by omega) (by omega) h3, shiftL_before ht hj h3, shiftL_brk h1 hj, shiftL_before h1 hj h3]
  by_cases h4 : cs.length - m ≤ i
  · rw [shiftL_blank (by omega) (by omega) (by omega), shiftL_blank ht (by omega) (by omega)]
  rw [cAt_shiftL (by omega) (by omega), if_neg h3, if_pos (by omega), shiftL_brk h1 hj]
  by_cases h5 : k + m < cs.length - j
  · rw [Nat.min_eq_left (by omega)]
    by_cases h6 : cs.length - (k + m) ≤ i
    · rw [shiftL_blank (k := k + m) (by omega) (by omega) (by omega), cAt_brk, if_neg (by omega), shiftL_blank h1 (by omega) (by omega)]
    · have hx : ∀ x, j + 1 ≤ x → x < cs.length - k → cAt (shiftL j k q cs) x = cAt (brk j cs) (x + k) := fun x hx1 hx2 => by
        rw [cAt_shiftL h1 (by omega), if_neg (by omega), if_pos hx2, cAt_brk, if_neg (by omega)]
      rw [cAt_shiftL (k := k + m) (by omega) hi, if_neg h3, if_pos (by omega), cAt_brk, cAt_brk, hl, brk_length, hx (i + m) (by omega) (by omega), show i + m + k = i + (k + m) by omega]
      by_cases h7 : i = j
      · have e : (cAt (shiftL j k q cs) (j + m - 1)).width = 2 ↔ (cAt (brk j cs) (j + (k + m) - 1)).width = 2 := by
          by_cases hm1 : m = 1
          · subst hm1
            rw [Nat.add_sub_cancel, cAt_shiftL h1 (by omega), if_neg (by omega), if_pos (by omega), cAt_brk, brk_length, show j + (k + 1) - 1 = j + k by omega]
            by_cases h8 : (cAt (brk j cs) (j + k - 1)).width = 2
            · rw [if_pos ⟨⟨by omega, by omega, h8⟩, by omega⟩]
              have := hwb (j + k - 1) (by rw [brk_length]; omega) h8
              rw [show j + k - 1 + 1 = j + k by omega] at this
              simp [blank, this]
            · rw [if_neg (fun h => h8 h.1.2.2)]
          · rw [hx (j + m - 1) (by omega) (by omega), show j + m - 1 + k = j + (k + m) - 1 by omega]
        by_cases h8 : (cAt (brk j cs) (j + (k + m) - 1)).width = 2
        · rw [if_pos ⟨⟨by omega, by omega, e.2 h8⟩, by omega⟩, if_pos ⟨⟨by omega, by omega, h8⟩, by omega⟩]
        · rw [if_neg (fun h => h8 (e.1 h.1.2.2)), if_neg (fun h => h8 h.1.2.2)]
      · rw [if_neg (by omega), if_neg (by omega)]
  · have hb : cAt (shiftL j k q cs) (i + m) = blank q := shiftL_blank h1 (by omega) (by omega)
    rw [Nat.min_eq_right (by omega), shiftL_blank (k := cs.length - j) (by omega) (by omega) (by omega), cAt_brk]
    split
    · rw [hb]; rfl
    · exact hb
end
section
variable {j cols a b : Nat} {q : Pen} {cs : List Cell}
theorem shiftN_ins (hl : cs.length = cols) (hj : j < cols) : shiftN j cols (b : Int) q (shiftN j cols (a : Int) q cs) = shiftN j cols ((a + b : Nat) : Int) q cs := by
  by_cases ha : a = 0
  · subst ha; rw [Nat.zero_add]; congr 1
  by_cases hb : b = 0
  · subst hb; rw [Nat.add_zero]; rfl
  unfold shiftN
  rw [if_neg (by omega), if_pos (by omega), if_neg (by omega), if_pos (by omega), if_neg (by omega), if_pos (by omega), shiftR_two (by omega) (by omega) (by omega) (by omega) (by omega)]
  congr 1
  omega
theorem shiftN_del (hw : W2 cs) (hl : cs.length = cols) (hj : j < cols) : shiftN j cols (-(b : Int)) q (shiftN j cols (-(a : Int)) q cs) = shiftN j cols (-((a + b : Nat) : Int)) q cs := by
  by_cases ha : a = 0
  · subst ha; rw [Nat.zero_add]; congr 1
  by_cases hb : b = 0
  · subst hb; rw [Nat.add_zero]; rfl
  unfold shiftN
  rw [if_neg (by omega), if_neg (by omega), if_neg (by omega), if_neg (by omega), if_neg (by omega), if_neg (by omega), shiftL_two hw (by omega) (by omega) (by omega) (by omega) (by omega)]
  congr 1
  omega
/-- Cells before the one before the place stay. -/
theorem shiftN_far (n : Int) (hl : cs.length = cols) (hj : j < cols) {i : Nat} (hi : i + 1 < j) : cAt (shiftN j cols n q cs) i = cAt cs i := by
  unfold shiftN
  split
  · rfl
  split
  · rw [shiftR_before (by omega) (by omega) (by omega), cAt_brk, if_neg (by omega)]
  · rw [shiftL_before (by omega) (by omega) (by omega), cAt_brk, if_neg (by omega)]
/-- There and back: what is there then. -/
theorem shiftN_back (hl : cs.length = cols) (hj : j < cols) {i : Nat} (hi : i < cols) :
    (cAt (shiftN j cols (-(a : Int)) q (shiftN j cols (a : Int) q cs)) i = cAt cs i ∨ (cAt (shiftN j cols (-(a : Int)) q (shiftN j cols (a : Int) q cs)) i).rune = 0) ∧
    (¬ ((cols : Int) - a - 1 ≤ i) → ¬ (i = j ∨ i + 1 = j) → cAt (shiftN j cols (-(a : Int)) q (shiftN j cols (a : Int) q cs)) i = cAt cs i) := by
  by_cases ha : a = 0
  · subst ha; exact ⟨.inl rfl, fun _ _ => rfl⟩
  unfold shiftN
  rw [if_neg (by omega), if_neg (by omega), if_neg (by omega), if_pos (by omega)]
  obtain ⟨k, hk⟩ : ∃ k, k = (min (a : Int) ((cols - j : Nat) : Int)).toNat := ⟨_, rfl⟩
  rw [show (min (-(-(a : Int))) ((cols - j : Nat) : Int)).toNat = k by omega, ← hk]
  have hjk : j + k ≤ cs.length := by omega
  have hlr : (shiftR j k q cs).length = cs.length := shiftR_length hjk
  have hb : ∀ x, (cAt (brk j cs) x = cAt cs x ∨ (cAt (brk j cs) x).rune = 0) ∧ (¬ (x = j ∨ x + 1 = j) → cAt (brk j cs) x = cAt cs x) := fun x => by
    rw [cAt_brk]
    split
    · rename_i h; exact ⟨.inr rfl, fun h2 => (h2 (by omega)).elim⟩
    · exact ⟨.inl rfl, fun _ => rfl⟩
  by_cases h1 : i < j
  · rw [shiftL_before (by omega) (by omega) h1, shiftR_brk hjk (by omega), shiftR_before hjk (by omega) h1]
    exact ⟨(hb i).1, fun _ h => (hb i).2 h⟩
  by_cases h2 : cs.length - k ≤ i
  · rw [shiftL_blank (by omega) (by omega) (by omega)]
    exact ⟨.inr rfl, fun h => (h (by omega)).elim⟩
  rw [cAt_shiftL (by omega) (by omega), if_neg h1, hlr, if_pos (by omega), shiftR_brk hjk (by omega), cAt_brk, if_neg, cAt_shiftR hjk (by omega), if_neg (by omega), if_neg (by omega), Nat.add_sub_cancel, cAt_brk]
  · split
    · rename_i h3; rw [brk_length] at h3; exact ⟨.inr rfl, fun h4 => (h4 (by omega)).elim⟩
    · exact ⟨(hb i).1, fun _ h => (hb i).2 h⟩
  · intro h3
    have h4 := h3.1.2.2
    rw [shiftR_blank hjk (by omega) (by omega)] at h4
    simp [blank] at h4
end
end Go.Proofs.YtghahanpmcpacaaDoor

/-
  Erasing by the program: its check, cells, part.
-/
set_option linter.unusedSimpArgs false
set_option linter.unusedVariables false
namespace Go.Proofs.YtghahanpmcpacaaDoor
open Go.RowKit

/-- Whether a cursor is in a grid. -/
def inG (row col : Int) (pend : Bool) (rows cols : Nat) : Bool := decide ((0 ≤ row ∧ row < rows) ∧ (0 ≤ col ∧ col < cols) ∧ (pend = true → col = (cols : Int) - 1))
theorem ingrid_iff {row col : Int} {pend : Bool} {rows cols : Nat} : inG row col pend rows cols = true ↔ (0 ≤ row ∧ row < rows) ∧ (0 ≤ col ∧ col < cols) ∧ (pend = true → col = (cols : Int) - 1) := decide_eq_true_iff
section
variable {w0 w : World} {os : List Ob} {k p cols : Nat} {L : List Ln}
theorem Rows_b {t : TypeId} {cols : Int} {A : Option Addr} {n c : Nat} (hB : Blk w p t #[.int .i64 cols, .slice A n c]) : Calls Tryd.prog 39 #[.pointer (some ⟨p, 0, none⟩)] w fun e w' => e = .returned (.int .i64 n) ∧ Below w.heap.size w w' := by
  obtain ⟨hx, hf, hz⟩ := hB.facts
  clear hB
  go_enter Tryd.func39, Tryd.ntmps39
  go_wp2_with fail
  go_ret
  exact ⟨rfl, Below.refl _ _⟩
theorem Cols_b {t : TypeId} {cols : Int} {A : Option Addr} {n c : Nat} (hB : Blk w p t #[.int .i64 cols, .slice A n c]) : Calls Tryd.prog 68 #[.pointer (some ⟨p, 0, none⟩)] w fun e w' => e = .returned (.int .i64 cols) ∧ Below w.heap.size w w' := by
  obtain ⟨hx, hf, hz⟩ := hB.facts
  clear hB
  go_enter Tryd.func68, Tryd.ntmps68
  go_wp2_with fail
  go_ret
  exact ⟨rfl, Below.refl _ _⟩
end
end Go.Proofs.YtghahanpmcpacaaDoor

/-
  Erasing by the program: Chars, InScreen; what is refused.
-/
set_option linter.unusedSimpArgs false
set_option linter.unusedVariables false
namespace Go.Proofs.YtghahanpmcpacaaDoor
open Go.RowKit

section
variable {w0 w : World} {os : List Ob} {k p cols : Nat} {L : List Ln}
end
end Go.Proofs.YtghahanpmcpacaaDoor

/-
  Erasing by the reference.
-/
set_option linter.unusedSimpArgs false
set_option linter.unusedVariables false
namespace Go.Proofs.YtghahanpmcpacaaDoor
open Go.RowKit

section
variable {w0 w : World} {os : List Ob} {k p cols : Nat} {L : List Ln}
end
end Go.Proofs.YtghahanpmcpacaaDoor

/-
  Erasing: what is refused.
-/
set_option linter.unusedSimpArgs false
set_option linter.unusedVariables false
namespace Go.Proofs.YtghahanpmcpacaaDoor
open Go.RowKit

section
variable {w0 w : World} {os : List Ob} {k p cols : Nat} {L : List Ln} {row col : Int} {pend : Bool}
/-- A grid that has no rows: nil, or zero. -/
def NoRows (w : World) (gp : Value) : Prop := ∀ w', Below w.heap.size w w' → Calls Tryd.prog 39 #[gp] w' fun e w2 => e = .returned (.int .i64 0) ∧ Below w'.heap.size w' w2
theorem NoRows.bel {gp : Value} {w' : World} (h : NoRows w gp) (hb : Below w.heap.size w w') : NoRows w' gp := fun w2 hb2 => h w2 (hb.trans (hb2.mono hb.size))
end
end Go.Proofs.YtghahanpmcpacaaDoor

/-
  Records of any size in memory under one name: a whole load is one step.
-/
set_option linter.unusedSimpArgs false
set_option linter.unusedVariables false
namespace Go.Proofs.YtghahanpmcpacaaDoor
open Go.RowKit

open Classical in
/-- The n values that lie at a place. -/
noncomputable def recAt (w : World) (b o n : Nat) : Option (Array Value) := if h : ∃ cs : Array Value, cs.size = n ∧ w.rangeAt b o cs.toList then some h.choose else none
theorem recAt_of {w : World} {b o n : Nat} {cs : Array Value} (hn : cs.size = n) (h : w.rangeAt b o cs.toList) : recAt w b o n = some cs := by
  have hx : ∃ cs : Array Value, cs.size = n ∧ w.rangeAt b o cs.toList := ⟨cs, hn, h⟩
  unfold recAt
  rw [dif_pos hx]
  exact congrArg some (rangeAt_det (by rw [hx.choose_spec.1, hn]) hx.choose_spec.2 h)
theorem range_of_recAt {w : World} {b o n : Nat} {cs : Array Value} (h : recAt w b o n = some cs) : cs.size = n ∧ w.rangeAt b o cs.toList := by
  unfold recAt at h
  split at h
  · rename_i hx; have := hx.choose_spec; rw [Option.some.inj h] at this; exact this
  · cases h
theorem recAt_same {w w' : World} {b : Nat} (h : ∀ i, w'.cell? ⟨b, i, none⟩ = w.cell? ⟨b, i, none⟩) (o n : Nat) : recAt w' b o n = recAt w b o n := by
  cases h1 : recAt w b o n with
  | some c => exact recAt_of (range_of_recAt h1).1 ((rangeAt_same h).2 (range_of_recAt h1).2)
  | none =>
    cases h2 : recAt w' b o n with
    | none => rfl
    | some c => rw [recAt_of (range_of_recAt h2).1 ((rangeAt_same h).1 (range_of_recAt h2).2)] at h1; cases h1
@[go_sem] theorem recAt_alloc (w : World) (ob : Obj) (b o n : Nat) (h : b < w.heap.size) : recAt (w.alloc ob) b o n = recAt w b o n := recAt_same (fun i => World.cell?_alloc_lt w ob ⟨b, i, none⟩ h) o n
theorem recAt_below {w w' : World} {B b : Nat} (hb : Below B w w') (h : b < B) (o n : Nat) : recAt w' b o n = recAt w b o n := recAt_same (fun i => hb.cell (p := ⟨b, i, none⟩) h) o n
@[go_sem] theorem recAt_plus (w x : World) (b o n : Nat) (h : b < w.heap.size) : recAt (plus w x) b o n = recAt w b o n := recAt_same (fun i => cell_plus w x b i h) o n
@[go_sem] theorem recAt_drew (w : World) (b o n : Nat) : recAt w.drew b o n = recAt w b o n := rfl
theorem Blk.recAt {w : World} {g : Nat} {t : TypeId} {cs : Array Value} (h : Blk w g t cs) (n : Nat) (hn : cs.size = n) : Proofs.YtghahanpmcpacaaDoor.recAt w g 0 n = some cs := recAt_of hn h.range
def ldR (a : Addr) (n : Nat) : Sem (Array Value) := loadCells a n
theorem ldR_of {w : World} {b o n : Nat} {cs : Array Value} (h : recAt w b o n = some cs) : (ldR ⟨b, o, none⟩ n).run Tryd.prog w = .ok cs w := by
  obtain ⟨hn, hr⟩ := range_of_recAt h
  have := run_loadCells_list (P := Tryd.prog) w ⟨b, o, none⟩ cs.toList (fun j v hv => by rw [add_at]; exact hr j v hv)
  subst hn
  simpa [ldR] using this
@[go_sem] theorem run_ldC_row (w : World) (b o : Nat) (h : (recAt w b o 16).isSome = true) : (ldC ⟨b, o, none⟩).run Tryd.prog w = .ok ((recAt w b o 16).getD #[]) w := by
  obtain ⟨c, hc⟩ := Option.isSome_iff_exists.1 h
  rw [hc]; exact ldR_of hc
@[go_sem] theorem run_ldR (w : World) (b o n : Nat) (h : (recAt w b o n).isSome = true) : (ldR ⟨b, o, none⟩ n).run Tryd.prog w = .ok ((recAt w b o n).getD #[]) w := by
  obtain ⟨c, hc⟩ := Option.isSome_iff_exists.1 h
  rw [hc]; exact ldR_of hc
/-- A readable slice of records of k values each. -/
def RdRec (w : World) (A : Option Addr) (c k : Nat) (rs : List (Array Value)) : Prop := rs.length ≤ c ∧ (A = none → c = 0) ∧ (0 < rs.length → ∃ b off, A = some ⟨b, off, none⟩ ∧ b < w.heap.size ∧ ∀ (i : Nat) (r : Array Value), rs[i]? = some r → recAt w b (off + i * k) k = some r)
theorem RdRec.bel {w w' : World} {A : Option Addr} {c k : Nat} {rs : List (Array Value)} (h : RdRec w A c k rs) (hb : Below w.heap.size w w') : RdRec w' A c k rs := ⟨h.1, h.2.1, fun hn => by
  obtain ⟨b, off, rfl, hz, hr⟩ := h.2.2 hn
  exact ⟨b, off, rfl, by have := hb.size; omega, fun i r hi => (recAt_below hb hz _ _).trans (hr i r hi)⟩⟩
theorem RdRec.at_ {w : World} {A : Option Addr} {c k : Nat} {rs : List (Array Value)} (h : RdRec w A c k rs) {i : Nat} {r : Array Value} (hi : rs[i]? = some r) : ∃ b off, A = some ⟨b, off, none⟩ ∧ b < w.heap.size ∧ recAt w b (off + i * k) k = some r := by
  have hl := (List.getElem?_eq_some_iff.1 hi).1
  obtain ⟨b, off, rfl, hz, hr⟩ := h.2.2 (by omega)
  exact ⟨b, off, rfl, hz, hr i r hi⟩
end Go.Proofs.YtghahanpmcpacaaDoor

/-
  edit.change: its check, its rolling.
-/
set_option linter.unusedSimpArgs false
set_option linter.unusedVariables false
namespace Go.Proofs.YtghahanpmcpacaaDoor
open Go.RowKit

/-- A record stored into a block that is known whole. -/
theorem store_recE {P : Program} (w : World) (g : Nat) (t : TypeId) (zs cs : Array Value) (h : Blk w g t zs) (hz : zs.size = cs.size) (h1 : ∀ v ∈ cs.toList, v.oneCell' = true) : (storeCells ⟨g, 0, none⟩ cs.toList 0).run P w = .ok () (w.setRow g cs) := by
  have := run_storeCells_at (P := P) g 0 t cs.toList 0 zs w h (by simp [hz]) h1
  rw [this]
  simp [List.drop_eq_nil_of_le, hz]
structure Chg18 where
  g : Value
  row : Int
  col : Int
  pend : Bool
  top : Int
  bot : Int
  rows : Bool
  n : Int
  q : Pen
def ach (a : Chg18) : Array Value := #[a.g, .int .i64 a.row, .int .i64 a.col, .bool a.pend, .int .i64 a.top, .int .i64 a.bot, .bool a.rows, .int .i64 a.n, .int .i64 a.q.fk, .int .u8 a.q.fi, .int .u8 a.q.fr, .int .u8 a.q.fg, .int .u8 a.q.fb, .int .i64 a.q.bk, .int .u8 a.q.bi, .int .u8 a.q.br, .int .u8 a.q.bg, .int .u8 a.q.bb, .int .u8 a.q.fl]
@[go_sem] theorem ach_size (a : Chg18) : (ach a).size = 19 := by simp [ach]
@[simp high, go_sem high] theorem ach_get0 (a : Chg18) : (ach a)[0]? = some a.g := by simp [ach]
@[simp high, go_sem high] theorem ach_get1 (a : Chg18) : (ach a)[1]? = some (.int .i64 a.row) := by simp [ach]
@[simp high, go_sem high] theorem ach_get2 (a : Chg18) : (ach a)[2]? = some (.int .i64 a.col) := by simp [ach]
@[simp high, go_sem high] theorem ach_get3 (a : Chg18) : (ach a)[3]? = some (.bool a.pend) := by simp [ach]
@[simp high, go_sem high] theorem ach_get4 (a : Chg18) : (ach a)[4]? = some (.int .i64 a.top) := by simp [ach]
@[simp high, go_sem high] theorem ach_get5 (a : Chg18) : (ach a)[5]? = some (.int .i64 a.bot) := by simp [ach]
@[simp high, go_sem high] theorem ach_get6 (a : Chg18) : (ach a)[6]? = some (.bool a.rows) := by simp [ach]
@[simp high, go_sem high] theorem ach_get7 (a : Chg18) : (ach a)[7]? = some (.int .i64 a.n) := by simp [ach]
theorem ach_pen {w : World} {b o : Nat} {a : Chg18} (h : w.rangeAt b o (ach a).toList) : penAt w b (o + 8) = some a.q := penAt_of fun j v hv => by
  have := h (8 + j) v (by rw [← hv]; show ((ach a).toList)[8 + j]? = _; rw [← List.getElem?_drop]; rfl)
  rw [show o + 8 + j = o + (8 + j) by omega]; exact this
theorem Blk.ach_pen {w : World} {g : Nat} {t : TypeId} {a : Chg18} (h : Blk w g t (ach a)) : Proofs.YtghahanpmcpacaaDoor.penAt w g 8 = some a.q := by have := Proofs.YtghahanpmcpacaaDoor.ach_pen h.range; simpa using this
def chg18ok (a : Chg18) (rows cols : Nat) : Bool := inG a.row a.col a.pend rows cols && decide (a.rows = true → 0 ≤ a.top ∧ a.top ≤ a.bot ∧ a.bot < rows) && decide (0 ≤ a.n) && a.q.ok
theorem chg18ok_is (g : Value) (row col top bot n : Int) (pend rows : Bool) (q : Pen) (R C : Nat) : chg18ok ⟨g, row, col, pend, top, bot, rows, n, q⟩ R C = (decide (((0 ≤ row ∧ row < R) ∧ (0 ≤ col ∧ col < C) ∧ (pend = true → col = (C : Int) - 1)) ∧ (rows = true → 0 ≤ top ∧ top ≤ bot ∧ bot < R) ∧ 0 ≤ n) && q.ok) := by
  rw [Bool.eq_iff_iff]
  simp [chg18ok, inG, and_assoc]
def errB (b : Bool) : Int := if b then 0 else 2
theorem eqIn_region (a b c d : Int) (w : World) : (Op.equalIn 10000 23 (.agg #[.int .i64 a, .int .i64 b]) (.agg #[.int .i64 c, .int .i64 d])).run Tryd.prog w = .ok (decide (a = c ∧ b = d)) w := by
  by_cases h0 : a = c
  case neg => simp [go_sem, h0]
  by_cases h1 : b = d
  case neg => simp [go_sem, h0, h1]
  simp [go_sem, h0, h1]
theorem eqIn_region00 (w : World) : (Op.equalIn 10000 23 (.agg #[.int .i64 0, .int .i64 0]) (.agg #[.int .i64 0, .int .i64 0])).run Tryd.prog w = .ok true w := by rw [eqIn_region]; rfl
section
variable {w0 w : World} {os : List Ob} {k p cols : Nat} {L : List Ln}
theorem Objs.setBox2 (h : Objs w0 w os) {k g : Nat} {t : TypeId} {a b u v : Value} (hk : os[k]? = some (.box g t #[a, b])) : Objs w0 ((w.setCell ⟨g, 0, none⟩ u).setCell ⟨g, 1, none⟩ v) (os.set k (.box g t #[u, v])) := by
  have h1 := h.setBox k (i := 0) (u := u) hk
  have h2 := h1.setBox k (i := 1) (u := v) (g := g) (t := t) (cs := #[u, b]) (by rw [List.getElem?_set_self (List.getElem?_eq_some_iff.1 hk).1]; simp)
  simpa using h2
theorem Objs.setBox3 (h : Objs w0 w os) {k g : Nat} {t : TypeId} {a b c u v x : Value} (hk : os[k]? = some (.box g t #[a, b, c])) : Objs w0 (((w.setCell ⟨g, 0, none⟩ u).setCell ⟨g, 1, none⟩ v).setCell ⟨g, 2, none⟩ x) (os.set k (.box g t #[u, v, x])) := by
  have h1 := h.setBox k (i := 0) (u := u) hk
  have h2 := h1.setBox k (i := 1) (u := v) (g := g) (t := t) (cs := #[u, b, c]) (by rw [List.getElem?_set_self (List.getElem?_eq_some_iff.1 hk).1]; simp)
  have h3 := h2.setBox k (i := 2) (u := x) (g := g) (t := t) (cs := #[u, v, c]) (by rw [List.getElem?_set_self (by simpa using (List.getElem?_eq_some_iff.1 hk).1)]; simp)
  simpa using h3
theorem grid_blk {t : TypeId} (hS : Objs w0 w os) (hk : os[k]? = some (.grid p t cols L)) : ∃ A c, Blk w p t #[.int .i64 cols, .slice A L.length c] := by
  obtain ⟨A, c, hB, -, -⟩ := hS.gridRd hk; exact ⟨A, c, hB⟩
set_option maxRecDepth 100000 in
set_option maxHeartbeats 8000000 in
theorem edcheck_any {row col top bot n : Int} {pend rows : Bool} (q : Pen) (hT : Tabs w0) (hS : Objs w0 w os) (hk : os[k]? = some (.grid p 37 cols L)) (hc : 0 < cols) (hcm : cols ≤ 1000) (hL : 0 < L.length) (hz : rows = false → top = 0 ∧ bot = 0) :
    Calls Tryd.prog 74 #[.agg (ach ⟨.pointer (some ⟨p, 0, none⟩), row, col, pend, top, bot, rows, n, q⟩)] w fun e w' => e = .returned (.int .i64 (errB (chg18ok ⟨.pointer (some ⟨p, 0, none⟩), row, col, pend, top, bot, rows, n, q⟩ L.length cols))) ∧ Objs w0 w' os := by
  have S := Lib.hid hS
  have HT := Lib.hid hT
  have HK := Lib.hid hk
  have HZ := Lib.hid hz
  have hl0 : ((L.length : Int) == 0) = false := by simp; intro h; rw [h] at hL; simp at hL
  have HWC := Lib.hid (show IntKind.i64.wrap ((cols : Int) - 1) = (cols : Int) - 1 from IntWalk.i64_in _ (by omega))
  have HEQ := Lib.hid (chg18ok_is (.pointer (some ⟨p, 0, none⟩)) row col top bot n pend rows q L.length cols)
  clear hS hT hk hz
  go_enter Tryd.func74, Tryd.ntmps74
  go_upto_region 1 with (fail)
  refine at_objsC S.out.alloc1 (fun W hW => ?_)
  generalize w.heap.size = b1 at hW ⊢
  have SZ := Lib.hid hW.pad.pad
  clear hW S
  refine wp_region_stage (w0 := w0) (os := os) (by kernel_rfl) (by kernel_rfl) (by kernel_rfl) [(0, 4, [4], fun vs => .box (blkOf (vs 4)) 25 #[.int .i64 0, .int .i64 0, .bool false]), (1, 5, [5], fun vs => .box (blkOf (vs 5)) 23 #[.int .i64 0, .int .i64 0]), (0, 6, [4], fun vs => .box (blkOf (vs 4)) 25 #[.int .i64 row, .int .i64 col, .bool pend]), (1, 7, [5], fun vs => .box (blkOf (vs 5)) 23 #[.int .i64 top, .int .i64 bot])] [[], [2], [], [2], [0], [1], [0], [1]] [.none, .none, .box b1 121 (ach ⟨.pointer (some ⟨p, 0, none⟩), row, col, pend, top, bot, rows, n, q⟩)] (fun i u => match i with | 0 => u = (.pointer (some ⟨b1, 1, none⟩) : Value) | 1 => u = (.agg #[.int .i64 row, .int .i64 col, .bool pend] : Value) | 2 => u = (.pointer (some ⟨b1, 4, none⟩) : Value) | 3 => u = (.agg #[.int .i64 top, .int .i64 bot] : Value) | 4 => ∃ g, u = .pointer (some ⟨g, 0, none⟩) | 5 => ∃ g, u = .pointer (some ⟨g, 0, none⟩) | 6 => True | 7 => True | _ => True) (fun vs => [.box (blkOf (vs 4)) 25 #[.int .i64 row, .int .i64 col, .bool pend], .box (blkOf (vs 5)) 23 #[.int .i64 top, .int .i64 bot], .box b1 121 (ach ⟨.pointer (some ⟨p, 0, none⟩), row, col, pend, top, bot, rows, n, q⟩)]) (by kernel_rfl) (fun vs => by rfl) SZ.out ?_ ?_
  · refine SSteps.cons (fun a w' vs σ hS hl hs hk => ?_) ?_
    · have e1 : a.tmps.getD 1 undef = (.pointer (some ⟨b1, 0, none⟩) : Value) := (sk_old hk 1 (by kernel_rfl)).trans rfl
      have f1 := gd e1
      exact ro_pure (v := .pointer (some ⟨b1, 1, none⟩)) (wanted_none rfl) (by simp [execOp, Act.eval, e1, f1, go_sem]) (sp_same (by kernel_rfl) hl hs hS (show (.pointer (some ⟨b1, 1, none⟩) : Value) = _ from rfl)) trivial
    refine SSteps.cons (fun a w' vs σ hS hl hs hk => ?_) ?_
    · have e6 : a.tmps.getD 6 undef = (.pointer (some ⟨b1, 1, none⟩) : Value) := (sk_val hk 0 (by kernel_rfl) rfl rfl).trans ((hk.1 0 (by kernel_rfl)).1)
      have f6 := gd e6
      have hx := (hS.box (sg (hs 2 (by decide)))).cell
      exact ro_pure (v := .agg #[.int .i64 row, .int .i64 col, .bool pend]) (wanted_none rfl) (by simp [execOp, Act.eval, e6, f6, go_sem, hx]) (sp_same (by kernel_rfl) hl hs hS (show (.agg #[.int .i64 row, .int .i64 col, .bool pend] : Value) = _ from rfl)) trivial
    refine SSteps.cons (fun a w' vs σ hS hl hs hk => ?_) ?_
    · have e1 : a.tmps.getD 1 undef = (.pointer (some ⟨b1, 0, none⟩) : Value) := (sk_old hk 1 (by kernel_rfl)).trans rfl
      have f1 := gd e1
      exact ro_pure (v := .pointer (some ⟨b1, 4, none⟩)) (wanted_none rfl) (by simp [execOp, Act.eval, e1, f1, go_sem]) (sp_same (by kernel_rfl) hl hs hS (show (.pointer (some ⟨b1, 4, none⟩) : Value) = _ from rfl)) trivial
    refine SSteps.cons (fun a w' vs σ hS hl hs hk => ?_) ?_
    · have e8 : a.tmps.getD 8 undef = (.pointer (some ⟨b1, 4, none⟩) : Value) := (sk_val hk 2 (by kernel_rfl) rfl rfl).trans ((hk.1 2 (by kernel_rfl)).1)
      have f8 := gd e8
      have hx := (hS.box (sg (hs 2 (by decide)))).cell
      exact ro_pure (v := .agg #[.int .i64 top, .int .i64 bot]) (wanted_none rfl) (by simp [execOp, Act.eval, e8, f8, go_sem, hx]) (sp_same (by kernel_rfl) hl hs hS (show (.agg #[.int .i64 top, .int .i64 bot] : Value) = _ from rfl)) trivial
    refine SSteps.cons (fun a w' vs σ hS hl hs hk => ?_) ?_
    · have h1 : σ[0]? = some .none := hs 0 (by decide)
      exact rs_run (v' := .pointer (some ⟨w'.heap.size, 0, none⟩)) (w' := w'.alloc (.cells #[.int .i64 0, .int .i64 0, .bool false] 25)) (wanted_none rfl) (by simp [execOp, go_sem]) (sp_set 0 (.box w'.heap.size 25 #[.int .i64 0, .int .i64 0, .bool false]) (by kernel_rfl) (by simp) (by decide) hl hs (by rfl) (hS.alloc1.place (sg h1)) ⟨_, rfl⟩)
    refine SSteps.cons (fun a w' vs σ hS hl hs hk => ?_) ?_
    · have h1 : σ[1]? = some .none := hs 1 (by decide)
      exact rs_run (v' := .pointer (some ⟨w'.heap.size, 0, none⟩)) (w' := w'.alloc (.cells #[.int .i64 0, .int .i64 0] 23)) (wanted_none rfl) (by simp [execOp, go_sem]) (sp_set 1 (.box w'.heap.size 23 #[.int .i64 0, .int .i64 0]) (by kernel_rfl) (by simp) (by decide) hl hs (by rfl) (hS.alloc1.place (sg h1)) ⟨_, rfl⟩)
    refine SSteps.cons (fun a w' vs σ hS hl hs hk => ?_) ?_
    · have e3 : a.tmps.getD 3 undef = vs 4 := sk_val hk 4 (by kernel_rfl) rfl rfl
      have p3 : (fun u : Value => ∃ g, u = .pointer (some ⟨g, 0, none⟩)) (vs 4) := (hk.1 4 (by kernel_rfl)).1
      have f3 := gd e3
      have e7 : a.tmps.getD 7 undef = (.agg #[.int .i64 row, .int .i64 col, .bool pend] : Value) := (sk_val hk 1 (by kernel_rfl) rfl rfl).trans ((hk.1 1 (by kernel_rfl)).1)
      have f7 := gd e7
      obtain ⟨g9, q9⟩ := p3
      have h1 : σ[0]? = some (.box (blkOf (vs 4)) 25 #[.int .i64 0, .int .i64 0, .bool false]) := hs 0 (by decide)
      rw [q9, show blkOf (.pointer (some ⟨g9, 0, none⟩)) = g9 from rfl] at h1
      obtain ⟨hx, hf, hz⟩ := (hS.box (sg h1)).facts
      exact rstep_store (w2 := (((w').setCell ⟨g9, 0, none⟩ (.int .i64 row)).setCell ⟨g9, 1, none⟩ (.int .i64 col)).setCell ⟨g9, 2, none⟩ (.bool pend)) (wanted_none rfl) rfl (by simp [execOp, Act.eval, e3, f3, e7, f7, q9, hx, hf, hz, go_sem]) (sp_set 0 (.box g9 25 #[.int .i64 row, .int .i64 col, .bool pend]) (by kernel_rfl) (by simp) (by decide) hl hs (by show Ob.box (blkOf (vs 4)) 25 _ = _; rw [q9]; rfl) (hS.setBox3 (sg h1)) trivial) trivial
    refine SSteps.cons (fun a w' vs σ hS hl hs hk => ?_) ?_
    · have e4 : a.tmps.getD 4 undef = vs 5 := sk_val hk 5 (by kernel_rfl) rfl rfl
      have p4 : (fun u : Value => ∃ g, u = .pointer (some ⟨g, 0, none⟩)) (vs 5) := (hk.1 5 (by kernel_rfl)).1
      have f4 := gd e4
      have e9 : a.tmps.getD 9 undef = (.agg #[.int .i64 top, .int .i64 bot] : Value) := (sk_val hk 3 (by kernel_rfl) rfl rfl).trans ((hk.1 3 (by kernel_rfl)).1)
      have f9 := gd e9
      obtain ⟨g9, q9⟩ := p4
      have h1 : σ[1]? = some (.box (blkOf (vs 5)) 23 #[.int .i64 0, .int .i64 0]) := hs 1 (by decide)
      rw [q9, show blkOf (.pointer (some ⟨g9, 0, none⟩)) = g9 from rfl] at h1
      obtain ⟨hx, hf, hz⟩ := (hS.box (sg h1)).facts
      exact rstep_store (w2 := ((w').setCell ⟨g9, 0, none⟩ (.int .i64 top)).setCell ⟨g9, 1, none⟩ (.int .i64 bot)) (wanted_none rfl) rfl (by simp [execOp, Act.eval, e4, f4, e9, f9, q9, hx, hf, hz, go_sem]) (sp_set 1 (.box g9 23 #[.int .i64 top, .int .i64 bot]) (by kernel_rfl) (by simp) (by decide) hl hs (by show Ob.box (blkOf (vs 5)) 23 _ = _; rw [q9]; rfl) (hS.setBox2 (sg h1)) trivial) trivial
    exact SSteps.nil
  · intro vs w' hS hv
    have q0 := (show vs 0 = (.pointer (some ⟨b1, 1, none⟩) : Value) from hv 0 (by decide))
    have q1 := (show vs 1 = (.agg #[.int .i64 row, .int .i64 col, .bool pend] : Value) from hv 1 (by decide))
    have q2 := (show vs 2 = (.pointer (some ⟨b1, 4, none⟩) : Value) from hv 2 (by decide))
    have q3 := (show vs 3 = (.agg #[.int .i64 top, .int .i64 bot] : Value) from hv 3 (by decide))
    obtain ⟨b3, qq3⟩ := (show ∃ g, vs 4 = .pointer (some ⟨g, 0, none⟩) from hv 4 (by decide))
    obtain ⟨b4, qq4⟩ := (show ∃ g, vs 5 = .pointer (some ⟨g, 0, none⟩) from hv 5 (by decide))
    rw [qq3, qq4] at hS
    have S2 := Lib.hid hS
    simp only [putL, Act.put, Nat.zero_add, Nat.reduceAdd, List.setIfInBounds_toArray, List.set_cons_succ, List.set_cons_zero, q0, q1, q2, q3]
    clear hS hv q0 q1 q2 q3
    simp only [qq3, qq4]
    have T0 := Lib.hid (show Objs w0 w' (.box b3 25 #[.int .i64 row, .int .i64 col, .bool pend] :: .box b4 23 #[.int .i64 top, .int .i64 bot] :: .box b1 121 (ach ⟨.pointer (some ⟨p, 0, none⟩), row, col, pend, top, bot, rows, n, q⟩) :: os) from S2.out)
    clear S2 SZ
    obtain ⟨hx3, hf3, hz3⟩ := (T0.out.box (k := 0) rfl).facts
    obtain ⟨hx4, hf4, hz4⟩ := (T0.out.box (k := 1) rfl).facts
    obtain ⟨hx1, hf1, hz1⟩ := (T0.out.box (k := 2) rfl).facts
    have hpc := (T0.out.box (k := 2) rfl).ach_pen
    go_wp2_with fail
    refine (Cols_any T0.out (k := k + 3) HK.out).mono ?_
    rintro e w1 ⟨rfl, hS⟩
    have S1 := Lib.hid hS
    clear hS T0
    clear hx3 hf3 hz3 hx4 hf4 hz4 hx1 hf1 hz1 hpc
    obtain ⟨hx3, hf3, hz3⟩ := (S1.out.box (k := 0) rfl).facts
    obtain ⟨hx4, hf4, hz4⟩ := (S1.out.box (k := 1) rfl).facts
    obtain ⟨hx1, hf1, hz1⟩ := (S1.out.box (k := 2) rfl).facts
    have hpc := (S1.out.box (k := 2) rfl).ach_pen
    simp only [HWC.out]
    go_wp2_with fail
    refine (Rows_any S1.out (k := k + 3) HK.out).mono ?_
    rintro e w2 ⟨rfl, hS⟩
    have S2 := Lib.hid hS
    clear hS S1
    clear hx3 hf3 hz3 hx4 hf4 hz4 hx1 hf1 hz1 hpc
    obtain ⟨hx3, hf3, hz3⟩ := (S2.out.box (k := 0) rfl).facts
    obtain ⟨hx4, hf4, hz4⟩ := (S2.out.box (k := 1) rfl).facts
    obtain ⟨hx1, hf1, hz1⟩ := (S2.out.box (k := 2) rfl).facts
    have hpc := (S2.out.box (k := 2) rfl).ach_pen
    by_cases h1 : row < 0
    · have d1 : decide (row < 0) = true := by simpa using h1
      have HE := Lib.hid ((HEQ.out.trans (by simp; omega) : _ = false))
      obtain ⟨A9, c9, hB9⟩ := (grid_blk S2.out (k := k + 3) HK.out)
      have HB := Lib.hid hB9
      clear hB9
      go_wp2_with fail
      refine wp_region_below (by kernel_rfl) (by kernel_rfl) ?_
      repeat (go_big_quiet_step (first | (go_at_call 39; exact quiet_below (Rows_b (HB.out.bel (below_plus _ _)))) | (go_at_call 68; exact quiet_below (Cols_b (HB.out.bel (below_plus _ _))))))
      refine wpQuiet_nil ?_
      intro w2 hb2
      have S3 := Lib.hid (S2.out.bel hb2)
      clear hb2 HB
      clear hx3 hf3 hz3 hx4 hf4 hz4 hx1 hf1 hz1 hpc
      obtain ⟨hx3, hf3, hz3⟩ := (S3.out.box (k := 0) rfl).facts
      obtain ⟨hx4, hf4, hz4⟩ := (S3.out.box (k := 1) rfl).facts
      obtain ⟨hx1, hf1, hz1⟩ := (S3.out.box (k := 2) rfl).facts
      have hpc := (S3.out.box (k := 2) rfl).ach_pen
      go_wp2_with fail
      go_ret
      exact ⟨by rw [HE.out]; rfl, S3.out.tail.tail.tail⟩
    have d1 : decide (row < 0) = false := decide_eq_false (by omega)
    by_cases h2 : (L.length : Int) ≤ row
    · have d2 : decide ((L.length : Int) ≤ row) = true := by simpa using h2
      have HE := Lib.hid ((HEQ.out.trans (by simp; omega) : _ = false))
      obtain ⟨A9, c9, hB9⟩ := (grid_blk S2.out (k := k + 3) HK.out)
      have HB := Lib.hid hB9
      clear hB9
      go_wp2_with fail
      refine wp_region_below (by kernel_rfl) (by kernel_rfl) ?_
      repeat (go_big_quiet_step (first | (go_at_call 39; exact quiet_below (Rows_b (HB.out.bel (below_plus _ _)))) | (go_at_call 68; exact quiet_below (Cols_b (HB.out.bel (below_plus _ _))))))
      refine wpQuiet_nil ?_
      intro w2 hb2
      have S3 := Lib.hid (S2.out.bel hb2)
      clear hb2 HB
      clear hx3 hf3 hz3 hx4 hf4 hz4 hx1 hf1 hz1 hpc
      obtain ⟨hx3, hf3, hz3⟩ := (S3.out.box (k := 0) rfl).facts
      obtain ⟨hx4, hf4, hz4⟩ := (S3.out.box (k := 1) rfl).facts
      obtain ⟨hx1, hf1, hz1⟩ := (S3.out.box (k := 2) rfl).facts
      have hpc := (S3.out.box (k := 2) rfl).ach_pen
      go_wp2_with fail
      go_ret
      exact ⟨by rw [HE.out]; rfl, S3.out.tail.tail.tail⟩
    have d2 : decide ((L.length : Int) ≤ row) = false := decide_eq_false (by omega)
    by_cases h3 : col < 0
    · have d3 : decide (col < 0) = true := by simpa using h3
      have HE := Lib.hid ((HEQ.out.trans (by simp; omega) : _ = false))
      obtain ⟨A9, c9, hB9⟩ := (grid_blk S2.out (k := k + 3) HK.out)
      have HB := Lib.hid hB9
      clear hB9
      go_wp2_with fail
      refine wp_region_below (by kernel_rfl) (by kernel_rfl) ?_
      repeat (go_big_quiet_step (first | (go_at_call 39; exact quiet_below (Rows_b (HB.out.bel (below_plus _ _)))) | (go_at_call 68; exact quiet_below (Cols_b (HB.out.bel (below_plus _ _))))))
      refine wpQuiet_nil ?_
      intro w2 hb2
      have S3 := Lib.hid (S2.out.bel hb2)
      clear hb2 HB
      clear hx3 hf3 hz3 hx4 hf4 hz4 hx1 hf1 hz1 hpc
      obtain ⟨hx3, hf3, hz3⟩ := (S3.out.box (k := 0) rfl).facts
      obtain ⟨hx4, hf4, hz4⟩ := (S3.out.box (k := 1) rfl).facts
      obtain ⟨hx1, hf1, hz1⟩ := (S3.out.box (k := 2) rfl).facts
      have hpc := (S3.out.box (k := 2) rfl).ach_pen
      go_wp2_with fail
      go_ret
      exact ⟨by rw [HE.out]; rfl, S3.out.tail.tail.tail⟩
    have d3 : decide (col < 0) = false := decide_eq_false (by omega)
    by_cases h4 : (cols : Int) - 1 < col
    · have d4 : decide ((cols : Int) - 1 < col) = true := by simpa using h4
      have HE := Lib.hid ((HEQ.out.trans (by simp; omega) : _ = false))
      obtain ⟨A9, c9, hB9⟩ := (grid_blk S2.out (k := k + 3) HK.out)
      have HB := Lib.hid hB9
      clear hB9
      go_wp2_with fail
      refine wp_region_below (by kernel_rfl) (by kernel_rfl) ?_
      repeat (go_big_quiet_step (first | (go_at_call 39; exact quiet_below (Rows_b (HB.out.bel (below_plus _ _)))) | (go_at_call 68; exact quiet_below (Cols_b (HB.out.bel (below_plus _ _))))))
      refine wpQuiet_nil ?_
      intro w2 hb2
      have S3 := Lib.hid (S2.out.bel hb2)
      clear hb2 HB
      clear hx3 hf3 hz3 hx4 hf4 hz4 hx1 hf1 hz1 hpc
      obtain ⟨hx3, hf3, hz3⟩ := (S3.out.box (k := 0) rfl).facts
      obtain ⟨hx4, hf4, hz4⟩ := (S3.out.box (k := 1) rfl).facts
      obtain ⟨hx1, hf1, hz1⟩ := (S3.out.box (k := 2) rfl).facts
      have hpc := (S3.out.box (k := 2) rfl).ach_pen
      go_wp2_with fail
      go_ret
      exact ⟨by rw [HE.out]; rfl, S3.out.tail.tail.tail⟩
    have d4 : decide ((cols : Int) - 1 < col) = false := decide_eq_false (by omega)
    cases pend with
    | true =>
      by_cases h5 : col = (cols : Int) - 1
      · have h5b := bne_no h5
        have HEQ2 := Lib.hid h5
        clear h5
        obtain ⟨A9, c9, hB9⟩ := (grid_blk S2.out (k := k + 3) HK.out)
        have HB := Lib.hid hB9
        clear hB9
        go_wp2_with fail
        refine wp_region_below (by kernel_rfl) (by kernel_rfl) ?_
        repeat (go_big_quiet_step (first | (go_at_call 39; exact quiet_below (Rows_b (HB.out.bel (below_plus _ _)))) | (go_at_call 68; exact quiet_below (Cols_b (HB.out.bel (below_plus _ _))))))
        refine wpQuiet_nil ?_
        intro w2 hb2
        have S3 := Lib.hid (S2.out.bel hb2)
        clear hb2 HB
        clear hx3 hf3 hz3 hx4 hf4 hz4 hx1 hf1 hz1 hpc
        obtain ⟨hx3, hf3, hz3⟩ := (S3.out.box (k := 0) rfl).facts
        obtain ⟨hx4, hf4, hz4⟩ := (S3.out.box (k := 1) rfl).facts
        obtain ⟨hx1, hf1, hz1⟩ := (S3.out.box (k := 2) rfl).facts
        have hpc := (S3.out.box (k := 2) rfl).ach_pen
        clear d1 d2 d3 d4 h5b
        cases rows with
        | false =>
          obtain ⟨rfl, rfl⟩ := HZ.out rfl
          have e1 : decide ((0 : Int) < 0) = false := rfl
          have e3 : decide ((L.length : Int) ≤ 0) = false := decide_eq_false (by omega)
          have e3c : decide (L.length = 0) = false := decide_eq_false (by omega)
          have e3d : ¬ L.length = 0 := by omega
          have heq := eqIn_region00
          obtain ⟨A9, c9, hB9⟩ := (grid_blk S3.out (k := k + 3) HK.out)
          have HB := Lib.hid hB9
          clear hB9
          go_wp2_with fail
          refine wp_region_below (by kernel_rfl) (by kernel_rfl) ?_
          repeat (go_big_quiet_step (first | (go_at_call 39; exact quiet_below (Rows_b (HB.out.bel (below_plus _ _)))) | (go_at_call 68; exact quiet_below (Cols_b (HB.out.bel (below_plus _ _))))))
          refine wpQuiet_nil ?_
          intro w2 hb2
          have S4 := Lib.hid (S3.out.bel hb2)
          clear hb2 HB
          clear hx3 hf3 hz3 hx4 hf4 hz4 hx1 hf1 hz1 hpc
          obtain ⟨hx3, hf3, hz3⟩ := (S4.out.box (k := 0) rfl).facts
          obtain ⟨hx4, hf4, hz4⟩ := (S4.out.box (k := 1) rfl).facts
          obtain ⟨hx1, hf1, hz1⟩ := (S4.out.box (k := 2) rfl).facts
          have hpc := (S4.out.box (k := 2) rfl).ach_pen
          clear e1 e3 e3c e3d heq
          by_cases hn0 : n < 0
          · have HE := Lib.hid ((HEQ.out.trans (by have h5 := HEQ2.out; simp; omega) : _ = false))
            go_wp2_with fail
            go_ret
            exact ⟨by rw [HE.out]; rfl, S4.out.tail.tail.tail⟩
          have hn1 : decide (n < 0) = false := decide_eq_false (by omega)
          cases hq : q.ok with
          | false =>
            have HQ := Lib.hid hq
            have HE := Lib.hid ((HEQ.out.trans (by have h5 := HEQ2.out; rw [hq]; simp) : _ = false))
            clear hq
            go_wp2_with fail
            refine (pure_call (cellBlank_any _ _) S4.out).mono ?_
            rintro e w5 ⟨rfl, hS⟩
            have S5 := Lib.hid hS
            clear hS
            go_wp2_with fail
            refine (pure_call (cellValid_any _ _ (S5.out.tabs HT.out)) S5.out).mono ?_
            rw [ok_blank, HQ.out]
            rintro e w6 ⟨rfl, hS⟩
            have S6 := Lib.hid hS
            clear hS
            go_wp2_with fail
            go_ret
            exact ⟨by rw [HE.out]; rfl, S6.out.tail.tail.tail⟩
          | true =>
            have HQ := Lib.hid hq
            have HE := Lib.hid ((HEQ.out.trans (by have h5 := HEQ2.out; rw [hq]; simp; omega) : _ = true))
            clear hq
            go_wp2_with fail
            refine (pure_call (cellBlank_any _ _) S4.out).mono ?_
            rintro e w5 ⟨rfl, hS⟩
            have S5 := Lib.hid hS
            clear hS
            go_wp2_with fail
            refine (pure_call (cellValid_any _ _ (S5.out.tabs HT.out)) S5.out).mono ?_
            rw [ok_blank, HQ.out]
            rintro e w6 ⟨rfl, hS⟩
            have S6 := Lib.hid hS
            clear hS
            go_wp2_with fail
            go_ret
            exact ⟨by rw [HE.out]; rfl, S6.out.tail.tail.tail⟩
        | true =>
          by_cases g1 : top < 0
          · have e1 : decide (top < 0) = true := by simpa using g1
            have HE := Lib.hid ((HEQ.out.trans (by have h5 := HEQ2.out; simp; omega) : _ = false))
            obtain ⟨A9, c9, hB9⟩ := (grid_blk S3.out (k := k + 3) HK.out)
            have HB := Lib.hid hB9
            clear hB9
            go_wp2_with fail
            refine wp_region_below (by kernel_rfl) (by kernel_rfl) ?_
            repeat (go_big_quiet_step (first | (go_at_call 39; exact quiet_below (Rows_b (HB.out.bel (below_plus _ _)))) | (go_at_call 68; exact quiet_below (Cols_b (HB.out.bel (below_plus _ _))))))
            refine wpQuiet_nil ?_
            intro w2 hb2
            have S4 := Lib.hid (S3.out.bel hb2)
            clear hb2 HB
            clear hx3 hf3 hz3 hx4 hf4 hz4 hx1 hf1 hz1 hpc
            obtain ⟨hx3, hf3, hz3⟩ := (S4.out.box (k := 0) rfl).facts
            obtain ⟨hx4, hf4, hz4⟩ := (S4.out.box (k := 1) rfl).facts
            obtain ⟨hx1, hf1, hz1⟩ := (S4.out.box (k := 2) rfl).facts
            have hpc := (S4.out.box (k := 2) rfl).ach_pen
            go_wp2_with fail
            go_ret
            exact ⟨by rw [HE.out]; rfl, S4.out.tail.tail.tail⟩
          by_cases g2 : bot < top
          · have e1 : decide (top < 0) = false := decide_eq_false (by omega)
            have e2 : decide (bot < top) = true := by simpa using g2
            have HE := Lib.hid ((HEQ.out.trans (by have h5 := HEQ2.out; simp; omega) : _ = false))
            obtain ⟨A9, c9, hB9⟩ := (grid_blk S3.out (k := k + 3) HK.out)
            have HB := Lib.hid hB9
            clear hB9
            go_wp2_with fail
            refine wp_region_below (by kernel_rfl) (by kernel_rfl) ?_
            repeat (go_big_quiet_step (first | (go_at_call 39; exact quiet_below (Rows_b (HB.out.bel (below_plus _ _)))) | (go_at_call 68; exact quiet_below (Cols_b (HB.out.bel (below_plus _ _))))))
            refine wpQuiet_nil ?_
            intro w2 hb2
            have S4 := Lib.hid (S3.out.bel hb2)
            clear hb2 HB
            clear hx3 hf3 hz3 hx4 hf4 hz4 hx1 hf1 hz1 hpc
            obtain ⟨hx3, hf3, hz3⟩ := (S4.out.box (k := 0) rfl).facts
            obtain ⟨hx4, hf4, hz4⟩ := (S4.out.box (k := 1) rfl).facts
            obtain ⟨hx1, hf1, hz1⟩ := (S4.out.box (k := 2) rfl).facts
            have hpc := (S4.out.box (k := 2) rfl).ach_pen
            go_wp2_with fail
            go_ret
            exact ⟨by rw [HE.out]; rfl, S4.out.tail.tail.tail⟩
          have e1 : decide (top < 0) = false := decide_eq_false (by omega)
          have e2 : decide (bot < top) = false := decide_eq_false (by omega)
          by_cases g3 : (L.length : Int) ≤ bot
          · have e3 : decide ((L.length : Int) ≤ bot) = true := by simpa using g3
            have HE := Lib.hid ((HEQ.out.trans (by have h5 := HEQ2.out; simp; omega) : _ = false))
            obtain ⟨A9, c9, hB9⟩ := (grid_blk S3.out (k := k + 3) HK.out)
            have HB := Lib.hid hB9
            clear hB9
            go_wp2_with fail
            refine wp_region_below (by kernel_rfl) (by kernel_rfl) ?_
            repeat (go_big_quiet_step (first | (go_at_call 39; exact quiet_below (Rows_b (HB.out.bel (below_plus _ _)))) | (go_at_call 68; exact quiet_below (Cols_b (HB.out.bel (below_plus _ _))))))
            refine wpQuiet_nil ?_
            intro w2 hb2
            have S4 := Lib.hid (S3.out.bel hb2)
            clear hb2 HB
            clear hx3 hf3 hz3 hx4 hf4 hz4 hx1 hf1 hz1 hpc
            obtain ⟨hx3, hf3, hz3⟩ := (S4.out.box (k := 0) rfl).facts
            obtain ⟨hx4, hf4, hz4⟩ := (S4.out.box (k := 1) rfl).facts
            obtain ⟨hx1, hf1, hz1⟩ := (S4.out.box (k := 2) rfl).facts
            have hpc := (S4.out.box (k := 2) rfl).ach_pen
            go_wp2_with fail
            go_ret
            exact ⟨by rw [HE.out]; rfl, S4.out.tail.tail.tail⟩
          have e3 : decide ((L.length : Int) ≤ bot) = false := decide_eq_false (by omega)
          obtain ⟨A9, c9, hB9⟩ := (grid_blk S3.out (k := k + 3) HK.out)
          have HB := Lib.hid hB9
          clear hB9
          go_wp2_with fail
          refine wp_region_below (by kernel_rfl) (by kernel_rfl) ?_
          repeat (go_big_quiet_step (first | (go_at_call 39; exact quiet_below (Rows_b (HB.out.bel (below_plus _ _)))) | (go_at_call 68; exact quiet_below (Cols_b (HB.out.bel (below_plus _ _))))))
          refine wpQuiet_nil ?_
          intro w2 hb2
          have S4 := Lib.hid (S3.out.bel hb2)
          clear hb2 HB
          clear hx3 hf3 hz3 hx4 hf4 hz4 hx1 hf1 hz1 hpc
          obtain ⟨hx3, hf3, hz3⟩ := (S4.out.box (k := 0) rfl).facts
          obtain ⟨hx4, hf4, hz4⟩ := (S4.out.box (k := 1) rfl).facts
          obtain ⟨hx1, hf1, hz1⟩ := (S4.out.box (k := 2) rfl).facts
          have hpc := (S4.out.box (k := 2) rfl).ach_pen
          clear e1 e2 e3
          by_cases hn0 : n < 0
          · have HE := Lib.hid ((HEQ.out.trans (by have h5 := HEQ2.out; simp; omega) : _ = false))
            go_wp2_with fail
            go_ret
            exact ⟨by rw [HE.out]; rfl, S4.out.tail.tail.tail⟩
          have hn1 : decide (n < 0) = false := decide_eq_false (by omega)
          cases hq : q.ok with
          | false =>
            have HQ := Lib.hid hq
            have HE := Lib.hid ((HEQ.out.trans (by have h5 := HEQ2.out; rw [hq]; simp) : _ = false))
            clear hq
            go_wp2_with fail
            refine (pure_call (cellBlank_any _ _) S4.out).mono ?_
            rintro e w5 ⟨rfl, hS⟩
            have S5 := Lib.hid hS
            clear hS
            go_wp2_with fail
            refine (pure_call (cellValid_any _ _ (S5.out.tabs HT.out)) S5.out).mono ?_
            rw [ok_blank, HQ.out]
            rintro e w6 ⟨rfl, hS⟩
            have S6 := Lib.hid hS
            clear hS
            go_wp2_with fail
            go_ret
            exact ⟨by rw [HE.out]; rfl, S6.out.tail.tail.tail⟩
          | true =>
            have HQ := Lib.hid hq
            have HE := Lib.hid ((HEQ.out.trans (by have h5 := HEQ2.out; rw [hq]; simp; omega) : _ = true))
            clear hq
            go_wp2_with fail
            refine (pure_call (cellBlank_any _ _) S4.out).mono ?_
            rintro e w5 ⟨rfl, hS⟩
            have S5 := Lib.hid hS
            clear hS
            go_wp2_with fail
            refine (pure_call (cellValid_any _ _ (S5.out.tabs HT.out)) S5.out).mono ?_
            rw [ok_blank, HQ.out]
            rintro e w6 ⟨rfl, hS⟩
            have S6 := Lib.hid hS
            clear hS
            go_wp2_with fail
            go_ret
            exact ⟨by rw [HE.out]; rfl, S6.out.tail.tail.tail⟩
      · have h5b := bne_yes h5
        have HE := Lib.hid ((HEQ.out.trans (by simp; omega) : _ = false))
        obtain ⟨A9, c9, hB9⟩ := (grid_blk S2.out (k := k + 3) HK.out)
        have HB := Lib.hid hB9
        clear hB9
        go_wp2_with fail
        refine wp_region_below (by kernel_rfl) (by kernel_rfl) ?_
        repeat (go_big_quiet_step (first | (go_at_call 39; exact quiet_below (Rows_b (HB.out.bel (below_plus _ _)))) | (go_at_call 68; exact quiet_below (Cols_b (HB.out.bel (below_plus _ _))))))
        refine wpQuiet_nil ?_
        intro w2 hb2
        have S3 := Lib.hid (S2.out.bel hb2)
        clear hb2 HB
        clear hx3 hf3 hz3 hx4 hf4 hz4 hx1 hf1 hz1 hpc
        obtain ⟨hx3, hf3, hz3⟩ := (S3.out.box (k := 0) rfl).facts
        obtain ⟨hx4, hf4, hz4⟩ := (S3.out.box (k := 1) rfl).facts
        obtain ⟨hx1, hf1, hz1⟩ := (S3.out.box (k := 2) rfl).facts
        have hpc := (S3.out.box (k := 2) rfl).ach_pen
        go_wp2_with fail
        go_ret
        exact ⟨by rw [HE.out]; rfl, S3.out.tail.tail.tail⟩
    | false =>
      obtain ⟨A9, c9, hB9⟩ := (grid_blk S2.out (k := k + 3) HK.out)
      have HB := Lib.hid hB9
      clear hB9
      go_wp2_with fail
      refine wp_region_below (by kernel_rfl) (by kernel_rfl) ?_
      repeat (go_big_quiet_step (first | (go_at_call 39; exact quiet_below (Rows_b (HB.out.bel (below_plus _ _)))) | (go_at_call 68; exact quiet_below (Cols_b (HB.out.bel (below_plus _ _))))))
      refine wpQuiet_nil ?_
      intro w2 hb2
      have S3 := Lib.hid (S2.out.bel hb2)
      clear hb2 HB
      clear hx3 hf3 hz3 hx4 hf4 hz4 hx1 hf1 hz1 hpc
      obtain ⟨hx3, hf3, hz3⟩ := (S3.out.box (k := 0) rfl).facts
      obtain ⟨hx4, hf4, hz4⟩ := (S3.out.box (k := 1) rfl).facts
      obtain ⟨hx1, hf1, hz1⟩ := (S3.out.box (k := 2) rfl).facts
      have hpc := (S3.out.box (k := 2) rfl).ach_pen
      clear d1 d2 d3 d4
      cases rows with
      | false =>
        obtain ⟨rfl, rfl⟩ := HZ.out rfl
        have e1 : decide ((0 : Int) < 0) = false := rfl
        have e3 : decide ((L.length : Int) ≤ 0) = false := decide_eq_false (by omega)
        have e3c : decide (L.length = 0) = false := decide_eq_false (by omega)
        have e3d : ¬ L.length = 0 := by omega
        have heq := eqIn_region00
        obtain ⟨A9, c9, hB9⟩ := (grid_blk S3.out (k := k + 3) HK.out)
        have HB := Lib.hid hB9
        clear hB9
        go_wp2_with fail
        refine wp_region_below (by kernel_rfl) (by kernel_rfl) ?_
        repeat (go_big_quiet_step (first | (go_at_call 39; exact quiet_below (Rows_b (HB.out.bel (below_plus _ _)))) | (go_at_call 68; exact quiet_below (Cols_b (HB.out.bel (below_plus _ _))))))
        refine wpQuiet_nil ?_
        intro w2 hb2
        have S4 := Lib.hid (S3.out.bel hb2)
        clear hb2 HB
        clear hx3 hf3 hz3 hx4 hf4 hz4 hx1 hf1 hz1 hpc
        obtain ⟨hx3, hf3, hz3⟩ := (S4.out.box (k := 0) rfl).facts
        obtain ⟨hx4, hf4, hz4⟩ := (S4.out.box (k := 1) rfl).facts
        obtain ⟨hx1, hf1, hz1⟩ := (S4.out.box (k := 2) rfl).facts
        have hpc := (S4.out.box (k := 2) rfl).ach_pen
        clear e1 e3 e3c e3d heq
        by_cases hn0 : n < 0
        · have HE := Lib.hid ((HEQ.out.trans (by simp; omega) : _ = false))
          go_wp2_with fail
          go_ret
          exact ⟨by rw [HE.out]; rfl, S4.out.tail.tail.tail⟩
        have hn1 : decide (n < 0) = false := decide_eq_false (by omega)
        cases hq : q.ok with
        | false =>
          have HQ := Lib.hid hq
          have HE := Lib.hid ((HEQ.out.trans (by rw [hq]; simp) : _ = false))
          clear hq
          go_wp2_with fail
          refine (pure_call (cellBlank_any _ _) S4.out).mono ?_
          rintro e w5 ⟨rfl, hS⟩
          have S5 := Lib.hid hS
          clear hS
          go_wp2_with fail
          refine (pure_call (cellValid_any _ _ (S5.out.tabs HT.out)) S5.out).mono ?_
          rw [ok_blank, HQ.out]
          rintro e w6 ⟨rfl, hS⟩
          have S6 := Lib.hid hS
          clear hS
          go_wp2_with fail
          go_ret
          exact ⟨by rw [HE.out]; rfl, S6.out.tail.tail.tail⟩
        | true =>
          have HQ := Lib.hid hq
          have HE := Lib.hid ((HEQ.out.trans (by rw [hq]; simp; omega) : _ = true))
          clear hq
          go_wp2_with fail
          refine (pure_call (cellBlank_any _ _) S4.out).mono ?_
          rintro e w5 ⟨rfl, hS⟩
          have S5 := Lib.hid hS
          clear hS
          go_wp2_with fail
          refine (pure_call (cellValid_any _ _ (S5.out.tabs HT.out)) S5.out).mono ?_
          rw [ok_blank, HQ.out]
          rintro e w6 ⟨rfl, hS⟩
          have S6 := Lib.hid hS
          clear hS
          go_wp2_with fail
          go_ret
          exact ⟨by rw [HE.out]; rfl, S6.out.tail.tail.tail⟩
      | true =>
        by_cases g1 : top < 0
        · have e1 : decide (top < 0) = true := by simpa using g1
          have HE := Lib.hid ((HEQ.out.trans (by simp; omega) : _ = false))
          obtain ⟨A9, c9, hB9⟩ := (grid_blk S3.out (k := k + 3) HK.out)
          have HB := Lib.hid hB9
          clear hB9
          go_wp2_with fail
          refine wp_region_below (by kernel_rfl) (by kernel_rfl) ?_
          repeat (go_big_quiet_step (first | (go_at_call 39; exact quiet_below (Rows_b (HB.out.bel (below_plus _ _)))) | (go_at_call 68; exact quiet_below (Cols_b (HB.out.bel (below_plus _ _))))))
          refine wpQuiet_nil ?_
          intro w2 hb2
          have S4 := Lib.hid (S3.out.bel hb2)
          clear hb2 HB
          clear hx3 hf3 hz3 hx4 hf4 hz4 hx1 hf1 hz1 hpc
          obtain ⟨hx3, hf3, hz3⟩ := (S4.out.box (k := 0) rfl).facts
          obtain ⟨hx4, hf4, hz4⟩ := (S4.out.box (k := 1) rfl).facts
          obtain ⟨hx1, hf1, hz1⟩ := (S4.out.box (k := 2) rfl).facts
          have hpc := (S4.out.box (k := 2) rfl).ach_pen
          go_wp2_with fail
          go_ret
          exact ⟨by rw [HE.out]; rfl, S4.out.tail.tail.tail⟩
        by_cases g2 : bot < top
        · have e1 : decide (top < 0) = false := decide_eq_false (by omega)
          have e2 : decide (bot < top) = true := by simpa using g2
          have HE := Lib.hid ((HEQ.out.trans (by simp; omega) : _ = false))
          obtain ⟨A9, c9, hB9⟩ := (grid_blk S3.out (k := k + 3) HK.out)
          have HB := Lib.hid hB9
          clear hB9
          go_wp2_with fail
          refine wp_region_below (by kernel_rfl) (by kernel_rfl) ?_
          repeat (go_big_quiet_step (first | (go_at_call 39; exact quiet_below (Rows_b (HB.out.bel (below_plus _ _)))) | (go_at_call 68; exact quiet_below (Cols_b (HB.out.bel (below_plus _ _))))))
          refine wpQuiet_nil ?_
          intro w2 hb2
          have S4 := Lib.hid (S3.out.bel hb2)
          clear hb2 HB
          clear hx3 hf3 hz3 hx4 hf4 hz4 hx1 hf1 hz1 hpc
          obtain ⟨hx3, hf3, hz3⟩ := (S4.out.box (k := 0) rfl).facts
          obtain ⟨hx4, hf4, hz4⟩ := (S4.out.box (k := 1) rfl).facts
          obtain ⟨hx1, hf1, hz1⟩ := (S4.out.box (k := 2) rfl).facts
          have hpc := (S4.out.box (k := 2) rfl).ach_pen
          go_wp2_with fail
          go_ret
          exact ⟨by rw [HE.out]; rfl, S4.out.tail.tail.tail⟩
        have e1 : decide (top < 0) = false := decide_eq_false (by omega)
        have e2 : decide (bot < top) = false := decide_eq_false (by omega)
        by_cases g3 : (L.length : Int) ≤ bot
        · have e3 : decide ((L.length : Int) ≤ bot) = true := by simpa using g3
          have HE := Lib.hid ((HEQ.out.trans (by simp; omega) : _ = false))
          obtain ⟨A9, c9, hB9⟩ := (grid_blk S3.out (k := k + 3) HK.out)
          have HB := Lib.hid hB9
          clear hB9
          go_wp2_with fail
          refine wp_region_below (by kernel_rfl) (by kernel_rfl) ?_
          repeat (go_big_quiet_step (first | (go_at_call 39; exact quiet_below (Rows_b (HB.out.bel (below_plus _ _)))) | (go_at_call 68; exact quiet_below (Cols_b (HB.out.bel (below_plus _ _))))))
          refine wpQuiet_nil ?_
          intro w2 hb2
          have S4 := Lib.hid (S3.out.bel hb2)
          clear hb2 HB
          clear hx3 hf3 hz3 hx4 hf4 hz4 hx1 hf1 hz1 hpc
          obtain ⟨hx3, hf3, hz3⟩ := (S4.out.box (k := 0) rfl).facts
          obtain ⟨hx4, hf4, hz4⟩ := (S4.out.box (k := 1) rfl).facts
          obtain ⟨hx1, hf1, hz1⟩ := (S4.out.box (k := 2) rfl).facts
          have hpc := (S4.out.box (k := 2) rfl).ach_pen
          go_wp2_with fail
          go_ret
          exact ⟨by rw [HE.out]; rfl, S4.out.tail.tail.tail⟩
        have e3 : decide ((L.length : Int) ≤ bot) = false := decide_eq_false (by omega)
        obtain ⟨A9, c9, hB9⟩ := (grid_blk S3.out (k := k + 3) HK.out)
        have HB := Lib.hid hB9
        clear hB9
        go_wp2_with fail
        refine wp_region_below (by kernel_rfl) (by kernel_rfl) ?_
        repeat (go_big_quiet_step (first | (go_at_call 39; exact quiet_below (Rows_b (HB.out.bel (below_plus _ _)))) | (go_at_call 68; exact quiet_below (Cols_b (HB.out.bel (below_plus _ _))))))
        refine wpQuiet_nil ?_
        intro w2 hb2
        have S4 := Lib.hid (S3.out.bel hb2)
        clear hb2 HB
        clear hx3 hf3 hz3 hx4 hf4 hz4 hx1 hf1 hz1 hpc
        obtain ⟨hx3, hf3, hz3⟩ := (S4.out.box (k := 0) rfl).facts
        obtain ⟨hx4, hf4, hz4⟩ := (S4.out.box (k := 1) rfl).facts
        obtain ⟨hx1, hf1, hz1⟩ := (S4.out.box (k := 2) rfl).facts
        have hpc := (S4.out.box (k := 2) rfl).ach_pen
        clear e1 e2 e3
        by_cases hn0 : n < 0
        · have HE := Lib.hid ((HEQ.out.trans (by simp; omega) : _ = false))
          go_wp2_with fail
          go_ret
          exact ⟨by rw [HE.out]; rfl, S4.out.tail.tail.tail⟩
        have hn1 : decide (n < 0) = false := decide_eq_false (by omega)
        cases hq : q.ok with
        | false =>
          have HQ := Lib.hid hq
          have HE := Lib.hid ((HEQ.out.trans (by rw [hq]; simp) : _ = false))
          clear hq
          go_wp2_with fail
          refine (pure_call (cellBlank_any _ _) S4.out).mono ?_
          rintro e w5 ⟨rfl, hS⟩
          have S5 := Lib.hid hS
          clear hS
          go_wp2_with fail
          refine (pure_call (cellValid_any _ _ (S5.out.tabs HT.out)) S5.out).mono ?_
          rw [ok_blank, HQ.out]
          rintro e w6 ⟨rfl, hS⟩
          have S6 := Lib.hid hS
          clear hS
          go_wp2_with fail
          go_ret
          exact ⟨by rw [HE.out]; rfl, S6.out.tail.tail.tail⟩
        | true =>
          have HQ := Lib.hid hq
          have HE := Lib.hid ((HEQ.out.trans (by rw [hq]; simp; omega) : _ = true))
          clear hq
          go_wp2_with fail
          refine (pure_call (cellBlank_any _ _) S4.out).mono ?_
          rintro e w5 ⟨rfl, hS⟩
          have S5 := Lib.hid hS
          clear hS
          go_wp2_with fail
          refine (pure_call (cellValid_any _ _ (S5.out.tabs HT.out)) S5.out).mono ?_
          rw [ok_blank, HQ.out]
          rintro e w6 ⟨rfl, hS⟩
          have S6 := Lib.hid hS
          clear hS
          go_wp2_with fail
          go_ret
          exact ⟨by rw [HE.out]; rfl, S6.out.tail.tail.tail⟩
end
end Go.Proofs.YtghahanpmcpacaaDoor

/-
  InsertCells, DeleteCells, InsertLines, DeleteLines: done, refused, of no grid.
-/
set_option linter.unusedSimpArgs false
set_option linter.unusedVariables false
namespace Go.Proofs.YtghahanpmcpacaaDoor
open Go.RowKit

@[go_sem ↓] theorem load_ldR19 (a : Addr) : loadCellsFrom a 0 19 #[] = ldR a 19 := rfl
theorem ach_one (a : Chg18) (x : Option Addr) (h : a.g = .pointer x) : ∀ v ∈ (ach a).toList, v.oneCell' = true := by
  obtain ⟨g, r, c, pe, t, b, ro, n, q⟩ := a
  subst h
  simp [ach, Value.oneCell']
def rollIf (y : Nat) (top bot m : Int) (q : Pen) (cols : Nat) (L : List Ln) : List Ln := if top ≤ y ∧ y ≤ bot then rollL y bot.toNat m q cols L else L
@[go_sem] theorem fill_ach (g : Value) (r c t b n : Int) (pe ro : Bool) (q : Pen) : Array.foldl (fun cs x => cs.setIfInBounds (8 + x.snd) x.fst) #[g, .int .i64 r, .int .i64 c, .bool pe, .int .i64 t, .int .i64 b, .bool ro, .int .i64 n, .int .i64 0, .int .u8 0, .int .u8 0, .int .u8 0, .int .u8 0, .int .i64 0, .int .u8 0, .int .u8 0, .int .u8 0, .int .u8 0, .int .u8 0] (pv q).zipIdx 0 11 = ach ⟨g, r, c, pe, t, b, ro, n, q⟩ := by kernel_rfl
theorem store_ach_newP {g : Nat} (w : World) (zs : Array Value) (a : Chg18) (x : Option Addr) (h1 : a.g = .pointer x) (hb : g = w.heap.size) (hz : zs.size = 19) :
    (storeCells ⟨g, 0, none⟩ (ach a).toList 0).run Tryd.prog (w.alloc (.cells zs 121)) = .ok () (w.alloc (.cells (ach a) 121)) := by
  subst hb
  have := store_recE (P := Tryd.prog) (w.alloc (.cells zs 121)) w.heap.size 121 zs (ach a) (Blk.new _ _ _) (by rw [hz, ach_size]) (ach_one a x h1)
  rw [this, World.setRow_alloc_new]
@[go_sem] theorem store_ach_new {g : Nat} (w : World) (zs : Array Value) (x : Option Addr) (r c t b n : Int) (pe ro : Bool) (q : Pen) (hb : g = w.heap.size) (hz : zs.size = 19) :
    (storeCells ⟨g, 0, none⟩ (ach ⟨.pointer x, r, c, pe, t, b, ro, n, q⟩).toList 0).run Tryd.prog (w.alloc (.cells zs 121)) = .ok () (w.alloc (.cells (ach ⟨.pointer x, r, c, pe, t, b, ro, n, q⟩) 121)) := store_ach_newP w zs _ x rfl hb hz
theorem Blk.ach {w : World} {g : Nat} {t : TypeId} {a : Chg18} (h : Blk w g t (Proofs.YtghahanpmcpacaaDoor.ach a)) : (∀ i, w.cell? ⟨g, i, none⟩ = (Proofs.YtghahanpmcpacaaDoor.ach a)[i]?) ∧ (∀ i, w.frozen? ⟨g, i, none⟩ = false) ∧ g < w.heap.size ∧ Proofs.YtghahanpmcpacaaDoor.recAt w g 0 19 = some (Proofs.YtghahanpmcpacaaDoor.ach a) ∧ Proofs.YtghahanpmcpacaaDoor.penAt w g 8 = some a.q :=
  ⟨h.cell, h.frozen, h.lt, h.recAt 19 (ach_size a), h.ach_pen⟩
/-- A grid that is not there: it has no rows, no columns. -/
def NoGrid (w : World) (gp : Value) : Prop := NoRows w gp ∧ ∀ w', Below w.heap.size w w' → Calls Tryd.prog 68 #[gp] w' fun e w2 => e = .returned (.int .i64 0) ∧ Below w'.heap.size w' w2
theorem NoGrid.bel {w w' : World} {gp : Value} (h : NoGrid w gp) (hb : Below w.heap.size w w') : NoGrid w' gp := ⟨h.1.bel hb, fun w2 hb2 => h.2 w2 (hb.trans (hb2.mono hb.size))⟩
section
variable {w0 w : World} {os : List Ob} {k p cols : Nat} {L : List Ln}
set_option maxHeartbeats 4000000 in
theorem edroll_any {y : Nat} {col top bot n m : Int} {pend rows : Bool} (q : Pen) (hT : Tabs w0) (hS : Objs w0 w os) (hk : os[k]? = some (.grid p 37 cols L)) (hc : 0 < cols) (hcm : cols ≤ 1000) (hL : L.length ≤ 100000) (hi : y < L.length) (hr : 0 ≤ top ∧ top ≤ bot ∧ bot < L.length) (hq : q.ok = true) (hm : -9223372036854775808 ≤ m ∧ m ≤ 9223372036854775807) :
    Calls Tryd.prog 76 #[.agg (ach ⟨.pointer (some ⟨p, 0, none⟩), y, col, pend, top, bot, rows, n, q⟩), .int .i64 m] w fun e w' => e = .returned (.int .i64 0) ∧ Objs w0 w' (os.set k (.grid p 37 cols (rollIf y top bot m q cols L))) := by
  have S := Lib.hid hS
  have HT := Lib.hid hT
  have HK := Lib.hid hk
  have HQ := Lib.hid hq
  have HM := Lib.hid hm
  clear hS hT hk hq hm
  go_enter Tryd.func76, Tryd.ntmps76
  go_upto_region 1 with (fail)
  refine at_objsC S.out.alloc1 (fun W hW => ?_)
  generalize w.heap.size = b1 at hW ⊢
  obtain ⟨hx, hf, hz, hrc, hp⟩ := (hW.box (k := 0) rfl).ach
  have T0 := Lib.hid hW
  clear hW S
  by_cases g1 : (y : Int) < top
  · have HL := Lib.hid (show rollIf y top bot m q cols L = L from if_neg (by omega))
    go_wp2_with fail
    go_ret
    exact ⟨rfl, by rw [HL.out, set_self HK.out]; exact T0.out.tail⟩
  by_cases g2 : bot < (y : Int)
  · have HL := Lib.hid (show rollIf y top bot m q cols L = L from if_neg (by omega))
    go_wp2_with fail
    go_ret
    exact ⟨rfl, by rw [HL.out, set_self HK.out]; exact T0.out.tail⟩
  obtain ⟨b, rfl⟩ : ∃ b : Nat, bot = b := ⟨bot.toNat, by omega⟩
  have HL := Lib.hid (show rollIf y top b m q cols L = rollL y b m q cols L from if_pos (by omega))
  go_wp2_with fail
  refine (RollG m q HT.out T0.out (k := k + 1) HK.out hc hcm hL (top := y) (bot := b) (by omega) (by omega) HQ.out HM.out).mono ?_
  rintro e w1 ⟨A, mm, c, rfl, hS⟩
  have S1 := Lib.hid hS
  clear hS hx hf hz hrc hp
  go_wp2_with fail
  go_ret
  exact ⟨rfl, by rw [HL.out]; exact S1.out.tail.tail⟩
set_option maxHeartbeats 4000000 in
theorem edInsertCells_yes {y j : Nat} {pend : Bool} {n : Int} (q : Pen) (hT : Tabs w0) (hS : Objs w0 w os) (hk : os[k]? = some (.grid p 37 cols L)) (hcm : cols ≤ 1000) (hL : L.length ≤ 100000) (hR : Rect cols L) (hin : inG y j pend L.length cols = true) (hq : q.ok = true) (hn : 0 ≤ n ∧ n ≤ 9223372036854775807) :
    Calls Tryd.prog 47 #[.pointer (some ⟨p, 0, none⟩), .agg #[.int .i64 y, .int .i64 j, .bool pend], .int .i64 n, .agg (pv q)] w fun e w' => e = .returned (.int .i64 0) ∧ Objs w0 w' (os.set k (.grid p 37 cols (rowMod y (shiftN j cols n q) L))) := by
  have hing := ingrid_iff.1 hin
  have hi : y < L.length := by omega
  have hj : j < cols := by omega
  have hc : 0 < cols := by omega
  have S := Lib.hid hS
  have HT := Lib.hid hT
  have HK := Lib.hid hk
  have HQ := Lib.hid hq
  have HR := Lib.hid hR
  have HE := Lib.hid (show chg18ok ⟨.pointer (some ⟨p, 0, none⟩), y, j, pend, 0, 0, false, n, q⟩ L.length cols = true by rw [chg18ok_is, hq, Bool.and_true]; exact decide_eq_true ⟨hing, (fun h => by cases h), hn.1⟩)
  have HWN := Lib.hid (show IntKind.i64.wrap (-n) = -n from IntWalk.i64_in _ (by omega))
  clear hS hT hk hq hR hin
  go_enter Tryd.func47, Tryd.ntmps47
  go_upto_region 1 with (fail)
  refine at_objsC S.out.alloc2 (fun W hW => ?_)
  generalize w.heap.size + 1 = b7 at hW ⊢
  generalize w.heap.size = b5 at hW ⊢
  obtain ⟨hx5, hf5, hz5⟩ := (hW.box (k := 1) rfl).facts
  have hp7 := (hW.box (k := 0) rfl).penAt
  have hz7 := (hW.box (k := 0) rfl).lt
  have S0 := Lib.hid hW
  clear hW
  go_upto_region 2 with (fail)
  refine at_objsC (S0.out.alloc1 (c1 := ach ⟨.pointer (some ⟨p, 0, none⟩), y, j, pend, 0, 0, false, n, q⟩) (t1 := 121)) (fun W2 hW => ?_)
  generalize W.heap.size = b9 at hW ⊢
  clear hx5 hf5 hz5 hp7 hz7
  obtain ⟨hx5, hf5, hz5⟩ := (hW.box (k := 2) rfl).facts
  have hp7 := (hW.box (k := 1) rfl).penAt
  have hz7 := (hW.box (k := 1) rfl).lt
  obtain ⟨hx9, hf9, hz9, hr9, hp9⟩ := (hW.box (k := 0) rfl).ach
  have T0 := Lib.hid hW
  clear hW S0
  go_wp2_with fail
  refine (edcheck_any q HT.out T0.out (k := k + 3) HK.out hc hcm (by omega) (fun _ => ⟨rfl, rfl⟩)).mono ?_
  rw [HE.out]
  rintro e w1 ⟨rfl, hS⟩
  simp only [errB, if_true, Bool.false_eq_true, if_false]
  have T1 := Lib.hid hS
  clear hS T0
  clear hx5 hf5 hz5 hp7 hz7 hx9 hf9 hz9 hr9 hp9
  obtain ⟨hx5, hf5, hz5⟩ := (T1.out.box (k := 2) rfl).facts
  have hp7 := (T1.out.box (k := 1) rfl).penAt
  have hz7 := (T1.out.box (k := 1) rfl).lt
  obtain ⟨hx9, hf9, hz9, hr9, hp9⟩ := (T1.out.box (k := 0) rfl).ach
  go_wp2_with fail
  refine (ShiftG n q HT.out T1.out (k := k + 3) HK.out hcm HR.out hi HQ.out hj (by omega)).mono ?_
  rintro e w2 ⟨rfl, hS⟩
  have T2 := Lib.hid hS
  clear hS T1
  clear hx5 hf5 hz5 hp7 hz7 hx9 hf9 hz9 hr9 hp9
  go_wp2_with fail
  go_ret
  exact ⟨rfl, T2.out.tail.tail.tail⟩
set_option maxHeartbeats 4000000 in
theorem edInsertCells_no {row col : Int} {pend : Bool} {n : Int} (q : Pen) (hT : Tabs w0) (hS : Objs w0 w os) (hk : os[k]? = some (.grid p 37 cols L)) (hc : 0 < cols) (hcm : cols ≤ 1000) (hL : 0 < L.length) (hno : chg18ok ⟨.pointer (some ⟨p, 0, none⟩), row, col, pend, 0, 0, false, n, q⟩ L.length cols = false) :
    Calls Tryd.prog 47 #[.pointer (some ⟨p, 0, none⟩), .agg #[.int .i64 row, .int .i64 col, .bool pend], .int .i64 n, .agg (pv q)] w fun e w' => e = .returned (.int .i64 2) ∧ Objs w0 w' os := by
  have S := Lib.hid hS
  have HT := Lib.hid hT
  have HK := Lib.hid hk
  have HE := Lib.hid hno
  clear hS hT hk hno
  go_enter Tryd.func47, Tryd.ntmps47
  go_upto_region 1 with (fail)
  refine at_objsC S.out.alloc2 (fun W hW => ?_)
  generalize w.heap.size + 1 = b7 at hW ⊢
  generalize w.heap.size = b5 at hW ⊢
  obtain ⟨hx5, hf5, hz5⟩ := (hW.box (k := 1) rfl).facts
  have hp7 := (hW.box (k := 0) rfl).penAt
  have hz7 := (hW.box (k := 0) rfl).lt
  have S0 := Lib.hid hW
  clear hW
  go_upto_region 2 with (fail)
  refine at_objsC (S0.out.alloc1 (c1 := ach ⟨.pointer (some ⟨p, 0, none⟩), row, col, pend, 0, 0, false, n, q⟩) (t1 := 121)) (fun W2 hW => ?_)
  generalize W.heap.size = b9 at hW ⊢
  clear hx5 hf5 hz5 hp7 hz7
  obtain ⟨hx5, hf5, hz5⟩ := (hW.box (k := 2) rfl).facts
  have hp7 := (hW.box (k := 1) rfl).penAt
  have hz7 := (hW.box (k := 1) rfl).lt
  obtain ⟨hx9, hf9, hz9, hr9, hp9⟩ := (hW.box (k := 0) rfl).ach
  have T0 := Lib.hid hW
  clear hW S0
  go_wp2_with fail
  refine (edcheck_any q HT.out T0.out (k := k + 3) HK.out hc hcm hL (fun _ => ⟨rfl, rfl⟩)).mono ?_
  rw [HE.out]
  rintro e w1 ⟨rfl, hS⟩
  simp only [errB, if_true, Bool.false_eq_true, if_false]
  have T1 := Lib.hid hS
  clear hS T0
  clear hx5 hf5 hz5 hp7 hz7 hx9 hf9 hz9 hr9 hp9
  go_wp2_with fail
  go_ret
  exact ⟨rfl, T1.out.tail.tail.tail⟩
def delC (y j cols : Nat) (n : Int) (q : Pen) (L : List Ln) : List Ln := if n = 0 then L else softMod y false (rowMod y (shiftN j cols (-n) q) L)
set_option maxHeartbeats 4000000 in
theorem edDeleteCells_yes {y j : Nat} {pend : Bool} {n : Int} (q : Pen) (hT : Tabs w0) (hS : Objs w0 w os) (hk : os[k]? = some (.grid p 37 cols L)) (hcm : cols ≤ 1000) (hL : L.length ≤ 100000) (hR : Rect cols L) (hin : inG y j pend L.length cols = true) (hq : q.ok = true) (hn : 0 ≤ n ∧ n ≤ 9223372036854775807) :
    Calls Tryd.prog 48 #[.pointer (some ⟨p, 0, none⟩), .agg #[.int .i64 y, .int .i64 j, .bool pend], .int .i64 n, .agg (pv q)] w fun e w' => e = .returned (.int .i64 0) ∧ Objs w0 w' (os.set k (.grid p 37 cols (delC y j cols n q L))) := by
  have hing := ingrid_iff.1 hin
  have hi : y < L.length := by omega
  have hj : j < cols := by omega
  have hc : 0 < cols := by omega
  have S := Lib.hid hS
  have HT := Lib.hid hT
  have HK := Lib.hid hk
  have HQ := Lib.hid hq
  have HR := Lib.hid hR
  have HE := Lib.hid (show chg18ok ⟨.pointer (some ⟨p, 0, none⟩), y, j, pend, 0, 0, false, n, q⟩ L.length cols = true by rw [chg18ok_is, hq, Bool.and_true]; exact decide_eq_true ⟨hing, (fun h => by cases h), hn.1⟩)
  have HWN := Lib.hid (show IntKind.i64.wrap (-n) = -n from IntWalk.i64_in _ (by omega))
  clear hS hT hk hq hR hin
  obtain ⟨b0, hb0⟩ : ∃ b0, (n == 0) = b0 := ⟨_, rfl⟩
  go_enter Tryd.func48, Tryd.ntmps48
  go_upto_region 1 with (fail)
  refine at_objsC S.out.alloc2 (fun W hW => ?_)
  generalize w.heap.size + 1 = b7 at hW ⊢
  generalize w.heap.size = b5 at hW ⊢
  obtain ⟨hx5, hf5, hz5⟩ := (hW.box (k := 1) rfl).facts
  have hp7 := (hW.box (k := 0) rfl).penAt
  have hz7 := (hW.box (k := 0) rfl).lt
  have S0 := Lib.hid hW
  clear hW
  go_upto_region 2 with (fail)
  refine at_objsC (S0.out.alloc1 (c1 := ach ⟨.pointer (some ⟨p, 0, none⟩), y, j, pend, 0, 0, false, n, q⟩) (t1 := 121)) (fun W2 hW => ?_)
  generalize W.heap.size = b9 at hW ⊢
  clear hx5 hf5 hz5 hp7 hz7
  obtain ⟨hx5, hf5, hz5⟩ := (hW.box (k := 2) rfl).facts
  have hp7 := (hW.box (k := 1) rfl).penAt
  have hz7 := (hW.box (k := 1) rfl).lt
  obtain ⟨hx9, hf9, hz9, hr9, hp9⟩ := (hW.box (k := 0) rfl).ach
  have T0 := Lib.hid hW
  clear hW S0
  go_wp2_with fail
  refine (edcheck_any q HT.out T0.out (k := k + 3) HK.out hc hcm (by omega) (fun _ => ⟨rfl, rfl⟩)).mono ?_
  rw [HE.out]
  rintro e w1 ⟨rfl, hS⟩
  simp only [errB, if_true, Bool.false_eq_true, if_false]
  have T1 := Lib.hid hS
  clear hS T0
  clear hx5 hf5 hz5 hp7 hz7 hx9 hf9 hz9 hr9 hp9
  obtain ⟨hx5, hf5, hz5⟩ := (T1.out.box (k := 2) rfl).facts
  have hp7 := (T1.out.box (k := 1) rfl).penAt
  have hz7 := (T1.out.box (k := 1) rfl).lt
  obtain ⟨hx9, hf9, hz9, hr9, hp9⟩ := (T1.out.box (k := 0) rfl).ach
  cases b0 with
  | true =>
    have h0 : n = 0 := by simpa using hb0
    have HL := Lib.hid (show delC y j cols n q L = L from if_pos h0)
    clear h0
    go_wp2_with fail
    go_ret
    exact ⟨rfl, by rw [HL.out, set_self HK.out]; exact T1.out.tail.tail.tail⟩
  | false =>
    have h0 : ¬ n = 0 := by simpa using hb0
    have HL := Lib.hid (show softMod y false (rowMod y (shiftN j cols (-n) q) L) = delC y j cols n q L from (if_neg h0).symm)
    clear h0
    go_upto_region 5 with (fail)
    go_wp2_with fail
    try simp only [HWN.out]
    refine (ShiftG (-n) q HT.out T1.out (k := k + 3) HK.out hcm HR.out hi HQ.out hj (by omega)).mono ?_
    rintro e w2 ⟨rfl, hS⟩
    have T2 := Lib.hid hS
    clear hS T1
    clear hx5 hf5 hz5 hp7 hz7 hx9 hf9 hz9 hr9 hp9
    obtain ⟨hx5, hf5, hz5⟩ := (T2.out.box (k := 2) rfl).facts
    have hp7 := (T2.out.box (k := 1) rfl).penAt
    have hz7 := (T2.out.box (k := 1) rfl).lt
    go_wp2_with fail
    refine (SetSoftG false T2.out (k := k + 3) (set_at HK.out) hc (by rw [rowMod_length]; exact hi) (by rw [rowMod_length]; omega)).mono ?_
    rintro e w3 ⟨rfl, hS⟩
    have T3 := Lib.hid hS
    clear hS T2 hx5 hf5 hz5 hp7 hz7
    go_wp2_with fail
    go_ret
    exact ⟨rfl, by rw [← HL.out]; have := T3.out.tail.tail.tail; rwa [List.set_set] at this⟩
set_option maxHeartbeats 4000000 in
theorem edDeleteCells_no {row col : Int} {pend : Bool} {n : Int} (q : Pen) (hT : Tabs w0) (hS : Objs w0 w os) (hk : os[k]? = some (.grid p 37 cols L)) (hc : 0 < cols) (hcm : cols ≤ 1000) (hL : 0 < L.length) (hno : chg18ok ⟨.pointer (some ⟨p, 0, none⟩), row, col, pend, 0, 0, false, n, q⟩ L.length cols = false) :
    Calls Tryd.prog 48 #[.pointer (some ⟨p, 0, none⟩), .agg #[.int .i64 row, .int .i64 col, .bool pend], .int .i64 n, .agg (pv q)] w fun e w' => e = .returned (.int .i64 2) ∧ Objs w0 w' os := by
  have S := Lib.hid hS
  have HT := Lib.hid hT
  have HK := Lib.hid hk
  have HE := Lib.hid hno
  clear hS hT hk hno
  go_enter Tryd.func48, Tryd.ntmps48
  go_upto_region 1 with (fail)
  refine at_objsC S.out.alloc2 (fun W hW => ?_)
  generalize w.heap.size + 1 = b7 at hW ⊢
  generalize w.heap.size = b5 at hW ⊢
  obtain ⟨hx5, hf5, hz5⟩ := (hW.box (k := 1) rfl).facts
  have hp7 := (hW.box (k := 0) rfl).penAt
  have hz7 := (hW.box (k := 0) rfl).lt
  have S0 := Lib.hid hW
  clear hW
  go_upto_region 2 with (fail)
  refine at_objsC (S0.out.alloc1 (c1 := ach ⟨.pointer (some ⟨p, 0, none⟩), row, col, pend, 0, 0, false, n, q⟩) (t1 := 121)) (fun W2 hW => ?_)
  generalize W.heap.size = b9 at hW ⊢
  clear hx5 hf5 hz5 hp7 hz7
  obtain ⟨hx5, hf5, hz5⟩ := (hW.box (k := 2) rfl).facts
  have hp7 := (hW.box (k := 1) rfl).penAt
  have hz7 := (hW.box (k := 1) rfl).lt
  obtain ⟨hx9, hf9, hz9, hr9, hp9⟩ := (hW.box (k := 0) rfl).ach
  have T0 := Lib.hid hW
  clear hW S0
  go_wp2_with fail
  refine (edcheck_any q HT.out T0.out (k := k + 3) HK.out hc hcm hL (fun _ => ⟨rfl, rfl⟩)).mono ?_
  rw [HE.out]
  rintro e w1 ⟨rfl, hS⟩
  simp only [errB, if_true, Bool.false_eq_true, if_false]
  have T1 := Lib.hid hS
  clear hS T0
  clear hx5 hf5 hz5 hp7 hz7 hx9 hf9 hz9 hr9 hp9
  go_wp2_with fail
  go_ret
  exact ⟨rfl, T1.out.tail.tail.tail⟩
set_option maxHeartbeats 4000000 in
theorem edInsertLines_yes {y j : Nat} {pend : Bool} {top bot : Int} {n : Int} (q : Pen) (hT : Tabs w0) (hS : Objs w0 w os) (hk : os[k]? = some (.grid p 37 cols L)) (hcm : cols ≤ 1000) (hL : L.length ≤ 100000) (hR : Rect cols L) (hin : inG y j pend L.length cols = true) (hr : 0 ≤ top ∧ top ≤ bot ∧ bot < L.length) (hq : q.ok = true) (hn : 0 ≤ n ∧ n ≤ 9223372036854775807) :
    Calls Tryd.prog 49 #[.pointer (some ⟨p, 0, none⟩), .agg #[.int .i64 y, .int .i64 j, .bool pend], .agg #[.int .i64 top, .int .i64 bot], .int .i64 n, .agg (pv q)] w fun e w' => e = .returned (.int .i64 0) ∧ Objs w0 w' (os.set k (.grid p 37 cols (rollIf y top bot (-n) q cols L))) := by
  have hing := ingrid_iff.1 hin
  have hi : y < L.length := by omega
  have hj : j < cols := by omega
  have hc : 0 < cols := by omega
  have S := Lib.hid hS
  have HT := Lib.hid hT
  have HK := Lib.hid hk
  have HQ := Lib.hid hq
  have HR := Lib.hid hR
  have HE := Lib.hid (show chg18ok ⟨.pointer (some ⟨p, 0, none⟩), y, j, pend, top, bot, true, n, q⟩ L.length cols = true by rw [chg18ok_is, hq, Bool.and_true]; exact decide_eq_true ⟨hing, (fun _ => hr), hn.1⟩)
  have HWN := Lib.hid (show IntKind.i64.wrap (-n) = -n from IntWalk.i64_in _ (by omega))
  clear hS hT hk hq hR hin
  go_enter Tryd.func49, Tryd.ntmps49
  go_upto_region 1 with (fail)
  refine at_objsC S.out.alloc3 (fun W hW => ?_)
  generalize w.heap.size + 2 = b7 at hW ⊢
  generalize w.heap.size + 1 = b6 at hW ⊢
  generalize w.heap.size = b5 at hW ⊢
  obtain ⟨hx5, hf5, hz5⟩ := (hW.box (k := 2) rfl).facts
  have hp7 := (hW.box (k := 0) rfl).penAt
  have hz7 := (hW.box (k := 0) rfl).lt
  obtain ⟨hx6, hf6, hz6⟩ := (hW.box (k := 1) rfl).facts
  have S0 := Lib.hid hW
  clear hW
  go_upto_region 2 with (fail)
  refine at_objsC (S0.out.alloc1 (c1 := ach ⟨.pointer (some ⟨p, 0, none⟩), y, j, pend, top, bot, true, n, q⟩) (t1 := 121)) (fun W2 hW => ?_)
  generalize W.heap.size = b9 at hW ⊢
  clear hx5 hf5 hz5 hp7 hz7 hx6 hf6 hz6
  obtain ⟨hx5, hf5, hz5⟩ := (hW.box (k := 3) rfl).facts
  have hp7 := (hW.box (k := 1) rfl).penAt
  have hz7 := (hW.box (k := 1) rfl).lt
  obtain ⟨hx6, hf6, hz6⟩ := (hW.box (k := 2) rfl).facts
  obtain ⟨hx9, hf9, hz9, hr9, hp9⟩ := (hW.box (k := 0) rfl).ach
  have T0 := Lib.hid hW
  clear hW S0
  go_wp2_with fail
  refine (edcheck_any q HT.out T0.out (k := k + 4) HK.out hc hcm (by omega) (fun h => by cases h)).mono ?_
  rw [HE.out]
  rintro e w1 ⟨rfl, hS⟩
  simp only [errB, if_true, Bool.false_eq_true, if_false]
  have T1 := Lib.hid hS
  clear hS T0
  clear hx5 hf5 hz5 hp7 hz7 hx9 hf9 hz9 hr9 hp9 hx6 hf6 hz6
  obtain ⟨hx5, hf5, hz5⟩ := (T1.out.box (k := 3) rfl).facts
  have hp7 := (T1.out.box (k := 1) rfl).penAt
  have hz7 := (T1.out.box (k := 1) rfl).lt
  obtain ⟨hx6, hf6, hz6⟩ := (T1.out.box (k := 2) rfl).facts
  obtain ⟨hx9, hf9, hz9, hr9, hp9⟩ := (T1.out.box (k := 0) rfl).ach
  go_wp2_with fail
  try simp only [HWN.out]
  refine (edroll_any (m := (-n)) q HT.out T1.out (k := k + 4) HK.out hc hcm hL hi hr HQ.out (by omega)).mono ?_
  rintro e w2 ⟨rfl, hS⟩
  have T2 := Lib.hid hS
  clear hS T1
  clear hx5 hf5 hz5 hp7 hz7 hx9 hf9 hz9 hr9 hp9 hx6 hf6 hz6
  go_wp2_with fail
  go_ret
  exact ⟨rfl, T2.out.tail.tail.tail.tail⟩
set_option maxHeartbeats 4000000 in
theorem edInsertLines_no {row col : Int} {pend : Bool} {top bot : Int} {n : Int} (q : Pen) (hT : Tabs w0) (hS : Objs w0 w os) (hk : os[k]? = some (.grid p 37 cols L)) (hc : 0 < cols) (hcm : cols ≤ 1000) (hL : 0 < L.length) (hno : chg18ok ⟨.pointer (some ⟨p, 0, none⟩), row, col, pend, top, bot, true, n, q⟩ L.length cols = false) :
    Calls Tryd.prog 49 #[.pointer (some ⟨p, 0, none⟩), .agg #[.int .i64 row, .int .i64 col, .bool pend], .agg #[.int .i64 top, .int .i64 bot], .int .i64 n, .agg (pv q)] w fun e w' => e = .returned (.int .i64 2) ∧ Objs w0 w' os := by
  have S := Lib.hid hS
  have HT := Lib.hid hT
  have HK := Lib.hid hk
  have HE := Lib.hid hno
  clear hS hT hk hno
  go_enter Tryd.func49, Tryd.ntmps49
  go_upto_region 1 with (fail)
  refine at_objsC S.out.alloc3 (fun W hW => ?_)
  generalize w.heap.size + 2 = b7 at hW ⊢
  generalize w.heap.size + 1 = b6 at hW ⊢
  generalize w.heap.size = b5 at hW ⊢
  obtain ⟨hx5, hf5, hz5⟩ := (hW.box (k := 2) rfl).facts
  have hp7 := (hW.box (k := 0) rfl).penAt
  have hz7 := (hW.box (k := 0) rfl).lt
  obtain ⟨hx6, hf6, hz6⟩ := (hW.box (k := 1) rfl).facts
  have S0 := Lib.hid hW
  clear hW
  go_upto_region 2 with (fail)
  refine at_objsC (S0.out.alloc1 (c1 := ach ⟨.pointer (some ⟨p, 0, none⟩), row, col, pend, top, bot, true, n, q⟩) (t1 := 121)) (fun W2 hW => ?_)
  generalize W.heap.size = b9 at hW ⊢
  clear hx5 hf5 hz5 hp7 hz7 hx6 hf6 hz6
  obtain ⟨hx5, hf5, hz5⟩ := (hW.box (k := 3) rfl).facts
  have hp7 := (hW.box (k := 1) rfl).penAt
  have hz7 := (hW.box (k := 1) rfl).lt
  obtain ⟨hx6, hf6, hz6⟩ := (hW.box (k := 2) rfl).facts
  obtain ⟨hx9, hf9, hz9, hr9, hp9⟩ := (hW.box (k := 0) rfl).ach
  have T0 := Lib.hid hW
  clear hW S0
  go_wp2_with fail
  refine (edcheck_any q HT.out T0.out (k := k + 4) HK.out hc hcm hL (fun h => by cases h)).mono ?_
  rw [HE.out]
  rintro e w1 ⟨rfl, hS⟩
  simp only [errB, if_true, Bool.false_eq_true, if_false]
  have T1 := Lib.hid hS
  clear hS T0
  clear hx5 hf5 hz5 hp7 hz7 hx9 hf9 hz9 hr9 hp9 hx6 hf6 hz6
  go_wp2_with fail
  go_ret
  exact ⟨rfl, T1.out.tail.tail.tail.tail⟩
set_option maxHeartbeats 4000000 in
theorem edDeleteLines_yes {y j : Nat} {pend : Bool} {top bot : Int} {n : Int} (q : Pen) (hT : Tabs w0) (hS : Objs w0 w os) (hk : os[k]? = some (.grid p 37 cols L)) (hcm : cols ≤ 1000) (hL : L.length ≤ 100000) (hR : Rect cols L) (hin : inG y j pend L.length cols = true) (hr : 0 ≤ top ∧ top ≤ bot ∧ bot < L.length) (hq : q.ok = true) (hn : 0 ≤ n ∧ n ≤ 9223372036854775807) :
    Calls Tryd.prog 50 #[.pointer (some ⟨p, 0, none⟩), .agg #[.int .i64 y, .int .i64 j, .bool pend], .agg #[.int .i64 top, .int .i64 bot], .int .i64 n, .agg (pv q)] w fun e w' => e = .returned (.int .i64 0) ∧ Objs w0 w' (os.set k (.grid p 37 cols (rollIf y top bot n q cols L))) := by
  have hing := ingrid_iff.1 hin
  have hi : y < L.length := by omega
  have hj : j < cols := by omega
  have hc : 0 < cols := by omega
  have S := Lib.hid hS
  have HT := Lib.hid hT
  have HK := Lib.hid hk
  have HQ := Lib.hid hq
  have HR := Lib.hid hR
  have HE := Lib.hid (show chg18ok ⟨.pointer (some ⟨p, 0, none⟩), y, j, pend, top, bot, true, n, q⟩ L.length cols = true by rw [chg18ok_is, hq, Bool.and_true]; exact decide_eq_true ⟨hing, (fun _ => hr), hn.1⟩)
  have HWN := Lib.hid (show IntKind.i64.wrap (-n) = -n from IntWalk.i64_in _ (by omega))
  clear hS hT hk hq hR hin
  go_enter Tryd.func50, Tryd.ntmps50
  go_upto_region 1 with (fail)
  refine at_objsC S.out.alloc3 (fun W hW => ?_)
  generalize w.heap.size + 2 = b7 at hW ⊢
  generalize w.heap.size + 1 = b6 at hW ⊢
  generalize w.heap.size = b5 at hW ⊢
  obtain ⟨hx5, hf5, hz5⟩ := (hW.box (k := 2) rfl).facts
  have hp7 := (hW.box (k := 0) rfl).penAt
  have hz7 := (hW.box (k := 0) rfl).lt
  obtain ⟨hx6, hf6, hz6⟩ := (hW.box (k := 1) rfl).facts
  have S0 := Lib.hid hW
  clear hW
  go_upto_region 2 with (fail)
  refine at_objsC (S0.out.alloc1 (c1 := ach ⟨.pointer (some ⟨p, 0, none⟩), y, j, pend, top, bot, true, n, q⟩) (t1 := 121)) (fun W2 hW => ?_)
  generalize W.heap.size = b9 at hW ⊢
  clear hx5 hf5 hz5 hp7 hz7 hx6 hf6 hz6
  obtain ⟨hx5, hf5, hz5⟩ := (hW.box (k := 3) rfl).facts
  have hp7 := (hW.box (k := 1) rfl).penAt
  have hz7 := (hW.box (k := 1) rfl).lt
  obtain ⟨hx6, hf6, hz6⟩ := (hW.box (k := 2) rfl).facts
  obtain ⟨hx9, hf9, hz9, hr9, hp9⟩ := (hW.box (k := 0) rfl).ach
  have T0 := Lib.hid hW
  clear hW S0
  go_wp2_with fail
  refine (edcheck_any q HT.out T0.out (k := k + 4) HK.out hc hcm (by omega) (fun h => by cases h)).mono ?_
  rw [HE.out]
  rintro e w1 ⟨rfl, hS⟩
  simp only [errB, if_true, Bool.false_eq_true, if_false]
  have T1 := Lib.hid hS
  clear hS T0
  clear hx5 hf5 hz5 hp7 hz7 hx9 hf9 hz9 hr9 hp9 hx6 hf6 hz6
  obtain ⟨hx5, hf5, hz5⟩ := (T1.out.box (k := 3) rfl).facts
  have hp7 := (T1.out.box (k := 1) rfl).penAt
  have hz7 := (T1.out.box (k := 1) rfl).lt
  obtain ⟨hx6, hf6, hz6⟩ := (T1.out.box (k := 2) rfl).facts
  obtain ⟨hx9, hf9, hz9, hr9, hp9⟩ := (T1.out.box (k := 0) rfl).ach
  go_wp2_with fail
  refine (edroll_any (m := n) q HT.out T1.out (k := k + 4) HK.out hc hcm hL hi hr HQ.out (by omega)).mono ?_
  rintro e w2 ⟨rfl, hS⟩
  have T2 := Lib.hid hS
  clear hS T1
  clear hx5 hf5 hz5 hp7 hz7 hx9 hf9 hz9 hr9 hp9 hx6 hf6 hz6
  go_wp2_with fail
  go_ret
  exact ⟨rfl, T2.out.tail.tail.tail.tail⟩
end
end Go.Proofs.YtghahanpmcpacaaDoor

/-
  edit: the reference's.
-/
set_option linter.unusedSimpArgs false
set_option linter.unusedVariables false
namespace Go.Proofs.YtghahanpmcpacaaDoor
open Go.RowKit

section
variable {w0 w : World} {os : List Ob} {k p cols : Nat} {L : List Ln}
end
end Go.Proofs.YtghahanpmcpacaaDoor

/-
  A call of the chapter on editing.
-/
set_option linter.unusedSimpArgs false
set_option linter.unusedVariables false
namespace Go.Proofs.YtghahanpmcpacaaDoor
open Go.RowKit

structure Act18 where
  what : Int
  n : Int
  row : Int
  col : Int
  pend : Bool
  top : Int
  bot : Int
  q : Pen
def av18 (a : Act18) : Array Value := #[.int .i64 a.what, .int .i64 a.n, .int .i64 a.row, .int .i64 a.col, .bool a.pend, .int .i64 a.top, .int .i64 a.bot, .int .i64 a.q.fk, .int .u8 a.q.fi, .int .u8 a.q.fr, .int .u8 a.q.fg, .int .u8 a.q.fb, .int .i64 a.q.bk, .int .u8 a.q.bi, .int .u8 a.q.br, .int .u8 a.q.bg, .int .u8 a.q.bb, .int .u8 a.q.fl]
@[go_sem ↓] theorem load_ldR18 (a : Addr) : loadCellsFrom a 0 18 #[] = ldR a 18 := rfl
@[go_sem] theorem av18_size (a : Act18) : (av18 a).size = 18 := by simp [av18]
@[simp high, go_sem high] theorem av18_get0 (a : Act18) : (av18 a)[0]? = some (.int .i64 a.what) := by simp [av18]
@[simp high, go_sem high] theorem av18_get1 (a : Act18) : (av18 a)[1]? = some (.int .i64 a.n) := by simp [av18]
@[simp high, go_sem high] theorem av18_get2 (a : Act18) : (av18 a)[2]? = some (.int .i64 a.row) := by simp [av18]
@[simp high, go_sem high] theorem av18_get3 (a : Act18) : (av18 a)[3]? = some (.int .i64 a.col) := by simp [av18]
@[simp high, go_sem high] theorem av18_get4 (a : Act18) : (av18 a)[4]? = some (.bool a.pend) := by simp [av18]
@[simp high, go_sem high] theorem av18_get5 (a : Act18) : (av18 a)[5]? = some (.int .i64 a.top) := by simp [av18]
@[simp high, go_sem high] theorem av18_get6 (a : Act18) : (av18 a)[6]? = some (.int .i64 a.bot) := by simp [av18]
@[go_sem] theorem av18_set0 (a : Act18) (n : Int) : (av18 a).setIfInBounds 0 (.int .i64 n) = av18 { a with what := n } := by simp [av18]
@[go_sem] theorem av18_set1 (a : Act18) (n : Int) : (av18 a).setIfInBounds 1 (.int .i64 n) = av18 { a with n := n } := by simp [av18]
theorem av18_one (a : Act18) : ∀ v ∈ (av18 a).toList, v.oneCell' = true := by simp [av18, Value.oneCell']
theorem av18_pen {w : World} {b o : Nat} {a : Act18} (h : w.rangeAt b o (av18 a).toList) : penAt w b (o + 7) = some a.q := penAt_of fun j v hv => by
  have := h (7 + j) v (by rw [← hv]; show ((av18 a).toList)[7 + j]? = _; rw [← List.getElem?_drop]; rfl)
  rw [show o + 7 + j = o + (7 + j) by omega]; exact this
/-- What the walk asks of a box that holds a call. -/
theorem Blk.act18 {w : World} {g : Nat} {t : TypeId} {a : Act18} (h : Blk w g t (av18 a)) : (∀ i, w.cell? ⟨g, i, none⟩ = (av18 a)[i]?) ∧ (∀ i, w.frozen? ⟨g, i, none⟩ = false) ∧ g < w.heap.size ∧ Proofs.YtghahanpmcpacaaDoor.recAt w g 0 18 = some (av18 a) ∧ Proofs.YtghahanpmcpacaaDoor.penAt w g 7 = some a.q :=
  ⟨h.cell, h.frozen, h.lt, h.recAt 18 (av18_size a), by have := av18_pen h.range; simpa using this⟩
/-- Whether a call is one that is done. -/
def act18ok (a : Act18) (rows cols : Nat) : Bool := inG a.row a.col a.pend rows cols && a.q.ok && decide (0 ≤ a.n ∧ (a.what = 0 ∨ a.what = 1 ∨ (0 ≤ a.top ∧ a.top ≤ a.bot ∧ a.bot < rows)))
def act18L (a : Act18) (cols : Nat) (L : List Ln) : List Ln :=
  if a.what = 0 then rowMod a.row.toNat (shiftN a.col.toNat cols a.n a.q) L else if a.what = 1 then delC a.row.toNat a.col.toNat cols a.n a.q L else if a.what = 2 then rollIf a.row.toNat a.top a.bot (-a.n) a.q cols L else rollIf a.row.toNat a.top a.bot a.n a.q cols L
theorem act18ok_iff {a : Act18} {rows cols : Nat} : act18ok a rows cols = true ↔ inG a.row a.col a.pend rows cols = true ∧ a.q.ok = true ∧ 0 ≤ a.n ∧ (a.what = 0 ∨ a.what = 1 ∨ (0 ≤ a.top ∧ a.top ≤ a.bot ∧ a.bot < rows)) := by
  unfold act18ok; rw [Bool.and_eq_true, Bool.and_eq_true, decide_eq_true_eq, and_assoc]
theorem rollL_rect {top bot : Nat} {n : Int} {q : Pen} {cols : Nat} {L : List Ln} (hR : Rect cols L) (htb : top ≤ bot) (hbl : bot < L.length) : Rect cols (rollL top bot n q cols L) := fun l hl => by
  obtain ⟨r, hr, rfl⟩ := List.getElem_of_mem hl
  have h1 := rollL_get (n := n) (q := q) (cols := cols) htb hbl r
  rw [List.getElem?_eq_getElem hr] at h1
  have hm : ∀ (o : Option Ln) (p : Prop) [Decidable p] (x : Ln), (∀ y : Ln, o = some y → y.1.length = cols) → some x = o.map (hardIf p) → x.1.length = cols := fun o p _ x ho h => by
    cases o with
    | none => simp at h
    | some y => simp only [Option.map_some, Option.some.injEq] at h; subst h; unfold hardIf; split <;> exact ho y rfl
  have hL : ∀ (i : Nat) (y : Ln), L[i]? = some y → y.1.length = cols := fun i y h => hR y (List.mem_of_getElem? h)
  by_cases hn : n = 0
  · unfold rollAt at h1; rw [if_pos hn] at h1; exact hL r _ h1.symm
  by_cases ho : r < top ∨ bot < r
  · rw [rollAt_out hn ho] at h1; exact hm _ _ _ (hL r) h1
  by_cases hp : 0 < n
  · by_cases h2 : r + rollK n (bot + 1 - top) ≤ bot
    · rw [rollAt_up hp rfl ho h2] at h1; exact hm _ _ _ (hL _) h1
    · rw [rollAt_upf hp rfl ho h2] at h1; simp only [Option.some.injEq] at h1; rw [h1]; simp [freshLn]
  · have hn2 : n < 0 := by omega
    by_cases h2 : r < top + rollK n (bot + 1 - top)
    · rw [rollAt_dnf hn2 rfl ho h2] at h1; simp only [Option.some.injEq] at h1; rw [h1]; simp [freshLn]
    · rw [rollAt_dn hn2 rfl ho h2] at h1; exact hm _ _ _ (hL _) h1
theorem rollIf_rect {y : Nat} {top bot n : Int} {q : Pen} {cols : Nat} {L : List Ln} (hR : Rect cols L) (hb : bot < L.length) : Rect cols (rollIf y top bot n q cols L) ∧ (rollIf y top bot n q cols L).length = L.length := by
  unfold rollIf
  split
  · next h =>
    have h1 : y ≤ bot.toNat := by omega
    have h2 : bot.toNat < L.length := by omega
    exact ⟨rollL_rect hR h1 h2, rollL_length h1 h2⟩
  · exact ⟨hR, rfl⟩
theorem shiftN_rect {y j cols : Nat} {n : Int} {q : Pen} {L : List Ln} (hR : Rect cols L) (hj : j < cols) : Rect cols (rowMod y (shiftN j cols n q) L) := hR.rowMod y fun cs h => shiftN_length h hj
theorem softMod_rect {y cols : Nat} {s : Bool} {L : List Ln} (hR : Rect cols L) : Rect cols (softMod y s L) := by
  unfold softMod
  split
  · next l h => exact rect_set hR (hR l (List.mem_of_getElem? h))
  · exact hR
theorem act18_rect {a : Act18} {cols : Nat} {L : List Ln} (hR : Rect cols L) (ho : act18ok a L.length cols = true) : Rect cols (act18L a cols L) ∧ (act18L a cols L).length = L.length := by
  obtain ⟨h1, h2, h3, h4⟩ := act18ok_iff.1 ho
  have hc := (ingrid_iff.1 h1).2.1
  have hj : a.col.toNat < cols := by omega
  unfold act18L
  by_cases h0 : a.what = 0
  · rw [if_pos h0]; exact ⟨shiftN_rect hR hj, rowMod_length _ _ _⟩
  rw [if_neg h0]
  by_cases h5 : a.what = 1
  · rw [if_pos h5]; unfold delC; split
    · exact ⟨hR, rfl⟩
    · exact ⟨softMod_rect (shiftN_rect hR hj), by rw [softMod_length, rowMod_length]⟩
  rw [if_neg h5]
  have hb : a.bot < L.length := by rcases h4 with h4 | h4 | h4 <;> omega
  split
  · exact rollIf_rect hR hb
  · exact rollIf_rect hR hb
section
variable {w0 w : World} {os : List Ob} {k p cols : Nat} {L : List Ln}
set_option maxHeartbeats 4000000 in
/-- A call that is done. -/
theorem l18call_yes (a : Act18) (hT : Tabs w0) (hS : Objs w0 w os) (hk : os[k]? = some (.grid p 37 cols L)) (hcm : cols ≤ 1000) (hR : Rect cols L) (hLm : L.length ≤ 100000) (ho : act18ok a L.length cols = true) (hn : a.n ≤ 9223372036854775807) :
    Calls Tryd.prog 17 #[.pointer (some ⟨p, 0, none⟩), .agg (av18 a)] w fun e w' => e = .returned (.int .i64 0) ∧ Objs w0 w' (os.set k (.grid p 37 cols (act18L a cols L))) := by
  obtain ⟨what, n, row, col, pend, top, bot, q⟩ := a
  obtain ⟨h1, h2, h3, h4⟩ := act18ok_iff.1 ho
  have hin := ingrid_iff.1 h1
  obtain ⟨y, rfl⟩ : ∃ y : Nat, row = y := ⟨row.toNat, by have := hin.1; simp at this ⊢; omega⟩
  obtain ⟨j, rfl⟩ : ∃ j : Nat, col = j := ⟨col.toNat, by have := hin.2.1; simp at this ⊢; omega⟩
  have HIN := Lib.hid h1
  have HQ := Lib.hid h2
  have HN := Lib.hid (show 0 ≤ n ∧ n ≤ 9223372036854775807 from ⟨h3, hn⟩)
  have H4 := Lib.hid h4
  have S := Lib.hid hS
  have HT := Lib.hid hT
  have HK := Lib.hid hk
  have HR := Lib.hid hR
  clear ho h1 h2 h3 h4 hin hS hT hk hR hn
  by_cases hw0 : what = 0
  · subst hw0
    have HL := Lib.hid (show act18L ⟨0, n, y, j, pend, top, bot, q⟩ cols L = rowMod y (shiftN j cols n q) L by simp [act18L])
    go_enter Tryd.func17, Tryd.ntmps17
    go_upto_region 1 with (fail)
    refine at_objsC S.out.alloc1 (fun W hW => ?_)
    obtain ⟨hx, hf, hz, hr, hp⟩ := (hW.box (k := 0) rfl).act18
    have SW := Lib.hid hW
    clear hW
    go_wp2_with fail
    refine (edInsertCells_yes q HT.out SW.out (k := k + 1) HK.out hcm hLm HR.out HIN.out HQ.out HN.out).mono ?_
    rintro e w1 ⟨rfl, hS⟩
    have S1 := Lib.hid hS
    clear hS hx hf hz hr hp
    go_wp2_with fail
    go_ret
    exact ⟨rfl, by rw [HL.out]; exact S1.out.tail⟩
  have hb0 := beq_no hw0
  by_cases hw1 : what = 1
  · subst hw1
    have HL := Lib.hid (show act18L ⟨1, n, y, j, pend, top, bot, q⟩ cols L = delC y j cols n q L by simp [act18L])
    clear hw0
    go_enter Tryd.func17, Tryd.ntmps17
    go_upto_region 1 with (fail)
    refine at_objsC S.out.alloc1 (fun W hW => ?_)
    obtain ⟨hx, hf, hz, hr, hp⟩ := (hW.box (k := 0) rfl).act18
    have SW := Lib.hid hW
    clear hW
    go_wp2_with fail
    refine (edDeleteCells_yes q HT.out SW.out (k := k + 1) HK.out hcm hLm HR.out HIN.out HQ.out HN.out).mono ?_
    rintro e w1 ⟨rfl, hS⟩
    have S1 := Lib.hid hS
    clear hS hx hf hz hr hp
    go_wp2_with fail
    go_ret
    exact ⟨rfl, by rw [HL.out]; exact S1.out.tail⟩
  have hb1 := beq_no hw1
  by_cases hw2 : what = 2
  · subst hw2
    have HL := Lib.hid (show act18L ⟨2, n, y, j, pend, top, bot, q⟩ cols L = rollIf y top bot (-n) q cols L by simp [act18L])
    have HG := Lib.hid (show 0 ≤ top ∧ top ≤ bot ∧ bot < L.length by rcases H4.out with h | h | h <;> simp at h <;> first | exact h | omega)
    clear hw0 hw1
    go_enter Tryd.func17, Tryd.ntmps17
    go_upto_region 1 with (fail)
    refine at_objsC S.out.alloc1 (fun W hW => ?_)
    obtain ⟨hx, hf, hz, hr, hp⟩ := (hW.box (k := 0) rfl).act18
    have SW := Lib.hid hW
    clear hW
    go_wp2_with fail
    refine (edInsertLines_yes q HT.out SW.out (k := k + 1) HK.out hcm hLm HR.out HIN.out HG.out HQ.out HN.out).mono ?_
    rintro e w1 ⟨rfl, hS⟩
    have S1 := Lib.hid hS
    clear hS hx hf hz hr hp
    go_wp2_with fail
    go_ret
    exact ⟨rfl, by rw [HL.out]; exact S1.out.tail⟩
  have hb2 := beq_no hw2
  have HL := Lib.hid (show act18L ⟨what, n, y, j, pend, top, bot, q⟩ cols L = rollIf y top bot n q cols L by simp [act18L, hw0, hw1, hw2])
  have HG := Lib.hid (show 0 ≤ top ∧ top ≤ bot ∧ bot < L.length by rcases H4.out with h | h | h <;> simp at h <;> first | exact h | omega)
  clear hw0 hw1 hw2
  go_enter Tryd.func17, Tryd.ntmps17
  go_upto_region 1 with (fail)
  refine at_objsC S.out.alloc1 (fun W hW => ?_)
  obtain ⟨hx, hf, hz, hr, hp⟩ := (hW.box (k := 0) rfl).act18
  have SW := Lib.hid hW
  clear hW
  go_wp2_with fail
  refine (edDeleteLines_yes q HT.out SW.out (k := k + 1) HK.out hcm hLm HR.out HIN.out HG.out HQ.out HN.out).mono ?_
  rintro e w1 ⟨rfl, hS⟩
  have S1 := Lib.hid hS
  clear hS hx hf hz hr hp
  go_wp2_with fail
  go_ret
  exact ⟨rfl, by rw [HL.out]; exact S1.out.tail⟩
end
end Go.Proofs.YtghahanpmcpacaaDoor
