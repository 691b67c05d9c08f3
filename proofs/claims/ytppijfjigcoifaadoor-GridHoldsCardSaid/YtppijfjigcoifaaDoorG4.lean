/-
  Part 4 of the texts on which the proofs of this seat stand: each part says ahead of it what it shows.
-/
import Derived.Test.YtppijfjigcoifaaDoorG3
import Derived.Deep.DeepAppendRoom
import Derived.Laws.OwnMore
set_option linter.unusedSimpArgs false
set_option linter.unusedVariables false
namespace Go.Proofs.YtppijfjigcoifaaDoor
open Go.RowKit

section
variable {w0 w : World} {os : List Ob} {p cols : Nat} {L : List Ln}
set_option maxRecDepth 100000 in
set_option maxHeartbeats 8000000 in
theorem Roll_neg {top bot k : Nat} {n : Int} (q : Pen) (hT : Tabs w0) (hS : Objs w0 w (.grid p 58 cols L :: os)) (hc : 0 < cols) (hcm : cols ≤ 1000) (hL : L.length ≤ 100000) (htb : top ≤ bot) (hbl : bot < L.length) (hq : q.ok = true) (hn : n < 0) (hk : (-((bot + 1 - top : Nat) : Int) < n ∧ n = -(k : Int)) ∨ ((n ≤ -((bot + 1 - top : Nat) : Int) ∧ -9223372036854775808 ≤ n) ∧ k = bot + 1 - top)) :
  Calls Tryd.prog 50 #[.pointer (some ⟨p, 0, none⟩), .agg #[.int .i64 top, .int .i64 bot], .int .i64 n, .agg (pv q)] w fun e w' => ∃ A m c, e = .returned (.tuple #[.slice A m c, .int .i64 0]) ∧ Objs w0 w' (.lines (.slice A m c) (rollGone top bot n L) :: .grid p 58 cols (rollL top bot n q cols L) :: os) := by
 have S := Lib.hid hS
 have HT := Lib.hid hT
 have HQ := Lib.hid hq
 have HK := Lib.hid hk
 obtain ⟨many, hmany⟩ : ∃ many, many = bot + 1 - top := ⟨_, rfl⟩
 have HMANY := Lib.hid hmany
 have hb0 := beq_no (show ¬ n = 0 by omega)
 have d1 : decide ((top : Int) < 0) = false := by simp
 have d2 : decide ((bot : Int) < top) = false := by simp; omega
 have d2n : decide (bot < top) = false := by simp; omega
 have d3 : decide ((L.length : Int) ≤ bot) = false := by simp; omega
 have d3n : decide (L.length ≤ bot) = false := by simp; omega
 clear hS hT hq hk hmany
 go_enter Tryd.func50, Tryd.ntmps50
 go_wp2_with fail
 refine (none_no S.out.alloc2 (k := 2) rfl hc).mono ?_
 rintro e w1 ⟨rfl, hS⟩
 generalize w.heap.size + 1 = b7 at hS ⊢
 generalize w.heap.size = b5 at hS ⊢
 obtain ⟨v, hS1⟩ := hS.openGrid (k := 2) rfl
 obtain ⟨T, hTL, hone, hS2⟩ := hS1.toHeads (k := 0) rfl
 obtain ⟨A, c, rfl, hlc, hcmx, -, hgr⟩ := hS2.headsForm (k := 1) rfl
 have hTl : (hdP T).length = L.length := by rw [hdP_length, ← hTL, lnP_length]
 rw [hTl] at hS2 hlc hgr
 obtain ⟨gr, rfl, hgz, -, -⟩ := hgr (by omega)
 have S2 := Lib.hid hS2
 obtain ⟨hx5, hf5, hz5⟩ := (hS2.box (k := 3) rfl).facts
 obtain ⟨hxp, hfp, hzp⟩ := (hS2.box (k := 4) rfl).facts
 have HTL := Lib.hid hTL
 have HTl := Lib.hid hTl
 have HONE := Lib.hid hone
 clear hS hS1 hS2 S hTL hTl hone hgr hgz
 go_wp2_with fail
 refine wp_region_below (by kernel_rfl) (by kernel_rfl) ?_
 repeat (go_big_quiet_step (fail))
 refine wpQuiet_nil ?_
 intro w2 hb2
 have S3 := Lib.hid (S2.out.bel hb2)
 clear hx5 hf5 hz5 hxp hfp hzp S2 hb2
 have hp7 := (S3.out.box (k := 2) rfl).penAt
 have hz7 := (S3.out.box (k := 2) rfl).lt
 go_wp2_with fail
 refine (inked_is HQ.out HT.out S3.out).mono ?_
 rintro e w3 ⟨rfl, hS⟩
 have S4 := Lib.hid hS
 obtain ⟨hx5, hf5, hz5⟩ := (hS.box (k := 3) rfl).facts
 obtain ⟨hxp, hfp, hzp⟩ := (hS.box (k := 4) rfl).facts
 clear hS S3 hp7 hz7
 go_wp2_with fail
 refine wp_region_below (by kernel_rfl) (by kernel_rfl) ?_
 repeat (go_big_quiet_step (fail))
 refine wpQuiet_nil ?_
 intro w4 hb4
 have S5 := Lib.hid (show Objs w0 w4 (.pile (piP T) :: .heads (.slice (some ⟨gr, 0, none⟩) L.length c) (hdP T) :: .box b7 54 (pv q) :: .box b5 106 #[.int .i64 top, .int .i64 bot] :: .box p 58 #[.int .i64 cols, .slice (some ⟨gr, 0, none⟩) L.length c] :: os) from S4.out.bel hb4)
 clear hx5 hf5 hz5 hxp hfp hzp S4 hb4
 rw [← HMANY.out]
 have hmb : many ≤ 100000 := by have := HMANY.out; omega
 have hm1 : 0 < many := by have := HMANY.out; omega
 have htm : top + many ≤ L.length := by have := HMANY.out; omega
 have hkm : k ≤ many := by have := HK.out; have := HMANY.out; omega
 have hk0 : 0 < k := by have := HK.out; have := HMANY.out; omega
 have hctop : many ≤ c - top := by omega
 have HK2 := HK.out
 rw [← HMANY.out] at HK2
 have HKK := Lib.hid (rollK_is (n := n) (k := k) HMANY.out (by rcases HK2 with ⟨a1, a2⟩ | ⟨⟨a1, a3⟩, a2⟩ <;> omega))
 have HPERM := Lib.hid (perm_neg (T := T) (top := top) hkm)
 have HGONE := Lib.hid (gone_neg HTL.out hn HMANY.out HKK.out hkm)
 have HLEFT := Lib.hid (fun (F : List Tr) (hF : lnP F = rollFresh k cols q) => left_neg HTL.out hn HMANY.out htb HKK.out hkm hF)
 have hTn : T.length = L.length := by have := HTl.out; rwa [hdP_length] at this
 obtain ⟨G, hG⟩ : ∃ G, G = (T.drop (top + (many - k))).take k := ⟨_, rfl⟩
 obtain ⟨X1, hX1⟩ : ∃ X1, X1 = T.take top := ⟨_, rfl⟩
 obtain ⟨Sx, hSx⟩ : ∃ Sx, Sx = (T.drop top).take (many - k) := ⟨_, rfl⟩
 obtain ⟨T3, hT3⟩ : ∃ T3, T3 = T.drop (top + many) := ⟨_, rfl⟩
 obtain ⟨R, hR⟩ : ∃ R, R = (T.drop top).take k ++ (hardR Sx ++ T3) := ⟨_, rfl⟩
 obtain ⟨T1, hT1⟩ : ∃ T1, T1 = T.take (top + k) := ⟨_, rfl⟩
 obtain ⟨a0, ha0⟩ : ∃ a0, a0 = top := ⟨_, rfl⟩
 have hT1l : T1.length = top + k := by rw [hT1]; simp; omega
 have hSxl : Sx.length = many - k := by rw [hSx]; simp; omega
 have hRl0 : ((T.drop top).take k).length = k := by simp; omega
 have hRll : R.length = L.length - a0 := by rw [hR, ha0]; simp only [List.length_append, hRl0, hardR_length, hSxl, hT3, List.length_drop]; omega
 have hRd : R.drop k = hardR Sx ++ T3 := by rw [hR]; exact List.drop_left' hRl0
 have hXR : hdP X1 ++ hdP R = hdP T1 ++ (hdP (hardR Sx) ++ hdP T3) := by
  rw [hR, hX1, hT1, List.take_add, hdP_append, hdP_append, hdP_append, List.append_assoc]
 have HX1 := Lib.hid (show X1.length = a0 by rw [hX1, ha0]; simp; omega)
 have HRL := Lib.hid hRll
 have hRk : k ≤ R.length := by omega
 rw [← hX1, ← hSx, ← hT3, ← hG, ← hRd] at HPERM
 rw [← hX1, ← hSx, ← hT3, ← hRd] at HLEFT
 rw [← hG] at HGONE
 have HG := Lib.hid hG.symm
 have HCP := Lib.hid (hdP_copied T (top + k) top (many - k))
 rw [show top + k + (many - k) = top + many by omega, ← hT1, ← hSx, ← hT3] at HCP
 have HXR := Lib.hid hXR
 have HA0 := Lib.hid ha0
 have HSXL := Lib.hid hSxl
 have HT1L := Lib.hid hT1l
 have HPB := Lib.hid (show many = k → (hdP T).take top ++ (((hdP T).drop top).take 0 ++ (hdP T).drop (top + 0)) = hdP X1 ++ hdP R from fun e => by
  have hS0 : Sx = [] := List.eq_nil_of_length_eq_zero (by omega)
  rw [hR, hX1, hS0, hdP_append, hdP_take, hdP_drop, hT3, e]
  show hdP (T.take top) ++ ([] ++ (hdP T).drop (top + 0)) = hdP (T.take top) ++ (hdP ((T.drop top).take k) ++ hdP ([] ++ T.drop (top + k)))
  rw [List.nil_append, List.nil_append, ← hdP_append, show T.drop (top + k) = (T.drop top).drop k by rw [List.drop_drop], List.take_append_drop, Nat.add_zero, hdP_drop])
 clear hG hX1 hSx hT3 hR hT1 hTn hT1l hSxl hRll hRd hXR hRl0
 rcases HK2 with ⟨h1, h2⟩ | ⟨⟨h1, h3⟩, h2⟩
 ·subst h2
  have hmax : max (-(k : Int)) (k : Int) = (k : Int) := by omega
  have hnm : (-(k : Int)) < (many : Int) := by omega
  have hngt : ¬ (0 : Int) < -(k : Int) := by omega
  have hkl : k < many := by omega
  have HMK := Lib.hid (show many - (many - k) = k from Nat.sub_sub_self hkm)
  have HOF := Lib.hid (show top * 2 + (many - k) * 2 = (top + (many - k)) * 2 by rw [Nat.add_mul])
  clear ha0
  go_wp2_with fail
  simp only [HMK.out, HOF.out]
  refine (clone_front S5.out.swap HONE.out (a := top + (many - k)) (m := k) (by rw [HTl.out]; omega) (by omega) (by rw [HTl.out]; omega)).mono ?_
  rintro e w5 ⟨Ag, cg, rfl, hS⟩
  obtain ⟨w6, hr6, hS6⟩ := run_copyH hS (k := 1) rfl HONE.out (top + k) top (many - k) (some ⟨gr, top * 2 + k * 2, none⟩) (some ⟨gr, top * 2, none⟩) (many - k) (c - top - k) many (c - top) (Nat.min_eq_right (by omega)) (by rw [HTl.out]; omega) (by rw [HTl.out]; omega) (fun _ => ⟨by rw [Nat.add_mul], rfl⟩) 3
  have HR6 := Lib.hid hr6
  rw [show top + k + (many - k) = top + many by omega, HCP.out, hdP_drop, hdP_take, HG.out] at hS6
  have hS6' := (show Objs w0 w6 (.heads (.slice Ag k cg) (hdP G) :: .heads (.slice (some ⟨gr, 0, none⟩) L.length c) (hdP T1 ++ (hdP Sx ++ hdP T3)) :: .pile (piP T) :: .box b7 54 (pv q) :: .box b5 106 #[.int .i64 top, .int .i64 bot] :: .box p 58 #[.int .i64 cols, .slice (some ⟨gr, 0, none⟩) L.length c] :: os) from hS6)
  have hSl := HSXL.out
  have hTl2 := HT1L.out
  obtain ⟨xs, hxs⟩ := get_of (show Sx.length - 1 < Sx.length by omega)
  have hid : top + (many - 1) = T1.length + (Sx.length - 1) := by omega
  have hxh : (hdP T1 ++ (hdP Sx ++ hdP T3))[top + (many - 1)]? = some (xs.1, xs.2.2) := by
   rw [hid, List.getElem?_append_right (by rw [hdP_length]; omega), hdP_length, Nat.add_sub_cancel_left, List.getElem?_append_left (by rw [hdP_length]; omega)]
   simp [hdP, hxs]
  have hS7 := hS6'.softHead (k := 1) (s := false) rfl hxh
  rw [hid, hdP_harden hxs, ← HXR.out, ← hid] at hS7
  obtain ⟨A8, c8, e8, -, -, -, hg8⟩ := hS6'.headsForm (k := 1) rfl
  simp only [Value.slice.injEq] at e8
  obtain ⟨rfl, -, rfl⟩ := e8
  obtain ⟨g8, e9, hz8, hcs8, hf8⟩ := hg8 (by simp only [List.length_append, hdP_length]; omega)
  cases e9
  have hx8 := (hcs8 _ _ hxh).2
  have hadr : (top + (many - 1)) * 2 + 1 = top * 2 + (many - 1) * 2 + 1 := by omega
  rw [hadr] at hx8 hS7
  have S7 := Lib.hid (ord7 hS7)
  have HAO := HA0.out
  clear hS hr6 hS6 hS6' S5 hS7 hxh hid hcs8 hg8 hadr hSl hTl2 hxs
  go_wp2_with (refine wpList_copyK rfl _ _ 30 30 rfl rfl rfl HR6.out ?_)
  clear hx8 hf8 hz8 hmax hnm hngt
  go_loopw [14, 127] (fun _ vi wr => ∃ (d : Nat) (F : List Tr), d ≤ k ∧ vi = .int .i64 d ∧ (F.length = d ∧ lnP F = rollFresh d cols q) ∧ Objs w0 wr (.heads (.slice (some ⟨gr, 0, none⟩) L.length c) (hdP X1 ++ (hdP F ++ hdP (R.drop d))) :: .box b7 54 (pv q) :: .box p 58 #[.int .i64 ↑cols, .slice (some ⟨gr, 0, none⟩) L.length c] :: .heads (.slice Ag k cg) (hdP G) :: .pile (piP T ++ piP F) :: .box b5 106 #[.int .i64 ↑top, .int .i64 ↑bot] :: os)) (fun _ vi _ => k - (intOf vi).toNat)
  case atStart => exact ⟨0, [], by omega, rfl, ⟨rfl, rfl⟩, by simpa [hdP, piP] using S7.out⟩
  case round =>
   obtain ⟨d, F, hik, rfl, hFF, hS⟩ := hrel
   have HF := Lib.hid hFF
   have S8 := Lib.hid hS
   clear hFF hS S7
   by_cases hlt : d < k
   case neg =>
    have hie : d = k := by omega
    have hX := S8.out
    have hFk := HF.out.2
    rw [hie] at hX hFk
    have hX2 := hX.dealIn HPERM.out
    have HLF := Lib.hid (HLEFT.out F hFk)
    obtain ⟨L1, hL1⟩ : ∃ L1, L1 = lnP X1 ++ (lnP F ++ lnP (R.drop k)) := ⟨_, rfl⟩
    rw [← hL1] at hX2 HLF
    have hL1l : L1.length = L.length := by rw [hL1]; simp only [List.length_append, lnP_length, List.length_drop]; have := HX1.out; have := HF.out.1; have := HRL.out; omega
    have SX := Lib.hid hX2
    obtain ⟨hx5, hf5, hz5⟩ := (hX2.box (k := 4) rfl).facts
    clear hie hX hX2 hFk hL1 S8
    by_cases ht0 : top = 0
    ·have HT0 := Lib.hid (show topHard top L1 = L1 by unfold topHard; rw [if_neg (by omega)])
     have htg : ¬ (0 : Int) < (top : Int) := by omega
     have SF := Lib.hid (fin_roll SX.out)
     clear ht0
     go_wp2_with fail
     go_ret2
     exact ⟨Ag, k, cg, rfl, by rw [← HGONE.out, ← HLF.out, HT0.out]; exact SF.out⟩
    ·have htg : (0 : Int) < (top : Int) := by omega
     obtain ⟨l9, hlt1⟩ := get_of (show top - 1 < L1.length by omega)
     have HT0 := Lib.hid (show L1.set (top - 1) (l9.1, false) = topHard top L1 by unfold topHard; rw [if_pos (by omega), softMod_some hlt1])
     have HWT := Lib.hid (show IntKind.i64.wrap ((top : Int) - 1) = (top : Int) - 1 from IntWalk.i64_in _ (by omega))
     have htz : (0 : Int) ≤ (top : Int) - 1 := by omega
     have htz2 : (top : Int) - 1 < (L.length : Int) := by omega
     have htz3 : ¬ (top : Int) < 1 := by omega
     have htn : ((top : Int) - 1).toNat = top - 1 := by omega
     have SY := Lib.hid (ord_roll SX.out)
     go_upto_region 31 with (fail)
     refine wp_region_stage (w0 := w0) (os := (.lines (.slice Ag k cg) (lnP G) :: .box b7 54 (pv q) :: os)) (by kernel_rfl) (by kernel_rfl) (by kernel_rfl) [(0, 9, [], fun vs => .lines (.slice (some ⟨gr, 0, none⟩) L.length c) (L1.set (top - 1) (l9.1, false)))] [[], [], [], [1], [], [2], [], [], [], [0]] [.lines (.slice (some ⟨gr, 0, none⟩) L.length c) L1, .box p 58 #[.int .i64 ↑cols, .slice (some ⟨gr, 0, none⟩) L.length c], .box b5 106 #[.int .i64 ↑top, .int .i64 ↑bot]] (fun i u => match i with | 0 => u = .pointer (some ⟨p, 0, none⟩) | 1 => u = .pointer (some ⟨p, 0, none⟩) | 2 => u = .pointer (some ⟨p, 1, none⟩) | 3 => u = .slice (some ⟨gr, 0, none⟩) L.length c | 4 => u = .pointer (some ⟨b5, 0, none⟩) | 5 => u = .int .i64 ↑top | 6 => u = .int .i64 (↑top - 1) | 7 => u = .pointer (some ⟨gr, (top - 1) * 2, none⟩) | 8 => u = .pointer (some ⟨gr, (top - 1) * 2 + 1, none⟩) | 9 => True | _ => True) (fun vs => [.lines (.slice (some ⟨gr, 0, none⟩) L.length c) (L1.set (top - 1) (l9.1, false)), .box p 58 #[.int .i64 ↑cols, .slice (some ⟨gr, 0, none⟩) L.length c], .box b5 106 #[.int .i64 ↑top, .int .i64 ↑bot]]) (by kernel_rfl) (fun vs => by rfl) SY.out ?_ ?_
     ·apply sc
      ·intro a w' vs σ hS hl hs hk
       have f0 : a.tmps[0]?.getD undef = .pointer (some ⟨p, 0, none⟩) := sof hk
       exact rp (pt p 0) (by simp [execOp, Act.eval, f0, go_sem]) hl hs hS
      apply sc
      ·intro a w' vs σ hS hl hs hk
       have f143 : a.tmps[143]?.getD undef = .pointer (some ⟨p, 0, none⟩) := svf hk 0
       exact rp (pt p 0) (by simp [execOp, Act.eval, f143, go_sem]) hl hs hS
      apply sc
      ·intro a w' vs σ hS hl hs hk
       have f144 : a.tmps[144]?.getD undef = .pointer (some ⟨p, 0, none⟩) := svf hk 1
       exact rp (pt p 1) (by simp [execOp, Act.eval, f144, go_sem]) hl hs hS
      apply sc
      ·intro a w' vs σ hS hl hs hk
       have f145 : a.tmps[145]?.getD undef = .pointer (some ⟨p, 1, none⟩) := svf hk 2
       have hx := (hS.box (sg (hs 1 (by decide)))).cell
       exact rp (.slice (some ⟨gr, 0, none⟩) L.length c) (by simp [execOp, Act.eval, f145, go_sem, hx]) hl hs hS
      apply sc
      ·intro a w' vs σ hS hl hs hk
       have f5 : a.tmps[5]?.getD undef = .pointer (some ⟨b5, 0, none⟩) := sof hk
       exact rp (pt b5 0) (by simp [execOp, Act.eval, f5, go_sem]) hl hs hS
      apply sc
      ·intro a w' vs σ hS hl hs hk
       have f147 : a.tmps[147]?.getD undef = .pointer (some ⟨b5, 0, none⟩) := svf hk 4
       have hx := (hS.box (sg (hs 2 (by decide)))).cell
       exact rp (.int .i64 ↑top) (by simp [execOp, Act.eval, f147, go_sem, hx]) hl hs hS
      apply sc
      ·intro a w' vs σ hS hl hs hk
       have f148 : a.tmps[148]?.getD undef = .int .i64 ↑top := svf hk 5
       exact rp (.int .i64 (↑top - 1)) (by simp [execOp, Act.eval, f148, go_sem, HWT.out]) hl hs hS
      apply sc
      ·intro a w' vs σ hS hl hs hk
       have f146 : a.tmps[146]?.getD undef = .slice (some ⟨gr, 0, none⟩) L.length c := svf hk 3
       have f149 : a.tmps[149]?.getD undef = .int .i64 (↑top - 1) := svf hk 6
       exact rp (pt gr ((top - 1) * 2)) (by simp [execOp, Act.eval, f146, f149, go_sem, htz, htz2, htn, htz3]) hl hs hS
      apply sc
      ·intro a w' vs σ hS hl hs hk
       have f150 : a.tmps[150]?.getD undef = .pointer (some ⟨gr, (top - 1) * 2, none⟩) := svf hk 7
       exact rp (pt gr ((top - 1) * 2 + 1)) (by simp [execOp, Act.eval, f150, go_sem]) hl hs hS
      apply sc
      ·intro a w' vs σ hS hl hs hk
       have f151 : a.tmps[151]?.getD undef = .pointer (some ⟨gr, (top - 1) * 2 + 1, none⟩) := svf hk 8
       have h1 : σ[0]? = some (.lines (.slice (some ⟨gr, 0, none⟩) L.length c) L1) := hs 0 (by decide)
       obtain ⟨F9, bs9, hF9, -⟩ := hS.get (sg h1)
       obtain ⟨A9, c9, e9, -, -, -, hg9⟩ := hF9.form
       simp only [Value.slice.injEq] at e9
       obtain ⟨rfl, -, rfl⟩ := e9
       obtain ⟨g9, e9', hz, -, hso, hf⟩ := hg9 (by omega)
       cases e9'
       have hx := hso _ _ hlt1
       exact rstep_store (w2 := w'.setCell ⟨gr, (top - 1) * 2 + 1, none⟩ (.bool false)) (wanted_none rfl) rfl (by simp [execOp, Act.eval, f151, hx, hf, hz, go_sem]) (sp_set 0 (.lines (.slice (some ⟨gr, 0, none⟩) L.length c) (L1.set (top - 1) (l9.1, false))) (by kernel_rfl) (by simp) (by decide) hl hs (by rfl) (hS.storeSoft (sg h1) hlt1) trivial) trivial
      exact SSteps.nil
     ·intro vs w' hS hv
      have q0 : vs 0 = _ := hv 0 (by decide)
      have q1 : vs 1 = _ := hv 1 (by decide)
      have q2 : vs 2 = _ := hv 2 (by decide)
      have q3 : vs 3 = _ := hv 3 (by decide)
      have q4 : vs 4 = _ := hv 4 (by decide)
      have q5 : vs 5 = _ := hv 5 (by decide)
      have q6 : vs 6 = _ := hv 6 (by decide)
      have q7 : vs 7 = _ := hv 7 (by decide)
      have q8 : vs 8 = _ := hv 8 (by decide)
      have S2 := Lib.hid hS
      simp only [putL, Act.put, Nat.zero_add, Nat.reduceAdd, List.setIfInBounds_toArray, List.set_cons_succ, List.set_cons_zero, q0, q1, q2, q3, q4, q5, q6, q7, q8]
      clear hS hv q0 q1 q2 q3 q4 q5 q6 q7 q8
      have S9 := S2.out
      rw [HT0.out] at S9
      have SF := Lib.hid (fin_roll2 S9)
      clear S9 S2
      go_wp2_with fail
      go_ret2
      exact ⟨Ag, k, cg, rfl, by rw [← HGONE.out, ← HLF.out]; exact SF.out⟩
   have hiR : d < R.length := by omega
   have hiz : (0 : Int) ≤ (d : Int) := by omega
   have hiz2 : (d : Int) < (k : Int) := by omega
   have hoff : top * 2 + d * 2 = (a0 + d) * 2 := by omega
   have HHL := Lib.hid (show (hdP X1 ++ (hdP F ++ hdP (R.drop d))).length = a0 + (d + (R.length - d)) by simp only [List.length_append, hdP_length, List.length_drop, HX1.out, HF.out.1])
   have SZ := Lib.hid S8.out.pad
   clear S8
   go_upto_region 28 with (fail)
   refine wp_region_stage (w0 := w0) (os := (.heads (.slice Ag k cg) (hdP G) :: .pile (piP T ++ piP F) :: .box b5 106 #[.int .i64 ↑top, .int .i64 ↑bot] :: os)) (by kernel_rfl) (by kernel_rfl) (by kernel_rfl) [(0, 7, [7], fun vs => .cells (lineV (vs 7)) (List.replicate cols (blank q))), (1, 9, [7], fun vs => .heads (.slice (some ⟨gr, 0, none⟩) L.length c) (List.set (hdP X1 ++ (hdP F ++ hdP (R.drop d))) (a0 + d) (lineV (vs 7), false)))] [[], [], [], [], [], [3], [2], [0], [], [1]] [.none, .heads (.slice (some ⟨gr, 0, none⟩) L.length c) (hdP X1 ++ (hdP F ++ hdP (R.drop d))), .box b7 54 (pv q), .box p 58 #[.int .i64 ↑cols, .slice (some ⟨gr, 0, none⟩) L.length c]] (fun i u => match i with | 0 => u = .slice (some ⟨gr, top * 2, none⟩) k (c - top) | 1 => u = .int .i64 ↑d | 2 => u = .pointer (some ⟨p, 0, none⟩) | 3 => u = .pointer (some ⟨p, 0, none⟩) | 4 => u = .pointer (some ⟨p, 0, none⟩) | 5 => u = .int .i64 ↑cols | 6 => u = .agg (pv q) | 7 => ∃ A m c, u = .agg #[.slice A m c, .bool false] | 8 => u = .pointer (some ⟨gr, (a0 + d) * 2, none⟩) | 9 => True | _ => True) (fun vs => [.cells (lineV (vs 7)) (List.replicate cols (blank q)), .heads (.slice (some ⟨gr, 0, none⟩) L.length c) (List.set (hdP X1 ++ (hdP F ++ hdP (R.drop d))) (a0 + d) (lineV (vs 7), false)), .box b7 54 (pv q), .box p 58 #[.int .i64 ↑cols, .slice (some ⟨gr, 0, none⟩) L.length c]]) (by kernel_rfl) (fun vs => by rfl) SZ.out ?_ ?_
   ·apply sc
    ·intro a w' vs σ hS hl hs hk
     have f13 : a.tmps[13]?.getD undef = .slice (some ⟨gr, top * 2, none⟩) k (c - top) := sof hk
     exact rp (.slice (some ⟨gr, top * 2, none⟩) k (c - top)) (by simp [execOp, Act.eval, f13, go_sem]) hl hs hS
    apply sc
    ·intro a w' vs σ hS hl hs hk
     have f14 : a.tmps[14]?.getD undef = .int .i64 ↑d := sof hk
     exact rp (.int .i64 ↑d) (by simp [execOp, Act.eval, f14, go_sem]) hl hs hS
    apply sc
    ·intro a w' vs σ hS hl hs hk
     have f0 : a.tmps[0]?.getD undef = .pointer (some ⟨p, 0, none⟩) := sof hk
     exact rp (pt p 0) (by simp [execOp, Act.eval, f0, go_sem]) hl hs hS
    apply sc
    ·intro a w' vs σ hS hl hs hk
     have f132 : a.tmps[132]?.getD undef = .pointer (some ⟨p, 0, none⟩) := svf hk 2
     exact rp (pt p 0) (by simp [execOp, Act.eval, f132, go_sem]) hl hs hS
    apply sc
    ·intro a w' vs σ hS hl hs hk
     have f133 : a.tmps[133]?.getD undef = .pointer (some ⟨p, 0, none⟩) := svf hk 3
     exact rp (pt p 0) (by simp [execOp, Act.eval, f133, go_sem]) hl hs hS
    apply sc
    ·intro a w' vs σ hS hl hs hk
     have f134 : a.tmps[134]?.getD undef = .pointer (some ⟨p, 0, none⟩) := svf hk 4
     have hx := (hS.box (sg (hs 3 (by decide)))).cell
     exact rp (.int .i64 ↑cols) (by simp [execOp, Act.eval, f134, go_sem, hx]) hl hs hS
    apply sc
    ·intro a w' vs σ hS hl hs hk
     have f7 : a.tmps[7]?.getD undef = .pointer (some ⟨b7, 0, none⟩) := sof hk
     have hx := (hS.box (sg (hs 2 (by decide)))).penAt
     exact rp (.agg (pv q)) (by simp [execOp, Act.eval, f7, go_sem, hx]) hl hs hS
    apply sc
    ·intro a w' vs σ hS hl hs hk
     have e135 : a.tmps.getD 135 undef = .int .i64 ↑cols := svv hk 5
     have e136 : a.tmps.getD 136 undef = .agg (pv q) := svv hk 6
     have h0 : σ[0]? = some .none := hs 0 (by decide)
     exact ro_call (f := 54) (wanted_none rfl) rfl (by simp only [List.map_toArray, List.map_cons, List.map_nil, Act.eval, e135, e136] <;> rfl) (fun _ _ => by kernel_rfl) ((gridblanks_any cols hcm q _ _ _ hS).mono fun e w2 ⟨x, h1, h2⟩ => ⟨_, h1, sp_set 0 (.cells x (List.replicate cols (blank q))) (by kernel_rfl) (by simp) (by decide) hl hs (by rfl) (h2.place (sg h0)) (by obtain ⟨A', c', e, -⟩ := h2.cellsRd (k := 0) rfl; exact ⟨A', _, c', by rw [e]⟩), trivial⟩)
    apply sc
    ·intro a w' vs σ hS hl hs hk
     have f130 : a.tmps[130]?.getD undef = .slice (some ⟨gr, top * 2, none⟩) k (c - top) := svf hk 0
     have f131 : a.tmps[131]?.getD undef = .int .i64 ↑d := svf hk 1
     exact rp (pt gr ((a0 + d) * 2)) (by simp [execOp, Act.eval, f130, f131, go_sem, hiz, hiz2, hoff]) hl hs hS
    apply sc
    ·intro a w' vs σ hS hl hs hk
     have f138 : a.tmps[138]?.getD undef = .pointer (some ⟨gr, (a0 + d) * 2, none⟩) := svf hk 8
     have e137 : a.tmps.getD 137 undef = vs 7 := sk_val hk 7 (by kernel_rfl) rfl rfl
     have p137 : (fun u : Value => ∃ A m c, u = .agg #[.slice A m c, .bool false]) (vs 7) := (hk.1 7 (by kernel_rfl)).1
     have f137 := gd e137
     obtain ⟨A7, n7, c7, q7⟩ := p137
     have h1 : σ[1]? = some (.heads (.slice (some ⟨gr, 0, none⟩) L.length c) (hdP X1 ++ (hdP F ++ hdP (R.drop d)))) := hs 1 (by decide)
     obtain ⟨A8, c8, e8, -, -, -, hg8⟩ := hS.headsForm (sg h1)
     simp only [Value.slice.injEq] at e8
     obtain ⟨rfl, -, rfl⟩ := e8
     have hHl := HHL.out
     obtain ⟨g8, e9, hz, hcs, hf⟩ := hg8 (by omega)
     cases e9
     obtain ⟨x8, hx8⟩ := get_of (show a0 + d < (hdP X1 ++ (hdP F ++ hdP (R.drop d))).length by omega)
     obtain ⟨hx, hx'⟩ := hcs (a0 + d) x8 hx8
     exact rstep_store (w2 := (w'.setCell ⟨gr, (a0 + d) * 2, none⟩ (.slice A7 n7 c7)).setCell ⟨gr, (a0 + d) * 2 + 1, none⟩ (.bool false)) (wanted_none rfl) rfl (by simp [execOp, Act.eval, f138, e137, f137, q7, hx, hx', hf, hz, go_sem]) (sp_set 1 (.heads (.slice (some ⟨gr, 0, none⟩) L.length c) (List.set (hdP X1 ++ (hdP F ++ hdP (R.drop d))) (a0 + d) (.slice A7 n7 c7, false))) (by kernel_rfl) (by simp) (by decide) hl hs (by show Ob.heads _ (List.set _ _ (lineV (vs 7), false)) = _; rw [q7]; rfl) (hS.storeHead (sg h1)) trivial) trivial
    exact SSteps.nil
   ·intro vs w' hS hv
    have q0 : vs 0 = _ := hv 0 (by decide)
    have q1 : vs 1 = _ := hv 1 (by decide)
    have q2 : vs 2 = _ := hv 2 (by decide)
    have q3 : vs 3 = _ := hv 3 (by decide)
    have q4 : vs 4 = _ := hv 4 (by decide)
    have q5 : vs 5 = _ := hv 5 (by decide)
    have q6 : vs 6 = _ := hv 6 (by decide)
    have q8 : vs 8 = _ := hv 8 (by decide)
    obtain ⟨A7, n7, c7, q7⟩ := (show ∃ A m c, vs 7 = .agg #[.slice A m c, .bool false] from hv 7 (by decide))
    rw [q7] at hS
    have S2 := Lib.hid hS
    simp only [putL, Act.put, Nat.zero_add, Nat.reduceAdd, List.setIfInBounds_toArray, List.set_cons_succ, List.set_cons_zero, q0, q1, q2, q3, q4, q5, q6, q8]
    clear hS hv q0 q1 q2 q3 q4 q5 q6 q8
    simp only [q7]
    have S9 := S2.out
    rw [show lineV (.agg #[.slice A7 n7 c7, .bool false]) = .slice A7 n7 c7 from rfl, hdP_fill (.slice A7 n7 c7) (List.replicate cols (blank q)) false HX1.out HF.out.1 hiR] at S9
    have S10 := Lib.hid (show Objs w0 w' (.heads (.slice (some ⟨gr, 0, none⟩) L.length c) (hdP X1 ++ (hdP (F ++ [(.slice A7 n7 c7, (List.replicate cols (blank q)), false)]) ++ hdP (R.drop (d + 1)))) :: .box b7 54 (pv q) :: .box p 58 #[.int .i64 ↑cols, .slice (some ⟨gr, 0, none⟩) L.length c] :: .heads (.slice Ag k cg) (hdP G) :: .pile (piP T ++ piP (F ++ [(.slice A7 n7 c7, (List.replicate cols (blank q)), false)])) :: .box b5 106 #[.int .i64 ↑top, .int .i64 ↑bot] :: os) from by have := Objs.pileIn S9; rw [List.append_assoc] at this; rw [piP_append]; exact this)
    clear S9 S2
    go_wp2_with fail
    go_roundw
    case rel => exact ⟨d + 1, F ++ [(.slice A7 n7 c7, (List.replicate cols (blank q)), false)], by omega, by go_num, ⟨by simp [HF.out.1], by rw [lnP_append, HF.out.2]; unfold rollFresh; rw [List.replicate_succ']; rfl⟩, S10.out⟩
    case measure => simp [intOf]; omega
 ·have hnl : ¬ -(many : Int) < n := by omega
  have hngt : ¬ (0 : Int) < n := by omega
  subst h2
  have HPB2 := Lib.hid (HPB.out rfl)
  have HG2 := HG.out
  rw [Nat.sub_self, Nat.add_zero] at HG2
  have HG := Lib.hid HG2
  clear HPB ha0 HG2
  by_cases hcap : c - top = k
  ·go_wp2_with fail
   refine (clone_front S5.out.swap HONE.out (a := top) (m := k) (by rw [HTl.out]; omega) (by omega) (by rw [HTl.out]; omega)).mono ?_
   rintro e w5 ⟨Ag, cg, rfl, hS⟩
   obtain ⟨w6, hr6, hS6⟩ := run_copyH hS (k := 1) rfl HONE.out top top 0 (some ⟨gr, top * 2, none⟩) (some ⟨gr, top * 2, none⟩) 0 (0) k (k) (Nat.min_zero _) (by rw [HTl.out]; omega) (by rw [HTl.out]; omega) (fun h => absurd h (by omega)) 3
   have HR6 := Lib.hid hr6
   rw [hdP_drop T top, hdP_take, HG.out, ← hdP_drop T top, HPB2.out] at hS6
   have S7 := Lib.hid (ord7 (show Objs w0 w6 (.heads (.slice Ag k cg) (hdP G) :: .heads (.slice (some ⟨gr, 0, none⟩) L.length c) (hdP X1 ++ hdP R) :: .pile (piP T) :: .box b7 54 (pv q) :: .box b5 106 #[.int .i64 top, .int .i64 bot] :: .box p 58 #[.int .i64 cols, .slice (some ⟨gr, 0, none⟩) L.length c] :: os) from hS6))
   have HAO := HA0.out
   clear hS hr6 hS6 S5
   go_wp2_with (refine wpList_copyK rfl _ _ 30 30 rfl rfl rfl HR6.out ?_)
   go_loopw [14, 127] (fun _ vi wr => ∃ (d : Nat) (F : List Tr), d ≤ k ∧ vi = .int .i64 d ∧ (F.length = d ∧ lnP F = rollFresh d cols q) ∧ Objs w0 wr (.heads (.slice (some ⟨gr, 0, none⟩) L.length c) (hdP X1 ++ (hdP F ++ hdP (R.drop d))) :: .box b7 54 (pv q) :: .box p 58 #[.int .i64 ↑cols, .slice (some ⟨gr, 0, none⟩) L.length c] :: .heads (.slice Ag k cg) (hdP G) :: .pile (piP T ++ piP F) :: .box b5 106 #[.int .i64 ↑top, .int .i64 ↑bot] :: os)) (fun _ vi _ => k - (intOf vi).toNat)
   case atStart => exact ⟨0, [], by omega, rfl, ⟨rfl, rfl⟩, by simpa [hdP, piP] using S7.out⟩
   case round =>
    obtain ⟨d, F, hik, rfl, hFF, hS⟩ := hrel
    have HF := Lib.hid hFF
    have S8 := Lib.hid hS
    clear hFF hS S7
    by_cases hlt : d < k
    case neg =>
     have hie : d = k := by omega
     have hX := S8.out
     have hFk := HF.out.2
     rw [hie] at hX hFk
     have hX2 := hX.dealIn HPERM.out
     have HLF := Lib.hid (HLEFT.out F hFk)
     obtain ⟨L1, hL1⟩ : ∃ L1, L1 = lnP X1 ++ (lnP F ++ lnP (R.drop k)) := ⟨_, rfl⟩
     rw [← hL1] at hX2 HLF
     have hL1l : L1.length = L.length := by rw [hL1]; simp only [List.length_append, lnP_length, List.length_drop]; have := HX1.out; have := HF.out.1; have := HRL.out; omega
     have SX := Lib.hid hX2
     obtain ⟨hx5, hf5, hz5⟩ := (hX2.box (k := 4) rfl).facts
     clear hie hX hX2 hFk hL1 S8
     by_cases ht0 : top = 0
     ·have HT0 := Lib.hid (show topHard top L1 = L1 by unfold topHard; rw [if_neg (by omega)])
      have htg : ¬ (0 : Int) < (top : Int) := by omega
      have SF := Lib.hid (fin_roll SX.out)
      clear ht0
      go_wp2_with fail
      go_ret2
      exact ⟨Ag, k, cg, rfl, by rw [← HGONE.out, ← HLF.out, HT0.out]; exact SF.out⟩
     ·have htg : (0 : Int) < (top : Int) := by omega
      obtain ⟨l9, hlt1⟩ := get_of (show top - 1 < L1.length by omega)
      have HT0 := Lib.hid (show L1.set (top - 1) (l9.1, false) = topHard top L1 by unfold topHard; rw [if_pos (by omega), softMod_some hlt1])
      have HWT := Lib.hid (show IntKind.i64.wrap ((top : Int) - 1) = (top : Int) - 1 from IntWalk.i64_in _ (by omega))
      have htz : (0 : Int) ≤ (top : Int) - 1 := by omega
      have htz2 : (top : Int) - 1 < (L.length : Int) := by omega
      have htz3 : ¬ (top : Int) < 1 := by omega
      have htn : ((top : Int) - 1).toNat = top - 1 := by omega
      have SY := Lib.hid (ord_roll SX.out)
      go_upto_region 31 with (fail)
      refine wp_region_stage (w0 := w0) (os := (.lines (.slice Ag k cg) (lnP G) :: .box b7 54 (pv q) :: os)) (by kernel_rfl) (by kernel_rfl) (by kernel_rfl) [(0, 9, [], fun vs => .lines (.slice (some ⟨gr, 0, none⟩) L.length c) (L1.set (top - 1) (l9.1, false)))] [[], [], [], [1], [], [2], [], [], [], [0]] [.lines (.slice (some ⟨gr, 0, none⟩) L.length c) L1, .box p 58 #[.int .i64 ↑cols, .slice (some ⟨gr, 0, none⟩) L.length c], .box b5 106 #[.int .i64 ↑top, .int .i64 ↑bot]] (fun i u => match i with | 0 => u = .pointer (some ⟨p, 0, none⟩) | 1 => u = .pointer (some ⟨p, 0, none⟩) | 2 => u = .pointer (some ⟨p, 1, none⟩) | 3 => u = .slice (some ⟨gr, 0, none⟩) L.length c | 4 => u = .pointer (some ⟨b5, 0, none⟩) | 5 => u = .int .i64 ↑top | 6 => u = .int .i64 (↑top - 1) | 7 => u = .pointer (some ⟨gr, (top - 1) * 2, none⟩) | 8 => u = .pointer (some ⟨gr, (top - 1) * 2 + 1, none⟩) | 9 => True | _ => True) (fun vs => [.lines (.slice (some ⟨gr, 0, none⟩) L.length c) (L1.set (top - 1) (l9.1, false)), .box p 58 #[.int .i64 ↑cols, .slice (some ⟨gr, 0, none⟩) L.length c], .box b5 106 #[.int .i64 ↑top, .int .i64 ↑bot]]) (by kernel_rfl) (fun vs => by rfl) SY.out ?_ ?_
      ·apply sc
       ·intro a w' vs σ hS hl hs hk
        have f0 : a.tmps[0]?.getD undef = .pointer (some ⟨p, 0, none⟩) := sof hk
        exact rp (pt p 0) (by simp [execOp, Act.eval, f0, go_sem]) hl hs hS
       apply sc
       ·intro a w' vs σ hS hl hs hk
        have f143 : a.tmps[143]?.getD undef = .pointer (some ⟨p, 0, none⟩) := svf hk 0
        exact rp (pt p 0) (by simp [execOp, Act.eval, f143, go_sem]) hl hs hS
       apply sc
       ·intro a w' vs σ hS hl hs hk
        have f144 : a.tmps[144]?.getD undef = .pointer (some ⟨p, 0, none⟩) := svf hk 1
        exact rp (pt p 1) (by simp [execOp, Act.eval, f144, go_sem]) hl hs hS
       apply sc
       ·intro a w' vs σ hS hl hs hk
        have f145 : a.tmps[145]?.getD undef = .pointer (some ⟨p, 1, none⟩) := svf hk 2
        have hx := (hS.box (sg (hs 1 (by decide)))).cell
        exact rp (.slice (some ⟨gr, 0, none⟩) L.length c) (by simp [execOp, Act.eval, f145, go_sem, hx]) hl hs hS
       apply sc
       ·intro a w' vs σ hS hl hs hk
        have f5 : a.tmps[5]?.getD undef = .pointer (some ⟨b5, 0, none⟩) := sof hk
        exact rp (pt b5 0) (by simp [execOp, Act.eval, f5, go_sem]) hl hs hS
       apply sc
       ·intro a w' vs σ hS hl hs hk
        have f147 : a.tmps[147]?.getD undef = .pointer (some ⟨b5, 0, none⟩) := svf hk 4
        have hx := (hS.box (sg (hs 2 (by decide)))).cell
        exact rp (.int .i64 ↑top) (by simp [execOp, Act.eval, f147, go_sem, hx]) hl hs hS
       apply sc
       ·intro a w' vs σ hS hl hs hk
        have f148 : a.tmps[148]?.getD undef = .int .i64 ↑top := svf hk 5
        exact rp (.int .i64 (↑top - 1)) (by simp [execOp, Act.eval, f148, go_sem, HWT.out]) hl hs hS
       apply sc
       ·intro a w' vs σ hS hl hs hk
        have f146 : a.tmps[146]?.getD undef = .slice (some ⟨gr, 0, none⟩) L.length c := svf hk 3
        have f149 : a.tmps[149]?.getD undef = .int .i64 (↑top - 1) := svf hk 6
        exact rp (pt gr ((top - 1) * 2)) (by simp [execOp, Act.eval, f146, f149, go_sem, htz, htz2, htn, htz3]) hl hs hS
       apply sc
       ·intro a w' vs σ hS hl hs hk
        have f150 : a.tmps[150]?.getD undef = .pointer (some ⟨gr, (top - 1) * 2, none⟩) := svf hk 7
        exact rp (pt gr ((top - 1) * 2 + 1)) (by simp [execOp, Act.eval, f150, go_sem]) hl hs hS
       apply sc
       ·intro a w' vs σ hS hl hs hk
        have f151 : a.tmps[151]?.getD undef = .pointer (some ⟨gr, (top - 1) * 2 + 1, none⟩) := svf hk 8
        have h1 : σ[0]? = some (.lines (.slice (some ⟨gr, 0, none⟩) L.length c) L1) := hs 0 (by decide)
        obtain ⟨F9, bs9, hF9, -⟩ := hS.get (sg h1)
        obtain ⟨A9, c9, e9, -, -, -, hg9⟩ := hF9.form
        simp only [Value.slice.injEq] at e9
        obtain ⟨rfl, -, rfl⟩ := e9
        obtain ⟨g9, e9', hz, -, hso, hf⟩ := hg9 (by omega)
        cases e9'
        have hx := hso _ _ hlt1
        exact rstep_store (w2 := w'.setCell ⟨gr, (top - 1) * 2 + 1, none⟩ (.bool false)) (wanted_none rfl) rfl (by simp [execOp, Act.eval, f151, hx, hf, hz, go_sem]) (sp_set 0 (.lines (.slice (some ⟨gr, 0, none⟩) L.length c) (L1.set (top - 1) (l9.1, false))) (by kernel_rfl) (by simp) (by decide) hl hs (by rfl) (hS.storeSoft (sg h1) hlt1) trivial) trivial
       exact SSteps.nil
      ·intro vs w' hS hv
       have q0 : vs 0 = _ := hv 0 (by decide)
       have q1 : vs 1 = _ := hv 1 (by decide)
       have q2 : vs 2 = _ := hv 2 (by decide)
       have q3 : vs 3 = _ := hv 3 (by decide)
       have q4 : vs 4 = _ := hv 4 (by decide)
       have q5 : vs 5 = _ := hv 5 (by decide)
       have q6 : vs 6 = _ := hv 6 (by decide)
       have q7 : vs 7 = _ := hv 7 (by decide)
       have q8 : vs 8 = _ := hv 8 (by decide)
       have S2 := Lib.hid hS
       simp only [putL, Act.put, Nat.zero_add, Nat.reduceAdd, List.setIfInBounds_toArray, List.set_cons_succ, List.set_cons_zero, q0, q1, q2, q3, q4, q5, q6, q7, q8]
       clear hS hv q0 q1 q2 q3 q4 q5 q6 q7 q8
       have S9 := S2.out
       rw [HT0.out] at S9
       have SF := Lib.hid (fin_roll2 S9)
       clear S9 S2
       go_wp2_with fail
       go_ret2
       exact ⟨Ag, k, cg, rfl, by rw [← HGONE.out, ← HLF.out]; exact SF.out⟩
    have hiR : d < R.length := by omega
    have hiz : (0 : Int) ≤ (d : Int) := by omega
    have hiz2 : (d : Int) < (k : Int) := by omega
    have hoff : top * 2 + d * 2 = (a0 + d) * 2 := by omega
    have HHL := Lib.hid (show (hdP X1 ++ (hdP F ++ hdP (R.drop d))).length = a0 + (d + (R.length - d)) by simp only [List.length_append, hdP_length, List.length_drop, HX1.out, HF.out.1])
    have SZ := Lib.hid S8.out.pad
    clear S8
    go_upto_region 28 with (fail)
    refine wp_region_stage (w0 := w0) (os := (.heads (.slice Ag k cg) (hdP G) :: .pile (piP T ++ piP F) :: .box b5 106 #[.int .i64 ↑top, .int .i64 ↑bot] :: os)) (by kernel_rfl) (by kernel_rfl) (by kernel_rfl) [(0, 7, [7], fun vs => .cells (lineV (vs 7)) (List.replicate cols (blank q))), (1, 9, [7], fun vs => .heads (.slice (some ⟨gr, 0, none⟩) L.length c) (List.set (hdP X1 ++ (hdP F ++ hdP (R.drop d))) (a0 + d) (lineV (vs 7), false)))] [[], [], [], [], [], [3], [2], [0], [], [1]] [.none, .heads (.slice (some ⟨gr, 0, none⟩) L.length c) (hdP X1 ++ (hdP F ++ hdP (R.drop d))), .box b7 54 (pv q), .box p 58 #[.int .i64 ↑cols, .slice (some ⟨gr, 0, none⟩) L.length c]] (fun i u => match i with | 0 => u = .slice (some ⟨gr, top * 2, none⟩) k (k) | 1 => u = .int .i64 ↑d | 2 => u = .pointer (some ⟨p, 0, none⟩) | 3 => u = .pointer (some ⟨p, 0, none⟩) | 4 => u = .pointer (some ⟨p, 0, none⟩) | 5 => u = .int .i64 ↑cols | 6 => u = .agg (pv q) | 7 => ∃ A m c, u = .agg #[.slice A m c, .bool false] | 8 => u = .pointer (some ⟨gr, (a0 + d) * 2, none⟩) | 9 => True | _ => True) (fun vs => [.cells (lineV (vs 7)) (List.replicate cols (blank q)), .heads (.slice (some ⟨gr, 0, none⟩) L.length c) (List.set (hdP X1 ++ (hdP F ++ hdP (R.drop d))) (a0 + d) (lineV (vs 7), false)), .box b7 54 (pv q), .box p 58 #[.int .i64 ↑cols, .slice (some ⟨gr, 0, none⟩) L.length c]]) (by kernel_rfl) (fun vs => by rfl) SZ.out ?_ ?_
    ·apply sc
     ·intro a w' vs σ hS hl hs hk
      have f13 : a.tmps[13]?.getD undef = .slice (some ⟨gr, top * 2, none⟩) k (k) := sof hk
      exact rp (.slice (some ⟨gr, top * 2, none⟩) k (k)) (by simp [execOp, Act.eval, f13, go_sem]) hl hs hS
     apply sc
     ·intro a w' vs σ hS hl hs hk
      have f14 : a.tmps[14]?.getD undef = .int .i64 ↑d := sof hk
      exact rp (.int .i64 ↑d) (by simp [execOp, Act.eval, f14, go_sem]) hl hs hS
     apply sc
     ·intro a w' vs σ hS hl hs hk
      have f0 : a.tmps[0]?.getD undef = .pointer (some ⟨p, 0, none⟩) := sof hk
      exact rp (pt p 0) (by simp [execOp, Act.eval, f0, go_sem]) hl hs hS
     apply sc
     ·intro a w' vs σ hS hl hs hk
      have f132 : a.tmps[132]?.getD undef = .pointer (some ⟨p, 0, none⟩) := svf hk 2
      exact rp (pt p 0) (by simp [execOp, Act.eval, f132, go_sem]) hl hs hS
     apply sc
     ·intro a w' vs σ hS hl hs hk
      have f133 : a.tmps[133]?.getD undef = .pointer (some ⟨p, 0, none⟩) := svf hk 3
      exact rp (pt p 0) (by simp [execOp, Act.eval, f133, go_sem]) hl hs hS
     apply sc
     ·intro a w' vs σ hS hl hs hk
      have f134 : a.tmps[134]?.getD undef = .pointer (some ⟨p, 0, none⟩) := svf hk 4
      have hx := (hS.box (sg (hs 3 (by decide)))).cell
      exact rp (.int .i64 ↑cols) (by simp [execOp, Act.eval, f134, go_sem, hx]) hl hs hS
     apply sc
     ·intro a w' vs σ hS hl hs hk
      have f7 : a.tmps[7]?.getD undef = .pointer (some ⟨b7, 0, none⟩) := sof hk
      have hx := (hS.box (sg (hs 2 (by decide)))).penAt
      exact rp (.agg (pv q)) (by simp [execOp, Act.eval, f7, go_sem, hx]) hl hs hS
     apply sc
     ·intro a w' vs σ hS hl hs hk
      have e135 : a.tmps.getD 135 undef = .int .i64 ↑cols := svv hk 5
      have e136 : a.tmps.getD 136 undef = .agg (pv q) := svv hk 6
      have h0 : σ[0]? = some .none := hs 0 (by decide)
      exact ro_call (f := 54) (wanted_none rfl) rfl (by simp only [List.map_toArray, List.map_cons, List.map_nil, Act.eval, e135, e136] <;> rfl) (fun _ _ => by kernel_rfl) ((gridblanks_any cols hcm q _ _ _ hS).mono fun e w2 ⟨x, h1, h2⟩ => ⟨_, h1, sp_set 0 (.cells x (List.replicate cols (blank q))) (by kernel_rfl) (by simp) (by decide) hl hs (by rfl) (h2.place (sg h0)) (by obtain ⟨A', c', e, -⟩ := h2.cellsRd (k := 0) rfl; exact ⟨A', _, c', by rw [e]⟩), trivial⟩)
     apply sc
     ·intro a w' vs σ hS hl hs hk
      have f130 : a.tmps[130]?.getD undef = .slice (some ⟨gr, top * 2, none⟩) k (k) := svf hk 0
      have f131 : a.tmps[131]?.getD undef = .int .i64 ↑d := svf hk 1
      exact rp (pt gr ((a0 + d) * 2)) (by simp [execOp, Act.eval, f130, f131, go_sem, hiz, hiz2, hoff]) hl hs hS
     apply sc
     ·intro a w' vs σ hS hl hs hk
      have f138 : a.tmps[138]?.getD undef = .pointer (some ⟨gr, (a0 + d) * 2, none⟩) := svf hk 8
      have e137 : a.tmps.getD 137 undef = vs 7 := sk_val hk 7 (by kernel_rfl) rfl rfl
      have p137 : (fun u : Value => ∃ A m c, u = .agg #[.slice A m c, .bool false]) (vs 7) := (hk.1 7 (by kernel_rfl)).1
      have f137 := gd e137
      obtain ⟨A7, n7, c7, q7⟩ := p137
      have h1 : σ[1]? = some (.heads (.slice (some ⟨gr, 0, none⟩) L.length c) (hdP X1 ++ (hdP F ++ hdP (R.drop d)))) := hs 1 (by decide)
      obtain ⟨A8, c8, e8, -, -, -, hg8⟩ := hS.headsForm (sg h1)
      simp only [Value.slice.injEq] at e8
      obtain ⟨rfl, -, rfl⟩ := e8
      have hHl := HHL.out
      obtain ⟨g8, e9, hz, hcs, hf⟩ := hg8 (by omega)
      cases e9
      obtain ⟨x8, hx8⟩ := get_of (show a0 + d < (hdP X1 ++ (hdP F ++ hdP (R.drop d))).length by omega)
      obtain ⟨hx, hx'⟩ := hcs (a0 + d) x8 hx8
      exact rstep_store (w2 := (w'.setCell ⟨gr, (a0 + d) * 2, none⟩ (.slice A7 n7 c7)).setCell ⟨gr, (a0 + d) * 2 + 1, none⟩ (.bool false)) (wanted_none rfl) rfl (by simp [execOp, Act.eval, f138, e137, f137, q7, hx, hx', hf, hz, go_sem]) (sp_set 1 (.heads (.slice (some ⟨gr, 0, none⟩) L.length c) (List.set (hdP X1 ++ (hdP F ++ hdP (R.drop d))) (a0 + d) (.slice A7 n7 c7, false))) (by kernel_rfl) (by simp) (by decide) hl hs (by show Ob.heads _ (List.set _ _ (lineV (vs 7), false)) = _; rw [q7]; rfl) (hS.storeHead (sg h1)) trivial) trivial
     exact SSteps.nil
    ·intro vs w' hS hv
     have q0 : vs 0 = _ := hv 0 (by decide)
     have q1 : vs 1 = _ := hv 1 (by decide)
     have q2 : vs 2 = _ := hv 2 (by decide)
     have q3 : vs 3 = _ := hv 3 (by decide)
     have q4 : vs 4 = _ := hv 4 (by decide)
     have q5 : vs 5 = _ := hv 5 (by decide)
     have q6 : vs 6 = _ := hv 6 (by decide)
     have q8 : vs 8 = _ := hv 8 (by decide)
     obtain ⟨A7, n7, c7, q7⟩ := (show ∃ A m c, vs 7 = .agg #[.slice A m c, .bool false] from hv 7 (by decide))
     rw [q7] at hS
     have S2 := Lib.hid hS
     simp only [putL, Act.put, Nat.zero_add, Nat.reduceAdd, List.setIfInBounds_toArray, List.set_cons_succ, List.set_cons_zero, q0, q1, q2, q3, q4, q5, q6, q8]
     clear hS hv q0 q1 q2 q3 q4 q5 q6 q8
     simp only [q7]
     have S9 := S2.out
     rw [show lineV (.agg #[.slice A7 n7 c7, .bool false]) = .slice A7 n7 c7 from rfl, hdP_fill (.slice A7 n7 c7) (List.replicate cols (blank q)) false HX1.out HF.out.1 hiR] at S9
     have S10 := Lib.hid (show Objs w0 w' (.heads (.slice (some ⟨gr, 0, none⟩) L.length c) (hdP X1 ++ (hdP (F ++ [(.slice A7 n7 c7, (List.replicate cols (blank q)), false)]) ++ hdP (R.drop (d + 1)))) :: .box b7 54 (pv q) :: .box p 58 #[.int .i64 ↑cols, .slice (some ⟨gr, 0, none⟩) L.length c] :: .heads (.slice Ag k cg) (hdP G) :: .pile (piP T ++ piP (F ++ [(.slice A7 n7 c7, (List.replicate cols (blank q)), false)])) :: .box b5 106 #[.int .i64 ↑top, .int .i64 ↑bot] :: os) from by have := Objs.pileIn S9; rw [List.append_assoc] at this; rw [piP_append]; exact this)
     clear S9 S2
     go_wp2_with fail
     go_roundw
     case rel => exact ⟨d + 1, F ++ [(.slice A7 n7 c7, (List.replicate cols (blank q)), false)], by omega, by go_num, ⟨by simp [HF.out.1], by rw [lnP_append, HF.out.2]; unfold rollFresh; rw [List.replicate_succ']; rfl⟩, S10.out⟩
     case measure => simp [intOf]; omega
  ·go_wp2_with fail
   refine (clone_front S5.out.swap HONE.out (a := top) (m := k) (by rw [HTl.out]; omega) (by omega) (by rw [HTl.out]; omega)).mono ?_
   rintro e w5 ⟨Ag, cg, rfl, hS⟩
   obtain ⟨w6, hr6, hS6⟩ := run_copyH hS (k := 1) rfl HONE.out top top 0 (some ⟨gr, top * 2 + k * 2, none⟩) (some ⟨gr, top * 2, none⟩) 0 (c - top - k) k (c - top) (Nat.min_zero _) (by rw [HTl.out]; omega) (by rw [HTl.out]; omega) (fun h => absurd h (by omega)) 3
   have HR6 := Lib.hid hr6
   rw [hdP_drop T top, hdP_take, HG.out, ← hdP_drop T top, HPB2.out] at hS6
   have S7 := Lib.hid (ord7 (show Objs w0 w6 (.heads (.slice Ag k cg) (hdP G) :: .heads (.slice (some ⟨gr, 0, none⟩) L.length c) (hdP X1 ++ hdP R) :: .pile (piP T) :: .box b7 54 (pv q) :: .box b5 106 #[.int .i64 top, .int .i64 bot] :: .box p 58 #[.int .i64 cols, .slice (some ⟨gr, 0, none⟩) L.length c] :: os) from hS6))
   have HAO := HA0.out
   clear hS hr6 hS6 S5
   go_wp2_with (refine wpList_copyK rfl _ _ 30 30 rfl rfl rfl HR6.out ?_)
   go_loopw [14, 127] (fun _ vi wr => ∃ (d : Nat) (F : List Tr), d ≤ k ∧ vi = .int .i64 d ∧ (F.length = d ∧ lnP F = rollFresh d cols q) ∧ Objs w0 wr (.heads (.slice (some ⟨gr, 0, none⟩) L.length c) (hdP X1 ++ (hdP F ++ hdP (R.drop d))) :: .box b7 54 (pv q) :: .box p 58 #[.int .i64 ↑cols, .slice (some ⟨gr, 0, none⟩) L.length c] :: .heads (.slice Ag k cg) (hdP G) :: .pile (piP T ++ piP F) :: .box b5 106 #[.int .i64 ↑top, .int .i64 ↑bot] :: os)) (fun _ vi _ => k - (intOf vi).toNat)
   case atStart => exact ⟨0, [], by omega, rfl, ⟨rfl, rfl⟩, by simpa [hdP, piP] using S7.out⟩
   case round =>
    obtain ⟨d, F, hik, rfl, hFF, hS⟩ := hrel
    have HF := Lib.hid hFF
    have S8 := Lib.hid hS
    clear hFF hS S7
    by_cases hlt : d < k
    case neg =>
     have hie : d = k := by omega
     have hX := S8.out
     have hFk := HF.out.2
     rw [hie] at hX hFk
     have hX2 := hX.dealIn HPERM.out
     have HLF := Lib.hid (HLEFT.out F hFk)
     obtain ⟨L1, hL1⟩ : ∃ L1, L1 = lnP X1 ++ (lnP F ++ lnP (R.drop k)) := ⟨_, rfl⟩
     rw [← hL1] at hX2 HLF
     have hL1l : L1.length = L.length := by rw [hL1]; simp only [List.length_append, lnP_length, List.length_drop]; have := HX1.out; have := HF.out.1; have := HRL.out; omega
     have SX := Lib.hid hX2
     obtain ⟨hx5, hf5, hz5⟩ := (hX2.box (k := 4) rfl).facts
     clear hie hX hX2 hFk hL1 S8
     by_cases ht0 : top = 0
     ·have HT0 := Lib.hid (show topHard top L1 = L1 by unfold topHard; rw [if_neg (by omega)])
      have htg : ¬ (0 : Int) < (top : Int) := by omega
      have SF := Lib.hid (fin_roll SX.out)
      clear ht0
      go_wp2_with fail
      go_ret2
      exact ⟨Ag, k, cg, rfl, by rw [← HGONE.out, ← HLF.out, HT0.out]; exact SF.out⟩
     ·have htg : (0 : Int) < (top : Int) := by omega
      obtain ⟨l9, hlt1⟩ := get_of (show top - 1 < L1.length by omega)
      have HT0 := Lib.hid (show L1.set (top - 1) (l9.1, false) = topHard top L1 by unfold topHard; rw [if_pos (by omega), softMod_some hlt1])
      have HWT := Lib.hid (show IntKind.i64.wrap ((top : Int) - 1) = (top : Int) - 1 from IntWalk.i64_in _ (by omega))
      have htz : (0 : Int) ≤ (top : Int) - 1 := by omega
      have htz2 : (top : Int) - 1 < (L.length : Int) := by omega
      have htz3 : ¬ (top : Int) < 1 := by omega
      have htn : ((top : Int) - 1).toNat = top - 1 := by omega
      have SY := Lib.hid (ord_roll SX.out)
      go_upto_region 31 with (fail)
      refine wp_region_stage (w0 := w0) (os := (.lines (.slice Ag k cg) (lnP G) :: .box b7 54 (pv q) :: os)) (by kernel_rfl) (by kernel_rfl) (by kernel_rfl) [(0, 9, [], fun vs => .lines (.slice (some ⟨gr, 0, none⟩) L.length c) (L1.set (top - 1) (l9.1, false)))] [[], [], [], [1], [], [2], [], [], [], [0]] [.lines (.slice (some ⟨gr, 0, none⟩) L.length c) L1, .box p 58 #[.int .i64 ↑cols, .slice (some ⟨gr, 0, none⟩) L.length c], .box b5 106 #[.int .i64 ↑top, .int .i64 ↑bot]] (fun i u => match i with | 0 => u = .pointer (some ⟨p, 0, none⟩) | 1 => u = .pointer (some ⟨p, 0, none⟩) | 2 => u = .pointer (some ⟨p, 1, none⟩) | 3 => u = .slice (some ⟨gr, 0, none⟩) L.length c | 4 => u = .pointer (some ⟨b5, 0, none⟩) | 5 => u = .int .i64 ↑top | 6 => u = .int .i64 (↑top - 1) | 7 => u = .pointer (some ⟨gr, (top - 1) * 2, none⟩) | 8 => u = .pointer (some ⟨gr, (top - 1) * 2 + 1, none⟩) | 9 => True | _ => True) (fun vs => [.lines (.slice (some ⟨gr, 0, none⟩) L.length c) (L1.set (top - 1) (l9.1, false)), .box p 58 #[.int .i64 ↑cols, .slice (some ⟨gr, 0, none⟩) L.length c], .box b5 106 #[.int .i64 ↑top, .int .i64 ↑bot]]) (by kernel_rfl) (fun vs => by rfl) SY.out ?_ ?_
      ·apply sc
       ·intro a w' vs σ hS hl hs hk
        have f0 : a.tmps[0]?.getD undef = .pointer (some ⟨p, 0, none⟩) := sof hk
        exact rp (pt p 0) (by simp [execOp, Act.eval, f0, go_sem]) hl hs hS
       apply sc
       ·intro a w' vs σ hS hl hs hk
        have f143 : a.tmps[143]?.getD undef = .pointer (some ⟨p, 0, none⟩) := svf hk 0
        exact rp (pt p 0) (by simp [execOp, Act.eval, f143, go_sem]) hl hs hS
       apply sc
       ·intro a w' vs σ hS hl hs hk
        have f144 : a.tmps[144]?.getD undef = .pointer (some ⟨p, 0, none⟩) := svf hk 1
        exact rp (pt p 1) (by simp [execOp, Act.eval, f144, go_sem]) hl hs hS
       apply sc
       ·intro a w' vs σ hS hl hs hk
        have f145 : a.tmps[145]?.getD undef = .pointer (some ⟨p, 1, none⟩) := svf hk 2
        have hx := (hS.box (sg (hs 1 (by decide)))).cell
        exact rp (.slice (some ⟨gr, 0, none⟩) L.length c) (by simp [execOp, Act.eval, f145, go_sem, hx]) hl hs hS
       apply sc
       ·intro a w' vs σ hS hl hs hk
        have f5 : a.tmps[5]?.getD undef = .pointer (some ⟨b5, 0, none⟩) := sof hk
        exact rp (pt b5 0) (by simp [execOp, Act.eval, f5, go_sem]) hl hs hS
       apply sc
       ·intro a w' vs σ hS hl hs hk
        have f147 : a.tmps[147]?.getD undef = .pointer (some ⟨b5, 0, none⟩) := svf hk 4
        have hx := (hS.box (sg (hs 2 (by decide)))).cell
        exact rp (.int .i64 ↑top) (by simp [execOp, Act.eval, f147, go_sem, hx]) hl hs hS
       apply sc
       ·intro a w' vs σ hS hl hs hk
        have f148 : a.tmps[148]?.getD undef = .int .i64 ↑top := svf hk 5
        exact rp (.int .i64 (↑top - 1)) (by simp [execOp, Act.eval, f148, go_sem, HWT.out]) hl hs hS
       apply sc
       ·intro a w' vs σ hS hl hs hk
        have f146 : a.tmps[146]?.getD undef = .slice (some ⟨gr, 0, none⟩) L.length c := svf hk 3
        have f149 : a.tmps[149]?.getD undef = .int .i64 (↑top - 1) := svf hk 6
        exact rp (pt gr ((top - 1) * 2)) (by simp [execOp, Act.eval, f146, f149, go_sem, htz, htz2, htn, htz3]) hl hs hS
       apply sc
       ·intro a w' vs σ hS hl hs hk
        have f150 : a.tmps[150]?.getD undef = .pointer (some ⟨gr, (top - 1) * 2, none⟩) := svf hk 7
        exact rp (pt gr ((top - 1) * 2 + 1)) (by simp [execOp, Act.eval, f150, go_sem]) hl hs hS
       apply sc
       ·intro a w' vs σ hS hl hs hk
        have f151 : a.tmps[151]?.getD undef = .pointer (some ⟨gr, (top - 1) * 2 + 1, none⟩) := svf hk 8
        have h1 : σ[0]? = some (.lines (.slice (some ⟨gr, 0, none⟩) L.length c) L1) := hs 0 (by decide)
        obtain ⟨F9, bs9, hF9, -⟩ := hS.get (sg h1)
        obtain ⟨A9, c9, e9, -, -, -, hg9⟩ := hF9.form
        simp only [Value.slice.injEq] at e9
        obtain ⟨rfl, -, rfl⟩ := e9
        obtain ⟨g9, e9', hz, -, hso, hf⟩ := hg9 (by omega)
        cases e9'
        have hx := hso _ _ hlt1
        exact rstep_store (w2 := w'.setCell ⟨gr, (top - 1) * 2 + 1, none⟩ (.bool false)) (wanted_none rfl) rfl (by simp [execOp, Act.eval, f151, hx, hf, hz, go_sem]) (sp_set 0 (.lines (.slice (some ⟨gr, 0, none⟩) L.length c) (L1.set (top - 1) (l9.1, false))) (by kernel_rfl) (by simp) (by decide) hl hs (by rfl) (hS.storeSoft (sg h1) hlt1) trivial) trivial
       exact SSteps.nil
      ·intro vs w' hS hv
       have q0 : vs 0 = _ := hv 0 (by decide)
       have q1 : vs 1 = _ := hv 1 (by decide)
       have q2 : vs 2 = _ := hv 2 (by decide)
       have q3 : vs 3 = _ := hv 3 (by decide)
       have q4 : vs 4 = _ := hv 4 (by decide)
       have q5 : vs 5 = _ := hv 5 (by decide)
       have q6 : vs 6 = _ := hv 6 (by decide)
       have q7 : vs 7 = _ := hv 7 (by decide)
       have q8 : vs 8 = _ := hv 8 (by decide)
       have S2 := Lib.hid hS
       simp only [putL, Act.put, Nat.zero_add, Nat.reduceAdd, List.setIfInBounds_toArray, List.set_cons_succ, List.set_cons_zero, q0, q1, q2, q3, q4, q5, q6, q7, q8]
       clear hS hv q0 q1 q2 q3 q4 q5 q6 q7 q8
       have S9 := S2.out
       rw [HT0.out] at S9
       have SF := Lib.hid (fin_roll2 S9)
       clear S9 S2
       go_wp2_with fail
       go_ret2
       exact ⟨Ag, k, cg, rfl, by rw [← HGONE.out, ← HLF.out]; exact SF.out⟩
    have hiR : d < R.length := by omega
    have hiz : (0 : Int) ≤ (d : Int) := by omega
    have hiz2 : (d : Int) < (k : Int) := by omega
    have hoff : top * 2 + d * 2 = (a0 + d) * 2 := by omega
    have HHL := Lib.hid (show (hdP X1 ++ (hdP F ++ hdP (R.drop d))).length = a0 + (d + (R.length - d)) by simp only [List.length_append, hdP_length, List.length_drop, HX1.out, HF.out.1])
    have SZ := Lib.hid S8.out.pad
    clear S8
    go_upto_region 28 with (fail)
    refine wp_region_stage (w0 := w0) (os := (.heads (.slice Ag k cg) (hdP G) :: .pile (piP T ++ piP F) :: .box b5 106 #[.int .i64 ↑top, .int .i64 ↑bot] :: os)) (by kernel_rfl) (by kernel_rfl) (by kernel_rfl) [(0, 7, [7], fun vs => .cells (lineV (vs 7)) (List.replicate cols (blank q))), (1, 9, [7], fun vs => .heads (.slice (some ⟨gr, 0, none⟩) L.length c) (List.set (hdP X1 ++ (hdP F ++ hdP (R.drop d))) (a0 + d) (lineV (vs 7), false)))] [[], [], [], [], [], [3], [2], [0], [], [1]] [.none, .heads (.slice (some ⟨gr, 0, none⟩) L.length c) (hdP X1 ++ (hdP F ++ hdP (R.drop d))), .box b7 54 (pv q), .box p 58 #[.int .i64 ↑cols, .slice (some ⟨gr, 0, none⟩) L.length c]] (fun i u => match i with | 0 => u = .slice (some ⟨gr, top * 2, none⟩) k (c - top) | 1 => u = .int .i64 ↑d | 2 => u = .pointer (some ⟨p, 0, none⟩) | 3 => u = .pointer (some ⟨p, 0, none⟩) | 4 => u = .pointer (some ⟨p, 0, none⟩) | 5 => u = .int .i64 ↑cols | 6 => u = .agg (pv q) | 7 => ∃ A m c, u = .agg #[.slice A m c, .bool false] | 8 => u = .pointer (some ⟨gr, (a0 + d) * 2, none⟩) | 9 => True | _ => True) (fun vs => [.cells (lineV (vs 7)) (List.replicate cols (blank q)), .heads (.slice (some ⟨gr, 0, none⟩) L.length c) (List.set (hdP X1 ++ (hdP F ++ hdP (R.drop d))) (a0 + d) (lineV (vs 7), false)), .box b7 54 (pv q), .box p 58 #[.int .i64 ↑cols, .slice (some ⟨gr, 0, none⟩) L.length c]]) (by kernel_rfl) (fun vs => by rfl) SZ.out ?_ ?_
    ·apply sc
     ·intro a w' vs σ hS hl hs hk
      have f13 : a.tmps[13]?.getD undef = .slice (some ⟨gr, top * 2, none⟩) k (c - top) := sof hk
      exact rp (.slice (some ⟨gr, top * 2, none⟩) k (c - top)) (by simp [execOp, Act.eval, f13, go_sem]) hl hs hS
     apply sc
     ·intro a w' vs σ hS hl hs hk
      have f14 : a.tmps[14]?.getD undef = .int .i64 ↑d := sof hk
      exact rp (.int .i64 ↑d) (by simp [execOp, Act.eval, f14, go_sem]) hl hs hS
     apply sc
     ·intro a w' vs σ hS hl hs hk
      have f0 : a.tmps[0]?.getD undef = .pointer (some ⟨p, 0, none⟩) := sof hk
      exact rp (pt p 0) (by simp [execOp, Act.eval, f0, go_sem]) hl hs hS
     apply sc
     ·intro a w' vs σ hS hl hs hk
      have f132 : a.tmps[132]?.getD undef = .pointer (some ⟨p, 0, none⟩) := svf hk 2
      exact rp (pt p 0) (by simp [execOp, Act.eval, f132, go_sem]) hl hs hS
     apply sc
     ·intro a w' vs σ hS hl hs hk
      have f133 : a.tmps[133]?.getD undef = .pointer (some ⟨p, 0, none⟩) := svf hk 3
      exact rp (pt p 0) (by simp [execOp, Act.eval, f133, go_sem]) hl hs hS
     apply sc
     ·intro a w' vs σ hS hl hs hk
      have f134 : a.tmps[134]?.getD undef = .pointer (some ⟨p, 0, none⟩) := svf hk 4
      have hx := (hS.box (sg (hs 3 (by decide)))).cell
      exact rp (.int .i64 ↑cols) (by simp [execOp, Act.eval, f134, go_sem, hx]) hl hs hS
     apply sc
     ·intro a w' vs σ hS hl hs hk
      have f7 : a.tmps[7]?.getD undef = .pointer (some ⟨b7, 0, none⟩) := sof hk
      have hx := (hS.box (sg (hs 2 (by decide)))).penAt
      exact rp (.agg (pv q)) (by simp [execOp, Act.eval, f7, go_sem, hx]) hl hs hS
     apply sc
     ·intro a w' vs σ hS hl hs hk
      have e135 : a.tmps.getD 135 undef = .int .i64 ↑cols := svv hk 5
      have e136 : a.tmps.getD 136 undef = .agg (pv q) := svv hk 6
      have h0 : σ[0]? = some .none := hs 0 (by decide)
      exact ro_call (f := 54) (wanted_none rfl) rfl (by simp only [List.map_toArray, List.map_cons, List.map_nil, Act.eval, e135, e136] <;> rfl) (fun _ _ => by kernel_rfl) ((gridblanks_any cols hcm q _ _ _ hS).mono fun e w2 ⟨x, h1, h2⟩ => ⟨_, h1, sp_set 0 (.cells x (List.replicate cols (blank q))) (by kernel_rfl) (by simp) (by decide) hl hs (by rfl) (h2.place (sg h0)) (by obtain ⟨A', c', e, -⟩ := h2.cellsRd (k := 0) rfl; exact ⟨A', _, c', by rw [e]⟩), trivial⟩)
     apply sc
     ·intro a w' vs σ hS hl hs hk
      have f130 : a.tmps[130]?.getD undef = .slice (some ⟨gr, top * 2, none⟩) k (c - top) := svf hk 0
      have f131 : a.tmps[131]?.getD undef = .int .i64 ↑d := svf hk 1
      exact rp (pt gr ((a0 + d) * 2)) (by simp [execOp, Act.eval, f130, f131, go_sem, hiz, hiz2, hoff]) hl hs hS
     apply sc
     ·intro a w' vs σ hS hl hs hk
      have f138 : a.tmps[138]?.getD undef = .pointer (some ⟨gr, (a0 + d) * 2, none⟩) := svf hk 8
      have e137 : a.tmps.getD 137 undef = vs 7 := sk_val hk 7 (by kernel_rfl) rfl rfl
      have p137 : (fun u : Value => ∃ A m c, u = .agg #[.slice A m c, .bool false]) (vs 7) := (hk.1 7 (by kernel_rfl)).1
      have f137 := gd e137
      obtain ⟨A7, n7, c7, q7⟩ := p137
      have h1 : σ[1]? = some (.heads (.slice (some ⟨gr, 0, none⟩) L.length c) (hdP X1 ++ (hdP F ++ hdP (R.drop d)))) := hs 1 (by decide)
      obtain ⟨A8, c8, e8, -, -, -, hg8⟩ := hS.headsForm (sg h1)
      simp only [Value.slice.injEq] at e8
      obtain ⟨rfl, -, rfl⟩ := e8
      have hHl := HHL.out
      obtain ⟨g8, e9, hz, hcs, hf⟩ := hg8 (by omega)
      cases e9
      obtain ⟨x8, hx8⟩ := get_of (show a0 + d < (hdP X1 ++ (hdP F ++ hdP (R.drop d))).length by omega)
      obtain ⟨hx, hx'⟩ := hcs (a0 + d) x8 hx8
      exact rstep_store (w2 := (w'.setCell ⟨gr, (a0 + d) * 2, none⟩ (.slice A7 n7 c7)).setCell ⟨gr, (a0 + d) * 2 + 1, none⟩ (.bool false)) (wanted_none rfl) rfl (by simp [execOp, Act.eval, f138, e137, f137, q7, hx, hx', hf, hz, go_sem]) (sp_set 1 (.heads (.slice (some ⟨gr, 0, none⟩) L.length c) (List.set (hdP X1 ++ (hdP F ++ hdP (R.drop d))) (a0 + d) (.slice A7 n7 c7, false))) (by kernel_rfl) (by simp) (by decide) hl hs (by show Ob.heads _ (List.set _ _ (lineV (vs 7), false)) = _; rw [q7]; rfl) (hS.storeHead (sg h1)) trivial) trivial
     exact SSteps.nil
    ·intro vs w' hS hv
     have q0 : vs 0 = _ := hv 0 (by decide)
     have q1 : vs 1 = _ := hv 1 (by decide)
     have q2 : vs 2 = _ := hv 2 (by decide)
     have q3 : vs 3 = _ := hv 3 (by decide)
     have q4 : vs 4 = _ := hv 4 (by decide)
     have q5 : vs 5 = _ := hv 5 (by decide)
     have q6 : vs 6 = _ := hv 6 (by decide)
     have q8 : vs 8 = _ := hv 8 (by decide)
     obtain ⟨A7, n7, c7, q7⟩ := (show ∃ A m c, vs 7 = .agg #[.slice A m c, .bool false] from hv 7 (by decide))
     rw [q7] at hS
     have S2 := Lib.hid hS
     simp only [putL, Act.put, Nat.zero_add, Nat.reduceAdd, List.setIfInBounds_toArray, List.set_cons_succ, List.set_cons_zero, q0, q1, q2, q3, q4, q5, q6, q8]
     clear hS hv q0 q1 q2 q3 q4 q5 q6 q8
     simp only [q7]
     have S9 := S2.out
     rw [show lineV (.agg #[.slice A7 n7 c7, .bool false]) = .slice A7 n7 c7 from rfl, hdP_fill (.slice A7 n7 c7) (List.replicate cols (blank q)) false HX1.out HF.out.1 hiR] at S9
     have S10 := Lib.hid (show Objs w0 w' (.heads (.slice (some ⟨gr, 0, none⟩) L.length c) (hdP X1 ++ (hdP (F ++ [(.slice A7 n7 c7, (List.replicate cols (blank q)), false)]) ++ hdP (R.drop (d + 1)))) :: .box b7 54 (pv q) :: .box p 58 #[.int .i64 ↑cols, .slice (some ⟨gr, 0, none⟩) L.length c] :: .heads (.slice Ag k cg) (hdP G) :: .pile (piP T ++ piP (F ++ [(.slice A7 n7 c7, (List.replicate cols (blank q)), false)])) :: .box b5 106 #[.int .i64 ↑top, .int .i64 ↑bot] :: os) from by have := Objs.pileIn S9; rw [List.append_assoc] at this; rw [piP_append]; exact this)
     clear S9 S2
     go_wp2_with fail
     go_roundw
     case rel => exact ⟨d + 1, F ++ [(.slice A7 n7 c7, (List.replicate cols (blank q)), false)], by omega, by go_num, ⟨by simp [HF.out.1], by rw [lnP_append, HF.out.2]; unfold rollFresh; rw [List.replicate_succ']; rfl⟩, S10.out⟩
     case measure => simp [intOf]; omega
end
end Go.Proofs.YtppijfjigcoifaaDoor

namespace Go.Proofs.YtppijfjigcoifaaDoor
open Go.RowKit

end Go.Proofs.YtppijfjigcoifaaDoor

namespace Go.Proofs.YtppijfjigcoifaaDoor
open Go.RowKit

theorem RdL.part {w : World} {b off c c' a m : Nat} {L : List Ln} (h : RdL w (some ⟨b, off, none⟩) c L) (ham : a + m ≤ L.length) (hm : m ≤ c') : RdL w (some ⟨b, off + a * 2, none⟩) c' ((L.drop a).take m) := by
 refine ⟨by simp; omega, (fun e => by cases e), fun hn => ?_⟩
 have hm0 : 0 < m := by simp at hn; omega
 obtain ⟨b', off', e, hz, hr⟩ := h.2.2 (by omega)
 cases e
 refine ⟨b, off + a * 2, rfl, hz, fun i l hl => ?_⟩
 rw [List.getElem?_take] at hl
 split at hl
 ·rw [List.getElem?_drop] at hl
  obtain ⟨A', c', h1, h2, h3⟩ := hr (a + i) l hl
  exact ⟨A', c', by rw [show off + a * 2 + i * 2 = off + (a + i) * 2 by omega]; exact h1, by rw [show off + a * 2 + i * 2 + 1 = off + (a + i) * 2 + 1 by omega]; exact h2, h3⟩
 ·cases hl
theorem RdL.empty (w : World) (ad : Addr) (c : Nat) : RdL w (some ad) c [] := ⟨by simp, (fun e => by cases e), fun h => by simp at h⟩
section
variable {w0 w : World} {os : List Ob} {v : Value} {hp : List (Value × Bool)}
end
section
variable {T Ts Tf : List Tr} {L : List Ln} {top bot k many cols : Nat} {n : Int} {q : Pen}
end
end Go.Proofs.YtppijfjigcoifaaDoor

namespace Go.Proofs.YtppijfjigcoifaaDoor
open Go.RowKit

section
variable {w0 w : World} {os : List Ob}
end
section
variable {w0 w : World} {os : List Ob} {x cols : Nat} {L : List Ln}
end
end Go.Proofs.YtppijfjigcoifaaDoor

namespace Go.Proofs.YtppijfjigcoifaaDoor
open Go.RowKit

section
variable {w0 w : World} {os : List Ob} {v : Value} {hp : List (Value × Bool)}
end
section
variable {w0 w : World} {os : List Ob} {x cols : Nat} {L : List Ln}
end
end Go.Proofs.YtppijfjigcoifaaDoor

namespace Go.Proofs.YtppijfjigcoifaaDoor
open Go.RowKit

def shiftN (j cols : Nat) (n : Int) (q : Pen) (cs : List Cell) : List Cell :=
 if n = 0 then cs else if 0 < n then shiftR j (min n ((cols - j : Nat) : Int)).toNat q cs else shiftL j (min (-n) ((cols - j : Nat) : Int)).toNat q cs
section
variable {w0 w : World} {os : List Ob} {k p cols : Nat} {L : List Ln}
theorem ShiftG {i j : Nat} (n : Int) (q : Pen) (hT : Tabs w0) (hS : Objs w0 w os) (hk : os[k]? = some (.grid p 58 cols L)) (hcm : cols ≤ 1000) (hR : Rect cols L) (hi : i < L.length) (hq : q.ok = true) (hj : j < cols) (hn : -9223372036854775808 ≤ n ∧ n ≤ 9223372036854775807) :
  Calls Tryd.prog 52 #[.pointer (some ⟨p, 0, none⟩), .int .i64 i, .int .i64 j, .int .i64 n, .agg (pv q)] w fun e w' => e = .returned (.int .i64 0) ∧ Objs w0 w' (os.set k (.grid p 58 cols (rowMod i (shiftN j cols n q) L))) := by
 obtain ⟨l, hl⟩ := get_of hi
 rw [rowMod_some hl]
 have hc : 0 < cols := by omega
 have hrow : l.1.length = cols := hR.at_ hl
 by_cases h0 : n = 0
 ·have e : shiftN j cols n q l.1 = l.1 := if_pos h0
  rw [e, set_self hl]
  exact front_call hS hk (fun os1 h => Shift_none q hT h hc hcm ⟨by omega, by omega⟩ hq h0)
 by_cases h1 : 0 < n
 ·have e : shiftN j cols n q l.1 = shiftR j (min n ((cols - j : Nat) : Int)).toNat q l.1 := by unfold shiftN; rw [if_neg h0, if_pos h1]
  rw [e]
  exact front_call hS hk (fun os1 h => Shift_right q hT h hc hcm hl hrow hq n hj h1 hn.2 (by omega))
 have e : shiftN j cols n q l.1 = shiftL j (min (-n) ((cols - j : Nat) : Int)).toNat q l.1 := by unfold shiftN; rw [if_neg h0, if_neg h1]
 rw [e]
 by_cases h2 : -n < ((cols - j : Nat) : Int)
 ·obtain ⟨m, hm⟩ : ∃ m : Nat, (m : Int) = -n := ⟨(-n).toNat, by omega⟩
  obtain rfl : n = -(m : Int) := by omega
  rw [show (min (-(-(m : Int))) ((cols - j : Nat) : Int)).toNat = m by omega]
  exact front_call hS hk (fun os1 h => Shift_left1 q hT h hc hcm hl hrow hq hj (by omega) (by omega))
 ·rw [show (min (-n) ((cols - j : Nat) : Int)).toNat = cols - j by omega]
  exact front_call hS hk (fun os1 h => Shift_left2 q hT h hc hcm hl hrow hq n hj (by omega) (by omega) hn.1)
theorem Roll_zero {top bot : Int} {n : Int} (q : Pen) (hT : Tabs w0) (hS : Objs w0 w os) (hk : os[k]? = some (.grid p 58 cols L)) (hc : 0 < cols) (hin : 0 ≤ top ∧ top ≤ bot ∧ bot < L.length) (hq : q.ok = true) (hn : n = 0) :
  Calls Tryd.prog 50 #[.pointer (some ⟨p, 0, none⟩), .agg #[.int .i64 top, .int .i64 bot], .int .i64 n, .agg (pv q)] w fun e w' => e = .returned (.tuple #[.slice none 0 0, .int .i64 0]) ∧ Objs w0 w' os := by
 have HQ := Lib.hid hq
 subst hn
 clear hq
 have S := Lib.hid hS
 have HT := Lib.hid hT
 have HK := Lib.hid hk
 have d1 : decide (top < 0) = false := by simp; omega
 have d2 : decide (bot < top) = false := by simp; omega
 have d3 : decide ((L.length : Int) ≤ bot) = false := by simp; omega
 clear hS hT hk
 go_enter Tryd.func50, Tryd.ntmps50
 go_wp2_with fail
 refine (none_no S.out.alloc2 (k := k + 2) HK.out hc).mono ?_
 rintro e w1 ⟨rfl, hS⟩
 generalize w.heap.size + 1 = b7 at hS ⊢
 generalize w.heap.size = b5 at hS ⊢
 have S2 := Lib.hid hS
 obtain ⟨A, c, hB, hcx, -⟩ := hS.gridRd (k := k + 2) HK.out
 obtain ⟨hx5, hf5, hz5⟩ := (hS.box (k := 1) rfl).facts
 obtain ⟨hxp, hfp, hzp⟩ := hB.facts
 clear hS hB S
 go_wp2_with fail
 refine wp_region_below (by kernel_rfl) (by kernel_rfl) ?_
 repeat (go_big_quiet_step (fail))
 refine wpQuiet_nil ?_
 intro w2 hb2
 have S3 := Lib.hid (S2.out.bel hb2)
 clear hx5 hf5 hz5 hxp hfp hzp S2 hb2
 have hp7 := (S3.out.box (k := 0) rfl).penAt
 have hz7 := (S3.out.box (k := 0) rfl).lt
 go_wp2_with fail
 refine (inked_is HQ.out HT.out S3.out).mono ?_
 rintro e w3 ⟨rfl, hS⟩
 have S4 := Lib.hid hS
 clear hS S3 hp7 hz7
 go_wp2_with fail
 go_ret2
 exact ⟨rfl, S4.out.tail.tail⟩
theorem Roll_pen {top bot n : Int} (q : Pen) (hT : Tabs w0) (hS : Objs w0 w os) (hk : os[k]? = some (.grid p 58 cols L)) (hc : 0 < cols) (hin : 0 ≤ top ∧ top ≤ bot ∧ bot < L.length) (hq : q.ok = false) :
  Calls Tryd.prog 50 #[.pointer (some ⟨p, 0, none⟩), .agg #[.int .i64 top, .int .i64 bot], .int .i64 n, .agg (pv q)] w fun e w' => e = .returned (.tuple #[.slice none 0 0, .int .i64 2]) ∧ Objs w0 w' os := by
 have HQ := Lib.hid hq
 clear hq
 have S := Lib.hid hS
 have HT := Lib.hid hT
 have HK := Lib.hid hk
 have d1 : decide (top < 0) = false := by simp; omega
 have d2 : decide (bot < top) = false := by simp; omega
 have d3 : decide ((L.length : Int) ≤ bot) = false := by simp; omega
 clear hS hT hk
 go_enter Tryd.func50, Tryd.ntmps50
 go_wp2_with fail
 refine (none_no S.out.alloc2 (k := k + 2) HK.out hc).mono ?_
 rintro e w1 ⟨rfl, hS⟩
 generalize w.heap.size + 1 = b7 at hS ⊢
 generalize w.heap.size = b5 at hS ⊢
 have S2 := Lib.hid hS
 obtain ⟨A, c, hB, hcx, -⟩ := hS.gridRd (k := k + 2) HK.out
 obtain ⟨hx5, hf5, hz5⟩ := (hS.box (k := 1) rfl).facts
 obtain ⟨hxp, hfp, hzp⟩ := hB.facts
 clear hS hB S
 go_wp2_with fail
 refine wp_region_below (by kernel_rfl) (by kernel_rfl) ?_
 repeat (go_big_quiet_step (fail))
 refine wpQuiet_nil ?_
 intro w2 hb2
 have S3 := Lib.hid (S2.out.bel hb2)
 clear hx5 hf5 hz5 hxp hfp hzp S2 hb2
 have hp7 := (S3.out.box (k := 0) rfl).penAt
 have hz7 := (S3.out.box (k := 0) rfl).lt
 go_wp2_with fail
 refine (inked_is HQ.out HT.out S3.out).mono ?_
 rintro e w3 ⟨rfl, hS⟩
 have S4 := Lib.hid hS
 clear hS S3 hp7 hz7
 go_wp2_with fail
 go_ret2
 exact ⟨rfl, S4.out.tail.tail⟩
theorem Roll_range {top bot n : Int} (q : Pen) (hT : Tabs w0) (hS : Objs w0 w os) (hk : os[k]? = some (.grid p 58 cols L)) (hc : 0 < cols) (hno : ¬ (0 ≤ top ∧ top ≤ bot ∧ bot < L.length)) :
  Calls Tryd.prog 50 #[.pointer (some ⟨p, 0, none⟩), .agg #[.int .i64 top, .int .i64 bot], .int .i64 n, .agg (pv q)] w fun e w' => e = .returned (.tuple #[.slice none 0 0, .int .i64 3]) ∧ Objs w0 w' os := by
 by_cases h1 : top < 0
 ·have S := Lib.hid hS
  have HT := Lib.hid hT
  have HK := Lib.hid hk
  have d1 : decide (top < 0) = true := by simpa using h1
  clear hS hT hk
  go_enter Tryd.func50, Tryd.ntmps50
  go_wp2_with fail
  refine (none_no S.out.alloc2 (k := k + 2) HK.out hc).mono ?_
  rintro e w1 ⟨rfl, hS⟩
  generalize w.heap.size + 1 = b7 at hS ⊢
  generalize w.heap.size = b5 at hS ⊢
  have S2 := Lib.hid hS
  obtain ⟨A, c, hB, hcx, -⟩ := hS.gridRd (k := k + 2) HK.out
  obtain ⟨hx5, hf5, hz5⟩ := (hS.box (k := 1) rfl).facts
  obtain ⟨hxp, hfp, hzp⟩ := hB.facts
  clear hS hB S
  go_wp2_with fail
  refine wp_region_below (by kernel_rfl) (by kernel_rfl) ?_
  repeat (go_big_quiet_step (fail))
  refine wpQuiet_nil ?_
  intro w2 hb2
  have S3 := Lib.hid (S2.out.bel hb2)
  clear hx5 hf5 hz5 hxp hfp hzp S2 hb2
  go_wp2_with fail
  go_ret2
  exact ⟨rfl, S3.out.tail.tail⟩
 by_cases h2 : bot < top
 ·have S := Lib.hid hS
  have HT := Lib.hid hT
  have HK := Lib.hid hk
  have d1 : decide (top < 0) = false := by simp; omega
  have d2 : decide (bot < top) = true := by simpa using h2
  clear hS hT hk
  go_enter Tryd.func50, Tryd.ntmps50
  go_wp2_with fail
  refine (none_no S.out.alloc2 (k := k + 2) HK.out hc).mono ?_
  rintro e w1 ⟨rfl, hS⟩
  generalize w.heap.size + 1 = b7 at hS ⊢
  generalize w.heap.size = b5 at hS ⊢
  have S2 := Lib.hid hS
  obtain ⟨A, c, hB, hcx, -⟩ := hS.gridRd (k := k + 2) HK.out
  obtain ⟨hx5, hf5, hz5⟩ := (hS.box (k := 1) rfl).facts
  obtain ⟨hxp, hfp, hzp⟩ := hB.facts
  clear hS hB S
  go_wp2_with fail
  refine wp_region_below (by kernel_rfl) (by kernel_rfl) ?_
  repeat (go_big_quiet_step (fail))
  refine wpQuiet_nil ?_
  intro w2 hb2
  have S3 := Lib.hid (S2.out.bel hb2)
  clear hx5 hf5 hz5 hxp hfp hzp S2 hb2
  go_wp2_with fail
  go_ret2
  exact ⟨rfl, S3.out.tail.tail⟩
 have S := Lib.hid hS
 have HT := Lib.hid hT
 have HK := Lib.hid hk
 have d1 : decide (top < 0) = false := by simp; omega
 have d2 : decide (bot < top) = false := by simp; omega
 have d3 : decide ((L.length : Int) ≤ bot) = true := by simp; omega
 clear hS hT hk
 go_enter Tryd.func50, Tryd.ntmps50
 go_wp2_with fail
 refine (none_no S.out.alloc2 (k := k + 2) HK.out hc).mono ?_
 rintro e w1 ⟨rfl, hS⟩
 generalize w.heap.size + 1 = b7 at hS ⊢
 generalize w.heap.size = b5 at hS ⊢
 have S2 := Lib.hid hS
 obtain ⟨A, c, hB, hcx, -⟩ := hS.gridRd (k := k + 2) HK.out
 obtain ⟨hx5, hf5, hz5⟩ := (hS.box (k := 1) rfl).facts
 obtain ⟨hxp, hfp, hzp⟩ := hB.facts
 clear hS hB S
 go_wp2_with fail
 refine wp_region_below (by kernel_rfl) (by kernel_rfl) ?_
 repeat (go_big_quiet_step (fail))
 refine wpQuiet_nil ?_
 intro w2 hb2
 have S3 := Lib.hid (S2.out.bel hb2)
 clear hx5 hf5 hz5 hxp hfp hzp S2 hb2
 go_wp2_with fail
 go_ret2
 exact ⟨rfl, S3.out.tail.tail⟩
theorem RollG {top bot : Nat} (n : Int) (q : Pen) (hT : Tabs w0) (hS : Objs w0 w os) (hk : os[k]? = some (.grid p 58 cols L)) (hc : 0 < cols) (hcm : cols ≤ 1000) (hL : L.length ≤ 100000) (htb : top ≤ bot) (hbl : bot < L.length) (hq : q.ok = true) (hn : -9223372036854775808 ≤ n ∧ n ≤ 9223372036854775807) :
  Calls Tryd.prog 50 #[.pointer (some ⟨p, 0, none⟩), .agg #[.int .i64 top, .int .i64 bot], .int .i64 n, .agg (pv q)] w fun e w' => ∃ A m c, e = .returned (.tuple #[.slice A m c, .int .i64 0]) ∧ Objs w0 w' (.lines (.slice A m c) (rollGone top bot n L) :: os.set k (.grid p 58 cols (rollL top bot n q cols L))) := by
 by_cases h0 : n = 0
 ·have e1 : rollGone top bot n L = [] := if_pos h0
  have e2 : rollL top bot n q cols L = L := if_pos h0
  rw [e1, e2, set_self hk]
  exact (Roll_zero (top := top) (bot := bot) q hT hS hk hc ⟨by omega, by omega, by omega⟩ hq h0).mono (fun e w' ⟨h1, h2⟩ => ⟨none, 0, 0, h1, h2.nilLines⟩)
 by_cases h1 : 0 < n
 ·by_cases h2 : n < ((bot + 1 - top : Nat) : Int)
  ·exact (Roll_pos (k := n.toNat) q hT (hS.lift hk) hc hcm hL htb hbl hq h1 (.inl ⟨h2, by omega⟩)).mono (fun e w' ⟨A, m, c, h1, h2⟩ => ⟨A, m, c, h1, h2.lowerNew hk⟩)
  ·exact (Roll_pos (k := bot + 1 - top) q hT (hS.lift hk) hc hcm hL htb hbl hq h1 (.inr ⟨⟨by omega, hn.2⟩, rfl⟩)).mono (fun e w' ⟨A, m, c, h1, h2⟩ => ⟨A, m, c, h1, h2.lowerNew hk⟩)
 ·by_cases h2 : -((bot + 1 - top : Nat) : Int) < n
  ·exact (Roll_neg (k := (-n).toNat) q hT (hS.lift hk) hc hcm hL htb hbl hq (by omega) (.inl ⟨h2, by omega⟩)).mono (fun e w' ⟨A, m, c, h1, h2⟩ => ⟨A, m, c, h1, h2.lowerNew hk⟩)
  ·exact (Roll_neg (k := bot + 1 - top) q hT (hS.lift hk) hc hcm hL htb hbl hq (by omega) (.inr ⟨⟨by omega, hn.1⟩, rfl⟩)).mono (fun e w' ⟨A, m, c, h1, h2⟩ => ⟨A, m, c, h1, h2.lowerNew hk⟩)
end
theorem shiftN_length {j cols : Nat} {n : Int} {q : Pen} {cs : List Cell} (h : cs.length = cols) (hj : j < cols) : (shiftN j cols n q cs).length = cols := by
 unfold shiftN
 split
 ·exact h
 split
 ·rw [shiftR_length (by omega)]; exact h
 ·rw [shiftL_length (by omega)]; exact h
end Go.Proofs.YtppijfjigcoifaaDoor

namespace Go.Proofs.YtppijfjigcoifaaDoor
open Go.RowKit

theorem cAt_set (cs : List Cell) (i j : Nat) (x : Cell) : cAt (cs.set i x) j = if i = j ∧ i < cs.length then x else cAt cs j := by
 unfold cAt
 simp only [List.getD_eq_getElem?_getD, List.getElem?_set]
 by_cases h : i = j
 ·subst h
  by_cases h2 : i < cs.length
  ·simp [h2]
  ·simp [h2]
 ·simp [h]
theorem cAt_brk (c : Nat) (cs : List Cell) (j : Nat) : cAt (brk c cs) j = if (1 ≤ c ∧ c < cs.length ∧ (cAt cs (c - 1)).width = 2) ∧ (j + 1 = c ∨ j = c) then blank (cAt cs j).pen else cAt cs j := by
 cases c with
 | zero => simp [brk]
 | succ m =>
  rw [brk_succ]
  by_cases h : m + 1 < cs.length ∧ (cAt cs m).width = 2
  ·rw [if_pos h, cAt_set, cAt_set]
   simp only [List.length_set, Nat.add_sub_cancel]
   by_cases h1 : m + 1 = j
   ·subst h1; simp [h.1, h.2]
   ·by_cases h2 : m = j
    ·subst h2; simp [h.2, show m < cs.length by omega, h.1]
    ·rw [if_neg (by omega), if_neg (by omega), if_neg (by omega)]
  ·rw [if_neg h, if_neg]
   simp only [Nat.add_sub_cancel]
   intro h2; exact h ⟨h2.1.2.1, h2.1.2.2⟩
theorem cAt_wipe {a m : Nat} {p : Pen} {cs : List Cell} (h : a + m ≤ cs.length) (j : Nat) : cAt (wipeC a m p cs) j = if a ≤ j ∧ j < a + m then blank p else cAt cs j := by
 unfold cAt wipeC
 simp only [List.getD_eq_getElem?_getD]
 by_cases h1 : j < a
 ·rw [if_neg (by omega), List.append_assoc, List.getElem?_append_left (by simp; omega), List.getElem?_take, if_pos h1]
 ·by_cases h2 : j < a + m
  ·rw [if_pos ⟨by omega, h2⟩, List.append_assoc, List.getElem?_append_right (by simp; omega), List.getElem?_append_left (by simp; omega)]
   simp [List.getElem?_replicate, show min a cs.length = a by omega, show j - a < m by omega]
  ·rw [if_neg (by omega), List.getElem?_append_right (by simp; omega), List.getElem?_drop]
   congr 2
   simp; omega
def lnMod (i : Nat) (F : Ln → Ln) (L : List Ln) : List Ln := match L[i]? with | some l => L.set i (F l) | none => L
theorem lnMod_get (i : Nat) (F : Ln → Ln) (L : List Ln) (r : Nat) : (lnMod i F L)[r]? = (L[r]?).map (fun l => if r = i then F l else l) := by
 unfold lnMod
 split
 ·rename_i l hl
  rw [List.getElem?_set]
  by_cases h : i = r
  ·subst h
   have hi := (List.getElem?_eq_some_iff.1 hl).1
   rw [if_pos rfl, if_pos hi, hl]
   simp
  ·rw [if_neg h]
   have h' : ¬ r = i := fun e => h e.symm
   simp [h']
 ·rename_i hl
  by_cases h : r = i
  ·subst h; rw [hl]; rfl
  ·simp [h]
theorem rowMod_is (i : Nat) (f : List Cell → List Cell) (L : List Ln) : rowMod i f L = lnMod i (fun l => (f l.1, l.2)) L := rfl
theorem softMod_is (i : Nat) (s : Bool) (L : List Ln) : softMod i s L = lnMod i (fun l => (l.1, s)) L := rfl
theorem Rect.lnMod {n : Nat} {L : List Ln} (h : Rect n L) (i : Nat) {F : Ln → Ln} (hF : ∀ l : Ln, l.1.length = n → (F l).1.length = n) : Rect n (lnMod i F L) := by
 unfold Proofs.YtppijfjigcoifaaDoor.lnMod
 split
 ·rename_i l hl; exact rect_set h (hF _ (h.at_ hl))
 ·exact h
def otherRow (row : Nat) (k : Int) (n : Nat) : Prop := (n < row ∧ ¬ k = 0) ∨ (row < n ∧ ¬ k = 1)
instance (row : Nat) (k : Int) (n : Nat) : Decidable (otherRow row k n) := by unfold otherRow; infer_instance
section
variable {cols row col : Nat} {k : Int} {q : Pen} {L : List Ln}
end
end Go.Proofs.YtppijfjigcoifaaDoor

namespace Go.Proofs.YtppijfjigcoifaaDoor
open Go.RowKit

def hardIf (b : Prop) [Decidable b] (l : Ln) : Ln := if b then (l.1, false) else l
def freshLn (cols : Nat) (q : Pen) : Ln := (List.replicate cols (blank q), false)
theorem hardIf_no {b : Prop} [Decidable b] (h : ¬ b) : hardIf b = id := by funext l; simp [hardIf, h]
theorem softMod_get (i : Nat) (L : List Ln) (r : Nat) : (softMod i false L)[r]? = (L[r]?).map (hardIf (r = i)) := by
  rw [softMod_is, lnMod_get]; rfl
theorem rollFresh_get {k cols r : Nat} {q : Pen} (h : r < k) : (rollFresh k cols q)[r]? = some (freshLn cols q) := by simp [rollFresh, freshLn, h]
theorem rollFresh_len (k cols : Nat) (q : Pen) : (rollFresh k cols q).length = k := by simp [rollFresh]
def rollAt (top bot : Nat) (n : Int) (q : Pen) (cols : Nat) (L : List Ln) (r : Nat) : Option Ln :=
  if n = 0 then L[r]? else
  (if r < top ∨ bot < r then L[r]?
   else if 0 < n then (if r + rollK n (bot + 1 - top) ≤ bot then (L[r + rollK n (bot + 1 - top)]?).map (hardIf (r + rollK n (bot + 1 - top) = bot)) else some (freshLn cols q))
   else (if r < top + rollK n (bot + 1 - top) then some (freshLn cols q) else (L[r - rollK n (bot + 1 - top)]?).map (hardIf (r = bot)))).map (hardIf (0 < top ∧ r + 1 = top))
section
variable {top bot : Nat} {n : Int} {q : Pen} {cols : Nat} {L : List Ln}
theorem rollIn_get {r : Nat} (hr : r < bot + 1 - top) : (rollIn top bot L)[r]? = L[top + r]? := by
  unfold rollIn; rw [List.getElem?_take, if_pos hr, List.getElem?_drop]
theorem rollMid_get (htb : top ≤ bot) (hbl : bot < L.length) {r : Nat} (hr : r < bot + 1 - top) :
    (rollMid top bot n q cols L)[r]? = if 0 < n then (if r + rollK n (bot + 1 - top) ≤ bot - top then (L[top + r + rollK n (bot + 1 - top)]?).map (hardIf (r + rollK n (bot + 1 - top) = bot - top)) else some (freshLn cols q))
      else (if r < rollK n (bot + 1 - top) then some (freshLn cols q) else (L[top + r - rollK n (bot + 1 - top)]?).map (hardIf (r = bot - top))) := by
  have hK := rollK_le n (bot + 1 - top)
  have hSl := rollStay_length (n := n) htb hbl
  unfold rollMid
  by_cases h0 : 0 < n
  · rw [if_pos h0, if_pos h0]
    by_cases h1 : r + rollK n (bot + 1 - top) ≤ bot - top
    · rw [if_pos h1, List.getElem?_append_left (by rw [lastHard_length, hSl]; omega)]
      unfold lastHard
      rw [softMod_get, hSl]
      unfold rollStay
      rw [if_pos h0, List.getElem?_drop, rollIn_get (by omega), show top + (rollK n (bot + 1 - top) + r) = top + r + rollK n (bot + 1 - top) by omega]
      congr 1
      funext l
      unfold hardIf
      by_cases h2 : r + rollK n (bot + 1 - top) = bot - top
      · rw [if_pos (by omega), if_pos h2]
      · rw [if_neg (by omega), if_neg h2]
    · rw [if_neg h1, List.getElem?_append_right (by rw [lastHard_length, hSl]; omega), rollFresh_get (by rw [lastHard_length, hSl]; omega)]
  · rw [if_neg h0, if_neg h0]
    by_cases h1 : r < rollK n (bot + 1 - top)
    · rw [if_pos h1, List.getElem?_append_left (by rw [rollFresh_len]; exact h1), rollFresh_get h1]
    · rw [if_neg h1, List.getElem?_append_right (by rw [rollFresh_len]; omega), rollFresh_len]
      unfold lastHard
      rw [softMod_get, hSl]
      unfold rollStay
      rw [if_neg h0, List.getElem?_take, if_pos (by omega), rollIn_get (by omega), show top + (r - rollK n (bot + 1 - top)) = top + r - rollK n (bot + 1 - top) by omega]
      congr 1
      funext l
      unfold hardIf
      by_cases h2 : r = bot - top
      · rw [if_pos (by omega), if_pos h2]
      · rw [if_neg (by omega), if_neg h2]
theorem topHard_get (r : Nat) : (topHard top L)[r]? = (L[r]?).map (hardIf (0 < top ∧ r + 1 = top)) := by
  unfold topHard
  by_cases h : 0 < top
  · rw [if_pos h, softMod_get]
    congr 1
    funext l
    unfold hardIf
    by_cases h2 : r = top - 1
    · rw [if_pos h2, if_pos (by omega)]
    · rw [if_neg h2, if_neg (by omega)]
  · rw [if_neg h, hardIf_no (by omega)]; simp
theorem rollL_get (htb : top ≤ bot) (hbl : bot < L.length) (r : Nat) : (rollL top bot n q cols L)[r]? = rollAt top bot n q cols L r := by
  unfold rollL rollAt
  by_cases h0 : n = 0
  · rw [if_pos h0, if_pos h0]
  rw [if_neg h0, if_neg h0, topHard_get]
  congr 1
  have hM := rollMid_length (n := n) (q := q) (cols := cols) htb hbl
  by_cases h1 : r < top
  · rw [List.getElem?_append_left (by simp; omega), List.getElem?_take, if_pos h1, if_pos (.inl h1)]
  have hTl : (L.take top).length = top := by simp; omega
  rw [List.getElem?_append_right (by omega), hTl]
  by_cases h2 : bot < r
  · rw [List.getElem?_append_right (by omega), hM, List.getElem?_drop, if_pos (.inr h2), show bot + 1 + (r - top - (bot + 1 - top)) = r by omega]
  rw [List.getElem?_append_left (by omega), rollMid_get htb hbl (by omega), if_neg (by omega : ¬ (r < top ∨ bot < r))]
  by_cases h3 : 0 < n
  · rw [if_pos h3, if_pos h3]
    by_cases h4 : r + rollK n (bot + 1 - top) ≤ bot
    · rw [if_pos (by omega), if_pos h4, show top + (r - top) = r by omega]
      congr 1
      funext l
      unfold hardIf
      by_cases h5 : r + rollK n (bot + 1 - top) = bot
      · rw [if_pos (by omega), if_pos h5]
      · rw [if_neg (by omega), if_neg h5]
    · rw [if_neg (show ¬ r - top + rollK n (bot + 1 - top) ≤ bot - top by omega), if_neg h4]
  · rw [if_neg h3, if_neg h3]
    by_cases h4 : r < top + rollK n (bot + 1 - top)
    · rw [if_pos (show r - top < rollK n (bot + 1 - top) by omega), if_pos h4]
    · rw [if_neg (show ¬ r - top < rollK n (bot + 1 - top) by omega), if_neg h4, show top + (r - top) = r by omega]
      congr 1
      funext l
      unfold hardIf
      by_cases h5 : r = bot
      · rw [if_pos (by omega), if_pos h5]
      · rw [if_neg (by omega), if_neg h5]
theorem hardIf_fresh (a : Prop) [Decidable a] (cols : Nat) (q : Pen) : hardIf a (freshLn cols q) = freshLn cols q := by
  unfold hardIf freshLn; split <;> rfl
theorem rollAt_out (hn : ¬ n = 0) {r : Nat} (h : r < top ∨ bot < r) : rollAt top bot n q cols L r = (L[r]?).map (hardIf (0 < top ∧ r + 1 = top)) := by
  unfold rollAt; rw [if_neg hn, if_pos h]
theorem rollAt_up (hn : 0 < n) {r K : Nat} (hK : rollK n (bot + 1 - top) = K) (h : ¬ (r < top ∨ bot < r)) (h2 : r + K ≤ bot) : rollAt top bot n q cols L r = (L[r + K]?).map (hardIf (r + K = bot)) := by
  subst hK
  unfold rollAt
  rw [if_neg (show ¬ n = 0 by omega), if_neg h, if_pos hn, if_pos h2, hardIf_no (show ¬ (0 < top ∧ r + 1 = top) by omega), Option.map_id, id]
theorem rollAt_upf (hn : 0 < n) {r K : Nat} (hK : rollK n (bot + 1 - top) = K) (h : ¬ (r < top ∨ bot < r)) (h2 : ¬ r + K ≤ bot) : rollAt top bot n q cols L r = some (freshLn cols q) := by
  subst hK
  unfold rollAt
  rw [if_neg (show ¬ n = 0 by omega), if_neg h, if_pos hn, if_neg h2, Option.map_some, hardIf_fresh]
theorem rollAt_dnf (hn : n < 0) {r K : Nat} (hK : rollK n (bot + 1 - top) = K) (h : ¬ (r < top ∨ bot < r)) (h2 : r < top + K) : rollAt top bot n q cols L r = some (freshLn cols q) := by
  subst hK
  unfold rollAt
  rw [if_neg (show ¬ n = 0 by omega), if_neg h, if_neg (show ¬ 0 < n by omega), if_pos h2, Option.map_some, hardIf_fresh]
theorem rollAt_dn (hn : n < 0) {r K : Nat} (hK : rollK n (bot + 1 - top) = K) (h : ¬ (r < top ∨ bot < r)) (h2 : ¬ r < top + K) : rollAt top bot n q cols L r = (L[r - K]?).map (hardIf (r = bot)) := by
  subst hK
  unfold rollAt
  rw [if_neg (show ¬ n = 0 by omega), if_neg h, if_neg (show ¬ 0 < n by omega), if_neg h2, hardIf_no (show ¬ (0 < top ∧ r + 1 = top) by omega), Option.map_id, id]
end
end Go.Proofs.YtppijfjigcoifaaDoor

namespace Go.Proofs.YtppijfjigcoifaaDoor
open Go.RowKit

theorem brk_before {c : Nat} {cs : List Cell} (h1 : 1 ≤ c) (hc : c < cs.length) : ¬ (cAt (brk c cs) (c - 1)).width = 2 := by
 rw [cAt_brk]
 split
 ·simp [blank]
 ·rename_i h; intro h2; exact h ⟨⟨h1, hc, h2⟩, by omega⟩
section
variable {j k m : Nat} {q : Pen} {cs : List Cell}
theorem cAt_shiftR (h : j + k ≤ cs.length) {i : Nat} (hi : i < cs.length) : cAt (shiftR j k q cs) i = if i < j then cAt (brk (cs.length - k) (brk j cs)) i else if i < j + k then blank q else cAt (brk (cs.length - k) (brk j cs)) (i - k) := by
 obtain ⟨l, hl⟩ : ∃ l, l = brk (cs.length - k) (brk j cs) := ⟨_, rfl⟩
 have hll : l.length = cs.length := by rw [hl, brk_length, brk_length]
 unfold shiftR
 simp only [← hl]
 have ht : (l.take j).length = j := by simp; omega
 unfold cAt
 simp only [List.getD_eq_getElem?_getD]
 by_cases h1 : i < j
 ·rw [if_pos h1, List.getElem?_append_left (by omega), List.getElem?_take, if_pos h1]
 ·rw [if_neg h1, List.getElem?_append_right (by omega), ht]
  by_cases h2 : i < j + k
  ·rw [if_pos h2, List.getElem?_append_left (by simp; omega)]
   simp [List.getElem?_replicate, show i - j < k by omega]
  ·rw [if_neg h2, List.getElem?_append_right (by simp; omega), List.length_replicate, List.getElem?_take, if_pos (by omega), List.getElem?_drop, show j + (i - j - k) = i - k by omega]
theorem cAt_shiftL (h : j + k ≤ cs.length) {i : Nat} (hi : i < cs.length) : cAt (shiftL j k q cs) i = if i < j then cAt (brk (j + k) (brk j cs)) i else if i < cs.length - k then cAt (brk (j + k) (brk j cs)) (i + k) else blank q := by
 obtain ⟨l, hl⟩ : ∃ l, l = brk (j + k) (brk j cs) := ⟨_, rfl⟩
 have hll : l.length = cs.length := by rw [hl, brk_length, brk_length]
 unfold shiftL
 simp only [← hl]
 have ht : (l.take j).length = j := by simp; omega
 unfold cAt
 simp only [List.getD_eq_getElem?_getD]
 by_cases h1 : i < j
 ·rw [if_pos h1, List.getElem?_append_left (by omega), List.getElem?_take, if_pos h1]
 ·rw [if_neg h1, List.getElem?_append_right (by omega), ht]
  by_cases h2 : i < cs.length - k
  ·rw [if_pos h2, List.getElem?_append_left (by simp; omega), List.getElem?_drop, show j + k + (i - j) = i + k by omega]
  ·rw [if_neg h2, List.getElem?_append_right (by simp; omega)]
   simp [List.getElem?_replicate, show i - j - (l.length - (j + k)) < k by omega]
def W2 (cs : List Cell) : Prop := ∀ i, i + 1 < cs.length → (cAt cs i).width = 2 → ¬ (cAt cs (i + 1)).width = 2
theorem W2.brk {cs : List Cell} (h : W2 cs) (c : Nat) : W2 (brk c cs) := fun i hi h1 h2 => by
 rw [brk_length] at hi
 rw [cAt_brk] at h1 h2
 split at h1
 ·simp [blank] at h1
 ·split at h2
  ·simp [blank] at h2
  ·exact h i hi h1 h2
end
section
variable {j cols a b : Nat} {q : Pen} {cs : List Cell}
end
end Go.Proofs.YtppijfjigcoifaaDoor

namespace Go.Proofs.YtppijfjigcoifaaDoor
open Go.RowKit

section
variable {w0 w : World} {os : List Ob} {k p cols : Nat} {L : List Ln}
end
end Go.Proofs.YtppijfjigcoifaaDoor

namespace Go.Proofs.YtppijfjigcoifaaDoor
open Go.RowKit

section
variable {w0 w : World} {os : List Ob} {k p cols : Nat} {L : List Ln}
end
end Go.Proofs.YtppijfjigcoifaaDoor

namespace Go.Proofs.YtppijfjigcoifaaDoor
open Go.RowKit

section
variable {w0 w : World} {os : List Ob} {k p cols : Nat} {L : List Ln}
end
end Go.Proofs.YtppijfjigcoifaaDoor

namespace Go.Proofs.YtppijfjigcoifaaDoor
open Go.RowKit

section
variable {w0 w : World} {os : List Ob} {k p cols : Nat} {L : List Ln} {row col : Int} {pend : Bool}
def NoRows (w : World) (gp : Value) : Prop := ∀ w', Below w.heap.size w w' → Calls Tryd.prog 17 #[gp] w' fun e w2 => e = .returned (.int .i64 0) ∧ Below w'.heap.size w' w2
theorem NoRows.bel {gp : Value} {w' : World} (h : NoRows w gp) (hb : Below w.heap.size w w') : NoRows w' gp := fun w2 hb2 => h w2 (hb.trans (hb2.mono hb.size))
end
end Go.Proofs.YtppijfjigcoifaaDoor

namespace Go.Proofs.YtppijfjigcoifaaDoor
open Go.RowKit

open Classical in
noncomputable def recAt (w : World) (b o n : Nat) : Option (Array Value) := if h : ∃ cs : Array Value, cs.size = n ∧ w.rangeAt b o cs.toList then some h.choose else none
theorem recAt_of {w : World} {b o n : Nat} {cs : Array Value} (hn : cs.size = n) (h : w.rangeAt b o cs.toList) : recAt w b o n = some cs := by
 have hx : ∃ cs : Array Value, cs.size = n ∧ w.rangeAt b o cs.toList := ⟨cs, hn, h⟩
 unfold recAt
 rw [dif_pos hx]
 exact congrArg some (rangeAt_det (by rw [hx.choose_spec.1, hn]) hx.choose_spec.2 h)
theorem range_of_recAt {w : World} {b o n : Nat} {cs : Array Value} (h : recAt w b o n = some cs) : cs.size = n ∧ w.rangeAt b o cs.toList := by
 unfold recAt at h
 split at h
 ·rename_i hx; have := hx.choose_spec; rw [Option.some.inj h] at this; exact this
 ·cases h
theorem recAt_same {w w' : World} {b : Nat} (h : ∀ i, w'.cell? ⟨b, i, none⟩ = w.cell? ⟨b, i, none⟩) (o n : Nat) : recAt w' b o n = recAt w b o n := by
 cases h1 : recAt w b o n with
 | some c => exact recAt_of (range_of_recAt h1).1 ((rangeAt_same h).2 (range_of_recAt h1).2)
 | none =>
  cases h2 : recAt w' b o n with
  | none => rfl
  | some c => rw [recAt_of (range_of_recAt h2).1 ((rangeAt_same h).1 (range_of_recAt h2).2)] at h1; cases h1
@[go_sem] theorem recAt_alloc (w : World) (ob : Obj) (b o n : Nat) (h : b < w.heap.size) : recAt (w.alloc ob) b o n = recAt w b o n := recAt_same (fun i => World.cell?_alloc_lt w ob ⟨b, i, none⟩ h) o n
theorem recAt_below {w w' : World} {B b : Nat} (hb : Below B w w') (h : b < B) (o n : Nat) : recAt w' b o n = recAt w b o n := recAt_same (fun i => hb.cell (p := ⟨b, i, none⟩) h) o n
@[go_sem] theorem recAt_plus (w x : World) (b o n : Nat) (h : b < w.heap.size) : recAt (plus w x) b o n = recAt w b o n := recAt_same (fun i => cell_plus w x b i h) o n
@[go_sem] theorem recAt_drew (w : World) (b o n : Nat) : recAt w.drew b o n = recAt w b o n := rfl
theorem Blk.recAt {w : World} {g : Nat} {t : TypeId} {cs : Array Value} (h : Blk w g t cs) (n : Nat) (hn : cs.size = n) : Proofs.YtppijfjigcoifaaDoor.recAt w g 0 n = some cs := recAt_of hn h.range
def ldR (a : Addr) (n : Nat) : Sem (Array Value) := loadCells a n
theorem ldR_of {w : World} {b o n : Nat} {cs : Array Value} (h : recAt w b o n = some cs) : (ldR ⟨b, o, none⟩ n).run Tryd.prog w = .ok cs w := by
 obtain ⟨hn, hr⟩ := range_of_recAt h
 have := run_loadCells_list (P := Tryd.prog) w ⟨b, o, none⟩ cs.toList (fun j v hv => by rw [add_at]; exact hr j v hv)
 subst hn
 simpa [ldR] using this
@[go_sem] theorem run_ldC_row (w : World) (b o : Nat) (h : (recAt w b o 16).isSome = true) : (ldC ⟨b, o, none⟩).run Tryd.prog w = .ok ((recAt w b o 16).getD #[]) w := by
 obtain ⟨c, hc⟩ := Option.isSome_iff_exists.1 h
 rw [hc]; exact ldR_of hc
@[go_sem] theorem run_ldR (w : World) (b o n : Nat) (h : (recAt w b o n).isSome = true) : (ldR ⟨b, o, none⟩ n).run Tryd.prog w = .ok ((recAt w b o n).getD #[]) w := by
 obtain ⟨c, hc⟩ := Option.isSome_iff_exists.1 h
 rw [hc]; exact ldR_of hc
def RdRec (w : World) (A : Option Addr) (c k : Nat) (rs : List (Array Value)) : Prop := rs.length ≤ c ∧ (A = none → c = 0) ∧ (0 < rs.length → ∃ b off, A = some ⟨b, off, none⟩ ∧ b < w.heap.size ∧ ∀ (i : Nat) (r : Array Value), rs[i]? = some r → recAt w b (off + i * k) k = some r)
theorem RdRec.bel {w w' : World} {A : Option Addr} {c k : Nat} {rs : List (Array Value)} (h : RdRec w A c k rs) (hb : Below w.heap.size w w') : RdRec w' A c k rs := ⟨h.1, h.2.1, fun hn => by
 obtain ⟨b, off, rfl, hz, hr⟩ := h.2.2 hn
 exact ⟨b, off, rfl, by have := hb.size; omega, fun i r hi => (recAt_below hb hz _ _).trans (hr i r hi)⟩⟩
theorem RdRec.at_ {w : World} {A : Option Addr} {c k : Nat} {rs : List (Array Value)} (h : RdRec w A c k rs) {i : Nat} {r : Array Value} (hi : rs[i]? = some r) : ∃ b off, A = some ⟨b, off, none⟩ ∧ b < w.heap.size ∧ recAt w b (off + i * k) k = some r := by
 have hl := (List.getElem?_eq_some_iff.1 hi).1
 obtain ⟨b, off, rfl, hz, hr⟩ := h.2.2 (by omega)
 exact ⟨b, off, rfl, hz, hr i r hi⟩
end Go.Proofs.YtppijfjigcoifaaDoor

namespace Go.Proofs.YtppijfjigcoifaaDoor
open Go.RowKit

structure Chg18 where
 g : Value
 row : Int
 col : Int
 pend : Bool
 top : Int
 bot : Int
 rows : Bool
 n : Int
 q : Pen
def ach (a : Chg18) : Array Value := #[a.g, .int .i64 a.row, .int .i64 a.col, .bool a.pend, .int .i64 a.top, .int .i64 a.bot, .bool a.rows, .int .i64 a.n, .int .i64 a.q.fk, .int .u8 a.q.fi, .int .u8 a.q.fr, .int .u8 a.q.fg, .int .u8 a.q.fb, .int .i64 a.q.bk, .int .u8 a.q.bi, .int .u8 a.q.br, .int .u8 a.q.bg, .int .u8 a.q.bb, .int .u8 a.q.fl]
@[go_sem] theorem ach_size (a : Chg18) : (ach a).size = 19 := by simp [ach]
@[simp high, go_sem high] theorem ach_get0 (a : Chg18) : (ach a)[0]? = some a.g := by simp [ach]
@[simp high, go_sem high] theorem ach_get1 (a : Chg18) : (ach a)[1]? = some (.int .i64 a.row) := by simp [ach]
@[simp high, go_sem high] theorem ach_get2 (a : Chg18) : (ach a)[2]? = some (.int .i64 a.col) := by simp [ach]
@[simp high, go_sem high] theorem ach_get3 (a : Chg18) : (ach a)[3]? = some (.bool a.pend) := by simp [ach]
@[simp high, go_sem high] theorem ach_get4 (a : Chg18) : (ach a)[4]? = some (.int .i64 a.top) := by simp [ach]
@[simp high, go_sem high] theorem ach_get5 (a : Chg18) : (ach a)[5]? = some (.int .i64 a.bot) := by simp [ach]
@[simp high, go_sem high] theorem ach_get6 (a : Chg18) : (ach a)[6]? = some (.bool a.rows) := by simp [ach]
@[simp high, go_sem high] theorem ach_get7 (a : Chg18) : (ach a)[7]? = some (.int .i64 a.n) := by simp [ach]
theorem ach_pen {w : World} {b o : Nat} {a : Chg18} (h : w.rangeAt b o (ach a).toList) : penAt w b (o + 8) = some a.q := penAt_of fun j v hv => by
 have := h (8 + j) v (by rw [← hv]; show ((ach a).toList)[8 + j]? = _; rw [← List.getElem?_drop]; rfl)
 rw [show o + 8 + j = o + (8 + j) by omega]; exact this
theorem Blk.ach_pen {w : World} {g : Nat} {t : TypeId} {a : Chg18} (h : Blk w g t (ach a)) : Proofs.YtppijfjigcoifaaDoor.penAt w g 8 = some a.q := by have := Proofs.YtppijfjigcoifaaDoor.ach_pen h.range; simpa using this
section
variable {w0 w : World} {os : List Ob} {k p cols : Nat} {L : List Ln}
end
end Go.Proofs.YtppijfjigcoifaaDoor

namespace Go.Proofs.YtppijfjigcoifaaDoor
open Go.RowKit

@[go_sem ↓] theorem load_ldR19 (a : Addr) : loadCellsFrom a 0 19 #[] = ldR a 19 := rfl
@[go_sem] theorem fill_ach (g : Value) (r c t b n : Int) (pe ro : Bool) (q : Pen) : Array.foldl (fun cs x => cs.setIfInBounds (8 + x.snd) x.fst) #[g, .int .i64 r, .int .i64 c, .bool pe, .int .i64 t, .int .i64 b, .bool ro, .int .i64 n, .int .i64 0, .int .u8 0, .int .u8 0, .int .u8 0, .int .u8 0, .int .i64 0, .int .u8 0, .int .u8 0, .int .u8 0, .int .u8 0, .int .u8 0] (pv q).zipIdx 0 11 = ach ⟨g, r, c, pe, t, b, ro, n, q⟩ := by kernel_rfl
theorem Blk.ach {w : World} {g : Nat} {t : TypeId} {a : Chg18} (h : Blk w g t (Proofs.YtppijfjigcoifaaDoor.ach a)) : (∀ i, w.cell? ⟨g, i, none⟩ = (Proofs.YtppijfjigcoifaaDoor.ach a)[i]?) ∧ (∀ i, w.frozen? ⟨g, i, none⟩ = false) ∧ g < w.heap.size ∧ Proofs.YtppijfjigcoifaaDoor.recAt w g 0 19 = some (Proofs.YtppijfjigcoifaaDoor.ach a) ∧ Proofs.YtppijfjigcoifaaDoor.penAt w g 8 = some a.q :=
 ⟨h.cell, h.frozen, h.lt, h.recAt 19 (ach_size a), h.ach_pen⟩
def NoGrid (w : World) (gp : Value) : Prop := NoRows w gp ∧ ∀ w', Below w.heap.size w w' → Calls Tryd.prog 18 #[gp] w' fun e w2 => e = .returned (.int .i64 0) ∧ Below w'.heap.size w' w2
theorem NoGrid.bel {w w' : World} {gp : Value} (h : NoGrid w gp) (hb : Below w.heap.size w w') : NoGrid w' gp := ⟨h.1.bel hb, fun w2 hb2 => h.2 w2 (hb.trans (hb2.mono hb.size))⟩
section
variable {w0 w : World} {os : List Ob} {k p cols : Nat} {L : List Ln}
end
end Go.Proofs.YtppijfjigcoifaaDoor

namespace Go.Proofs.YtppijfjigcoifaaDoor
open Go.RowKit

theorem eqIn_cursor (a b c d : Int) (x y : Bool) (w : World) : (Op.equalIn 10000 48 (.agg #[.int .i64 a, .int .i64 b, .bool x]) (.agg #[.int .i64 c, .int .i64 d, .bool y])).run Tryd.prog w = .ok (decide (a = c ∧ b = d ∧ x = y)) w := by
 by_cases h0 : a = c
 case neg => simp [go_sem, h0]
 by_cases h1 : b = d
 case neg => simp [go_sem, h0, h1]
 cases x <;> cases y <;> simp [go_sem, h0, h1]
section
variable {w0 w : World} {os : List Ob} {k p cols : Nat} {L : List Ln}
end
end Go.Proofs.YtppijfjigcoifaaDoor

namespace Go.Proofs.YtppijfjigcoifaaDoor
open Go.RowKit

section
variable {w0 w : World} {os : List Ob} {k p cols : Nat} {L : List Ln}
end
end Go.Proofs.YtppijfjigcoifaaDoor

namespace Go.Proofs.YtppijfjigcoifaaDoor
open Go.RowKit

section
variable {w0 w : World} {os : List Ob} {k p cols : Nat} {L : List Ln}
end
end Go.Proofs.YtppijfjigcoifaaDoor

namespace Go.Proofs.YtppijfjigcoifaaDoor
open Go.RowKit

section
variable {w0 w : World} {os : List Ob} {k p cols : Nat} {L : List Ln}
end
end Go.Proofs.YtppijfjigcoifaaDoor

namespace Go.Proofs.YtppijfjigcoifaaDoor
open Go.RowKit

@[go_sem ↓] theorem load_ldR18b (a : Addr) : loadCellsFrom a 0 18 #[] = ldR a 18 := rfl
attribute [go_sem high] eqIn_cursor
structure Act19 where
 what : Int
 n : Int
 top : Int
 bot : Int
 row : Int
 col : Int
 pend : Bool
 q : Pen
def av19 (a : Act19) : Array Value := #[.int .i64 a.what, .int .i64 a.n, .int .i64 a.top, .int .i64 a.bot, .int .i64 a.row, .int .i64 a.col, .bool a.pend, .int .i64 a.q.fk, .int .u8 a.q.fi, .int .u8 a.q.fr, .int .u8 a.q.fg, .int .u8 a.q.fb, .int .i64 a.q.bk, .int .u8 a.q.bi, .int .u8 a.q.br, .int .u8 a.q.bg, .int .u8 a.q.bb, .int .u8 a.q.fl]
@[go_sem] theorem av19_size (a : Act19) : (av19 a).size = 18 := by simp [av19]
@[simp high, go_sem high] theorem av19_get0 (a : Act19) : (av19 a)[0]? = some (.int .i64 a.what) := by simp [av19]
@[simp high, go_sem high] theorem av19_get1 (a : Act19) : (av19 a)[1]? = some (.int .i64 a.n) := by simp [av19]
@[simp high, go_sem high] theorem av19_get2 (a : Act19) : (av19 a)[2]? = some (.int .i64 a.top) := by simp [av19]
@[simp high, go_sem high] theorem av19_get3 (a : Act19) : (av19 a)[3]? = some (.int .i64 a.bot) := by simp [av19]
@[simp high, go_sem high] theorem av19_get4 (a : Act19) : (av19 a)[4]? = some (.int .i64 a.row) := by simp [av19]
@[simp high, go_sem high] theorem av19_get5 (a : Act19) : (av19 a)[5]? = some (.int .i64 a.col) := by simp [av19]
@[simp high, go_sem high] theorem av19_get6 (a : Act19) : (av19 a)[6]? = some (.bool a.pend) := by simp [av19]
@[go_sem] theorem av19_set0 (a : Act19) (n : Int) : (av19 a).setIfInBounds 0 (.int .i64 n) = av19 { a with what := n } := by simp [av19]
@[go_sem] theorem av19_set1 (a : Act19) (n : Int) : (av19 a).setIfInBounds 1 (.int .i64 n) = av19 { a with n := n } := by simp [av19]
theorem rollL_rect19 {top bot : Nat} {n : Int} {q : Pen} {cols : Nat} {L : List Ln} (hR : Rect cols L) (htb : top ≤ bot) (hbl : bot < L.length) : Rect cols (rollL top bot n q cols L) := fun l hl => by
 obtain ⟨r, hr, rfl⟩ := List.getElem_of_mem hl
 have h1 := rollL_get (n := n) (q := q) (cols := cols) htb hbl r
 rw [List.getElem?_eq_getElem hr] at h1
 have hm : ∀ (o : Option Ln) (p : Prop) [Decidable p] (x : Ln), (∀ y : Ln, o = some y → y.1.length = cols) → some x = o.map (hardIf p) → x.1.length = cols := fun o p _ x ho h => by
  cases o with
  | none => simp at h
  | some y => simp only [Option.map_some, Option.some.injEq] at h; subst h; unfold hardIf; split <;> exact ho y rfl
 have hL : ∀ (i : Nat) (y : Ln), L[i]? = some y → y.1.length = cols := fun i y h => hR y (List.mem_of_getElem? h)
 by_cases hn : n = 0
 ·unfold rollAt at h1; rw [if_pos hn] at h1; exact hL r _ h1.symm
 by_cases ho : r < top ∨ bot < r
 ·rw [rollAt_out hn ho] at h1; exact hm _ _ _ (hL r) h1
 by_cases hp : 0 < n
 ·by_cases h2 : r + rollK n (bot + 1 - top) ≤ bot
  ·rw [rollAt_up hp rfl ho h2] at h1; exact hm _ _ _ (hL _) h1
  ·rw [rollAt_upf hp rfl ho h2] at h1; simp only [Option.some.injEq] at h1; rw [h1]; simp [freshLn]
 ·have hn2 : n < 0 := by omega
  by_cases h2 : r < top + rollK n (bot + 1 - top)
  ·rw [rollAt_dnf hn2 rfl ho h2] at h1; simp only [Option.some.injEq] at h1; rw [h1]; simp [freshLn]
  ·rw [rollAt_dn hn2 rfl ho h2] at h1; exact hm _ _ _ (hL _) h1
end Go.Proofs.YtppijfjigcoifaaDoor

namespace Go.Proofs.YtppijfjigcoifaaDoor
open Go.RowKit

section
variable {w0 w : World} {os : List Ob}
set_option maxHeartbeats 1000000 in
theorem fit_yes (A : Option Addr) (c : Nat) (cs : List Cell) (s : Bool) (n : Nat) (hn : n ≤ 1000) (hT : Tabs w0) (hS : Objs w0 w os) (ha : RdC w A c cs) (hl : cs.length ≤ 100000) (hv : lineOk cs = true) :
  Calls Tryd.prog 61 #[.agg #[.slice A cs.length c, .bool s], .int .i64 n] w fun e w' => ∃ v, e = .returned (.tuple #[.agg #[v, .bool s], .int .i64 0]) ∧ Objs w0 w' (.cells v (fitTo n cs) :: os) := by
 have S := Lib.hid hS
 have HT := Lib.hid hT
 have HA := Lib.hid ha
 have HV := Lib.hid hv
 clear hS hT ha hv
 go_enter Tryd.func61, Tryd.ntmps61
 go_wp2_with fail
 refine (lvalid_is HV.out _ _ _ _ (S.out.alloc2.tabs HT.out) ((HA.out.alloc _).alloc _) (by omega)).mono ?_
 rintro e w1 ⟨rfl, hb⟩
 have S1 := Lib.hid (S.out.alloc2.bel hb)
 have HA1 := Lib.hid (((HA.out.alloc _).alloc _).bel hb)
 obtain ⟨hx2, hf2, hz2⟩ := (S1.out.box (k := 1) rfl).facts
 obtain ⟨hx4, hf4, hz4⟩ := (S1.out.box (k := 0) rfl).facts
 clear hb
 go_wp2_with fail
 refine (lineCopy_any A c cs s _ HA1.out (by omega)).mono ?_
 rintro e w2 ⟨v2, rfl, ho, hb⟩
 have S2 := Lib.hid (S1.out.newCells hb ho)
 obtain ⟨A2, c2, rfl, hr2⟩ := ho.form
 have HR2 := Lib.hid hr2
 clear ho hb hr2 hx2 hf2 hz2 hx4 hf4 hz4
 go_wp2_with fail
 refine (lineFit_yes A2 c2 cs s n hn _ (S2.out.tabs HT.out) HR2.out hl HV.out).mono ?_
 rintro e w3 ⟨v3, rfl, ho3, hb3⟩
 have S3 := Lib.hid (S2.out.newCells hb3 ho3)
 obtain ⟨A3, c3, rfl, -⟩ := ho3.form
 obtain ⟨hx4, hf4, hz4⟩ := (S3.out.box (k := 2) rfl).facts
 clear ho3 hb3
 go_wp2_with fail
 have S4 := S3.out.setLine 2 (.slice A3 (fitTo n cs).length c3) s rfl
 refine bodyPost_ret (results_ct Tryd.results61 _ _ (w.heap.size + 1) _ _ rfl (S4.box (k := 2) rfl) Tryd.underlying39 rfl line_size) rfl ?_
 exact ⟨_, rfl, ((S4.del 1).del 1).del 1⟩
set_option maxHeartbeats 1000000 in
theorem fit_no (A : Option Addr) (c : Nat) (cs : List Cell) (s : Bool) (n : Int) (hT : Tabs w0) (hS : Objs w0 w os) (ha : RdC w A c cs) (hl : cs.length ≤ 100000) (hv : lineOk cs = false) :
  Calls Tryd.prog 61 #[.agg #[.slice A cs.length c, .bool s], .int .i64 n] w fun e w' => e = .returned (.tuple #[.agg #[.slice none 0 0, .bool false], .int .i64 2]) ∧ Objs w0 w' os := by
 have S := Lib.hid hS
 have HT := Lib.hid hT
 have HA := Lib.hid ha
 have HV := Lib.hid hv
 clear hS hT ha hv
 go_enter Tryd.func61, Tryd.ntmps61
 go_wp2_with fail
 refine (lvalid_is HV.out _ _ _ _ (S.out.alloc2.tabs HT.out) ((HA.out.alloc _).alloc _) (by omega)).mono ?_
 rintro e w1 ⟨rfl, hb⟩
 have S1 := Lib.hid (S.out.alloc2.bel hb)
 obtain ⟨hx4, hf4, hz4⟩ := (S1.out.box (k := 0) rfl).facts
 clear hb
 go_wp2_with fail
 have S4 := S1.out.setLine 0 (.slice none 0 0) false rfl
 refine bodyPost_ret (results_ct Tryd.results61 _ _ (w.heap.size + 1) _ _ rfl (S4.box (k := 0) rfl) Tryd.underlying39 rfl line_size) rfl ?_
 exact ⟨rfl, S4.tail.tail⟩
end
end Go.Proofs.YtppijfjigcoifaaDoor

namespace Go.Proofs.YtppijfjigcoifaaDoor
open Go.RowKit

@[go_sem ↓] theorem load_ldR34 (a : Addr) : loadCellsFrom a 0 34 #[] = ldR a 34 := rfl
structure Act14 where
 what : Int
 row : Int
 a : Int
 b : Int
 n : Int
 x : Cell
 A : Option Addr
 c : Nat
 cs : List Cell
 soft : Bool
 q : Pen
def av14 (a : Act14) : Array Value := #[.int .i64 a.what, .int .i64 a.row, .int .i64 a.a, .int .i64 a.b, .int .i64 a.n, .int .i32 a.x.rune, .int .i32 a.x.m0, .int .i32 a.x.m1, .int .i32 a.x.m2, .int .i64 a.x.width, .int .i64 a.x.pen.fk, .int .u8 a.x.pen.fi, .int .u8 a.x.pen.fr, .int .u8 a.x.pen.fg, .int .u8 a.x.pen.fb, .int .i64 a.x.pen.bk, .int .u8 a.x.pen.bi, .int .u8 a.x.pen.br, .int .u8 a.x.pen.bg, .int .u8 a.x.pen.bb, .int .u8 a.x.pen.fl, .slice a.A a.cs.length a.c, .bool a.soft, .int .i64 a.q.fk, .int .u8 a.q.fi, .int .u8 a.q.fr, .int .u8 a.q.fg, .int .u8 a.q.fb, .int .i64 a.q.bk, .int .u8 a.q.bi, .int .u8 a.q.br, .int .u8 a.q.bg, .int .u8 a.q.bb, .int .u8 a.q.fl]
@[go_sem] theorem av14_size (a : Act14) : (av14 a).size = 34 := by simp [av14]
@[simp high, go_sem high] theorem av14_get0 (a : Act14) : (av14 a)[0]? = some (.int .i64 a.what) := by simp [av14]
@[simp high, go_sem high] theorem av14_get1 (a : Act14) : (av14 a)[1]? = some (.int .i64 a.row) := by simp [av14]
@[simp high, go_sem high] theorem av14_get2 (a : Act14) : (av14 a)[2]? = some (.int .i64 a.a) := by simp [av14]
@[simp high, go_sem high] theorem av14_get3 (a : Act14) : (av14 a)[3]? = some (.int .i64 a.b) := by simp [av14]
@[simp high, go_sem high] theorem av14_get4 (a : Act14) : (av14 a)[4]? = some (.int .i64 a.n) := by simp [av14]
@[simp high, go_sem high] theorem av14_get9 (a : Act14) : (av14 a)[9]? = some (.int .i64 a.x.width) := by simp [av14]
@[simp high, go_sem high] theorem av14_get21 (a : Act14) : (av14 a)[21]? = some (.slice a.A a.cs.length a.c) := by simp [av14]
@[simp high, go_sem high] theorem av14_get22 (a : Act14) : (av14 a)[22]? = some (.bool a.soft) := by simp [av14]
theorem av14_pen {w : World} {b o : Nat} {a : Act14} (h : w.rangeAt b o (av14 a).toList) : penAt w b (o + 23) = some a.q := penAt_of fun j v hv => by
 have := h (23 + j) v (by rw [← hv]; show ((av14 a).toList)[23 + j]? = _; rw [← List.getElem?_drop]; rfl)
 rw [show o + 23 + j = o + (23 + j) by omega]; exact this
theorem av14_cell {w : World} {b o : Nat} {a : Act14} (h : w.rangeAt b o (av14 a).toList) : cellAt w b (o + 5) = some a.x := cellAt_of fun j v hv => by
 have hj : j < 16 := by have := (List.getElem?_eq_some_iff.1 hv).1; simpa [cv] using this
 have := h (5 + j) v (by rw [← hv, ← List.getElem?_drop]; rw [show ((av14 a).toList.drop 5)[j]? = (((av14 a).toList.drop 5).take 16)[j]? from by rw [List.getElem?_take, if_pos hj]]; rfl)
 rw [show o + 5 + j = o + (5 + j) by omega]; exact this
theorem Blk.act14 {w : World} {g : Nat} {t : TypeId} {a : Act14} (h : Blk w g t (av14 a)) : (∀ i, w.cell? ⟨g, i, none⟩ = (av14 a)[i]?) ∧ (∀ i, w.frozen? ⟨g, i, none⟩ = false) ∧ g < w.heap.size ∧ Proofs.YtppijfjigcoifaaDoor.recAt w g 0 34 = some (av14 a) ∧ Proofs.YtppijfjigcoifaaDoor.penAt w g 23 = some a.q ∧ Proofs.YtppijfjigcoifaaDoor.cellAt w g 5 = some a.x ∧ Proofs.YtppijfjigcoifaaDoor.penAt w g 10 = some a.x.pen :=
 ⟨h.cell, h.frozen, h.lt, h.recAt 34 (av14_size a), by have := av14_pen h.range; simpa using this, by have := av14_cell h.range; simpa using this, by have := penAt_of_cell (av14_cell h.range); simpa using this⟩

def here14 (row : Int) (R : Nat) : Bool := decide (0 ≤ row ∧ row < R)
def putE (row col : Int) (x : Cell) (cols R : Nat) : Int := if ¬ (here14 row R = true ∧ 0 ≤ col ∧ col < cols) then 3 else if ¬ (x.ok = true ∧ ¬ x.width = 0 ∧ col + x.width ≤ cols) then 2 else 0
def clrE (row f t : Int) (q : Pen) (cols R : Nat) : Int := if ¬ (here14 row R = true ∧ 0 ≤ f ∧ f ≤ t ∧ t ≤ cols) then 3 else if ¬ q.ok = true then 2 else 0
def shfE (row col : Int) (q : Pen) (cols R : Nat) : Int := if ¬ (here14 row R = true ∧ 0 ≤ col ∧ col < cols) then 3 else if ¬ q.ok = true then 2 else 0
def setE (row : Int) (cs : List Cell) (R : Nat) : Int := if ¬ here14 row R = true then 3 else if ¬ lineOk cs = true then 2 else 0
def rolE (top bot : Int) (q : Pen) (R : Nat) : Int := if ¬ (0 ≤ top ∧ top ≤ bot ∧ bot < R) then 3 else if ¬ q.ok = true then 2 else 0
def act14N (a : Act14) (cols : Nat) (L : List Ln) : List Ln :=
 if a.what = 0 then (if putE a.row a.a a.x cols L.length = 0 then rowMod a.row.toNat (putC a.a.toNat a.x) L else L)
 else if a.what = 1 then (if clrE a.row a.a a.b a.q cols L.length = 0 then rowMod a.row.toNat (clearC a.a.toNat a.b.toNat a.q) L else L)
 else if a.what = 2 then (if shfE a.row a.a a.q cols L.length = 0 then rowMod a.row.toNat (shiftN a.a.toNat cols a.b a.q) L else L)
 else if a.what = 3 then (if setE a.row a.cs L.length = 0 then L.set a.row.toNat (fitTo cols a.cs, a.soft) else L)
 else if a.what = 4 then (if here14 a.row L.length = true then softMod a.row.toNat (decide (0 < a.a)) L else L)
 else if a.what = 5 then (if rolE a.a a.b a.q L.length = 0 then rollL a.a.toNat a.b.toNat a.n a.q cols L else L)
 else L
theorem here14_nat {row : Int} {R : Nat} (h : here14 row R = true) : ∃ r : Nat, row = r ∧ r < R := by
 have := of_decide_eq_true h
 exact ⟨row.toNat, by omega, by omega⟩
theorem putE_yes {row col : Int} {x : Cell} {cols R : Nat} (h : putE row col x cols R = 0) : ∃ i j : Nat, row = i ∧ col = j ∧ i < R ∧ j < cols ∧ x.ok = true ∧ ¬ x.width = 0 ∧ (j : Int) + x.width ≤ cols := by
 unfold putE at h
 split at h
 ·cases h
 split at h
 ·cases h
 ·rename_i h1 h2
  have h1 := Classical.not_not.1 h1
  have h2 := Classical.not_not.1 h2
  obtain ⟨r, e, hr⟩ := here14_nat h1.1
  exact ⟨r, col.toNat, e, by omega, hr, by omega, h2.1, h2.2.1, by omega⟩
theorem clrE_yes {row f t : Int} {q : Pen} {cols R : Nat} (h : clrE row f t q cols R = 0) : ∃ i f' t' : Nat, row = i ∧ f = f' ∧ t = t' ∧ i < R ∧ f' ≤ t' ∧ t' ≤ cols ∧ q.ok = true := by
 unfold clrE at h
 split at h
 ·cases h
 split at h
 ·cases h
 ·rename_i h1 h2
  have h1 := Classical.not_not.1 h1
  have h2 := Classical.not_not.1 h2
  obtain ⟨r, e, hr⟩ := here14_nat h1.1
  exact ⟨r, f.toNat, t.toNat, e, by omega, by omega, hr, by omega, by omega, h2⟩
theorem shfE_yes {row col : Int} {q : Pen} {cols R : Nat} (h : shfE row col q cols R = 0) : ∃ i j : Nat, row = i ∧ col = j ∧ i < R ∧ j < cols ∧ q.ok = true := by
 unfold shfE at h
 split at h
 ·cases h
 split at h
 ·cases h
 ·rename_i h1 h2
  have h1 := Classical.not_not.1 h1
  have h2 := Classical.not_not.1 h2
  obtain ⟨r, e, hr⟩ := here14_nat h1.1
  exact ⟨r, col.toNat, e, by omega, hr, by omega, h2⟩
theorem setE_yes {row : Int} {cs : List Cell} {R : Nat} (h : setE row cs R = 0) : ∃ i : Nat, row = i ∧ i < R ∧ lineOk cs = true := by
 unfold setE at h
 split at h
 ·cases h
 split at h
 ·cases h
 ·rename_i h1 h2
  obtain ⟨r, e, hr⟩ := here14_nat (Classical.not_not.1 h1)
  exact ⟨r, e, hr, Classical.not_not.1 h2⟩
theorem rolE_yes {top bot : Int} {q : Pen} {R : Nat} (h : rolE top bot q R = 0) : ∃ t b : Nat, top = t ∧ bot = b ∧ t ≤ b ∧ b < R ∧ q.ok = true := by
 unfold rolE at h
 split at h
 ·cases h
 split at h
 ·cases h
 ·rename_i h1 h2
  have h1 := Classical.not_not.1 h1
  exact ⟨top.toNat, bot.toNat, by omega, by omega, by omega, by omega, Classical.not_not.1 h2⟩
theorem act14N_rect {a : Act14} {cols : Nat} {L : List Ln} (hR : Rect cols L) : Rect cols (act14N a cols L) ∧ (act14N a cols L).length = L.length := by
 unfold act14N
 split
 ·split
  ·exact ⟨hR.rowMod _ (fun cs h => by rw [putC_length, h]), rowMod_length _ _ _⟩
  ·exact ⟨hR, rfl⟩
 split
 ·split
  ·next h =>
   obtain ⟨i, f, t, e1, e2, e3, h1, h2, h3, -⟩ := clrE_yes h
   exact ⟨hR.rowMod _ (fun cs h => by rw [e3, clearC_length (by rw [h]; simpa using h3), h]), rowMod_length _ _ _⟩
  ·exact ⟨hR, rfl⟩
 split
 ·split
  ·next h =>
   obtain ⟨i, j, e1, e2, h1, h2, h3⟩ := shfE_yes h
   exact ⟨hR.rowMod _ (fun cs h => by rw [e2]; exact shiftN_length h (by simpa using h2)), rowMod_length _ _ _⟩
  ·exact ⟨hR, rfl⟩
 split
 ·split
  ·exact ⟨rect_set hR (fitTo_length _ _), by simp⟩
  ·exact ⟨hR, rfl⟩
 split
 ·split
  ·exact ⟨hR.softMod _ _, softMod_length _ _ _⟩
  ·exact ⟨hR, rfl⟩
 split
 ·split
  ·next h =>
   obtain ⟨t, b, e1, e2, h1, h2, h3⟩ := rolE_yes h
   rw [e1, e2]
   exact ⟨rollL_rect19 hR h1 h2, rollL_length h1 h2⟩
  ·exact ⟨hR, rfl⟩
 exact ⟨hR, rfl⟩
end Go.Proofs.YtppijfjigcoifaaDoor

namespace Go.Proofs.YtppijfjigcoifaaDoor
open Go.RowKit

section
variable {w0 w : World} {os : List Ob} {cs : List Cell} {x : Cell} {v : Value} {L : List Ln} {l : Ln}
theorem Objs.ownAt {k j : Nat} (hS : Objs w0 w os) (hk : os[k]? = some (.cells v cs)) (hj : cs[j]? = some x) : ∃ g c, v = .slice (some ⟨g, 0, none⟩) cs.length c ∧ g < w.heap.size ∧ w.cell? ⟨g, j * 16 + 4, none⟩ = some (.int .i64 x.width) ∧ (∀ i, w.frozen? ⟨g, i, none⟩ = false) := by
 have hl := (List.getElem?_eq_some_iff.1 hj).1
 obtain ⟨A, c, rfl, -, -, -, h⟩ := own_form (hS.own hk)
 obtain ⟨g, rfl, hz, hc, hf⟩ := h (by omega)
 refine ⟨g, c, rfl, hz, ?_, hf⟩
 rw [hc _ (by omega), flat_at cs j 4 x hj (by decide)]
 simp
end
end Go.Proofs.YtppijfjigcoifaaDoor

namespace Go.Proofs.YtppijfjigcoifaaDoor
open Go.RowKit

def letterC (r : Int) : Cell := ⟨r, 0, 0, 0, 1, pen0⟩
theorem l14letter_any (r : Int) (w : World) : Calls Tryd.prog 45 #[.int .i32 r] w fun e w' => e = .returned (.agg (cv (letterC r))) ∧ Below w.heap.size w w' := by
 go_enter Tryd.func45, Tryd.ntmps45
 go_wp2
 exact bodyPost_ret (results_cell_row Tryd.results45 _ _ w.heap.size 71 (cv (letterC r)) (0, 0) _ rfl (heap_alloc_new w _) Tryd.underlying71 rfl cell_size) rfl ⟨rfl, (Below.refl _ _).alloc (Nat.le_refl _) _⟩
theorem l14fails_any (gp : Option Addr) (e d : Int) (w : World) : Calls Tryd.prog 15 #[.pointer gp, .int .i64 e, .int .i64 d] w fun r w' => r = .returned (.bool (gp.isNone && (e == d))) ∧ w = w' := by
 cases gp with
 | none => go_enter Tryd.func15, Tryd.ntmps15; go_wp2_with fail; go_ret; exact ⟨rfl, rfl⟩
 | some a => go_enter Tryd.func15, Tryd.ntmps15; go_wp2_with fail; go_ret; exact ⟨rfl, rfl⟩
section
variable {w0 w : World} {os : List Ob} {k p cols : Nat} {L : List Ln}
theorem l14blank_yes {i j : Nat} {l : Ln} (hS : Objs w0 w os) (hk : os[k]? = some (.grid p 58 cols L)) (hc : 0 < cols) (hj : j < cols) (hl : L[i]? = some l) (hx : l.1[j]? = some (blank pen0)) :
  Calls Tryd.prog 55 #[.pointer (some ⟨p, 0, none⟩), .int .i64 i, .int .i64 j] w fun e w' => e = .returned (.bool true) ∧ Objs w0 w' os := by
 have S := Lib.hid hS
 have HK := Lib.hid hk
 have HL := Lib.hid hl
 have HX := Lib.hid hx
 clear hS hk hl hx
 go_enter Tryd.func55, Tryd.ntmps55
 go_wp2_with fail
 refine (Cell_yes S.out HK.out hc hj HL.out HX.out).mono ?_
 rintro e w1 ⟨rfl, hS⟩
 have S1 := Lib.hid (hS.alloc1 (c1 := cv (blank pen0)) (t1 := 71))
 clear hS
 go_wp2_with fail
 go_ret
 exact ⟨rfl, S1.out.tail⟩
set_option maxRecDepth 100000 in
set_option maxHeartbeats 2000000 in
theorem l14rowed_yes {y g cw : Nat} (rs : List Int) (s : Bool) (hS : Objs w0 w (.box g 21 (rs.map (Value.int .i32)).toArray :: os)) (hk : os[k]? = some (.grid p 58 cols L)) (hc : 0 < cols) (hl : L[y]? = some (rs.map letterC, s)) (hrs : rs.length ≤ 1000) :
  Calls Tryd.prog 56 #[.pointer (some ⟨p, 0, none⟩), .int .i64 y, .slice (some ⟨g, 0, none⟩) rs.length cw] w fun e w' => e = .returned (.bool true) ∧ Objs w0 w' (.box g 21 (rs.map (Value.int .i32)).toArray :: os) := by
 have S := Lib.hid hS
 have HK := Lib.hid hk
 have HL := Lib.hid hl
 have HSL := Lib.hid (show (rs.map letterC).length = rs.length by simp)
 clear hS hk hl
 go_enter Tryd.func56, Tryd.ntmps56
 go_wp2_with fail
 refine (Line_yes S.out (k := k + 1) HK.out hc HL.out (by rw [HSL.out]; omega)).mono ?_
 rintro e w1 ⟨v, rfl, hS⟩
 obtain ⟨A, c, rfl, hrd⟩ := hS.cellsRd (k := 0) rfl
 simp only [HSL.out] at hS ⊢
 have S1 := Lib.hid (hS.alloc1 (c1 := #[.slice A rs.length c, .bool s]) (t1 := 39))
 clear hS hrd
 go_wp2_with fail
 generalize w1.heap.size = b7 at S1 ⊢
 go_loopw [9] (fun vi wr => ∃ m : Nat, m ≤ rs.length ∧ vi = .int .i64 m ∧ Objs w0 wr (.box b7 39 #[.slice A rs.length c, .bool s] :: .cells (.slice A rs.length c) (rs.map letterC) :: .box g 21 (rs.map (Value.int .i32)).toArray :: os)) (fun vi _ => rs.length - (intOf vi).toNat)
 case atStart => exact ⟨0, Nat.zero_le _, rfl, S1.out⟩
 case round =>
  obtain ⟨m, hm, rfl, hS⟩ := hrel
  by_cases hlt : m < rs.length
  case neg =>
   have S3 := Lib.hid hS
   clear hS
   go_wp2_with fail
   go_ret
   exact ⟨rfl, S3.out.tail.tail⟩
  obtain ⟨gb, cb, e, hzb, -, hfb⟩ := hS.ownAt (k := 1) (j := m) (x := letterC rs[m]) rfl (by simp [hlt])
  simp only [Value.slice.injEq] at e
  obtain ⟨rfl, -, rfl⟩ := e
  have S3 := Lib.hid hS
  have hb0 : (0 : Int) ≤ (m : Int) := by omega
  have hb1 : (m : Int) < (rs.length : Int) := by omega
  clear hS S1
  go_upto_region 7 with (fail)
  refine wp_region_stage (w0 := w0) (os := os) (by kernel_rfl) (by kernel_rfl) (by kernel_rfl) [] [[], [0], [], [], [1], [], [], [], [2], [], []] [.box b7 39 #[.slice (some ⟨gb, 0, none⟩) rs.length c, .bool s], .cells (.slice (some ⟨gb, 0, none⟩) rs.length c) (rs.map letterC), .box g 21 (rs.map (Value.int .i32)).toArray] (fun opn u => match opn with | 0 => u = .pointer (some ⟨b7, 0, none⟩) | 1 => u = .slice (some ⟨gb, 0, none⟩) rs.length c | 2 => u = .int .i64 ↑m | 3 => u = .pointer (some ⟨gb, m * 16, none⟩) | 4 => u = .agg (cv (letterC rs[m])) | 5 => u = .slice (some ⟨g, 0, none⟩) rs.length cw | 6 => u = .int .i64 ↑m | 7 => u = .pointer (some ⟨g, m, none⟩) | 8 => u = .int .i32 rs[m] | 9 => u = .agg (cv (letterC rs[m])) | 10 => u = .bool false | _ => True) (fun vs => [.box b7 39 #[.slice (some ⟨gb, 0, none⟩) rs.length c, .bool s], .cells (.slice (some ⟨gb, 0, none⟩) rs.length c) (rs.map letterC), .box g 21 (rs.map (Value.int .i32)).toArray]) (by kernel_rfl) (fun vs => by rfl) S3.out ?_ ?_
  ·apply sc
   ·intro a w' vs σ hS hl hs hk
    have f7 : a.tmps[7]?.getD undef = .pointer (some ⟨b7, 0, none⟩) := sof hk
    exact rp (pt b7 0) (by simp [execOp, Act.eval, f7, go_sem]) hl hs hS
   apply sc
   ·intro a w' vs σ hS hl hs hk
    have f32 : a.tmps[32]?.getD undef = .pointer (some ⟨b7, 0, none⟩) := svf hk 0
    have hx := (hS.box (sg (hs 0 (by decide)))).cell
    exact rp (.slice (some ⟨gb, 0, none⟩) rs.length c) (by simp [execOp, Act.eval, f32, go_sem, hx]) hl hs hS
   apply sc
   ·intro a w' vs σ hS hl hs hk
    have f9 : a.tmps[9]?.getD undef = .int .i64 ↑m := sof hk
    exact rp (.int .i64 ↑m) (by simp [execOp, Act.eval, f9, go_sem]) hl hs hS
   apply sc
   ·intro a w' vs σ hS hl hs hk
    have f33 : a.tmps[33]?.getD undef = .slice (some ⟨gb, 0, none⟩) rs.length c := svf hk 1
    have f34 : a.tmps[34]?.getD undef = .int .i64 ↑m := svf hk 2
    exact rp (pt gb (m * 16)) (by simp [execOp, Act.eval, f33, f34, go_sem, hb0, hb1]) hl hs hS
   apply sc
   ·intro a w' vs σ hS hl hs hk
    have f35 : a.tmps[35]?.getD undef = .pointer (some ⟨gb, m * 16, none⟩) := svf hk 3
    have hx := (cells_facts hS (sg (hs 1 (by decide))) (i := m) (c := (letterC rs[m])) (by simp [hlt])).2.2.1
    exact rp (.agg (cv (letterC rs[m]))) (by simp [execOp, Act.eval, f35, go_sem, hx]) hl hs hS
   apply sc
   ·intro a w' vs σ hS hl hs hk
    have f2 : a.tmps[2]?.getD undef = .slice (some ⟨g, 0, none⟩) rs.length cw := sof hk
    exact rp (.slice (some ⟨g, 0, none⟩) rs.length cw) (by simp [execOp, Act.eval, f2, go_sem]) hl hs hS
   apply sc
   ·intro a w' vs σ hS hl hs hk
    have f9 : a.tmps[9]?.getD undef = .int .i64 ↑m := sof hk
    exact rp (.int .i64 ↑m) (by simp [execOp, Act.eval, f9, go_sem]) hl hs hS
   apply sc
   ·intro a w' vs σ hS hl hs hk
    have f37 : a.tmps[37]?.getD undef = .slice (some ⟨g, 0, none⟩) rs.length cw := svf hk 5
    have f38 : a.tmps[38]?.getD undef = .int .i64 ↑m := svf hk 6
    exact rp (pt g m) (by simp [execOp, Act.eval, f37, f38, go_sem, hb0, hb1]) hl hs hS
   apply sc
   ·intro a w' vs σ hS hl hs hk
    have f39 : a.tmps[39]?.getD undef = .pointer (some ⟨g, m, none⟩) := svf hk 7
    have hx := (hS.box (sg (hs 2 (by decide)))).cell
    exact rp (.int .i32 rs[m]) (by simp [execOp, Act.eval, f39, go_sem, hx, hlt]) hl hs hS
   apply sc
   ·intro a w' vs σ hS hl hs hk
    have e40 : a.tmps.getD 40 undef = .int .i32 rs[m] := svv hk 8
    exact ro_call (f := 45) (wanted_none rfl) rfl (by simp only [List.map_toArray, List.map_cons, List.map_nil, Act.eval, e40] <;> rfl) (fun _ _ => by kernel_rfl) ((l14letter_any rs[m] w').mono fun e w2 ⟨h1, h2⟩ => ⟨_, h1, sp_same (by kernel_rfl) hl hs (hS.bel h2) rfl, trivial⟩)
   apply sc
   ·intro a w' vs σ hS hl hs hk
    have f36 : a.tmps[36]?.getD undef = .agg (cv (letterC rs[m])) := svf hk 4
    have f41 : a.tmps[41]?.getD undef = .agg (cv (letterC rs[m])) := svf hk 9
    exact rp (.bool false) (by simp [execOp, Act.eval, f36, f41, go_sem]) hl hs hS
   exact SSteps.nil
  ·intro vs w' hS hv
   have q0 : vs 0 = _ := hv 0 (by decide)
   have q1 : vs 1 = _ := hv 1 (by decide)
   have q2 : vs 2 = _ := hv 2 (by decide)
   have q3 : vs 3 = _ := hv 3 (by decide)
   have q4 : vs 4 = _ := hv 4 (by decide)
   have q5 : vs 5 = _ := hv 5 (by decide)
   have q6 : vs 6 = _ := hv 6 (by decide)
   have q7 : vs 7 = _ := hv 7 (by decide)
   have q8 : vs 8 = _ := hv 8 (by decide)
   have q9 : vs 9 = _ := hv 9 (by decide)
   have q10 : vs 10 = _ := hv 10 (by decide)
   have S2 := Lib.hid hS
   simp only [putL, Act.put, Nat.zero_add, Nat.reduceAdd, List.setIfInBounds_toArray, List.set_cons_succ, List.set_cons_zero, q0, q1, q2, q3, q4, q5, q6, q7, q8, q9, q10]
   clear hS hv q0 q1 q2 q3 q4 q5 q6 q7 q8 q9 q10
   go_wp2_with fail
   go_roundw
   case rel => exact ⟨m + 1, by omega, by go_num, S2.out⟩
   case measure => simp [intOf]; omega
end
def small14b (most : Nat) (l : List Act14) : Bool := (l.take most).all (fun a => decide (a.cs.length ≤ 40)) && decide (l.length ≤ most)
theorem small14_any (A : Option Addr) (c : Nat) (l : List Act14) (most : Nat) (hmost : most ≤ 1000) (w : World) (ha : RdRec w A c 34 (l.map av14)) (hc : c ≤ maxLen) :
  Calls Tryd.prog 42 #[.slice A l.length c, .int .i64 most] w fun e w' => e = .returned (.bool (small14b most l)) ∧ w = w' := by
 have HA := Lib.hid ha
 have hlm : l.length ≤ 9223372036854775807 := by have := ha.1; unfold maxLen at hc; simp at this; omega
 clear ha hc
 go_enter Tryd.func42, Tryd.ntmps42
 go_wp2_with fail
 go_loopw [5] (fun vi wr => ∃ m : Nat, m ≤ l.length ∧ m ≤ most ∧ vi = .int .i64 m ∧ wr = w ∧ Hid ((l.take m).all (fun a => decide (a.cs.length ≤ 40)) = true)) (fun vi _ => l.length - (intOf vi).toNat)
 case atStart => exact ⟨0, Nat.zero_le _, Nat.zero_le _, rfl, rfl, Lib.hid rfl⟩
 case round =>
  obtain ⟨m, hm, hmm, rfl, rfl, HALL⟩ := hrel
  by_cases hlt : m < l.length
  case neg =>
   have d1 : decide ((m : Int) < (l.length : Int)) = false := decide_eq_false (by omega)
   have d2 : ¬ (m : Int) < (l.length : Int) := by omega
   have HR := Lib.hid (show small14b most l = decide (l.length ≤ most) by
    have h := HALL.out
    rw [List.take_of_length_le (by omega)] at h
    unfold small14b
    rw [List.take_of_length_le (by omega), h, Bool.true_and])
   go_wp2_with fail
   go_ret
   exact ⟨by rw [HR.out]; rfl, rfl⟩
  have d1 : decide ((m : Int) < (l.length : Int)) = true := decide_eq_true (by omega)
  by_cases hlt2 : m < most
  case neg =>
   have d2 : decide ((m : Int) < (most : Int)) = false := decide_eq_false (by omega)
   have d3 : ¬ (m : Int) < (most : Int) := by omega
   have HR := Lib.hid (show small14b most l = decide (l.length ≤ most) by
    obtain rfl : m = most := by omega
    unfold small14b
    rw [HALL.out, Bool.true_and])
   go_wp2_with fail
   go_ret
   exact ⟨by rw [HR.out]; rfl, rfl⟩
  have d2 : decide ((m : Int) < (most : Int)) = true := decide_eq_true (by omega)
  obtain ⟨ba, oa, rfl, hba, hre⟩ := HA.out.at_ (i := m) (r := av14 l[m]) (by simp [hlt])
  obtain ⟨-, hrg⟩ := range_of_recAt hre
  have hce := hrg 21 _ (show ((av14 l[m]).toList)[21]? = _ from rfl)
  have hb0 : (0 : Int) ≤ (m : Int) := by omega
  have hb1 : (m : Int) < (l.length : Int) := by omega
  clear hrg hre
  by_cases h40 : l[m].cs.length ≤ 40
  case neg =>
   have HR := Lib.hid (show small14b most l = false by
    unfold small14b
    have : (l.take most).all (fun a => decide (a.cs.length ≤ 40)) = false := by
     rw [List.all_eq_false]
     exact ⟨l[m], by rw [List.mem_take_iff_getElem]; exact ⟨m, by omega, rfl⟩, by simp; omega⟩
    rw [this, Bool.false_and])
   have hgt : (40 : Int) < l[m].cs.length := by omega
   go_wp2_with fail
   go_ret
   exact ⟨by rw [HR.out]; rfl, rfl⟩
  have hle : ¬ (40 : Int) < l[m].cs.length := by omega
  go_wp2_with fail
  go_roundw
  case rel => exact ⟨m + 1, by omega, by omega, by go_num, trivial, Lib.hid (by rw [List.take_add_one, List.all_append, HALL.out, List.getElem?_eq_getElem hlt]; simp [h40])⟩
  case measure => simp [intOf]; omega
end Go.Proofs.YtppijfjigcoifaaDoor

namespace Go.Proofs.YtppijfjigcoifaaDoor
open Go.RowKit

def pickAt (σ : List Ob) : Option Nat → Ob
 | some k => σ.getD k .none
 | none => .none
theorem Objs.pick {w0 w : World} {σ os : List Ob} (h : Objs w0 w (σ ++ os)) (ks : List (Option Nat)) (hn : (ks.filterMap id).Nodup) (hlt : (ks.filterMap id).all (fun k => decide (k < σ.length)) = true) : Objs w0 w (ks.map (pickAt σ) ++ os) := by
 obtain ⟨h1, F, h2, h3, h4, h5⟩ := h
 have hk : ∀ (i k : Nat), ks[i]? = some (some k) → k < σ.length := fun i k hi => by
  have := List.all_eq_true.1 hlt k (List.mem_filterMap.2 ⟨some k, List.mem_of_getElem? hi, rfl⟩)
  simpa using this
 have hinj : ∀ (i j k : Nat), ks[i]? = some (some k) → ks[j]? = some (some k) → i = j := by
  clear hk hlt h2 h3 h4 h5 h1
  induction ks with
  | nil => intro i j k hi; simp at hi
  | cons a r ih =>
   intro i j k hi hj
   have hr : (r.filterMap id).Nodup := by
    cases a with
    | none => simpa using hn
    | some x => simp at hn; exact hn.2
   have hno : ∀ m, a = some m → ∀ q, r[q]? ≠ some (some m) := fun m e q hq => by
    subst e
    simp at hn
    exact hn.1 (List.mem_of_getElem? hq)
   cases i with
   | zero =>
    cases j with
    | zero => rfl
    | succ j => simp at hi hj; exact (hno k hi j hj).elim
   | succ i =>
    cases j with
    | zero => simp at hi hj; exact (hno k hj i hi).elim
    | succ j => simp at hi hj; rw [ih hr i j k hi hj]
 refine ⟨h1, fun i b => if i < ks.length then ∃ k, ks[i]? = some (some k) ∧ F k b else F (i - ks.length + σ.length) b, fun i o hi => ?_, fun i b hb => ?_, fun i hi b hb => ?_, fun i j b hi hj => ?_⟩
 ·by_cases hl : i < ks.length
  ·simp only [hl, if_true]
   rw [List.getElem?_append_left (by simpa using hl), List.getElem?_map] at hi
   cases hks : ks[i]? with
   | none => rw [hks] at hi; simp at hi
   | some x =>
    rw [hks] at hi
    simp only [Option.map_some, Option.some.injEq] at hi
    cases x with
    | none => subst hi; rintro b ⟨k, e, -⟩; simp at e
    | some k =>
     have hlt := hk i k hks
     have hF : (fun b => ∃ k', some (some k) = some (some k') ∧ F k' b) = F k := by
      funext b
      exact propext ⟨fun ⟨k', e, hb⟩ => by simp at e; subst e; exact hb, fun hb => ⟨k, rfl, hb⟩⟩
     rw [hF]
     refine h2 k o ?_
     rw [List.getElem?_append_left hlt, ← hi]
     show σ[k]? = some (σ.getD k .none)
     rw [List.getD_eq_getElem?_getD, List.getElem?_eq_getElem hlt]; rfl
  ·simp only [hl, if_false]
   rw [List.getElem?_append_right (by simp; omega), List.length_map] at hi
   refine h2 _ o ?_
   rw [List.getElem?_append_right (by omega), Nat.add_sub_cancel]; exact hi
 ·simp only at hb
  split at hb
  ·obtain ⟨k, -, hb⟩ := hb; exact h3 _ b hb
  ·exact h3 _ b hb
 ·simp only at hb
  simp only [List.length_append, List.length_map] at hi
  rw [if_neg (by omega)] at hb
  exact h4 _ (by simp; omega) b hb
 ·simp only at hi hj
  split at hi
  ·obtain ⟨k, hks, hi⟩ := hi
   split at hj
   ·obtain ⟨k2, hks2, hj⟩ := hj
    have := h5 _ _ b hi hj
    subst this
    exact hinj i j _ hks hks2
   ·have := h5 _ _ b hi hj
    have := hk i k hks
    omega
  ·rename_i hil
   split at hj
   ·obtain ⟨k2, hks2, hj⟩ := hj
    have := h5 _ _ b hi hj
    have := hk j k2 hks2
    omega
   ·have := h5 _ _ b hi hj
    omega
end Go.Proofs.YtppijfjigcoifaaDoor

namespace Go.Proofs.YtppijfjigcoifaaDoor
open Go.RowKit

theorem no_call {P : Program} {f : FuncId} {args : Array Value} {k : Nat} {o : Ob} {r r2 : Value} {w0 w : World} {os : List Ob} (hr : r = r2) (hS : Objs w0 w os) (hk : os[k]? = some o)
  (hc : ∀ os1, Objs w0 w (o :: os1) → Calls P f args w fun e w' => e = .returned r ∧ Objs w0 w' (o :: os1)) : Calls P f args w fun e w' => e = .returned r2 ∧ Objs w0 w' os := by
 subst hr
 have h := front_call hS hk hc
 rwa [set_self hk] at h
section
variable {w0 w : World} {os : List Ob} {k p cols : Nat} {L : List Ln}
theorem PutN {row col : Int} (x : Cell) (hT : Tabs w0) (hS : Objs w0 w os) (hk : os[k]? = some (.grid p 58 cols L)) (hc : 0 < cols) (hcm : cols ≤ 1000) (hno : ¬ putE row col x cols L.length = 0) :
  Calls Tryd.prog 33 #[.pointer (some ⟨p, 0, none⟩), .int .i64 row, .int .i64 col, .agg (cv x)] w fun e w' => e = .returned (.int .i64 (putE row col x cols L.length)) ∧ Objs w0 w' os := by
 by_cases h1 : here14 row L.length = true ∧ 0 ≤ col ∧ col < cols
 case neg =>
  have e : putE row col x cols L.length = 3 := if_pos h1
  refine no_call (by rw [e]) hS hk (fun os1 h => Put_out row col x h hc (fun hh => h1 ⟨decide_eq_true hh.1, hh.2⟩))
 obtain ⟨i, rfl, hi⟩ := here14_nat h1.1
 obtain ⟨j, rfl⟩ : ∃ j : Nat, col = j := ⟨col.toNat, by omega⟩
 have hj : j < cols := by omega
 have hu : putE i j x cols L.length = if ¬ (x.ok = true ∧ ¬ x.width = 0 ∧ (j : Int) + x.width ≤ cols) then 2 else 0 := if_neg (Classical.not_not.2 h1)
 by_cases h2 : x.ok = true ∧ ¬ x.width = 0 ∧ (j : Int) + x.width ≤ cols
 ·exact (hno (hu.trans (if_neg (Classical.not_not.2 h2)))).elim
 have e : putE i j x cols L.length = 2 := hu.trans (if_pos h2)
 cases hv : x.ok with
 | false => exact no_call (by rw [e]) hS hk (fun os1 h => Put_bad1 x hT h hc hcm hi hj hv)
 | true =>
  by_cases hw : x.width = 0
  ·exact no_call (by rw [e]) hS hk (fun os1 h => Put_bad2 x hT h hc hcm hi hj hv hw)
  ·exact no_call (by rw [e]) hS hk (fun os1 h => Put_bad3 x hT h hc hcm hi hj hv hw (by
    have : ¬ ((j : Int) + x.width ≤ cols) := fun hh => h2 ⟨hv, hw, hh⟩
    omega))
theorem ClearN {row f t : Int} (q : Pen) (hT : Tabs w0) (hS : Objs w0 w os) (hk : os[k]? = some (.grid p 58 cols L)) (hc : 0 < cols) (hcm : cols ≤ 1000) (hno : ¬ clrE row f t q cols L.length = 0) :
  Calls Tryd.prog 51 #[.pointer (some ⟨p, 0, none⟩), .int .i64 row, .int .i64 f, .int .i64 t, .agg (pv q)] w fun e w' => e = .returned (.int .i64 (clrE row f t q cols L.length)) ∧ Objs w0 w' os := by
 by_cases h1 : here14 row L.length = true ∧ 0 ≤ f ∧ f ≤ t ∧ t ≤ cols
 case neg =>
  have e : clrE row f t q cols L.length = 3 := if_pos h1
  by_cases hr : 0 ≤ row ∧ row < L.length
  case neg => exact no_call (by rw [e]) hS hk (fun os1 h => Clear_out q hT h hc hcm hr)
  have hr' : here14 row L.length = true := decide_eq_true hr
  by_cases hf : f < 0
  ·exact no_call (by rw [e]) hS hk (fun os1 h => Clear_range_a q hT h hc hcm hr hf)
  by_cases hft : t < f
  ·exact no_call (by rw [e]) hS hk (fun os1 h => Clear_range_b q hT h hc hcm hr ⟨by omega, hft⟩)
  ·exact no_call (by rw [e]) hS hk (fun os1 h => Clear_range_c q hT h hc hcm hr ⟨by omega, by omega, by
    have : ¬ (t ≤ cols) := fun hh => h1 ⟨hr', by omega, by omega, hh⟩
    omega⟩)
 have hu : clrE row f t q cols L.length = if ¬ q.ok = true then 2 else 0 := if_neg (Classical.not_not.2 h1)
 cases hq : q.ok with
 | true => exact (hno (hu.trans (if_neg (Classical.not_not.2 hq)))).elim
 | false =>
  have e : clrE row f t q cols L.length = 2 := hu.trans (if_pos (by rw [hq]; decide))
  exact no_call (by rw [e]) hS hk (fun os1 h => Clear_pen q hT h hc hcm (of_decide_eq_true h1.1) h1.2 hq)
theorem ShiftN {row col n : Int} (q : Pen) (hT : Tabs w0) (hS : Objs w0 w os) (hk : os[k]? = some (.grid p 58 cols L)) (hc : 0 < cols) (hcm : cols ≤ 1000) (hno : ¬ shfE row col q cols L.length = 0) :
  Calls Tryd.prog 52 #[.pointer (some ⟨p, 0, none⟩), .int .i64 row, .int .i64 col, .int .i64 n, .agg (pv q)] w fun e w' => e = .returned (.int .i64 (shfE row col q cols L.length)) ∧ Objs w0 w' os := by
 by_cases h1 : here14 row L.length = true ∧ 0 ≤ col ∧ col < cols
 case neg =>
  have e : shfE row col q cols L.length = 3 := if_pos h1
  exact no_call (by rw [e]) hS hk (fun os1 h => Shift_out q hT h hc hcm (fun hh => h1 ⟨decide_eq_true hh.1, hh.2⟩))
 have hu : shfE row col q cols L.length = if ¬ q.ok = true then 2 else 0 := if_neg (Classical.not_not.2 h1)
 cases hq : q.ok with
 | true => exact (hno (hu.trans (if_neg (Classical.not_not.2 hq)))).elim
 | false =>
  have e : shfE row col q cols L.length = 2 := hu.trans (if_pos (by rw [hq]; decide))
  exact no_call (by rw [e]) hS hk (fun os1 h => Shift_pen q hT h hc hcm ⟨of_decide_eq_true h1.1, h1.2⟩ hq)
theorem SetSoftN {row : Int} (s : Bool) (hS : Objs w0 w os) (hk : os[k]? = some (.grid p 58 cols L)) (hc : 0 < cols) (hno : here14 row L.length = false) :
  Calls Tryd.prog 46 #[.pointer (some ⟨p, 0, none⟩), .int .i64 row, .bool s] w fun e w' => e = .returned (.int .i64 3) ∧ Objs w0 w' os :=
 no_call rfl hS hk (fun os1 h => SetSoft_no s h hc (of_decide_eq_false hno))
theorem RollN {top bot n : Int} (q : Pen) (hT : Tabs w0) (hS : Objs w0 w os) (hk : os[k]? = some (.grid p 58 cols L)) (hc : 0 < cols) (hno : ¬ rolE top bot q L.length = 0) :
  Calls Tryd.prog 50 #[.pointer (some ⟨p, 0, none⟩), .agg #[.int .i64 top, .int .i64 bot], .int .i64 n, .agg (pv q)] w fun e w' => e = .returned (.tuple #[.slice none 0 0, .int .i64 (rolE top bot q L.length)]) ∧ Objs w0 w' os := by
 by_cases h1 : 0 ≤ top ∧ top ≤ bot ∧ bot < L.length
 case neg =>
  have e : rolE top bot q L.length = 3 := if_pos h1
  rw [e]
  exact Roll_range q hT hS hk hc h1
 have hu : rolE top bot q L.length = if ¬ q.ok = true then 2 else 0 := if_neg (Classical.not_not.2 h1)
 cases hq : q.ok with
 | true => exact (hno (hu.trans (if_neg (Classical.not_not.2 hq)))).elim
 | false =>
  have e : rolE top bot q L.length = 2 := hu.trans (if_pos (by rw [hq]; decide))
  rw [e]
  exact Roll_pen q hT hS hk hc h1 hq
end
end Go.Proofs.YtppijfjigcoifaaDoor

namespace Go.Proofs.YtppijfjigcoifaaDoor
open Go.RowKit

theorem Objs.lineSoft {w0 w : World} {os : List Ob} {k i : Nat} {v : Value} {L : List Ln} {l : Ln} (hS : Objs w0 w os) (hk : os[k]? = some (.lines v L)) (hl : L[i]? = some l) : ∃ g c, v = .slice (some ⟨g, 0, none⟩) L.length c ∧ g < w.heap.size ∧ w.cell? ⟨g, i * 2 + 1, none⟩ = some (.bool l.2) ∧ ∀ j, w.frozen? ⟨g, j, none⟩ = false := by
 obtain ⟨F, bs, hF, -⟩ := hS.get hk
 obtain ⟨A2, c2, rfl, -, -, -, h4⟩ := hF.form
 obtain ⟨g, rfl, hz, -, hso, hfz⟩ := h4 (by have := (List.getElem?_eq_some_iff.1 hl).1; omega)
 exact ⟨g, c2, rfl, hz, hso i l hl, hfz⟩
def cW14 : Cell := ⟨20013, 0, 0, 0, 2, pen0⟩
def k14_0 : List Ln := List.replicate 2 (List.replicate 5 (blank pen0), false)
def k14_1 : List Ln := rowMod 0 (putC 1 cW14) k14_0
def k14_2 : List Ln := rowMod 0 (putC 2 (letterC 97)) k14_1
def k14_3 : List Ln := rowMod 0 (putC 3 cW14) k14_2
def k14_4 : List Ln := rowMod 0 (shiftN 0 5 1 pen0) k14_3
def k14_5 : List Ln := rowMod 0 (shiftN 3 5 (-1) pen0) k14_4
def k14_6 : List Ln := softMod 0 true k14_5
def k14_7 : List Ln := rollL 0 1 1 pen0 5 k14_6
theorem k14_rect0 : Rect 5 k14_0 := by intro l hl; revert l; decide +kernel
theorem k14_rect1 : Rect 5 k14_1 := by intro l hl; revert l; decide +kernel
theorem k14_rect2 : Rect 5 k14_2 := by intro l hl; revert l; decide +kernel
theorem k14_rect3 : Rect 5 k14_3 := by intro l hl; revert l; decide +kernel
theorem k14_rect4 : Rect 5 k14_4 := by intro l hl; revert l; decide +kernel
theorem k14_len2 : k14_2.length = 2 := by kernel_rfl
theorem k14_gone : rollGone 0 1 1 k14_6 = [([blank pen0, blank pen0, blank pen0, blank pen0, blank pen0], true)] := by decide +kernel
set_option maxRecDepth 100000 in
set_option maxHeartbeats 8000000 in
theorem l14known_any (w : World) (hT : Tabs w) : Calls Tryd.prog 16 #[] w fun e w' => e = .returned (.bool true) ∧ Below w.heap.size w w' := by
 have HT := Lib.hid hT
 clear hT
 go_enter Tryd.func16, Tryd.ntmps16
 go_wp2_with fail
 refine (gridNew_yes 2 5 (by decide) (by decide) (by decide) (by decide) w _ [] (objs_start w)).mono ?_
 rintro e w1 ⟨p, rfl, hS⟩
 have T0 := Lib.hid (show Objs w w1 [.grid p 58 5 k14_0] from hS)
 clear hS
 go_upto_region 3 with (fail)
 refine at_objsC (T0.out.alloc1 (c1 := cv cW14) (t1 := 71)) (fun W hW => ?_)
 generalize w1.heap.size = b3 at hW ⊢
 have T1 := Lib.hid hW
 clear hW T0
 have hc3 := (T1.out.box (k := 0) rfl).cellAt
 have hc3z := (T1.out.box (k := 0) rfl).lt
 go_wp2_with fail
 clear hc3 hc3z
 refine (show Calls Tryd.prog 33 #[.pointer (some ⟨p, 0, none⟩), .int .i64 0, .int .i64 1, .agg (cv cW14)] _ _ from (PutG (i := 0) (j := 1) cW14 HT.out T1.out (k := 1) rfl (by decide) k14_rect0 (by decide) (by decide +kernel) (by decide) (by decide))).mono ?_
 rintro e w3 ⟨rfl, hS⟩
 have T2 := Lib.hid (show Objs w _ [.box b3 71 (cv cW14), .grid p 58 5 k14_1] from hS)
 clear hS T1
 have hc3 := (T2.out.box (k := 0) rfl).cellAt
 have hc3z := (T2.out.box (k := 0) rfl).lt
 go_wp2_with fail
 clear hc3 hc3z
 refine (show Calls Tryd.prog 48 #[.pointer (some ⟨p, 0, none⟩), .int .i64 0, .int .i64 2] _ _ from (Cell_yes (i := 0) (j := 2) (l := k14_1[0]) (x := cell0) T2.out (k := 1) rfl (by decide) (by decide) rfl (by decide +kernel))).mono ?_
 rintro e w3 ⟨rfl, hS⟩
 have T3 := Lib.hid (show Objs w _ [.box b3 71 (cv cW14), .grid p 58 5 k14_1] from hS)
 clear hS T2
 have hc3 := (T3.out.box (k := 0) rfl).cellAt
 have hc3z := (T3.out.box (k := 0) rfl).lt
 go_upto_region 6 with (fail)
 clear hc3 hc3z
 refine at_objsC (T3.out.alloc1 (c1 := cv cell0) (t1 := 71)) (fun W hW => ?_)
 generalize w3.heap.size = b4 at hW ⊢
 have T4 := Lib.hid hW
 clear hW T3
 have hc4 := (T4.out.box (k := 0) rfl).cellAt
 have hc4z := (T4.out.box (k := 0) rfl).lt
 have hc3 := (T4.out.box (k := 1) rfl).cellAt
 have hc3z := (T4.out.box (k := 1) rfl).lt
 go_wp2_with fail
 clear hc3 hc3z hc4 hc4z
 refine (l14letter_any 97 _).mono ?_
 rintro e w3 ⟨rfl, hb⟩
 have hS := T4.out.bel hb
 have T5 := Lib.hid (show Objs w _ [.box b4 71 (cv cell0), .box b3 71 (cv cW14), .grid p 58 5 k14_1] from hS)
 clear hS hb T4
 have hc3 := (T5.out.box (k := 1) rfl).cellAt
 have hc3z := (T5.out.box (k := 1) rfl).lt
 go_wp2_with fail
 clear hc3 hc3z
 refine (show Calls Tryd.prog 33 #[.pointer (some ⟨p, 0, none⟩), .int .i64 0, .int .i64 2, .agg (cv (letterC 97))] _ _ from (PutG (i := 0) (j := 2) (letterC 97) HT.out T5.out (k := 2) rfl (by decide) k14_rect1 (by decide) (by decide +kernel) (by decide) (by decide))).mono ?_
 rintro e w3 ⟨rfl, hS⟩
 have T6 := Lib.hid (show Objs w _ [.box b4 71 (cv cell0), .box b3 71 (cv cW14), .grid p 58 5 k14_2] from hS)
 clear hS T5
 have hc3 := (T6.out.box (k := 1) rfl).cellAt
 have hc3z := (T6.out.box (k := 1) rfl).lt
 go_wp2_with fail
 clear hc3 hc3z
 refine (show Calls Tryd.prog 55 #[.pointer (some ⟨p, 0, none⟩), .int .i64 0, .int .i64 1] _ _ from (l14blank_yes (i := 0) (j := 1) (l := k14_2[0]) T6.out (k := 2) rfl (by decide) (by decide) rfl (by decide +kernel))).mono ?_
 rintro e w3 ⟨rfl, hS⟩
 have T7 := Lib.hid (show Objs w _ [.box b3 71 (cv cW14), .grid p 58 5 k14_2] from hS.tail)
 clear hS T6
 have hc3 := (T7.out.box (k := 0) rfl).cellAt
 have hc3z := (T7.out.box (k := 0) rfl).lt
 go_wp2_with fail
 clear hc3 hc3z
 refine (show Calls Tryd.prog 48 #[.pointer (some ⟨p, 0, none⟩), .int .i64 0, .int .i64 2] _ _ from (Cell_yes (i := 0) (j := 2) (l := k14_2[0]) (x := letterC 97) T7.out (k := 1) rfl (by decide) (by decide) rfl (by decide +kernel))).mono ?_
 rintro e w3 ⟨rfl, hS⟩
 have T8 := Lib.hid (show Objs w _ [.box b3 71 (cv cW14), .grid p 58 5 k14_2] from hS)
 clear hS T7
 have hc3 := (T8.out.box (k := 0) rfl).cellAt
 have hc3z := (T8.out.box (k := 0) rfl).lt
 go_upto_region 9 with (fail)
 clear hc3 hc3z
 refine at_objsC (T8.out.alloc1 (c1 := cv (letterC 97)) (t1 := 71)) (fun W hW => ?_)
 generalize w3.heap.size = b6 at hW ⊢
 have T9 := Lib.hid hW
 clear hW T8
 refine wp_region_stage (w0 := w) (os := []) (by kernel_rfl) (by kernel_rfl) (by kernel_rfl) [] [[0], [], [], [], [], [], [], [], [], [1], [2], [], [], [], [], [], [2], [], [], [], [], [], [2], [], []] [.box b6 71 (cv (letterC 97)), .box b3 71 (cv cW14), .grid p 58 ↑5 k14_2] (fun opn u => match opn with | 0 => u = .agg (cv (letterC 97)) | 1 => u = .agg (cv (letterC 97)) | 2 => u = .bool false | 3 => u = .bool false | 4 => u = .int .i64 0 | 5 => u = .bool false | 6 => u = .bool false | 7 => u = .bool false | 8 => u = .pointer (some ⟨p, 0, none⟩) | 9 => u = .agg (cv cW14) | 10 => u = .int .i64 2 | 11 => u = .bool false | 12 => u = .bool false | 13 => u = .bool false | 14 => u = .pointer (some ⟨p, 0, none⟩) | 15 => u = .agg (cv (letterC 97)) | 16 => u = .int .i64 3 | 17 => u = .bool false | 18 => u = .bool false | 19 => u = .bool false | 20 => u = .pointer (some ⟨p, 0, none⟩) | 21 => u = .agg (cv (letterC 97)) | 22 => u = .int .i64 3 | 23 => u = .bool false | 24 => u = .bool false | _ => True) (fun vs => [.box b6 71 (cv (letterC 97)), .box b3 71 (cv cW14), .grid p 58 ↑5 k14_2]) (by kernel_rfl) (fun vs => by rfl) T9.out ?_ ?_
 ·apply sc
  ·intro a w' vs σ hS hl hs hk
   have f6 : a.tmps[6]?.getD undef = .pointer (some ⟨b6, 0, none⟩) := sof hk
   have hx := (hS.box (sg (hs 0 (by decide)))).cellAt
   exact rp (.agg (cv (letterC 97))) (by simp [execOp, Act.eval, f6, go_sem, hx]) hl hs hS
  apply sc
  ·intro a w' vs σ hS hl hs hk
   exact ro_call (f := 45) (wanted_none rfl) rfl (by simp only [List.map_toArray, List.map_cons, List.map_nil, Act.eval] <;> rfl) (fun _ _ => by kernel_rfl) ((l14letter_any 97 w').mono fun e w2 ⟨h1, h2⟩ => ⟨_, h1, sp_same (by kernel_rfl) hl hs (hS.bel h2) rfl, trivial⟩)
  apply sc
  ·intro a w' vs σ hS hl hs hk
   have f58 : a.tmps[58]?.getD undef = .agg (cv (letterC 97)) := svf hk 0
   have f59 : a.tmps[59]?.getD undef = .agg (cv (letterC 97)) := svf hk 1
   exact rp (.bool false) (by simp [execOp, Act.eval, f58, f59, go_sem]) hl hs hS
  apply sc
  ·intro a w' vs σ hS hl hs hk
   have f60 : a.tmps[60]?.getD undef = .bool false := svf hk 2
   exact rp (.bool false) (by simp [execOp, Act.eval, f60, go_sem]) hl hs hS
  apply sc
  ·intro a w' vs σ hS hl hs hk
   have f7 : a.tmps[7]?.getD undef = .int .i64 0 := sof hk
   exact rq (.int .i64 0) (wanted_yes rfl rfl rfl (svv hk 3)) (by simp [execOp, Act.eval, f7, go_sem]) hl hs hS
  apply sc
  ·intro a w' vs σ hS hl hs hk
   have f62 : a.tmps[62]?.getD undef = .int .i64 0 := svf hk 4
   exact rq (.bool false) (wanted_yes rfl rfl rfl (svv hk 3)) (by simp [execOp, Act.eval, f62, go_sem]) hl hs hS
  apply sc
  ·intro a w' vs σ hS hl hs hk
   have f61 : a.tmps[61]?.getD undef = .bool false := svf hk 3
   have f63 : a.tmps[63]?.getD undef = .bool false := svf hk 5
   exact rp (.bool false) (by simp [execOp, Act.eval, f61, f63, go_sem]) hl hs hS
  apply sc
  ·intro a w' vs σ hS hl hs hk
   have f64 : a.tmps[64]?.getD undef = .bool false := svf hk 6
   exact rp (.bool false) (by simp [execOp, Act.eval, f64, go_sem]) hl hs hS
  apply sc
  ·intro a w' vs σ hS hl hs hk
   have f1 : a.tmps[1]?.getD undef = .pointer (some ⟨p, 0, none⟩) := sof hk
   exact rq (pt p 0) (wanted_yes rfl rfl rfl (svv hk 7)) (by simp [execOp, Act.eval, f1, go_sem]) hl hs hS
  apply sc
  ·intro a w' vs σ hS hl hs hk
   have f3 : a.tmps[3]?.getD undef = .pointer (some ⟨b3, 0, none⟩) := sof hk
   have hx := (hS.box (sg (hs 1 (by decide)))).cellAt
   exact rq (.agg (cv cW14)) (wanted_yes rfl rfl rfl (svv hk 7)) (by simp [execOp, Act.eval, f3, go_sem, hx]) hl hs hS
  apply sc
  ·intro a w' vs σ hS hl hs hk
   have e66 : a.tmps.getD 66 undef = .pointer (some ⟨p, 0, none⟩) := svv hk 8
   have e67 : a.tmps.getD 67 undef = .agg (cv cW14) := svv hk 9
   have hcon := PutN (row := 0) (col := 4) cW14 HT.out hS (k := 2) (sg (hs 2 (by decide))) (by decide) (by decide) (by rw [k14_len2]; decide +kernel)
   rw [show putE 0 4 cW14 5 k14_2.length = 2 by rw [k14_len2]; decide +kernel] at hcon
   exact ro_call (f := 33) (wanted_yes rfl rfl rfl (svv hk 7)) rfl (by simp only [List.map_toArray, List.map_cons, List.map_nil, Act.eval, e66, e67] <;> rfl) (fun _ _ => by kernel_rfl) (hcon.mono fun e w2 ⟨h1, h2⟩ => ⟨_, h1, sp_same (by kernel_rfl) hl hs h2 rfl, trivial⟩)
  apply sc
  ·intro a w' vs σ hS hl hs hk
   have f68 : a.tmps[68]?.getD undef = .int .i64 2 := svf hk 10
   exact rq (.bool false) (wanted_yes rfl rfl rfl (svv hk 7)) (by simp [execOp, Act.eval, f68, go_sem]) hl hs hS
  apply sc
  ·intro a w' vs σ hS hl hs hk
   have f65 : a.tmps[65]?.getD undef = .bool false := svf hk 7
   have f69 : a.tmps[69]?.getD undef = .bool false := svf hk 11
   exact rp (.bool false) (by simp [execOp, Act.eval, f65, f69, go_sem]) hl hs hS
  apply sc
  ·intro a w' vs σ hS hl hs hk
   have f70 : a.tmps[70]?.getD undef = .bool false := svf hk 12
   exact rp (.bool false) (by simp [execOp, Act.eval, f70, go_sem]) hl hs hS
  apply sc
  ·intro a w' vs σ hS hl hs hk
   have f1 : a.tmps[1]?.getD undef = .pointer (some ⟨p, 0, none⟩) := sof hk
   exact rq (pt p 0) (wanted_yes rfl rfl rfl (svv hk 13)) (by simp [execOp, Act.eval, f1, go_sem]) hl hs hS
  apply sc
  ·intro a w' vs σ hS hl hs hk
   exact ro_call (f := 45) (wanted_yes rfl rfl rfl (svv hk 13)) rfl (by simp only [List.map_toArray, List.map_cons, List.map_nil, Act.eval] <;> rfl) (fun _ _ => by kernel_rfl) ((l14letter_any 97 w').mono fun e w2 ⟨h1, h2⟩ => ⟨_, h1, sp_same (by kernel_rfl) hl hs (hS.bel h2) rfl, trivial⟩)
  apply sc
  ·intro a w' vs σ hS hl hs hk
   have e72 : a.tmps.getD 72 undef = .pointer (some ⟨p, 0, none⟩) := svv hk 14
   have e73 : a.tmps.getD 73 undef = .agg (cv (letterC 97)) := svv hk 15
   have hcon := PutN (row := 2) (col := 0) (letterC 97) HT.out hS (k := 2) (sg (hs 2 (by decide))) (by decide) (by decide) (by rw [k14_len2]; decide +kernel)
   rw [show putE 2 0 (letterC 97) 5 k14_2.length = 3 by rw [k14_len2]; decide +kernel] at hcon
   exact ro_call (f := 33) (wanted_yes rfl rfl rfl (svv hk 13)) rfl (by simp only [List.map_toArray, List.map_cons, List.map_nil, Act.eval, e72, e73] <;> rfl) (fun _ _ => by kernel_rfl) (hcon.mono fun e w2 ⟨h1, h2⟩ => ⟨_, h1, sp_same (by kernel_rfl) hl hs h2 rfl, trivial⟩)
  apply sc
  ·intro a w' vs σ hS hl hs hk
   have f74 : a.tmps[74]?.getD undef = .int .i64 3 := svf hk 16
   exact rq (.bool false) (wanted_yes rfl rfl rfl (svv hk 13)) (by simp [execOp, Act.eval, f74, go_sem]) hl hs hS
  apply sc
  ·intro a w' vs σ hS hl hs hk
   have f71 : a.tmps[71]?.getD undef = .bool false := svf hk 13
   have f75 : a.tmps[75]?.getD undef = .bool false := svf hk 17
   exact rp (.bool false) (by simp [execOp, Act.eval, f71, f75, go_sem]) hl hs hS
  apply sc
  ·intro a w' vs σ hS hl hs hk
   have f76 : a.tmps[76]?.getD undef = .bool false := svf hk 18
   exact rp (.bool false) (by simp [execOp, Act.eval, f76, go_sem]) hl hs hS
  apply sc
  ·intro a w' vs σ hS hl hs hk
   have f1 : a.tmps[1]?.getD undef = .pointer (some ⟨p, 0, none⟩) := sof hk
   exact rq (pt p 0) (wanted_yes rfl rfl rfl (svv hk 19)) (by simp [execOp, Act.eval, f1, go_sem]) hl hs hS
  apply sc
  ·intro a w' vs σ hS hl hs hk
   exact ro_call (f := 45) (wanted_yes rfl rfl rfl (svv hk 19)) rfl (by simp only [List.map_toArray, List.map_cons, List.map_nil, Act.eval] <;> rfl) (fun _ _ => by kernel_rfl) ((l14letter_any 97 w').mono fun e w2 ⟨h1, h2⟩ => ⟨_, h1, sp_same (by kernel_rfl) hl hs (hS.bel h2) rfl, trivial⟩)
  apply sc
  ·intro a w' vs σ hS hl hs hk
   have e78 : a.tmps.getD 78 undef = .pointer (some ⟨p, 0, none⟩) := svv hk 20
   have e79 : a.tmps.getD 79 undef = .agg (cv (letterC 97)) := svv hk 21
   have hcon := PutN (row := 0) (col := 5) (letterC 97) HT.out hS (k := 2) (sg (hs 2 (by decide))) (by decide) (by decide) (by rw [k14_len2]; decide +kernel)
   rw [show putE 0 5 (letterC 97) 5 k14_2.length = 3 by rw [k14_len2]; decide +kernel] at hcon
   exact ro_call (f := 33) (wanted_yes rfl rfl rfl (svv hk 19)) rfl (by simp only [List.map_toArray, List.map_cons, List.map_nil, Act.eval, e78, e79] <;> rfl) (fun _ _ => by kernel_rfl) (hcon.mono fun e w2 ⟨h1, h2⟩ => ⟨_, h1, sp_same (by kernel_rfl) hl hs h2 rfl, trivial⟩)
  apply sc
  ·intro a w' vs σ hS hl hs hk
   have f80 : a.tmps[80]?.getD undef = .int .i64 3 := svf hk 22
   exact rq (.bool false) (wanted_yes rfl rfl rfl (svv hk 19)) (by simp [execOp, Act.eval, f80, go_sem]) hl hs hS
  apply sc
  ·intro a w' vs σ hS hl hs hk
   have f77 : a.tmps[77]?.getD undef = .bool false := svf hk 19
   have f81 : a.tmps[81]?.getD undef = .bool false := svf hk 23
   exact rp (.bool false) (by simp [execOp, Act.eval, f77, f81, go_sem]) hl hs hS
  exact SSteps.nil
 ·intro vs w' hS hv
  have q0 : vs 0 = _ := hv 0 (by decide)
  have q1 : vs 1 = _ := hv 1 (by decide)
  have q2 : vs 2 = _ := hv 2 (by decide)
  have q3 : vs 3 = _ := hv 3 (by decide)
  have q4 : vs 4 = _ := hv 4 (by decide)
  have q5 : vs 5 = _ := hv 5 (by decide)
  have q6 : vs 6 = _ := hv 6 (by decide)
  have q7 : vs 7 = _ := hv 7 (by decide)
  have q8 : vs 8 = _ := hv 8 (by decide)
  have q9 : vs 9 = _ := hv 9 (by decide)
  have q10 : vs 10 = _ := hv 10 (by decide)
  have q11 : vs 11 = _ := hv 11 (by decide)
  have q12 : vs 12 = _ := hv 12 (by decide)
  have q13 : vs 13 = _ := hv 13 (by decide)
  have q14 : vs 14 = _ := hv 14 (by decide)
  have q15 : vs 15 = _ := hv 15 (by decide)
  have q16 : vs 16 = _ := hv 16 (by decide)
  have q17 : vs 17 = _ := hv 17 (by decide)
  have q18 : vs 18 = _ := hv 18 (by decide)
  have q19 : vs 19 = _ := hv 19 (by decide)
  have q20 : vs 20 = _ := hv 20 (by decide)
  have q21 : vs 21 = _ := hv 21 (by decide)
  have q22 : vs 22 = _ := hv 22 (by decide)
  have q23 : vs 23 = _ := hv 23 (by decide)
  have q24 : vs 24 = _ := hv 24 (by decide)
  have S2 := Lib.hid hS
  simp only [putL, Act.put, Nat.zero_add, Nat.reduceAdd, List.setIfInBounds_toArray, List.set_cons_succ, List.set_cons_zero, q0, q1, q2, q3, q4, q5, q6, q7, q8, q9, q10, q11, q12, q13, q14, q15, q16, q17, q18, q19, q20, q21, q22, q23, q24]
  clear hS hv q0 q1 q2 q3 q4 q5 q6 q7 q8 q9 q10 q11 q12 q13 q14 q15 q16 q17 q18 q19 q20 q21 q22 q23 q24
  have T40 := Lib.hid (show Objs w _ [.box b3 71 (cv cW14), .grid p 58 5 k14_2] from S2.out.tail)
  clear S2
  have hc3 := (T40.out.box (k := 0) rfl).cellAt
  have hc3z := (T40.out.box (k := 0) rfl).lt
  go_wp2_with fail
  clear hc3 hc3z
  refine (show Calls Tryd.prog 33 #[.pointer (some ⟨p, 0, none⟩), .int .i64 0, .int .i64 3, .agg (cv cW14)] _ _ from (PutG (i := 0) (j := 3) cW14 HT.out T40.out (k := 1) rfl (by decide) k14_rect2 (by decide) (by decide +kernel) (by decide) (by decide))).mono ?_
  rintro e w3 ⟨rfl, hS⟩
  have T41 := Lib.hid (show Objs w _ [.grid p 58 5 k14_3] from hS.tail)
  clear hS T40
  go_wp2_with fail
  refine (show Calls Tryd.prog 52 #[.pointer (some ⟨p, 0, none⟩), .int .i64 0, .int .i64 0, .int .i64 1, .agg (pv pen0)] _ _ from (ShiftG (i := 0) (j := 0) (1) pen0 HT.out T41.out (k := 0) rfl (by decide) k14_rect3 (by decide) (by decide) (by decide) (by decide))).mono ?_
  rintro e w3 ⟨rfl, hS⟩
  have T42 := Lib.hid (show Objs w _ [.grid p 58 5 k14_4] from hS)
  clear hS T41
  go_wp2_with fail
  have hS := T42.out.alloc1 (c1 := (([0, 0, 0, 97, 0] : List Int).map (Value.int .i32)).toArray) (t1 := 21)
  have T43 := Lib.hid (show Objs w _ [.box w3.heap.size 21 (([0, 0, 0, 97, 0] : List Int).map (Value.int .i32)).toArray, .grid p 58 5 k14_4] from hS)
  clear hS T42
  refine (show Calls Tryd.prog 56 #[.pointer (some ⟨p, 0, none⟩), .int .i64 0, .slice (some ⟨w3.heap.size, 0, none⟩) 5 5] _ _ from (l14rowed_yes (y := 0) [0, 0, 0, 97, 0] false T43.out (k := 0) rfl (by decide) (by decide +kernel) (by decide))).mono ?_
  rintro e w3 ⟨rfl, hS⟩
  have T44 := Lib.hid (show Objs w _ [.grid p 58 5 k14_4] from hS.tail)
  clear hS T43
  go_wp2_with fail
  refine (show Calls Tryd.prog 52 #[.pointer (some ⟨p, 0, none⟩), .int .i64 0, .int .i64 3, .int .i64 (-1), .agg (pv pen0)] _ _ from (ShiftG (i := 0) (j := 3) (-1) pen0 HT.out T44.out (k := 0) rfl (by decide) k14_rect4 (by decide) (by decide) (by decide) (by decide))).mono ?_
  rintro e w3 ⟨rfl, hS⟩
  have T45 := Lib.hid (show Objs w _ [.grid p 58 5 k14_5] from hS)
  clear hS T44
  go_wp2_with fail
  have hS := T45.out.alloc1 (c1 := (([0, 0, 0, 0, 0] : List Int).map (Value.int .i32)).toArray) (t1 := 21)
  have T46 := Lib.hid (show Objs w _ [.box w3.heap.size 21 (([0, 0, 0, 0, 0] : List Int).map (Value.int .i32)).toArray, .grid p 58 5 k14_5] from hS)
  clear hS T45
  refine (show Calls Tryd.prog 56 #[.pointer (some ⟨p, 0, none⟩), .int .i64 0, .slice (some ⟨w3.heap.size, 0, none⟩) 5 5] _ _ from (l14rowed_yes (y := 0) [0, 0, 0, 0, 0] false T46.out (k := 0) rfl (by decide) (by decide +kernel) (by decide))).mono ?_
  rintro e w3 ⟨rfl, hS⟩
  have T47 := Lib.hid (show Objs w _ [.grid p 58 5 k14_5] from hS.tail)
  clear hS T46
  go_wp2_with fail
  refine (show Calls Tryd.prog 46 #[.pointer (some ⟨p, 0, none⟩), .int .i64 0, .bool true] _ _ from (SetSoftG (i := 0) true T47.out (k := 0) rfl (by decide) (by decide) (by decide))).mono ?_
  rintro e w3 ⟨rfl, hS⟩
  have T48 := Lib.hid (show Objs w _ [.grid p 58 5 k14_6] from hS)
  clear hS T47
  go_wp2_with fail
  refine (show Calls Tryd.prog 50 #[.pointer (some ⟨p, 0, none⟩), .agg #[.int .i64 0, .int .i64 1], .int .i64 1, .agg (pv pen0)] _ _ from RollG (top := 0) (bot := 1) 1 pen0 HT.out T48.out (k := 0) rfl (by decide) (by decide) (by decide) (by decide) (by decide) (by decide) (by decide)).mono ?_
  rintro e w3 ⟨Al, ml, cl, rfl, hS⟩
  rw [k14_gone] at hS
  have T49 := Lib.hid (show Objs w _ [.lines (.slice Al ml cl) [([blank pen0, blank pen0, blank pen0, blank pen0, blank pen0], true)], .grid p 58 5 k14_7] from hS)
  clear hS T48
  obtain ⟨gl, c2, e, hzl, hcl, hfl⟩ := T49.out.lineSoft (k := 0) (i := 0) rfl rfl
  simp only [Value.slice.injEq] at e
  obtain ⟨rfl, rfl, rfl⟩ := e
  go_wp2_with fail
  refine (gridNew_no 0 5 (by decide) _).mono ?_
  rintro e w4 ⟨rfl, rfl⟩
  go_wp2_with fail
  refine (gridNew_no 1 1001 (by decide) _).mono ?_
  rintro e w4 ⟨rfl, rfl⟩
  go_wp2_with fail
  clear hzl hcl hfl
  refine (show Calls Tryd.prog 17 #[.pointer (some ⟨p, 0, none⟩)] _ _ from (Rows_any T49.out (k := 1) rfl)).mono ?_
  rintro e w3 ⟨rfl, hS⟩
  have T50 := Lib.hid (show Objs w _ [.grid p 58 5 k14_7] from hS.tail)
  clear hS T49
  go_wp2_with fail
  refine (show Calls Tryd.prog 18 #[.pointer (some ⟨p, 0, none⟩)] _ _ from (Cols_any T50.out (k := 0) rfl)).mono ?_
  rintro e w3 ⟨rfl, hS⟩
  have T51 := Lib.hid (show Objs w _ [.grid p 58 5 k14_7] from hS)
  clear hS T50
  go_wp2_with fail
  refine (l14fails_any none 2 2 _).mono ?_
  rintro e w4 ⟨rfl, rfl⟩
  go_wp2_with fail
  refine (l14fails_any none 2 2 _).mono ?_
  rintro e w4 ⟨rfl, rfl⟩
  go_wp2_with fail
  go_ret
  exact ⟨rfl, T51.out.base⟩
end Go.Proofs.YtppijfjigcoifaaDoor

namespace Go.Proofs.YtppijfjigcoifaaDoor
open Go.RowKit

structure RowC (cs : List Cell) (k : Nat) : Prop where
 ok : (cAt cs k).ok = true
 zero : (cAt cs k).width = 0 ↔ 1 ≤ k ∧ (cAt cs (k - 1)).width = 2
 pen : 1 ≤ k → (cAt cs (k - 1)).width = 2 → (cAt cs k).pen = (cAt cs (k - 1)).pen
 last : (cAt cs k).width = 2 → k + 1 < cs.length
def RowV (cs : List Cell) : Prop := ∀ k, k < cs.length → RowC cs k
theorem behind_is (cs : List Cell) (k : Nat) : behindAt cs k = true ↔ 1 ≤ k ∧ (cAt cs (k - 1)).width = 2 := by
 cases k with
 | zero => simp [behindAt]
 | succ k => simp [behindAt]
theorem rowAt_is {cs : List Cell} {k : Nat} (hk : k < cs.length) : rowAt cs k = true ↔ RowC cs k := by
 have hb := behind_is cs k
 unfold rowAt
 constructor
 ·intro h
  simp only [Bool.and_eq_true, Bool.not_eq_true', Bool.or_eq_true, beq_iff_eq, decide_eq_true_eq] at h
  obtain ⟨⟨⟨h1, h2⟩, h3⟩, h4⟩ := h
  refine ⟨h1, ?_, ?_, ?_⟩
  ·rw [← hb, ← h2, decide_eq_true_eq]
  ·intro a b
   rcases h3 with h3 | h3
   ·have := hb.2 ⟨a, b⟩; rw [h3] at this; cases this
   ·exact h3
  ·intro a
   rcases Nat.lt_or_ge (k + 1) cs.length with h5 | h5
   ·exact h5
   ·have e : k + 1 = cs.length := by omega
    simp [a, e] at h4
 ·rintro ⟨h1, h2, h3, h4⟩
  simp only [Bool.and_eq_true, Bool.not_eq_true', Bool.or_eq_true, beq_iff_eq, decide_eq_true_eq]
  refine ⟨⟨⟨h1, ?_⟩, ?_⟩, ?_⟩
  ·rw [Bool.eq_iff_iff, decide_eq_true_eq, hb]; exact h2
  ·cases hbb : behindAt cs k with
   | false => exact .inl rfl
   | true => obtain ⟨a, b⟩ := hb.1 hbb; exact .inr (h3 a b)
  ·rw [Bool.and_eq_false_iff]
   by_cases a : (cAt cs k).width = 2
   ·exact .inr (by have := h4 a; simp; omega)
   ·exact .inl (by simpa using a)
theorem rowOk_is {cs : List Cell} : rowOk cs = true ↔ RowV cs := by
 constructor
 ·intro h k hk; exact (rowAt_is hk).1 (rowOk_at h hk)
 ·intro h; exact rowOk_yes fun k hk => (rowAt_is hk).2 (h k hk)
theorem ok_penV {c : Cell} (h : c.ok = true) : c.pen.ok = true := by unfold Cell.ok at h; rw [Bool.and_eq_true] at h; exact h.1
theorem blank_ok' {p : Pen} (h : p.ok = true) : (blank p).ok = true := by rw [ok_blank]; exact h
theorem spacer_ok {p : Pen} (h : p.ok = true) : (spacer p).ok = true := by simp [Cell.ok, spacer, h, Cell.noMarks]
section
variable {cs : List Cell} {c j k : Nat} {x : Cell} {q : Pen}
theorem RowV.brk (h : RowV cs) (c : Nat) : RowV (brk c cs) := by
 intro k hk
 rw [brk_length] at hk
 have hg := cAt_brk c cs
 by_cases hc : 1 ≤ c ∧ c < cs.length ∧ (cAt cs (c - 1)).width = 2
 ·have h0 := h k hk
  have h1 := h (c - 1) (by omega)
  have h2 := h c hc.2.1
  refine ⟨?_, ?_, ?_, ?_⟩
  ·rw [hg]; split
   ·exact blank_ok' (ok_penV h0.ok)
   ·exact h0.ok
  ·rw [hg, hg]
   have z0 := h0.zero
   have z1 := h1.zero
   have z2 := h2.zero
   have w0 : ∀ p, (blank p).width = 1 := fun _ => rfl
   grind
  ·rw [hg, hg]
   have z0 := h0.pen
   have w0 : ∀ p, (blank p).width = 1 := fun _ => rfl
   have w1 : ∀ p, (blank p).pen = p := fun _ => rfl
   grind
  ·rw [hg, brk_length]
   have z0 := h0.last
   have w0 : ∀ p, (blank p).width = 1 := fun _ => rfl
   grind
 ·have e : ∀ i, cAt (Proofs.YtppijfjigcoifaaDoor.brk c cs) i = cAt cs i := fun i => by rw [hg, if_neg (fun a => hc a.1)]
  have h0 := h k hk
  exact ⟨by rw [e]; exact h0.ok, by rw [e, e]; exact h0.zero, by rw [e, e]; exact h0.pen, by rw [e, brk_length]; exact h0.last⟩
def CutAt (cs : List Cell) (c : Nat) : Prop := 1 ≤ c → c < cs.length → ¬ (cAt cs (c - 1)).width = 2
theorem cut_brk (c : Nat) (cs : List Cell) : CutAt (brk c cs) c := fun h1 h2 => brk_before h1 (by rwa [brk_length] at h2)
theorem CutAt.brk (h : CutAt cs j) (c : Nat) : CutAt (brk c cs) j := fun h1 h2 => by
 rw [brk_length] at h2
 rw [cAt_brk]
 split
 ·simp [blank]
 ·exact h h1 h2
theorem RowV.put (h : RowV cs) (hx : x.ok = true) (hw : x.width = 1 ∨ x.width = 2) (hj : (j : Int) + x.width ≤ cs.length) : RowV (putC j x cs) := by
 obtain ⟨b, hb⟩ : ∃ b, b = Proofs.YtppijfjigcoifaaDoor.brk (j + x.width.toNat) (Proofs.YtppijfjigcoifaaDoor.brk j cs) := ⟨_, rfl⟩
 have hbl : b.length = cs.length := by rw [hb, brk_length, brk_length]
 have hv : RowV b := by rw [hb]; exact (h.brk j).brk _
 have hc1 : CutAt b j := by rw [hb]; exact (cut_brk j cs).brk _
 have hc2 : CutAt b (j + x.width.toNat) := by rw [hb]; exact cut_brk _ _
 have hg : ∀ i, cAt (putC j x cs) i = if x.width = 2 ∧ i = j + 1 ∧ j + 1 < cs.length then spacer x.pen else if i = j then x else cAt b i := fun i => by
  unfold putC
  simp only [← hb]
  by_cases h2 : x.width = 2
  ·rw [if_pos h2, cAt_set, cAt_set, List.length_set, hbl]; grind
  ·rw [if_neg h2, cAt_set, hbl]; grind
 intro k hk
 rw [putC_length] at hk
 have hk2 : k < b.length := by omega
 have h0 := hv k hk2
 have w0 : ∀ p, (spacer p).width = 0 := fun _ => rfl
 have w1 : ∀ p, (spacer p).pen = p := fun _ => rfl
 have z0 := h0.zero
 have z1 := h0.pen
 have z2 := h0.last
 unfold CutAt at hc1 hc2
 have hxw : x.width.toNat = 1 ∨ x.width.toNat = 2 := by omega
 refine ⟨?_, ?_, ?_, ?_⟩
 ·rw [hg]; split
  ·exact spacer_ok (ok_penV hx)
  ·split
   ·exact hx
   ·exact h0.ok
 ·rw [hg, hg]
  rcases hw with hw | hw
  ·have e : x.width.toNat = 1 := by omega
   rw [e] at hc2
   grind
  ·have e : x.width.toNat = 2 := by omega
   rw [e] at hc2
   grind
 ·rw [hg, hg]
  rcases hw with hw | hw
  ·grind
  ·grind
 ·rw [hg, putC_length]
  rcases hw with hw | hw
  ·grind
  ·grind
theorem RowV.clear {f t : Nat} (h : RowV cs) (hq : q.ok = true) (ht : t ≤ cs.length) : RowV (clearC f t q cs) := by
 by_cases hft : f < t
 case neg => unfold clearC; rw [if_neg hft]; exact h
 obtain ⟨b, hb⟩ : ∃ b, b = Proofs.YtppijfjigcoifaaDoor.brk t (Proofs.YtppijfjigcoifaaDoor.brk f cs) := ⟨_, rfl⟩
 have hbl : b.length = cs.length := by rw [hb, brk_length, brk_length]
 have hv : RowV b := by rw [hb]; exact (h.brk f).brk _
 have hc1 : CutAt b f := by rw [hb]; exact (cut_brk f cs).brk _
 have hc2 : CutAt b t := by rw [hb]; exact cut_brk _ _
 have hg : ∀ i, i < cs.length → cAt (clearC f t q cs) i = if f ≤ i ∧ i < t then blank q else cAt b i := fun i hi => by
  unfold clearC
  rw [if_pos hft, ← hb]
  rw [cAt_wipe (by rw [hbl]; omega), show f + (t - f) = t by omega]
 intro k hk
 rw [clearC_length ht] at hk
 have h0 := hv k (by omega)
 have w0 : ∀ p, (blank p).width = 1 := fun _ => rfl
 have z0 := h0.zero
 have z1 := h0.pen
 have z2 := h0.last
 have hgk := hg k hk
 have hgk1 : 1 ≤ k → cAt (clearC f t q cs) (k - 1) = if f ≤ k - 1 ∧ k - 1 < t then blank q else cAt b (k - 1) := fun _ => hg (k - 1) (by omega)
 unfold CutAt at hc1 hc2
 refine ⟨?_, ?_, ?_, ?_⟩
 ·rw [hgk]; split
  ·exact blank_ok' hq
  ·exact h0.ok
 ·rw [hgk]; grind
 ·rw [hgk]; grind
 ·rw [hgk, clearC_length ht]; grind
theorem RowV.shiftR (h : RowV cs) (hq : q.ok = true) (hjk : j + k ≤ cs.length) (hk0 : 0 < k) : RowV (shiftR j k q cs) := by
 obtain ⟨b, hb⟩ : ∃ b, b = Proofs.YtppijfjigcoifaaDoor.brk (cs.length - k) (Proofs.YtppijfjigcoifaaDoor.brk j cs) := ⟨_, rfl⟩
 have hbl : b.length = cs.length := by rw [hb, brk_length, brk_length]
 have hv : RowV b := by rw [hb]; exact (h.brk j).brk _
 have hc1 : CutAt b j := by rw [hb]; exact (cut_brk j cs).brk _
 have hc2 : CutAt b (cs.length - k) := by rw [hb]; exact cut_brk _ _
 have hg : ∀ i, i < cs.length → cAt (Proofs.YtppijfjigcoifaaDoor.shiftR j k q cs) i = if i < j then cAt b i else if i < j + k then blank q else cAt b (i - k) := fun i hi => by rw [cAt_shiftR hjk hi, ← hb]
 intro i hi
 rw [shiftR_length hjk] at hi
 have w0 : ∀ p, (blank p).width = 1 := fun _ => rfl
 have hgi := hg i hi
 have hgi1 : 1 ≤ i → cAt (Proofs.YtppijfjigcoifaaDoor.shiftR j k q cs) (i - 1) = if i - 1 < j then cAt b (i - 1) else if i - 1 < j + k then blank q else cAt b (i - 1 - k) := fun _ => hg (i - 1) (by omega)
 unfold CutAt at hc1 hc2
 by_cases h1 : i < j
 ·have h0 := hv i (by omega)
  rw [if_pos h1] at hgi
  have e1 : 1 ≤ i → cAt (Proofs.YtppijfjigcoifaaDoor.shiftR j k q cs) (i - 1) = cAt b (i - 1) := fun a => by rw [hgi1 a, if_pos (by omega)]
  refine ⟨by rw [hgi]; exact h0.ok, ?_, ?_, ?_⟩
  ·rw [hgi]; have := h0.zero; grind
  ·rw [hgi]; have := h0.pen; grind
  ·rw [hgi, shiftR_length hjk]; have := h0.last; grind
 rw [if_neg h1] at hgi
 by_cases h2 : i < j + k
 ·rw [if_pos h2] at hgi
  refine ⟨by rw [hgi]; exact blank_ok' hq, ?_, ?_, ?_⟩
  ·rw [hgi]; grind
  ·rw [hgi]; grind
  ·rw [hgi]; intro a; cases a
 rw [if_neg h2] at hgi
 have h0 := hv (i - k) (by omega)
 have z0 := h0.zero
 have z1 := h0.pen
 have z2 := h0.last
 by_cases h3 : i = j + k
 ·subst h3
  have e1 : cAt (Proofs.YtppijfjigcoifaaDoor.shiftR j k q cs) (j + k - 1) = blank q := by rw [hgi1 (by omega), if_neg (by omega), if_pos (by omega)]
  rw [show j + k - k = j by omega] at hgi h0 z0 z1 z2
  refine ⟨by rw [hgi]; exact h0.ok, ?_, ?_, ?_⟩
  ·rw [hgi, e1]; grind
  ·rw [hgi, e1]; grind
  ·rw [hgi, shiftR_length hjk]; grind
 ·have e1 : cAt (Proofs.YtppijfjigcoifaaDoor.shiftR j k q cs) (i - 1) = cAt b (i - k - 1) := by rw [hgi1 (by omega), if_neg (by omega), if_neg (by omega)]; congr 1; omega
  refine ⟨by rw [hgi]; exact h0.ok, ?_, ?_, ?_⟩
  ·rw [hgi, e1]; grind
  ·rw [hgi, e1]; grind
  ·rw [hgi, shiftR_length hjk]; grind
theorem RowV.shiftL (h : RowV cs) (hq : q.ok = true) (hjk : j + k ≤ cs.length) (hk0 : 0 < k) : RowV (shiftL j k q cs) := by
 obtain ⟨b, hb⟩ : ∃ b, b = Proofs.YtppijfjigcoifaaDoor.brk (j + k) (Proofs.YtppijfjigcoifaaDoor.brk j cs) := ⟨_, rfl⟩
 have hbl : b.length = cs.length := by rw [hb, brk_length, brk_length]
 have hv : RowV b := by rw [hb]; exact (h.brk j).brk _
 have hc1 : CutAt b j := by rw [hb]; exact (cut_brk j cs).brk _
 have hc2 : CutAt b (j + k) := by rw [hb]; exact cut_brk _ _
 have hg : ∀ i, i < cs.length → cAt (Proofs.YtppijfjigcoifaaDoor.shiftL j k q cs) i = if i < j then cAt b i else if i < cs.length - k then cAt b (i + k) else blank q := fun i hi => by rw [cAt_shiftL hjk hi, ← hb]
 intro i hi
 rw [shiftL_length hjk] at hi
 have w0 : ∀ p, (blank p).width = 1 := fun _ => rfl
 have hgi := hg i hi
 have hgi1 : 1 ≤ i → cAt (Proofs.YtppijfjigcoifaaDoor.shiftL j k q cs) (i - 1) = if i - 1 < j then cAt b (i - 1) else if i - 1 < cs.length - k then cAt b (i - 1 + k) else blank q := fun _ => hg (i - 1) (by omega)
 unfold CutAt at hc1 hc2
 by_cases h1 : i < j
 ·have h0 := hv i (by omega)
  rw [if_pos h1] at hgi
  have e1 : 1 ≤ i → cAt (Proofs.YtppijfjigcoifaaDoor.shiftL j k q cs) (i - 1) = cAt b (i - 1) := fun a => by rw [hgi1 a, if_pos (by omega)]
  refine ⟨by rw [hgi]; exact h0.ok, ?_, ?_, ?_⟩
  ·rw [hgi]; have := h0.zero; grind
  ·rw [hgi]; have := h0.pen; grind
  ·rw [hgi, shiftL_length hjk]; have := h0.last; grind
 rw [if_neg h1] at hgi
 by_cases h2 : i < cs.length - k
 ·rw [if_pos h2] at hgi
  have h0 := hv (i + k) (by omega)
  have z0 := h0.zero
  have z1 := h0.pen
  have z2 := h0.last
  by_cases h3 : i = j
  ·subst h3
   have e1 : 1 ≤ i → cAt (Proofs.YtppijfjigcoifaaDoor.shiftL i k q cs) (i - 1) = cAt b (i - 1) := fun a => by rw [hgi1 a, if_pos (by omega)]
   refine ⟨by rw [hgi]; exact h0.ok, ?_, ?_, ?_⟩
   ·rw [hgi]; grind
   ·rw [hgi]; grind
   ·rw [hgi, shiftL_length hjk]; grind
  ·have e1 : cAt (Proofs.YtppijfjigcoifaaDoor.shiftL j k q cs) (i - 1) = cAt b (i + k - 1) := by rw [hgi1 (by omega), if_neg (by omega), if_pos (by omega)]; congr 1; omega
   refine ⟨by rw [hgi]; exact h0.ok, ?_, ?_, ?_⟩
   ·rw [hgi, e1]; grind
   ·rw [hgi, e1]; grind
   ·rw [hgi, shiftL_length hjk]; grind
 ·rw [if_neg h2] at hgi
  have hl : ¬ (cAt b (cs.length - 1)).width = 2 := fun a => by have := (hv (cs.length - 1) (by omega)).last a; omega
  have e1 : 1 ≤ i → ¬ (cAt (Proofs.YtppijfjigcoifaaDoor.shiftL j k q cs) (i - 1)).width = 2 := fun a => by
   rw [hgi1 a]
   split
   ·rw [show i - 1 = j - 1 by omega]; exact hc1 (by omega) (by omega)
   ·split
    ·rw [show i - 1 + k = cs.length - 1 by omega]; exact hl
    ·intro e; cases e
  refine ⟨by rw [hgi]; exact blank_ok' hq, ?_, ?_, ?_⟩
  ·rw [hgi]; grind
  ·rw [hgi]; grind
  ·rw [hgi]; intro a; cases a
end
def AllV (L : List Ln) : Prop := ∀ l ∈ L, RowV l.1
theorem AllV.lnMod {L : List Ln} (h : AllV L) (i : Nat) {F : Ln → Ln} (hF : ∀ l : Ln, l ∈ L → RowV (F l).1) : AllV (lnMod i F L) := by
 unfold Proofs.YtppijfjigcoifaaDoor.lnMod
 split
 ·rename_i l hl
  intro x hx
  rcases List.mem_or_eq_of_mem_set hx with h1 | rfl
  ·exact h x h1
  ·exact hF l (List.mem_of_getElem? hl)
 ·exact h
theorem rowV_blanks {n : Nat} {q : Pen} (hq : q.ok = true) : RowV (List.replicate n (blank q)) := fun k hk => by
 rw [List.length_replicate] at hk
 have e : ∀ i, i < n → cAt (List.replicate n (blank q)) i = blank q := fun i hi => by rw [cAt_eq (by simpa using hi)]; simp
 refine ⟨by rw [e k hk]; exact blank_ok' hq, ?_, ?_, ?_⟩
 ·rw [e k hk]
  constructor
  ·intro a; cases a
  ·rintro ⟨a, b⟩; rw [e (k - 1) (by omega)] at b; cases b
 ·intro a b; rw [e (k - 1) (by omega)] at b; cases b
 ·rw [e k hk]; intro a; cases a
end Go.Proofs.YtppijfjigcoifaaDoor

namespace Go.Proofs.YtppijfjigcoifaaDoor
open Go.RowKit

section
variable {j k cols : Nat} {x : Cell} {cs : List Cell} {ins : Bool}
end
end Go.Proofs.YtppijfjigcoifaaDoor

namespace Go.Proofs.YtppijfjigcoifaaDoor
open Go.RowKit

section
variable {cs : List Cell} {j k cols : Nat} {x : Cell} {q : Pen} {n : Int}
theorem RowV.shiftN (h : RowV cs) (hq : q.ok = true) (hl : cs.length = cols) (hj : j < cols) : RowV (shiftN j cols n q cs) := by
 unfold Proofs.YtppijfjigcoifaaDoor.shiftN
 by_cases h0 : n = 0
 ·rw [if_pos h0]; exact h
 rw [if_neg h0]
 split
 ·exact h.shiftR hq (by omega) (by omega)
 ·exact h.shiftL hq (by omega) (by omega)
theorem putC_far (hw : 1 ≤ x.width.toNat ∧ x.width.toNat ≤ 2) (hk : k + 1 < j ∨ j + x.width.toNat < k) : cAt (putC j x cs) k = cAt cs k := by
 have h : cAt ((brk (j + x.width.toNat) (brk j cs)).set j x) k = cAt cs k := by
  rw [cAt_set, if_neg (by omega), cAt_brk, if_neg (by omega), cAt_brk, if_neg (by omega)]
 unfold putC
 simp only
 split
 ·next e => rw [cAt_set, if_neg (by omega)]; exact h
 ·exact h
end
section
variable {top bot cols : Nat} {n : Int} {q : Pen} {L : List Ln}
theorem AllV.roll (h : AllV L) (hq : q.ok = true) (htb : top ≤ bot) (hbl : bot < L.length) : AllV (rollL top bot n q cols L) := fun l hl => by
 obtain ⟨r, hr, rfl⟩ := List.getElem_of_mem hl
 have h1 := rollL_get (n := n) (q := q) (cols := cols) htb hbl r
 rw [List.getElem?_eq_getElem hr] at h1
 have hm : ∀ (o : Option Ln) (p : Prop) [Decidable p] (x : Ln), (∀ y : Ln, o = some y → RowV y.1) → some x = o.map (hardIf p) → RowV x.1 := fun o p _ x ho h => by
  cases o with
  | none => simp at h
  | some y => simp only [Option.map_some, Option.some.injEq] at h; subst h; unfold hardIf; split <;> exact ho y rfl
 have hL : ∀ (i : Nat) (y : Ln), L[i]? = some y → RowV y.1 := fun i y hy => h y (List.mem_of_getElem? hy)
 have hfr : ∀ x : Ln, some x = some (freshLn cols q) → RowV x.1 := fun x e => by simp only [Option.some.injEq] at e; rw [e]; exact rowV_blanks hq
 by_cases hn : n = 0
 ·unfold rollAt at h1; rw [if_pos hn] at h1; exact hL r _ h1.symm
 by_cases ho : r < top ∨ bot < r
 ·rw [rollAt_out hn ho] at h1; exact hm _ _ _ (hL r) h1
 by_cases hp : 0 < n
 ·by_cases h2 : r + rollK n (bot + 1 - top) ≤ bot
  ·rw [rollAt_up hp rfl ho h2] at h1; exact hm _ _ _ (hL _) h1
  ·rw [rollAt_upf hp rfl ho h2] at h1; exact hfr _ h1
 ·have hn2 : n < 0 := by omega
  by_cases h2 : r < top + rollK n (bot + 1 - top)
  ·rw [rollAt_dnf hn2 rfl ho h2] at h1; exact hfr _ h1
  ·rw [rollAt_dn hn2 rfl ho h2] at h1; exact hm _ _ _ (hL _) h1
theorem gone_up (hn : 0 < n) (hK : rollK n (bot + 1 - top) ≤ bot + 1 - top) : rollGone top bot n L = (L.drop top).take (rollK n (bot + 1 - top)) := by
 unfold rollGone rollIn
 rw [if_neg (by omega), if_pos hn, List.take_take, Nat.min_eq_left hK]
theorem gone_down (hn : n < 0) (htb : top ≤ bot) (hK : rollK n (bot + 1 - top) ≤ bot + 1 - top) : rollGone top bot n L = (L.drop (bot + 1 - rollK n (bot + 1 - top))).take (rollK n (bot + 1 - top)) := by
 unfold rollGone rollIn
 rw [if_neg (by omega), if_neg (by omega), List.drop_take, List.drop_drop]
 congr 1
 ·omega
 ·congr 1; omega
theorem stay_up (hn : 0 < n) (htb : top ≤ bot) (hbl : bot < L.length) {r : Nat} (h1 : top ≤ r) (h2 : r + rollK n (bot + 1 - top) ≤ bot) {l0 : Ln} (hl : L[r + rollK n (bot + 1 - top)]? = some l0) : ∃ l1, (rollL top bot n q cols L)[r]? = some l1 ∧ l1.1 = l0.1 := by
 rw [rollL_get htb hbl, rollAt_up hn rfl (by omega) h2, hl]
 refine ⟨_, rfl, ?_⟩
 unfold hardIf; split <;> rfl
theorem stay_down (hn : n < 0) (htb : top ≤ bot) (hbl : bot < L.length) {r : Nat} (h1 : top + rollK n (bot + 1 - top) ≤ r) (h2 : r ≤ bot) {l0 : Ln} (hl : L[r - rollK n (bot + 1 - top)]? = some l0) : ∃ l1, (rollL top bot n q cols L)[r]? = some l1 ∧ l1.1 = l0.1 := by
 rw [rollL_get htb hbl, rollAt_dn hn rfl (by omega) (by omega), hl]
 refine ⟨_, rfl, ?_⟩
 unfold hardIf; split <;> rfl
end
end Go.Proofs.YtppijfjigcoifaaDoor

namespace Go.Proofs.YtppijfjigcoifaaDoor
open Go.RowKit

theorem ok_row {l : List Cell} (h : lineOk l = true) : rowOk l = true := by simp [lineOk] at h; exact h.2
theorem ok_of_row {l : List Cell} (h : RowV l) (hn : l.length ≤ 1000) : lineOk l = true := by simp [lineOk, rowOk_is.2 h, hn]
theorem AllV.rowMod {L : List Ln} (h : AllV L) (i : Nat) {f : List Cell → List Cell} (hf : ∀ l : Ln, l ∈ L → RowV (f l.1)) : AllV (rowMod i f L) := by
 rw [rowMod_is]; exact h.lnMod i hf
theorem AllV.softMod {L : List Ln} (h : AllV L) (i : Nat) (s : Bool) : AllV (softMod i s L) := by
 rw [softMod_is]; exact h.lnMod i (fun l hl => h l hl)
theorem AllV.set {L : List Ln} (h : AllV L) (i : Nat) {l : Ln} (hl : RowV l.1) : AllV (L.set i l) := fun x hx => by
 rcases List.mem_or_eq_of_mem_set hx with h1 | rfl
 ·exact h x h1
 ·exact hl
theorem allV_new (rows cols : Nat) {q : Pen} (hq : q.ok = true) : AllV (List.replicate rows (List.replicate cols (blank q), false)) := fun l hl => by
 rw [(List.mem_replicate.1 hl).2]; exact rowV_blanks hq
theorem AllV.lineOk {L : List Ln} {cols : Nat} (h : AllV L) (hR : Rect cols L) (hcm : cols ≤ 1000) : ∀ l ∈ L, lineOk l.1 = true := fun l hl => ok_of_row (h l hl) (by rw [hR l hl]; exact hcm)
theorem act14N_all {a : Act14} {cols : Nat} {L : List Ln} (hR : Rect cols L) (h : AllV L) : AllV (act14N a cols L) := by
 unfold act14N
 split
 ·split
  ·next hp =>
   obtain ⟨i, j, e1, e2, h1, h2, h3, h4, h5⟩ := putE_yes hp
   exact h.rowMod _ (fun l hl => (h l hl).put h3 (ok_w12 h3 h4) (by rw [hR l hl, e2]; simpa using h5))
  ·exact h
 split
 ·split
  ·next hp =>
   obtain ⟨i, f, t, e1, e2, e3, h1, h2, h3, h4⟩ := clrE_yes hp
   exact h.rowMod _ (fun l hl => (h l hl).clear h4 (by rw [hR l hl, e3]; simpa using h3))
  ·exact h
 split
 ·split
  ·next hp =>
   obtain ⟨i, j, e1, e2, h1, h2, h3⟩ := shfE_yes hp
   exact h.rowMod _ (fun l hl => (h l hl).shiftN h3 (hR l hl) (by rw [e2]; simpa using h2))
  ·exact h
 split
 ·split
  ·next hp =>
   obtain ⟨i, e1, h1, h2⟩ := setE_yes hp
   exact h.set _ (rowOk_is.1 (fit_row _ (ok_row h2)))
  ·exact h
 split
 ·split
  ·exact h.softMod _ _
  ·exact h
 split
 ·split
  ·next hp =>
   obtain ⟨t, b, e1, e2, h1, h2, h3⟩ := rolE_yes hp
   rw [e1, e2]
   exact h.roll h3 h1 h2
  ·exact h
 exact h
end Go.Proofs.YtppijfjigcoifaaDoor

namespace Go.Proofs.YtppijfjigcoifaaDoor
open Go.RowKit

section
variable {w0 w : World} {os : List Ob} {k p cols : Nat} {L : List Ln}
end
end Go.Proofs.YtppijfjigcoifaaDoor

namespace Go.Proofs.YtppijfjigcoifaaDoor
open Go.RowKit

section
variable {w0 w : World} {os : List Ob} {L : List Ln} {v b : Value}
theorem Objs.storeLine {k j i gr n c : Nat} {l : Ln} {v2 : Value} {cs : List Cell} {s : Bool} (hS : Objs w0 w os) (hk : os[k]? = some (.linesx (.slice (some ⟨gr, 0, none⟩) n c) L i b)) (hj : os[j]? = some (.cells v2 cs)) (hkj : k ≠ j) (hl : L[i]? = some l) :
  Objs w0 ((w.setCell ⟨gr, i * 2, none⟩ v2).setCell ⟨gr, i * 2 + 1, none⟩ (.bool s)) ((os.set k (.lines (.slice (some ⟨gr, 0, none⟩) n c) (L.set i (cs, s)))).set j .none) := by
 have h1 := hS.storeRow hk hj hkj (s := l.2) (by rw [hl]; rfl)
 have hi : i < L.length := (List.getElem?_eq_some_iff.1 hl).1
 have hkl : k < os.length := (List.getElem?_eq_some_iff.1 hk).1
 have h2 := h1.storeSoft (k := k) (i := i) (l := (cs, l.2)) (s := s) (gr := gr) (n := n) (c := c) (L := L.set i (cs, l.2)) (by rw [List.getElem?_set_ne (Ne.symm hkj), List.getElem?_set_self hkl]) (by rw [List.getElem?_set_self hi])
 rw [List.set_comm _ _ (Ne.symm hkj), List.set_set, List.set_set] at h2
 exact h2
end
end Go.Proofs.YtppijfjigcoifaaDoor

namespace Go.Proofs.YtppijfjigcoifaaDoor
open Go.RowKit

def tupV : Value → Value
 | .tuple a => lineV (a.getD 0 undef)
 | v => v
section
variable {w0 w : World} {os : List Ob} {p cols : Nat} {L : List Ln}
theorem fit_yes' {A : Option Addr} {c m : Nat} {cs : List Cell} {s : Bool} (hm : m = cs.length) (n : Nat) (hn : n ≤ 1000) (hT : Tabs w0) (hS : Objs w0 w os) (ha : RdC w A c cs) (hl : cs.length ≤ 100000) (hv : lineOk cs = true) :
  Calls Tryd.prog 61 #[.agg #[.slice A m c, .bool s], .int .i64 n] w fun e w' => ∃ v, e = .returned (.tuple #[.agg #[v, .bool s], .int .i64 0]) ∧ Objs w0 w' (.cells v (fitTo n cs) :: os) := by
 subst hm; exact fit_yes A c cs s n hn hT hS ha hl hv
set_option maxRecDepth 100000 in
set_option maxHeartbeats 4000000 in
theorem SetLine_yes {i n : Nat} {l : Ln} {A : Option Addr} {c : Nat} {cs : List Cell} {s : Bool} {o : Ob} (hT : Tabs w0) (hS : Objs w0 w (.grid p 58 cols L :: o :: os)) (hc : 0 < cols) (hcm : cols ≤ 1000) (hl : L[i]? = some l)
  (hnn : n = cs.length) (hA : ∀ w', (∃ F, o.at w' F) → Below w0.heap.size w0 w' → RdC w' A c cs) (hlc : cs.length ≤ 100000) (hv : lineOk cs = true) :
  Calls Tryd.prog 53 #[.pointer (some ⟨p, 0, none⟩), .int .i64 i, .agg #[.slice A n c, .bool s]] w fun e w' => e = .returned (.int .i64 0) ∧ Objs w0 w' (.grid p 58 cols (L.set i (fitTo cols cs, s)) :: o :: os) := by
 have S := Lib.hid hS
 have hi : i < L.length := (List.getElem?_eq_some_iff.1 hl).1
 have HL := Lib.hid hl
 have HT := Lib.hid hT
 have HA := Lib.hid hA
 have HN := Lib.hid hnn
 have HV := Lib.hid hv
 have HE := Lib.hid (show thereE i L = 0 by unfold thereE; rw [if_pos ⟨by omega, by omega⟩])
 clear hS hl hT hA hnn hv
 go_enter Tryd.func53, Tryd.ntmps53
 go_wp2_with fail
 refine (there_any i S.out.alloc1 (k := 1) rfl hc).mono ?_
 rw [HE.out]
 rintro e w1 ⟨rfl, hS⟩
 have S1 := Lib.hid hS
 clear hS S
 generalize w.heap.size = b5 at S1 ⊢
 go_upto_region 4 with (fail)
 refine wp_region_stage (w0 := w0) (os := os) (by kernel_rfl) (by kernel_rfl) (by kernel_rfl) [(0, 5, [5], fun vs => .cells (tupV (vs 5)) (fitTo cols cs)), (0, 6, [6], fun vs => .cells (tupV (vs 6)) (fitTo cols cs)), (0, 7, [7], fun vs => .cells (lineV (vs 7)) (fitTo cols cs)), (1, 9, [9], fun vs => .box (blkOf (vs 9)) 39 #[.slice none 0 0, .bool false]), (1, 10, [9, 7], fun vs => .box (blkOf (vs 9)) 39 #[lineV (vs 7), .bool s])] [[2], [], [], [], [3], [0, 4], [0], [0], [], [1], [1], []] [.none, .none, .box b5 39 #[.slice A n c, .bool s], .grid p 58 ↑cols L, o] (fun opn u => match opn with | 0 => u = .agg #[.slice A n c, .bool s] | 1 => u = .pointer (some ⟨p, 0, none⟩) | 2 => u = .pointer (some ⟨p, 0, none⟩) | 3 => u = .pointer (some ⟨p, 0, none⟩) | 4 => u = .int .i64 ↑cols | 5 => ∃ A m c, u = .tuple #[.agg #[.slice A m c, .bool s], .int .i64 0] | 6 => ∃ A m c, u = .tuple #[.agg #[.slice A m c, .bool s], .int .i64 0] | 7 => ∃ A m c, u = .agg #[.slice A m c, .bool s] | 8 => u = .int .i64 0 | 9 => ∃ g, u = .pointer (some ⟨g, 0, none⟩) | 10 => True | 11 => u = .int .i64 0 | _ => True) (fun vs => [.cells (lineV (vs 7)) (fitTo cols cs), .box (blkOf (vs 9)) 39 #[lineV (vs 7), .bool s], .box b5 39 #[.slice A n c, .bool s], .grid p 58 ↑cols L, o]) (by kernel_rfl) (fun vs => by rfl) S1.out.pad.pad ?_ ?_
 ·apply sc
  ·intro a w' vs σ hS hl hs hk
   have f5 : a.tmps[5]?.getD undef = .pointer (some ⟨b5, 0, none⟩) := sof hk
   have hx := (hS.box (sg (hs 2 (by decide)))).cell
   exact rp (.agg #[.slice A n c, .bool s]) (by simp [execOp, Act.eval, f5, go_sem, hx]) hl hs hS
  apply sc
  ·intro a w' vs σ hS hl hs hk
   have f0 : a.tmps[0]?.getD undef = .pointer (some ⟨p, 0, none⟩) := sof hk
   exact rp (pt p 0) (by simp [execOp, Act.eval, f0, go_sem]) hl hs hS
  apply sc
  ·intro a w' vs σ hS hl hs hk
   have f18 : a.tmps[18]?.getD undef = .pointer (some ⟨p, 0, none⟩) := svf hk 1
   exact rp (pt p 0) (by simp [execOp, Act.eval, f18, go_sem]) hl hs hS
  apply sc
  ·intro a w' vs σ hS hl hs hk
   have f19 : a.tmps[19]?.getD undef = .pointer (some ⟨p, 0, none⟩) := svf hk 2
   exact rp (pt p 0) (by simp [execOp, Act.eval, f19, go_sem]) hl hs hS
  apply sc
  ·intro a w' vs σ hS hl hs hk
   have f20 : a.tmps[20]?.getD undef = .pointer (some ⟨p, 0, none⟩) := svf hk 3
   obtain ⟨A1, c1, hB1, -, -⟩ := hS.gridRd (sg (hs 3 (by decide)))
   have hx := hB1.cell
   exact rp (.int .i64 ↑cols) (by simp [execOp, Act.eval, f20, go_sem, hx]) hl hs hS
  apply sc
  ·intro a w' vs σ hS hl hs hk
   have e17 : a.tmps.getD 17 undef = .agg #[.slice A n c, .bool s] := svv hk 0
   have e21 : a.tmps.getD 21 undef = .int .i64 ↑cols := svv hk 4
   have h0 : σ[0]? = some .none := hs 0 (by decide)
   have h4 : σ[4]? = some o := hs 4 (by decide)
   exact ro_call (f := 61) (wanted_none rfl) rfl (by simp only [List.map_toArray, List.map_cons, List.map_nil, Act.eval, e17, e21] <;> rfl) (fun _ _ => by kernel_rfl) ((fit_yes' (s := s) HN.out cols hcm HT.out hS (HA.out w' (hS.get (sg h4)) hS.base) hlc HV.out).mono fun e w2 ⟨x, h1, h2⟩ => ⟨_, h1, sp_set 0 (.cells x (fitTo cols cs)) (by kernel_rfl) (by simp) (by decide) hl hs (by rfl) (h2.place (sg h0)) (by obtain ⟨A', c', e, -⟩ := h2.cellsRd (k := 0) rfl; exact ⟨A', _, c', by rw [e]⟩), trivial⟩)
  apply sc
  ·intro a w' vs σ hS hl hs hk
   have e22 : a.tmps.getD 22 undef = vs 5 := sk_val hk 5 (by kernel_rfl) rfl rfl
   have p22 : (fun u : Value => ∃ A m c, u = .tuple #[.agg #[.slice A m c, .bool s], .int .i64 0]) (vs 5) := (hk.1 5 (by kernel_rfl)).1
   obtain ⟨A9, n9, c9, q9⟩ := p22
   have e9 := e22.trans q9
   have f9 := gd e9
   have h0 : σ[0]? = some (.cells (tupV (vs 5)) (fitTo cols cs)) := hs 0 (by decide)
   rw [q9, show tupV (.tuple #[.agg #[.slice A9 n9 c9, .bool s], .int .i64 0]) = .slice A9 n9 c9 from rfl] at h0
   have hSS : Objs w0 w' ((σ ++ os).set 0 (.cells (.slice A9 n9 c9) (fitTo cols cs))) := by rw [set_self (sg h0)]; exact hS
   exact rs_run (v' := .tuple #[.agg #[.slice A9 n9 c9, .bool s], .int .i64 0]) (w' := w') (wanted_none rfl) (by simp [execOp, Act.eval, e9, f9, go_sem]) (sp_set 0 (.cells (.slice A9 n9 c9) (fitTo cols cs)) (by kernel_rfl) (by simp) (by decide) hl hs (by rfl) hSS ⟨A9, n9, c9, rfl⟩)
  apply sc
  ·intro a w' vs σ hS hl hs hk
   have e16 : a.tmps.getD 16 undef = vs 6 := sk_val hk 6 (by kernel_rfl) rfl rfl
   have p16 : (fun u : Value => ∃ A m c, u = .tuple #[.agg #[.slice A m c, .bool s], .int .i64 0]) (vs 6) := (hk.1 6 (by kernel_rfl)).1
   obtain ⟨A9, n9, c9, q9⟩ := p16
   have e9 := e16.trans q9
   have f9 := gd e9
   have h0 : σ[0]? = some (.cells (tupV (vs 6)) (fitTo cols cs)) := hs 0 (by decide)
   rw [q9, show tupV (.tuple #[.agg #[.slice A9 n9 c9, .bool s], .int .i64 0]) = .slice A9 n9 c9 from rfl] at h0
   have hSS : Objs w0 w' ((σ ++ os).set 0 (.cells (.slice A9 n9 c9) (fitTo cols cs))) := by rw [set_self (sg h0)]; exact hS
   exact rs_run (v' := .agg #[.slice A9 n9 c9, .bool s]) (w' := w') (wanted_none rfl) (by simp [execOp, Act.eval, e9, f9, go_sem]) (sp_set 0 (.cells (.slice A9 n9 c9) (fitTo cols cs)) (by kernel_rfl) (by simp) (by decide) hl hs (by rfl) hSS ⟨A9, n9, c9, rfl⟩)
  apply sc
  ·intro a w' vs σ hS hl hs hk
   have e16 : a.tmps.getD 16 undef = vs 6 := sk_val hk 6 (by kernel_rfl) rfl rfl
   have p16 : (fun u : Value => ∃ A m c, u = .tuple #[.agg #[.slice A m c, .bool s], .int .i64 0]) (vs 6) := (hk.1 6 (by kernel_rfl)).1
   obtain ⟨A9, n9, c9, q9⟩ := p16
   have e9 := e16.trans q9
   have f9 := gd e9
   exact ro_pure (v := .int .i64 0) (wanted_none rfl) (by simp [execOp, Act.eval, e9, f9, go_sem]) (sp_same (by kernel_rfl) hl hs hS rfl) trivial
  apply sc
  ·intro a w' vs σ hS hl hs hk
   have h1 : σ[1]? = some .none := hs 1 (by decide)
   exact rs_run (v' := .pointer (some ⟨w'.heap.size, 0, none⟩)) (w' := w'.alloc (.cells #[.slice none 0 0, .bool false] 39)) (wanted_none rfl) (by simp [execOp, go_sem]) (sp_set 1 (.box w'.heap.size 39 #[.slice none 0 0, .bool false]) (by kernel_rfl) (by simp) (by decide) hl hs (by rfl) (hS.alloc1.place (sg h1)) ⟨_, rfl⟩)
  apply sc
  ·intro a w' vs σ hS hl hs hk
   have e8 : a.tmps.getD 8 undef = vs 9 := sk_val hk 9 (by kernel_rfl) rfl rfl
   have p8 : (fun u : Value => ∃ g, u = .pointer (some ⟨g, 0, none⟩)) (vs 9) := (hk.1 9 (by kernel_rfl)).1
   have f8 := gd e8
   have e23 : a.tmps.getD 23 undef = vs 7 := sk_val hk 7 (by kernel_rfl) rfl rfl
   have p23 : (fun u : Value => ∃ A m c, u = .agg #[.slice A m c, .bool s]) (vs 7) := (hk.1 7 (by kernel_rfl)).1
   have f23 := gd e23
   obtain ⟨g9, q9⟩ := p8
   obtain ⟨A7, n7, c7, q7⟩ := p23
   have h1 : σ[1]? = some (.box (blkOf (vs 9)) 39 #[.slice none 0 0, .bool false]) := hs 1 (by decide)
   rw [q9, show blkOf (.pointer (some ⟨g9, 0, none⟩)) = g9 from rfl] at h1
   obtain ⟨hx, hf, hz⟩ := (hS.box (sg h1)).facts
   exact rstep_store (w2 := (w'.setCell ⟨g9, 0, none⟩ (.slice A7 n7 c7)).setCell ⟨g9, 1, none⟩ (.bool s)) (wanted_none rfl) rfl (by simp [execOp, Act.eval, e8, f8, e23, f23, q9, q7, hx, hf, hz, go_sem]) (sp_set 1 (.box g9 39 #[.slice A7 n7 c7, .bool s]) (by kernel_rfl) (by simp) (by decide) hl hs (by show Ob.box (blkOf (vs 9)) 39 #[lineV (vs 7), .bool s] = _; rw [q9, q7]; rfl) (hS.setLine 1 _ s (sg h1)) trivial) trivial
  apply sc
  ·intro a w' vs σ hS hl hs hk
   have f24 : a.tmps[24]?.getD undef = .int .i64 0 := svf hk 8
   exact rp (.int .i64 0) (by simp [execOp, Act.eval, f24, go_sem]) hl hs hS
  exact SSteps.nil
 ·intro vs w' hS hv
  have q0 : vs 0 = _ := hv 0 (by decide)
  have q1 : vs 1 = _ := hv 1 (by decide)
  have q2 : vs 2 = _ := hv 2 (by decide)
  have q3 : vs 3 = _ := hv 3 (by decide)
  have q4 : vs 4 = _ := hv 4 (by decide)
  have q8 : vs 8 = _ := hv 8 (by decide)
  have q11 : vs 11 = _ := hv 11 (by decide)
  obtain ⟨g9, q9⟩ := (show ∃ g, vs 9 = .pointer (some ⟨g, 0, none⟩) from hv 9 (by decide))
  obtain ⟨A7, n7, c7, q7⟩ := (show ∃ A m c, vs 7 = .agg #[.slice A m c, .bool s] from hv 7 (by decide))
  obtain ⟨A6, n6, c6, q6⟩ := (show ∃ A m c, vs 6 = .tuple #[.agg #[.slice A m c, .bool s], .int .i64 0] from hv 6 (by decide))
  obtain ⟨A55, n55, c55, q55⟩ := (show ∃ A m c, vs 5 = .tuple #[.agg #[.slice A m c, .bool s], .int .i64 0] from hv 5 (by decide))
  rw [q9, q7] at hS
  have q10 := q9
  have S2 := Lib.hid hS
  simp only [putL, Act.put, Nat.zero_add, Nat.reduceAdd, List.setIfInBounds_toArray, List.set_cons_succ, List.set_cons_zero, q0, q1, q2, q3, q4, q8, q11]
  clear hS hv q0 q1 q2 q3 q4 q8 q11
  simp only [q9, q7, q6, q55]
  obtain ⟨v, hS1⟩ := S2.out.openGrid (k := 3) rfl
  obtain ⟨b, hS2⟩ := hS1.openRow (k := 0) rfl HL.out
  obtain ⟨gr, cg, rfl, hgc, hgm, -, hzg, -, -, hfg⟩ := hS2.linesxRd (k := 1) rfl
  obtain ⟨hx9, hf9, hz9⟩ := (hS2.box (k := 3) rfl).facts
  obtain ⟨hxp, hfp, hzp⟩ := (hS2.box (k := 5) rfl).facts
  have SX := Lib.hid hS2
  have hb0 : (0 : Int) ≤ (i : Int) := by omega
  have hb1 : (i : Int) < (L.length : Int) := by omega
  clear hS1 hS2 q9 q7 q6 q55 q10 S1 S2 hx9 hf9 hz9 hxp hfp hzp
  go_upto_region 7 with (fail)
  refine wp_region_stage (w0 := w0) (os := os) (by kernel_rfl) (by kernel_rfl) (by kernel_rfl) [(1, 7, [], fun vs => .lines (.slice (some ⟨gr, 0, none⟩) L.length cg) (L.set i ((fitTo cols cs), s))), (2, 7, [], fun vs => .none)] [[], [], [], [5], [], [3], [], [1, 2]] [.cells b l.1, .linesx (.slice (some ⟨gr, 0, none⟩) L.length cg) L i b, .cells (.slice A7 n7 c7) (fitTo cols cs), .box g9 39 #[.slice A7 n7 c7, .bool s], .box b5 39 #[.slice A n c, .bool s], .box p 58 #[.int .i64 ↑cols, .slice (some ⟨gr, 0, none⟩) L.length cg], o] (fun opn u => match opn with | 0 => u = .pointer (some ⟨p, 0, none⟩) | 1 => u = .pointer (some ⟨p, 0, none⟩) | 2 => u = .pointer (some ⟨p, 1, none⟩) | 3 => u = .slice (some ⟨gr, 0, none⟩) L.length cg | 4 => u = .int .i64 ↑i | 5 => u = .agg #[.slice A7 n7 c7, .bool s] | 6 => u = .pointer (some ⟨gr, i * 2, none⟩) | 7 => True | _ => True) (fun vs => [.cells b l.1, .lines (.slice (some ⟨gr, 0, none⟩) L.length cg) (L.set i ((fitTo cols cs), s)), .none, .box g9 39 #[.slice A7 n7 c7, .bool s], .box b5 39 #[.slice A n c, .bool s], .box p 58 #[.int .i64 ↑cols, .slice (some ⟨gr, 0, none⟩) L.length cg], o]) (by kernel_rfl) (fun vs => by rfl) SX.out ?_ ?_
  ·apply sc
   ·intro a w' vs σ hS hl hs hk
    have f0 : a.tmps[0]?.getD undef = .pointer (some ⟨p, 0, none⟩) := sof hk
    exact rp (pt p 0) (by simp [execOp, Act.eval, f0, go_sem]) hl hs hS
   apply sc
   ·intro a w' vs σ hS hl hs hk
    have f27 : a.tmps[27]?.getD undef = .pointer (some ⟨p, 0, none⟩) := svf hk 0
    exact rp (pt p 0) (by simp [execOp, Act.eval, f27, go_sem]) hl hs hS
   apply sc
   ·intro a w' vs σ hS hl hs hk
    have f28 : a.tmps[28]?.getD undef = .pointer (some ⟨p, 0, none⟩) := svf hk 1
    exact rp (pt p 1) (by simp [execOp, Act.eval, f28, go_sem]) hl hs hS
   apply sc
   ·intro a w' vs σ hS hl hs hk
    have f29 : a.tmps[29]?.getD undef = .pointer (some ⟨p, 1, none⟩) := svf hk 2
    have hx := (hS.box (sg (hs 5 (by decide)))).cell
    exact rp (.slice (some ⟨gr, 0, none⟩) L.length cg) (by simp [execOp, Act.eval, f29, go_sem, hx]) hl hs hS
   apply sc
   ·intro a w' vs σ hS hl hs hk
    have f1 : a.tmps[1]?.getD undef = .int .i64 ↑i := sof hk
    exact rp (.int .i64 ↑i) (by simp [execOp, Act.eval, f1, go_sem]) hl hs hS
   apply sc
   ·intro a w' vs σ hS hl hs hk
    have f8 : a.tmps[8]?.getD undef = .pointer (some ⟨g9, 0, none⟩) := sof hk
    have hx := (hS.box (sg (hs 3 (by decide)))).cell
    exact rp (.agg #[.slice A7 n7 c7, .bool s]) (by simp [execOp, Act.eval, f8, go_sem, hx]) hl hs hS
   apply sc
   ·intro a w' vs σ hS hl hs hk
    have f30 : a.tmps[30]?.getD undef = .slice (some ⟨gr, 0, none⟩) L.length cg := svf hk 3
    have f31 : a.tmps[31]?.getD undef = .int .i64 ↑i := svf hk 4
    exact rp (pt gr (i * 2)) (by simp [execOp, Act.eval, f30, f31, go_sem, hb0, hb1]) hl hs hS
   apply sc
   ·intro a w' vs σ hS hl hs hk
    have f33 : a.tmps[33]?.getD undef = .pointer (some ⟨gr, i * 2, none⟩) := svf hk 6
    have f32 : a.tmps[32]?.getD undef = .agg #[.slice A7 n7 c7, .bool s] := svf hk 5
    have h1 : σ[1]? = some (.linesx (.slice (some ⟨gr, 0, none⟩) L.length cg) L i b) := hs 1 (by decide)
    have h2 : σ[2]? = some (.cells (.slice A7 n7 c7) (fitTo cols cs)) := hs 2 (by decide)
    obtain ⟨g', c', e', -, -, -, hz, hc1, hc2, hf⟩ := hS.linesxRd (sg h1)
    simp only [Value.slice.injEq, Option.some.injEq, Addr.mk.injEq, and_true, true_and] at e'
    obtain ⟨rfl, -⟩ := e'
    have hc2 := hc2 l HL.out
    exact rstep_store (w2 := (w'.setCell ⟨gr, i * 2, none⟩ (.slice A7 n7 c7)).setCell ⟨gr, i * 2 + 1, none⟩ (.bool s)) (wanted_none rfl) rfl (by simp [execOp, Act.eval, f33, f32, hf, hz, hc1, hc2, go_sem]) (sp_set2 1 2 (.lines (.slice (some ⟨gr, 0, none⟩) L.length cg) (L.set i ((fitTo cols cs), s))) .none (by decide) (by kernel_rfl) (by simp) (by simp) (by decide) (by decide) hl hs (by rfl) (by rfl) (hS.storeLine (k := 1) (j := 2) (s := s) (sg h1) (sg h2) (by decide) HL.out) trivial) trivial
   exact SSteps.nil
  ·intro vs w' hS hv
   have q0 : vs 0 = _ := hv 0 (by decide)
   have q1 : vs 1 = _ := hv 1 (by decide)
   have q2 : vs 2 = _ := hv 2 (by decide)
   have q3 : vs 3 = _ := hv 3 (by decide)
   have q4 : vs 4 = _ := hv 4 (by decide)
   have q5 : vs 5 = _ := hv 5 (by decide)
   have q6 : vs 6 = _ := hv 6 (by decide)
   have S2 := Lib.hid hS
   simp only [putL, Act.put, Nat.zero_add, Nat.reduceAdd, List.setIfInBounds_toArray, List.set_cons_succ, List.set_cons_zero, q0, q1, q2, q3, q4, q5, q6]
   clear hS hv q0 q1 q2 q3 q4 q5 q6
   have S3 := Lib.hid (((((((show Objs w0 _ (.lines _ _ :: _) from S2.out.del 0).closeGrid (k := 3) rfl).del 0).del 0).del 0)))
   clear SX S2
   go_wp2_with fail
   go_ret
   exact ⟨rfl, S3.out⟩
theorem fit_no' {A : Option Addr} {c m : Nat} {cs : List Cell} {s : Bool} (hm : m = cs.length) (n : Int) (hT : Tabs w0) (hS : Objs w0 w os) (ha : RdC w A c cs) (hl : cs.length ≤ 100000) (hv : lineOk cs = false) :
  Calls Tryd.prog 61 #[.agg #[.slice A m c, .bool s], .int .i64 n] w fun e w' => e = .returned (.tuple #[.agg #[.slice none 0 0, .bool false], .int .i64 2]) ∧ Objs w0 w' os := by
 subst hm; exact fit_no A c cs s n hT hS ha hl hv
theorem SetLine_out {row : Int} {v : Value} {s : Bool} (hS : Objs w0 w (.grid p 58 cols L :: os)) (hc : 0 < cols) (hno : ¬ (0 ≤ row ∧ row < L.length)) :
  Calls Tryd.prog 53 #[.pointer (some ⟨p, 0, none⟩), .int .i64 row, .agg #[v, .bool s]] w fun e w' => e = .returned (.int .i64 3) ∧ Objs w0 w' (.grid p 58 cols L :: os) := by
 have S := Lib.hid hS
 have HE := Lib.hid (show thereE row L = 3 by unfold thereE; rw [if_neg hno])
 clear hS hno
 go_enter Tryd.func53, Tryd.ntmps53
 go_wp2_with fail
 refine (there_any row S.out.alloc1 (k := 1) rfl hc).mono ?_
 rw [HE.out]
 rintro e w1 ⟨rfl, hS⟩
 have S1 := Lib.hid hS
 clear hS S
 go_wp2_with fail
 go_ret
 exact ⟨rfl, S1.out.tail⟩
set_option maxRecDepth 100000 in
set_option maxHeartbeats 4000000 in
theorem SetLine_bad {i n : Nat} {A : Option Addr} {c : Nat} {cs : List Cell} {s : Bool} {o : Ob} (hT : Tabs w0) (hS : Objs w0 w (.grid p 58 cols L :: o :: os)) (hc : 0 < cols) (hi : i < L.length)
  (hnn : n = cs.length) (hA : ∀ w', (∃ F, o.at w' F) → Below w0.heap.size w0 w' → RdC w' A c cs) (hlc : cs.length ≤ 100000) (hv : lineOk cs = false) :
  Calls Tryd.prog 53 #[.pointer (some ⟨p, 0, none⟩), .int .i64 i, .agg #[.slice A n c, .bool s]] w fun e w' => e = .returned (.int .i64 2) ∧ Objs w0 w' (.grid p 58 cols L :: o :: os) := by
 have S := Lib.hid hS
 have HT := Lib.hid hT
 have HA := Lib.hid hA
 have HN := Lib.hid hnn
 have HV := Lib.hid hv
 have HE := Lib.hid (show thereE i L = 0 by unfold thereE; rw [if_pos ⟨by omega, by omega⟩])
 clear hS hT hA hnn hv
 go_enter Tryd.func53, Tryd.ntmps53
 go_wp2_with fail
 refine (there_any i S.out.alloc1 (k := 1) rfl hc).mono ?_
 rw [HE.out]
 rintro e w1 ⟨rfl, hS⟩
 have S1 := Lib.hid hS
 clear hS S
 generalize w.heap.size = b5 at S1 ⊢
 go_upto_region 4 with (fail)
 refine wp_region_stage (w0 := w0) (os := os) (by kernel_rfl) (by kernel_rfl) (by kernel_rfl) [(0, 9, [9], fun vs => .box (blkOf (vs 9)) 39 #[.slice none 0 0, .bool false]), (0, 10, [9], fun vs => .box (blkOf (vs 9)) 39 #[.slice none 0 0, .bool false])] [[1], [], [], [], [2], [3], [], [], [], [0], [0], []] [.none, .box b5 39 #[.slice A n c, .bool s], .grid p 58 ↑cols L, o] (fun opn u => match opn with | 0 => u = .agg #[.slice A n c, .bool s] | 1 => u = .pointer (some ⟨p, 0, none⟩) | 2 => u = .pointer (some ⟨p, 0, none⟩) | 3 => u = .pointer (some ⟨p, 0, none⟩) | 4 => u = .int .i64 ↑cols | 5 => u = .tuple #[.agg #[.slice none 0 0, .bool false], .int .i64 2] | 6 => u = .tuple #[.agg #[.slice none 0 0, .bool false], .int .i64 2] | 7 => u = .agg #[.slice none 0 0, .bool false] | 8 => u = .int .i64 2 | 9 => ∃ g, u = .pointer (some ⟨g, 0, none⟩) | 10 => True | 11 => u = .int .i64 2 | _ => True) (fun vs => [.box (blkOf (vs 9)) 39 #[.slice none 0 0, .bool false], .box b5 39 #[.slice A n c, .bool s], .grid p 58 ↑cols L, o]) (by kernel_rfl) (fun vs => by rfl) S1.out.pad ?_ ?_
 ·apply sc
  ·intro a w' vs σ hS hl hs hk
   have f5 : a.tmps[5]?.getD undef = .pointer (some ⟨b5, 0, none⟩) := sof hk
   have hx := (hS.box (sg (hs 1 (by decide)))).cell
   exact rp (.agg #[.slice A n c, .bool s]) (by simp [execOp, Act.eval, f5, go_sem, hx]) hl hs hS
  apply sc
  ·intro a w' vs σ hS hl hs hk
   have f0 : a.tmps[0]?.getD undef = .pointer (some ⟨p, 0, none⟩) := sof hk
   exact rp (pt p 0) (by simp [execOp, Act.eval, f0, go_sem]) hl hs hS
  apply sc
  ·intro a w' vs σ hS hl hs hk
   have f18 : a.tmps[18]?.getD undef = .pointer (some ⟨p, 0, none⟩) := svf hk 1
   exact rp (pt p 0) (by simp [execOp, Act.eval, f18, go_sem]) hl hs hS
  apply sc
  ·intro a w' vs σ hS hl hs hk
   have f19 : a.tmps[19]?.getD undef = .pointer (some ⟨p, 0, none⟩) := svf hk 2
   exact rp (pt p 0) (by simp [execOp, Act.eval, f19, go_sem]) hl hs hS
  apply sc
  ·intro a w' vs σ hS hl hs hk
   have f20 : a.tmps[20]?.getD undef = .pointer (some ⟨p, 0, none⟩) := svf hk 3
   obtain ⟨A1, c1, hB1, -, -⟩ := hS.gridRd (sg (hs 2 (by decide)))
   have hx := hB1.cell
   exact rp (.int .i64 ↑cols) (by simp [execOp, Act.eval, f20, go_sem, hx]) hl hs hS
  apply sc
  ·intro a w' vs σ hS hl hs hk
   have e17 : a.tmps.getD 17 undef = .agg #[.slice A n c, .bool s] := svv hk 0
   have e21 : a.tmps.getD 21 undef = .int .i64 ↑cols := svv hk 4
   have h3 : σ[3]? = some o := hs 3 (by decide)
   exact ro_call (f := 61) (wanted_none rfl) rfl (by simp only [List.map_toArray, List.map_cons, List.map_nil, Act.eval, e17, e21] <;> rfl) (fun _ _ => by kernel_rfl) ((fit_no' (s := s) HN.out cols HT.out hS (HA.out w' (hS.get (sg h3)) hS.base) hlc HV.out).mono fun e w2 ⟨h1, h2⟩ => ⟨_, h1, sp_same (by kernel_rfl) hl hs h2 rfl, trivial⟩)
  apply sc
  ·intro a w' vs σ hS hl hs hk
   have f22 : a.tmps[22]?.getD undef = .tuple #[.agg #[.slice none 0 0, .bool false], .int .i64 2] := svf hk 5
   exact rp (.tuple #[.agg #[.slice none 0 0, .bool false], .int .i64 2]) (by simp [execOp, Act.eval, f22, go_sem]) hl hs hS
  apply sc
  ·intro a w' vs σ hS hl hs hk
   have f16 : a.tmps[16]?.getD undef = .tuple #[.agg #[.slice none 0 0, .bool false], .int .i64 2] := svf hk 6
   exact rp (.agg #[.slice none 0 0, .bool false]) (by simp [execOp, Act.eval, f16, go_sem]) hl hs hS
  apply sc
  ·intro a w' vs σ hS hl hs hk
   have f16 : a.tmps[16]?.getD undef = .tuple #[.agg #[.slice none 0 0, .bool false], .int .i64 2] := svf hk 6
   exact rp (.int .i64 2) (by simp [execOp, Act.eval, f16, go_sem]) hl hs hS
  apply sc
  ·intro a w' vs σ hS hl hs hk
   have h1 : σ[0]? = some .none := hs 0 (by decide)
   exact rs_run (v' := .pointer (some ⟨w'.heap.size, 0, none⟩)) (w' := w'.alloc (.cells #[.slice none 0 0, .bool false] 39)) (wanted_none rfl) (by simp [execOp, go_sem]) (sp_set 0 (.box w'.heap.size 39 #[.slice none 0 0, .bool false]) (by kernel_rfl) (by simp) (by decide) hl hs (by rfl) (hS.alloc1.place (sg h1)) ⟨_, rfl⟩)
  apply sc
  ·intro a w' vs σ hS hl hs hk
   have e8 : a.tmps.getD 8 undef = vs 9 := sk_val hk 9 (by kernel_rfl) rfl rfl
   have p8 : (fun u : Value => ∃ g, u = .pointer (some ⟨g, 0, none⟩)) (vs 9) := (hk.1 9 (by kernel_rfl)).1
   have f8 := gd e8
   have f23 : a.tmps[23]?.getD undef = .agg #[.slice none 0 0, .bool false] := svf hk 7
   obtain ⟨g9, q9⟩ := p8
   have h1 : σ[0]? = some (.box (blkOf (vs 9)) 39 #[.slice none 0 0, .bool false]) := hs 0 (by decide)
   rw [q9, show blkOf (.pointer (some ⟨g9, 0, none⟩)) = g9 from rfl] at h1
   obtain ⟨hx, hf, hz⟩ := (hS.box (sg h1)).facts
   exact rstep_store (w2 := (w'.setCell ⟨g9, 0, none⟩ (.slice none 0 0)).setCell ⟨g9, 1, none⟩ (.bool false)) (wanted_none rfl) rfl (by simp [execOp, Act.eval, e8, f8, f23, q9, hx, hf, hz, go_sem]) (sp_set 0 (.box g9 39 #[.slice none 0 0, .bool false]) (by kernel_rfl) (by simp) (by decide) hl hs (by show Ob.box (blkOf (vs 9)) 39 #[.slice none 0 0, .bool false] = _; rw [q9]; rfl) (hS.setLine 0 _ false (sg h1)) trivial) trivial
  apply sc
  ·intro a w' vs σ hS hl hs hk
   have f24 : a.tmps[24]?.getD undef = .int .i64 2 := svf hk 8
   exact rp (.int .i64 2) (by simp [execOp, Act.eval, f24, go_sem]) hl hs hS
  exact SSteps.nil
 ·intro vs w' hS hv
  have q0 : vs 0 = _ := hv 0 (by decide)
  have q1 : vs 1 = _ := hv 1 (by decide)
  have q2 : vs 2 = _ := hv 2 (by decide)
  have q3 : vs 3 = _ := hv 3 (by decide)
  have q4 : vs 4 = _ := hv 4 (by decide)
  have q5 : vs 5 = _ := hv 5 (by decide)
  have q6 : vs 6 = _ := hv 6 (by decide)
  have q7 : vs 7 = _ := hv 7 (by decide)
  have q8 : vs 8 = _ := hv 8 (by decide)
  have q11 : vs 11 = _ := hv 11 (by decide)
  obtain ⟨g9, q9⟩ := (show ∃ g, vs 9 = .pointer (some ⟨g, 0, none⟩) from hv 9 (by decide))
  rw [q9] at hS
  have q10 := q9
  have S2 := Lib.hid hS
  simp only [putL, Act.put, Nat.zero_add, Nat.reduceAdd, List.setIfInBounds_toArray, List.set_cons_succ, List.set_cons_zero, q0, q1, q2, q3, q4, q5, q6, q7, q8, q11]
  clear hS hv q0 q1 q2 q3 q4 q5 q6 q7 q8 q11
  simp only [q9]
  have S3 := Lib.hid ((S2.out.del 0).del 0)
  clear S2 S1 q10
  go_wp2_with fail
  go_ret
  exact ⟨rfl, S3.out⟩
end
end Go.Proofs.YtppijfjigcoifaaDoor

namespace Go.Proofs.YtppijfjigcoifaaDoor
open Go.RowKit

section
variable {w0 w : World} {os : List Ob} {p x cols : Nat} {L : List Ln}
end
end Go.Proofs.YtppijfjigcoifaaDoor

namespace Go.Proofs.YtppijfjigcoifaaDoor
open Go.RowKit

section
variable {w0 w : World} {os : List Ob} {p x cols : Nat} {L : List Ln}
end
end Go.Proofs.YtppijfjigcoifaaDoor

namespace Go.Proofs.YtppijfjigcoifaaDoor
open Go.RowKit

section
variable {w0 w : World} {os : List Ob} {p x cols : Nat} {L : List Ln}
end
end Go.Proofs.YtppijfjigcoifaaDoor

namespace Go.Proofs.YtppijfjigcoifaaDoor
open Go.RowKit

section
variable {w0 w : World} {os : List Ob} {p x cols : Nat} {L : List Ln}
end
end Go.Proofs.YtppijfjigcoifaaDoor

namespace Go.Proofs.YtppijfjigcoifaaDoor
open Go.RowKit

section
variable {w0 w : World} {os : List Ob} {p x cols : Nat} {L : List Ln}
end
end Go.Proofs.YtppijfjigcoifaaDoor

namespace Go.Proofs.YtppijfjigcoifaaDoor
open Go.RowKit

def N64 (n : Int) : Prop := -9223372036854775808 ≤ n ∧ n ≤ 9223372036854775807
section
variable {w0 w : World} {os : List Ob} {p x cols : Nat} {L : List Ln}
end
end Go.Proofs.YtppijfjigcoifaaDoor

namespace Go.Proofs.YtppijfjigcoifaaDoor
open Go.RowKit

theorem rectP14 (rows cols : Nat) (p : Pen) : Rect cols (List.replicate rows (List.replicate cols (blank p), false)) := fun l hl => by rw [(List.mem_replicate.1 hl).2]; simp
theorem small14_true {most : Nat} {l : List Act14} (h : small14b most l = true) : l.length ≤ most ∧ ∀ a ∈ l, a.cs.length ≤ 40 := by
 unfold small14b at h
 rw [Bool.and_eq_true, decide_eq_true_eq] at h
 refine ⟨h.2, fun a ha => ?_⟩
 have := List.all_eq_true.1 h.1 a (by rw [List.take_of_length_le h.2]; exact ha)
 simpa using this
def Ac14 (w : World) (a : Act14) : Prop := N64 a.a ∧ N64 a.b ∧ N64 a.n ∧ RdC w a.A a.c a.cs ∧ a.c ≤ maxLen
def Kept14 (s rr : Nat) (L : List Ln) : Prop := Rect s L ∧ L.length = rr ∧ AllV L
theorem Kept14.act {s rr : Nat} {L : List Ln} (h : Kept14 s rr L) (a : Act14) : Kept14 s rr (act14N a s L) :=
 ⟨(act14N_rect h.1).1, (act14N_rect h.1).2.trans h.2.1, act14N_all h.1 h.2.2⟩
theorem kept14_new (s rr : Nat) : Kept14 s rr (List.replicate rr (List.replicate s (blank pen0), false)) := ⟨rectP14 rr s pen0, by simp, allV_new rr s (by decide +kernel)⟩
end Go.Proofs.YtppijfjigcoifaaDoor

namespace Go.Proofs.YtppijfjigcoifaaDoor
open Go.RowKit

theorem fit_snoc {Ls : List Ln} {i : Nat} {f : Ln → Ln} {x : List Cell} {s : Bool} (h : i < Ls.length) (hx : f Ls[i] = (x, s)) : (Ls.take i).map f ++ [(x, s)] = (Ls.take (i + 1)).map f := by
 rw [List.take_add_one, List.getElem?_eq_getElem h, List.map_append, ← hx]; rfl
set_option maxRecDepth 100000 in
set_option maxHeartbeats 4000000 in
theorem gridOf_yes (A : Option Addr) (c : Nat) (Ls : List Ln) (cols : Nat) (w : World) (hT : Tabs w) (ha : RdL w A c Ls) (h1 : 1 ≤ cols) (h2 : cols ≤ 1000) (h3 : 1 ≤ Ls.length) (h4 : Ls.length ≤ 1000) (hx : ∀ l ∈ Ls, l.1.length ≤ 100000) (hv : ∀ l ∈ Ls, lineOk l.1 = true) :
  Calls Tryd.prog 23 #[.int .i64 cols, .slice A Ls.length c] w fun e w' => ∃ p, e = .returned (.tuple #[.pointer (some ⟨p, 0, none⟩), .int .i64 0]) ∧ Objs w w' [.grid p 58 cols (Ls.map (fun l : Ln => (fitTo cols l.1, l.2)))] := by
 have HT := Lib.hid hT
 have HA := Lib.hid ha
 have HX := Lib.hid hx
 have HV := Lib.hid hv
 clear hT ha hx hv
 go_enter Tryd.func23, Tryd.ntmps23
 go_wp2_with fail
 refine at_objsC (objs_start w).alloc1 (fun W S1 => ?_)
 generalize w.heap.size = p at S1 ⊢
 have S0 := Lib.hid S1.nilLines
 clear S1
 go_loopw [8, 9, 10, 32] (fun _ _ _ vi wr => ∃ (i : Nat) (v : Value), i ≤ Ls.length ∧ vi = .int .i64 i ∧ Objs w wr [.lines v ((Ls.take i).map (fun l : Ln => (fitTo cols l.1, l.2))), .box p 58 #[.int .i64 ↑cols, v]]) (fun _ _ _ vi _ => Ls.length - (intOf vi).toNat)
 case atStart => exact ⟨0, _, Nat.zero_le _, rfl, S0.out⟩
 case round =>
 clear S0
 obtain ⟨i, v, hi, rfl, hS⟩ := hrel
 have S := Lib.hid hS
 clear hS
 by_cases hlt : i < Ls.length
 case neg =>
  obtain rfl : i = Ls.length := by omega
  have SG := Lib.hid (S.out.closeGrid (k := 0) rfl)
  clear S
  go_wp2_with fail
  go_ret2
  exact ⟨p, rfl, by have h := SG.out; rw [List.take_length] at h; exact h⟩
 have HL := Lib.hid (show Ls[i]? = some Ls[i] by simp [hlt])
 have HLL := Lib.hid (show ((Ls.take i).map (fun l : Ln => (fitTo cols l.1, l.2))).length ≤ 1000000 by simp; omega)
 have HLI := Lib.hid (HX.out Ls[i] (List.getElem_mem _))
 obtain ⟨b, off, Ai, ci, rfl, hzb, hc1, hc2, hri⟩ := (HA.out.bel S.out.base).at_ HL.out
 have HRI := Lib.hid (hri.bel (belA _ (.cells #[.slice Ai Ls[i].1.length ci, .bool Ls[i].2] 39)))
 have S1 := Lib.hid (S.out.alloc1 (c1 := #[.slice Ai Ls[i].1.length ci, .bool Ls[i].2]) (t1 := 39))
 have hb0 : (0 : Int) ≤ (i : Int) := by omega
 have hb1 : (i : Int) < (Ls.length : Int) := by omega
 clear hri
 have HVI := Lib.hid (show lineOk Ls[i].1 = true from HV.out _ (List.getElem_mem _))
 go_wp2_with fail
 refine (show Calls Tryd.prog 61 #[.agg #[.slice Ai Ls[i].1.length ci, .bool Ls[i].2], .int .i64 cols] _ _ from fit_yes Ai ci Ls[i].1 Ls[i].2 cols h2 HT.out S1.out HRI.out HLI.out HVI.out).mono ?_
 rintro e w1 ⟨v3, rfl, hS⟩
 obtain ⟨Af, cf, rfl, -⟩ := hS.cellsRd (k := 0) rfl
 have S2 := Lib.hid (hS.alloc1 (c1 := #[.slice Af (fitTo cols Ls[i].1).length cf, .bool Ls[i].2]) (t1 := 39))
 clear hS S1 HRI hzb hc1 hc2
 go_upto_region 10 with (fail)
 generalize w1.heap.size = bl at S2 ⊢
 generalize hnf : (fitTo cols Ls[i].1).length = nf at S2 ⊢
 generalize hsf : Ls[i].2 = sf at S2 ⊢
 have HSF := Lib.hid hsf
 clear hnf hsf
 have SX := Lib.hid (show Objs w _ [.none, .lines v ((Ls.take i).map (fun l : Ln => (fitTo cols l.1, l.2))), .box p 58 #[.int .i64 ↑cols, v], .box bl 39 #[.slice Af nf cf, .bool sf], .cells (.slice Af nf cf) (fitTo cols Ls[i].1)] from by
  have h := S2.out
  exact Objs.pick (σ := [_, _, _, _, _]) (os := []) h [none, some 3, some 4, some 0, some 1] (by decide) rfl)
 clear S2
 refine wp_region_stage (w0 := w) (os := []) (by kernel_rfl) (by kernel_rfl) (by kernel_rfl) [(0, 6, [6], fun vs => .box (blkOf (vs 6)) 39 #[.slice Af nf cf, .bool sf]), (1, 7, [7], fun vs => .lines (vs 7) (((Ls.take i).map (fun l : Ln => (fitTo cols l.1, l.2))) ++ [((fitTo cols Ls[i].1), sf)])), (4, 7, [], fun vs => .none), (2, 10, [7], fun vs => .box p 58 #[.int .i64 ↑cols, vs 7])] [[], [], [], [], [2], [3], [0], [0, 1, 4], [], [], [2]] [.none, .lines v ((Ls.take i).map (fun l : Ln => (fitTo cols l.1, l.2))), .box p 58 #[.int .i64 ↑cols, v], .box bl 39 #[.slice Af nf cf, .bool sf], .cells (.slice Af nf cf) (fitTo cols Ls[i].1)] (fun opn u => match opn with | 0 => u = .pointer (some ⟨p, 0, none⟩) | 1 => u = .pointer (some ⟨p, 0, none⟩) | 2 => u = .pointer (some ⟨p, 0, none⟩) | 3 => u = .pointer (some ⟨p, 1, none⟩) | 4 => u = (v : Value) | 5 => u = .agg #[.slice Af nf cf, .bool sf] | 6 => ∃ g, u = .slice (some ⟨g, 0, none⟩) 1 1 | 7 => ∃ A n c, u = .slice A n c | 8 => u = .pointer (some ⟨p, 0, none⟩) | 9 => u = .pointer (some ⟨p, 1, none⟩) | 10 => True | _ => True) (fun vs => [.box (blkOf (vs 6)) 39 #[.slice Af nf cf, .bool sf], .lines (vs 7) (((Ls.take i).map (fun l : Ln => (fitTo cols l.1, l.2))) ++ [((fitTo cols Ls[i].1), sf)]), .box p 58 #[.int .i64 ↑cols, vs 7], .box bl 39 #[.slice Af nf cf, .bool sf], .none]) (by kernel_rfl) (fun vs => by rfl) SX.out ?_ ?_
 ·apply sc
  ·intro a w' vs σ hS hl hs hk
   have f6 : a.tmps[6]?.getD undef = .pointer (some ⟨p, 0, none⟩) := sof hk
   exact rp (pt p 0) (by simp [execOp, Act.eval, f6, go_sem]) hl hs hS
  apply sc
  ·intro a w' vs σ hS hl hs hk
   have f6 : a.tmps[6]?.getD undef = .pointer (some ⟨p, 0, none⟩) := sof hk
   exact rp (pt p 0) (by simp [execOp, Act.eval, f6, go_sem]) hl hs hS
  apply sc
  ·intro a w' vs σ hS hl hs hk
   have f45 : a.tmps[45]?.getD undef = .pointer (some ⟨p, 0, none⟩) := svf hk 1
   exact rp (pt p 0) (by simp [execOp, Act.eval, f45, go_sem]) hl hs hS
  apply sc
  ·intro a w' vs σ hS hl hs hk
   have f46 : a.tmps[46]?.getD undef = .pointer (some ⟨p, 0, none⟩) := svf hk 2
   exact rp (pt p 1) (by simp [execOp, Act.eval, f46, go_sem]) hl hs hS
  apply sc
  ·intro a w' vs σ hS hl hs hk
   have f47 : a.tmps[47]?.getD undef = .pointer (some ⟨p, 1, none⟩) := svf hk 3
   have hx := (hS.box (sg (hs 2 (by decide)))).cell
   exact rp v (by simp [execOp, Act.eval, f47, go_sem, hx]) hl hs hS
  apply sc
  ·intro a w' vs σ hS hl hs hk
   have f9 : a.tmps[9]?.getD undef = .pointer (some ⟨bl, 0, none⟩) := sof hk
   have hx := (hS.box (sg (hs 3 (by decide)))).cell
   exact rp (.agg #[.slice Af nf cf, .bool sf]) (by simp [execOp, Act.eval, f9, go_sem, hx]) hl hs hS
  apply sc
  ·intro a w' vs σ hS hl hs hk
   have f49 : a.tmps[49]?.getD undef = .agg #[.slice Af nf cf, .bool sf] := svf hk 5
   have h1 : σ[0]? = some .none := hs 0 (by decide)
   exact rs_run (wanted_none rfl) (exec_bsl rfl (by simp [Act.eval, f49]) (run_bsl (.slice Af nf cf) sf w')) (sp_set 0 (.box w'.heap.size 39 #[.slice Af nf cf, .bool sf]) (by kernel_rfl) (by simp) (by decide) hl hs (by rfl) (hS.alloc1.place (sg h1)) ⟨_, rfl⟩)
  apply sc
  ·intro a w' vs σ hS hl hs hk
   have e48 : a.tmps.getD 48 undef = (v : Value) := svv hk 4
   have e50 : a.tmps.getD 50 undef = vs 6 := sk_val hk 6 (by kernel_rfl) rfl rfl
   have p50 : (fun u : Value => ∃ g, u = .slice (some ⟨g, 0, none⟩) 1 1) (vs 6) := (hk.1 6 (by kernel_rfl)).1
   have h2 : σ[1]? = some (.lines v ((Ls.take i).map (fun l : Ln => (fitTo cols l.1, l.2)))) := hs 1 (by decide)
   have h0 : σ[4]? = some (.cells (.slice Af nf cf) (fitTo cols Ls[i].1)) := hs 4 (by decide)
   have h1 : σ[0]? = some (.box (blkOf (vs 6)) 39 #[.slice Af nf cf, .bool sf]) := hs 0 (by decide)
   obtain ⟨g8, hg8⟩ := p50
   rw [hg8, show blkOf (.slice (some ⟨g8, 0, none⟩) 1 1) = g8 from rfl] at h1
   obtain ⟨v9, w9, hr, hS2, A9, c9, hv9⟩ := run_appL hS (k := 1) (j := 4) (ad := ⟨g8, 0, none⟩) (c := 1) (s := sf) (sg h2) (sg h0) (by decide) (by rw [(hS.box (sg h1)).cell]; rfl) (by rw [add_at, (hS.box (sg h1)).cell]; rfl) HLL.out 30
   exact rs_run (wanted_none rfl) (exec_app rfl (by simp only [Act.eval]; exact e48) (by simp only [Act.eval]; exact e50.trans hg8) hr) (sp_set2 1 4 (.lines v9 (((Ls.take i).map (fun l : Ln => (fitTo cols l.1, l.2))) ++ [((fitTo cols Ls[i].1), sf)])) .none (by decide) (by kernel_rfl) (by simp) (by simp) (by decide) (by decide) hl hs (by rfl) (by rfl) hS2 ⟨A9, _, c9, hv9⟩)
  apply sc
  ·intro a w' vs σ hS hl hs hk
   have f44 : a.tmps[44]?.getD undef = .pointer (some ⟨p, 0, none⟩) := svf hk 0
   exact rp (pt p 0) (by simp [execOp, Act.eval, f44, go_sem]) hl hs hS
  apply sc
  ·intro a w' vs σ hS hl hs hk
   have f52 : a.tmps[52]?.getD undef = .pointer (some ⟨p, 0, none⟩) := svf hk 8
   exact rp (pt p 1) (by simp [execOp, Act.eval, f52, go_sem]) hl hs hS
  apply sc
  ·intro a w' vs σ hS hl hs hk
   have f53 : a.tmps[53]?.getD undef = .pointer (some ⟨p, 1, none⟩) := svf hk 9
   have e51 : a.tmps.getD 51 undef = vs 7 := sk_val hk 7 (by kernel_rfl) rfl rfl
   have p51 : (fun u : Value => ∃ A n c, u = .slice A n c) (vs 7) := (hk.1 7 (by kernel_rfl)).1
   have f51 := gd e51
   have h3 : σ[2]? = some (.box p 58 #[.int .i64 ↑cols, v]) := hs 2 (by decide)
   obtain ⟨hx, hf, hz⟩ := (hS.box (sg h3)).facts
   obtain ⟨A9, n9, c9, q9⟩ := p51
   exact rstep_store (w2 := w'.setCell ⟨p, 1, none⟩ (.slice A9 n9 c9)) (wanted_none rfl) rfl (by simp [execOp, Act.eval, f53, e51, f51, q9, hx, hf, hz, go_sem]) (sp_set 2 (.box p 58 #[.int .i64 ↑cols, vs 7]) (by kernel_rfl) (by simp) (by decide) hl hs (by rfl) (by rw [q9]; exact hS.setBox 2 (sg h3)) trivial) trivial
  exact SSteps.nil
 ·intro vs w' hS hv
  have q0 : vs 0 = _ := hv 0 (by decide)
  have q1 : vs 1 = _ := hv 1 (by decide)
  have q2 : vs 2 = _ := hv 2 (by decide)
  have q3 : vs 3 = _ := hv 3 (by decide)
  have q4 : vs 4 = _ := hv 4 (by decide)
  have q5 : vs 5 = _ := hv 5 (by decide)
  have q8 : vs 8 = _ := hv 8 (by decide)
  have q9 : vs 9 = _ := hv 9 (by decide)
  have S2 := Lib.hid hS
  simp only [putL, Act.put, Nat.zero_add, Nat.reduceAdd, List.setIfInBounds_toArray, List.set_cons_succ, List.set_cons_zero, q0, q1, q2, q3, q4, q5, q8, q9]
  clear hS hv q0 q1 q2 q3 q4 q5 q8 q9
  have S3 := Lib.hid ((((show Objs w _ (_ :: _ :: _ :: _ :: _ :: []) from S2.out).del 4).del 3).del 0)
  clear S2
  go_wp2_with fail
  go_roundw
  case rel => exact ⟨i + 1, vs 7, by omega, by go_num, by have h := S3.out; rw [fit_snoc hlt (by rw [← HSF.out])] at h; exact h⟩
  case measure => simp [intOf]; omega
end Go.Proofs.YtppijfjigcoifaaDoor
