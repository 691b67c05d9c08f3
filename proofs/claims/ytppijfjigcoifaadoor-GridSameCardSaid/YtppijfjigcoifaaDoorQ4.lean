/-
  Part 4 of the texts on which the proofs of this seat stand: each part says ahead of it what it shows.
-/
import Derived.Test.YtppijfjigcoifaaDoorQ3
import Derived.Lib.MinMax
import Derived.Deep.DeepAppendRoom
import Derived.Laws.OwnMore
set_option linter.unusedSimpArgs false
set_option linter.unusedVariables false
namespace Go.Proofs.YtppijfjigcoifaaDoor
open Go.RowKit

section
variable {w0 w : World} {os : List Ob}
theorem ord7 {vg v p7 b7 b5 bp : Ob} (h : Objs w0 w (vg :: v :: p7 :: b7 :: b5 :: bp :: os)) : Objs w0 w (v :: b7 :: bp :: vg :: p7 :: b5 :: os) := by
 have h1 := (h.lift (k := 5) rfl : Objs w0 w (bp :: vg :: v :: p7 :: b7 :: b5 :: .none :: os)).del 6
 have h2 := ((show Objs w0 w (bp :: vg :: v :: p7 :: b7 :: b5 :: os) from h1).lift (k := 4) rfl : Objs w0 w (b7 :: bp :: vg :: v :: p7 :: .none :: b5 :: os)).del 5
 have h3 := ((show Objs w0 w (b7 :: bp :: vg :: v :: p7 :: b5 :: os) from h2).lift (k := 3) rfl : Objs w0 w (v :: b7 :: bp :: vg :: .none :: p7 :: b5 :: os)).del 4
 exact h3
theorem fin_roll {l2 o2 b5 : Ob} {p : Nat} {t : TypeId} {cols : Int} {v : Value} {L1 : List Ln} (h : Objs w0 w (l2 :: .lines v L1 :: o2 :: .box p t #[.int .i64 cols, v] :: b5 :: os)) : Objs w0 w (l2 :: .grid p t cols L1 :: os) := by
 have h1 := ((h.lift (k := 1) rfl : Objs w0 w (.lines v L1 :: l2 :: .none :: o2 :: .box p t #[.int .i64 cols, v] :: b5 :: os)).closeGrid (k := 3) rfl : Objs w0 w (l2 :: .none :: o2 :: .grid p t cols L1 :: b5 :: os))
 exact ((h1.del 1).del 1).del 2
theorem ord_roll {l2 o2 b5 op : Ob} {v : Value} {L1 : List Ln} (h : Objs w0 w (l2 :: .lines v L1 :: o2 :: op :: b5 :: os)) : Objs w0 w (.lines v L1 :: op :: b5 :: l2 :: o2 :: os) := by
 have h1 := (h.lift (k := 4) rfl : Objs w0 w (b5 :: l2 :: .lines v L1 :: o2 :: op :: .none :: os)).del 5
 have h2 := ((show Objs w0 w (b5 :: l2 :: .lines v L1 :: o2 :: op :: os) from h1).lift (k := 4) rfl : Objs w0 w (op :: b5 :: l2 :: .lines v L1 :: o2 :: .none :: os)).del 5
 have h3 := ((show Objs w0 w (op :: b5 :: l2 :: .lines v L1 :: o2 :: os) from h2).lift (k := 3) rfl : Objs w0 w (.lines v L1 :: op :: b5 :: l2 :: .none :: o2 :: os)).del 4
 exact h3
theorem fin_roll2 {l2 o2 b5 : Ob} {p : Nat} {t : TypeId} {cols : Int} {v : Value} {L1 : List Ln} (h : Objs w0 w (.lines v L1 :: .box p t #[.int .i64 cols, v] :: b5 :: l2 :: o2 :: os)) : Objs w0 w (l2 :: .grid p t cols L1 :: os) := by
 have h1 := (h.closeGrid (k := 0) rfl : Objs w0 w (.grid p t cols L1 :: b5 :: l2 :: o2 :: os))
 exact ((h1.del 1).swap).del 2
end
section
variable {w0 w : World} {os : List Ob} {p cols : Nat} {L : List Ln}
set_option maxRecDepth 100000 in
set_option maxHeartbeats 8000000 in
theorem Roll_pos {top bot k : Nat} {n : Int} (q : Pen) (hT : Tabs w0) (hS : Objs w0 w (.grid p 58 cols L :: os)) (hc : 0 < cols) (hcm : cols ≤ 1000) (hL : L.length ≤ 100000) (htb : top ≤ bot) (hbl : bot < L.length) (hq : q.ok = true) (hn : 0 < n) (hk : (n < ((bot + 1 - top : Nat) : Int) ∧ n = (k : Int)) ∨ ((((bot + 1 - top : Nat) : Int) ≤ n ∧ n ≤ 9223372036854775807) ∧ k = bot + 1 - top)) :
  Calls Tryd.prog 50 #[.pointer (some ⟨p, 0, none⟩), .agg #[.int .i64 top, .int .i64 bot], .int .i64 n, .agg (pv q)] w fun e w' => ∃ A m c, e = .returned (.tuple #[.slice A m c, .int .i64 0]) ∧ Objs w0 w' (.lines (.slice A m c) (rollGone top bot n L) :: .grid p 58 cols (rollL top bot n q cols L) :: os) := by
 have S := Lib.hid hS
 have HT := Lib.hid hT
 have HQ := Lib.hid hq
 have HK := Lib.hid hk
 obtain ⟨many, hmany⟩ : ∃ many, many = bot + 1 - top := ⟨_, rfl⟩
 have HMANY := Lib.hid hmany
 have hb0 := beq_no (show ¬ n = 0 by omega)
 have d1 : decide ((top : Int) < 0) = false := by simp
 have d2 : decide ((bot : Int) < top) = false := by simp; omega
 have d2n : decide (bot < top) = false := by simp; omega
 have d3 : decide ((L.length : Int) ≤ bot) = false := by simp; omega
 have d3n : decide (L.length ≤ bot) = false := by simp; omega
 clear hS hT hq hk hmany
 go_enter Tryd.func50, Tryd.ntmps50
 go_wp2_with fail
 refine (none_no S.out.alloc2 (k := 2) rfl hc).mono ?_
 rintro e w1 ⟨rfl, hS⟩
 generalize w.heap.size + 1 = b7 at hS ⊢
 generalize w.heap.size = b5 at hS ⊢
 obtain ⟨v, hS1⟩ := hS.openGrid (k := 2) rfl
 obtain ⟨T, hTL, hone, hS2⟩ := hS1.toHeads (k := 0) rfl
 obtain ⟨A, c, rfl, hlc, hcmx, -, hgr⟩ := hS2.headsForm (k := 1) rfl
 have hTl : (hdP T).length = L.length := by rw [hdP_length, ← hTL, lnP_length]
 rw [hTl] at hS2 hlc hgr
 obtain ⟨gr, rfl, hgz, -, -⟩ := hgr (by omega)
 have S2 := Lib.hid hS2
 obtain ⟨hx5, hf5, hz5⟩ := (hS2.box (k := 3) rfl).facts
 obtain ⟨hxp, hfp, hzp⟩ := (hS2.box (k := 4) rfl).facts
 have HTL := Lib.hid hTL
 have HTl := Lib.hid hTl
 have HONE := Lib.hid hone
 clear hS hS1 hS2 S hTL hTl hone hgr hgz
 go_wp2_with fail
 refine wp_region_below (by kernel_rfl) (by kernel_rfl) ?_
 repeat (go_big_quiet_step (fail))
 refine wpQuiet_nil ?_
 intro w2 hb2
 have S3 := Lib.hid (S2.out.bel hb2)
 clear hx5 hf5 hz5 hxp hfp hzp S2 hb2
 have hp7 := (S3.out.box (k := 2) rfl).penAt
 have hz7 := (S3.out.box (k := 2) rfl).lt
 go_wp2_with fail
 refine (inked_is HQ.out HT.out S3.out).mono ?_
 rintro e w3 ⟨rfl, hS⟩
 have S4 := Lib.hid hS
 obtain ⟨hx5, hf5, hz5⟩ := (hS.box (k := 3) rfl).facts
 obtain ⟨hxp, hfp, hzp⟩ := (hS.box (k := 4) rfl).facts
 clear hS S3 hp7 hz7
 go_wp2_with fail
 refine wp_region_below (by kernel_rfl) (by kernel_rfl) ?_
 repeat (go_big_quiet_step (fail))
 refine wpQuiet_nil ?_
 intro w4 hb4
 have S5 := Lib.hid (show Objs w0 w4 (.pile (piP T) :: .heads (.slice (some ⟨gr, 0, none⟩) L.length c) (hdP T) :: .box b7 54 (pv q) :: .box b5 106 #[.int .i64 top, .int .i64 bot] :: .box p 58 #[.int .i64 cols, .slice (some ⟨gr, 0, none⟩) L.length c] :: os) from S4.out.bel hb4)
 clear hx5 hf5 hz5 hxp hfp hzp S4 hb4
 rw [← HMANY.out]
 have hmb : many ≤ 100000 := by have := HMANY.out; omega
 have hm1 : 0 < many := by have := HMANY.out; omega
 have htm : top + many ≤ L.length := by have := HMANY.out; omega
 have hkm : k ≤ many := by have := HK.out; have := HMANY.out; omega
 have hk0 : 0 < k := by have := HK.out; have := HMANY.out; omega
 have hctop : many ≤ c - top := by omega
 have HK2 := HK.out
 rw [← HMANY.out] at HK2
 have HKK := Lib.hid (rollK_is (n := n) (k := k) HMANY.out (by rcases HK2 with ⟨a1, a2⟩ | ⟨⟨a1, a3⟩, a2⟩ <;> omega))
 have HPERM := Lib.hid (perm_pos (T := T) (top := top) hkm)
 have HGONE := Lib.hid (gone_pos HTL.out hn HMANY.out HKK.out hkm)
 have HLEFT := Lib.hid (fun (F : List Tr) (hF : lnP F = rollFresh k cols q) => left_pos HTL.out hn HMANY.out htb HKK.out hkm hF)
 obtain ⟨G, hG⟩ : ∃ G, G = (T.drop top).take k := ⟨_, rfl⟩
 obtain ⟨T1, hT1⟩ : ∃ T1, T1 = T.take top := ⟨_, rfl⟩
 obtain ⟨Sx, hSx⟩ : ∃ Sx, Sx = (T.drop (top + k)).take (many - k) := ⟨_, rfl⟩
 obtain ⟨R, hR⟩ : ∃ R, R = T.drop (top + (many - k)) := ⟨_, rfl⟩
 obtain ⟨X1, hX1⟩ : ∃ X1, X1 = T1 ++ hardR Sx := ⟨_, rfl⟩
 obtain ⟨a0, ha0⟩ : ∃ a0, a0 = top + (many - k) := ⟨_, rfl⟩
 have hTn : T.length = L.length := by have := HTl.out; rwa [hdP_length] at this
 have hT1l : T1.length = top := by rw [hT1]; simp; omega
 have hSxl : Sx.length = many - k := by rw [hSx]; simp; omega
 have hRll : R.length = L.length - a0 := by rw [hR, ha0]; simp; omega
 have HX1 := Lib.hid (show X1.length = a0 by rw [hX1, ha0]; simp [hardR_length, hT1l, hSxl])
 have HRL := Lib.hid hRll
 have hRk : k ≤ R.length := by omega
 rw [← hT1, ← hSx, ← hR, ← hX1, ← hG] at HPERM
 rw [← hT1, ← hSx, ← hR, ← hX1] at HLEFT
 rw [← hG] at HGONE
 have HG := Lib.hid hG.symm
 have HCP := Lib.hid (hdP_copied T top (top + k) (many - k))
 rw [← hT1, ← hSx, ← hR] at HCP
 have HXX := Lib.hid hX1
 have HA0 := Lib.hid ha0
 have HSXL := Lib.hid hSxl
 have HT1L := Lib.hid hT1l
 have HRLL := Lib.hid hRll
 have HPB := Lib.hid (show many = k → (hdP T).take top ++ (((hdP T).drop top).take 0 ++ (hdP T).drop (top + 0)) = hdP X1 ++ hdP R from fun e => by
  have hS0 : Sx = [] := List.eq_nil_of_length_eq_zero (by omega)
  have h := HCP.out
  rw [show many - k = 0 by omega] at h
  rw [HXX.out, hS0, hdP_append, List.append_assoc]
  rw [hS0] at h
  simp only [List.take_zero] at h ⊢
  exact h)
 clear hG hT1 hSx hR hX1 hTn hT1l hSxl hRll
 rcases HK2 with ⟨h1, h2⟩ | ⟨⟨h1, h3⟩, h2⟩
 ·subst h2
  have hmax : max (k : Int) (-(k : Int)) = (k : Int) := by omega
  have hnm : -(many : Int) < (k : Int) := by omega
  have hkl : k < many := by omega
  clear ha0
  go_wp2_with fail
  refine (clone_front S5.out.swap HONE.out (a := top) (m := k) (by rw [HTl.out]; omega) (by omega) (by rw [HTl.out]; omega)).mono ?_
  rintro e w5 ⟨Ag, cg, rfl, hS⟩
  obtain ⟨w6, hr6, hS6⟩ := run_copyH hS (k := 1) rfl HONE.out top (top + k) (many - k) (some ⟨gr, top * 2, none⟩) (some ⟨gr, top * 2 + k * 2, none⟩) many (c - top) (many - k) (c - top - k) (Nat.min_eq_left (by omega)) (by rw [HTl.out]; omega) (by rw [HTl.out]; omega) (fun _ => ⟨rfl, by rw [Nat.add_mul]⟩) 3
  have HR6 := Lib.hid hr6
  rw [hdP_drop, hdP_take, HG.out, HCP.out] at hS6
  have hS6' := (show Objs w0 w6 (.heads (.slice Ag k cg) (hdP G) :: .heads (.slice (some ⟨gr, 0, none⟩) L.length c) (hdP T1 ++ (hdP Sx ++ hdP R)) :: .pile (piP T) :: .box b7 54 (pv q) :: .box b5 106 #[.int .i64 top, .int .i64 bot] :: .box p 58 #[.int .i64 cols, .slice (some ⟨gr, 0, none⟩) L.length c] :: os) from hS6)
  have hSl := HSXL.out
  have hTl2 := HT1L.out
  obtain ⟨xs, hxs⟩ := get_of (show Sx.length - 1 < Sx.length by omega)
  have hxh : (hdP T1 ++ (hdP Sx ++ hdP R))[top + (many - k - 1)]? = some (xs.1, xs.2.2) := by
   rw [List.getElem?_append_right (by rw [hdP_length]; omega), hdP_length, hTl2, Nat.add_sub_cancel_left, List.getElem?_append_left (by rw [hdP_length]; omega), ← hSl]
   simp [hdP, hxs]
  have hS7 := hS6'.softHead (k := 1) (s := false) rfl hxh
  have hid : top + (many - k - 1) = T1.length + (Sx.length - 1) := by omega
  have he : hdP T1 ++ (hdP (hardR Sx) ++ hdP R) = hdP X1 ++ hdP R := by rw [HXX.out, hdP_append, List.append_assoc]
  rw [hid, hdP_harden hxs, he, ← hid] at hS7
  obtain ⟨A8, c8, e8, -, -, -, hg8⟩ := hS6'.headsForm (k := 1) rfl
  simp only [Value.slice.injEq] at e8
  obtain ⟨rfl, -, rfl⟩ := e8
  obtain ⟨g8, e9, hz8, hcs8, hf8⟩ := hg8 (by simp only [List.length_append, hdP_length]; omega)
  cases e9
  have hx8 := (hcs8 _ _ hxh).2
  have hadr : (top + (many - k - 1)) * 2 + 1 = top * 2 + (many - k - 1) * 2 + 1 := by omega
  rw [hadr] at hx8 hS7
  have S7 := Lib.hid (ord7 hS7)
  have HMK := Lib.hid (show many - (many - k) = k from Nat.sub_sub_self hkm)
  have HAO := HA0.out
  clear hS hr6 hS6 hS6' S5 hS7 hxh hid he hcs8 hg8 hadr hSl hTl2 hxs
  go_wp2_with (refine wpList_copyK rfl _ _ 30 30 rfl rfl rfl HR6.out ?_)
  simp only [HMK.out]
  clear hx8 hf8 hz8 hmax hnm
  go_loopw [14, 127] (fun _ vi wr => ∃ (d : Nat) (F : List Tr), d ≤ k ∧ vi = .int .i64 d ∧ (F.length = d ∧ lnP F = rollFresh d cols q) ∧ Objs w0 wr (.heads (.slice (some ⟨gr, 0, none⟩) L.length c) (hdP X1 ++ (hdP F ++ hdP (R.drop d))) :: .box b7 54 (pv q) :: .box p 58 #[.int .i64 ↑cols, .slice (some ⟨gr, 0, none⟩) L.length c] :: .heads (.slice Ag k cg) (hdP G) :: .pile (piP T ++ piP F) :: .box b5 106 #[.int .i64 ↑top, .int .i64 ↑bot] :: os)) (fun _ vi _ => k - (intOf vi).toNat)
  case atStart => exact ⟨0, [], by omega, rfl, ⟨rfl, rfl⟩, by simpa [hdP, piP] using S7.out⟩
  case round =>
   obtain ⟨d, F, hik, rfl, hFF, hS⟩ := hrel
   have HF := Lib.hid hFF
   have S8 := Lib.hid hS
   clear hFF hS S7
   by_cases hlt : d < k
   case neg =>
    have hie : d = k := by omega
    have hX := S8.out
    have hFk := HF.out.2
    rw [hie] at hX hFk
    have hX2 := hX.dealIn HPERM.out
    have HLF := Lib.hid (HLEFT.out F hFk)
    obtain ⟨L1, hL1⟩ : ∃ L1, L1 = lnP X1 ++ (lnP F ++ lnP (R.drop k)) := ⟨_, rfl⟩
    rw [← hL1] at hX2 HLF
    have hL1l : L1.length = L.length := by rw [hL1]; simp only [List.length_append, lnP_length, List.length_drop]; have := HX1.out; have := HF.out.1; have := HRL.out; omega
    have SX := Lib.hid hX2
    obtain ⟨hx5, hf5, hz5⟩ := (hX2.box (k := 4) rfl).facts
    clear hie hX hX2 hFk hL1 S8
    by_cases ht0 : top = 0
    ·have HT0 := Lib.hid (show topHard top L1 = L1 by unfold topHard; rw [if_neg (by omega)])
     have htg : ¬ (0 : Int) < (top : Int) := by omega
     have SF := Lib.hid (fin_roll SX.out)
     clear ht0
     go_wp2_with fail
     go_ret2
     exact ⟨Ag, k, cg, rfl, by rw [← HGONE.out, ← HLF.out, HT0.out]; exact SF.out⟩
    ·have htg : (0 : Int) < (top : Int) := by omega
     obtain ⟨l9, hlt1⟩ := get_of (show top - 1 < L1.length by omega)
     have HT0 := Lib.hid (show L1.set (top - 1) (l9.1, false) = topHard top L1 by unfold topHard; rw [if_pos (by omega), softMod_some hlt1])
     have HWT := Lib.hid (show IntKind.i64.wrap ((top : Int) - 1) = (top : Int) - 1 from IntWalk.i64_in _ (by omega))
     have htz : (0 : Int) ≤ (top : Int) - 1 := by omega
     have htz2 : (top : Int) - 1 < (L.length : Int) := by omega
     have htz3 : ¬ (top : Int) < 1 := by omega
     have htn : ((top : Int) - 1).toNat = top - 1 := by omega
     have SY := Lib.hid (ord_roll SX.out)
     go_upto_region 31 with (fail)
     refine wp_region_stage (w0 := w0) (os := (.lines (.slice Ag k cg) (lnP G) :: .box b7 54 (pv q) :: os)) (by kernel_rfl) (by kernel_rfl) (by kernel_rfl) [(0, 9, [], fun vs => .lines (.slice (some ⟨gr, 0, none⟩) L.length c) (L1.set (top - 1) (l9.1, false)))] [[], [], [], [1], [], [2], [], [], [], [0]] [.lines (.slice (some ⟨gr, 0, none⟩) L.length c) L1, .box p 58 #[.int .i64 ↑cols, .slice (some ⟨gr, 0, none⟩) L.length c], .box b5 106 #[.int .i64 ↑top, .int .i64 ↑bot]] (fun i u => match i with | 0 => u = pt p 0 | 1 => u = pt p 0 | 2 => u = pt p 1 | 3 => u = .slice (some ⟨gr, 0, none⟩) L.length c | 4 => u = pt b5 0 | 5 => u = .int .i64 ↑top | 6 => u = .int .i64 (↑top - 1) | 7 => u = pt gr ((top - 1) * 2) | 8 => u = pt gr ((top - 1) * 2 + 1) | 9 => True | _ => True) (fun vs => [.lines (.slice (some ⟨gr, 0, none⟩) L.length c) (L1.set (top - 1) (l9.1, false)), .box p 58 #[.int .i64 ↑cols, .slice (some ⟨gr, 0, none⟩) L.length c], .box b5 106 #[.int .i64 ↑top, .int .i64 ↑bot]]) (by kernel_rfl) (fun vs => by rfl) SY.out ?_ ?_
     ·apply sc
      ·intro a w' vs σ hS hl hs hk
       have f0 : a.tmps[0]?.getD undef = .pointer (some ⟨p, 0, none⟩) := sof hk
       exact rp (pt p 0) (by simp [execOp, Act.eval, f0, go_sem]) hl hs hS
      apply sc
      ·intro a w' vs σ hS hl hs hk
       have f143 : a.tmps[143]?.getD undef = .pointer (some ⟨p, 0, none⟩) := sf hk 0
       exact rp (pt p 0) (by simp [execOp, Act.eval, f143, go_sem]) hl hs hS
      apply sc
      ·intro a w' vs σ hS hl hs hk
       have f144 : a.tmps[144]?.getD undef = .pointer (some ⟨p, 0, none⟩) := sf hk 1
       exact rp (pt p 1) (by simp [execOp, Act.eval, f144, go_sem]) hl hs hS
      apply sc
      ·intro a w' vs σ hS hl hs hk
       have f145 : a.tmps[145]?.getD undef = .pointer (some ⟨p, 1, none⟩) := sf hk 2
       have hx := (hS.box (sg (hs 1 (by decide)))).cell
       exact rp (.slice (some ⟨gr, 0, none⟩) L.length c) (by simp [execOp, Act.eval, f145, go_sem, hx]) hl hs hS
      apply sc
      ·intro a w' vs σ hS hl hs hk
       have f5 : a.tmps[5]?.getD undef = .pointer (some ⟨b5, 0, none⟩) := sof hk
       exact rp (pt b5 0) (by simp [execOp, Act.eval, f5, go_sem]) hl hs hS
      apply sc
      ·intro a w' vs σ hS hl hs hk
       have f147 : a.tmps[147]?.getD undef = .pointer (some ⟨b5, 0, none⟩) := sf hk 4
       have hx := (hS.box (sg (hs 2 (by decide)))).cell
       exact rp (.int .i64 ↑top) (by simp [execOp, Act.eval, f147, go_sem, hx]) hl hs hS
      apply sc
      ·intro a w' vs σ hS hl hs hk
       have f148 : a.tmps[148]?.getD undef = .int .i64 ↑top := sf hk 5
       exact rp (.int .i64 (↑top - 1)) (by simp [execOp, Act.eval, f148, go_sem, HWT.out]) hl hs hS
      apply sc
      ·intro a w' vs σ hS hl hs hk
       have f146 : a.tmps[146]?.getD undef = .slice (some ⟨gr, 0, none⟩) L.length c := sf hk 3
       have f149 : a.tmps[149]?.getD undef = .int .i64 (↑top - 1) := sf hk 6
       exact rp (pt gr ((top - 1) * 2)) (by simp [execOp, Act.eval, f146, f149, go_sem, htz, htz2, htn, htz3]) hl hs hS
      apply sc
      ·intro a w' vs σ hS hl hs hk
       have f150 : a.tmps[150]?.getD undef = .pointer (some ⟨gr, (top - 1) * 2, none⟩) := sf hk 7
       exact rp (pt gr ((top - 1) * 2 + 1)) (by simp [execOp, Act.eval, f150, go_sem]) hl hs hS
      apply sc
      ·intro a w' vs σ hS hl hs hk
       have f151 : a.tmps[151]?.getD undef = .pointer (some ⟨gr, (top - 1) * 2 + 1, none⟩) := sf hk 8
       have h1 : σ[0]? = some (.lines (.slice (some ⟨gr, 0, none⟩) L.length c) L1) := hs 0 (by decide)
       obtain ⟨F9, bs9, hF9, -⟩ := hS.get (sg h1)
       obtain ⟨A9, c9, e9, -, -, -, hg9⟩ := hF9.form
       simp only [Value.slice.injEq] at e9
       obtain ⟨rfl, -, rfl⟩ := e9
       obtain ⟨g9, e9', hz, -, hso, hf⟩ := hg9 (by omega)
       cases e9'
       have hx := hso _ _ hlt1
       exact rstep_store (w2 := w'.setCell ⟨gr, (top - 1) * 2 + 1, none⟩ (.bool false)) (wanted_none rfl) rfl (by simp [execOp, Act.eval, f151, hx, hf, hz, go_sem]) (sp_set 0 (.lines (.slice (some ⟨gr, 0, none⟩) L.length c) (L1.set (top - 1) (l9.1, false))) (by kernel_rfl) (by simp) (by decide) hl hs (by rfl) (hS.storeSoft (sg h1) hlt1) trivial) trivial
      exact SSteps.nil
     ·intro vs w' hS hv
      have q0 : vs 0 = _ := hv 0 (by decide)
      have q1 : vs 1 = _ := hv 1 (by decide)
      have q2 : vs 2 = _ := hv 2 (by decide)
      have q3 : vs 3 = _ := hv 3 (by decide)
      have q4 : vs 4 = _ := hv 4 (by decide)
      have q5 : vs 5 = _ := hv 5 (by decide)
      have q6 : vs 6 = _ := hv 6 (by decide)
      have q7 : vs 7 = _ := hv 7 (by decide)
      have q8 : vs 8 = _ := hv 8 (by decide)
      have S2 := Lib.hid hS
      simp only [putL, Act.put, Nat.zero_add, Nat.reduceAdd, List.setIfInBounds_toArray, List.set_cons_succ, List.set_cons_zero, q0, q1, q2, q3, q4, q5, q6, q7, q8]
      clear hS hv q0 q1 q2 q3 q4 q5 q6 q7 q8
      have S9 := S2.out
      rw [HT0.out] at S9
      have SF := Lib.hid (fin_roll2 S9)
      clear S9 S2
      go_wp2_with fail
      go_ret2
      exact ⟨Ag, k, cg, rfl, by rw [← HGONE.out, ← HLF.out]; exact SF.out⟩
   have hiR : d < R.length := by omega
   have hiz : (0 : Int) ≤ (d : Int) := by omega
   have hiz2 : (d : Int) < (k : Int) := by omega
   have hoff : top * 2 + (many - k) * 2 + d * 2 = (a0 + d) * 2 := by omega
   have HHL := Lib.hid (show (hdP X1 ++ (hdP F ++ hdP (R.drop d))).length = a0 + (d + (R.length - d)) by simp only [List.length_append, hdP_length, List.length_drop, HX1.out, HF.out.1])
   have SZ := Lib.hid S8.out.pad
   clear S8
   go_upto_region 28 with (fail)
   refine wp_region_stage (w0 := w0) (os := (.heads (.slice Ag k cg) (hdP G) :: .pile (piP T ++ piP F) :: .box b5 106 #[.int .i64 ↑top, .int .i64 ↑bot] :: os)) (by kernel_rfl) (by kernel_rfl) (by kernel_rfl) [(0, 7, [7], fun vs => .cells (lineV (vs 7)) (List.replicate cols (blank q))), (1, 9, [7], fun vs => .heads (.slice (some ⟨gr, 0, none⟩) L.length c) (List.set (hdP X1 ++ (hdP F ++ hdP (R.drop d))) (a0 + d) (lineV (vs 7), false)))] [[], [], [], [], [], [3], [2], [0], [], [1]] [.none, .heads (.slice (some ⟨gr, 0, none⟩) L.length c) (hdP X1 ++ (hdP F ++ hdP (R.drop d))), .box b7 54 (pv q), .box p 58 #[.int .i64 ↑cols, .slice (some ⟨gr, 0, none⟩) L.length c]] (fun i u => match i with | 0 => u = .slice (some ⟨gr, top * 2 + (many - k) * 2, none⟩) k (c - top - (many - k)) | 1 => u = .int .i64 ↑d | 2 => u = pt p 0 | 3 => u = pt p 0 | 4 => u = pt p 0 | 5 => u = .int .i64 ↑cols | 6 => u = .agg (pv q) | 7 => ∃ A m c, u = .agg #[.slice A m c, .bool false] | 8 => u = pt gr ((a0 + d) * 2) | 9 => True | _ => True) (fun vs => [.cells (lineV (vs 7)) (List.replicate cols (blank q)), .heads (.slice (some ⟨gr, 0, none⟩) L.length c) (List.set (hdP X1 ++ (hdP F ++ hdP (R.drop d))) (a0 + d) (lineV (vs 7), false)), .box b7 54 (pv q), .box p 58 #[.int .i64 ↑cols, .slice (some ⟨gr, 0, none⟩) L.length c]]) (by kernel_rfl) (fun vs => by rfl) SZ.out ?_ ?_
   ·apply sc
    ·intro a w' vs σ hS hl hs hk
     have f13 : a.tmps[13]?.getD undef = .slice (some ⟨gr, top * 2 + (many - k) * 2, none⟩) k (c - top - (many - k)) := sof hk
     exact rp (.slice (some ⟨gr, top * 2 + (many - k) * 2, none⟩) k (c - top - (many - k))) (by simp [execOp, Act.eval, f13, go_sem]) hl hs hS
    apply sc
    ·intro a w' vs σ hS hl hs hk
     have f14 : a.tmps[14]?.getD undef = .int .i64 ↑d := sof hk
     exact rp (.int .i64 ↑d) (by simp [execOp, Act.eval, f14, go_sem]) hl hs hS
    apply sc
    ·intro a w' vs σ hS hl hs hk
     have f0 : a.tmps[0]?.getD undef = .pointer (some ⟨p, 0, none⟩) := sof hk
     exact rp (pt p 0) (by simp [execOp, Act.eval, f0, go_sem]) hl hs hS
    apply sc
    ·intro a w' vs σ hS hl hs hk
     have f132 : a.tmps[132]?.getD undef = .pointer (some ⟨p, 0, none⟩) := sf hk 2
     exact rp (pt p 0) (by simp [execOp, Act.eval, f132, go_sem]) hl hs hS
    apply sc
    ·intro a w' vs σ hS hl hs hk
     have f133 : a.tmps[133]?.getD undef = .pointer (some ⟨p, 0, none⟩) := sf hk 3
     exact rp (pt p 0) (by simp [execOp, Act.eval, f133, go_sem]) hl hs hS
    apply sc
    ·intro a w' vs σ hS hl hs hk
     have f134 : a.tmps[134]?.getD undef = .pointer (some ⟨p, 0, none⟩) := sf hk 4
     have hx := (hS.box (sg (hs 3 (by decide)))).cell
     exact rp (.int .i64 ↑cols) (by simp [execOp, Act.eval, f134, go_sem, hx]) hl hs hS
    apply sc
    ·intro a w' vs σ hS hl hs hk
     have f7 : a.tmps[7]?.getD undef = .pointer (some ⟨b7, 0, none⟩) := sof hk
     have hx := (hS.box (sg (hs 2 (by decide)))).penAt
     exact rp (.agg (pv q)) (by simp [execOp, Act.eval, f7, go_sem, hx]) hl hs hS
    apply sc
    ·intro a w' vs σ hS hl hs hk
     have e135 : a.tmps.getD 135 undef = .int .i64 ↑cols := sv hk 5
     have e136 : a.tmps.getD 136 undef = .agg (pv q) := sv hk 6
     have h0 : σ[0]? = some .none := hs 0 (by decide)
     exact ro_call (f := 54) (wanted_none rfl) rfl (by simp only [List.map_toArray, List.map_cons, List.map_nil, Act.eval, e135, e136] <;> rfl) (fun _ _ => by kernel_rfl) ((gridblanks_any cols hcm q _ _ _ hS).mono fun e w2 ⟨x, h1, h2⟩ => ⟨_, h1, sp_set 0 (.cells x (List.replicate cols (blank q))) (by kernel_rfl) (by simp) (by decide) hl hs (by rfl) (h2.place (sg h0)) (by obtain ⟨A', c', e, -⟩ := h2.cellsRd (k := 0) rfl; exact ⟨A', _, c', by rw [e]⟩), trivial⟩)
    apply sc
    ·intro a w' vs σ hS hl hs hk
     have f130 : a.tmps[130]?.getD undef = .slice (some ⟨gr, top * 2 + (many - k) * 2, none⟩) k (c - top - (many - k)) := sf hk 0
     have f131 : a.tmps[131]?.getD undef = .int .i64 ↑d := sf hk 1
     exact rp (pt gr ((a0 + d) * 2)) (by simp [execOp, Act.eval, f130, f131, go_sem, hiz, hiz2, hoff]) hl hs hS
    apply sc
    ·intro a w' vs σ hS hl hs hk
     have f138 : a.tmps[138]?.getD undef = .pointer (some ⟨gr, (a0 + d) * 2, none⟩) := sf hk 8
     have e137 : a.tmps.getD 137 undef = vs 7 := sk_val hk 7 (by kernel_rfl) rfl rfl
     have p137 : (fun u : Value => ∃ A m c, u = .agg #[.slice A m c, .bool false]) (vs 7) := (hk.1 7 (by kernel_rfl)).1
     have f137 := gd e137
     obtain ⟨A7, n7, c7, q7⟩ := p137
     have h1 : σ[1]? = some (.heads (.slice (some ⟨gr, 0, none⟩) L.length c) (hdP X1 ++ (hdP F ++ hdP (R.drop d)))) := hs 1 (by decide)
     obtain ⟨A8, c8, e8, -, -, -, hg8⟩ := hS.headsForm (sg h1)
     simp only [Value.slice.injEq] at e8
     obtain ⟨rfl, -, rfl⟩ := e8
     have hHl := HHL.out
     obtain ⟨g8, e9, hz, hcs, hf⟩ := hg8 (by omega)
     cases e9
     obtain ⟨x8, hx8⟩ := get_of (show a0 + d < (hdP X1 ++ (hdP F ++ hdP (R.drop d))).length by omega)
     obtain ⟨hx, hx'⟩ := hcs (a0 + d) x8 hx8
     exact rstep_store (w2 := (w'.setCell ⟨gr, (a0 + d) * 2, none⟩ (.slice A7 n7 c7)).setCell ⟨gr, (a0 + d) * 2 + 1, none⟩ (.bool false)) (wanted_none rfl) rfl (by simp [execOp, Act.eval, f138, e137, f137, q7, hx, hx', hf, hz, go_sem]) (sp_set 1 (.heads (.slice (some ⟨gr, 0, none⟩) L.length c) (List.set (hdP X1 ++ (hdP F ++ hdP (R.drop d))) (a0 + d) (.slice A7 n7 c7, false))) (by kernel_rfl) (by simp) (by decide) hl hs (by show Ob.heads _ (List.set _ _ (lineV (vs 7), false)) = _; rw [q7]; rfl) (hS.storeHead (sg h1)) trivial) trivial
    exact SSteps.nil
   ·intro vs w' hS hv
    have q0 : vs 0 = _ := hv 0 (by decide)
    have q1 : vs 1 = _ := hv 1 (by decide)
    have q2 : vs 2 = _ := hv 2 (by decide)
    have q3 : vs 3 = _ := hv 3 (by decide)
    have q4 : vs 4 = _ := hv 4 (by decide)
    have q5 : vs 5 = _ := hv 5 (by decide)
    have q6 : vs 6 = _ := hv 6 (by decide)
    have q8 : vs 8 = _ := hv 8 (by decide)
    obtain ⟨A7, n7, c7, q7⟩ := (show ∃ A m c, vs 7 = .agg #[.slice A m c, .bool false] from hv 7 (by decide))
    rw [q7] at hS
    have S2 := Lib.hid hS
    simp only [putL, Act.put, Nat.zero_add, Nat.reduceAdd, List.setIfInBounds_toArray, List.set_cons_succ, List.set_cons_zero, q0, q1, q2, q3, q4, q5, q6, q8]
    clear hS hv q0 q1 q2 q3 q4 q5 q6 q8
    simp only [q7]
    have S9 := S2.out
    rw [show lineV (.agg #[.slice A7 n7 c7, .bool false]) = .slice A7 n7 c7 from rfl, hdP_fill (.slice A7 n7 c7) (List.replicate cols (blank q)) false HX1.out HF.out.1 hiR] at S9
    have S10 := Lib.hid (show Objs w0 w' (.heads (.slice (some ⟨gr, 0, none⟩) L.length c) (hdP X1 ++ (hdP (F ++ [(.slice A7 n7 c7, (List.replicate cols (blank q)), false)]) ++ hdP (R.drop (d + 1)))) :: .box b7 54 (pv q) :: .box p 58 #[.int .i64 ↑cols, .slice (some ⟨gr, 0, none⟩) L.length c] :: .heads (.slice Ag k cg) (hdP G) :: .pile (piP T ++ piP (F ++ [(.slice A7 n7 c7, (List.replicate cols (blank q)), false)])) :: .box b5 106 #[.int .i64 ↑top, .int .i64 ↑bot] :: os) from by have := Objs.pileIn S9; rw [List.append_assoc] at this; rw [piP_append]; exact this)
    clear S9 S2
    go_wp2_with fail
    go_roundw
    case rel => exact ⟨d + 1, F ++ [(.slice A7 n7 c7, (List.replicate cols (blank q)), false)], by omega, by go_num, ⟨by simp [HF.out.1], by rw [lnP_append, HF.out.2]; unfold rollFresh; rw [List.replicate_succ']; rfl⟩, S10.out⟩
    case measure => simp [intOf]; omega
 ·have hnl : ¬ n < (many : Int) := by omega
  subst h2
  have HPB2 := Lib.hid (HPB.out rfl)
  clear HPB
  clear ha0
  by_cases hcap : c - top = k
  ·go_wp2_with fail
   refine (clone_front S5.out.swap HONE.out (a := top) (m := k) (by rw [HTl.out]; omega) (by omega) (by rw [HTl.out]; omega)).mono ?_
   rintro e w5 ⟨Ag, cg, rfl, hS⟩
   obtain ⟨w6, hr6, hS6⟩ := run_copyH hS (k := 1) rfl HONE.out top top 0 (some ⟨gr, top * 2, none⟩) (some ⟨gr, top * 2, none⟩) k (k) 0 (0) (Nat.zero_min _) (by rw [HTl.out]; omega) (by rw [HTl.out]; omega) (fun h => absurd h (by omega)) 3
   have HR6 := Lib.hid hr6
   rw [hdP_drop T top, hdP_take, HG.out, ← hdP_drop T top, HPB2.out] at hS6
   have S7 := Lib.hid (ord7 (show Objs w0 w6 (.heads (.slice Ag k cg) (hdP G) :: .heads (.slice (some ⟨gr, 0, none⟩) L.length c) (hdP X1 ++ hdP R) :: .pile (piP T) :: .box b7 54 (pv q) :: .box b5 106 #[.int .i64 top, .int .i64 bot] :: .box p 58 #[.int .i64 cols, .slice (some ⟨gr, 0, none⟩) L.length c] :: os) from hS6))
   have HAO := HA0.out
   clear hS hr6 hS6 S5
   go_wp2_with (refine wpList_copyK rfl _ _ 30 30 rfl rfl rfl HR6.out ?_)
   go_loopw [14, 127] (fun _ vi wr => ∃ (d : Nat) (F : List Tr), d ≤ k ∧ vi = .int .i64 d ∧ (F.length = d ∧ lnP F = rollFresh d cols q) ∧ Objs w0 wr (.heads (.slice (some ⟨gr, 0, none⟩) L.length c) (hdP X1 ++ (hdP F ++ hdP (R.drop d))) :: .box b7 54 (pv q) :: .box p 58 #[.int .i64 ↑cols, .slice (some ⟨gr, 0, none⟩) L.length c] :: .heads (.slice Ag k cg) (hdP G) :: .pile (piP T ++ piP F) :: .box b5 106 #[.int .i64 ↑top, .int .i64 ↑bot] :: os)) (fun _ vi _ => k - (intOf vi).toNat)
   case atStart => exact ⟨0, [], by omega, rfl, ⟨rfl, rfl⟩, by simpa [hdP, piP] using S7.out⟩
   case round =>
    obtain ⟨d, F, hik, rfl, hFF, hS⟩ := hrel
    have HF := Lib.hid hFF
    have S8 := Lib.hid hS
    clear hFF hS S7
    by_cases hlt : d < k
    case neg =>
     have hie : d = k := by omega
     have hX := S8.out
     have hFk := HF.out.2
     rw [hie] at hX hFk
     have hX2 := hX.dealIn HPERM.out
     have HLF := Lib.hid (HLEFT.out F hFk)
     obtain ⟨L1, hL1⟩ : ∃ L1, L1 = lnP X1 ++ (lnP F ++ lnP (R.drop k)) := ⟨_, rfl⟩
     rw [← hL1] at hX2 HLF
     have hL1l : L1.length = L.length := by rw [hL1]; simp only [List.length_append, lnP_length, List.length_drop]; have := HX1.out; have := HF.out.1; have := HRL.out; omega
     have SX := Lib.hid hX2
     obtain ⟨hx5, hf5, hz5⟩ := (hX2.box (k := 4) rfl).facts
     clear hie hX hX2 hFk hL1 S8
     by_cases ht0 : top = 0
     ·have HT0 := Lib.hid (show topHard top L1 = L1 by unfold topHard; rw [if_neg (by omega)])
      have htg : ¬ (0 : Int) < (top : Int) := by omega
      have SF := Lib.hid (fin_roll SX.out)
      clear ht0
      go_wp2_with fail
      go_ret2
      exact ⟨Ag, k, cg, rfl, by rw [← HGONE.out, ← HLF.out, HT0.out]; exact SF.out⟩
     ·have htg : (0 : Int) < (top : Int) := by omega
      obtain ⟨l9, hlt1⟩ := get_of (show top - 1 < L1.length by omega)
      have HT0 := Lib.hid (show L1.set (top - 1) (l9.1, false) = topHard top L1 by unfold topHard; rw [if_pos (by omega), softMod_some hlt1])
      have HWT := Lib.hid (show IntKind.i64.wrap ((top : Int) - 1) = (top : Int) - 1 from IntWalk.i64_in _ (by omega))
      have htz : (0 : Int) ≤ (top : Int) - 1 := by omega
      have htz2 : (top : Int) - 1 < (L.length : Int) := by omega
      have htz3 : ¬ (top : Int) < 1 := by omega
      have htn : ((top : Int) - 1).toNat = top - 1 := by omega
      have SY := Lib.hid (ord_roll SX.out)
      go_upto_region 31 with (fail)
      refine wp_region_stage (w0 := w0) (os := (.lines (.slice Ag k cg) (lnP G) :: .box b7 54 (pv q) :: os)) (by kernel_rfl) (by kernel_rfl) (by kernel_rfl) [(0, 9, [], fun vs => .lines (.slice (some ⟨gr, 0, none⟩) L.length c) (L1.set (top - 1) (l9.1, false)))] [[], [], [], [1], [], [2], [], [], [], [0]] [.lines (.slice (some ⟨gr, 0, none⟩) L.length c) L1, .box p 58 #[.int .i64 ↑cols, .slice (some ⟨gr, 0, none⟩) L.length c], .box b5 106 #[.int .i64 ↑top, .int .i64 ↑bot]] (fun i u => match i with | 0 => u = pt p 0 | 1 => u = pt p 0 | 2 => u = pt p 1 | 3 => u = .slice (some ⟨gr, 0, none⟩) L.length c | 4 => u = pt b5 0 | 5 => u = .int .i64 ↑top | 6 => u = .int .i64 (↑top - 1) | 7 => u = pt gr ((top - 1) * 2) | 8 => u = pt gr ((top - 1) * 2 + 1) | 9 => True | _ => True) (fun vs => [.lines (.slice (some ⟨gr, 0, none⟩) L.length c) (L1.set (top - 1) (l9.1, false)), .box p 58 #[.int .i64 ↑cols, .slice (some ⟨gr, 0, none⟩) L.length c], .box b5 106 #[.int .i64 ↑top, .int .i64 ↑bot]]) (by kernel_rfl) (fun vs => by rfl) SY.out ?_ ?_
      ·apply sc
       ·intro a w' vs σ hS hl hs hk
        have f0 : a.tmps[0]?.getD undef = .pointer (some ⟨p, 0, none⟩) := sof hk
        exact rp (pt p 0) (by simp [execOp, Act.eval, f0, go_sem]) hl hs hS
       apply sc
       ·intro a w' vs σ hS hl hs hk
        have f143 : a.tmps[143]?.getD undef = .pointer (some ⟨p, 0, none⟩) := sf hk 0
        exact rp (pt p 0) (by simp [execOp, Act.eval, f143, go_sem]) hl hs hS
       apply sc
       ·intro a w' vs σ hS hl hs hk
        have f144 : a.tmps[144]?.getD undef = .pointer (some ⟨p, 0, none⟩) := sf hk 1
        exact rp (pt p 1) (by simp [execOp, Act.eval, f144, go_sem]) hl hs hS
       apply sc
       ·intro a w' vs σ hS hl hs hk
        have f145 : a.tmps[145]?.getD undef = .pointer (some ⟨p, 1, none⟩) := sf hk 2
        have hx := (hS.box (sg (hs 1 (by decide)))).cell
        exact rp (.slice (some ⟨gr, 0, none⟩) L.length c) (by simp [execOp, Act.eval, f145, go_sem, hx]) hl hs hS
       apply sc
       ·intro a w' vs σ hS hl hs hk
        have f5 : a.tmps[5]?.getD undef = .pointer (some ⟨b5, 0, none⟩) := sof hk
        exact rp (pt b5 0) (by simp [execOp, Act.eval, f5, go_sem]) hl hs hS
       apply sc
       ·intro a w' vs σ hS hl hs hk
        have f147 : a.tmps[147]?.getD undef = .pointer (some ⟨b5, 0, none⟩) := sf hk 4
        have hx := (hS.box (sg (hs 2 (by decide)))).cell
        exact rp (.int .i64 ↑top) (by simp [execOp, Act.eval, f147, go_sem, hx]) hl hs hS
       apply sc
       ·intro a w' vs σ hS hl hs hk
        have f148 : a.tmps[148]?.getD undef = .int .i64 ↑top := sf hk 5
        exact rp (.int .i64 (↑top - 1)) (by simp [execOp, Act.eval, f148, go_sem, HWT.out]) hl hs hS
       apply sc
       ·intro a w' vs σ hS hl hs hk
        have f146 : a.tmps[146]?.getD undef = .slice (some ⟨gr, 0, none⟩) L.length c := sf hk 3
        have f149 : a.tmps[149]?.getD undef = .int .i64 (↑top - 1) := sf hk 6
        exact rp (pt gr ((top - 1) * 2)) (by simp [execOp, Act.eval, f146, f149, go_sem, htz, htz2, htn, htz3]) hl hs hS
       apply sc
       ·intro a w' vs σ hS hl hs hk
        have f150 : a.tmps[150]?.getD undef = .pointer (some ⟨gr, (top - 1) * 2, none⟩) := sf hk 7
        exact rp (pt gr ((top - 1) * 2 + 1)) (by simp [execOp, Act.eval, f150, go_sem]) hl hs hS
       apply sc
       ·intro a w' vs σ hS hl hs hk
        have f151 : a.tmps[151]?.getD undef = .pointer (some ⟨gr, (top - 1) * 2 + 1, none⟩) := sf hk 8
        have h1 : σ[0]? = some (.lines (.slice (some ⟨gr, 0, none⟩) L.length c) L1) := hs 0 (by decide)
        obtain ⟨F9, bs9, hF9, -⟩ := hS.get (sg h1)
        obtain ⟨A9, c9, e9, -, -, -, hg9⟩ := hF9.form
        simp only [Value.slice.injEq] at e9
        obtain ⟨rfl, -, rfl⟩ := e9
        obtain ⟨g9, e9', hz, -, hso, hf⟩ := hg9 (by omega)
        cases e9'
        have hx := hso _ _ hlt1
        exact rstep_store (w2 := w'.setCell ⟨gr, (top - 1) * 2 + 1, none⟩ (.bool false)) (wanted_none rfl) rfl (by simp [execOp, Act.eval, f151, hx, hf, hz, go_sem]) (sp_set 0 (.lines (.slice (some ⟨gr, 0, none⟩) L.length c) (L1.set (top - 1) (l9.1, false))) (by kernel_rfl) (by simp) (by decide) hl hs (by rfl) (hS.storeSoft (sg h1) hlt1) trivial) trivial
       exact SSteps.nil
      ·intro vs w' hS hv
       have q0 : vs 0 = _ := hv 0 (by decide)
       have q1 : vs 1 = _ := hv 1 (by decide)
       have q2 : vs 2 = _ := hv 2 (by decide)
       have q3 : vs 3 = _ := hv 3 (by decide)
       have q4 : vs 4 = _ := hv 4 (by decide)
       have q5 : vs 5 = _ := hv 5 (by decide)
       have q6 : vs 6 = _ := hv 6 (by decide)
       have q7 : vs 7 = _ := hv 7 (by decide)
       have q8 : vs 8 = _ := hv 8 (by decide)
       have S2 := Lib.hid hS
       simp only [putL, Act.put, Nat.zero_add, Nat.reduceAdd, List.setIfInBounds_toArray, List.set_cons_succ, List.set_cons_zero, q0, q1, q2, q3, q4, q5, q6, q7, q8]
       clear hS hv q0 q1 q2 q3 q4 q5 q6 q7 q8
       have S9 := S2.out
       rw [HT0.out] at S9
       have SF := Lib.hid (fin_roll2 S9)
       clear S9 S2
       go_wp2_with fail
       go_ret2
       exact ⟨Ag, k, cg, rfl, by rw [← HGONE.out, ← HLF.out]; exact SF.out⟩
    have hiR : d < R.length := by omega
    have hiz : (0 : Int) ≤ (d : Int) := by omega
    have hiz2 : (d : Int) < (k : Int) := by omega
    have hoff : top * 2 + d * 2 = (a0 + d) * 2 := by omega
    have HHL := Lib.hid (show (hdP X1 ++ (hdP F ++ hdP (R.drop d))).length = a0 + (d + (R.length - d)) by simp only [List.length_append, hdP_length, List.length_drop, HX1.out, HF.out.1])
    have SZ := Lib.hid S8.out.pad
    clear S8
    go_upto_region 28 with (fail)
    refine wp_region_stage (w0 := w0) (os := (.heads (.slice Ag k cg) (hdP G) :: .pile (piP T ++ piP F) :: .box b5 106 #[.int .i64 ↑top, .int .i64 ↑bot] :: os)) (by kernel_rfl) (by kernel_rfl) (by kernel_rfl) [(0, 7, [7], fun vs => .cells (lineV (vs 7)) (List.replicate cols (blank q))), (1, 9, [7], fun vs => .heads (.slice (some ⟨gr, 0, none⟩) L.length c) (List.set (hdP X1 ++ (hdP F ++ hdP (R.drop d))) (a0 + d) (lineV (vs 7), false)))] [[], [], [], [], [], [3], [2], [0], [], [1]] [.none, .heads (.slice (some ⟨gr, 0, none⟩) L.length c) (hdP X1 ++ (hdP F ++ hdP (R.drop d))), .box b7 54 (pv q), .box p 58 #[.int .i64 ↑cols, .slice (some ⟨gr, 0, none⟩) L.length c]] (fun i u => match i with | 0 => u = .slice (some ⟨gr, top * 2, none⟩) k (k) | 1 => u = .int .i64 ↑d | 2 => u = pt p 0 | 3 => u = pt p 0 | 4 => u = pt p 0 | 5 => u = .int .i64 ↑cols | 6 => u = .agg (pv q) | 7 => ∃ A m c, u = .agg #[.slice A m c, .bool false] | 8 => u = pt gr ((a0 + d) * 2) | 9 => True | _ => True) (fun vs => [.cells (lineV (vs 7)) (List.replicate cols (blank q)), .heads (.slice (some ⟨gr, 0, none⟩) L.length c) (List.set (hdP X1 ++ (hdP F ++ hdP (R.drop d))) (a0 + d) (lineV (vs 7), false)), .box b7 54 (pv q), .box p 58 #[.int .i64 ↑cols, .slice (some ⟨gr, 0, none⟩) L.length c]]) (by kernel_rfl) (fun vs => by rfl) SZ.out ?_ ?_
    ·apply sc
     ·intro a w' vs σ hS hl hs hk
      have f13 : a.tmps[13]?.getD undef = .slice (some ⟨gr, top * 2, none⟩) k (k) := sof hk
      exact rp (.slice (some ⟨gr, top * 2, none⟩) k (k)) (by simp [execOp, Act.eval, f13, go_sem]) hl hs hS
     apply sc
     ·intro a w' vs σ hS hl hs hk
      have f14 : a.tmps[14]?.getD undef = .int .i64 ↑d := sof hk
      exact rp (.int .i64 ↑d) (by simp [execOp, Act.eval, f14, go_sem]) hl hs hS
     apply sc
     ·intro a w' vs σ hS hl hs hk
      have f0 : a.tmps[0]?.getD undef = .pointer (some ⟨p, 0, none⟩) := sof hk
      exact rp (pt p 0) (by simp [execOp, Act.eval, f0, go_sem]) hl hs hS
     apply sc
     ·intro a w' vs σ hS hl hs hk
      have f132 : a.tmps[132]?.getD undef = .pointer (some ⟨p, 0, none⟩) := sf hk 2
      exact rp (pt p 0) (by simp [execOp, Act.eval, f132, go_sem]) hl hs hS
     apply sc
     ·intro a w' vs σ hS hl hs hk
      have f133 : a.tmps[133]?.getD undef = .pointer (some ⟨p, 0, none⟩) := sf hk 3
      exact rp (pt p 0) (by simp [execOp, Act.eval, f133, go_sem]) hl hs hS
     apply sc
     ·intro a w' vs σ hS hl hs hk
      have f134 : a.tmps[134]?.getD undef = .pointer (some ⟨p, 0, none⟩) := sf hk 4
      have hx := (hS.box (sg (hs 3 (by decide)))).cell
      exact rp (.int .i64 ↑cols) (by simp [execOp, Act.eval, f134, go_sem, hx]) hl hs hS
     apply sc
     ·intro a w' vs σ hS hl hs hk
      have f7 : a.tmps[7]?.getD undef = .pointer (some ⟨b7, 0, none⟩) := sof hk
      have hx := (hS.box (sg (hs 2 (by decide)))).penAt
      exact rp (.agg (pv q)) (by simp [execOp, Act.eval, f7, go_sem, hx]) hl hs hS
     apply sc
     ·intro a w' vs σ hS hl hs hk
      have e135 : a.tmps.getD 135 undef = .int .i64 ↑cols := sv hk 5
      have e136 : a.tmps.getD 136 undef = .agg (pv q) := sv hk 6
      have h0 : σ[0]? = some .none := hs 0 (by decide)
      exact ro_call (f := 54) (wanted_none rfl) rfl (by simp only [List.map_toArray, List.map_cons, List.map_nil, Act.eval, e135, e136] <;> rfl) (fun _ _ => by kernel_rfl) ((gridblanks_any cols hcm q _ _ _ hS).mono fun e w2 ⟨x, h1, h2⟩ => ⟨_, h1, sp_set 0 (.cells x (List.replicate cols (blank q))) (by kernel_rfl) (by simp) (by decide) hl hs (by rfl) (h2.place (sg h0)) (by obtain ⟨A', c', e, -⟩ := h2.cellsRd (k := 0) rfl; exact ⟨A', _, c', by rw [e]⟩), trivial⟩)
     apply sc
     ·intro a w' vs σ hS hl hs hk
      have f130 : a.tmps[130]?.getD undef = .slice (some ⟨gr, top * 2, none⟩) k (k) := sf hk 0
      have f131 : a.tmps[131]?.getD undef = .int .i64 ↑d := sf hk 1
      exact rp (pt gr ((a0 + d) * 2)) (by simp [execOp, Act.eval, f130, f131, go_sem, hiz, hiz2, hoff]) hl hs hS
     apply sc
     ·intro a w' vs σ hS hl hs hk
      have f138 : a.tmps[138]?.getD undef = .pointer (some ⟨gr, (a0 + d) * 2, none⟩) := sf hk 8
      have e137 : a.tmps.getD 137 undef = vs 7 := sk_val hk 7 (by kernel_rfl) rfl rfl
      have p137 : (fun u : Value => ∃ A m c, u = .agg #[.slice A m c, .bool false]) (vs 7) := (hk.1 7 (by kernel_rfl)).1
      have f137 := gd e137
      obtain ⟨A7, n7, c7, q7⟩ := p137
      have h1 : σ[1]? = some (.heads (.slice (some ⟨gr, 0, none⟩) L.length c) (hdP X1 ++ (hdP F ++ hdP (R.drop d)))) := hs 1 (by decide)
      obtain ⟨A8, c8, e8, -, -, -, hg8⟩ := hS.headsForm (sg h1)
      simp only [Value.slice.injEq] at e8
      obtain ⟨rfl, -, rfl⟩ := e8
      have hHl := HHL.out
      obtain ⟨g8, e9, hz, hcs, hf⟩ := hg8 (by omega)
      cases e9
      obtain ⟨x8, hx8⟩ := get_of (show a0 + d < (hdP X1 ++ (hdP F ++ hdP (R.drop d))).length by omega)
      obtain ⟨hx, hx'⟩ := hcs (a0 + d) x8 hx8
      exact rstep_store (w2 := (w'.setCell ⟨gr, (a0 + d) * 2, none⟩ (.slice A7 n7 c7)).setCell ⟨gr, (a0 + d) * 2 + 1, none⟩ (.bool false)) (wanted_none rfl) rfl (by simp [execOp, Act.eval, f138, e137, f137, q7, hx, hx', hf, hz, go_sem]) (sp_set 1 (.heads (.slice (some ⟨gr, 0, none⟩) L.length c) (List.set (hdP X1 ++ (hdP F ++ hdP (R.drop d))) (a0 + d) (.slice A7 n7 c7, false))) (by kernel_rfl) (by simp) (by decide) hl hs (by show Ob.heads _ (List.set _ _ (lineV (vs 7), false)) = _; rw [q7]; rfl) (hS.storeHead (sg h1)) trivial) trivial
     exact SSteps.nil
    ·intro vs w' hS hv
     have q0 : vs 0 = _ := hv 0 (by decide)
     have q1 : vs 1 = _ := hv 1 (by decide)
     have q2 : vs 2 = _ := hv 2 (by decide)
     have q3 : vs 3 = _ := hv 3 (by decide)
     have q4 : vs 4 = _ := hv 4 (by decide)
     have q5 : vs 5 = _ := hv 5 (by decide)
     have q6 : vs 6 = _ := hv 6 (by decide)
     have q8 : vs 8 = _ := hv 8 (by decide)
     obtain ⟨A7, n7, c7, q7⟩ := (show ∃ A m c, vs 7 = .agg #[.slice A m c, .bool false] from hv 7 (by decide))
     rw [q7] at hS
     have S2 := Lib.hid hS
     simp only [putL, Act.put, Nat.zero_add, Nat.reduceAdd, List.setIfInBounds_toArray, List.set_cons_succ, List.set_cons_zero, q0, q1, q2, q3, q4, q5, q6, q8]
     clear hS hv q0 q1 q2 q3 q4 q5 q6 q8
     simp only [q7]
     have S9 := S2.out
     rw [show lineV (.agg #[.slice A7 n7 c7, .bool false]) = .slice A7 n7 c7 from rfl, hdP_fill (.slice A7 n7 c7) (List.replicate cols (blank q)) false HX1.out HF.out.1 hiR] at S9
     have S10 := Lib.hid (show Objs w0 w' (.heads (.slice (some ⟨gr, 0, none⟩) L.length c) (hdP X1 ++ (hdP (F ++ [(.slice A7 n7 c7, (List.replicate cols (blank q)), false)]) ++ hdP (R.drop (d + 1)))) :: .box b7 54 (pv q) :: .box p 58 #[.int .i64 ↑cols, .slice (some ⟨gr, 0, none⟩) L.length c] :: .heads (.slice Ag k cg) (hdP G) :: .pile (piP T ++ piP (F ++ [(.slice A7 n7 c7, (List.replicate cols (blank q)), false)])) :: .box b5 106 #[.int .i64 ↑top, .int .i64 ↑bot] :: os) from by have := Objs.pileIn S9; rw [List.append_assoc] at this; rw [piP_append]; exact this)
     clear S9 S2
     go_wp2_with fail
     go_roundw
     case rel => exact ⟨d + 1, F ++ [(.slice A7 n7 c7, (List.replicate cols (blank q)), false)], by omega, by go_num, ⟨by simp [HF.out.1], by rw [lnP_append, HF.out.2]; unfold rollFresh; rw [List.replicate_succ']; rfl⟩, S10.out⟩
     case measure => simp [intOf]; omega
  ·go_wp2_with fail
   refine (clone_front S5.out.swap HONE.out (a := top) (m := k) (by rw [HTl.out]; omega) (by omega) (by rw [HTl.out]; omega)).mono ?_
   rintro e w5 ⟨Ag, cg, rfl, hS⟩
   obtain ⟨w6, hr6, hS6⟩ := run_copyH hS (k := 1) rfl HONE.out top top 0 (some ⟨gr, top * 2, none⟩) (some ⟨gr, top * 2 + k * 2, none⟩) k (c - top) 0 (c - top - k) (Nat.zero_min _) (by rw [HTl.out]; omega) (by rw [HTl.out]; omega) (fun h => absurd h (by omega)) 3
   have HR6 := Lib.hid hr6
   rw [hdP_drop T top, hdP_take, HG.out, ← hdP_drop T top, HPB2.out] at hS6
   have S7 := Lib.hid (ord7 (show Objs w0 w6 (.heads (.slice Ag k cg) (hdP G) :: .heads (.slice (some ⟨gr, 0, none⟩) L.length c) (hdP X1 ++ hdP R) :: .pile (piP T) :: .box b7 54 (pv q) :: .box b5 106 #[.int .i64 top, .int .i64 bot] :: .box p 58 #[.int .i64 cols, .slice (some ⟨gr, 0, none⟩) L.length c] :: os) from hS6))
   have HAO := HA0.out
   clear hS hr6 hS6 S5
   go_wp2_with (refine wpList_copyK rfl _ _ 30 30 rfl rfl rfl HR6.out ?_)
   go_loopw [14, 127] (fun _ vi wr => ∃ (d : Nat) (F : List Tr), d ≤ k ∧ vi = .int .i64 d ∧ (F.length = d ∧ lnP F = rollFresh d cols q) ∧ Objs w0 wr (.heads (.slice (some ⟨gr, 0, none⟩) L.length c) (hdP X1 ++ (hdP F ++ hdP (R.drop d))) :: .box b7 54 (pv q) :: .box p 58 #[.int .i64 ↑cols, .slice (some ⟨gr, 0, none⟩) L.length c] :: .heads (.slice Ag k cg) (hdP G) :: .pile (piP T ++ piP F) :: .box b5 106 #[.int .i64 ↑top, .int .i64 ↑bot] :: os)) (fun _ vi _ => k - (intOf vi).toNat)
   case atStart => exact ⟨0, [], by omega, rfl, ⟨rfl, rfl⟩, by simpa [hdP, piP] using S7.out⟩
   case round =>
    obtain ⟨d, F, hik, rfl, hFF, hS⟩ := hrel
    have HF := Lib.hid hFF
    have S8 := Lib.hid hS
    clear hFF hS S7
    by_cases hlt : d < k
    case neg =>
     have hie : d = k := by omega
     have hX := S8.out
     have hFk := HF.out.2
     rw [hie] at hX hFk
     have hX2 := hX.dealIn HPERM.out
     have HLF := Lib.hid (HLEFT.out F hFk)
     obtain ⟨L1, hL1⟩ : ∃ L1, L1 = lnP X1 ++ (lnP F ++ lnP (R.drop k)) := ⟨_, rfl⟩
     rw [← hL1] at hX2 HLF
     have hL1l : L1.length = L.length := by rw [hL1]; simp only [List.length_append, lnP_length, List.length_drop]; have := HX1.out; have := HF.out.1; have := HRL.out; omega
     have SX := Lib.hid hX2
     obtain ⟨hx5, hf5, hz5⟩ := (hX2.box (k := 4) rfl).facts
     clear hie hX hX2 hFk hL1 S8
     by_cases ht0 : top = 0
     ·have HT0 := Lib.hid (show topHard top L1 = L1 by unfold topHard; rw [if_neg (by omega)])
      have htg : ¬ (0 : Int) < (top : Int) := by omega
      have SF := Lib.hid (fin_roll SX.out)
      clear ht0
      go_wp2_with fail
      go_ret2
      exact ⟨Ag, k, cg, rfl, by rw [← HGONE.out, ← HLF.out, HT0.out]; exact SF.out⟩
     ·have htg : (0 : Int) < (top : Int) := by omega
      obtain ⟨l9, hlt1⟩ := get_of (show top - 1 < L1.length by omega)
      have HT0 := Lib.hid (show L1.set (top - 1) (l9.1, false) = topHard top L1 by unfold topHard; rw [if_pos (by omega), softMod_some hlt1])
      have HWT := Lib.hid (show IntKind.i64.wrap ((top : Int) - 1) = (top : Int) - 1 from IntWalk.i64_in _ (by omega))
      have htz : (0 : Int) ≤ (top : Int) - 1 := by omega
      have htz2 : (top : Int) - 1 < (L.length : Int) := by omega
      have htz3 : ¬ (top : Int) < 1 := by omega
      have htn : ((top : Int) - 1).toNat = top - 1 := by omega
      have SY := Lib.hid (ord_roll SX.out)
      go_upto_region 31 with (fail)
      refine wp_region_stage (w0 := w0) (os := (.lines (.slice Ag k cg) (lnP G) :: .box b7 54 (pv q) :: os)) (by kernel_rfl) (by kernel_rfl) (by kernel_rfl) [(0, 9, [], fun vs => .lines (.slice (some ⟨gr, 0, none⟩) L.length c) (L1.set (top - 1) (l9.1, false)))] [[], [], [], [1], [], [2], [], [], [], [0]] [.lines (.slice (some ⟨gr, 0, none⟩) L.length c) L1, .box p 58 #[.int .i64 ↑cols, .slice (some ⟨gr, 0, none⟩) L.length c], .box b5 106 #[.int .i64 ↑top, .int .i64 ↑bot]] (fun i u => match i with | 0 => u = pt p 0 | 1 => u = pt p 0 | 2 => u = pt p 1 | 3 => u = .slice (some ⟨gr, 0, none⟩) L.length c | 4 => u = pt b5 0 | 5 => u = .int .i64 ↑top | 6 => u = .int .i64 (↑top - 1) | 7 => u = pt gr ((top - 1) * 2) | 8 => u = pt gr ((top - 1) * 2 + 1) | 9 => True | _ => True) (fun vs => [.lines (.slice (some ⟨gr, 0, none⟩) L.length c) (L1.set (top - 1) (l9.1, false)), .box p 58 #[.int .i64 ↑cols, .slice (some ⟨gr, 0, none⟩) L.length c], .box b5 106 #[.int .i64 ↑top, .int .i64 ↑bot]]) (by kernel_rfl) (fun vs => by rfl) SY.out ?_ ?_
      ·apply sc
       ·intro a w' vs σ hS hl hs hk
        have f0 : a.tmps[0]?.getD undef = .pointer (some ⟨p, 0, none⟩) := sof hk
        exact rp (pt p 0) (by simp [execOp, Act.eval, f0, go_sem]) hl hs hS
       apply sc
       ·intro a w' vs σ hS hl hs hk
        have f143 : a.tmps[143]?.getD undef = .pointer (some ⟨p, 0, none⟩) := sf hk 0
        exact rp (pt p 0) (by simp [execOp, Act.eval, f143, go_sem]) hl hs hS
       apply sc
       ·intro a w' vs σ hS hl hs hk
        have f144 : a.tmps[144]?.getD undef = .pointer (some ⟨p, 0, none⟩) := sf hk 1
        exact rp (pt p 1) (by simp [execOp, Act.eval, f144, go_sem]) hl hs hS
       apply sc
       ·intro a w' vs σ hS hl hs hk
        have f145 : a.tmps[145]?.getD undef = .pointer (some ⟨p, 1, none⟩) := sf hk 2
        have hx := (hS.box (sg (hs 1 (by decide)))).cell
        exact rp (.slice (some ⟨gr, 0, none⟩) L.length c) (by simp [execOp, Act.eval, f145, go_sem, hx]) hl hs hS
       apply sc
       ·intro a w' vs σ hS hl hs hk
        have f5 : a.tmps[5]?.getD undef = .pointer (some ⟨b5, 0, none⟩) := sof hk
        exact rp (pt b5 0) (by simp [execOp, Act.eval, f5, go_sem]) hl hs hS
       apply sc
       ·intro a w' vs σ hS hl hs hk
        have f147 : a.tmps[147]?.getD undef = .pointer (some ⟨b5, 0, none⟩) := sf hk 4
        have hx := (hS.box (sg (hs 2 (by decide)))).cell
        exact rp (.int .i64 ↑top) (by simp [execOp, Act.eval, f147, go_sem, hx]) hl hs hS
       apply sc
       ·intro a w' vs σ hS hl hs hk
        have f148 : a.tmps[148]?.getD undef = .int .i64 ↑top := sf hk 5
        exact rp (.int .i64 (↑top - 1)) (by simp [execOp, Act.eval, f148, go_sem, HWT.out]) hl hs hS
       apply sc
       ·intro a w' vs σ hS hl hs hk
        have f146 : a.tmps[146]?.getD undef = .slice (some ⟨gr, 0, none⟩) L.length c := sf hk 3
        have f149 : a.tmps[149]?.getD undef = .int .i64 (↑top - 1) := sf hk 6
        exact rp (pt gr ((top - 1) * 2)) (by simp [execOp, Act.eval, f146, f149, go_sem, htz, htz2, htn, htz3]) hl hs hS
       apply sc
       ·intro a w' vs σ hS hl hs hk
        have f150 : a.tmps[150]?.getD undef = .pointer (some ⟨gr, (top - 1) * 2, none⟩) := sf hk 7
        exact rp (pt gr ((top - 1) * 2 + 1)) (by simp [execOp, Act.eval, f150, go_sem]) hl hs hS
       apply sc
       ·intro a w' vs σ hS hl hs hk
        have f151 : a.tmps[151]?.getD undef = .pointer (some ⟨gr, (top - 1) * 2 + 1, none⟩) := sf hk 8
        have h1 : σ[0]? = some (.lines (.slice (some ⟨gr, 0, none⟩) L.length c) L1) := hs 0 (by decide)
        obtain ⟨F9, bs9, hF9, -⟩ := hS.get (sg h1)
        obtain ⟨A9, c9, e9, -, -, -, hg9⟩ := hF9.form
        simp only [Value.slice.injEq] at e9
        obtain ⟨rfl, -, rfl⟩ := e9
        obtain ⟨g9, e9', hz, -, hso, hf⟩ := hg9 (by omega)
        cases e9'
        have hx := hso _ _ hlt1
        exact rstep_store (w2 := w'.setCell ⟨gr, (top - 1) * 2 + 1, none⟩ (.bool false)) (wanted_none rfl) rfl (by simp [execOp, Act.eval, f151, hx, hf, hz, go_sem]) (sp_set 0 (.lines (.slice (some ⟨gr, 0, none⟩) L.length c) (L1.set (top - 1) (l9.1, false))) (by kernel_rfl) (by simp) (by decide) hl hs (by rfl) (hS.storeSoft (sg h1) hlt1) trivial) trivial
       exact SSteps.nil
      ·intro vs w' hS hv
       have q0 : vs 0 = _ := hv 0 (by decide)
       have q1 : vs 1 = _ := hv 1 (by decide)
       have q2 : vs 2 = _ := hv 2 (by decide)
       have q3 : vs 3 = _ := hv 3 (by decide)
       have q4 : vs 4 = _ := hv 4 (by decide)
       have q5 : vs 5 = _ := hv 5 (by decide)
       have q6 : vs 6 = _ := hv 6 (by decide)
       have q7 : vs 7 = _ := hv 7 (by decide)
       have q8 : vs 8 = _ := hv 8 (by decide)
       have S2 := Lib.hid hS
       simp only [putL, Act.put, Nat.zero_add, Nat.reduceAdd, List.setIfInBounds_toArray, List.set_cons_succ, List.set_cons_zero, q0, q1, q2, q3, q4, q5, q6, q7, q8]
       clear hS hv q0 q1 q2 q3 q4 q5 q6 q7 q8
       have S9 := S2.out
       rw [HT0.out] at S9
       have SF := Lib.hid (fin_roll2 S9)
       clear S9 S2
       go_wp2_with fail
       go_ret2
       exact ⟨Ag, k, cg, rfl, by rw [← HGONE.out, ← HLF.out]; exact SF.out⟩
    have hiR : d < R.length := by omega
    have hiz : (0 : Int) ≤ (d : Int) := by omega
    have hiz2 : (d : Int) < (k : Int) := by omega
    have hoff : top * 2 + d * 2 = (a0 + d) * 2 := by omega
    have HHL := Lib.hid (show (hdP X1 ++ (hdP F ++ hdP (R.drop d))).length = a0 + (d + (R.length - d)) by simp only [List.length_append, hdP_length, List.length_drop, HX1.out, HF.out.1])
    have SZ := Lib.hid S8.out.pad
    clear S8
    go_upto_region 28 with (fail)
    refine wp_region_stage (w0 := w0) (os := (.heads (.slice Ag k cg) (hdP G) :: .pile (piP T ++ piP F) :: .box b5 106 #[.int .i64 ↑top, .int .i64 ↑bot] :: os)) (by kernel_rfl) (by kernel_rfl) (by kernel_rfl) [(0, 7, [7], fun vs => .cells (lineV (vs 7)) (List.replicate cols (blank q))), (1, 9, [7], fun vs => .heads (.slice (some ⟨gr, 0, none⟩) L.length c) (List.set (hdP X1 ++ (hdP F ++ hdP (R.drop d))) (a0 + d) (lineV (vs 7), false)))] [[], [], [], [], [], [3], [2], [0], [], [1]] [.none, .heads (.slice (some ⟨gr, 0, none⟩) L.length c) (hdP X1 ++ (hdP F ++ hdP (R.drop d))), .box b7 54 (pv q), .box p 58 #[.int .i64 ↑cols, .slice (some ⟨gr, 0, none⟩) L.length c]] (fun i u => match i with | 0 => u = .slice (some ⟨gr, top * 2, none⟩) k (c - top) | 1 => u = .int .i64 ↑d | 2 => u = pt p 0 | 3 => u = pt p 0 | 4 => u = pt p 0 | 5 => u = .int .i64 ↑cols | 6 => u = .agg (pv q) | 7 => ∃ A m c, u = .agg #[.slice A m c, .bool false] | 8 => u = pt gr ((a0 + d) * 2) | 9 => True | _ => True) (fun vs => [.cells (lineV (vs 7)) (List.replicate cols (blank q)), .heads (.slice (some ⟨gr, 0, none⟩) L.length c) (List.set (hdP X1 ++ (hdP F ++ hdP (R.drop d))) (a0 + d) (lineV (vs 7), false)), .box b7 54 (pv q), .box p 58 #[.int .i64 ↑cols, .slice (some ⟨gr, 0, none⟩) L.length c]]) (by kernel_rfl) (fun vs => by rfl) SZ.out ?_ ?_
    ·apply sc
     ·intro a w' vs σ hS hl hs hk
      have f13 : a.tmps[13]?.getD undef = .slice (some ⟨gr, top * 2, none⟩) k (c - top) := sof hk
      exact rp (.slice (some ⟨gr, top * 2, none⟩) k (c - top)) (by simp [execOp, Act.eval, f13, go_sem]) hl hs hS
     apply sc
     ·intro a w' vs σ hS hl hs hk
      have f14 : a.tmps[14]?.getD undef = .int .i64 ↑d := sof hk
      exact rp (.int .i64 ↑d) (by simp [execOp, Act.eval, f14, go_sem]) hl hs hS
     apply sc
     ·intro a w' vs σ hS hl hs hk
      have f0 : a.tmps[0]?.getD undef = .pointer (some ⟨p, 0, none⟩) := sof hk
      exact rp (pt p 0) (by simp [execOp, Act.eval, f0, go_sem]) hl hs hS
     apply sc
     ·intro a w' vs σ hS hl hs hk
      have f132 : a.tmps[132]?.getD undef = .pointer (some ⟨p, 0, none⟩) := sf hk 2
      exact rp (pt p 0) (by simp [execOp, Act.eval, f132, go_sem]) hl hs hS
     apply sc
     ·intro a w' vs σ hS hl hs hk
      have f133 : a.tmps[133]?.getD undef = .pointer (some ⟨p, 0, none⟩) := sf hk 3
      exact rp (pt p 0) (by simp [execOp, Act.eval, f133, go_sem]) hl hs hS
     apply sc
     ·intro a w' vs σ hS hl hs hk
      have f134 : a.tmps[134]?.getD undef = .pointer (some ⟨p, 0, none⟩) := sf hk 4
      have hx := (hS.box (sg (hs 3 (by decide)))).cell
      exact rp (.int .i64 ↑cols) (by simp [execOp, Act.eval, f134, go_sem, hx]) hl hs hS
     apply sc
     ·intro a w' vs σ hS hl hs hk
      have f7 : a.tmps[7]?.getD undef = .pointer (some ⟨b7, 0, none⟩) := sof hk
      have hx := (hS.box (sg (hs 2 (by decide)))).penAt
      exact rp (.agg (pv q)) (by simp [execOp, Act.eval, f7, go_sem, hx]) hl hs hS
     apply sc
     ·intro a w' vs σ hS hl hs hk
      have e135 : a.tmps.getD 135 undef = .int .i64 ↑cols := sv hk 5
      have e136 : a.tmps.getD 136 undef = .agg (pv q) := sv hk 6
      have h0 : σ[0]? = some .none := hs 0 (by decide)
      exact ro_call (f := 54) (wanted_none rfl) rfl (by simp only [List.map_toArray, List.map_cons, List.map_nil, Act.eval, e135, e136] <;> rfl) (fun _ _ => by kernel_rfl) ((gridblanks_any cols hcm q _ _ _ hS).mono fun e w2 ⟨x, h1, h2⟩ => ⟨_, h1, sp_set 0 (.cells x (List.replicate cols (blank q))) (by kernel_rfl) (by simp) (by decide) hl hs (by rfl) (h2.place (sg h0)) (by obtain ⟨A', c', e, -⟩ := h2.cellsRd (k := 0) rfl; exact ⟨A', _, c', by rw [e]⟩), trivial⟩)
     apply sc
     ·intro a w' vs σ hS hl hs hk
      have f130 : a.tmps[130]?.getD undef = .slice (some ⟨gr, top * 2, none⟩) k (c - top) := sf hk 0
      have f131 : a.tmps[131]?.getD undef = .int .i64 ↑d := sf hk 1
      exact rp (pt gr ((a0 + d) * 2)) (by simp [execOp, Act.eval, f130, f131, go_sem, hiz, hiz2, hoff]) hl hs hS
     apply sc
     ·intro a w' vs σ hS hl hs hk
      have f138 : a.tmps[138]?.getD undef = .pointer (some ⟨gr, (a0 + d) * 2, none⟩) := sf hk 8
      have e137 : a.tmps.getD 137 undef = vs 7 := sk_val hk 7 (by kernel_rfl) rfl rfl
      have p137 : (fun u : Value => ∃ A m c, u = .agg #[.slice A m c, .bool false]) (vs 7) := (hk.1 7 (by kernel_rfl)).1
      have f137 := gd e137
      obtain ⟨A7, n7, c7, q7⟩ := p137
      have h1 : σ[1]? = some (.heads (.slice (some ⟨gr, 0, none⟩) L.length c) (hdP X1 ++ (hdP F ++ hdP (R.drop d)))) := hs 1 (by decide)
      obtain ⟨A8, c8, e8, -, -, -, hg8⟩ := hS.headsForm (sg h1)
      simp only [Value.slice.injEq] at e8
      obtain ⟨rfl, -, rfl⟩ := e8
      have hHl := HHL.out
      obtain ⟨g8, e9, hz, hcs, hf⟩ := hg8 (by omega)
      cases e9
      obtain ⟨x8, hx8⟩ := get_of (show a0 + d < (hdP X1 ++ (hdP F ++ hdP (R.drop d))).length by omega)
      obtain ⟨hx, hx'⟩ := hcs (a0 + d) x8 hx8
      exact rstep_store (w2 := (w'.setCell ⟨gr, (a0 + d) * 2, none⟩ (.slice A7 n7 c7)).setCell ⟨gr, (a0 + d) * 2 + 1, none⟩ (.bool false)) (wanted_none rfl) rfl (by simp [execOp, Act.eval, f138, e137, f137, q7, hx, hx', hf, hz, go_sem]) (sp_set 1 (.heads (.slice (some ⟨gr, 0, none⟩) L.length c) (List.set (hdP X1 ++ (hdP F ++ hdP (R.drop d))) (a0 + d) (.slice A7 n7 c7, false))) (by kernel_rfl) (by simp) (by decide) hl hs (by show Ob.heads _ (List.set _ _ (lineV (vs 7), false)) = _; rw [q7]; rfl) (hS.storeHead (sg h1)) trivial) trivial
     exact SSteps.nil
    ·intro vs w' hS hv
     have q0 : vs 0 = _ := hv 0 (by decide)
     have q1 : vs 1 = _ := hv 1 (by decide)
     have q2 : vs 2 = _ := hv 2 (by decide)
     have q3 : vs 3 = _ := hv 3 (by decide)
     have q4 : vs 4 = _ := hv 4 (by decide)
     have q5 : vs 5 = _ := hv 5 (by decide)
     have q6 : vs 6 = _ := hv 6 (by decide)
     have q8 : vs 8 = _ := hv 8 (by decide)
     obtain ⟨A7, n7, c7, q7⟩ := (show ∃ A m c, vs 7 = .agg #[.slice A m c, .bool false] from hv 7 (by decide))
     rw [q7] at hS
     have S2 := Lib.hid hS
     simp only [putL, Act.put, Nat.zero_add, Nat.reduceAdd, List.setIfInBounds_toArray, List.set_cons_succ, List.set_cons_zero, q0, q1, q2, q3, q4, q5, q6, q8]
     clear hS hv q0 q1 q2 q3 q4 q5 q6 q8
     simp only [q7]
     have S9 := S2.out
     rw [show lineV (.agg #[.slice A7 n7 c7, .bool false]) = .slice A7 n7 c7 from rfl, hdP_fill (.slice A7 n7 c7) (List.replicate cols (blank q)) false HX1.out HF.out.1 hiR] at S9
     have S10 := Lib.hid (show Objs w0 w' (.heads (.slice (some ⟨gr, 0, none⟩) L.length c) (hdP X1 ++ (hdP (F ++ [(.slice A7 n7 c7, (List.replicate cols (blank q)), false)]) ++ hdP (R.drop (d + 1)))) :: .box b7 54 (pv q) :: .box p 58 #[.int .i64 ↑cols, .slice (some ⟨gr, 0, none⟩) L.length c] :: .heads (.slice Ag k cg) (hdP G) :: .pile (piP T ++ piP (F ++ [(.slice A7 n7 c7, (List.replicate cols (blank q)), false)])) :: .box b5 106 #[.int .i64 ↑top, .int .i64 ↑bot] :: os) from by have := Objs.pileIn S9; rw [List.append_assoc] at this; rw [piP_append]; exact this)
     clear S9 S2
     go_wp2_with fail
     go_roundw
     case rel => exact ⟨d + 1, F ++ [(.slice A7 n7 c7, (List.replicate cols (blank q)), false)], by omega, by go_num, ⟨by simp [HF.out.1], by rw [lnP_append, HF.out.2]; unfold rollFresh; rw [List.replicate_succ']; rfl⟩, S10.out⟩
     case measure => simp [intOf]; omega
end
end Go.Proofs.YtppijfjigcoifaaDoor

namespace Go.Proofs.YtppijfjigcoifaaDoor
open Go.RowKit

section
variable {w0 w : World} {os : List Ob} {p cols : Nat} {L : List Ln}
set_option maxRecDepth 100000 in
set_option maxHeartbeats 8000000 in
theorem Roll_neg {top bot k : Nat} {n : Int} (q : Pen) (hT : Tabs w0) (hS : Objs w0 w (.grid p 58 cols L :: os)) (hc : 0 < cols) (hcm : cols ≤ 1000) (hL : L.length ≤ 100000) (htb : top ≤ bot) (hbl : bot < L.length) (hq : q.ok = true) (hn : n < 0) (hk : (-((bot + 1 - top : Nat) : Int) < n ∧ n = -(k : Int)) ∨ ((n ≤ -((bot + 1 - top : Nat) : Int) ∧ -9223372036854775808 ≤ n) ∧ k = bot + 1 - top)) :
  Calls Tryd.prog 50 #[.pointer (some ⟨p, 0, none⟩), .agg #[.int .i64 top, .int .i64 bot], .int .i64 n, .agg (pv q)] w fun e w' => ∃ A m c, e = .returned (.tuple #[.slice A m c, .int .i64 0]) ∧ Objs w0 w' (.lines (.slice A m c) (rollGone top bot n L) :: .grid p 58 cols (rollL top bot n q cols L) :: os) := by
 have S := Lib.hid hS
 have HT := Lib.hid hT
 have HQ := Lib.hid hq
 have HK := Lib.hid hk
 obtain ⟨many, hmany⟩ : ∃ many, many = bot + 1 - top := ⟨_, rfl⟩
 have HMANY := Lib.hid hmany
 have hb0 := beq_no (show ¬ n = 0 by omega)
 have d1 : decide ((top : Int) < 0) = false := by simp
 have d2 : decide ((bot : Int) < top) = false := by simp; omega
 have d2n : decide (bot < top) = false := by simp; omega
 have d3 : decide ((L.length : Int) ≤ bot) = false := by simp; omega
 have d3n : decide (L.length ≤ bot) = false := by simp; omega
 clear hS hT hq hk hmany
 go_enter Tryd.func50, Tryd.ntmps50
 go_wp2_with fail
 refine (none_no S.out.alloc2 (k := 2) rfl hc).mono ?_
 rintro e w1 ⟨rfl, hS⟩
 generalize w.heap.size + 1 = b7 at hS ⊢
 generalize w.heap.size = b5 at hS ⊢
 obtain ⟨v, hS1⟩ := hS.openGrid (k := 2) rfl
 obtain ⟨T, hTL, hone, hS2⟩ := hS1.toHeads (k := 0) rfl
 obtain ⟨A, c, rfl, hlc, hcmx, -, hgr⟩ := hS2.headsForm (k := 1) rfl
 have hTl : (hdP T).length = L.length := by rw [hdP_length, ← hTL, lnP_length]
 rw [hTl] at hS2 hlc hgr
 obtain ⟨gr, rfl, hgz, -, -⟩ := hgr (by omega)
 have S2 := Lib.hid hS2
 obtain ⟨hx5, hf5, hz5⟩ := (hS2.box (k := 3) rfl).facts
 obtain ⟨hxp, hfp, hzp⟩ := (hS2.box (k := 4) rfl).facts
 have HTL := Lib.hid hTL
 have HTl := Lib.hid hTl
 have HONE := Lib.hid hone
 clear hS hS1 hS2 S hTL hTl hone hgr hgz
 go_wp2_with fail
 refine wp_region_below (by kernel_rfl) (by kernel_rfl) ?_
 repeat (go_big_quiet_step (fail))
 refine wpQuiet_nil ?_
 intro w2 hb2
 have S3 := Lib.hid (S2.out.bel hb2)
 clear hx5 hf5 hz5 hxp hfp hzp S2 hb2
 have hp7 := (S3.out.box (k := 2) rfl).penAt
 have hz7 := (S3.out.box (k := 2) rfl).lt
 go_wp2_with fail
 refine (inked_is HQ.out HT.out S3.out).mono ?_
 rintro e w3 ⟨rfl, hS⟩
 have S4 := Lib.hid hS
 obtain ⟨hx5, hf5, hz5⟩ := (hS.box (k := 3) rfl).facts
 obtain ⟨hxp, hfp, hzp⟩ := (hS.box (k := 4) rfl).facts
 clear hS S3 hp7 hz7
 go_wp2_with fail
 refine wp_region_below (by kernel_rfl) (by kernel_rfl) ?_
 repeat (go_big_quiet_step (fail))
 refine wpQuiet_nil ?_
 intro w4 hb4
 have S5 := Lib.hid (show Objs w0 w4 (.pile (piP T) :: .heads (.slice (some ⟨gr, 0, none⟩) L.length c) (hdP T) :: .box b7 54 (pv q) :: .box b5 106 #[.int .i64 top, .int .i64 bot] :: .box p 58 #[.int .i64 cols, .slice (some ⟨gr, 0, none⟩) L.length c] :: os) from S4.out.bel hb4)
 clear hx5 hf5 hz5 hxp hfp hzp S4 hb4
 rw [← HMANY.out]
 have hmb : many ≤ 100000 := by have := HMANY.out; omega
 have hm1 : 0 < many := by have := HMANY.out; omega
 have htm : top + many ≤ L.length := by have := HMANY.out; omega
 have hkm : k ≤ many := by have := HK.out; have := HMANY.out; omega
 have hk0 : 0 < k := by have := HK.out; have := HMANY.out; omega
 have hctop : many ≤ c - top := by omega
 have HK2 := HK.out
 rw [← HMANY.out] at HK2
 have HKK := Lib.hid (rollK_is (n := n) (k := k) HMANY.out (by rcases HK2 with ⟨a1, a2⟩ | ⟨⟨a1, a3⟩, a2⟩ <;> omega))
 have HPERM := Lib.hid (perm_neg (T := T) (top := top) hkm)
 have HGONE := Lib.hid (gone_neg HTL.out hn HMANY.out HKK.out hkm)
 have HLEFT := Lib.hid (fun (F : List Tr) (hF : lnP F = rollFresh k cols q) => left_neg HTL.out hn HMANY.out htb HKK.out hkm hF)
 have hTn : T.length = L.length := by have := HTl.out; rwa [hdP_length] at this
 obtain ⟨G, hG⟩ : ∃ G, G = (T.drop (top + (many - k))).take k := ⟨_, rfl⟩
 obtain ⟨X1, hX1⟩ : ∃ X1, X1 = T.take top := ⟨_, rfl⟩
 obtain ⟨Sx, hSx⟩ : ∃ Sx, Sx = (T.drop top).take (many - k) := ⟨_, rfl⟩
 obtain ⟨T3, hT3⟩ : ∃ T3, T3 = T.drop (top + many) := ⟨_, rfl⟩
 obtain ⟨R, hR⟩ : ∃ R, R = (T.drop top).take k ++ (hardR Sx ++ T3) := ⟨_, rfl⟩
 obtain ⟨T1, hT1⟩ : ∃ T1, T1 = T.take (top + k) := ⟨_, rfl⟩
 obtain ⟨a0, ha0⟩ : ∃ a0, a0 = top := ⟨_, rfl⟩
 have hT1l : T1.length = top + k := by rw [hT1]; simp; omega
 have hSxl : Sx.length = many - k := by rw [hSx]; simp; omega
 have hRl0 : ((T.drop top).take k).length = k := by simp; omega
 have hRll : R.length = L.length - a0 := by rw [hR, ha0]; simp only [List.length_append, hRl0, hardR_length, hSxl, hT3, List.length_drop]; omega
 have hRd : R.drop k = hardR Sx ++ T3 := by rw [hR]; exact List.drop_left' hRl0
 have hXR : hdP X1 ++ hdP R = hdP T1 ++ (hdP (hardR Sx) ++ hdP T3) := by
  rw [hR, hX1, hT1, List.take_add, hdP_append, hdP_append, hdP_append, List.append_assoc]
 have HX1 := Lib.hid (show X1.length = a0 by rw [hX1, ha0]; simp; omega)
 have HRL := Lib.hid hRll
 have hRk : k ≤ R.length := by omega
 rw [← hX1, ← hSx, ← hT3, ← hG, ← hRd] at HPERM
 rw [← hX1, ← hSx, ← hT3, ← hRd] at HLEFT
 rw [← hG] at HGONE
 have HG := Lib.hid hG.symm
 have HCP := Lib.hid (hdP_copied T (top + k) top (many - k))
 rw [show top + k + (many - k) = top + many by omega, ← hT1, ← hSx, ← hT3] at HCP
 have HXR := Lib.hid hXR
 have HA0 := Lib.hid ha0
 have HSXL := Lib.hid hSxl
 have HT1L := Lib.hid hT1l
 have HPB := Lib.hid (show many = k → (hdP T).take top ++ (((hdP T).drop top).take 0 ++ (hdP T).drop (top + 0)) = hdP X1 ++ hdP R from fun e => by
  have hS0 : Sx = [] := List.eq_nil_of_length_eq_zero (by omega)
  rw [hR, hX1, hS0, hdP_append, hdP_take, hdP_drop, hT3, e]
  show hdP (T.take top) ++ ([] ++ (hdP T).drop (top + 0)) = hdP (T.take top) ++ (hdP ((T.drop top).take k) ++ hdP ([] ++ T.drop (top + k)))
  rw [List.nil_append, List.nil_append, ← hdP_append, show T.drop (top + k) = (T.drop top).drop k by rw [List.drop_drop], List.take_append_drop, Nat.add_zero, hdP_drop])
 clear hG hX1 hSx hT3 hR hT1 hTn hT1l hSxl hRll hRd hXR hRl0
 rcases HK2 with ⟨h1, h2⟩ | ⟨⟨h1, h3⟩, h2⟩
 ·subst h2
  have hmax : max (-(k : Int)) (k : Int) = (k : Int) := by omega
  have hnm : (-(k : Int)) < (many : Int) := by omega
  have hngt : ¬ (0 : Int) < -(k : Int) := by omega
  have hkl : k < many := by omega
  have HMK := Lib.hid (show many - (many - k) = k from Nat.sub_sub_self hkm)
  have HOF := Lib.hid (show top * 2 + (many - k) * 2 = (top + (many - k)) * 2 by rw [Nat.add_mul])
  clear ha0
  go_wp2_with fail
  simp only [HMK.out, HOF.out]
  refine (clone_front S5.out.swap HONE.out (a := top + (many - k)) (m := k) (by rw [HTl.out]; omega) (by omega) (by rw [HTl.out]; omega)).mono ?_
  rintro e w5 ⟨Ag, cg, rfl, hS⟩
  obtain ⟨w6, hr6, hS6⟩ := run_copyH hS (k := 1) rfl HONE.out (top + k) top (many - k) (some ⟨gr, top * 2 + k * 2, none⟩) (some ⟨gr, top * 2, none⟩) (many - k) (c - top - k) many (c - top) (Nat.min_eq_right (by omega)) (by rw [HTl.out]; omega) (by rw [HTl.out]; omega) (fun _ => ⟨by rw [Nat.add_mul], rfl⟩) 3
  have HR6 := Lib.hid hr6
  rw [show top + k + (many - k) = top + many by omega, HCP.out, hdP_drop, hdP_take, HG.out] at hS6
  have hS6' := (show Objs w0 w6 (.heads (.slice Ag k cg) (hdP G) :: .heads (.slice (some ⟨gr, 0, none⟩) L.length c) (hdP T1 ++ (hdP Sx ++ hdP T3)) :: .pile (piP T) :: .box b7 54 (pv q) :: .box b5 106 #[.int .i64 top, .int .i64 bot] :: .box p 58 #[.int .i64 cols, .slice (some ⟨gr, 0, none⟩) L.length c] :: os) from hS6)
  have hSl := HSXL.out
  have hTl2 := HT1L.out
  obtain ⟨xs, hxs⟩ := get_of (show Sx.length - 1 < Sx.length by omega)
  have hid : top + (many - 1) = T1.length + (Sx.length - 1) := by omega
  have hxh : (hdP T1 ++ (hdP Sx ++ hdP T3))[top + (many - 1)]? = some (xs.1, xs.2.2) := by
   rw [hid, List.getElem?_append_right (by rw [hdP_length]; omega), hdP_length, Nat.add_sub_cancel_left, List.getElem?_append_left (by rw [hdP_length]; omega)]
   simp [hdP, hxs]
  have hS7 := hS6'.softHead (k := 1) (s := false) rfl hxh
  rw [hid, hdP_harden hxs, ← HXR.out, ← hid] at hS7
  obtain ⟨A8, c8, e8, -, -, -, hg8⟩ := hS6'.headsForm (k := 1) rfl
  simp only [Value.slice.injEq] at e8
  obtain ⟨rfl, -, rfl⟩ := e8
  obtain ⟨g8, e9, hz8, hcs8, hf8⟩ := hg8 (by simp only [List.length_append, hdP_length]; omega)
  cases e9
  have hx8 := (hcs8 _ _ hxh).2
  have hadr : (top + (many - 1)) * 2 + 1 = top * 2 + (many - 1) * 2 + 1 := by omega
  rw [hadr] at hx8 hS7
  have S7 := Lib.hid (ord7 hS7)
  have HAO := HA0.out
  clear hS hr6 hS6 hS6' S5 hS7 hxh hid hcs8 hg8 hadr hSl hTl2 hxs
  go_wp2_with (refine wpList_copyK rfl _ _ 30 30 rfl rfl rfl HR6.out ?_)
  clear hx8 hf8 hz8 hmax hnm hngt
  go_loopw [14, 127] (fun _ vi wr => ∃ (d : Nat) (F : List Tr), d ≤ k ∧ vi = .int .i64 d ∧ (F.length = d ∧ lnP F = rollFresh d cols q) ∧ Objs w0 wr (.heads (.slice (some ⟨gr, 0, none⟩) L.length c) (hdP X1 ++ (hdP F ++ hdP (R.drop d))) :: .box b7 54 (pv q) :: .box p 58 #[.int .i64 ↑cols, .slice (some ⟨gr, 0, none⟩) L.length c] :: .heads (.slice Ag k cg) (hdP G) :: .pile (piP T ++ piP F) :: .box b5 106 #[.int .i64 ↑top, .int .i64 ↑bot] :: os)) (fun _ vi _ => k - (intOf vi).toNat)
  case atStart => exact ⟨0, [], by omega, rfl, ⟨rfl, rfl⟩, by simpa [hdP, piP] using S7.out⟩
  case round =>
   obtain ⟨d, F, hik, rfl, hFF, hS⟩ := hrel
   have HF := Lib.hid hFF
   have S8 := Lib.hid hS
   clear hFF hS S7
   by_cases hlt : d < k
   case neg =>
    have hie : d = k := by omega
    have hX := S8.out
    have hFk := HF.out.2
    rw [hie] at hX hFk
    have hX2 := hX.dealIn HPERM.out
    have HLF := Lib.hid (HLEFT.out F hFk)
    obtain ⟨L1, hL1⟩ : ∃ L1, L1 = lnP X1 ++ (lnP F ++ lnP (R.drop k)) := ⟨_, rfl⟩
    rw [← hL1] at hX2 HLF
    have hL1l : L1.length = L.length := by rw [hL1]; simp only [List.length_append, lnP_length, List.length_drop]; have := HX1.out; have := HF.out.1; have := HRL.out; omega
    have SX := Lib.hid hX2
    obtain ⟨hx5, hf5, hz5⟩ := (hX2.box (k := 4) rfl).facts
    clear hie hX hX2 hFk hL1 S8
    by_cases ht0 : top = 0
    ·have HT0 := Lib.hid (show topHard top L1 = L1 by unfold topHard; rw [if_neg (by omega)])
     have htg : ¬ (0 : Int) < (top : Int) := by omega
     have SF := Lib.hid (fin_roll SX.out)
     clear ht0
     go_wp2_with fail
     go_ret2
     exact ⟨Ag, k, cg, rfl, by rw [← HGONE.out, ← HLF.out, HT0.out]; exact SF.out⟩
    ·have htg : (0 : Int) < (top : Int) := by omega
     obtain ⟨l9, hlt1⟩ := get_of (show top - 1 < L1.length by omega)
     have HT0 := Lib.hid (show L1.set (top - 1) (l9.1, false) = topHard top L1 by unfold topHard; rw [if_pos (by omega), softMod_some hlt1])
     have HWT := Lib.hid (show IntKind.i64.wrap ((top : Int) - 1) = (top : Int) - 1 from IntWalk.i64_in _ (by omega))
     have htz : (0 : Int) ≤ (top : Int) - 1 := by omega
     have htz2 : (top : Int) - 1 < (L.length : Int) := by omega
     have htz3 : ¬ (top : Int) < 1 := by omega
     have htn : ((top : Int) - 1).toNat = top - 1 := by omega
     have SY := Lib.hid (ord_roll SX.out)
     go_upto_region 31 with (fail)
     refine wp_region_stage (w0 := w0) (os := (.lines (.slice Ag k cg) (lnP G) :: .box b7 54 (pv q) :: os)) (by kernel_rfl) (by kernel_rfl) (by kernel_rfl) [(0, 9, [], fun vs => .lines (.slice (some ⟨gr, 0, none⟩) L.length c) (L1.set (top - 1) (l9.1, false)))] [[], [], [], [1], [], [2], [], [], [], [0]] [.lines (.slice (some ⟨gr, 0, none⟩) L.length c) L1, .box p 58 #[.int .i64 ↑cols, .slice (some ⟨gr, 0, none⟩) L.length c], .box b5 106 #[.int .i64 ↑top, .int .i64 ↑bot]] (fun i u => match i with | 0 => u = pt p 0 | 1 => u = pt p 0 | 2 => u = pt p 1 | 3 => u = .slice (some ⟨gr, 0, none⟩) L.length c | 4 => u = pt b5 0 | 5 => u = .int .i64 ↑top | 6 => u = .int .i64 (↑top - 1) | 7 => u = pt gr ((top - 1) * 2) | 8 => u = pt gr ((top - 1) * 2 + 1) | 9 => True | _ => True) (fun vs => [.lines (.slice (some ⟨gr, 0, none⟩) L.length c) (L1.set (top - 1) (l9.1, false)), .box p 58 #[.int .i64 ↑cols, .slice (some ⟨gr, 0, none⟩) L.length c], .box b5 106 #[.int .i64 ↑top, .int .i64 ↑bot]]) (by kernel_rfl) (fun vs => by rfl) SY.out ?_ ?_
     ·apply sc
      ·intro a w' vs σ hS hl hs hk
       have f0 : a.tmps[0]?.getD undef = .pointer (some ⟨p, 0, none⟩) := sof hk
       exact rp (pt p 0) (by simp [execOp, Act.eval, f0, go_sem]) hl hs hS
      apply sc
      ·intro a w' vs σ hS hl hs hk
       have f143 : a.tmps[143]?.getD undef = .pointer (some ⟨p, 0, none⟩) := sf hk 0
       exact rp (pt p 0) (by simp [execOp, Act.eval, f143, go_sem]) hl hs hS
      apply sc
      ·intro a w' vs σ hS hl hs hk
       have f144 : a.tmps[144]?.getD undef = .pointer (some ⟨p, 0, none⟩) := sf hk 1
       exact rp (pt p 1) (by simp [execOp, Act.eval, f144, go_sem]) hl hs hS
      apply sc
      ·intro a w' vs σ hS hl hs hk
       have f145 : a.tmps[145]?.getD undef = .pointer (some ⟨p, 1, none⟩) := sf hk 2
       have hx := (hS.box (sg (hs 1 (by decide)))).cell
       exact rp (.slice (some ⟨gr, 0, none⟩) L.length c) (by simp [execOp, Act.eval, f145, go_sem, hx]) hl hs hS
      apply sc
      ·intro a w' vs σ hS hl hs hk
       have f5 : a.tmps[5]?.getD undef = .pointer (some ⟨b5, 0, none⟩) := sof hk
       exact rp (pt b5 0) (by simp [execOp, Act.eval, f5, go_sem]) hl hs hS
      apply sc
      ·intro a w' vs σ hS hl hs hk
       have f147 : a.tmps[147]?.getD undef = .pointer (some ⟨b5, 0, none⟩) := sf hk 4
       have hx := (hS.box (sg (hs 2 (by decide)))).cell
       exact rp (.int .i64 ↑top) (by simp [execOp, Act.eval, f147, go_sem, hx]) hl hs hS
      apply sc
      ·intro a w' vs σ hS hl hs hk
       have f148 : a.tmps[148]?.getD undef = .int .i64 ↑top := sf hk 5
       exact rp (.int .i64 (↑top - 1)) (by simp [execOp, Act.eval, f148, go_sem, HWT.out]) hl hs hS
      apply sc
      ·intro a w' vs σ hS hl hs hk
       have f146 : a.tmps[146]?.getD undef = .slice (some ⟨gr, 0, none⟩) L.length c := sf hk 3
       have f149 : a.tmps[149]?.getD undef = .int .i64 (↑top - 1) := sf hk 6
       exact rp (pt gr ((top - 1) * 2)) (by simp [execOp, Act.eval, f146, f149, go_sem, htz, htz2, htn, htz3]) hl hs hS
      apply sc
      ·intro a w' vs σ hS hl hs hk
       have f150 : a.tmps[150]?.getD undef = .pointer (some ⟨gr, (top - 1) * 2, none⟩) := sf hk 7
       exact rp (pt gr ((top - 1) * 2 + 1)) (by simp [execOp, Act.eval, f150, go_sem]) hl hs hS
      apply sc
      ·intro a w' vs σ hS hl hs hk
       have f151 : a.tmps[151]?.getD undef = .pointer (some ⟨gr, (top - 1) * 2 + 1, none⟩) := sf hk 8
       have h1 : σ[0]? = some (.lines (.slice (some ⟨gr, 0, none⟩) L.length c) L1) := hs 0 (by decide)
       obtain ⟨F9, bs9, hF9, -⟩ := hS.get (sg h1)
       obtain ⟨A9, c9, e9, -, -, -, hg9⟩ := hF9.form
       simp only [Value.slice.injEq] at e9
       obtain ⟨rfl, -, rfl⟩ := e9
       obtain ⟨g9, e9', hz, -, hso, hf⟩ := hg9 (by omega)
       cases e9'
       have hx := hso _ _ hlt1
       exact rstep_store (w2 := w'.setCell ⟨gr, (top - 1) * 2 + 1, none⟩ (.bool false)) (wanted_none rfl) rfl (by simp [execOp, Act.eval, f151, hx, hf, hz, go_sem]) (sp_set 0 (.lines (.slice (some ⟨gr, 0, none⟩) L.length c) (L1.set (top - 1) (l9.1, false))) (by kernel_rfl) (by simp) (by decide) hl hs (by rfl) (hS.storeSoft (sg h1) hlt1) trivial) trivial
      exact SSteps.nil
     ·intro vs w' hS hv
      have q0 : vs 0 = _ := hv 0 (by decide)
      have q1 : vs 1 = _ := hv 1 (by decide)
      have q2 : vs 2 = _ := hv 2 (by decide)
      have q3 : vs 3 = _ := hv 3 (by decide)
      have q4 : vs 4 = _ := hv 4 (by decide)
      have q5 : vs 5 = _ := hv 5 (by decide)
      have q6 : vs 6 = _ := hv 6 (by decide)
      have q7 : vs 7 = _ := hv 7 (by decide)
      have q8 : vs 8 = _ := hv 8 (by decide)
      have S2 := Lib.hid hS
      simp only [putL, Act.put, Nat.zero_add, Nat.reduceAdd, List.setIfInBounds_toArray, List.set_cons_succ, List.set_cons_zero, q0, q1, q2, q3, q4, q5, q6, q7, q8]
      clear hS hv q0 q1 q2 q3 q4 q5 q6 q7 q8
      have S9 := S2.out
      rw [HT0.out] at S9
      have SF := Lib.hid (fin_roll2 S9)
      clear S9 S2
      go_wp2_with fail
      go_ret2
      exact ⟨Ag, k, cg, rfl, by rw [← HGONE.out, ← HLF.out]; exact SF.out⟩
   have hiR : d < R.length := by omega
   have hiz : (0 : Int) ≤ (d : Int) := by omega
   have hiz2 : (d : Int) < (k : Int) := by omega
   have hoff : top * 2 + d * 2 = (a0 + d) * 2 := by omega
   have HHL := Lib.hid (show (hdP X1 ++ (hdP F ++ hdP (R.drop d))).length = a0 + (d + (R.length - d)) by simp only [List.length_append, hdP_length, List.length_drop, HX1.out, HF.out.1])
   have SZ := Lib.hid S8.out.pad
   clear S8
   go_upto_region 28 with (fail)
   refine wp_region_stage (w0 := w0) (os := (.heads (.slice Ag k cg) (hdP G) :: .pile (piP T ++ piP F) :: .box b5 106 #[.int .i64 ↑top, .int .i64 ↑bot] :: os)) (by kernel_rfl) (by kernel_rfl) (by kernel_rfl) [(0, 7, [7], fun vs => .cells (lineV (vs 7)) (List.replicate cols (blank q))), (1, 9, [7], fun vs => .heads (.slice (some ⟨gr, 0, none⟩) L.length c) (List.set (hdP X1 ++ (hdP F ++ hdP (R.drop d))) (a0 + d) (lineV (vs 7), false)))] [[], [], [], [], [], [3], [2], [0], [], [1]] [.none, .heads (.slice (some ⟨gr, 0, none⟩) L.length c) (hdP X1 ++ (hdP F ++ hdP (R.drop d))), .box b7 54 (pv q), .box p 58 #[.int .i64 ↑cols, .slice (some ⟨gr, 0, none⟩) L.length c]] (fun i u => match i with | 0 => u = .slice (some ⟨gr, top * 2, none⟩) k (c - top) | 1 => u = .int .i64 ↑d | 2 => u = pt p 0 | 3 => u = pt p 0 | 4 => u = pt p 0 | 5 => u = .int .i64 ↑cols | 6 => u = .agg (pv q) | 7 => ∃ A m c, u = .agg #[.slice A m c, .bool false] | 8 => u = pt gr ((a0 + d) * 2) | 9 => True | _ => True) (fun vs => [.cells (lineV (vs 7)) (List.replicate cols (blank q)), .heads (.slice (some ⟨gr, 0, none⟩) L.length c) (List.set (hdP X1 ++ (hdP F ++ hdP (R.drop d))) (a0 + d) (lineV (vs 7), false)), .box b7 54 (pv q), .box p 58 #[.int .i64 ↑cols, .slice (some ⟨gr, 0, none⟩) L.length c]]) (by kernel_rfl) (fun vs => by rfl) SZ.out ?_ ?_
   ·apply sc
    ·intro a w' vs σ hS hl hs hk
     have f13 : a.tmps[13]?.getD undef = .slice (some ⟨gr, top * 2, none⟩) k (c - top) := sof hk
     exact rp (.slice (some ⟨gr, top * 2, none⟩) k (c - top)) (by simp [execOp, Act.eval, f13, go_sem]) hl hs hS
    apply sc
    ·intro a w' vs σ hS hl hs hk
     have f14 : a.tmps[14]?.getD undef = .int .i64 ↑d := sof hk
     exact rp (.int .i64 ↑d) (by simp [execOp, Act.eval, f14, go_sem]) hl hs hS
    apply sc
    ·intro a w' vs σ hS hl hs hk
     have f0 : a.tmps[0]?.getD undef = .pointer (some ⟨p, 0, none⟩) := sof hk
     exact rp (pt p 0) (by simp [execOp, Act.eval, f0, go_sem]) hl hs hS
    apply sc
    ·intro a w' vs σ hS hl hs hk
     have f132 : a.tmps[132]?.getD undef = .pointer (some ⟨p, 0, none⟩) := sf hk 2
     exact rp (pt p 0) (by simp [execOp, Act.eval, f132, go_sem]) hl hs hS
    apply sc
    ·intro a w' vs σ hS hl hs hk
     have f133 : a.tmps[133]?.getD undef = .pointer (some ⟨p, 0, none⟩) := sf hk 3
     exact rp (pt p 0) (by simp [execOp, Act.eval, f133, go_sem]) hl hs hS
    apply sc
    ·intro a w' vs σ hS hl hs hk
     have f134 : a.tmps[134]?.getD undef = .pointer (some ⟨p, 0, none⟩) := sf hk 4
     have hx := (hS.box (sg (hs 3 (by decide)))).cell
     exact rp (.int .i64 ↑cols) (by simp [execOp, Act.eval, f134, go_sem, hx]) hl hs hS
    apply sc
    ·intro a w' vs σ hS hl hs hk
     have f7 : a.tmps[7]?.getD undef = .pointer (some ⟨b7, 0, none⟩) := sof hk
     have hx := (hS.box (sg (hs 2 (by decide)))).penAt
     exact rp (.agg (pv q)) (by simp [execOp, Act.eval, f7, go_sem, hx]) hl hs hS
    apply sc
    ·intro a w' vs σ hS hl hs hk
     have e135 : a.tmps.getD 135 undef = .int .i64 ↑cols := sv hk 5
     have e136 : a.tmps.getD 136 undef = .agg (pv q) := sv hk 6
     have h0 : σ[0]? = some .none := hs 0 (by decide)
     exact ro_call (f := 54) (wanted_none rfl) rfl (by simp only [List.map_toArray, List.map_cons, List.map_nil, Act.eval, e135, e136] <;> rfl) (fun _ _ => by kernel_rfl) ((gridblanks_any cols hcm q _ _ _ hS).mono fun e w2 ⟨x, h1, h2⟩ => ⟨_, h1, sp_set 0 (.cells x (List.replicate cols (blank q))) (by kernel_rfl) (by simp) (by decide) hl hs (by rfl) (h2.place (sg h0)) (by obtain ⟨A', c', e, -⟩ := h2.cellsRd (k := 0) rfl; exact ⟨A', _, c', by rw [e]⟩), trivial⟩)
    apply sc
    ·intro a w' vs σ hS hl hs hk
     have f130 : a.tmps[130]?.getD undef = .slice (some ⟨gr, top * 2, none⟩) k (c - top) := sf hk 0
     have f131 : a.tmps[131]?.getD undef = .int .i64 ↑d := sf hk 1
     exact rp (pt gr ((a0 + d) * 2)) (by simp [execOp, Act.eval, f130, f131, go_sem, hiz, hiz2, hoff]) hl hs hS
    apply sc
    ·intro a w' vs σ hS hl hs hk
     have f138 : a.tmps[138]?.getD undef = .pointer (some ⟨gr, (a0 + d) * 2, none⟩) := sf hk 8
     have e137 : a.tmps.getD 137 undef = vs 7 := sk_val hk 7 (by kernel_rfl) rfl rfl
     have p137 : (fun u : Value => ∃ A m c, u = .agg #[.slice A m c, .bool false]) (vs 7) := (hk.1 7 (by kernel_rfl)).1
     have f137 := gd e137
     obtain ⟨A7, n7, c7, q7⟩ := p137
     have h1 : σ[1]? = some (.heads (.slice (some ⟨gr, 0, none⟩) L.length c) (hdP X1 ++ (hdP F ++ hdP (R.drop d)))) := hs 1 (by decide)
     obtain ⟨A8, c8, e8, -, -, -, hg8⟩ := hS.headsForm (sg h1)
     simp only [Value.slice.injEq] at e8
     obtain ⟨rfl, -, rfl⟩ := e8
     have hHl := HHL.out
     obtain ⟨g8, e9, hz, hcs, hf⟩ := hg8 (by omega)
     cases e9
     obtain ⟨x8, hx8⟩ := get_of (show a0 + d < (hdP X1 ++ (hdP F ++ hdP (R.drop d))).length by omega)
     obtain ⟨hx, hx'⟩ := hcs (a0 + d) x8 hx8
     exact rstep_store (w2 := (w'.setCell ⟨gr, (a0 + d) * 2, none⟩ (.slice A7 n7 c7)).setCell ⟨gr, (a0 + d) * 2 + 1, none⟩ (.bool false)) (wanted_none rfl) rfl (by simp [execOp, Act.eval, f138, e137, f137, q7, hx, hx', hf, hz, go_sem]) (sp_set 1 (.heads (.slice (some ⟨gr, 0, none⟩) L.length c) (List.set (hdP X1 ++ (hdP F ++ hdP (R.drop d))) (a0 + d) (.slice A7 n7 c7, false))) (by kernel_rfl) (by simp) (by decide) hl hs (by show Ob.heads _ (List.set _ _ (lineV (vs 7), false)) = _; rw [q7]; rfl) (hS.storeHead (sg h1)) trivial) trivial
    exact SSteps.nil
   ·intro vs w' hS hv
    have q0 : vs 0 = _ := hv 0 (by decide)
    have q1 : vs 1 = _ := hv 1 (by decide)
    have q2 : vs 2 = _ := hv 2 (by decide)
    have q3 : vs 3 = _ := hv 3 (by decide)
    have q4 : vs 4 = _ := hv 4 (by decide)
    have q5 : vs 5 = _ := hv 5 (by decide)
    have q6 : vs 6 = _ := hv 6 (by decide)
    have q8 : vs 8 = _ := hv 8 (by decide)
    obtain ⟨A7, n7, c7, q7⟩ := (show ∃ A m c, vs 7 = .agg #[.slice A m c, .bool false] from hv 7 (by decide))
    rw [q7] at hS
    have S2 := Lib.hid hS
    simp only [putL, Act.put, Nat.zero_add, Nat.reduceAdd, List.setIfInBounds_toArray, List.set_cons_succ, List.set_cons_zero, q0, q1, q2, q3, q4, q5, q6, q8]
    clear hS hv q0 q1 q2 q3 q4 q5 q6 q8
    simp only [q7]
    have S9 := S2.out
    rw [show lineV (.agg #[.slice A7 n7 c7, .bool false]) = .slice A7 n7 c7 from rfl, hdP_fill (.slice A7 n7 c7) (List.replicate cols (blank q)) false HX1.out HF.out.1 hiR] at S9
    have S10 := Lib.hid (show Objs w0 w' (.heads (.slice (some ⟨gr, 0, none⟩) L.length c) (hdP X1 ++ (hdP (F ++ [(.slice A7 n7 c7, (List.replicate cols (blank q)), false)]) ++ hdP (R.drop (d + 1)))) :: .box b7 54 (pv q) :: .box p 58 #[.int .i64 ↑cols, .slice (some ⟨gr, 0, none⟩) L.length c] :: .heads (.slice Ag k cg) (hdP G) :: .pile (piP T ++ piP (F ++ [(.slice A7 n7 c7, (List.replicate cols (blank q)), false)])) :: .box b5 106 #[.int .i64 ↑top, .int .i64 ↑bot] :: os) from by have := Objs.pileIn S9; rw [List.append_assoc] at this; rw [piP_append]; exact this)
    clear S9 S2
    go_wp2_with fail
    go_roundw
    case rel => exact ⟨d + 1, F ++ [(.slice A7 n7 c7, (List.replicate cols (blank q)), false)], by omega, by go_num, ⟨by simp [HF.out.1], by rw [lnP_append, HF.out.2]; unfold rollFresh; rw [List.replicate_succ']; rfl⟩, S10.out⟩
    case measure => simp [intOf]; omega
 ·have hnl : ¬ -(many : Int) < n := by omega
  have hngt : ¬ (0 : Int) < n := by omega
  subst h2
  have HPB2 := Lib.hid (HPB.out rfl)
  have HG2 := HG.out
  rw [Nat.sub_self, Nat.add_zero] at HG2
  have HG := Lib.hid HG2
  clear HPB ha0 HG2
  by_cases hcap : c - top = k
  ·go_wp2_with fail
   refine (clone_front S5.out.swap HONE.out (a := top) (m := k) (by rw [HTl.out]; omega) (by omega) (by rw [HTl.out]; omega)).mono ?_
   rintro e w5 ⟨Ag, cg, rfl, hS⟩
   obtain ⟨w6, hr6, hS6⟩ := run_copyH hS (k := 1) rfl HONE.out top top 0 (some ⟨gr, top * 2, none⟩) (some ⟨gr, top * 2, none⟩) 0 (0) k (k) (Nat.min_zero _) (by rw [HTl.out]; omega) (by rw [HTl.out]; omega) (fun h => absurd h (by omega)) 3
   have HR6 := Lib.hid hr6
   rw [hdP_drop T top, hdP_take, HG.out, ← hdP_drop T top, HPB2.out] at hS6
   have S7 := Lib.hid (ord7 (show Objs w0 w6 (.heads (.slice Ag k cg) (hdP G) :: .heads (.slice (some ⟨gr, 0, none⟩) L.length c) (hdP X1 ++ hdP R) :: .pile (piP T) :: .box b7 54 (pv q) :: .box b5 106 #[.int .i64 top, .int .i64 bot] :: .box p 58 #[.int .i64 cols, .slice (some ⟨gr, 0, none⟩) L.length c] :: os) from hS6))
   have HAO := HA0.out
   clear hS hr6 hS6 S5
   go_wp2_with (refine wpList_copyK rfl _ _ 30 30 rfl rfl rfl HR6.out ?_)
   go_loopw [14, 127] (fun _ vi wr => ∃ (d : Nat) (F : List Tr), d ≤ k ∧ vi = .int .i64 d ∧ (F.length = d ∧ lnP F = rollFresh d cols q) ∧ Objs w0 wr (.heads (.slice (some ⟨gr, 0, none⟩) L.length c) (hdP X1 ++ (hdP F ++ hdP (R.drop d))) :: .box b7 54 (pv q) :: .box p 58 #[.int .i64 ↑cols, .slice (some ⟨gr, 0, none⟩) L.length c] :: .heads (.slice Ag k cg) (hdP G) :: .pile (piP T ++ piP F) :: .box b5 106 #[.int .i64 ↑top, .int .i64 ↑bot] :: os)) (fun _ vi _ => k - (intOf vi).toNat)
   case atStart => exact ⟨0, [], by omega, rfl, ⟨rfl, rfl⟩, by simpa [hdP, piP] using S7.out⟩
   case round =>
    obtain ⟨d, F, hik, rfl, hFF, hS⟩ := hrel
    have HF := Lib.hid hFF
    have S8 := Lib.hid hS
    clear hFF hS S7
    by_cases hlt : d < k
    case neg =>
     have hie : d = k := by omega
     have hX := S8.out
     have hFk := HF.out.2
     rw [hie] at hX hFk
     have hX2 := hX.dealIn HPERM.out
     have HLF := Lib.hid (HLEFT.out F hFk)
     obtain ⟨L1, hL1⟩ : ∃ L1, L1 = lnP X1 ++ (lnP F ++ lnP (R.drop k)) := ⟨_, rfl⟩
     rw [← hL1] at hX2 HLF
     have hL1l : L1.length = L.length := by rw [hL1]; simp only [List.length_append, lnP_length, List.length_drop]; have := HX1.out; have := HF.out.1; have := HRL.out; omega
     have SX := Lib.hid hX2
     obtain ⟨hx5, hf5, hz5⟩ := (hX2.box (k := 4) rfl).facts
     clear hie hX hX2 hFk hL1 S8
     by_cases ht0 : top = 0
     ·have HT0 := Lib.hid (show topHard top L1 = L1 by unfold topHard; rw [if_neg (by omega)])
      have htg : ¬ (0 : Int) < (top : Int) := by omega
      have SF := Lib.hid (fin_roll SX.out)
      clear ht0
      go_wp2_with fail
      go_ret2
      exact ⟨Ag, k, cg, rfl, by rw [← HGONE.out, ← HLF.out, HT0.out]; exact SF.out⟩
     ·have htg : (0 : Int) < (top : Int) := by omega
      obtain ⟨l9, hlt1⟩ := get_of (show top - 1 < L1.length by omega)
      have HT0 := Lib.hid (show L1.set (top - 1) (l9.1, false) = topHard top L1 by unfold topHard; rw [if_pos (by omega), softMod_some hlt1])
      have HWT := Lib.hid (show IntKind.i64.wrap ((top : Int) - 1) = (top : Int) - 1 from IntWalk.i64_in _ (by omega))
      have htz : (0 : Int) ≤ (top : Int) - 1 := by omega
      have htz2 : (top : Int) - 1 < (L.length : Int) := by omega
      have htz3 : ¬ (top : Int) < 1 := by omega
      have htn : ((top : Int) - 1).toNat = top - 1 := by omega
      have SY := Lib.hid (ord_roll SX.out)
      go_upto_region 31 with (fail)
      refine wp_region_stage (w0 := w0) (os := (.lines (.slice Ag k cg) (lnP G) :: .box b7 54 (pv q) :: os)) (by kernel_rfl) (by kernel_rfl) (by kernel_rfl) [(0, 9, [], fun vs => .lines (.slice (some ⟨gr, 0, none⟩) L.length c) (L1.set (top - 1) (l9.1, false)))] [[], [], [], [1], [], [2], [], [], [], [0]] [.lines (.slice (some ⟨gr, 0, none⟩) L.length c) L1, .box p 58 #[.int .i64 ↑cols, .slice (some ⟨gr, 0, none⟩) L.length c], .box b5 106 #[.int .i64 ↑top, .int .i64 ↑bot]] (fun i u => match i with | 0 => u = pt p 0 | 1 => u = pt p 0 | 2 => u = pt p 1 | 3 => u = .slice (some ⟨gr, 0, none⟩) L.length c | 4 => u = pt b5 0 | 5 => u = .int .i64 ↑top | 6 => u = .int .i64 (↑top - 1) | 7 => u = pt gr ((top - 1) * 2) | 8 => u = pt gr ((top - 1) * 2 + 1) | 9 => True | _ => True) (fun vs => [.lines (.slice (some ⟨gr, 0, none⟩) L.length c) (L1.set (top - 1) (l9.1, false)), .box p 58 #[.int .i64 ↑cols, .slice (some ⟨gr, 0, none⟩) L.length c], .box b5 106 #[.int .i64 ↑top, .int .i64 ↑bot]]) (by kernel_rfl) (fun vs => by rfl) SY.out ?_ ?_
      ·apply sc
       ·intro a w' vs σ hS hl hs hk
        have f0 : a.tmps[0]?.getD undef = .pointer (some ⟨p, 0, none⟩) := sof hk
        exact rp (pt p 0) (by simp [execOp, Act.eval, f0, go_sem]) hl hs hS
       apply sc
       ·intro a w' vs σ hS hl hs hk
        have f143 : a.tmps[143]?.getD undef = .pointer (some ⟨p, 0, none⟩) := sf hk 0
        exact rp (pt p 0) (by simp [execOp, Act.eval, f143, go_sem]) hl hs hS
       apply sc
       ·intro a w' vs σ hS hl hs hk
        have f144 : a.tmps[144]?.getD undef = .pointer (some ⟨p, 0, none⟩) := sf hk 1
        exact rp (pt p 1) (by simp [execOp, Act.eval, f144, go_sem]) hl hs hS
       apply sc
       ·intro a w' vs σ hS hl hs hk
        have f145 : a.tmps[145]?.getD undef = .pointer (some ⟨p, 1, none⟩) := sf hk 2
        have hx := (hS.box (sg (hs 1 (by decide)))).cell
        exact rp (.slice (some ⟨gr, 0, none⟩) L.length c) (by simp [execOp, Act.eval, f145, go_sem, hx]) hl hs hS
       apply sc
       ·intro a w' vs σ hS hl hs hk
        have f5 : a.tmps[5]?.getD undef = .pointer (some ⟨b5, 0, none⟩) := sof hk
        exact rp (pt b5 0) (by simp [execOp, Act.eval, f5, go_sem]) hl hs hS
       apply sc
       ·intro a w' vs σ hS hl hs hk
        have f147 : a.tmps[147]?.getD undef = .pointer (some ⟨b5, 0, none⟩) := sf hk 4
        have hx := (hS.box (sg (hs 2 (by decide)))).cell
        exact rp (.int .i64 ↑top) (by simp [execOp, Act.eval, f147, go_sem, hx]) hl hs hS
       apply sc
       ·intro a w' vs σ hS hl hs hk
        have f148 : a.tmps[148]?.getD undef = .int .i64 ↑top := sf hk 5
        exact rp (.int .i64 (↑top - 1)) (by simp [execOp, Act.eval, f148, go_sem, HWT.out]) hl hs hS
       apply sc
       ·intro a w' vs σ hS hl hs hk
        have f146 : a.tmps[146]?.getD undef = .slice (some ⟨gr, 0, none⟩) L.length c := sf hk 3
        have f149 : a.tmps[149]?.getD undef = .int .i64 (↑top - 1) := sf hk 6
        exact rp (pt gr ((top - 1) * 2)) (by simp [execOp, Act.eval, f146, f149, go_sem, htz, htz2, htn, htz3]) hl hs hS
       apply sc
       ·intro a w' vs σ hS hl hs hk
        have f150 : a.tmps[150]?.getD undef = .pointer (some ⟨gr, (top - 1) * 2, none⟩) := sf hk 7
        exact rp (pt gr ((top - 1) * 2 + 1)) (by simp [execOp, Act.eval, f150, go_sem]) hl hs hS
       apply sc
       ·intro a w' vs σ hS hl hs hk
        have f151 : a.tmps[151]?.getD undef = .pointer (some ⟨gr, (top - 1) * 2 + 1, none⟩) := sf hk 8
        have h1 : σ[0]? = some (.lines (.slice (some ⟨gr, 0, none⟩) L.length c) L1) := hs 0 (by decide)
        obtain ⟨F9, bs9, hF9, -⟩ := hS.get (sg h1)
        obtain ⟨A9, c9, e9, -, -, -, hg9⟩ := hF9.form
        simp only [Value.slice.injEq] at e9
        obtain ⟨rfl, -, rfl⟩ := e9
        obtain ⟨g9, e9', hz, -, hso, hf⟩ := hg9 (by omega)
        cases e9'
        have hx := hso _ _ hlt1
        exact rstep_store (w2 := w'.setCell ⟨gr, (top - 1) * 2 + 1, none⟩ (.bool false)) (wanted_none rfl) rfl (by simp [execOp, Act.eval, f151, hx, hf, hz, go_sem]) (sp_set 0 (.lines (.slice (some ⟨gr, 0, none⟩) L.length c) (L1.set (top - 1) (l9.1, false))) (by kernel_rfl) (by simp) (by decide) hl hs (by rfl) (hS.storeSoft (sg h1) hlt1) trivial) trivial
       exact SSteps.nil
      ·intro vs w' hS hv
       have q0 : vs 0 = _ := hv 0 (by decide)
       have q1 : vs 1 = _ := hv 1 (by decide)
       have q2 : vs 2 = _ := hv 2 (by decide)
       have q3 : vs 3 = _ := hv 3 (by decide)
       have q4 : vs 4 = _ := hv 4 (by decide)
       have q5 : vs 5 = _ := hv 5 (by decide)
       have q6 : vs 6 = _ := hv 6 (by decide)
       have q7 : vs 7 = _ := hv 7 (by decide)
       have q8 : vs 8 = _ := hv 8 (by decide)
       have S2 := Lib.hid hS
       simp only [putL, Act.put, Nat.zero_add, Nat.reduceAdd, List.setIfInBounds_toArray, List.set_cons_succ, List.set_cons_zero, q0, q1, q2, q3, q4, q5, q6, q7, q8]
       clear hS hv q0 q1 q2 q3 q4 q5 q6 q7 q8
       have S9 := S2.out
       rw [HT0.out] at S9
       have SF := Lib.hid (fin_roll2 S9)
       clear S9 S2
       go_wp2_with fail
       go_ret2
       exact ⟨Ag, k, cg, rfl, by rw [← HGONE.out, ← HLF.out]; exact SF.out⟩
    have hiR : d < R.length := by omega
    have hiz : (0 : Int) ≤ (d : Int) := by omega
    have hiz2 : (d : Int) < (k : Int) := by omega
    have hoff : top * 2 + d * 2 = (a0 + d) * 2 := by omega
    have HHL := Lib.hid (show (hdP X1 ++ (hdP F ++ hdP (R.drop d))).length = a0 + (d + (R.length - d)) by simp only [List.length_append, hdP_length, List.length_drop, HX1.out, HF.out.1])
    have SZ := Lib.hid S8.out.pad
    clear S8
    go_upto_region 28 with (fail)
    refine wp_region_stage (w0 := w0) (os := (.heads (.slice Ag k cg) (hdP G) :: .pile (piP T ++ piP F) :: .box b5 106 #[.int .i64 ↑top, .int .i64 ↑bot] :: os)) (by kernel_rfl) (by kernel_rfl) (by kernel_rfl) [(0, 7, [7], fun vs => .cells (lineV (vs 7)) (List.replicate cols (blank q))), (1, 9, [7], fun vs => .heads (.slice (some ⟨gr, 0, none⟩) L.length c) (List.set (hdP X1 ++ (hdP F ++ hdP (R.drop d))) (a0 + d) (lineV (vs 7), false)))] [[], [], [], [], [], [3], [2], [0], [], [1]] [.none, .heads (.slice (some ⟨gr, 0, none⟩) L.length c) (hdP X1 ++ (hdP F ++ hdP (R.drop d))), .box b7 54 (pv q), .box p 58 #[.int .i64 ↑cols, .slice (some ⟨gr, 0, none⟩) L.length c]] (fun i u => match i with | 0 => u = .slice (some ⟨gr, top * 2, none⟩) k (k) | 1 => u = .int .i64 ↑d | 2 => u = pt p 0 | 3 => u = pt p 0 | 4 => u = pt p 0 | 5 => u = .int .i64 ↑cols | 6 => u = .agg (pv q) | 7 => ∃ A m c, u = .agg #[.slice A m c, .bool false] | 8 => u = pt gr ((a0 + d) * 2) | 9 => True | _ => True) (fun vs => [.cells (lineV (vs 7)) (List.replicate cols (blank q)), .heads (.slice (some ⟨gr, 0, none⟩) L.length c) (List.set (hdP X1 ++ (hdP F ++ hdP (R.drop d))) (a0 + d) (lineV (vs 7), false)), .box b7 54 (pv q), .box p 58 #[.int .i64 ↑cols, .slice (some ⟨gr, 0, none⟩) L.length c]]) (by kernel_rfl) (fun vs => by rfl) SZ.out ?_ ?_
    ·apply sc
     ·intro a w' vs σ hS hl hs hk
      have f13 : a.tmps[13]?.getD undef = .slice (some ⟨gr, top * 2, none⟩) k (k) := sof hk
      exact rp (.slice (some ⟨gr, top * 2, none⟩) k (k)) (by simp [execOp, Act.eval, f13, go_sem]) hl hs hS
     apply sc
     ·intro a w' vs σ hS hl hs hk
      have f14 : a.tmps[14]?.getD undef = .int .i64 ↑d := sof hk
      exact rp (.int .i64 ↑d) (by simp [execOp, Act.eval, f14, go_sem]) hl hs hS
     apply sc
     ·intro a w' vs σ hS hl hs hk
      have f0 : a.tmps[0]?.getD undef = .pointer (some ⟨p, 0, none⟩) := sof hk
      exact rp (pt p 0) (by simp [execOp, Act.eval, f0, go_sem]) hl hs hS
     apply sc
     ·intro a w' vs σ hS hl hs hk
      have f132 : a.tmps[132]?.getD undef = .pointer (some ⟨p, 0, none⟩) := sf hk 2
      exact rp (pt p 0) (by simp [execOp, Act.eval, f132, go_sem]) hl hs hS
     apply sc
     ·intro a w' vs σ hS hl hs hk
      have f133 : a.tmps[133]?.getD undef = .pointer (some ⟨p, 0, none⟩) := sf hk 3
      exact rp (pt p 0) (by simp [execOp, Act.eval, f133, go_sem]) hl hs hS
     apply sc
     ·intro a w' vs σ hS hl hs hk
      have f134 : a.tmps[134]?.getD undef = .pointer (some ⟨p, 0, none⟩) := sf hk 4
      have hx := (hS.box (sg (hs 3 (by decide)))).cell
      exact rp (.int .i64 ↑cols) (by simp [execOp, Act.eval, f134, go_sem, hx]) hl hs hS
     apply sc
     ·intro a w' vs σ hS hl hs hk
      have f7 : a.tmps[7]?.getD undef = .pointer (some ⟨b7, 0, none⟩) := sof hk
      have hx := (hS.box (sg (hs 2 (by decide)))).penAt
      exact rp (.agg (pv q)) (by simp [execOp, Act.eval, f7, go_sem, hx]) hl hs hS
     apply sc
     ·intro a w' vs σ hS hl hs hk
      have e135 : a.tmps.getD 135 undef = .int .i64 ↑cols := sv hk 5
      have e136 : a.tmps.getD 136 undef = .agg (pv q) := sv hk 6
      have h0 : σ[0]? = some .none := hs 0 (by decide)
      exact ro_call (f := 54) (wanted_none rfl) rfl (by simp only [List.map_toArray, List.map_cons, List.map_nil, Act.eval, e135, e136] <;> rfl) (fun _ _ => by kernel_rfl) ((gridblanks_any cols hcm q _ _ _ hS).mono fun e w2 ⟨x, h1, h2⟩ => ⟨_, h1, sp_set 0 (.cells x (List.replicate cols (blank q))) (by kernel_rfl) (by simp) (by decide) hl hs (by rfl) (h2.place (sg h0)) (by obtain ⟨A', c', e, -⟩ := h2.cellsRd (k := 0) rfl; exact ⟨A', _, c', by rw [e]⟩), trivial⟩)
     apply sc
     ·intro a w' vs σ hS hl hs hk
      have f130 : a.tmps[130]?.getD undef = .slice (some ⟨gr, top * 2, none⟩) k (k) := sf hk 0
      have f131 : a.tmps[131]?.getD undef = .int .i64 ↑d := sf hk 1
      exact rp (pt gr ((a0 + d) * 2)) (by simp [execOp, Act.eval, f130, f131, go_sem, hiz, hiz2, hoff]) hl hs hS
     apply sc
     ·intro a w' vs σ hS hl hs hk
      have f138 : a.tmps[138]?.getD undef = .pointer (some ⟨gr, (a0 + d) * 2, none⟩) := sf hk 8
      have e137 : a.tmps.getD 137 undef = vs 7 := sk_val hk 7 (by kernel_rfl) rfl rfl
      have p137 : (fun u : Value => ∃ A m c, u = .agg #[.slice A m c, .bool false]) (vs 7) := (hk.1 7 (by kernel_rfl)).1
      have f137 := gd e137
      obtain ⟨A7, n7, c7, q7⟩ := p137
      have h1 : σ[1]? = some (.heads (.slice (some ⟨gr, 0, none⟩) L.length c) (hdP X1 ++ (hdP F ++ hdP (R.drop d)))) := hs 1 (by decide)
      obtain ⟨A8, c8, e8, -, -, -, hg8⟩ := hS.headsForm (sg h1)
      simp only [Value.slice.injEq] at e8
      obtain ⟨rfl, -, rfl⟩ := e8
      have hHl := HHL.out
      obtain ⟨g8, e9, hz, hcs, hf⟩ := hg8 (by omega)
      cases e9
      obtain ⟨x8, hx8⟩ := get_of (show a0 + d < (hdP X1 ++ (hdP F ++ hdP (R.drop d))).length by omega)
      obtain ⟨hx, hx'⟩ := hcs (a0 + d) x8 hx8
      exact rstep_store (w2 := (w'.setCell ⟨gr, (a0 + d) * 2, none⟩ (.slice A7 n7 c7)).setCell ⟨gr, (a0 + d) * 2 + 1, none⟩ (.bool false)) (wanted_none rfl) rfl (by simp [execOp, Act.eval, f138, e137, f137, q7, hx, hx', hf, hz, go_sem]) (sp_set 1 (.heads (.slice (some ⟨gr, 0, none⟩) L.length c) (List.set (hdP X1 ++ (hdP F ++ hdP (R.drop d))) (a0 + d) (.slice A7 n7 c7, false))) (by kernel_rfl) (by simp) (by decide) hl hs (by show Ob.heads _ (List.set _ _ (lineV (vs 7), false)) = _; rw [q7]; rfl) (hS.storeHead (sg h1)) trivial) trivial
     exact SSteps.nil
    ·intro vs w' hS hv
     have q0 : vs 0 = _ := hv 0 (by decide)
     have q1 : vs 1 = _ := hv 1 (by decide)
     have q2 : vs 2 = _ := hv 2 (by decide)
     have q3 : vs 3 = _ := hv 3 (by decide)
     have q4 : vs 4 = _ := hv 4 (by decide)
     have q5 : vs 5 = _ := hv 5 (by decide)
     have q6 : vs 6 = _ := hv 6 (by decide)
     have q8 : vs 8 = _ := hv 8 (by decide)
     obtain ⟨A7, n7, c7, q7⟩ := (show ∃ A m c, vs 7 = .agg #[.slice A m c, .bool false] from hv 7 (by decide))
     rw [q7] at hS
     have S2 := Lib.hid hS
     simp only [putL, Act.put, Nat.zero_add, Nat.reduceAdd, List.setIfInBounds_toArray, List.set_cons_succ, List.set_cons_zero, q0, q1, q2, q3, q4, q5, q6, q8]
     clear hS hv q0 q1 q2 q3 q4 q5 q6 q8
     simp only [q7]
     have S9 := S2.out
     rw [show lineV (.agg #[.slice A7 n7 c7, .bool false]) = .slice A7 n7 c7 from rfl, hdP_fill (.slice A7 n7 c7) (List.replicate cols (blank q)) false HX1.out HF.out.1 hiR] at S9
     have S10 := Lib.hid (show Objs w0 w' (.heads (.slice (some ⟨gr, 0, none⟩) L.length c) (hdP X1 ++ (hdP (F ++ [(.slice A7 n7 c7, (List.replicate cols (blank q)), false)]) ++ hdP (R.drop (d + 1)))) :: .box b7 54 (pv q) :: .box p 58 #[.int .i64 ↑cols, .slice (some ⟨gr, 0, none⟩) L.length c] :: .heads (.slice Ag k cg) (hdP G) :: .pile (piP T ++ piP (F ++ [(.slice A7 n7 c7, (List.replicate cols (blank q)), false)])) :: .box b5 106 #[.int .i64 ↑top, .int .i64 ↑bot] :: os) from by have := Objs.pileIn S9; rw [List.append_assoc] at this; rw [piP_append]; exact this)
     clear S9 S2
     go_wp2_with fail
     go_roundw
     case rel => exact ⟨d + 1, F ++ [(.slice A7 n7 c7, (List.replicate cols (blank q)), false)], by omega, by go_num, ⟨by simp [HF.out.1], by rw [lnP_append, HF.out.2]; unfold rollFresh; rw [List.replicate_succ']; rfl⟩, S10.out⟩
     case measure => simp [intOf]; omega
  ·go_wp2_with fail
   refine (clone_front S5.out.swap HONE.out (a := top) (m := k) (by rw [HTl.out]; omega) (by omega) (by rw [HTl.out]; omega)).mono ?_
   rintro e w5 ⟨Ag, cg, rfl, hS⟩
   obtain ⟨w6, hr6, hS6⟩ := run_copyH hS (k := 1) rfl HONE.out top top 0 (some ⟨gr, top * 2 + k * 2, none⟩) (some ⟨gr, top * 2, none⟩) 0 (c - top - k) k (c - top) (Nat.min_zero _) (by rw [HTl.out]; omega) (by rw [HTl.out]; omega) (fun h => absurd h (by omega)) 3
   have HR6 := Lib.hid hr6
   rw [hdP_drop T top, hdP_take, HG.out, ← hdP_drop T top, HPB2.out] at hS6
   have S7 := Lib.hid (ord7 (show Objs w0 w6 (.heads (.slice Ag k cg) (hdP G) :: .heads (.slice (some ⟨gr, 0, none⟩) L.length c) (hdP X1 ++ hdP R) :: .pile (piP T) :: .box b7 54 (pv q) :: .box b5 106 #[.int .i64 top, .int .i64 bot] :: .box p 58 #[.int .i64 cols, .slice (some ⟨gr, 0, none⟩) L.length c] :: os) from hS6))
   have HAO := HA0.out
   clear hS hr6 hS6 S5
   go_wp2_with (refine wpList_copyK rfl _ _ 30 30 rfl rfl rfl HR6.out ?_)
   go_loopw [14, 127] (fun _ vi wr => ∃ (d : Nat) (F : List Tr), d ≤ k ∧ vi = .int .i64 d ∧ (F.length = d ∧ lnP F = rollFresh d cols q) ∧ Objs w0 wr (.heads (.slice (some ⟨gr, 0, none⟩) L.length c) (hdP X1 ++ (hdP F ++ hdP (R.drop d))) :: .box b7 54 (pv q) :: .box p 58 #[.int .i64 ↑cols, .slice (some ⟨gr, 0, none⟩) L.length c] :: .heads (.slice Ag k cg) (hdP G) :: .pile (piP T ++ piP F) :: .box b5 106 #[.int .i64 ↑top, .int .i64 ↑bot] :: os)) (fun _ vi _ => k - (intOf vi).toNat)
   case atStart => exact ⟨0, [], by omega, rfl, ⟨rfl, rfl⟩, by simpa [hdP, piP] using S7.out⟩
   case round =>
    obtain ⟨d, F, hik, rfl, hFF, hS⟩ := hrel
    have HF := Lib.hid hFF
    have S8 := Lib.hid hS
    clear hFF hS S7
    by_cases hlt : d < k
    case neg =>
     have hie : d = k := by omega
     have hX := S8.out
     have hFk := HF.out.2
     rw [hie] at hX hFk
     have hX2 := hX.dealIn HPERM.out
     have HLF := Lib.hid (HLEFT.out F hFk)
     obtain ⟨L1, hL1⟩ : ∃ L1, L1 = lnP X1 ++ (lnP F ++ lnP (R.drop k)) := ⟨_, rfl⟩
     rw [← hL1] at hX2 HLF
     have hL1l : L1.length = L.length := by rw [hL1]; simp only [List.length_append, lnP_length, List.length_drop]; have := HX1.out; have := HF.out.1; have := HRL.out; omega
     have SX := Lib.hid hX2
     obtain ⟨hx5, hf5, hz5⟩ := (hX2.box (k := 4) rfl).facts
     clear hie hX hX2 hFk hL1 S8
     by_cases ht0 : top = 0
     ·have HT0 := Lib.hid (show topHard top L1 = L1 by unfold topHard; rw [if_neg (by omega)])
      have htg : ¬ (0 : Int) < (top : Int) := by omega
      have SF := Lib.hid (fin_roll SX.out)
      clear ht0
      go_wp2_with fail
      go_ret2
      exact ⟨Ag, k, cg, rfl, by rw [← HGONE.out, ← HLF.out, HT0.out]; exact SF.out⟩
     ·have htg : (0 : Int) < (top : Int) := by omega
      obtain ⟨l9, hlt1⟩ := get_of (show top - 1 < L1.length by omega)
      have HT0 := Lib.hid (show L1.set (top - 1) (l9.1, false) = topHard top L1 by unfold topHard; rw [if_pos (by omega), softMod_some hlt1])
      have HWT := Lib.hid (show IntKind.i64.wrap ((top : Int) - 1) = (top : Int) - 1 from IntWalk.i64_in _ (by omega))
      have htz : (0 : Int) ≤ (top : Int) - 1 := by omega
      have htz2 : (top : Int) - 1 < (L.length : Int) := by omega
      have htz3 : ¬ (top : Int) < 1 := by omega
      have htn : ((top : Int) - 1).toNat = top - 1 := by omega
      have SY := Lib.hid (ord_roll SX.out)
      go_upto_region 31 with (fail)
      refine wp_region_stage (w0 := w0) (os := (.lines (.slice Ag k cg) (lnP G) :: .box b7 54 (pv q) :: os)) (by kernel_rfl) (by kernel_rfl) (by kernel_rfl) [(0, 9, [], fun vs => .lines (.slice (some ⟨gr, 0, none⟩) L.length c) (L1.set (top - 1) (l9.1, false)))] [[], [], [], [1], [], [2], [], [], [], [0]] [.lines (.slice (some ⟨gr, 0, none⟩) L.length c) L1, .box p 58 #[.int .i64 ↑cols, .slice (some ⟨gr, 0, none⟩) L.length c], .box b5 106 #[.int .i64 ↑top, .int .i64 ↑bot]] (fun i u => match i with | 0 => u = pt p 0 | 1 => u = pt p 0 | 2 => u = pt p 1 | 3 => u = .slice (some ⟨gr, 0, none⟩) L.length c | 4 => u = pt b5 0 | 5 => u = .int .i64 ↑top | 6 => u = .int .i64 (↑top - 1) | 7 => u = pt gr ((top - 1) * 2) | 8 => u = pt gr ((top - 1) * 2 + 1) | 9 => True | _ => True) (fun vs => [.lines (.slice (some ⟨gr, 0, none⟩) L.length c) (L1.set (top - 1) (l9.1, false)), .box p 58 #[.int .i64 ↑cols, .slice (some ⟨gr, 0, none⟩) L.length c], .box b5 106 #[.int .i64 ↑top, .int .i64 ↑bot]]) (by kernel_rfl) (fun vs => by rfl) SY.out ?_ ?_
      ·apply sc
       ·intro a w' vs σ hS hl hs hk
        have f0 : a.tmps[0]?.getD undef = .pointer (some ⟨p, 0, none⟩) := sof hk
        exact rp (pt p 0) (by simp [execOp, Act.eval, f0, go_sem]) hl hs hS
       apply sc
       ·intro a w' vs σ hS hl hs hk
        have f143 : a.tmps[143]?.getD undef = .pointer (some ⟨p, 0, none⟩) := sf hk 0
        exact rp (pt p 0) (by simp [execOp, Act.eval, f143, go_sem]) hl hs hS
       apply sc
       ·intro a w' vs σ hS hl hs hk
        have f144 : a.tmps[144]?.getD undef = .pointer (some ⟨p, 0, none⟩) := sf hk 1
        exact rp (pt p 1) (by simp [execOp, Act.eval, f144, go_sem]) hl hs hS
       apply sc
       ·intro a w' vs σ hS hl hs hk
        have f145 : a.tmps[145]?.getD undef = .pointer (some ⟨p, 1, none⟩) := sf hk 2
        have hx := (hS.box (sg (hs 1 (by decide)))).cell
        exact rp (.slice (some ⟨gr, 0, none⟩) L.length c) (by simp [execOp, Act.eval, f145, go_sem, hx]) hl hs hS
       apply sc
       ·intro a w' vs σ hS hl hs hk
        have f5 : a.tmps[5]?.getD undef = .pointer (some ⟨b5, 0, none⟩) := sof hk
        exact rp (pt b5 0) (by simp [execOp, Act.eval, f5, go_sem]) hl hs hS
       apply sc
       ·intro a w' vs σ hS hl hs hk
        have f147 : a.tmps[147]?.getD undef = .pointer (some ⟨b5, 0, none⟩) := sf hk 4
        have hx := (hS.box (sg (hs 2 (by decide)))).cell
        exact rp (.int .i64 ↑top) (by simp [execOp, Act.eval, f147, go_sem, hx]) hl hs hS
       apply sc
       ·intro a w' vs σ hS hl hs hk
        have f148 : a.tmps[148]?.getD undef = .int .i64 ↑top := sf hk 5
        exact rp (.int .i64 (↑top - 1)) (by simp [execOp, Act.eval, f148, go_sem, HWT.out]) hl hs hS
       apply sc
       ·intro a w' vs σ hS hl hs hk
        have f146 : a.tmps[146]?.getD undef = .slice (some ⟨gr, 0, none⟩) L.length c := sf hk 3
        have f149 : a.tmps[149]?.getD undef = .int .i64 (↑top - 1) := sf hk 6
        exact rp (pt gr ((top - 1) * 2)) (by simp [execOp, Act.eval, f146, f149, go_sem, htz, htz2, htn, htz3]) hl hs hS
       apply sc
       ·intro a w' vs σ hS hl hs hk
        have f150 : a.tmps[150]?.getD undef = .pointer (some ⟨gr, (top - 1) * 2, none⟩) := sf hk 7
        exact rp (pt gr ((top - 1) * 2 + 1)) (by simp [execOp, Act.eval, f150, go_sem]) hl hs hS
       apply sc
       ·intro a w' vs σ hS hl hs hk
        have f151 : a.tmps[151]?.getD undef = .pointer (some ⟨gr, (top - 1) * 2 + 1, none⟩) := sf hk 8
        have h1 : σ[0]? = some (.lines (.slice (some ⟨gr, 0, none⟩) L.length c) L1) := hs 0 (by decide)
        obtain ⟨F9, bs9, hF9, -⟩ := hS.get (sg h1)
        obtain ⟨A9, c9, e9, -, -, -, hg9⟩ := hF9.form
        simp only [Value.slice.injEq] at e9
        obtain ⟨rfl, -, rfl⟩ := e9
        obtain ⟨g9, e9', hz, -, hso, hf⟩ := hg9 (by omega)
        cases e9'
        have hx := hso _ _ hlt1
        exact rstep_store (w2 := w'.setCell ⟨gr, (top - 1) * 2 + 1, none⟩ (.bool false)) (wanted_none rfl) rfl (by simp [execOp, Act.eval, f151, hx, hf, hz, go_sem]) (sp_set 0 (.lines (.slice (some ⟨gr, 0, none⟩) L.length c) (L1.set (top - 1) (l9.1, false))) (by kernel_rfl) (by simp) (by decide) hl hs (by rfl) (hS.storeSoft (sg h1) hlt1) trivial) trivial
       exact SSteps.nil
      ·intro vs w' hS hv
       have q0 : vs 0 = _ := hv 0 (by decide)
       have q1 : vs 1 = _ := hv 1 (by decide)
       have q2 : vs 2 = _ := hv 2 (by decide)
       have q3 : vs 3 = _ := hv 3 (by decide)
       have q4 : vs 4 = _ := hv 4 (by decide)
       have q5 : vs 5 = _ := hv 5 (by decide)
       have q6 : vs 6 = _ := hv 6 (by decide)
       have q7 : vs 7 = _ := hv 7 (by decide)
       have q8 : vs 8 = _ := hv 8 (by decide)
       have S2 := Lib.hid hS
       simp only [putL, Act.put, Nat.zero_add, Nat.reduceAdd, List.setIfInBounds_toArray, List.set_cons_succ, List.set_cons_zero, q0, q1, q2, q3, q4, q5, q6, q7, q8]
       clear hS hv q0 q1 q2 q3 q4 q5 q6 q7 q8
       have S9 := S2.out
       rw [HT0.out] at S9
       have SF := Lib.hid (fin_roll2 S9)
       clear S9 S2
       go_wp2_with fail
       go_ret2
       exact ⟨Ag, k, cg, rfl, by rw [← HGONE.out, ← HLF.out]; exact SF.out⟩
    have hiR : d < R.length := by omega
    have hiz : (0 : Int) ≤ (d : Int) := by omega
    have hiz2 : (d : Int) < (k : Int) := by omega
    have hoff : top * 2 + d * 2 = (a0 + d) * 2 := by omega
    have HHL := Lib.hid (show (hdP X1 ++ (hdP F ++ hdP (R.drop d))).length = a0 + (d + (R.length - d)) by simp only [List.length_append, hdP_length, List.length_drop, HX1.out, HF.out.1])
    have SZ := Lib.hid S8.out.pad
    clear S8
    go_upto_region 28 with (fail)
    refine wp_region_stage (w0 := w0) (os := (.heads (.slice Ag k cg) (hdP G) :: .pile (piP T ++ piP F) :: .box b5 106 #[.int .i64 ↑top, .int .i64 ↑bot] :: os)) (by kernel_rfl) (by kernel_rfl) (by kernel_rfl) [(0, 7, [7], fun vs => .cells (lineV (vs 7)) (List.replicate cols (blank q))), (1, 9, [7], fun vs => .heads (.slice (some ⟨gr, 0, none⟩) L.length c) (List.set (hdP X1 ++ (hdP F ++ hdP (R.drop d))) (a0 + d) (lineV (vs 7), false)))] [[], [], [], [], [], [3], [2], [0], [], [1]] [.none, .heads (.slice (some ⟨gr, 0, none⟩) L.length c) (hdP X1 ++ (hdP F ++ hdP (R.drop d))), .box b7 54 (pv q), .box p 58 #[.int .i64 ↑cols, .slice (some ⟨gr, 0, none⟩) L.length c]] (fun i u => match i with | 0 => u = .slice (some ⟨gr, top * 2, none⟩) k (c - top) | 1 => u = .int .i64 ↑d | 2 => u = pt p 0 | 3 => u = pt p 0 | 4 => u = pt p 0 | 5 => u = .int .i64 ↑cols | 6 => u = .agg (pv q) | 7 => ∃ A m c, u = .agg #[.slice A m c, .bool false] | 8 => u = pt gr ((a0 + d) * 2) | 9 => True | _ => True) (fun vs => [.cells (lineV (vs 7)) (List.replicate cols (blank q)), .heads (.slice (some ⟨gr, 0, none⟩) L.length c) (List.set (hdP X1 ++ (hdP F ++ hdP (R.drop d))) (a0 + d) (lineV (vs 7), false)), .box b7 54 (pv q), .box p 58 #[.int .i64 ↑cols, .slice (some ⟨gr, 0, none⟩) L.length c]]) (by kernel_rfl) (fun vs => by rfl) SZ.out ?_ ?_
    ·apply sc
     ·intro a w' vs σ hS hl hs hk
      have f13 : a.tmps[13]?.getD undef = .slice (some ⟨gr, top * 2, none⟩) k (c - top) := sof hk
      exact rp (.slice (some ⟨gr, top * 2, none⟩) k (c - top)) (by simp [execOp, Act.eval, f13, go_sem]) hl hs hS
     apply sc
     ·intro a w' vs σ hS hl hs hk
      have f14 : a.tmps[14]?.getD undef = .int .i64 ↑d := sof hk
      exact rp (.int .i64 ↑d) (by simp [execOp, Act.eval, f14, go_sem]) hl hs hS
     apply sc
     ·intro a w' vs σ hS hl hs hk
      have f0 : a.tmps[0]?.getD undef = .pointer (some ⟨p, 0, none⟩) := sof hk
      exact rp (pt p 0) (by simp [execOp, Act.eval, f0, go_sem]) hl hs hS
     apply sc
     ·intro a w' vs σ hS hl hs hk
      have f132 : a.tmps[132]?.getD undef = .pointer (some ⟨p, 0, none⟩) := sf hk 2
      exact rp (pt p 0) (by simp [execOp, Act.eval, f132, go_sem]) hl hs hS
     apply sc
     ·intro a w' vs σ hS hl hs hk
      have f133 : a.tmps[133]?.getD undef = .pointer (some ⟨p, 0, none⟩) := sf hk 3
      exact rp (pt p 0) (by simp [execOp, Act.eval, f133, go_sem]) hl hs hS
     apply sc
     ·intro a w' vs σ hS hl hs hk
      have f134 : a.tmps[134]?.getD undef = .pointer (some ⟨p, 0, none⟩) := sf hk 4
      have hx := (hS.box (sg (hs 3 (by decide)))).cell
      exact rp (.int .i64 ↑cols) (by simp [execOp, Act.eval, f134, go_sem, hx]) hl hs hS
     apply sc
     ·intro a w' vs σ hS hl hs hk
      have f7 : a.tmps[7]?.getD undef = .pointer (some ⟨b7, 0, none⟩) := sof hk
      have hx := (hS.box (sg (hs 2 (by decide)))).penAt
      exact rp (.agg (pv q)) (by simp [execOp, Act.eval, f7, go_sem, hx]) hl hs hS
     apply sc
     ·intro a w' vs σ hS hl hs hk
      have e135 : a.tmps.getD 135 undef = .int .i64 ↑cols := sv hk 5
      have e136 : a.tmps.getD 136 undef = .agg (pv q) := sv hk 6
      have h0 : σ[0]? = some .none := hs 0 (by decide)
      exact ro_call (f := 54) (wanted_none rfl) rfl (by simp only [List.map_toArray, List.map_cons, List.map_nil, Act.eval, e135, e136] <;> rfl) (fun _ _ => by kernel_rfl) ((gridblanks_any cols hcm q _ _ _ hS).mono fun e w2 ⟨x, h1, h2⟩ => ⟨_, h1, sp_set 0 (.cells x (List.replicate cols (blank q))) (by kernel_rfl) (by simp) (by decide) hl hs (by rfl) (h2.place (sg h0)) (by obtain ⟨A', c', e, -⟩ := h2.cellsRd (k := 0) rfl; exact ⟨A', _, c', by rw [e]⟩), trivial⟩)
     apply sc
     ·intro a w' vs σ hS hl hs hk
      have f130 : a.tmps[130]?.getD undef = .slice (some ⟨gr, top * 2, none⟩) k (c - top) := sf hk 0
      have f131 : a.tmps[131]?.getD undef = .int .i64 ↑d := sf hk 1
      exact rp (pt gr ((a0 + d) * 2)) (by simp [execOp, Act.eval, f130, f131, go_sem, hiz, hiz2, hoff]) hl hs hS
     apply sc
     ·intro a w' vs σ hS hl hs hk
      have f138 : a.tmps[138]?.getD undef = .pointer (some ⟨gr, (a0 + d) * 2, none⟩) := sf hk 8
      have e137 : a.tmps.getD 137 undef = vs 7 := sk_val hk 7 (by kernel_rfl) rfl rfl
      have p137 : (fun u : Value => ∃ A m c, u = .agg #[.slice A m c, .bool false]) (vs 7) := (hk.1 7 (by kernel_rfl)).1
      have f137 := gd e137
      obtain ⟨A7, n7, c7, q7⟩ := p137
      have h1 : σ[1]? = some (.heads (.slice (some ⟨gr, 0, none⟩) L.length c) (hdP X1 ++ (hdP F ++ hdP (R.drop d)))) := hs 1 (by decide)
      obtain ⟨A8, c8, e8, -, -, -, hg8⟩ := hS.headsForm (sg h1)
      simp only [Value.slice.injEq] at e8
      obtain ⟨rfl, -, rfl⟩ := e8
      have hHl := HHL.out
      obtain ⟨g8, e9, hz, hcs, hf⟩ := hg8 (by omega)
      cases e9
      obtain ⟨x8, hx8⟩ := get_of (show a0 + d < (hdP X1 ++ (hdP F ++ hdP (R.drop d))).length by omega)
      obtain ⟨hx, hx'⟩ := hcs (a0 + d) x8 hx8
      exact rstep_store (w2 := (w'.setCell ⟨gr, (a0 + d) * 2, none⟩ (.slice A7 n7 c7)).setCell ⟨gr, (a0 + d) * 2 + 1, none⟩ (.bool false)) (wanted_none rfl) rfl (by simp [execOp, Act.eval, f138, e137, f137, q7, hx, hx', hf, hz, go_sem]) (sp_set 1 (.heads (.slice (some ⟨gr, 0, none⟩) L.length c) (List.set (hdP X1 ++ (hdP F ++ hdP (R.drop d))) (a0 + d) (.slice A7 n7 c7, false))) (by kernel_rfl) (by simp) (by decide) hl hs (by show Ob.heads _ (List.set _ _ (lineV (vs 7), false)) = _; rw [q7]; rfl) (hS.storeHead (sg h1)) trivial) trivial
     exact SSteps.nil
    ·intro vs w' hS hv
     have q0 : vs 0 = _ := hv 0 (by decide)
     have q1 : vs 1 = _ := hv 1 (by decide)
     have q2 : vs 2 = _ := hv 2 (by decide)
     have q3 : vs 3 = _ := hv 3 (by decide)
     have q4 : vs 4 = _ := hv 4 (by decide)
     have q5 : vs 5 = _ := hv 5 (by decide)
     have q6 : vs 6 = _ := hv 6 (by decide)
     have q8 : vs 8 = _ := hv 8 (by decide)
     obtain ⟨A7, n7, c7, q7⟩ := (show ∃ A m c, vs 7 = .agg #[.slice A m c, .bool false] from hv 7 (by decide))
     rw [q7] at hS
     have S2 := Lib.hid hS
     simp only [putL, Act.put, Nat.zero_add, Nat.reduceAdd, List.setIfInBounds_toArray, List.set_cons_succ, List.set_cons_zero, q0, q1, q2, q3, q4, q5, q6, q8]
     clear hS hv q0 q1 q2 q3 q4 q5 q6 q8
     simp only [q7]
     have S9 := S2.out
     rw [show lineV (.agg #[.slice A7 n7 c7, .bool false]) = .slice A7 n7 c7 from rfl, hdP_fill (.slice A7 n7 c7) (List.replicate cols (blank q)) false HX1.out HF.out.1 hiR] at S9
     have S10 := Lib.hid (show Objs w0 w' (.heads (.slice (some ⟨gr, 0, none⟩) L.length c) (hdP X1 ++ (hdP (F ++ [(.slice A7 n7 c7, (List.replicate cols (blank q)), false)]) ++ hdP (R.drop (d + 1)))) :: .box b7 54 (pv q) :: .box p 58 #[.int .i64 ↑cols, .slice (some ⟨gr, 0, none⟩) L.length c] :: .heads (.slice Ag k cg) (hdP G) :: .pile (piP T ++ piP (F ++ [(.slice A7 n7 c7, (List.replicate cols (blank q)), false)])) :: .box b5 106 #[.int .i64 ↑top, .int .i64 ↑bot] :: os) from by have := Objs.pileIn S9; rw [List.append_assoc] at this; rw [piP_append]; exact this)
     clear S9 S2
     go_wp2_with fail
     go_roundw
     case rel => exact ⟨d + 1, F ++ [(.slice A7 n7 c7, (List.replicate cols (blank q)), false)], by omega, by go_num, ⟨by simp [HF.out.1], by rw [lnP_append, HF.out.2]; unfold rollFresh; rw [List.replicate_succ']; rfl⟩, S10.out⟩
     case measure => simp [intOf]; omega
end
end Go.Proofs.YtppijfjigcoifaaDoor

namespace Go.Proofs.YtppijfjigcoifaaDoor
open Go.RowKit

set_option maxRecDepth 100000 in
set_option maxHeartbeats 4000000 in
theorem copies_base (A : Option Addr) (c : Nat) (L : List Ln) (w : World) (ha : RdL w A c L) (hL : L.length ≤ 1000000) (hx : ∀ l ∈ L, l.1.length ≤ 1000000) :
  Calls Tryd.prog 24 #[.slice A L.length c] w fun e w' => ∃ v, e = .returned v ∧ Objs w w' [.lines v L] := by
 have HA := Lib.hid ha
 have HX := Lib.hid hx
 clear ha hx
 go_enter Tryd.func24, Tryd.ntmps24
 go_wp2_with fail
 go_loopw [3, 4] (fun v0 x wr => ∃ (n : Nat) (v : Value), n ≤ L.length ∧ v = v0 ∧ x = .int .i64 n ∧ Objs w wr [.lines v (L.take n)]) (fun _ x _ => L.length - (intOf x).toNat)
 case atStart => exact ⟨0, _, Nat.zero_le _, rfl, rfl, (objs_start w).nilLines⟩
 case round =>
  obtain ⟨n, v, hn, rfl, rfl, hS⟩ := hrel
  have S := Lib.hid hS
  clear hS
  by_cases hlt : n < L.length
  ·have hl : L[n]? = some L[n] := by simp [hlt]
   obtain ⟨b, off, A', c', rfl, hz, hc1, hc2, hrd⟩ := HA.out.at_ hl
   have HR := Lib.hid hrd
   have HTK := Lib.hid (show L.take n ++ [(L[n].1, L[n].2)] = L.take (n + 1) by rw [List.take_succ_eq_append_getElem hlt])
   have hln := HX.out _ (List.getElem_mem hlt)
   have hlz : (0 : Int) ≤ (n : Int) := by omega
   have hlz2 : (n : Int) < (L.length : Int) := by omega
   clear hl hrd
   go_upto_region 5 with (fail)
   refine wp_region_stage (w0 := w) (os := []) (by kernel_rfl) (by kernel_rfl) (by kernel_rfl) [(0, 6, [6], fun vs => .cells (vs 6) L[n].1), (0, 12, [12], fun vs => .cells (lineV (vs 12)) L[n].1), (1, 13, [12, 13], fun vs => .box (blkOf (vs 13)) 39 #[lineV (vs 12), .bool L[n].2]), (2, 14, [14], fun vs => .lines (vs 14) (L.take (n + 1))), (0, 14, [], fun vs => .none), (2, 15, [15], fun vs => .lines (vs 15) (L.take (n + 1)))] [[], [], [], [], [], [], [0], [], [], [], [], [], [0], [1], [0, 1, 2], [2]] [.none, .none, .lines v (L.take n)] (fun i u => match i with | 0 => u = (v : Value) | 1 => u = .slice (some ⟨b, off, none⟩) L.length c | 2 => u = .int .i64 ↑n | 3 => u = pt b (off + n * 2) | 4 => u = pt b (off + n * 2) | 5 => u = .slice A' L[n].1.length c' | 6 => ∃ A n c, u = .slice A n c | 7 => u = .slice (some ⟨b, off, none⟩) L.length c | 8 => u = .int .i64 ↑n | 9 => u = pt b (off + n * 2) | 10 => u = pt b (off + n * 2 + 1) | 11 => u = .bool L[n].2 | 12 => ∃ A m c, u = .agg #[.slice A m c, .bool L[n].2] | 13 => ∃ g, u = .slice (some ⟨g, 0, none⟩) 1 1 | 14 => ∃ A m c, u = .slice A m c | 15 => ∃ A m c, u = .slice A m c | _ => True) (fun vs => [.none, .box (blkOf (vs 13)) 39 #[lineV (vs 12), .bool L[n].2], .lines (vs 15) (L.take (n + 1))]) (by kernel_rfl) (fun vs => by rfl) S.out.pad.pad ?_ ?_
   ·apply sc
    ·intro a w' vs σ hS hl hs hk
     have e3 : a.tmps.getD 3 undef = (v : Value) := (sk_later hk 15 (by kernel_rfl) rfl rfl).trans rfl
     have f3 := gd e3
     exact rp v (by simp [execOp, Act.eval, e3, f3, go_sem]) hl hs hS
    apply sc
    ·intro a w' vs σ hS hl hs hk
     have f0 : a.tmps[0]?.getD undef = .slice (some ⟨b, off, none⟩) L.length c := sof hk
     exact rp (.slice (some ⟨b, off, none⟩) L.length c) (by simp [execOp, Act.eval, f0, go_sem]) hl hs hS
    apply sc
    ·intro a w' vs σ hS hl hs hk
     have f4 : a.tmps[4]?.getD undef = .int .i64 ↑n := sof hk
     exact rp (.int .i64 ↑n) (by simp [execOp, Act.eval, f4, go_sem]) hl hs hS
    apply sc
    ·intro a w' vs σ hS hl hs hk
     have f12 : a.tmps[12]?.getD undef = .slice (some ⟨b, off, none⟩) L.length c := sf hk 1
     have f13 : a.tmps[13]?.getD undef = .int .i64 ↑n := sf hk 2
     exact rp (pt b (off + n * 2)) (by simp [execOp, Act.eval, f12, f13, go_sem, hlt, hlz, hlz2]) hl hs hS
    apply sc
    ·intro a w' vs σ hS hl hs hk
     have f14 : a.tmps[14]?.getD undef = .pointer (some ⟨b, off + n * 2, none⟩) := sf hk 3
     exact rp (pt b (off + n * 2)) (by simp [execOp, Act.eval, f14, go_sem]) hl hs hS
    apply sc
    ·intro a w' vs σ hS hl hs hk
     have f15 : a.tmps[15]?.getD undef = .pointer (some ⟨b, off + n * 2, none⟩) := sf hk 4
     have hx := (hS.base.cell (p := ⟨b, off + n * 2, none⟩) hz).trans hc1
     exact rp (.slice A' L[n].1.length c') (by simp [execOp, Act.eval, f15, go_sem, hx]) hl hs hS
    apply sc
    ·intro a w' vs σ hS hl hs hk
     have e16 : a.tmps.getD 16 undef = .slice A' L[n].1.length c' := sv hk 5
     have h0 : σ[0]? = some .none := hs 0 (by decide)
     obtain ⟨v6, w6, hr, hS2, A6, c6, hv6⟩ := run_appO hS.nilCells (k := 0) rfl (HR.out.bel hS.base) (by simp; omega) 37
     exact rs_run (wanted_none rfl) (exec_app rfl rfl (by simp only [Act.eval]; exact e16) hr) (sp_set 0 (.cells v6 L[n].1) (by kernel_rfl) (by simp) (by decide) hl hs (by rfl) (Objs.place (by simpa using hS2) (sg h0)) ⟨A6, _, c6, hv6⟩)
    apply sc
    ·intro a w' vs σ hS hl hs hk
     have f0 : a.tmps[0]?.getD undef = .slice (some ⟨b, off, none⟩) L.length c := sof hk
     exact rp (.slice (some ⟨b, off, none⟩) L.length c) (by simp [execOp, Act.eval, f0, go_sem]) hl hs hS
    apply sc
    ·intro a w' vs σ hS hl hs hk
     have f4 : a.tmps[4]?.getD undef = .int .i64 ↑n := sof hk
     exact rp (.int .i64 ↑n) (by simp [execOp, Act.eval, f4, go_sem]) hl hs hS
    apply sc
    ·intro a w' vs σ hS hl hs hk
     have f18 : a.tmps[18]?.getD undef = .slice (some ⟨b, off, none⟩) L.length c := sf hk 7
     have f19 : a.tmps[19]?.getD undef = .int .i64 ↑n := sf hk 8
     exact rp (pt b (off + n * 2)) (by simp [execOp, Act.eval, f18, f19, go_sem, hlt, hlz, hlz2]) hl hs hS
    apply sc
    ·intro a w' vs σ hS hl hs hk
     have f20 : a.tmps[20]?.getD undef = .pointer (some ⟨b, off + n * 2, none⟩) := sf hk 9
     exact rp (pt b (off + n * 2 + 1)) (by simp [execOp, Act.eval, f20, go_sem]) hl hs hS
    apply sc
    ·intro a w' vs σ hS hl hs hk
     have f21 : a.tmps[21]?.getD undef = .pointer (some ⟨b, off + n * 2 + 1, none⟩) := sf hk 10
     have hx := (hS.base.cell (p := ⟨b, off + n * 2 + 1, none⟩) hz).trans hc2
     exact rp (.bool L[n].2) (by simp [execOp, Act.eval, f21, go_sem, hx]) hl hs hS
    apply sc
    ·intro a w' vs σ hS hl hs hk
     have e17 : a.tmps.getD 17 undef = vs 6 := sk_val hk 6 (by kernel_rfl) rfl rfl
     have p17 : (fun u : Value => ∃ A n c, u = .slice A n c) (vs 6) := (hk.1 6 (by kernel_rfl)).1
     have f22 : a.tmps[22]?.getD undef = .bool L[n].2 := sf hk 11
     obtain ⟨A6, n6, c6, q6⟩ := p17
     have e9 := e17.trans q6
     have f9 := gd e9
     have h0 : σ[0]? = some (.cells (vs 6) L[n].1) := hs 0 (by decide)
     rw [q6] at h0
     have hSS : Objs w w' ((σ ++ []).set 0 (.cells (.slice A6 n6 c6) L[n].1)) := by rw [set_self (sg h0)]; exact hS
     exact rs_run (v' := .agg #[.slice A6 n6 c6, .bool L[n].2]) (w' := w') (wanted_none rfl) (by simp [execOp, Act.eval, e9, f9, f22, go_sem]) (sp_set 0 (.cells (.slice A6 n6 c6) L[n].1) (by kernel_rfl) (by simp) (by decide) hl hs (by rfl) hSS ⟨A6, n6, c6, rfl⟩)
    apply sc
    ·intro a w' vs σ hS hl hs hk
     have e23 : a.tmps.getD 23 undef = vs 12 := sk_val hk 12 (by kernel_rfl) rfl rfl
     have p23 : (fun u : Value => ∃ A m c, u = .agg #[.slice A m c, .bool L[n].2]) (vs 12) := (hk.1 12 (by kernel_rfl)).1
     obtain ⟨A6, n6, c6, q6⟩ := p23
     have e9 := e23.trans q6
     have f9 := gd e9
     have h1 : σ[1]? = some .none := hs 1 (by decide)
     exact rs_run (wanted_none rfl) (exec_bsl rfl (by simp [Act.eval, e9, f9]) (run_bsl (.slice A6 n6 c6) L[n].2 w')) (sp_set 1 (.box w'.heap.size 39 #[.slice A6 n6 c6, .bool L[n].2]) (by kernel_rfl) (by simp) (by decide) hl hs (by show Ob.box (blkOf (.slice (some ⟨w'.heap.size, 0, none⟩) 1 1)) 39 #[lineV (vs 12), .bool L[n].2] = _; rw [q6]; rfl) (hS.alloc1.place (sg h1)) ⟨_, rfl⟩)
    apply sc
    ·intro a w' vs σ hS hl hs hk
     have e11 : a.tmps.getD 11 undef = (v : Value) := sv hk 0
     have e24 : a.tmps.getD 24 undef = vs 13 := sk_val hk 13 (by kernel_rfl) rfl rfl
     have p24 : (fun u : Value => ∃ g, u = .slice (some ⟨g, 0, none⟩) 1 1) (vs 13) := (hk.1 13 (by kernel_rfl)).1
     have h2 : σ[2]? = some (.lines v (L.take n)) := hs 2 (by decide)
     have h0 : σ[0]? = some (.cells (lineV (vs 12)) L[n].1) := hs 0 (by decide)
     have h1 : σ[1]? = some (.box (blkOf (vs 13)) 39 #[lineV (vs 12), .bool L[n].2]) := hs 1 (by decide)
     obtain ⟨g8, hg8⟩ := p24
     rw [hg8, show blkOf (.slice (some ⟨g8, 0, none⟩) 1 1) = g8 from rfl] at h1
     obtain ⟨v9, w9, hr, hS2, A9, c9, hv9⟩ := run_appL hS (k := 2) (j := 0) (ad := ⟨g8, 0, none⟩) (c := 1) (s := L[n].2) (sg h2) (sg h0) (by decide) (by rw [(hS.box (sg h1)).cell]; rfl) (by rw [add_at, (hS.box (sg h1)).cell]; rfl) (by simp; omega) 30
     rw [HTK.out] at hS2
     exact rs_run (wanted_none rfl) (exec_app rfl (by simp only [Act.eval]; exact e11) (by simp only [Act.eval]; exact e24.trans hg8) hr) (sp_set2 2 0 (.lines v9 (L.take (n + 1))) .none (by decide) (by kernel_rfl) (by simp) (by simp) (by decide) (by decide) hl hs (by rfl) (by rfl) hS2 ⟨A9, _, c9, hv9⟩)
    apply sc
    ·intro a w' vs σ hS hl hs hk
     have e25 : a.tmps.getD 25 undef = vs 14 := sk_val hk 14 (by kernel_rfl) rfl rfl
     have p25 : (fun u : Value => ∃ A m c, u = .slice A m c) (vs 14) := (hk.1 14 (by kernel_rfl)).1
     obtain ⟨A9, n9, c9, q9⟩ := p25
     have e9 := e25.trans q9
     have f9 := gd e9
     have h2 : σ[2]? = some (.lines (vs 14) (L.take (n + 1))) := hs 2 (by decide)
     rw [q9] at h2
     have hSS : Objs w w' ((σ ++ []).set 2 (.lines (.slice A9 n9 c9) (L.take (n + 1)))) := by rw [set_self (sg h2)]; exact hS
     exact rs_run (v' := .slice A9 n9 c9) (w' := w') (wanted_none rfl) (by simp [execOp, Act.eval, e9, f9, go_sem]) (sp_set 2 (.lines (.slice A9 n9 c9) (L.take (n + 1))) (by kernel_rfl) (by simp) (by decide) hl hs (by rfl) hSS ⟨A9, n9, c9, rfl⟩)
    exact SSteps.nil
   ·intro vs w' hS hv
    have q0 : vs 0 = _ := hv 0 (by decide)
    have q1 : vs 1 = _ := hv 1 (by decide)
    have q2 : vs 2 = _ := hv 2 (by decide)
    have q3 : vs 3 = _ := hv 3 (by decide)
    have q4 : vs 4 = _ := hv 4 (by decide)
    have q5 : vs 5 = _ := hv 5 (by decide)
    have q7 : vs 7 = _ := hv 7 (by decide)
    have q8 : vs 8 = _ := hv 8 (by decide)
    have q9 : vs 9 = _ := hv 9 (by decide)
    have q10 : vs 10 = _ := hv 10 (by decide)
    have q11 : vs 11 = _ := hv 11 (by decide)
    have S2 := Lib.hid hS
    simp only [putL, Act.put, Nat.zero_add, Nat.reduceAdd, List.setIfInBounds_toArray, List.set_cons_succ, List.set_cons_zero, q0, q1, q2, q3, q4, q5, q7, q8, q9, q10, q11]
    clear hS hv q0 q1 q2 q3 q4 q5 q7 q8 q9 q10 q11
    go_wp2_with fail
    go_roundw
    case rel => exact ⟨n + 1, vs 15, by omega, rfl, by go_num, (S2.out.del 0).del 0⟩
    case measure => simp [intOf]; omega
  ·have HTK := Lib.hid (show L.take n = L from List.take_of_length_le (by omega))
   go_wp2_with fail
   go_ret
   exact ⟨_, rfl, by have := S.out; rw [HTK.out] at this; exact this⟩
end Go.Proofs.YtppijfjigcoifaaDoor

namespace Go.Proofs.YtppijfjigcoifaaDoor
open Go.RowKit

theorem RdL.part {w : World} {b off c c' a m : Nat} {L : List Ln} (h : RdL w (some ⟨b, off, none⟩) c L) (ham : a + m ≤ L.length) (hm : m ≤ c') : RdL w (some ⟨b, off + a * 2, none⟩) c' ((L.drop a).take m) := by
 refine ⟨by simp; omega, (fun e => by cases e), fun hn => ?_⟩
 have hm0 : 0 < m := by simp at hn; omega
 obtain ⟨b', off', e, hz, hr⟩ := h.2.2 (by omega)
 cases e
 refine ⟨b, off + a * 2, rfl, hz, fun i l hl => ?_⟩
 rw [List.getElem?_take] at hl
 split at hl
 ·rw [List.getElem?_drop] at hl
  obtain ⟨A', c', h1, h2, h3⟩ := hr (a + i) l hl
  exact ⟨A', c', by rw [show off + a * 2 + i * 2 = off + (a + i) * 2 by omega]; exact h1, by rw [show off + a * 2 + i * 2 + 1 = off + (a + i) * 2 + 1 by omega]; exact h2, h3⟩
 ·cases hl
theorem RdL.empty (w : World) (ad : Addr) (c : Nat) : RdL w (some ad) c [] := ⟨by simp, (fun e => by cases e), fun h => by simp at h⟩
theorem copies_at {A : Option Addr} {c m : Nat} {L : List Ln} {w : World} (hm : m = L.length) (ha : RdL w A c L) (hL : L.length ≤ 1000000) (hx : ∀ l ∈ L, l.1.length ≤ 1000000) :
  Calls Tryd.prog 24 #[.slice A m c] w fun e w' => ∃ v, e = .returned v ∧ Objs w w' [.lines v L] := by
 subst hm; exact copies_base A c L w ha hL hx
section
variable {w0 w : World} {os : List Ob} {v : Value} {hp : List (Value × Bool)}
theorem drew_bel (w : World) : Below w.heap.size w w.drew := ⟨rfl, rfl, rfl, Nat.le_refl _, fun _ _ => rfl⟩
theorem run_appK (hS : Objs w0 w os) {k : Nat} (hk : os[k]? = some (.heads v hp)) {ad : Addr} {m c : Nat} {ds : List (Value × Bool)} (hm : m = ds.length) (hm0 : 0 < m) (hr : ∀ (i : Nat) (x : Value), (flat2 ds)[i]? = some x → w.cell? (ad.add i) = some x) (h1 : ∀ x ∈ ds, x.1.oneCell' = true) (hlen : hp.length + ds.length ≤ 1000000) (ty : TypeId) :
  ∃ v' w', (Builtin.append_ #[30, 30] ty #[v, .slice (some ad) m c]).run Tryd.prog w = .ok v' w' ∧ Objs w0 w' os ∧ ∃ A' n' c', v' = .slice A' n' c' := by
 subst hm
 obtain ⟨i, hi, hz0, hz1, hz2⟩ := info_parts line_info
 have ho := hS.headsOwn hk
 rcases ho.2 with ⟨rfl, hn0⟩ | ⟨g, cap, cur, rfl, hb, hg, hnc, hcm, hsz, htk⟩
 ·have hr2 := run_append_nil (P := Tryd.prog) w 30 ty 39 i _ Tryd.underlying30 hi hz0 ad ds.length c (flat2 ds) (by rw [hz1]; exact flat2_length ds) hr (by omega) (by first | omega | (simp only [maxLen]; omega)) (by rw [hz2]; omega)
  exact ⟨_, _, hr2, hS.bel (((drew_bel w).alloc (Nat.le_refl _) _)), _, _, _, rfl⟩
 ·by_cases hroom : hp.length + ds.length ≤ cap
  ·obtain ⟨w', e1, e2, e3⟩ := run_append_own_spare (P := Tryd.prog) w 0 30 ty 39 i 2 Tryd.underlying30 hi hz1 g hp.length cap (flat2 hp) ho ad ds.length c (flat2 ds) (flat2_length ds) hr (flat2_one h1) hroom
   refine ⟨_, w', e1, ?_, _, _, _, rfl⟩
   have hnew : w'.ownsRow 0 39 2 (.slice (some ⟨g, 0, none⟩) hp.length cap) hp.length (flat2 hp) := by
    refine ⟨flat2_length hp, .inr ?_⟩
    rcases e2.2 with ⟨h', _⟩ | ⟨g', cap', cur', he, hb', hg', hnc', hm', hsz', htk'⟩
    ·cases h'
    ·simp only [Value.slice.injEq, Option.some.injEq, Addr.mk.injEq, and_true, true_and] at he
     obtain ⟨rfl, rfl⟩ := he
     refine ⟨g, cap, cur', rfl, hb', hg', hnc, hm', hsz', ?_⟩
     have := congrArg (List.take (hp.length * 2)) htk'
     rw [List.take_take, Nat.min_eq_left (by omega), List.take_left' (flat2_length hp)] at this
     exact this
   have := hS.headsUpd hk hnew e3
   rwa [set_self hk] at this
  ·have holds : ∀ j u, (flat2 hp)[j]? = some u → w.cell? ((⟨g, 0, none⟩ : Addr).add j) = some u := World.ownsRow.cells ho (g := g) rfl
   have hr2 := run_append_grow (P := Tryd.prog) w 30 ty 39 i _ Tryd.underlying30 hi hz0 ⟨g, 0, none⟩ hp.length cap (flat2 hp) (by rw [hz1]; exact flat2_length hp) holds ad ds.length c (flat2 ds) (by rw [hz1]; exact flat2_length ds) hr (by omega) (by first | omega | (simp only [maxLen]; omega)) (growslice_fits (by omega) (by rw [hz2]; omega))
   exact ⟨_, _, hr2, hS.bel (((drew_bel w).alloc (Nat.le_refl _) _)), _, _, _, rfl⟩
theorem roll_open {v vs vf : Value} {L St Fr : List Ln} {g b7 bx b5 : Ob} (h : Objs w0 w (g :: .lines vs St :: .lines v L :: .lines vf Fr :: b7 :: bx :: b5 :: os)) : ∃ T Ts Tf : List Tr, (lnP T = L ∧ lnP Ts = St ∧ lnP Tf = Fr) ∧ (∀ x ∈ hdP Ts, x.1.oneCell' = true) ∧ (∀ x ∈ hdP Tf, x.1.oneCell' = true) ∧
  Objs w0 w (.heads v (hdP T) :: .heads vs (hdP Ts) :: .heads vf (hdP Tf) :: bx :: b5 :: .pile (piP T ++ (piP Tf ++ piP Ts)) :: g :: b7 :: os) := by
 obtain ⟨Ts, e1, f1, h1⟩ := h.toHeads (k := 1) rfl
 obtain ⟨Tf, e2, f2, h2⟩ := (show Objs w0 w (.pile (piP Ts) :: g :: .heads vs (hdP Ts) :: .lines v L :: .lines vf Fr :: b7 :: bx :: b5 :: os) from h1).toHeads (k := 4) rfl
 obtain ⟨T, e3, f3, h3⟩ := (show Objs w0 w (.pile (piP Tf) :: .pile (piP Ts) :: g :: .heads vs (hdP Ts) :: .lines v L :: .heads vf (hdP Tf) :: b7 :: bx :: b5 :: os) from h2).toHeads (k := 4) rfl
 have h4 := (show Objs w0 w (.pile (piP T) :: .pile (piP Tf) :: .pile (piP Ts) :: g :: .heads vs (hdP Ts) :: .heads v (hdP T) :: .heads vf (hdP Tf) :: b7 :: bx :: b5 :: os) from h3).pileJoin.pileJoin
 rw [List.append_assoc] at h4
 have m1 := (h4.lift (k := 7) rfl : Objs w0 w (b5 :: .pile (piP T ++ (piP Tf ++ piP Ts)) :: g :: .heads vs (hdP Ts) :: .heads v (hdP T) :: .heads vf (hdP Tf) :: b7 :: bx :: .none :: os)).del 8
 have m2 := ((show Objs w0 w (b5 :: .pile (piP T ++ (piP Tf ++ piP Ts)) :: g :: .heads vs (hdP Ts) :: .heads v (hdP T) :: .heads vf (hdP Tf) :: b7 :: bx :: os) from m1).lift (k := 7) rfl : Objs w0 w (bx :: b5 :: .pile (piP T ++ (piP Tf ++ piP Ts)) :: g :: .heads vs (hdP Ts) :: .heads v (hdP T) :: .heads vf (hdP Tf) :: b7 :: .none :: os)).del 8
 have m3 := ((show Objs w0 w (bx :: b5 :: .pile (piP T ++ (piP Tf ++ piP Ts)) :: g :: .heads vs (hdP Ts) :: .heads v (hdP T) :: .heads vf (hdP Tf) :: b7 :: os) from m2).lift (k := 6) rfl : Objs w0 w (.heads vf (hdP Tf) :: bx :: b5 :: .pile (piP T ++ (piP Tf ++ piP Ts)) :: g :: .heads vs (hdP Ts) :: .heads v (hdP T) :: .none :: b7 :: os)).del 7
 have m4 := ((show Objs w0 w (.heads vf (hdP Tf) :: bx :: b5 :: .pile (piP T ++ (piP Tf ++ piP Ts)) :: g :: .heads vs (hdP Ts) :: .heads v (hdP T) :: b7 :: os) from m3).lift (k := 5) rfl : Objs w0 w (.heads vs (hdP Ts) :: .heads vf (hdP Tf) :: bx :: b5 :: .pile (piP T ++ (piP Tf ++ piP Ts)) :: g :: .none :: .heads v (hdP T) :: b7 :: os)).del 6
 have m5 := ((show Objs w0 w (.heads vs (hdP Ts) :: .heads vf (hdP Tf) :: bx :: b5 :: .pile (piP T ++ (piP Tf ++ piP Ts)) :: g :: .heads v (hdP T) :: b7 :: os) from m4).lift (k := 6) rfl : Objs w0 w (.heads v (hdP T) :: .heads vs (hdP Ts) :: .heads vf (hdP Tf) :: bx :: b5 :: .pile (piP T ++ (piP Tf ++ piP Ts)) :: g :: .none :: b7 :: os)).del 7
 exact ⟨T, Ts, Tf, ⟨e3, e1, e2⟩, f1, f2, m5⟩
theorem Objs.pileForm {ps : List (Value × List Cell)} (h : Objs w0 w os) {k : Nat} (hk : os[k]? = some (.pile ps)) : ∀ x ∈ ps, ∃ A n c, x.1 = .slice A n c := fun x hx => by
 obtain ⟨F, hF⟩ := h.get hk
 obtain ⟨A, c, e, -⟩ := (hF.1 x hx).form
 exact ⟨A, _, c, e⟩
theorem roll_shut {v : Value} {P : List (Value × List Cell)} {M T' : List Tr} {ha bx b5 g b7 : Ob} (hp : P.Perm (piP M ++ piP T')) (h : Objs w0 w (.heads v (hdP T') :: ha :: bx :: b5 :: .pile P :: g :: b7 :: os)) : Objs w0 w (.lines v (lnP T') :: bx :: b5 :: g :: b7 :: os) := by
 have h1 := (h.lift (k := 4) rfl : Objs w0 w (.pile P :: .heads v (hdP T') :: ha :: bx :: b5 :: .none :: g :: b7 :: os)).del 5
 have h2 := ((show Objs w0 w (.pile P :: .heads v (hdP T') :: ha :: bx :: b5 :: g :: b7 :: os) from h1).pilePerm (k := 0) rfl hp : Objs w0 w (.pile (piP M ++ piP T') :: .heads v (hdP T') :: ha :: bx :: b5 :: g :: b7 :: os)).pileSplit.tail
 have h3 := (h2.ofHeads (k := 0) rfl : Objs w0 w (.lines v (lnP T') :: ha :: bx :: b5 :: g :: b7 :: os))
 exact h3.del 1
end
section
variable {T Ts Tf : List Tr} {L : List Ln} {top bot k many cols : Nat} {n : Int} {q : Pen}
theorem rperm {All : List Tr} (hA : (piP Tf ++ piP Ts).Perm (piP All)) : (piP T ++ (piP Tf ++ piP Ts)).Perm (piP ((T.drop top).take many) ++ piP (T.take top ++ (All ++ (T.drop top).drop many))) := by
 have e : T = T.take top ++ ((T.drop top).take many ++ (T.drop top).drop many) := by rw [List.take_append_drop, List.take_append_drop]
 conv => lhs; rw [e]
 rw [piP_append, piP_append, piP_append, piP_append]
 refine (List.Perm.append_left _ hA).trans ?_
 rw [List.append_assoc, List.append_assoc]
 exact (List.perm_append_comm_assoc _ _ _).trans (List.Perm.append_left _ (List.Perm.append_left _ List.perm_append_comm))
theorem rgone_pos (hn : 0 < n) (hm : many = bot + 1 - top) (hk : rollK n (bot + 1 - top) = k) (hkm : k ≤ many) : (L.drop top).take k = rollGone top bot n L := by
 unfold rollGone rollIn
 rw [if_neg (by omega), if_pos hn, hk, ← hm, List.take_take, Nat.min_eq_left hkm]
theorem rgone_neg (hn : n < 0) (hm : many = bot + 1 - top) (hk : rollK n (bot + 1 - top) = k) (hkm : k ≤ many) : (L.drop (top + (many - k))).take k = rollGone top bot n L := by
 unfold rollGone rollIn
 rw [if_neg (by omega), if_neg (by omega), hk, ← hm, List.drop_take, List.drop_drop, show many - (many - k) = k by omega]
theorem rleft_pos (hn : 0 < n) (hm : many = bot + 1 - top) (htb : top ≤ bot) (hk : rollK n (bot + 1 - top) = k) (hT : lnP T = L) (hTs : lnP Ts = lastHard ((L.drop (top + k)).take (many - k))) (hTf : lnP Tf = rollFresh k cols q) :
  topHard top (lnP (T.take top ++ ((Ts ++ Tf) ++ (T.drop top).drop many))) = rollL top bot n q cols L := by
 unfold rollL rollMid rollStay rollIn
 rw [if_neg (by omega), if_pos hn, if_pos hn, hk, ← hm, List.drop_take, List.drop_drop, lnP_append, lnP_append, lnP_append, hTs, hTf, lnP_take, hT, List.drop_drop, lnP_drop, hT, show top + many = bot + 1 by omega]
theorem rleft_neg (hn : n < 0) (hm : many = bot + 1 - top) (htb : top ≤ bot) (hk : rollK n (bot + 1 - top) = k) (hkm : k ≤ many) (hT : lnP T = L) (hTs : lnP Ts = lastHard ((L.drop top).take (many - k))) (hTf : lnP Tf = rollFresh k cols q) :
  topHard top (lnP (T.take top ++ ((Tf ++ Ts) ++ (T.drop top).drop many))) = rollL top bot n q cols L := by
 unfold rollL rollMid rollStay rollIn
 rw [if_neg (by omega), if_neg (by omega), if_neg (by omega), hk, ← hm, List.take_take, Nat.min_eq_left (by omega), lnP_append, lnP_append, lnP_append, hTs, hTf, lnP_take, hT, List.drop_drop, lnP_drop, hT, show top + many = bot + 1 by omega]
end
end Go.Proofs.YtppijfjigcoifaaDoor
