/-
  Part 4 of the texts on which the proofs of this seat stand: each part says ahead of it what it shows.
-/
import Derived.Test.YtppijfjigcoifaaDoorM3
import Derived.Lib.MinMax
import Derived.Deep.DeepAppendRoom
import Derived.Laws.OwnMore

/-
  Roll of the program's grid.
-/
set_option linter.unusedSimpArgs false
set_option linter.unusedVariables false
namespace Go.Proofs.YtppijfjigcoifaaDoor
open Go.RowKit

section
variable {w0 w : World} {os : List Ob}
theorem ord7 {vg v p7 b7 b5 bp : Ob} (h : Objs w0 w (vg :: v :: p7 :: b7 :: b5 :: bp :: os)) : Objs w0 w (v :: b7 :: bp :: vg :: p7 :: b5 :: os) := by
  have h1 := (h.lift (k := 5) rfl : Objs w0 w (bp :: vg :: v :: p7 :: b7 :: b5 :: .none :: os)).del 6
  have h2 := ((show Objs w0 w (bp :: vg :: v :: p7 :: b7 :: b5 :: os) from h1).lift (k := 4) rfl : Objs w0 w (b7 :: bp :: vg :: v :: p7 :: .none :: b5 :: os)).del 5
  have h3 := ((show Objs w0 w (b7 :: bp :: vg :: v :: p7 :: b5 :: os) from h2).lift (k := 3) rfl : Objs w0 w (v :: b7 :: bp :: vg :: .none :: p7 :: b5 :: os)).del 4
  exact h3
/-- Behind the roll: the grid is closed. -/
theorem fin_roll {l2 o2 b5 : Ob} {p : Nat} {t : TypeId} {cols : Int} {v : Value} {L1 : List Ln} (h : Objs w0 w (l2 :: .lines v L1 :: o2 :: .box p t #[.int .i64 cols, v] :: b5 :: os)) : Objs w0 w (l2 :: .grid p t cols L1 :: os) := by
  have h1 := ((h.lift (k := 1) rfl : Objs w0 w (.lines v L1 :: l2 :: .none :: o2 :: .box p t #[.int .i64 cols, v] :: b5 :: os)).closeGrid (k := 3) rfl : Objs w0 w (l2 :: .none :: o2 :: .grid p t cols L1 :: b5 :: os))
  exact ((h1.del 1).del 1).del 2
theorem ord_roll {l2 o2 b5 op : Ob} {v : Value} {L1 : List Ln} (h : Objs w0 w (l2 :: .lines v L1 :: o2 :: op :: b5 :: os)) : Objs w0 w (.lines v L1 :: op :: b5 :: l2 :: o2 :: os) := by
  have h1 := (h.lift (k := 4) rfl : Objs w0 w (b5 :: l2 :: .lines v L1 :: o2 :: op :: .none :: os)).del 5
  have h2 := ((show Objs w0 w (b5 :: l2 :: .lines v L1 :: o2 :: op :: os) from h1).lift (k := 4) rfl : Objs w0 w (op :: b5 :: l2 :: .lines v L1 :: o2 :: .none :: os)).del 5
  have h3 := ((show Objs w0 w (op :: b5 :: l2 :: .lines v L1 :: o2 :: os) from h2).lift (k := 3) rfl : Objs w0 w (.lines v L1 :: op :: b5 :: l2 :: .none :: o2 :: os)).del 4
  exact h3
theorem fin_roll2 {l2 o2 b5 : Ob} {p : Nat} {t : TypeId} {cols : Int} {v : Value} {L1 : List Ln} (h : Objs w0 w (.lines v L1 :: .box p t #[.int .i64 cols, v] :: b5 :: l2 :: o2 :: os)) : Objs w0 w (l2 :: .grid p t cols L1 :: os) := by
  have h1 := (h.closeGrid (k := 0) rfl : Objs w0 w (.grid p t cols L1 :: b5 :: l2 :: o2 :: os))
  exact ((h1.del 1).swap).del 2
end
section
variable {w0 w : World} {os : List Ob} {p cols : Nat} {L : List Ln}
set_option maxRecDepth 100000 in
set_option maxHeartbeats 8000000 in
theorem Roll_pos {top bot k : Nat} {n : Int} (q : Pen) (hT : Tabs w0) (hS : Objs w0 w (.grid p 58 cols L :: os)) (hc : 0 < cols) (hcm : cols ≤ 1000) (hL : L.length ≤ 100000) (htb : top ≤ bot) (hbl : bot < L.length) (hq : q.ok = true) (hn : 0 < n) (hk : (n < ((bot + 1 - top : Nat) : Int) ∧ n = (k : Int)) ∨ ((((bot + 1 - top : Nat) : Int) ≤ n ∧ n ≤ 9223372036854775807) ∧ k = bot + 1 - top)) :
    Calls Tryd.prog 50 #[.pointer (some ⟨p, 0, none⟩), .agg #[.int .i64 top, .int .i64 bot], .int .i64 n, .agg (pv q)] w fun e w' => ∃ A m c, e = .returned (.tuple #[.slice A m c, .int .i64 0]) ∧ Objs w0 w' (.lines (.slice A m c) (rollGone top bot n L) :: .grid p 58 cols (rollL top bot n q cols L) :: os) := by
  have S := Lib.hid hS
  have HT := Lib.hid hT
  have HQ := Lib.hid hq
  have HK := Lib.hid hk
  obtain ⟨many, hmany⟩ : ∃ many, many = bot + 1 - top := ⟨_, rfl⟩
  have HMANY := Lib.hid hmany
  have hb0 := beq_no (show ¬ n = 0 by omega)
  have d1 : decide ((top : Int) < 0) = false := by simp
  have d2 : decide ((bot : Int) < top) = false := by simp; omega
  have d2n : decide (bot < top) = false := by simp; omega
  have d3 : decide ((L.length : Int) ≤ bot) = false := by simp; omega
  have d3n : decide (L.length ≤ bot) = false := by simp; omega
  clear hS hT hq hk hmany
  go_enter Tryd.func50, Tryd.ntmps50
  go_wp2_with fail
  refine (none_no S.out.alloc2 (k := 2) rfl hc).mono ?_
  rintro e w1 ⟨rfl, hS⟩
  generalize w.heap.size + 1 = b7 at hS ⊢
  generalize w.heap.size = b5 at hS ⊢
  obtain ⟨v, hS1⟩ := hS.openGrid (k := 2) rfl
  obtain ⟨T, hTL, hone, hS2⟩ := hS1.toHeads (k := 0) rfl
  obtain ⟨A, c, rfl, hlc, hcmx, -, hgr⟩ := hS2.headsForm (k := 1) rfl
  have hTl : (hdP T).length = L.length := by rw [hdP_length, ← hTL, lnP_length]
  rw [hTl] at hS2 hlc hgr
  obtain ⟨gr, rfl, hgz, -, -⟩ := hgr (by omega)
  have S2 := Lib.hid hS2
  obtain ⟨hx5, hf5, hz5⟩ := (hS2.box (k := 3) rfl).facts
  obtain ⟨hxp, hfp, hzp⟩ := (hS2.box (k := 4) rfl).facts
  have HTL := Lib.hid hTL
  have HTl := Lib.hid hTl
  have HONE := Lib.hid hone
  clear hS hS1 hS2 S hTL hTl hone hgr hgz
  go_wp2_with fail
  refine wp_region_below (by kernel_rfl) (by kernel_rfl) ?_
  repeat (go_big_quiet_step (fail))
  refine wpQuiet_nil ?_
  intro w2 hb2
  have S3 := Lib.hid (S2.out.bel hb2)
  clear hx5 hf5 hz5 hxp hfp hzp S2 hb2
  have hp7 := (S3.out.box (k := 2) rfl).penAt
  have hz7 := (S3.out.box (k := 2) rfl).lt
  go_wp2_with fail
  refine (inked_is HQ.out HT.out S3.out).mono ?_
  rintro e w3 ⟨rfl, hS⟩
  have S4 := Lib.hid hS
  obtain ⟨hx5, hf5, hz5⟩ := (hS.box (k := 3) rfl).facts
  obtain ⟨hxp, hfp, hzp⟩ := (hS.box (k := 4) rfl).facts
  clear hS S3 hp7 hz7
  go_wp2_with fail
  refine wp_region_below (by kernel_rfl) (by kernel_rfl) ?_
  repeat (go_big_quiet_step (fail))
  refine wpQuiet_nil ?_
  intro w4 hb4
  have S5 := Lib.hid (show Objs w0 w4 (.pile (piP T) :: .heads (.slice (some ⟨gr, 0, none⟩) L.length c) (hdP T) :: .box b7 54 (pv q) :: .box b5 106 #[.int .i64 top, .int .i64 bot] :: .box p 58 #[.int .i64 cols, .slice (some ⟨gr, 0, none⟩) L.length c] :: os) from S4.out.bel hb4)
  clear hx5 hf5 hz5 hxp hfp hzp S4 hb4
  rw [← HMANY.out]
  have hmb : many ≤ 100000 := by have := HMANY.out; omega
  have hm1 : 0 < many := by have := HMANY.out; omega
  have htm : top + many ≤ L.length := by have := HMANY.out; omega
  have hkm : k ≤ many := by have := HK.out; have := HMANY.out; omega
  have hk0 : 0 < k := by have := HK.out; have := HMANY.out; omega
  have hctop : many ≤ c - top := by omega
  have HK2 := HK.out
  rw [← HMANY.out] at HK2
  have HKK := Lib.hid (rollK_is (n := n) (k := k) HMANY.out (by rcases HK2 with ⟨a1, a2⟩ | ⟨⟨a1, a3⟩, a2⟩ <;> omega))
  have HPERM := Lib.hid (perm_pos (T := T) (top := top) hkm)
  have HGONE := Lib.hid (gone_pos HTL.out hn HMANY.out HKK.out hkm)
  have HLEFT := Lib.hid (fun (F : List Tr) (hF : lnP F = rollFresh k cols q) => left_pos HTL.out hn HMANY.out htb HKK.out hkm hF)
  obtain ⟨G, hG⟩ : ∃ G, G = (T.drop top).take k := ⟨_, rfl⟩
  obtain ⟨T1, hT1⟩ : ∃ T1, T1 = T.take top := ⟨_, rfl⟩
  obtain ⟨Sx, hSx⟩ : ∃ Sx, Sx = (T.drop (top + k)).take (many - k) := ⟨_, rfl⟩
  obtain ⟨R, hR⟩ : ∃ R, R = T.drop (top + (many - k)) := ⟨_, rfl⟩
  obtain ⟨X1, hX1⟩ : ∃ X1, X1 = T1 ++ hardR Sx := ⟨_, rfl⟩
  obtain ⟨a0, ha0⟩ : ∃ a0, a0 = top + (many - k) := ⟨_, rfl⟩
  have hTn : T.length = L.length := by have := HTl.out; rwa [hdP_length] at this
  have hT1l : T1.length = top := by rw [hT1]; simp; omega
  have hSxl : Sx.length = many - k := by rw [hSx]; simp; omega
  have hRll : R.length = L.length - a0 := by rw [hR, ha0]; simp; omega
  have HX1 := Lib.hid (show X1.length = a0 by rw [hX1, ha0]; simp [hardR_length, hT1l, hSxl])
  have HRL := Lib.hid hRll
  have hRk : k ≤ R.length := by omega
  rw [← hT1, ← hSx, ← hR, ← hX1, ← hG] at HPERM
  rw [← hT1, ← hSx, ← hR, ← hX1] at HLEFT
  rw [← hG] at HGONE
  have HG := Lib.hid hG.symm
  have HCP := Lib.hid (hdP_copied T top (top + k) (many - k))
  rw [← hT1, ← hSx, ← hR] at HCP
  have HXX := Lib.hid hX1
  have HA0 := Lib.hid ha0
  have HSXL := Lib.hid hSxl
  have HT1L := Lib.hid hT1l
  have HRLL := Lib.hid hRll
  have HPB := Lib.hid (show many = k → (hdP T).take top ++ (((hdP T).drop top).take 0 ++ (hdP T).drop (top + 0)) = hdP X1 ++ hdP R from fun e => by
    have hS0 : Sx = [] := List.eq_nil_of_length_eq_zero (by omega)
    have h := HCP.out
    rw [show many - k = 0 by omega] at h
    rw [HXX.out, hS0, hdP_append, List.append_assoc]
    rw [hS0] at h
    simp only [List.take_zero] at h ⊢
    exact h)
  clear hG hT1 hSx hR hX1 hTn hT1l hSxl hRll
  rcases HK2 with ⟨h1, h2⟩ | ⟨⟨h1, h3⟩, h2⟩
  · subst h2
    have hmax : max (k : Int) (-(k : Int)) = (k : Int) := by omega
    have hnm : -(many : Int) < (k : Int) := by omega
    have hkl : k < many := by omega
    clear ha0
    go_wp2_with fail
    refine (clone_front S5.out.swap HONE.out (a := top) (m := k) (by rw [HTl.out]; omega) (by omega) (by rw [HTl.out]; omega)).mono ?_
    rintro e w5 ⟨Ag, cg, rfl, hS⟩
    obtain ⟨w6, hr6, hS6⟩ := run_copyH hS (k := 1) rfl HONE.out top (top + k) (many - k) (some ⟨gr, top * 2, none⟩) (some ⟨gr, top * 2 + k * 2, none⟩) many (c - top) (many - k) (c - top - k) (Nat.min_eq_left (by omega)) (by rw [HTl.out]; omega) (by rw [HTl.out]; omega) (fun _ => ⟨rfl, by rw [Nat.add_mul]⟩) 3
    have HR6 := Lib.hid hr6
    rw [hdP_drop, hdP_take, HG.out, HCP.out] at hS6
    have hS6' := (show Objs w0 w6 (.heads (.slice Ag k cg) (hdP G) :: .heads (.slice (some ⟨gr, 0, none⟩) L.length c) (hdP T1 ++ (hdP Sx ++ hdP R)) :: .pile (piP T) :: .box b7 54 (pv q) :: .box b5 106 #[.int .i64 top, .int .i64 bot] :: .box p 58 #[.int .i64 cols, .slice (some ⟨gr, 0, none⟩) L.length c] :: os) from hS6)
    have hSl := HSXL.out
    have hTl2 := HT1L.out
    obtain ⟨xs, hxs⟩ := get_of (show Sx.length - 1 < Sx.length by omega)
    have hxh : (hdP T1 ++ (hdP Sx ++ hdP R))[top + (many - k - 1)]? = some (xs.1, xs.2.2) := by
      rw [List.getElem?_append_right (by rw [hdP_length]; omega), hdP_length, hTl2, Nat.add_sub_cancel_left, List.getElem?_append_left (by rw [hdP_length]; omega), ← hSl]
      simp [hdP, hxs]
    have hS7 := hS6'.softHead (k := 1) (s := false) rfl hxh
    have hid : top + (many - k - 1) = T1.length + (Sx.length - 1) := by omega
    have he : hdP T1 ++ (hdP (hardR Sx) ++ hdP R) = hdP X1 ++ hdP R := by rw [HXX.out, hdP_append, List.append_assoc]
    rw [hid, hdP_harden hxs, he, ← hid] at hS7
    obtain ⟨A8, c8, e8, -, -, -, hg8⟩ := hS6'.headsForm (k := 1) rfl
    simp only [Value.slice.injEq] at e8
    obtain ⟨rfl, -, rfl⟩ := e8
    obtain ⟨g8, e9, hz8, hcs8, hf8⟩ := hg8 (by simp only [List.length_append, hdP_length]; omega)
    cases e9
    have hx8 := (hcs8 _ _ hxh).2
    have hadr : (top + (many - k - 1)) * 2 + 1 = top * 2 + (many - k - 1) * 2 + 1 := by omega
    rw [hadr] at hx8 hS7
    have S7 := Lib.hid (ord7 hS7)
    have HMK := Lib.hid (show many - (many - k) = k from Nat.sub_sub_self hkm)
    have HAO := HA0.out
    clear hS hr6 hS6 hS6' S5 hS7 hxh hid he hcs8 hg8 hadr hSl hTl2 hxs
    go_wp2_with (refine wpList_copyK rfl _ _ 30 30 rfl rfl rfl HR6.out ?_)
    simp only [HMK.out]
    clear hx8 hf8 hz8 hmax hnm
    go_loopw [14, 127] (fun _ vi wr => ∃ (d : Nat) (F : List Tr), d ≤ k ∧ vi = .int .i64 d ∧ (F.length = d ∧ lnP F = rollFresh d cols q) ∧ Objs w0 wr (.heads (.slice (some ⟨gr, 0, none⟩) L.length c) (hdP X1 ++ (hdP F ++ hdP (R.drop d))) :: .box b7 54 (pv q) :: .box p 58 #[.int .i64 ↑cols, .slice (some ⟨gr, 0, none⟩) L.length c] :: .heads (.slice Ag k cg) (hdP G) :: .pile (piP T ++ piP F) :: .box b5 106 #[.int .i64 ↑top, .int .i64 ↑bot] :: os)) (fun _ vi _ => k - (intOf vi).toNat)
    case atStart => exact ⟨0, [], by omega, rfl, ⟨rfl, rfl⟩, by simpa [hdP, piP] using S7.out⟩
    case round =>
      obtain ⟨d, F, hik, rfl, hFF, hS⟩ := hrel
      have HF := Lib.hid hFF
      have S8 := Lib.hid hS
      clear hFF hS S7
      by_cases hlt : d < k
      case neg =>
        have hie : d = k := by omega
        have hX := S8.out
        have hFk := HF.out.2
        rw [hie] at hX hFk
        have hX2 := hX.dealIn HPERM.out
        have HLF := Lib.hid (HLEFT.out F hFk)
        obtain ⟨L1, hL1⟩ : ∃ L1, L1 = lnP X1 ++ (lnP F ++ lnP (R.drop k)) := ⟨_, rfl⟩
        rw [← hL1] at hX2 HLF
        have hL1l : L1.length = L.length := by rw [hL1]; simp only [List.length_append, lnP_length, List.length_drop]; have := HX1.out; have := HF.out.1; have := HRL.out; omega
        have SX := Lib.hid hX2
        obtain ⟨hx5, hf5, hz5⟩ := (hX2.box (k := 4) rfl).facts
        clear hie hX hX2 hFk hL1 S8
        by_cases ht0 : top = 0
        · have HT0 := Lib.hid (show topHard top L1 = L1 by unfold topHard; rw [if_neg (by omega)])
          have htg : ¬ (0 : Int) < (top : Int) := by omega
          have SF := Lib.hid (fin_roll SX.out)
          clear ht0
          go_wp2_with fail
          go_ret2
          exact ⟨Ag, k, cg, rfl, by rw [← HGONE.out, ← HLF.out, HT0.out]; exact SF.out⟩
        · have htg : (0 : Int) < (top : Int) := by omega
          obtain ⟨l9, hlt1⟩ := get_of (show top - 1 < L1.length by omega)
          have HT0 := Lib.hid (show L1.set (top - 1) (l9.1, false) = topHard top L1 by unfold topHard; rw [if_pos (by omega), softMod_some hlt1])
          have HWT := Lib.hid (show IntKind.i64.wrap ((top : Int) - 1) = (top : Int) - 1 from IntWalk.i64_in _ (by omega))
          have htz : (0 : Int) ≤ (top : Int) - 1 := by omega
          have htz2 : (top : Int) - 1 < (L.length : Int) := by omega
          have htz3 : ¬ (top : Int) < 1 := by omega
          have htn : ((top : Int) - 1).toNat = top - 1 := by omega
          have SY := Lib.hid (ord_roll SX.out)
          go_upto_region 31 with (fail)
          refine wp_region_stage (w0 := w0) (os := (.lines (.slice Ag k cg) (lnP G) :: .box b7 54 (pv q) :: os)) (by kernel_rfl) (by kernel_rfl) (by kernel_rfl) [(0, 9, [], fun vs => .lines (.slice (some ⟨gr, 0, none⟩) L.length c) (L1.set (top - 1) (l9.1, false)))] [[], [], [], [1], [], [2], [], [], [], [0]] [.lines (.slice (some ⟨gr, 0, none⟩) L.length c) L1, .box p 58 #[.int .i64 ↑cols, .slice (some ⟨gr, 0, none⟩) L.length c], .box b5 106 #[.int .i64 ↑top, .int .i64 ↑bot]] (fun i u => match i with | 0 => u = (.pointer (some ⟨p, 0, none⟩) : Value) | 1 => u = (.pointer (some ⟨p, 0, none⟩) : Value) | 2 => u = (.pointer (some ⟨p, 1, none⟩) : Value) | 3 => u = (.slice (some ⟨gr, 0, none⟩) L.length c : Value) | 4 => u = (.pointer (some ⟨b5, 0, none⟩) : Value) | 5 => u = (.int .i64 ↑top : Value) | 6 => u = (.int .i64 (↑top - 1) : Value) | 7 => u = (.pointer (some ⟨gr, (top - 1) * 2, none⟩) : Value) | 8 => u = (.pointer (some ⟨gr, (top - 1) * 2 + 1, none⟩) : Value) | 9 => True | _ => True) (fun vs => [.lines (.slice (some ⟨gr, 0, none⟩) L.length c) (L1.set (top - 1) (l9.1, false)), .box p 58 #[.int .i64 ↑cols, .slice (some ⟨gr, 0, none⟩) L.length c], .box b5 106 #[.int .i64 ↑top, .int .i64 ↑bot]]) (by kernel_rfl) (fun vs => by rfl) SY.out ?_ ?_
          · refine SSteps.cons (fun a w' vs σ hS hl hs hk => ?_) ?_
            · have e0 : a.tmps.getD 0 undef = (.pointer (some ⟨p, 0, none⟩) : Value) := (sk_old hk 0 (by kernel_rfl)).trans rfl
              have f0 := gd e0
              exact ro_pure (v := .pointer (some ⟨p, 0, none⟩)) (wanted_none rfl) (by simp [execOp, Act.eval, e0, f0, go_sem]) (sp_same (by kernel_rfl) hl hs hS (show (.pointer (some ⟨p, 0, none⟩) : Value) = _ from rfl)) trivial
            refine SSteps.cons (fun a w' vs σ hS hl hs hk => ?_) ?_
            · have e143 : a.tmps.getD 143 undef = (.pointer (some ⟨p, 0, none⟩) : Value) := (sk_val hk 0 (by kernel_rfl) rfl rfl).trans ((hk.1 0 (by kernel_rfl)).1)
              have f143 := gd e143
              exact ro_pure (v := .pointer (some ⟨p, 0, none⟩)) (wanted_none rfl) (by simp [execOp, Act.eval, e143, f143, go_sem]) (sp_same (by kernel_rfl) hl hs hS (show (.pointer (some ⟨p, 0, none⟩) : Value) = _ from rfl)) trivial
            refine SSteps.cons (fun a w' vs σ hS hl hs hk => ?_) ?_
            · have e144 : a.tmps.getD 144 undef = (.pointer (some ⟨p, 0, none⟩) : Value) := (sk_val hk 1 (by kernel_rfl) rfl rfl).trans ((hk.1 1 (by kernel_rfl)).1)
              have f144 := gd e144
              exact ro_pure (v := .pointer (some ⟨p, 1, none⟩)) (wanted_none rfl) (by simp [execOp, Act.eval, e144, f144, go_sem]) (sp_same (by kernel_rfl) hl hs hS (show (.pointer (some ⟨p, 1, none⟩) : Value) = _ from rfl)) trivial
            refine SSteps.cons (fun a w' vs σ hS hl hs hk => ?_) ?_
            · have e145 : a.tmps.getD 145 undef = (.pointer (some ⟨p, 1, none⟩) : Value) := (sk_val hk 2 (by kernel_rfl) rfl rfl).trans ((hk.1 2 (by kernel_rfl)).1)
              have f145 := gd e145
              have hx := (hS.box (sg (hs 1 (by decide)))).cell
              exact ro_pure (v := .slice (some ⟨gr, 0, none⟩) L.length c) (wanted_none rfl) (by simp [execOp, Act.eval, e145, f145, go_sem, hx]) (sp_same (by kernel_rfl) hl hs hS (show (.slice (some ⟨gr, 0, none⟩) L.length c : Value) = _ from rfl)) trivial
            refine SSteps.cons (fun a w' vs σ hS hl hs hk => ?_) ?_
            · have e5 : a.tmps.getD 5 undef = (.pointer (some ⟨b5, 0, none⟩) : Value) := (sk_old hk 5 (by kernel_rfl)).trans rfl
              have f5 := gd e5
              exact ro_pure (v := .pointer (some ⟨b5, 0, none⟩)) (wanted_none rfl) (by simp [execOp, Act.eval, e5, f5, go_sem]) (sp_same (by kernel_rfl) hl hs hS (show (.pointer (some ⟨b5, 0, none⟩) : Value) = _ from rfl)) trivial
            refine SSteps.cons (fun a w' vs σ hS hl hs hk => ?_) ?_
            · have e147 : a.tmps.getD 147 undef = (.pointer (some ⟨b5, 0, none⟩) : Value) := (sk_val hk 4 (by kernel_rfl) rfl rfl).trans ((hk.1 4 (by kernel_rfl)).1)
              have f147 := gd e147
              have hx := (hS.box (sg (hs 2 (by decide)))).cell
              exact ro_pure (v := .int .i64 ↑top) (wanted_none rfl) (by simp [execOp, Act.eval, e147, f147, go_sem, hx]) (sp_same (by kernel_rfl) hl hs hS (show (.int .i64 ↑top : Value) = _ from rfl)) trivial
            refine SSteps.cons (fun a w' vs σ hS hl hs hk => ?_) ?_
            · have e148 : a.tmps.getD 148 undef = (.int .i64 ↑top : Value) := (sk_val hk 5 (by kernel_rfl) rfl rfl).trans ((hk.1 5 (by kernel_rfl)).1)
              have f148 := gd e148
              exact ro_pure (v := .int .i64 (↑top - 1)) (wanted_none rfl) (by simp [execOp, Act.eval, e148, f148, go_sem, HWT.out]) (sp_same (by kernel_rfl) hl hs hS (show (.int .i64 (↑top - 1) : Value) = _ from rfl)) trivial
            refine SSteps.cons (fun a w' vs σ hS hl hs hk => ?_) ?_
            · have e146 : a.tmps.getD 146 undef = (.slice (some ⟨gr, 0, none⟩) L.length c : Value) := (sk_val hk 3 (by kernel_rfl) rfl rfl).trans ((hk.1 3 (by kernel_rfl)).1)
              have f146 := gd e146
              have e149 : a.tmps.getD 149 undef = (.int .i64 (↑top - 1) : Value) := (sk_val hk 6 (by kernel_rfl) rfl rfl).trans ((hk.1 6 (by kernel_rfl)).1)
              have f149 := gd e149
              exact ro_pure (v := .pointer (some ⟨gr, (top - 1) * 2, none⟩)) (wanted_none rfl) (by simp [execOp, Act.eval, e146, f146, e149, f149, go_sem, htz, htz2, htn, htz3]) (sp_same (by kernel_rfl) hl hs hS (show (.pointer (some ⟨gr, (top - 1) * 2, none⟩) : Value) = _ from rfl)) trivial
            refine SSteps.cons (fun a w' vs σ hS hl hs hk => ?_) ?_
            · have e150 : a.tmps.getD 150 undef = (.pointer (some ⟨gr, (top - 1) * 2, none⟩) : Value) := (sk_val hk 7 (by kernel_rfl) rfl rfl).trans ((hk.1 7 (by kernel_rfl)).1)
              have f150 := gd e150
              exact ro_pure (v := .pointer (some ⟨gr, (top - 1) * 2 + 1, none⟩)) (wanted_none rfl) (by simp [execOp, Act.eval, e150, f150, go_sem]) (sp_same (by kernel_rfl) hl hs hS (show (.pointer (some ⟨gr, (top - 1) * 2 + 1, none⟩) : Value) = _ from rfl)) trivial
            refine SSteps.cons (fun a w' vs σ hS hl hs hk => ?_) ?_
            · have e151 : a.tmps.getD 151 undef = (.pointer (some ⟨gr, (top - 1) * 2 + 1, none⟩) : Value) := (sk_val hk 8 (by kernel_rfl) rfl rfl).trans ((hk.1 8 (by kernel_rfl)).1)
              have f151 := gd e151
              have h1 : σ[0]? = some (.lines (.slice (some ⟨gr, 0, none⟩) L.length c) L1) := hs 0 (by decide)
              obtain ⟨F9, bs9, hF9, -⟩ := hS.get (sg h1)
              obtain ⟨A9, c9, e9, -, -, -, hg9⟩ := hF9.form
              simp only [Value.slice.injEq] at e9
              obtain ⟨rfl, -, rfl⟩ := e9
              obtain ⟨g9, e9', hz, -, hso, hf⟩ := hg9 (by omega)
              cases e9'
              have hx := hso _ _ hlt1
              exact rstep_store (w2 := w'.setCell ⟨gr, (top - 1) * 2 + 1, none⟩ (.bool false)) (wanted_none rfl) rfl (by simp [execOp, Act.eval, e151, f151, hx, hf, hz, go_sem]) (sp_set 0 (.lines (.slice (some ⟨gr, 0, none⟩) L.length c) (L1.set (top - 1) (l9.1, false))) (by kernel_rfl) (by simp) (by decide) hl hs (by rfl) (hS.storeSoft (sg h1) hlt1) trivial) trivial
            exact SSteps.nil
          · intro vs w' hS hv
            have q0 := (show vs 0 = (.pointer (some ⟨p, 0, none⟩) : Value) from hv 0 (by decide))
            have q1 := (show vs 1 = (.pointer (some ⟨p, 0, none⟩) : Value) from hv 1 (by decide))
            have q2 := (show vs 2 = (.pointer (some ⟨p, 1, none⟩) : Value) from hv 2 (by decide))
            have q3 := (show vs 3 = (.slice (some ⟨gr, 0, none⟩) L.length c : Value) from hv 3 (by decide))
            have q4 := (show vs 4 = (.pointer (some ⟨b5, 0, none⟩) : Value) from hv 4 (by decide))
            have q5 := (show vs 5 = (.int .i64 ↑top : Value) from hv 5 (by decide))
            have q6 := (show vs 6 = (.int .i64 (↑top - 1) : Value) from hv 6 (by decide))
            have q7 := (show vs 7 = (.pointer (some ⟨gr, (top - 1) * 2, none⟩) : Value) from hv 7 (by decide))
            have q8 := (show vs 8 = (.pointer (some ⟨gr, (top - 1) * 2 + 1, none⟩) : Value) from hv 8 (by decide))
            have S2 := Lib.hid hS
            simp only [putL, Act.put, Nat.zero_add, Nat.reduceAdd, List.setIfInBounds_toArray, List.set_cons_succ, List.set_cons_zero, q0, q1, q2, q3, q4, q5, q6, q7, q8]
            clear hS hv q0 q1 q2 q3 q4 q5 q6 q7 q8
            have S9 := S2.out
            rw [HT0.out] at S9
            have SF := Lib.hid (fin_roll2 S9)
            clear S9 S2
            go_wp2_with fail
            go_ret2
            exact ⟨Ag, k, cg, rfl, by rw [← HGONE.out, ← HLF.out]; exact SF.out⟩
      have hiR : d < R.length := by omega
      have hiz : (0 : Int) ≤ (d : Int) := by omega
      have hiz2 : (d : Int) < (k : Int) := by omega
      have hoff : top * 2 + (many - k) * 2 + d * 2 = (a0 + d) * 2 := by omega
      have HHL := Lib.hid (show (hdP X1 ++ (hdP F ++ hdP (R.drop d))).length = a0 + (d + (R.length - d)) by simp only [List.length_append, hdP_length, List.length_drop, HX1.out, HF.out.1])
      have SZ := Lib.hid S8.out.pad
      clear S8
      go_upto_region 28 with (fail)
      refine wp_region_stage (w0 := w0) (os := (.heads (.slice Ag k cg) (hdP G) :: .pile (piP T ++ piP F) :: .box b5 106 #[.int .i64 ↑top, .int .i64 ↑bot] :: os)) (by kernel_rfl) (by kernel_rfl) (by kernel_rfl) [(0, 7, [7], fun vs => .cells (lineV (vs 7)) (List.replicate cols (blank q))), (1, 9, [7], fun vs => .heads (.slice (some ⟨gr, 0, none⟩) L.length c) (List.set (hdP X1 ++ (hdP F ++ hdP (R.drop d))) (a0 + d) (lineV (vs 7), false)))] [[], [], [], [], [], [3], [2], [0], [], [1]] [.none, .heads (.slice (some ⟨gr, 0, none⟩) L.length c) (hdP X1 ++ (hdP F ++ hdP (R.drop d))), .box b7 54 (pv q), .box p 58 #[.int .i64 ↑cols, .slice (some ⟨gr, 0, none⟩) L.length c]] (fun i u => match i with | 0 => u = (.slice (some ⟨gr, top * 2 + (many - k) * 2, none⟩) k (c - top - (many - k)) : Value) | 1 => u = (.int .i64 ↑d : Value) | 2 => u = (.pointer (some ⟨p, 0, none⟩) : Value) | 3 => u = (.pointer (some ⟨p, 0, none⟩) : Value) | 4 => u = (.pointer (some ⟨p, 0, none⟩) : Value) | 5 => u = (.int .i64 ↑cols : Value) | 6 => u = (.agg (pv q) : Value) | 7 => ∃ A m c, u = .agg #[.slice A m c, .bool false] | 8 => u = (.pointer (some ⟨gr, (a0 + d) * 2, none⟩) : Value) | 9 => True | _ => True) (fun vs => [.cells (lineV (vs 7)) (List.replicate cols (blank q)), .heads (.slice (some ⟨gr, 0, none⟩) L.length c) (List.set (hdP X1 ++ (hdP F ++ hdP (R.drop d))) (a0 + d) (lineV (vs 7), false)), .box b7 54 (pv q), .box p 58 #[.int .i64 ↑cols, .slice (some ⟨gr, 0, none⟩) L.length c]]) (by kernel_rfl) (fun vs => by rfl) SZ.out ?_ ?_
      · refine SSteps.cons (fun a w' vs σ hS hl hs hk => ?_) ?_
        · have e13 : a.tmps.getD 13 undef = (.slice (some ⟨gr, top * 2 + (many - k) * 2, none⟩) k (c - top - (many - k)) : Value) := (sk_old hk 13 (by kernel_rfl)).trans rfl
          have f13 := gd e13
          exact ro_pure (v := .slice (some ⟨gr, top * 2 + (many - k) * 2, none⟩) k (c - top - (many - k))) (wanted_none rfl) (by simp [execOp, Act.eval, e13, f13, go_sem]) (sp_same (by kernel_rfl) hl hs hS (show (.slice (some ⟨gr, top * 2 + (many - k) * 2, none⟩) k (c - top - (many - k)) : Value) = _ from rfl)) trivial
        refine SSteps.cons (fun a w' vs σ hS hl hs hk => ?_) ?_
        · have e14 : a.tmps.getD 14 undef = (.int .i64 ↑d : Value) := (sk_old hk 14 (by kernel_rfl)).trans rfl
          have f14 := gd e14
          exact ro_pure (v := .int .i64 ↑d) (wanted_none rfl) (by simp [execOp, Act.eval, e14, f14, go_sem]) (sp_same (by kernel_rfl) hl hs hS (show (.int .i64 ↑d : Value) = _ from rfl)) trivial
        refine SSteps.cons (fun a w' vs σ hS hl hs hk => ?_) ?_
        · have e0 : a.tmps.getD 0 undef = (.pointer (some ⟨p, 0, none⟩) : Value) := (sk_old hk 0 (by kernel_rfl)).trans rfl
          have f0 := gd e0
          exact ro_pure (v := .pointer (some ⟨p, 0, none⟩)) (wanted_none rfl) (by simp [execOp, Act.eval, e0, f0, go_sem]) (sp_same (by kernel_rfl) hl hs hS (show (.pointer (some ⟨p, 0, none⟩) : Value) = _ from rfl)) trivial
        refine SSteps.cons (fun a w' vs σ hS hl hs hk => ?_) ?_
        · have e132 : a.tmps.getD 132 undef = (.pointer (some ⟨p, 0, none⟩) : Value) := (sk_val hk 2 (by kernel_rfl) rfl rfl).trans ((hk.1 2 (by kernel_rfl)).1)
          have f132 := gd e132
          exact ro_pure (v := .pointer (some ⟨p, 0, none⟩)) (wanted_none rfl) (by simp [execOp, Act.eval, e132, f132, go_sem]) (sp_same (by kernel_rfl) hl hs hS (show (.pointer (some ⟨p, 0, none⟩) : Value) = _ from rfl)) trivial
        refine SSteps.cons (fun a w' vs σ hS hl hs hk => ?_) ?_
        · have e133 : a.tmps.getD 133 undef = (.pointer (some ⟨p, 0, none⟩) : Value) := (sk_val hk 3 (by kernel_rfl) rfl rfl).trans ((hk.1 3 (by kernel_rfl)).1)
          have f133 := gd e133
          exact ro_pure (v := .pointer (some ⟨p, 0, none⟩)) (wanted_none rfl) (by simp [execOp, Act.eval, e133, f133, go_sem]) (sp_same (by kernel_rfl) hl hs hS (show (.pointer (some ⟨p, 0, none⟩) : Value) = _ from rfl)) trivial
        refine SSteps.cons (fun a w' vs σ hS hl hs hk => ?_) ?_
        · have e134 : a.tmps.getD 134 undef = (.pointer (some ⟨p, 0, none⟩) : Value) := (sk_val hk 4 (by kernel_rfl) rfl rfl).trans ((hk.1 4 (by kernel_rfl)).1)
          have f134 := gd e134
          have hx := (hS.box (sg (hs 3 (by decide)))).cell
          exact ro_pure (v := .int .i64 ↑cols) (wanted_none rfl) (by simp [execOp, Act.eval, e134, f134, go_sem, hx]) (sp_same (by kernel_rfl) hl hs hS (show (.int .i64 ↑cols : Value) = _ from rfl)) trivial
        refine SSteps.cons (fun a w' vs σ hS hl hs hk => ?_) ?_
        · have e7 : a.tmps.getD 7 undef = (.pointer (some ⟨b7, 0, none⟩) : Value) := (sk_old hk 7 (by kernel_rfl)).trans rfl
          have f7 := gd e7
          have hx := (hS.box (sg (hs 2 (by decide)))).penAt
          exact ro_pure (v := .agg (pv q)) (wanted_none rfl) (by simp [execOp, Act.eval, e7, f7, go_sem, hx]) (sp_same (by kernel_rfl) hl hs hS (show (.agg (pv q) : Value) = _ from rfl)) trivial
        refine SSteps.cons (fun a w' vs σ hS hl hs hk => ?_) ?_
        · have e135 : a.tmps.getD 135 undef = (.int .i64 ↑cols : Value) := (sk_val hk 5 (by kernel_rfl) rfl rfl).trans ((hk.1 5 (by kernel_rfl)).1)
          have f135 := gd e135
          have e136 : a.tmps.getD 136 undef = (.agg (pv q) : Value) := (sk_val hk 6 (by kernel_rfl) rfl rfl).trans ((hk.1 6 (by kernel_rfl)).1)
          have f136 := gd e136
          have h0 : σ[0]? = some .none := hs 0 (by decide)
          exact ro_call (f := 54) (wanted_none rfl) rfl (by simp only [List.map_toArray, List.map_cons, List.map_nil, Act.eval, e135, e136] <;> rfl) (fun _ _ => by kernel_rfl) ((gridblanks_any cols hcm q _ _ _ hS).mono fun e w2 ⟨x, h1, h2⟩ => ⟨_, h1, sp_set 0 (.cells x (List.replicate cols (blank q))) (by kernel_rfl) (by simp) (by decide) hl hs (by rfl) (h2.place (sg h0)) (by obtain ⟨A', c', e, -⟩ := h2.cellsRd (k := 0) rfl; exact ⟨A', _, c', by rw [e]⟩), trivial⟩)
        refine SSteps.cons (fun a w' vs σ hS hl hs hk => ?_) ?_
        · have e130 : a.tmps.getD 130 undef = (.slice (some ⟨gr, top * 2 + (many - k) * 2, none⟩) k (c - top - (many - k)) : Value) := (sk_val hk 0 (by kernel_rfl) rfl rfl).trans ((hk.1 0 (by kernel_rfl)).1)
          have f130 := gd e130
          have e131 : a.tmps.getD 131 undef = (.int .i64 ↑d : Value) := (sk_val hk 1 (by kernel_rfl) rfl rfl).trans ((hk.1 1 (by kernel_rfl)).1)
          have f131 := gd e131
          exact ro_pure (v := .pointer (some ⟨gr, (a0 + d) * 2, none⟩)) (wanted_none rfl) (by simp [execOp, Act.eval, e130, f130, e131, f131, go_sem, hiz, hiz2, hoff]) (sp_same (by kernel_rfl) hl hs hS (show (.pointer (some ⟨gr, (a0 + d) * 2, none⟩) : Value) = _ from rfl)) trivial
        refine SSteps.cons (fun a w' vs σ hS hl hs hk => ?_) ?_
        · have e138 : a.tmps.getD 138 undef = (.pointer (some ⟨gr, (a0 + d) * 2, none⟩) : Value) := (sk_val hk 8 (by kernel_rfl) rfl rfl).trans ((hk.1 8 (by kernel_rfl)).1)
          have f138 := gd e138
          have e137 : a.tmps.getD 137 undef = vs 7 := sk_val hk 7 (by kernel_rfl) rfl rfl
          have p137 : (fun u : Value => ∃ A m c, u = .agg #[.slice A m c, .bool false]) (vs 7) := (hk.1 7 (by kernel_rfl)).1
          have f137 := gd e137
          obtain ⟨A7, n7, c7, q7⟩ := p137
          have h1 : σ[1]? = some (.heads (.slice (some ⟨gr, 0, none⟩) L.length c) (hdP X1 ++ (hdP F ++ hdP (R.drop d)))) := hs 1 (by decide)
          obtain ⟨A8, c8, e8, -, -, -, hg8⟩ := hS.headsForm (sg h1)
          simp only [Value.slice.injEq] at e8
          obtain ⟨rfl, -, rfl⟩ := e8
          have hHl := HHL.out
          obtain ⟨g8, e9, hz, hcs, hf⟩ := hg8 (by omega)
          cases e9
          obtain ⟨x8, hx8⟩ := get_of (show a0 + d < (hdP X1 ++ (hdP F ++ hdP (R.drop d))).length by omega)
          obtain ⟨hx, hx'⟩ := hcs (a0 + d) x8 hx8
          exact rstep_store (w2 := (w'.setCell ⟨gr, (a0 + d) * 2, none⟩ (.slice A7 n7 c7)).setCell ⟨gr, (a0 + d) * 2 + 1, none⟩ (.bool false)) (wanted_none rfl) rfl (by simp [execOp, Act.eval, e138, f138, e137, f137, q7, hx, hx', hf, hz, go_sem]) (sp_set 1 (.heads (.slice (some ⟨gr, 0, none⟩) L.length c) (List.set (hdP X1 ++ (hdP F ++ hdP (R.drop d))) (a0 + d) (.slice A7 n7 c7, false))) (by kernel_rfl) (by simp) (by decide) hl hs (by show Ob.heads _ (List.set _ _ (lineV (vs 7), false)) = _; rw [q7]; rfl) (hS.storeHead (sg h1)) trivial) trivial
        exact SSteps.nil
      · intro vs w' hS hv
        have q0 := (show vs 0 = (.slice (some ⟨gr, top * 2 + (many - k) * 2, none⟩) k (c - top - (many - k)) : Value) from hv 0 (by decide))
        have q1 := (show vs 1 = (.int .i64 ↑d : Value) from hv 1 (by decide))
        have q2 := (show vs 2 = (.pointer (some ⟨p, 0, none⟩) : Value) from hv 2 (by decide))
        have q3 := (show vs 3 = (.pointer (some ⟨p, 0, none⟩) : Value) from hv 3 (by decide))
        have q4 := (show vs 4 = (.pointer (some ⟨p, 0, none⟩) : Value) from hv 4 (by decide))
        have q5 := (show vs 5 = (.int .i64 ↑cols : Value) from hv 5 (by decide))
        have q6 := (show vs 6 = (.agg (pv q) : Value) from hv 6 (by decide))
        have q8 := (show vs 8 = (.pointer (some ⟨gr, (a0 + d) * 2, none⟩) : Value) from hv 8 (by decide))
        obtain ⟨A7, n7, c7, q7⟩ := (show ∃ A m c, vs 7 = .agg #[.slice A m c, .bool false] from hv 7 (by decide))
        rw [q7] at hS
        have S2 := Lib.hid hS
        simp only [putL, Act.put, Nat.zero_add, Nat.reduceAdd, List.setIfInBounds_toArray, List.set_cons_succ, List.set_cons_zero, q0, q1, q2, q3, q4, q5, q6, q8]
        clear hS hv q0 q1 q2 q3 q4 q5 q6 q8
        simp only [q7]
        have S9 := S2.out
        rw [show lineV (.agg #[.slice A7 n7 c7, .bool false]) = .slice A7 n7 c7 from rfl, hdP_fill (.slice A7 n7 c7) (List.replicate cols (blank q)) false HX1.out HF.out.1 hiR] at S9
        have S10 := Lib.hid (show Objs w0 w' (.heads (.slice (some ⟨gr, 0, none⟩) L.length c) (hdP X1 ++ (hdP (F ++ [(.slice A7 n7 c7, (List.replicate cols (blank q)), false)]) ++ hdP (R.drop (d + 1)))) :: .box b7 54 (pv q) :: .box p 58 #[.int .i64 ↑cols, .slice (some ⟨gr, 0, none⟩) L.length c] :: .heads (.slice Ag k cg) (hdP G) :: .pile (piP T ++ piP (F ++ [(.slice A7 n7 c7, (List.replicate cols (blank q)), false)])) :: .box b5 106 #[.int .i64 ↑top, .int .i64 ↑bot] :: os) from by have := Objs.pileIn S9; rw [List.append_assoc] at this; rw [piP_append]; exact this)
        clear S9 S2
        go_wp2_with fail
        go_roundw
        case rel => exact ⟨d + 1, F ++ [(.slice A7 n7 c7, (List.replicate cols (blank q)), false)], by omega, by go_num, ⟨by simp [HF.out.1], by rw [lnP_append, HF.out.2]; unfold rollFresh; rw [List.replicate_succ']; rfl⟩, S10.out⟩
        case measure => simp [intOf]; omega
  · have hnl : ¬ n < (many : Int) := by omega
    subst h2
    have HPB2 := Lib.hid (HPB.out rfl)
    clear HPB
    clear ha0
    by_cases hcap : c - top = k
    · go_wp2_with fail
      refine (clone_front S5.out.swap HONE.out (a := top) (m := k) (by rw [HTl.out]; omega) (by omega) (by rw [HTl.out]; omega)).mono ?_
      rintro e w5 ⟨Ag, cg, rfl, hS⟩
      obtain ⟨w6, hr6, hS6⟩ := run_copyH hS (k := 1) rfl HONE.out top top 0 (some ⟨gr, top * 2, none⟩) (some ⟨gr, top * 2, none⟩) k (k) 0 (0) (Nat.zero_min _) (by rw [HTl.out]; omega) (by rw [HTl.out]; omega) (fun h => absurd h (by omega)) 3
      have HR6 := Lib.hid hr6
      rw [hdP_drop T top, hdP_take, HG.out, ← hdP_drop T top, HPB2.out] at hS6
      have S7 := Lib.hid (ord7 (show Objs w0 w6 (.heads (.slice Ag k cg) (hdP G) :: .heads (.slice (some ⟨gr, 0, none⟩) L.length c) (hdP X1 ++ hdP R) :: .pile (piP T) :: .box b7 54 (pv q) :: .box b5 106 #[.int .i64 top, .int .i64 bot] :: .box p 58 #[.int .i64 cols, .slice (some ⟨gr, 0, none⟩) L.length c] :: os) from hS6))
      have HAO := HA0.out
      clear hS hr6 hS6 S5
      go_wp2_with (refine wpList_copyK rfl _ _ 30 30 rfl rfl rfl HR6.out ?_)
      go_loopw [14, 127] (fun _ vi wr => ∃ (d : Nat) (F : List Tr), d ≤ k ∧ vi = .int .i64 d ∧ (F.length = d ∧ lnP F = rollFresh d cols q) ∧ Objs w0 wr (.heads (.slice (some ⟨gr, 0, none⟩) L.length c) (hdP X1 ++ (hdP F ++ hdP (R.drop d))) :: .box b7 54 (pv q) :: .box p 58 #[.int .i64 ↑cols, .slice (some ⟨gr, 0, none⟩) L.length c] :: .heads (.slice Ag k cg) (hdP G) :: .pile (piP T ++ piP F) :: .box b5 106 #[.int .i64 ↑top, .int .i64 ↑bot] :: os)) (fun _ vi _ => k - (intOf vi).toNat)
      case atStart => exact ⟨0, [], by omega, rfl, ⟨rfl, rfl⟩, by simpa [hdP, piP] using S7.out⟩
      case round =>
        obtain ⟨d, F, hik, rfl, hFF, hS⟩ := hrel
        have HF := Lib.hid hFF
        have S8 := Lib.hid hS
        clear hFF hS S7
        by_cases hlt : d < k
        case neg =>
          have hie : d = k := by omega
          have hX := S8.out
          have hFk := HF.out.2
          rw [hie] at hX hFk
          have hX2 := hX.dealIn HPERM.out
          have HLF := Lib.hid (HLEFT.out F hFk)
          obtain ⟨L1, hL1⟩ : ∃ L1, L1 = lnP X1 ++ (lnP F ++ lnP (R.drop k)) := ⟨_, rfl⟩
          rw [← hL1] at hX2 HLF
          have hL1l : L1.length = L.length := by rw [hL1]; simp only [List.length_append, lnP_length, List.length_drop]; have := HX1.out; have := HF.out.1; have := HRL.out; omega
          have SX := Lib.hid hX2
          obtain ⟨hx5, hf5, hz5⟩ := (hX2.box (k := 4) rfl).facts
          clear hie hX hX2 hFk hL1 S8
          by_cases ht0 : top = 0
          · have HT0 := Lib.hid (show topHard top L1 = L1 by unfold topHard; rw [if_neg (by omega)])
            have htg : ¬ (0 : Int) < (top : Int) := by omega
            have SF := Lib.hid (fin_roll SX.out)
            clear ht0
            go_wp2_with fail
            go_ret2
            exact ⟨Ag, k, cg, rfl, by rw [← HGONE.out, ← HLF.out, HT0.out]; exact SF.out⟩
          · have htg : (0 : Int) < (top : Int) := by omega
            obtain ⟨l9, hlt1⟩ := get_of (show top - 1 < L1.length by omega)
            have HT0 := Lib.hid (show L1.set (top - 1) (l9.1, false) = topHard top L1 by unfold topHard; rw [if_pos (by omega), softMod_some hlt1])
            have HWT := Lib.hid (show IntKind.i64.wrap ((top : Int) - 1) = (top : Int) - 1 from IntWalk.i64_in _ (by omega))
            have htz : (0 : Int) ≤ (top : Int) - 1 := by omega
            have htz2 : (top : Int) - 1 < (L.length : Int) := by omega
            have htz3 : ¬ (top : Int) < 1 := by omega
            have htn : ((top : Int) - 1).toNat = top - 1 := by omega
            have SY := Lib.hid (ord_roll SX.out)
            go_upto_region 31 with (fail)
            refine wp_region_stage (w0 := w0) (os := (.lines (.slice Ag k cg) (lnP G) :: .box b7 54 (pv q) :: os)) (by kernel_rfl) (by kernel_rfl) (by kernel_rfl) [(0, 9, [], fun vs => .lines (.slice (some ⟨gr, 0, none⟩) L.length c) (L1.set (top - 1) (l9.1, false)))] [[], [], [], [1], [], [2], [], [], [], [0]] [.lines (.slice (some ⟨gr, 0, none⟩) L.length c) L1, .box p 58 #[.int .i64 ↑cols, .slice (some ⟨gr, 0, none⟩) L.length c], .box b5 106 #[.int .i64 ↑top, .int .i64 ↑bot]] (fun i u => match i with | 0 => u = (.pointer (some ⟨p, 0, none⟩) : Value) | 1 => u = (.pointer (some ⟨p, 0, none⟩) : Value) | 2 => u = (.pointer (some ⟨p, 1, none⟩) : Value) | 3 => u = (.slice (some ⟨gr, 0, none⟩) L.length c : Value) | 4 => u = (.pointer (some ⟨b5, 0, none⟩) : Value) | 5 => u = (.int .i64 ↑top : Value) | 6 => u = (.int .i64 (↑top - 1) : Value) | 7 => u = (.pointer (some ⟨gr, (top - 1) * 2, none⟩) : Value) | 8 => u = (.pointer (some ⟨gr, (top - 1) * 2 + 1, none⟩) : Value) | 9 => True | _ => True) (fun vs => [.lines (.slice (some ⟨gr, 0, none⟩) L.length c) (L1.set (top - 1) (l9.1, false)), .box p 58 #[.int .i64 ↑cols, .slice (some ⟨gr, 0, none⟩) L.length c], .box b5 106 #[.int .i64 ↑top, .int .i64 ↑bot]]) (by kernel_rfl) (fun vs => by rfl) SY.out ?_ ?_
            · refine SSteps.cons (fun a w' vs σ hS hl hs hk => ?_) ?_
              · have e0 : a.tmps.getD 0 undef = (.pointer (some ⟨p, 0, none⟩) : Value) := (sk_old hk 0 (by kernel_rfl)).trans rfl
                have f0 := gd e0
                exact ro_pure (v := .pointer (some ⟨p, 0, none⟩)) (wanted_none rfl) (by simp [execOp, Act.eval, e0, f0, go_sem]) (sp_same (by kernel_rfl) hl hs hS (show (.pointer (some ⟨p, 0, none⟩) : Value) = _ from rfl)) trivial
              refine SSteps.cons (fun a w' vs σ hS hl hs hk => ?_) ?_
              · have e143 : a.tmps.getD 143 undef = (.pointer (some ⟨p, 0, none⟩) : Value) := (sk_val hk 0 (by kernel_rfl) rfl rfl).trans ((hk.1 0 (by kernel_rfl)).1)
                have f143 := gd e143
                exact ro_pure (v := .pointer (some ⟨p, 0, none⟩)) (wanted_none rfl) (by simp [execOp, Act.eval, e143, f143, go_sem]) (sp_same (by kernel_rfl) hl hs hS (show (.pointer (some ⟨p, 0, none⟩) : Value) = _ from rfl)) trivial
              refine SSteps.cons (fun a w' vs σ hS hl hs hk => ?_) ?_
              · have e144 : a.tmps.getD 144 undef = (.pointer (some ⟨p, 0, none⟩) : Value) := (sk_val hk 1 (by kernel_rfl) rfl rfl).trans ((hk.1 1 (by kernel_rfl)).1)
                have f144 := gd e144
                exact ro_pure (v := .pointer (some ⟨p, 1, none⟩)) (wanted_none rfl) (by simp [execOp, Act.eval, e144, f144, go_sem]) (sp_same (by kernel_rfl) hl hs hS (show (.pointer (some ⟨p, 1, none⟩) : Value) = _ from rfl)) trivial
              refine SSteps.cons (fun a w' vs σ hS hl hs hk => ?_) ?_
              · have e145 : a.tmps.getD 145 undef = (.pointer (some ⟨p, 1, none⟩) : Value) := (sk_val hk 2 (by kernel_rfl) rfl rfl).trans ((hk.1 2 (by kernel_rfl)).1)
                have f145 := gd e145
                have hx := (hS.box (sg (hs 1 (by decide)))).cell
                exact ro_pure (v := .slice (some ⟨gr, 0, none⟩) L.length c) (wanted_none rfl) (by simp [execOp, Act.eval, e145, f145, go_sem, hx]) (sp_same (by kernel_rfl) hl hs hS (show (.slice (some ⟨gr, 0, none⟩) L.length c : Value) = _ from rfl)) trivial
              refine SSteps.cons (fun a w' vs σ hS hl hs hk => ?_) ?_
              · have e5 : a.tmps.getD 5 undef = (.pointer (some ⟨b5, 0, none⟩) : Value) := (sk_old hk 5 (by kernel_rfl)).trans rfl
                have f5 := gd e5
                exact ro_pure (v := .pointer (some ⟨b5, 0, none⟩)) (wanted_none rfl) (by simp [execOp, Act.eval, e5, f5, go_sem]) (sp_same (by kernel_rfl) hl hs hS (show (.pointer (some ⟨b5, 0, none⟩) : Value) = _ from rfl)) trivial
              refine SSteps.cons (fun a w' vs σ hS hl hs hk => ?_) ?_
              · have e147 : a.tmps.getD 147 undef = (.pointer (some ⟨b5, 0, none⟩) : Value) := (sk_val hk 4 (by kernel_rfl) rfl rfl).trans ((hk.1 4 (by kernel_rfl)).1)
                have f147 := gd e147
                have hx := (hS.box (sg (hs 2 (by decide)))).cell
                exact ro_pure (v := .int .i64 ↑top) (wanted_none rfl) (by simp [execOp, Act.eval, e147, f147, go_sem, hx]) (sp_same (by kernel_rfl) hl hs hS (show (.int .i64 ↑top : Value) = _ from rfl)) trivial
              refine SSteps.cons (fun a w' vs σ hS hl hs hk => ?_) ?_
              · have e148 : a.tmps.getD 148 undef = (.int .i64 ↑top : Value) := (sk_val hk 5 (by kernel_rfl) rfl rfl).trans ((hk.1 5 (by kernel_rfl)).1)
                have f148 := gd e148
                exact ro_pure (v := .int .i64 (↑top - 1)) (wanted_none rfl) (by simp [execOp, Act.eval, e148, f148, go_sem, HWT.out]) (sp_same (by kernel_rfl) hl hs hS (show (.int .i64 (↑top - 1) : Value) = _ from rfl)) trivial
              refine SSteps.cons (fun a w' vs σ hS hl hs hk => ?_) ?_
              · have e146 : a.tmps.getD 146 undef = (.slice (some ⟨gr, 0, none⟩) L.length c : Value) := (sk_val hk 3 (by kernel_rfl) rfl rfl).trans ((hk.1 3 (by kernel_rfl)).1)
                have f146 := gd e146
                have e149 : a.tmps.getD 149 undef = (.int .i64 (↑top - 1) : Value) := (sk_val hk 6 (by kernel_rfl) rfl rfl).trans ((hk.1 6 (by kernel_rfl)).1)
                have f149 := gd e149
                exact ro_pure (v := .pointer (some ⟨gr, (top - 1) * 2, none⟩)) (wanted_none rfl) (by simp [execOp, Act.eval, e146, f146, e149, f149, go_sem, htz, htz2, htn, htz3]) (sp_same (by kernel_rfl) hl hs hS (show (.pointer (some ⟨gr, (top - 1) * 2, none⟩) : Value) = _ from rfl)) trivial
              refine SSteps.cons (fun a w' vs σ hS hl hs hk => ?_) ?_
              · have e150 : a.tmps.getD 150 undef = (.pointer (some ⟨gr, (top - 1) * 2, none⟩) : Value) := (sk_val hk 7 (by kernel_rfl) rfl rfl).trans ((hk.1 7 (by kernel_rfl)).1)
                have f150 := gd e150
                exact ro_pure (v := .pointer (some ⟨gr, (top - 1) * 2 + 1, none⟩)) (wanted_none rfl) (by simp [execOp, Act.eval, e150, f150, go_sem]) (sp_same (by kernel_rfl) hl hs hS (show (.pointer (some ⟨gr, (top - 1) * 2 + 1, none⟩) : Value) = _ from rfl)) trivial
              refine SSteps.cons (fun a w' vs σ hS hl hs hk => ?_) ?_
              · have e151 : a.tmps.getD 151 undef = (.pointer (some ⟨gr, (top - 1) * 2 + 1, none⟩) : Value) := (sk_val hk 8 (by kernel_rfl) rfl rfl).trans ((hk.1 8 (by kernel_rfl)).1)
                have f151 := gd e151
                have h1 : σ[0]? = some (.lines (.slice (some ⟨gr, 0, none⟩) L.length c) L1) := hs 0 (by decide)
                obtain ⟨F9, bs9, hF9, -⟩ := hS.get (sg h1)
                obtain ⟨A9, c9, e9, -, -, -, hg9⟩ := hF9.form
                simp only [Value.slice.injEq] at e9
                obtain ⟨rfl, -, rfl⟩ := e9
                obtain ⟨g9, e9', hz, -, hso, hf⟩ := hg9 (by omega)
                cases e9'
                have hx := hso _ _ hlt1
                exact rstep_store (w2 := w'.setCell ⟨gr, (top - 1) * 2 + 1, none⟩ (.bool false)) (wanted_none rfl) rfl (by simp [execOp, Act.eval, e151, f151, hx, hf, hz, go_sem]) (sp_set 0 (.lines (.slice (some ⟨gr, 0, none⟩) L.length c) (L1.set (top - 1) (l9.1, false))) (by kernel_rfl) (by simp) (by decide) hl hs (by rfl) (hS.storeSoft (sg h1) hlt1) trivial) trivial
              exact SSteps.nil
            · intro vs w' hS hv
              have q0 := (show vs 0 = (.pointer (some ⟨p, 0, none⟩) : Value) from hv 0 (by decide))
              have q1 := (show vs 1 = (.pointer (some ⟨p, 0, none⟩) : Value) from hv 1 (by decide))
              have q2 := (show vs 2 = (.pointer (some ⟨p, 1, none⟩) : Value) from hv 2 (by decide))
              have q3 := (show vs 3 = (.slice (some ⟨gr, 0, none⟩) L.length c : Value) from hv 3 (by decide))
              have q4 := (show vs 4 = (.pointer (some ⟨b5, 0, none⟩) : Value) from hv 4 (by decide))
              have q5 := (show vs 5 = (.int .i64 ↑top : Value) from hv 5 (by decide))
              have q6 := (show vs 6 = (.int .i64 (↑top - 1) : Value) from hv 6 (by decide))
              have q7 := (show vs 7 = (.pointer (some ⟨gr, (top - 1) * 2, none⟩) : Value) from hv 7 (by decide))
              have q8 := (show vs 8 = (.pointer (some ⟨gr, (top - 1) * 2 + 1, none⟩) : Value) from hv 8 (by decide))
              have S2 := Lib.hid hS
              simp only [putL, Act.put, Nat.zero_add, Nat.reduceAdd, List.setIfInBounds_toArray, List.set_cons_succ, List.set_cons_zero, q0, q1, q2, q3, q4, q5, q6, q7, q8]
              clear hS hv q0 q1 q2 q3 q4 q5 q6 q7 q8
              have S9 := S2.out
              rw [HT0.out] at S9
              have SF := Lib.hid (fin_roll2 S9)
              clear S9 S2
              go_wp2_with fail
              go_ret2
              exact ⟨Ag, k, cg, rfl, by rw [← HGONE.out, ← HLF.out]; exact SF.out⟩
        have hiR : d < R.length := by omega
        have hiz : (0 : Int) ≤ (d : Int) := by omega
        have hiz2 : (d : Int) < (k : Int) := by omega
        have hoff : top * 2 + d * 2 = (a0 + d) * 2 := by omega
        have HHL := Lib.hid (show (hdP X1 ++ (hdP F ++ hdP (R.drop d))).length = a0 + (d + (R.length - d)) by simp only [List.length_append, hdP_length, List.length_drop, HX1.out, HF.out.1])
        have SZ := Lib.hid S8.out.pad
        clear S8
        go_upto_region 28 with (fail)
        refine wp_region_stage (w0 := w0) (os := (.heads (.slice Ag k cg) (hdP G) :: .pile (piP T ++ piP F) :: .box b5 106 #[.int .i64 ↑top, .int .i64 ↑bot] :: os)) (by kernel_rfl) (by kernel_rfl) (by kernel_rfl) [(0, 7, [7], fun vs => .cells (lineV (vs 7)) (List.replicate cols (blank q))), (1, 9, [7], fun vs => .heads (.slice (some ⟨gr, 0, none⟩) L.length c) (List.set (hdP X1 ++ (hdP F ++ hdP (R.drop d))) (a0 + d) (lineV (vs 7), false)))] [[], [], [], [], [], [3], [2], [0], [], [1]] [.none, .heads (.slice (some ⟨gr, 0, none⟩) L.length c) (hdP X1 ++ (hdP F ++ hdP (R.drop d))), .box b7 54 (pv q), .box p 58 #[.int .i64 ↑cols, .slice (some ⟨gr, 0, none⟩) L.length c]] (fun i u => match i with | 0 => u = (.slice (some ⟨gr, top * 2, none⟩) k (k) : Value) | 1 => u = (.int .i64 ↑d : Value) | 2 => u = (.pointer (some ⟨p, 0, none⟩) : Value) | 3 => u = (.pointer (some ⟨p, 0, none⟩) : Value) | 4 => u = (.pointer (some ⟨p, 0, none⟩) : Value) | 5 => u = (.int .i64 ↑cols : Value) | 6 => u = (.agg (pv q) : Value) | 7 => ∃ A m c, u = .agg #[.slice A m c, .bool false] | 8 => u = (.pointer (some ⟨gr, (a0 + d) * 2, none⟩) : Value) | 9 => True | _ => True) (fun vs => [.cells (lineV (vs 7)) (List.replicate cols (blank q)), .heads (.slice (some ⟨gr, 0, none⟩) L.length c) (List.set (hdP X1 ++ (hdP F ++ hdP (R.drop d))) (a0 + d) (lineV (vs 7), false)), .box b7 54 (pv q), .box p 58 #[.int .i64 ↑cols, .slice (some ⟨gr, 0, none⟩) L.length c]]) (by kernel_rfl) (fun vs => by rfl) SZ.out ?_ ?_
        · refine SSteps.cons (fun a w' vs σ hS hl hs hk => ?_) ?_
          · have e13 : a.tmps.getD 13 undef = (.slice (some ⟨gr, top * 2, none⟩) k (k) : Value) := (sk_old hk 13 (by kernel_rfl)).trans rfl
            have f13 := gd e13
            exact ro_pure (v := .slice (some ⟨gr, top * 2, none⟩) k (k)) (wanted_none rfl) (by simp [execOp, Act.eval, e13, f13, go_sem]) (sp_same (by kernel_rfl) hl hs hS (show (.slice (some ⟨gr, top * 2, none⟩) k (k) : Value) = _ from rfl)) trivial
          refine SSteps.cons (fun a w' vs σ hS hl hs hk => ?_) ?_
          · have e14 : a.tmps.getD 14 undef = (.int .i64 ↑d : Value) := (sk_old hk 14 (by kernel_rfl)).trans rfl
            have f14 := gd e14
            exact ro_pure (v := .int .i64 ↑d) (wanted_none rfl) (by simp [execOp, Act.eval, e14, f14, go_sem]) (sp_same (by kernel_rfl) hl hs hS (show (.int .i64 ↑d : Value) = _ from rfl)) trivial
          refine SSteps.cons (fun a w' vs σ hS hl hs hk => ?_) ?_
          · have e0 : a.tmps.getD 0 undef = (.pointer (some ⟨p, 0, none⟩) : Value) := (sk_old hk 0 (by kernel_rfl)).trans rfl
            have f0 := gd e0
            exact ro_pure (v := .pointer (some ⟨p, 0, none⟩)) (wanted_none rfl) (by simp [execOp, Act.eval, e0, f0, go_sem]) (sp_same (by kernel_rfl) hl hs hS (show (.pointer (some ⟨p, 0, none⟩) : Value) = _ from rfl)) trivial
          refine SSteps.cons (fun a w' vs σ hS hl hs hk => ?_) ?_
          · have e132 : a.tmps.getD 132 undef = (.pointer (some ⟨p, 0, none⟩) : Value) := (sk_val hk 2 (by kernel_rfl) rfl rfl).trans ((hk.1 2 (by kernel_rfl)).1)
            have f132 := gd e132
            exact ro_pure (v := .pointer (some ⟨p, 0, none⟩)) (wanted_none rfl) (by simp [execOp, Act.eval, e132, f132, go_sem]) (sp_same (by kernel_rfl) hl hs hS (show (.pointer (some ⟨p, 0, none⟩) : Value) = _ from rfl)) trivial
          refine SSteps.cons (fun a w' vs σ hS hl hs hk => ?_) ?_
          · have e133 : a.tmps.getD 133 undef = (.pointer (some ⟨p, 0, none⟩) : Value) := (sk_val hk 3 (by kernel_rfl) rfl rfl).trans ((hk.1 3 (by kernel_rfl)).1)
            have f133 := gd e133
            exact ro_pure (v := .pointer (some ⟨p, 0, none⟩)) (wanted_none rfl) (by simp [execOp, Act.eval, e133, f133, go_sem]) (sp_same (by kernel_rfl) hl hs hS (show (.pointer (some ⟨p, 0, none⟩) : Value) = _ from rfl)) trivial
          refine SSteps.cons (fun a w' vs σ hS hl hs hk => ?_) ?_
          · have e134 : a.tmps.getD 134 undef = (.pointer (some ⟨p, 0, none⟩) : Value) := (sk_val hk 4 (by kernel_rfl) rfl rfl).trans ((hk.1 4 (by kernel_rfl)).1)
            have f134 := gd e134
            have hx := (hS.box (sg (hs 3 (by decide)))).cell
            exact ro_pure (v := .int .i64 ↑cols) (wanted_none rfl) (by simp [execOp, Act.eval, e134, f134, go_sem, hx]) (sp_same (by kernel_rfl) hl hs hS (show (.int .i64 ↑cols : Value) = _ from rfl)) trivial
          refine SSteps.cons (fun a w' vs σ hS hl hs hk => ?_) ?_
          · have e7 : a.tmps.getD 7 undef = (.pointer (some ⟨b7, 0, none⟩) : Value) := (sk_old hk 7 (by kernel_rfl)).trans rfl
            have f7 := gd e7
            have hx := (hS.box (sg (hs 2 (by decide)))).penAt
            exact ro_pure (v := .agg (pv q)) (wanted_none rfl) (by simp [execOp, Act.eval, e7, f7, go_sem, hx]) (sp_same (by kernel_rfl) hl hs hS (show (.agg (pv q) : Value) = _ from rfl)) trivial
          refine SSteps.cons (fun a w' vs σ hS hl hs hk => ?_) ?_
          · have e135 : a.tmps.getD 135 undef = (.int .i64 ↑cols : Value) := (sk_val hk 5 (by kernel_rfl) rfl rfl).trans ((hk.1 5 (by kernel_rfl)).1)
            have f135 := gd e135
            have e136 : a.tmps.getD 136 undef = (.agg (pv q) : Value) := (sk_val hk 6 (by kernel_rfl) rfl rfl).trans ((hk.1 6 (by kernel_rfl)).1)
            have f136 := gd e136
            have h0 : σ[0]? = some .none := hs 0 (by decide)
            exact ro_call (f := 54) (wanted_none rfl) rfl (by simp only [List.map_toArray, List.map_cons, List.map_nil, Act.eval, e135, e136] <;> rfl) (fun _ _ => by kernel_rfl) ((gridblanks_any cols hcm q _ _ _ hS).mono fun e w2 ⟨x, h1, h2⟩ => ⟨_, h1, sp_set 0 (.cells x (List.replicate cols (blank q))) (by kernel_rfl) (by simp) (by decide) hl hs (by rfl) (h2.place (sg h0)) (by obtain ⟨A', c', e, -⟩ := h2.cellsRd (k := 0) rfl; exact ⟨A', _, c', by rw [e]⟩), trivial⟩)
          refine SSteps.cons (fun a w' vs σ hS hl hs hk => ?_) ?_
          · have e130 : a.tmps.getD 130 undef = (.slice (some ⟨gr, top * 2, none⟩) k (k) : Value) := (sk_val hk 0 (by kernel_rfl) rfl rfl).trans ((hk.1 0 (by kernel_rfl)).1)
            have f130 := gd e130
            have e131 : a.tmps.getD 131 undef = (.int .i64 ↑d : Value) := (sk_val hk 1 (by kernel_rfl) rfl rfl).trans ((hk.1 1 (by kernel_rfl)).1)
            have f131 := gd e131
            exact ro_pure (v := .pointer (some ⟨gr, (a0 + d) * 2, none⟩)) (wanted_none rfl) (by simp [execOp, Act.eval, e130, f130, e131, f131, go_sem, hiz, hiz2, hoff]) (sp_same (by kernel_rfl) hl hs hS (show (.pointer (some ⟨gr, (a0 + d) * 2, none⟩) : Value) = _ from rfl)) trivial
          refine SSteps.cons (fun a w' vs σ hS hl hs hk => ?_) ?_
          · have e138 : a.tmps.getD 138 undef = (.pointer (some ⟨gr, (a0 + d) * 2, none⟩) : Value) := (sk_val hk 8 (by kernel_rfl) rfl rfl).trans ((hk.1 8 (by kernel_rfl)).1)
            have f138 := gd e138
            have e137 : a.tmps.getD 137 undef = vs 7 := sk_val hk 7 (by kernel_rfl) rfl rfl
            have p137 : (fun u : Value => ∃ A m c, u = .agg #[.slice A m c, .bool false]) (vs 7) := (hk.1 7 (by kernel_rfl)).1
            have f137 := gd e137
            obtain ⟨A7, n7, c7, q7⟩ := p137
            have h1 : σ[1]? = some (.heads (.slice (some ⟨gr, 0, none⟩) L.length c) (hdP X1 ++ (hdP F ++ hdP (R.drop d)))) := hs 1 (by decide)
            obtain ⟨A8, c8, e8, -, -, -, hg8⟩ := hS.headsForm (sg h1)
            simp only [Value.slice.injEq] at e8
            obtain ⟨rfl, -, rfl⟩ := e8
            have hHl := HHL.out
            obtain ⟨g8, e9, hz, hcs, hf⟩ := hg8 (by omega)
            cases e9
            obtain ⟨x8, hx8⟩ := get_of (show a0 + d < (hdP X1 ++ (hdP F ++ hdP (R.drop d))).length by omega)
            obtain ⟨hx, hx'⟩ := hcs (a0 + d) x8 hx8
            exact rstep_store (w2 := (w'.setCell ⟨gr, (a0 + d) * 2, none⟩ (.slice A7 n7 c7)).setCell ⟨gr, (a0 + d) * 2 + 1, none⟩ (.bool false)) (wanted_none rfl) rfl (by simp [execOp, Act.eval, e138, f138, e137, f137, q7, hx, hx', hf, hz, go_sem]) (sp_set 1 (.heads (.slice (some ⟨gr, 0, none⟩) L.length c) (List.set (hdP X1 ++ (hdP F ++ hdP (R.drop d))) (a0 + d) (.slice A7 n7 c7, false))) (by kernel_rfl) (by simp) (by decide) hl hs (by show Ob.heads _ (List.set _ _ (lineV (vs 7), false)) = _; rw [q7]; rfl) (hS.storeHead (sg h1)) trivial) trivial
          exact SSteps.nil
        · intro vs w' hS hv
          have q0 := (show vs 0 = (.slice (some ⟨gr, top * 2, none⟩) k (k) : Value) from hv 0 (by decide))
          have q1 := (show vs 1 = (.int .i64 ↑d : Value) from hv 1 (by decide))
          have q2 := (show vs 2 = (.pointer (some ⟨p, 0, none⟩) : Value) from hv 2 (by decide))
          have q3 := (show vs 3 = (.pointer (some ⟨p, 0, none⟩) : Value) from hv 3 (by decide))
          have q4 := (show vs 4 = (.pointer (some ⟨p, 0, none⟩) : Value) from hv 4 (by decide))
          have q5 := (show vs 5 = (.int .i64 ↑cols : Value) from hv 5 (by decide))
          have q6 := (show vs 6 = (.agg (pv q) : Value) from hv 6 (by decide))
          have q8 := (show vs 8 = (.pointer (some ⟨gr, (a0 + d) * 2, none⟩) : Value) from hv 8 (by decide))
          obtain ⟨A7, n7, c7, q7⟩ := (show ∃ A m c, vs 7 = .agg #[.slice A m c, .bool false] from hv 7 (by decide))
          rw [q7] at hS
          have S2 := Lib.hid hS
          simp only [putL, Act.put, Nat.zero_add, Nat.reduceAdd, List.setIfInBounds_toArray, List.set_cons_succ, List.set_cons_zero, q0, q1, q2, q3, q4, q5, q6, q8]
          clear hS hv q0 q1 q2 q3 q4 q5 q6 q8
          simp only [q7]
          have S9 := S2.out
          rw [show lineV (.agg #[.slice A7 n7 c7, .bool false]) = .slice A7 n7 c7 from rfl, hdP_fill (.slice A7 n7 c7) (List.replicate cols (blank q)) false HX1.out HF.out.1 hiR] at S9
          have S10 := Lib.hid (show Objs w0 w' (.heads (.slice (some ⟨gr, 0, none⟩) L.length c) (hdP X1 ++ (hdP (F ++ [(.slice A7 n7 c7, (List.replicate cols (blank q)), false)]) ++ hdP (R.drop (d + 1)))) :: .box b7 54 (pv q) :: .box p 58 #[.int .i64 ↑cols, .slice (some ⟨gr, 0, none⟩) L.length c] :: .heads (.slice Ag k cg) (hdP G) :: .pile (piP T ++ piP (F ++ [(.slice A7 n7 c7, (List.replicate cols (blank q)), false)])) :: .box b5 106 #[.int .i64 ↑top, .int .i64 ↑bot] :: os) from by have := Objs.pileIn S9; rw [List.append_assoc] at this; rw [piP_append]; exact this)
          clear S9 S2
          go_wp2_with fail
          go_roundw
          case rel => exact ⟨d + 1, F ++ [(.slice A7 n7 c7, (List.replicate cols (blank q)), false)], by omega, by go_num, ⟨by simp [HF.out.1], by rw [lnP_append, HF.out.2]; unfold rollFresh; rw [List.replicate_succ']; rfl⟩, S10.out⟩
          case measure => simp [intOf]; omega
    · go_wp2_with fail
      refine (clone_front S5.out.swap HONE.out (a := top) (m := k) (by rw [HTl.out]; omega) (by omega) (by rw [HTl.out]; omega)).mono ?_
      rintro e w5 ⟨Ag, cg, rfl, hS⟩
      obtain ⟨w6, hr6, hS6⟩ := run_copyH hS (k := 1) rfl HONE.out top top 0 (some ⟨gr, top * 2, none⟩) (some ⟨gr, top * 2 + k * 2, none⟩) k (c - top) 0 (c - top - k) (Nat.zero_min _) (by rw [HTl.out]; omega) (by rw [HTl.out]; omega) (fun h => absurd h (by omega)) 3
      have HR6 := Lib.hid hr6
      rw [hdP_drop T top, hdP_take, HG.out, ← hdP_drop T top, HPB2.out] at hS6
      have S7 := Lib.hid (ord7 (show Objs w0 w6 (.heads (.slice Ag k cg) (hdP G) :: .heads (.slice (some ⟨gr, 0, none⟩) L.length c) (hdP X1 ++ hdP R) :: .pile (piP T) :: .box b7 54 (pv q) :: .box b5 106 #[.int .i64 top, .int .i64 bot] :: .box p 58 #[.int .i64 cols, .slice (some ⟨gr, 0, none⟩) L.length c] :: os) from hS6))
      have HAO := HA0.out
      clear hS hr6 hS6 S5
      go_wp2_with (refine wpList_copyK rfl _ _ 30 30 rfl rfl rfl HR6.out ?_)
      go_loopw [14, 127] (fun _ vi wr => ∃ (d : Nat) (F : List Tr), d ≤ k ∧ vi = .int .i64 d ∧ (F.length = d ∧ lnP F = rollFresh d cols q) ∧ Objs w0 wr (.heads (.slice (some ⟨gr, 0, none⟩) L.length c) (hdP X1 ++ (hdP F ++ hdP (R.drop d))) :: .box b7 54 (pv q) :: .box p 58 #[.int .i64 ↑cols, .slice (some ⟨gr, 0, none⟩) L.length c] :: .heads (.slice Ag k cg) (hdP G) :: .pile (piP T ++ piP F) :: .box b5 106 #[.int .i64 ↑top, .int .i64 ↑bot] :: os)) (fun _ vi _ => k - (intOf vi).toNat)
      case atStart => exact ⟨0, [], by omega, rfl, ⟨rfl, rfl⟩, by simpa [hdP, piP] using S7.out⟩
      case round =>
        obtain ⟨d, F, hik, rfl, hFF, hS⟩ := hrel
        have HF := Lib.hid hFF
        have S8 := Lib.hid hS
        clear hFF hS S7
        by_cases hlt : d < k
        case neg =>
          have hie : d = k := by omega
          have hX := S8.out
          have hFk := HF.out.2
          rw [hie] at hX hFk
          have hX2 := hX.dealIn HPERM.out
          have HLF := Lib.hid (HLEFT.out F hFk)
          obtain ⟨L1, hL1⟩ : ∃ L1, L1 = lnP X1 ++ (lnP F ++ lnP (R.drop k)) := ⟨_, rfl⟩
          rw [← hL1] at hX2 HLF
          have hL1l : L1.length = L.length := by rw [hL1]; simp only [List.length_append, lnP_length, List.length_drop]; have := HX1.out; have := HF.out.1; have := HRL.out; omega
          have SX := Lib.hid hX2
          obtain ⟨hx5, hf5, hz5⟩ := (hX2.box (k := 4) rfl).facts
          clear hie hX hX2 hFk hL1 S8
          by_cases ht0 : top = 0
          · have HT0 := Lib.hid (show topHard top L1 = L1 by unfold topHard; rw [if_neg (by omega)])
            have htg : ¬ (0 : Int) < (top : Int) := by omega
            have SF := Lib.hid (fin_roll SX.out)
            clear ht0
            go_wp2_with fail
            go_ret2
            exact ⟨Ag, k, cg, rfl, by rw [← HGONE.out, ← HLF.out, HT0.out]; exact SF.out⟩
          · have htg : (0 : Int) < (top : Int) := by omega
            obtain ⟨l9, hlt1⟩ := get_of (show top - 1 < L1.length by omega)
            have HT0 := Lib.hid (show L1.set (top - 1) (l9.1, false) = topHard top L1 by unfold topHard; rw [if_pos (by omega), softMod_some hlt1])
            have HWT := Lib.hid (show IntKind.i64.wrap ((top : Int) - 1) = (top : Int) - 1 from IntWalk.i64_in _ (by omega))
            have htz : (0 : Int) ≤ (top : Int) - 1 := by omega
            have htz2 : (top : Int) - 1 < (L.length : Int) := by omega
            have htz3 : ¬ (top : Int) < 1 := by omega
            have htn : ((top : Int) - 1).toNat = top - 1 := by omega
            have SY := Lib.hid (ord_roll SX.out)
            go_upto_region 31 with (fail)
            refine wp_region_stage (w0 := w0) (os := (.lines (.slice Ag k cg) (lnP G) :: .box b7 54 (pv q) :: os)) (by kernel_rfl) (by kernel_rfl) (by kernel_rfl) [(0, 9, [], fun vs => .lines (.slice (some ⟨gr, 0, none⟩) L.length c) (L1.set (top - 1) (l9.1, false)))] [[], [], [], [1], [], [2], [], [], [], [0]] [.lines (.slice (some ⟨gr, 0, none⟩) L.length c) L1, .box p 58 #[.int .i64 ↑cols, .slice (some ⟨gr, 0, none⟩) L.length c], .box b5 106 #[.int .i64 ↑top, .int .i64 ↑bot]] (fun i u => match i with | 0 => u = (.pointer (some ⟨p, 0, none⟩) : Value) | 1 => u = (.pointer (some ⟨p, 0, none⟩) : Value) | 2 => u = (.pointer (some ⟨p, 1, none⟩) : Value) | 3 => u = (.slice (some ⟨gr, 0, none⟩) L.length c : Value) | 4 => u = (.pointer (some ⟨b5, 0, none⟩) : Value) | 5 => u = (.int .i64 ↑top : Value) | 6 => u = (.int .i64 (↑top - 1) : Value) | 7 => u = (.pointer (some ⟨gr, (top - 1) * 2, none⟩) : Value) | 8 => u = (.pointer (some ⟨gr, (top - 1) * 2 + 1, none⟩) : Value) | 9 => True | _ => True) (fun vs => [.lines (.slice (some ⟨gr, 0, none⟩) L.length c) (L1.set (top - 1) (l9.1, false)), .box p 58 #[.int .i64 ↑cols, .slice (some ⟨gr, 0, none⟩) L.length c], .box b5 106 #[.int .i64 ↑top, .int .i64 ↑bot]]) (by kernel_rfl) (fun vs => by rfl) SY.out ?_ ?_
            · refine SSteps.cons (fun a w' vs σ hS hl hs hk => ?_) ?_
              · have e0 : a.tmps.getD 0 undef = (.pointer (some ⟨p, 0, none⟩) : Value) := (sk_old hk 0 (by kernel_rfl)).trans rfl
                have f0 := gd e0
                exact ro_pure (v := .pointer (some ⟨p, 0, none⟩)) (wanted_none rfl) (by simp [execOp, Act.eval, e0, f0, go_sem]) (sp_same (by kernel_rfl) hl hs hS (show (.pointer (some ⟨p, 0, none⟩) : Value) = _ from rfl)) trivial
              refine SSteps.cons (fun a w' vs σ hS hl hs hk => ?_) ?_
              · have e143 : a.tmps.getD 143 undef = (.pointer (some ⟨p, 0, none⟩) : Value) := (sk_val hk 0 (by kernel_rfl) rfl rfl).trans ((hk.1 0 (by kernel_rfl)).1)
                have f143 := gd e143
                exact ro_pure (v := .pointer (some ⟨p, 0, none⟩)) (wanted_none rfl) (by simp [execOp, Act.eval, e143, f143, go_sem]) (sp_same (by kernel_rfl) hl hs hS (show (.pointer (some ⟨p, 0, none⟩) : Value) = _ from rfl)) trivial
              refine SSteps.cons (fun a w' vs σ hS hl hs hk => ?_) ?_
              · have e144 : a.tmps.getD 144 undef = (.pointer (some ⟨p, 0, none⟩) : Value) := (sk_val hk 1 (by kernel_rfl) rfl rfl).trans ((hk.1 1 (by kernel_rfl)).1)
                have f144 := gd e144
                exact ro_pure (v := .pointer (some ⟨p, 1, none⟩)) (wanted_none rfl) (by simp [execOp, Act.eval, e144, f144, go_sem]) (sp_same (by kernel_rfl) hl hs hS (show (.pointer (some ⟨p, 1, none⟩) : Value) = _ from rfl)) trivial
              refine SSteps.cons (fun a w' vs σ hS hl hs hk => ?_) ?_
              · have e145 : a.tmps.getD 145 undef = (.pointer (some ⟨p, 1, none⟩) : Value) := (sk_val hk 2 (by kernel_rfl) rfl rfl).trans ((hk.1 2 (by kernel_rfl)).1)
                have f145 := gd e145
                have hx := (hS.box (sg (hs 1 (by decide)))).cell
                exact ro_pure (v := .slice (some ⟨gr, 0, none⟩) L.length c) (wanted_none rfl) (by simp [execOp, Act.eval, e145, f145, go_sem, hx]) (sp_same (by kernel_rfl) hl hs hS (show (.slice (some ⟨gr, 0, none⟩) L.length c : Value) = _ from rfl)) trivial
              refine SSteps.cons (fun a w' vs σ hS hl hs hk => ?_) ?_
              · have e5 : a.tmps.getD 5 undef = (.pointer (some ⟨b5, 0, none⟩) : Value) := (sk_old hk 5 (by kernel_rfl)).trans rfl
                have f5 := gd e5
                exact ro_pure (v := .pointer (some ⟨b5, 0, none⟩)) (wanted_none rfl) (by simp [execOp, Act.eval, e5, f5, go_sem]) (sp_same (by kernel_rfl) hl hs hS (show (.pointer (some ⟨b5, 0, none⟩) : Value) = _ from rfl)) trivial
              refine SSteps.cons (fun a w' vs σ hS hl hs hk => ?_) ?_
              · have e147 : a.tmps.getD 147 undef = (.pointer (some ⟨b5, 0, none⟩) : Value) := (sk_val hk 4 (by kernel_rfl) rfl rfl).trans ((hk.1 4 (by kernel_rfl)).1)
                have f147 := gd e147
                have hx := (hS.box (sg (hs 2 (by decide)))).cell
                exact ro_pure (v := .int .i64 ↑top) (wanted_none rfl) (by simp [execOp, Act.eval, e147, f147, go_sem, hx]) (sp_same (by kernel_rfl) hl hs hS (show (.int .i64 ↑top : Value) = _ from rfl)) trivial
              refine SSteps.cons (fun a w' vs σ hS hl hs hk => ?_) ?_
              · have e148 : a.tmps.getD 148 undef = (.int .i64 ↑top : Value) := (sk_val hk 5 (by kernel_rfl) rfl rfl).trans ((hk.1 5 (by kernel_rfl)).1)
                have f148 := gd e148
                exact ro_pure (v := .int .i64 (↑top - 1)) (wanted_none rfl) (by simp [execOp, Act.eval, e148, f148, go_sem, HWT.out]) (sp_same (by kernel_rfl) hl hs hS (show (.int .i64 (↑top - 1) : Value) = _ from rfl)) trivial
              refine SSteps.cons (fun a w' vs σ hS hl hs hk => ?_) ?_
              · have e146 : a.tmps.getD 146 undef = (.slice (some ⟨gr, 0, none⟩) L.length c : Value) := (sk_val hk 3 (by kernel_rfl) rfl rfl).trans ((hk.1 3 (by kernel_rfl)).1)
                have f146 := gd e146
                have e149 : a.tmps.getD 149 undef = (.int .i64 (↑top - 1) : Value) := (sk_val hk 6 (by kernel_rfl) rfl rfl).trans ((hk.1 6 (by kernel_rfl)).1)
                have f149 := gd e149
                exact ro_pure (v := .pointer (some ⟨gr, (top - 1) * 2, none⟩)) (wanted_none rfl) (by simp [execOp, Act.eval, e146, f146, e149, f149, go_sem, htz, htz2, htn, htz3]) (sp_same (by kernel_rfl) hl hs hS (show (.pointer (some ⟨gr, (top - 1) * 2, none⟩) : Value) = _ from rfl)) trivial
              refine SSteps.cons (fun a w' vs σ hS hl hs hk => ?_) ?_
              · have e150 : a.tmps.getD 150 undef = (.pointer (some ⟨gr, (top - 1) * 2, none⟩) : Value) := (sk_val hk 7 (by kernel_rfl) rfl rfl).trans ((hk.1 7 (by kernel_rfl)).1)
                have f150 := gd e150
                exact ro_pure (v := .pointer (some ⟨gr, (top - 1) * 2 + 1, none⟩)) (wanted_none rfl) (by simp [execOp, Act.eval, e150, f150, go_sem]) (sp_same (by kernel_rfl) hl hs hS (show (.pointer (some ⟨gr, (top - 1) * 2 + 1, none⟩) : Value) = _ from rfl)) trivial
              refine SSteps.cons (fun a w' vs σ hS hl hs hk => ?_) ?_
              · have e151 : a.tmps.getD 151 undef = (.pointer (some ⟨gr, (top - 1) * 2 + 1, none⟩) : Value) := (sk_val hk 8 (by kernel_rfl) rfl rfl).trans ((hk.1 8 (by kernel_rfl)).1)
                have f151 := gd e151
                have h1 : σ[0]? = some (.lines (.slice (some ⟨gr, 0, none⟩) L.length c) L1) := hs 0 (by decide)
                obtain ⟨F9, bs9, hF9, -⟩ := hS.get (sg h1)
                obtain ⟨A9, c9, e9, -, -, -, hg9⟩ := hF9.form
                simp only [Value.slice.injEq] at e9
                obtain ⟨rfl, -, rfl⟩ := e9
                obtain ⟨g9, e9', hz, -, hso, hf⟩ := hg9 (by omega)
                cases e9'
                have hx := hso _ _ hlt1
                exact rstep_store (w2 := w'.setCell ⟨gr, (top - 1) * 2 + 1, none⟩ (.bool false)) (wanted_none rfl) rfl (by simp [execOp, Act.eval, e151, f151, hx, hf, hz, go_sem]) (sp_set 0 (.lines (.slice (some ⟨gr, 0, none⟩) L.length c) (L1.set (top - 1) (l9.1, false))) (by kernel_rfl) (by simp) (by decide) hl hs (by rfl) (hS.storeSoft (sg h1) hlt1) trivial) trivial
              exact SSteps.nil
            · intro vs w' hS hv
              have q0 := (show vs 0 = (.pointer (some ⟨p, 0, none⟩) : Value) from hv 0 (by decide))
              have q1 := (show vs 1 = (.pointer (some ⟨p, 0, none⟩) : Value) from hv 1 (by decide))
              have q2 := (show vs 2 = (.pointer (some ⟨p, 1, none⟩) : Value) from hv 2 (by decide))
              have q3 := (show vs 3 = (.slice (some ⟨gr, 0, none⟩) L.length c : Value) from hv 3 (by decide))
              have q4 := (show vs 4 = (.pointer (some ⟨b5, 0, none⟩) : Value) from hv 4 (by decide))
              have q5 := (show vs 5 = (.int .i64 ↑top : Value) from hv 5 (by decide))
              have q6 := (show vs 6 = (.int .i64 (↑top - 1) : Value) from hv 6 (by decide))
              have q7 := (show vs 7 = (.pointer (some ⟨gr, (top - 1) * 2, none⟩) : Value) from hv 7 (by decide))
              have q8 := (show vs 8 = (.pointer (some ⟨gr, (top - 1) * 2 + 1, none⟩) : Value) from hv 8 (by decide))
              have S2 := Lib.hid hS
              simp only [putL, Act.put, Nat.zero_add, Nat.reduceAdd, List.setIfInBounds_toArray, List.set_cons_succ, List.set_cons_zero, q0, q1, q2, q3, q4, q5, q6, q7, q8]
              clear hS hv q0 q1 q2 q3 q4 q5 q6 q7 q8
              have S9 := S2.out
              rw [HT0.out] at S9
              have SF := Lib.hid (fin_roll2 S9)
              clear S9 S2
              go_wp2_with fail
              go_ret2
              exact ⟨Ag, k, cg, rfl, by rw [← HGONE.out, ← HLF.out]; exact SF.out⟩
        have hiR : d < R.length := by omega
        have hiz : (0 : Int) ≤ (d : Int) := by omega
        have hiz2 : (d : Int) < (k : Int) := by omega
        have hoff : top * 2 + d * 2 = (a0 + d) * 2 := by omega
        have HHL := Lib.hid (show (hdP X1 ++ (hdP F ++ hdP (R.drop d))).length = a0 + (d + (R.length - d)) by simp only [List.length_append, hdP_length, List.length_drop, HX1.out, HF.out.1])
        have SZ := Lib.hid S8.out.pad
        clear S8
        go_upto_region 28 with (fail)
        refine wp_region_stage (w0 := w0) (os := (.heads (.slice Ag k cg) (hdP G) :: .pile (piP T ++ piP F) :: .box b5 106 #[.int .i64 ↑top, .int .i64 ↑bot] :: os)) (by kernel_rfl) (by kernel_rfl) (by kernel_rfl) [(0, 7, [7], fun vs => .cells (lineV (vs 7)) (List.replicate cols (blank q))), (1, 9, [7], fun vs => .heads (.slice (some ⟨gr, 0, none⟩) L.length c) (List.set (hdP X1 ++ (hdP F ++ hdP (R.drop d))) (a0 + d) (lineV (vs 7), false)))] [[], [], [], [], [], [3], [2], [0], [], [1]] [.none, .heads (.slice (some ⟨gr, 0, none⟩) L.length c) (hdP X1 ++ (hdP F ++ hdP (R.drop d))), .box b7 54 (pv q), .box p 58 #[.int .i64 ↑cols, .slice (some ⟨gr, 0, none⟩) L.length c]] (fun i u => match i with | 0 => u = (.slice (some ⟨gr, top * 2, none⟩) k (c - top) : Value) | 1 => u = (.int .i64 ↑d : Value) | 2 => u = (.pointer (some ⟨p, 0, none⟩) : Value) | 3 => u = (.pointer (some ⟨p, 0, none⟩) : Value) | 4 => u = (.pointer (some ⟨p, 0, none⟩) : Value) | 5 => u = (.int .i64 ↑cols : Value) | 6 => u = (.agg (pv q) : Value) | 7 => ∃ A m c, u = .agg #[.slice A m c, .bool false] | 8 => u = (.pointer (some ⟨gr, (a0 + d) * 2, none⟩) : Value) | 9 => True | _ => True) (fun vs => [.cells (lineV (vs 7)) (List.replicate cols (blank q)), .heads (.slice (some ⟨gr, 0, none⟩) L.length c) (List.set (hdP X1 ++ (hdP F ++ hdP (R.drop d))) (a0 + d) (lineV (vs 7), false)), .box b7 54 (pv q), .box p 58 #[.int .i64 ↑cols, .slice (some ⟨gr, 0, none⟩) L.length c]]) (by kernel_rfl) (fun vs => by rfl) SZ.out ?_ ?_
        · refine SSteps.cons (fun a w' vs σ hS hl hs hk => ?_) ?_
          · have e13 : a.tmps.getD 13 undef = (.slice (some ⟨gr, top * 2, none⟩) k (c - top) : Value) := (sk_old hk 13 (by kernel_rfl)).trans rfl
            have f13 := gd e13
            exact ro_pure (v := .slice (some ⟨gr, top * 2, none⟩) k (c - top)) (wanted_none rfl) (by simp [execOp, Act.eval, e13, f13, go_sem]) (sp_same (by kernel_rfl) hl hs hS (show (.slice (some ⟨gr, top * 2, none⟩) k (c - top) : Value) = _ from rfl)) trivial
          refine SSteps.cons (fun a w' vs σ hS hl hs hk => ?_) ?_
          · have e14 : a.tmps.getD 14 undef = (.int .i64 ↑d : Value) := (sk_old hk 14 (by kernel_rfl)).trans rfl
            have f14 := gd e14
            exact ro_pure (v := .int .i64 ↑d) (wanted_none rfl) (by simp [execOp, Act.eval, e14, f14, go_sem]) (sp_same (by kernel_rfl) hl hs hS (show (.int .i64 ↑d : Value) = _ from rfl)) trivial
          refine SSteps.cons (fun a w' vs σ hS hl hs hk => ?_) ?_
          · have e0 : a.tmps.getD 0 undef = (.pointer (some ⟨p, 0, none⟩) : Value) := (sk_old hk 0 (by kernel_rfl)).trans rfl
            have f0 := gd e0
            exact ro_pure (v := .pointer (some ⟨p, 0, none⟩)) (wanted_none rfl) (by simp [execOp, Act.eval, e0, f0, go_sem]) (sp_same (by kernel_rfl) hl hs hS (show (.pointer (some ⟨p, 0, none⟩) : Value) = _ from rfl)) trivial
          refine SSteps.cons (fun a w' vs σ hS hl hs hk => ?_) ?_
          · have e132 : a.tmps.getD 132 undef = (.pointer (some ⟨p, 0, none⟩) : Value) := (sk_val hk 2 (by kernel_rfl) rfl rfl).trans ((hk.1 2 (by kernel_rfl)).1)
            have f132 := gd e132
            exact ro_pure (v := .pointer (some ⟨p, 0, none⟩)) (wanted_none rfl) (by simp [execOp, Act.eval, e132, f132, go_sem]) (sp_same (by kernel_rfl) hl hs hS (show (.pointer (some ⟨p, 0, none⟩) : Value) = _ from rfl)) trivial
          refine SSteps.cons (fun a w' vs σ hS hl hs hk => ?_) ?_
          · have e133 : a.tmps.getD 133 undef = (.pointer (some ⟨p, 0, none⟩) : Value) := (sk_val hk 3 (by kernel_rfl) rfl rfl).trans ((hk.1 3 (by kernel_rfl)).1)
            have f133 := gd e133
            exact ro_pure (v := .pointer (some ⟨p, 0, none⟩)) (wanted_none rfl) (by simp [execOp, Act.eval, e133, f133, go_sem]) (sp_same (by kernel_rfl) hl hs hS (show (.pointer (some ⟨p, 0, none⟩) : Value) = _ from rfl)) trivial
          refine SSteps.cons (fun a w' vs σ hS hl hs hk => ?_) ?_
          · have e134 : a.tmps.getD 134 undef = (.pointer (some ⟨p, 0, none⟩) : Value) := (sk_val hk 4 (by kernel_rfl) rfl rfl).trans ((hk.1 4 (by kernel_rfl)).1)
            have f134 := gd e134
            have hx := (hS.box (sg (hs 3 (by decide)))).cell
            exact ro_pure (v := .int .i64 ↑cols) (wanted_none rfl) (by simp [execOp, Act.eval, e134, f134, go_sem, hx]) (sp_same (by kernel_rfl) hl hs hS (show (.int .i64 ↑cols : Value) = _ from rfl)) trivial
          refine SSteps.cons (fun a w' vs σ hS hl hs hk => ?_) ?_
          · have e7 : a.tmps.getD 7 undef = (.pointer (some ⟨b7, 0, none⟩) : Value) := (sk_old hk 7 (by kernel_rfl)).trans rfl
            have f7 := gd e7
            have hx := (hS.box (sg (hs 2 (by decide)))).penAt
            exact ro_pure (v := .agg (pv q)) (wanted_none rfl) (by simp [execOp, Act.eval, e7, f7, go_sem, hx]) (sp_same (by kernel_rfl) hl hs hS (show (.agg (pv q) : Value) = _ from rfl)) trivial
          refine SSteps.cons (fun a w' vs σ hS hl hs hk => ?_) ?_
          · have e135 : a.tmps.getD 135 undef = (.int .i64 ↑cols : Value) := (sk_val hk 5 (by kernel_rfl) rfl rfl).trans ((hk.1 5 (by kernel_rfl)).1)
            have f135 := gd e135
            have e136 : a.tmps.getD 136 undef = (.agg (pv q) : Value) := (sk_val hk 6 (by kernel_rfl) rfl rfl).trans ((hk.1 6 (by kernel_rfl)).1)
            have f136 := gd e136
            have h0 : σ[0]? = some .none := hs 0 (by decide)
            exact ro_call (f := 54) (wanted_none rfl) rfl (by simp only [List.map_toArray, List.map_cons, List.map_nil, Act.eval, e135, e136] <;> rfl) (fun _ _ => by kernel_rfl) ((gridblanks_any cols hcm q _ _ _ hS).mono fun e w2 ⟨x, h1, h2⟩ => ⟨_, h1, sp_set 0 (.cells x (List.replicate cols (blank q))) (by kernel_rfl) (by simp) (by decide) hl hs (by rfl) (h2.place (sg h0)) (by obtain ⟨A', c', e, -⟩ := h2.cellsRd (k := 0) rfl; exact ⟨A', _, c', by rw [e]⟩), trivial⟩)
          refine SSteps.cons (fun a w' vs σ hS hl hs hk => ?_) ?_
          · have e130 : a.tmps.getD 130 undef = (.slice (some ⟨gr, top * 2, none⟩) k (c - top) : Value) := (sk_val hk 0 (by kernel_rfl) rfl rfl).trans ((hk.1 0 (by kernel_rfl)).1)
            have f130 := gd e130
            have e131 : a.tmps.getD 131 undef = (.int .i64 ↑d : Value) := (sk_val hk 1 (by kernel_rfl) rfl rfl).trans ((hk.1 1 (by kernel_rfl)).1)
            have f131 := gd e131
            exact ro_pure (v := .pointer (some ⟨gr, (a0 + d) * 2, none⟩)) (wanted_none rfl) (by simp [execOp, Act.eval, e130, f130, e131, f131, go_sem, hiz, hiz2, hoff]) (sp_same (by kernel_rfl) hl hs hS (show (.pointer (some ⟨gr, (a0 + d) * 2, none⟩) : Value) = _ from rfl)) trivial
          refine SSteps.cons (fun a w' vs σ hS hl hs hk => ?_) ?_
          · have e138 : a.tmps.getD 138 undef = (.pointer (some ⟨gr, (a0 + d) * 2, none⟩) : Value) := (sk_val hk 8 (by kernel_rfl) rfl rfl).trans ((hk.1 8 (by kernel_rfl)).1)
            have f138 := gd e138
            have e137 : a.tmps.getD 137 undef = vs 7 := sk_val hk 7 (by kernel_rfl) rfl rfl
            have p137 : (fun u : Value => ∃ A m c, u = .agg #[.slice A m c, .bool false]) (vs 7) := (hk.1 7 (by kernel_rfl)).1
            have f137 := gd e137
            obtain ⟨A7, n7, c7, q7⟩ := p137
            have h1 : σ[1]? = some (.heads (.slice (some ⟨gr, 0, none⟩) L.length c) (hdP X1 ++ (hdP F ++ hdP (R.drop d)))) := hs 1 (by decide)
            obtain ⟨A8, c8, e8, -, -, -, hg8⟩ := hS.headsForm (sg h1)
            simp only [Value.slice.injEq] at e8
            obtain ⟨rfl, -, rfl⟩ := e8
            have hHl := HHL.out
            obtain ⟨g8, e9, hz, hcs, hf⟩ := hg8 (by omega)
            cases e9
            obtain ⟨x8, hx8⟩ := get_of (show a0 + d < (hdP X1 ++ (hdP F ++ hdP (R.drop d))).length by omega)
            obtain ⟨hx, hx'⟩ := hcs (a0 + d) x8 hx8
            exact rstep_store (w2 := (w'.setCell ⟨gr, (a0 + d) * 2, none⟩ (.slice A7 n7 c7)).setCell ⟨gr, (a0 + d) * 2 + 1, none⟩ (.bool false)) (wanted_none rfl) rfl (by simp [execOp, Act.eval, e138, f138, e137, f137, q7, hx, hx', hf, hz, go_sem]) (sp_set 1 (.heads (.slice (some ⟨gr, 0, none⟩) L.length c) (List.set (hdP X1 ++ (hdP F ++ hdP (R.drop d))) (a0 + d) (.slice A7 n7 c7, false))) (by kernel_rfl) (by simp) (by decide) hl hs (by show Ob.heads _ (List.set _ _ (lineV (vs 7), false)) = _; rw [q7]; rfl) (hS.storeHead (sg h1)) trivial) trivial
          exact SSteps.nil
        · intro vs w' hS hv
          have q0 := (show vs 0 = (.slice (some ⟨gr, top * 2, none⟩) k (c - top) : Value) from hv 0 (by decide))
          have q1 := (show vs 1 = (.int .i64 ↑d : Value) from hv 1 (by decide))
          have q2 := (show vs 2 = (.pointer (some ⟨p, 0, none⟩) : Value) from hv 2 (by decide))
          have q3 := (show vs 3 = (.pointer (some ⟨p, 0, none⟩) : Value) from hv 3 (by decide))
          have q4 := (show vs 4 = (.pointer (some ⟨p, 0, none⟩) : Value) from hv 4 (by decide))
          have q5 := (show vs 5 = (.int .i64 ↑cols : Value) from hv 5 (by decide))
          have q6 := (show vs 6 = (.agg (pv q) : Value) from hv 6 (by decide))
          have q8 := (show vs 8 = (.pointer (some ⟨gr, (a0 + d) * 2, none⟩) : Value) from hv 8 (by decide))
          obtain ⟨A7, n7, c7, q7⟩ := (show ∃ A m c, vs 7 = .agg #[.slice A m c, .bool false] from hv 7 (by decide))
          rw [q7] at hS
          have S2 := Lib.hid hS
          simp only [putL, Act.put, Nat.zero_add, Nat.reduceAdd, List.setIfInBounds_toArray, List.set_cons_succ, List.set_cons_zero, q0, q1, q2, q3, q4, q5, q6, q8]
          clear hS hv q0 q1 q2 q3 q4 q5 q6 q8
          simp only [q7]
          have S9 := S2.out
          rw [show lineV (.agg #[.slice A7 n7 c7, .bool false]) = .slice A7 n7 c7 from rfl, hdP_fill (.slice A7 n7 c7) (List.replicate cols (blank q)) false HX1.out HF.out.1 hiR] at S9
          have S10 := Lib.hid (show Objs w0 w' (.heads (.slice (some ⟨gr, 0, none⟩) L.length c) (hdP X1 ++ (hdP (F ++ [(.slice A7 n7 c7, (List.replicate cols (blank q)), false)]) ++ hdP (R.drop (d + 1)))) :: .box b7 54 (pv q) :: .box p 58 #[.int .i64 ↑cols, .slice (some ⟨gr, 0, none⟩) L.length c] :: .heads (.slice Ag k cg) (hdP G) :: .pile (piP T ++ piP (F ++ [(.slice A7 n7 c7, (List.replicate cols (blank q)), false)])) :: .box b5 106 #[.int .i64 ↑top, .int .i64 ↑bot] :: os) from by have := Objs.pileIn S9; rw [List.append_assoc] at this; rw [piP_append]; exact this)
          clear S9 S2
          go_wp2_with fail
          go_roundw
          case rel => exact ⟨d + 1, F ++ [(.slice A7 n7 c7, (List.replicate cols (blank q)), false)], by omega, by go_num, ⟨by simp [HF.out.1], by rw [lnP_append, HF.out.2]; unfold rollFresh; rw [List.replicate_succ']; rfl⟩, S10.out⟩
          case measure => simp [intOf]; omega
end
end Go.Proofs.YtppijfjigcoifaaDoor

/-
  Roll of the program's grid, downwards.
-/
set_option linter.unusedSimpArgs false
set_option linter.unusedVariables false
namespace Go.Proofs.YtppijfjigcoifaaDoor
open Go.RowKit

section
variable {w0 w : World} {os : List Ob} {p cols : Nat} {L : List Ln}
set_option maxRecDepth 100000 in
set_option maxHeartbeats 8000000 in
theorem Roll_neg {top bot k : Nat} {n : Int} (q : Pen) (hT : Tabs w0) (hS : Objs w0 w (.grid p 58 cols L :: os)) (hc : 0 < cols) (hcm : cols ≤ 1000) (hL : L.length ≤ 100000) (htb : top ≤ bot) (hbl : bot < L.length) (hq : q.ok = true) (hn : n < 0) (hk : (-((bot + 1 - top : Nat) : Int) < n ∧ n = -(k : Int)) ∨ ((n ≤ -((bot + 1 - top : Nat) : Int) ∧ -9223372036854775808 ≤ n) ∧ k = bot + 1 - top)) :
    Calls Tryd.prog 50 #[.pointer (some ⟨p, 0, none⟩), .agg #[.int .i64 top, .int .i64 bot], .int .i64 n, .agg (pv q)] w fun e w' => ∃ A m c, e = .returned (.tuple #[.slice A m c, .int .i64 0]) ∧ Objs w0 w' (.lines (.slice A m c) (rollGone top bot n L) :: .grid p 58 cols (rollL top bot n q cols L) :: os) := by
  have S := Lib.hid hS
  have HT := Lib.hid hT
  have HQ := Lib.hid hq
  have HK := Lib.hid hk
  obtain ⟨many, hmany⟩ : ∃ many, many = bot + 1 - top := ⟨_, rfl⟩
  have HMANY := Lib.hid hmany
  have hb0 := beq_no (show ¬ n = 0 by omega)
  have d1 : decide ((top : Int) < 0) = false := by simp
  have d2 : decide ((bot : Int) < top) = false := by simp; omega
  have d2n : decide (bot < top) = false := by simp; omega
  have d3 : decide ((L.length : Int) ≤ bot) = false := by simp; omega
  have d3n : decide (L.length ≤ bot) = false := by simp; omega
  clear hS hT hq hk hmany
  go_enter Tryd.func50, Tryd.ntmps50
  go_wp2_with fail
  refine (none_no S.out.alloc2 (k := 2) rfl hc).mono ?_
  rintro e w1 ⟨rfl, hS⟩
  generalize w.heap.size + 1 = b7 at hS ⊢
  generalize w.heap.size = b5 at hS ⊢
  obtain ⟨v, hS1⟩ := hS.openGrid (k := 2) rfl
  obtain ⟨T, hTL, hone, hS2⟩ := hS1.toHeads (k := 0) rfl
  obtain ⟨A, c, rfl, hlc, hcmx, -, hgr⟩ := hS2.headsForm (k := 1) rfl
  have hTl : (hdP T).length = L.length := by rw [hdP_length, ← hTL, lnP_length]
  rw [hTl] at hS2 hlc hgr
  obtain ⟨gr, rfl, hgz, -, -⟩ := hgr (by omega)
  have S2 := Lib.hid hS2
  obtain ⟨hx5, hf5, hz5⟩ := (hS2.box (k := 3) rfl).facts
  obtain ⟨hxp, hfp, hzp⟩ := (hS2.box (k := 4) rfl).facts
  have HTL := Lib.hid hTL
  have HTl := Lib.hid hTl
  have HONE := Lib.hid hone
  clear hS hS1 hS2 S hTL hTl hone hgr hgz
  go_wp2_with fail
  refine wp_region_below (by kernel_rfl) (by kernel_rfl) ?_
  repeat (go_big_quiet_step (fail))
  refine wpQuiet_nil ?_
  intro w2 hb2
  have S3 := Lib.hid (S2.out.bel hb2)
  clear hx5 hf5 hz5 hxp hfp hzp S2 hb2
  have hp7 := (S3.out.box (k := 2) rfl).penAt
  have hz7 := (S3.out.box (k := 2) rfl).lt
  go_wp2_with fail
  refine (inked_is HQ.out HT.out S3.out).mono ?_
  rintro e w3 ⟨rfl, hS⟩
  have S4 := Lib.hid hS
  obtain ⟨hx5, hf5, hz5⟩ := (hS.box (k := 3) rfl).facts
  obtain ⟨hxp, hfp, hzp⟩ := (hS.box (k := 4) rfl).facts
  clear hS S3 hp7 hz7
  go_wp2_with fail
  refine wp_region_below (by kernel_rfl) (by kernel_rfl) ?_
  repeat (go_big_quiet_step (fail))
  refine wpQuiet_nil ?_
  intro w4 hb4
  have S5 := Lib.hid (show Objs w0 w4 (.pile (piP T) :: .heads (.slice (some ⟨gr, 0, none⟩) L.length c) (hdP T) :: .box b7 54 (pv q) :: .box b5 106 #[.int .i64 top, .int .i64 bot] :: .box p 58 #[.int .i64 cols, .slice (some ⟨gr, 0, none⟩) L.length c] :: os) from S4.out.bel hb4)
  clear hx5 hf5 hz5 hxp hfp hzp S4 hb4
  rw [← HMANY.out]
  have hmb : many ≤ 100000 := by have := HMANY.out; omega
  have hm1 : 0 < many := by have := HMANY.out; omega
  have htm : top + many ≤ L.length := by have := HMANY.out; omega
  have hkm : k ≤ many := by have := HK.out; have := HMANY.out; omega
  have hk0 : 0 < k := by have := HK.out; have := HMANY.out; omega
  have hctop : many ≤ c - top := by omega
  have HK2 := HK.out
  rw [← HMANY.out] at HK2
  have HKK := Lib.hid (rollK_is (n := n) (k := k) HMANY.out (by rcases HK2 with ⟨a1, a2⟩ | ⟨⟨a1, a3⟩, a2⟩ <;> omega))
  have HPERM := Lib.hid (perm_neg (T := T) (top := top) hkm)
  have HGONE := Lib.hid (gone_neg HTL.out hn HMANY.out HKK.out hkm)
  have HLEFT := Lib.hid (fun (F : List Tr) (hF : lnP F = rollFresh k cols q) => left_neg HTL.out hn HMANY.out htb HKK.out hkm hF)
  have hTn : T.length = L.length := by have := HTl.out; rwa [hdP_length] at this
  obtain ⟨G, hG⟩ : ∃ G, G = (T.drop (top + (many - k))).take k := ⟨_, rfl⟩
  obtain ⟨X1, hX1⟩ : ∃ X1, X1 = T.take top := ⟨_, rfl⟩
  obtain ⟨Sx, hSx⟩ : ∃ Sx, Sx = (T.drop top).take (many - k) := ⟨_, rfl⟩
  obtain ⟨T3, hT3⟩ : ∃ T3, T3 = T.drop (top + many) := ⟨_, rfl⟩
  obtain ⟨R, hR⟩ : ∃ R, R = (T.drop top).take k ++ (hardR Sx ++ T3) := ⟨_, rfl⟩
  obtain ⟨T1, hT1⟩ : ∃ T1, T1 = T.take (top + k) := ⟨_, rfl⟩
  obtain ⟨a0, ha0⟩ : ∃ a0, a0 = top := ⟨_, rfl⟩
  have hT1l : T1.length = top + k := by rw [hT1]; simp; omega
  have hSxl : Sx.length = many - k := by rw [hSx]; simp; omega
  have hRl0 : ((T.drop top).take k).length = k := by simp; omega
  have hRll : R.length = L.length - a0 := by rw [hR, ha0]; simp only [List.length_append, hRl0, hardR_length, hSxl, hT3, List.length_drop]; omega
  have hRd : R.drop k = hardR Sx ++ T3 := by rw [hR]; exact List.drop_left' hRl0
  have hXR : hdP X1 ++ hdP R = hdP T1 ++ (hdP (hardR Sx) ++ hdP T3) := by
    rw [hR, hX1, hT1, List.take_add, hdP_append, hdP_append, hdP_append, List.append_assoc]
  have HX1 := Lib.hid (show X1.length = a0 by rw [hX1, ha0]; simp; omega)
  have HRL := Lib.hid hRll
  have hRk : k ≤ R.length := by omega
  rw [← hX1, ← hSx, ← hT3, ← hG, ← hRd] at HPERM
  rw [← hX1, ← hSx, ← hT3, ← hRd] at HLEFT
  rw [← hG] at HGONE
  have HG := Lib.hid hG.symm
  have HCP := Lib.hid (hdP_copied T (top + k) top (many - k))
  rw [show top + k + (many - k) = top + many by omega, ← hT1, ← hSx, ← hT3] at HCP
  have HXR := Lib.hid hXR
  have HA0 := Lib.hid ha0
  have HSXL := Lib.hid hSxl
  have HT1L := Lib.hid hT1l
  have HPB := Lib.hid (show many = k → (hdP T).take top ++ (((hdP T).drop top).take 0 ++ (hdP T).drop (top + 0)) = hdP X1 ++ hdP R from fun e => by
    have hS0 : Sx = [] := List.eq_nil_of_length_eq_zero (by omega)
    rw [hR, hX1, hS0, hdP_append, hdP_take, hdP_drop, hT3, e]
    show hdP (T.take top) ++ ([] ++ (hdP T).drop (top + 0)) = hdP (T.take top) ++ (hdP ((T.drop top).take k) ++ hdP ([] ++ T.drop (top + k)))
    rw [List.nil_append, List.nil_append, ← hdP_append, show T.drop (top + k) = (T.drop top).drop k by rw [List.drop_drop], List.take_append_drop, Nat.add_zero, hdP_drop])
  clear hG hX1 hSx hT3 hR hT1 hTn hT1l hSxl hRll hRd hXR hRl0
  rcases HK2 with ⟨h1, h2⟩ | ⟨⟨h1, h3⟩, h2⟩
  · subst h2
    have hmax : max (-(k : Int)) (k : Int) = (k : Int) := by omega
    have hnm : (-(k : Int)) < (many : Int) := by omega
    have hngt : ¬ (0 : Int) < -(k : Int) := by omega
    have hkl : k < many := by omega
    have HMK := Lib.hid (show many - (many - k) = k from Nat.sub_sub_self hkm)
    have HOF := Lib.hid (show top * 2 + (many - k) * 2 = (top + (many - k)) * 2 by rw [Nat.add_mul])
    clear ha0
    go_wp2_with fail
    simp only [HMK.out, HOF.out]
    refine (clone_front S5.out.swap HONE.out (a := top + (many - k)) (m := k) (by rw [HTl.out]; omega) (by omega) (by rw [HTl.out]; omega)).mono ?_
    rintro e w5 ⟨Ag, cg, rfl, hS⟩
    obtain ⟨w6, hr6, hS6⟩ := run_copyH hS (k := 1) rfl HONE.out (top + k) top (many - k) (some ⟨gr, top * 2 + k * 2, none⟩) (some ⟨gr, top * 2, none⟩) (many - k) (c - top - k) many (c - top) (Nat.min_eq_right (by omega)) (by rw [HTl.out]; omega) (by rw [HTl.out]; omega) (fun _ => ⟨by rw [Nat.add_mul], rfl⟩) 3
    have HR6 := Lib.hid hr6
    rw [show top + k + (many - k) = top + many by omega, HCP.out, hdP_drop, hdP_take, HG.out] at hS6
    have hS6' := (show Objs w0 w6 (.heads (.slice Ag k cg) (hdP G) :: .heads (.slice (some ⟨gr, 0, none⟩) L.length c) (hdP T1 ++ (hdP Sx ++ hdP T3)) :: .pile (piP T) :: .box b7 54 (pv q) :: .box b5 106 #[.int .i64 top, .int .i64 bot] :: .box p 58 #[.int .i64 cols, .slice (some ⟨gr, 0, none⟩) L.length c] :: os) from hS6)
    have hSl := HSXL.out
    have hTl2 := HT1L.out
    obtain ⟨xs, hxs⟩ := get_of (show Sx.length - 1 < Sx.length by omega)
    have hid : top + (many - 1) = T1.length + (Sx.length - 1) := by omega
    have hxh : (hdP T1 ++ (hdP Sx ++ hdP T3))[top + (many - 1)]? = some (xs.1, xs.2.2) := by
      rw [hid, List.getElem?_append_right (by rw [hdP_length]; omega), hdP_length, Nat.add_sub_cancel_left, List.getElem?_append_left (by rw [hdP_length]; omega)]
      simp [hdP, hxs]
    have hS7 := hS6'.softHead (k := 1) (s := false) rfl hxh
    rw [hid, hdP_harden hxs, ← HXR.out, ← hid] at hS7
    obtain ⟨A8, c8, e8, -, -, -, hg8⟩ := hS6'.headsForm (k := 1) rfl
    simp only [Value.slice.injEq] at e8
    obtain ⟨rfl, -, rfl⟩ := e8
    obtain ⟨g8, e9, hz8, hcs8, hf8⟩ := hg8 (by simp only [List.length_append, hdP_length]; omega)
    cases e9
    have hx8 := (hcs8 _ _ hxh).2
    have hadr : (top + (many - 1)) * 2 + 1 = top * 2 + (many - 1) * 2 + 1 := by omega
    rw [hadr] at hx8 hS7
    have S7 := Lib.hid (ord7 hS7)
    have HAO := HA0.out
    clear hS hr6 hS6 hS6' S5 hS7 hxh hid hcs8 hg8 hadr hSl hTl2 hxs
    go_wp2_with (refine wpList_copyK rfl _ _ 30 30 rfl rfl rfl HR6.out ?_)
    clear hx8 hf8 hz8 hmax hnm hngt
    go_loopw [14, 127] (fun _ vi wr => ∃ (d : Nat) (F : List Tr), d ≤ k ∧ vi = .int .i64 d ∧ (F.length = d ∧ lnP F = rollFresh d cols q) ∧ Objs w0 wr (.heads (.slice (some ⟨gr, 0, none⟩) L.length c) (hdP X1 ++ (hdP F ++ hdP (R.drop d))) :: .box b7 54 (pv q) :: .box p 58 #[.int .i64 ↑cols, .slice (some ⟨gr, 0, none⟩) L.length c] :: .heads (.slice Ag k cg) (hdP G) :: .pile (piP T ++ piP F) :: .box b5 106 #[.int .i64 ↑top, .int .i64 ↑bot] :: os)) (fun _ vi _ => k - (intOf vi).toNat)
    case atStart => exact ⟨0, [], by omega, rfl, ⟨rfl, rfl⟩, by simpa [hdP, piP] using S7.out⟩
    case round =>
      obtain ⟨d, F, hik, rfl, hFF, hS⟩ := hrel
      have HF := Lib.hid hFF
      have S8 := Lib.hid hS
      clear hFF hS S7
      by_cases hlt : d < k
      case neg =>
        have hie : d = k := by omega
        have hX := S8.out
        have hFk := HF.out.2
        rw [hie] at hX hFk
        have hX2 := hX.dealIn HPERM.out
        have HLF := Lib.hid (HLEFT.out F hFk)
        obtain ⟨L1, hL1⟩ : ∃ L1, L1 = lnP X1 ++ (lnP F ++ lnP (R.drop k)) := ⟨_, rfl⟩
        rw [← hL1] at hX2 HLF
        have hL1l : L1.length = L.length := by rw [hL1]; simp only [List.length_append, lnP_length, List.length_drop]; have := HX1.out; have := HF.out.1; have := HRL.out; omega
        have SX := Lib.hid hX2
        obtain ⟨hx5, hf5, hz5⟩ := (hX2.box (k := 4) rfl).facts
        clear hie hX hX2 hFk hL1 S8
        by_cases ht0 : top = 0
        · have HT0 := Lib.hid (show topHard top L1 = L1 by unfold topHard; rw [if_neg (by omega)])
          have htg : ¬ (0 : Int) < (top : Int) := by omega
          have SF := Lib.hid (fin_roll SX.out)
          clear ht0
          go_wp2_with fail
          go_ret2
          exact ⟨Ag, k, cg, rfl, by rw [← HGONE.out, ← HLF.out, HT0.out]; exact SF.out⟩
        · have htg : (0 : Int) < (top : Int) := by omega
          obtain ⟨l9, hlt1⟩ := get_of (show top - 1 < L1.length by omega)
          have HT0 := Lib.hid (show L1.set (top - 1) (l9.1, false) = topHard top L1 by unfold topHard; rw [if_pos (by omega), softMod_some hlt1])
          have HWT := Lib.hid (show IntKind.i64.wrap ((top : Int) - 1) = (top : Int) - 1 from IntWalk.i64_in _ (by omega))
          have htz : (0 : Int) ≤ (top : Int) - 1 := by omega
          have htz2 : (top : Int) - 1 < (L.length : Int) := by omega
          have htz3 : ¬ (top : Int) < 1 := by omega
          have htn : ((top : Int) - 1).toNat = top - 1 := by omega
          have SY := Lib.hid (ord_roll SX.out)
          go_upto_region 31 with (fail)
          refine wp_region_stage (w0 := w0) (os := (.lines (.slice Ag k cg) (lnP G) :: .box b7 54 (pv q) :: os)) (by kernel_rfl) (by kernel_rfl) (by kernel_rfl) [(0, 9, [], fun vs => .lines (.slice (some ⟨gr, 0, none⟩) L.length c) (L1.set (top - 1) (l9.1, false)))] [[], [], [], [1], [], [2], [], [], [], [0]] [.lines (.slice (some ⟨gr, 0, none⟩) L.length c) L1, .box p 58 #[.int .i64 ↑cols, .slice (some ⟨gr, 0, none⟩) L.length c], .box b5 106 #[.int .i64 ↑top, .int .i64 ↑bot]] (fun i u => match i with | 0 => u = (.pointer (some ⟨p, 0, none⟩) : Value) | 1 => u = (.pointer (some ⟨p, 0, none⟩) : Value) | 2 => u = (.pointer (some ⟨p, 1, none⟩) : Value) | 3 => u = (.slice (some ⟨gr, 0, none⟩) L.length c : Value) | 4 => u = (.pointer (some ⟨b5, 0, none⟩) : Value) | 5 => u = (.int .i64 ↑top : Value) | 6 => u = (.int .i64 (↑top - 1) : Value) | 7 => u = (.pointer (some ⟨gr, (top - 1) * 2, none⟩) : Value) | 8 => u = (.pointer (some ⟨gr, (top - 1) * 2 + 1, none⟩) : Value) | 9 => True | _ => True) (fun vs => [.lines (.slice (some ⟨gr, 0, none⟩) L.length c) (L1.set (top - 1) (l9.1, false)), .box p 58 #[.int .i64 ↑cols, .slice (some ⟨gr, 0, none⟩) L.length c], .box b5 106 #[.int .i64 ↑top, .int .i64 ↑bot]]) (by kernel_rfl) (fun vs => by rfl) SY.out ?_ ?_
          · refine SSteps.cons (fun a w' vs σ hS hl hs hk => ?_) ?_
            · have e0 : a.tmps.getD 0 undef = (.pointer (some ⟨p, 0, none⟩) : Value) := (sk_old hk 0 (by kernel_rfl)).trans rfl
              have f0 := gd e0
              exact ro_pure (v := .pointer (some ⟨p, 0, none⟩)) (wanted_none rfl) (by simp [execOp, Act.eval, e0, f0, go_sem]) (sp_same (by kernel_rfl) hl hs hS (show (.pointer (some ⟨p, 0, none⟩) : Value) = _ from rfl)) trivial
            refine SSteps.cons (fun a w' vs σ hS hl hs hk => ?_) ?_
            · have e143 : a.tmps.getD 143 undef = (.pointer (some ⟨p, 0, none⟩) : Value) := (sk_val hk 0 (by kernel_rfl) rfl rfl).trans ((hk.1 0 (by kernel_rfl)).1)
              have f143 := gd e143
              exact ro_pure (v := .pointer (some ⟨p, 0, none⟩)) (wanted_none rfl) (by simp [execOp, Act.eval, e143, f143, go_sem]) (sp_same (by kernel_rfl) hl hs hS (show (.pointer (some ⟨p, 0, none⟩) : Value) = _ from rfl)) trivial
            refine SSteps.cons (fun a w' vs σ hS hl hs hk => ?_) ?_
            · have e144 : a.tmps.getD 144 undef = (.pointer (some ⟨p, 0, none⟩) : Value) := (sk_val hk 1 (by kernel_rfl) rfl rfl).trans ((hk.1 1 (by kernel_rfl)).1)
              have f144 := gd e144
              exact ro_pure (v := .pointer (some ⟨p, 1, none⟩)) (wanted_none rfl) (by simp [execOp, Act.eval, e144, f144, go_sem]) (sp_same (by kernel_rfl) hl hs hS (show (.pointer (some ⟨p, 1, none⟩) : Value) = _ from rfl)) trivial
            refine SSteps.cons (fun a w' vs σ hS hl hs hk => ?_) ?_
            · have e145 : a.tmps.getD 145 undef = (.pointer (some ⟨p, 1, none⟩) : Value) := (sk_val hk 2 (by kernel_rfl) rfl rfl).trans ((hk.1 2 (by kernel_rfl)).1)
              have f145 := gd e145
              have hx := (hS.box (sg (hs 1 (by decide)))).cell
              exact ro_pure (v := .slice (some ⟨gr, 0, none⟩) L.length c) (wanted_none rfl) (by simp [execOp, Act.eval, e145, f145, go_sem, hx]) (sp_same (by kernel_rfl) hl hs hS (show (.slice (some ⟨gr, 0, none⟩) L.length c : Value) = _ from rfl)) trivial
            refine SSteps.cons (fun a w' vs σ hS hl hs hk => ?_) ?_
            · have e5 : a.tmps.getD 5 undef = (.pointer (some ⟨b5, 0, none⟩) : Value) := (sk_old hk 5 (by kernel_rfl)).trans rfl
              have f5 := gd e5
              exact ro_pure (v := .pointer (some ⟨b5, 0, none⟩)) (wanted_none rfl) (by simp [execOp, Act.eval, e5, f5, go_sem]) (sp_same (by kernel_rfl) hl hs hS (show (.pointer (some ⟨b5, 0, none⟩) : Value) = _ from rfl)) trivial
            refine SSteps.cons (fun a w' vs σ hS hl hs hk => ?_) ?_
            · have e147 : a.tmps.getD 147 undef = (.pointer (some ⟨b5, 0, none⟩) : Value) := (sk_val hk 4 (by kernel_rfl) rfl rfl).trans ((hk.1 4 (by kernel_rfl)).1)
              have f147 := gd e147
              have hx := (hS.box (sg (hs 2 (by decide)))).cell
              exact ro_pure (v := .int .i64 ↑top) (wanted_none rfl) (by simp [execOp, Act.eval, e147, f147, go_sem, hx]) (sp_same (by kernel_rfl) hl hs hS (show (.int .i64 ↑top : Value) = _ from rfl)) trivial
            refine SSteps.cons (fun a w' vs σ hS hl hs hk => ?_) ?_
            · have e148 : a.tmps.getD 148 undef = (.int .i64 ↑top : Value) := (sk_val hk 5 (by kernel_rfl) rfl rfl).trans ((hk.1 5 (by kernel_rfl)).1)
              have f148 := gd e148
              exact ro_pure (v := .int .i64 (↑top - 1)) (wanted_none rfl) (by simp [execOp, Act.eval, e148, f148, go_sem, HWT.out]) (sp_same (by kernel_rfl) hl hs hS (show (.int .i64 (↑top - 1) : Value) = _ from rfl)) trivial
            refine SSteps.cons (fun a w' vs σ hS hl hs hk => ?_) ?_
            · have e146 : a.tmps.getD 146 undef = (.slice (some ⟨gr, 0, none⟩) L.length c : Value) := (sk_val hk 3 (by kernel_rfl) rfl rfl).trans ((hk.1 3 (by kernel_rfl)).1)
              have f146 := gd e146
              have e149 : a.tmps.getD 149 undef = (.int .i64 (↑top - 1) : Value) := (sk_val hk 6 (by kernel_rfl) rfl rfl).trans ((hk.1 6 (by kernel_rfl)).1)
              have f149 := gd e149
              exact ro_pure (v := .pointer (some ⟨gr, (top - 1) * 2, none⟩)) (wanted_none rfl) (by simp [execOp, Act.eval, e146, f146, e149, f149, go_sem, htz, htz2, htn, htz3]) (sp_same (by kernel_rfl) hl hs hS (show (.pointer (some ⟨gr, (top - 1) * 2, none⟩) : Value) = _ from rfl)) trivial
            refine SSteps.cons (fun a w' vs σ hS hl hs hk => ?_) ?_
            · have e150 : a.tmps.getD 150 undef = (.pointer (some ⟨gr, (top - 1) * 2, none⟩) : Value) := (sk_val hk 7 (by kernel_rfl) rfl rfl).trans ((hk.1 7 (by kernel_rfl)).1)
              have f150 := gd e150
              exact ro_pure (v := .pointer (some ⟨gr, (top - 1) * 2 + 1, none⟩)) (wanted_none rfl) (by simp [execOp, Act.eval, e150, f150, go_sem]) (sp_same (by kernel_rfl) hl hs hS (show (.pointer (some ⟨gr, (top - 1) * 2 + 1, none⟩) : Value) = _ from rfl)) trivial
            refine SSteps.cons (fun a w' vs σ hS hl hs hk => ?_) ?_
            · have e151 : a.tmps.getD 151 undef = (.pointer (some ⟨gr, (top - 1) * 2 + 1, none⟩) : Value) := (sk_val hk 8 (by kernel_rfl) rfl rfl).trans ((hk.1 8 (by kernel_rfl)).1)
              have f151 := gd e151
              have h1 : σ[0]? = some (.lines (.slice (some ⟨gr, 0, none⟩) L.length c) L1) := hs 0 (by decide)
              obtain ⟨F9, bs9, hF9, -⟩ := hS.get (sg h1)
              obtain ⟨A9, c9, e9, -, -, -, hg9⟩ := hF9.form
              simp only [Value.slice.injEq] at e9
              obtain ⟨rfl, -, rfl⟩ := e9
              obtain ⟨g9, e9', hz, -, hso, hf⟩ := hg9 (by omega)
              cases e9'
              have hx := hso _ _ hlt1
              exact rstep_store (w2 := w'.setCell ⟨gr, (top - 1) * 2 + 1, none⟩ (.bool false)) (wanted_none rfl) rfl (by simp [execOp, Act.eval, e151, f151, hx, hf, hz, go_sem]) (sp_set 0 (.lines (.slice (some ⟨gr, 0, none⟩) L.length c) (L1.set (top - 1) (l9.1, false))) (by kernel_rfl) (by simp) (by decide) hl hs (by rfl) (hS.storeSoft (sg h1) hlt1) trivial) trivial
            exact SSteps.nil
          · intro vs w' hS hv
            have q0 := (show vs 0 = (.pointer (some ⟨p, 0, none⟩) : Value) from hv 0 (by decide))
            have q1 := (show vs 1 = (.pointer (some ⟨p, 0, none⟩) : Value) from hv 1 (by decide))
            have q2 := (show vs 2 = (.pointer (some ⟨p, 1, none⟩) : Value) from hv 2 (by decide))
            have q3 := (show vs 3 = (.slice (some ⟨gr, 0, none⟩) L.length c : Value) from hv 3 (by decide))
            have q4 := (show vs 4 = (.pointer (some ⟨b5, 0, none⟩) : Value) from hv 4 (by decide))
            have q5 := (show vs 5 = (.int .i64 ↑top : Value) from hv 5 (by decide))
            have q6 := (show vs 6 = (.int .i64 (↑top - 1) : Value) from hv 6 (by decide))
            have q7 := (show vs 7 = (.pointer (some ⟨gr, (top - 1) * 2, none⟩) : Value) from hv 7 (by decide))
            have q8 := (show vs 8 = (.pointer (some ⟨gr, (top - 1) * 2 + 1, none⟩) : Value) from hv 8 (by decide))
            have S2 := Lib.hid hS
            simp only [putL, Act.put, Nat.zero_add, Nat.reduceAdd, List.setIfInBounds_toArray, List.set_cons_succ, List.set_cons_zero, q0, q1, q2, q3, q4, q5, q6, q7, q8]
            clear hS hv q0 q1 q2 q3 q4 q5 q6 q7 q8
            have S9 := S2.out
            rw [HT0.out] at S9
            have SF := Lib.hid (fin_roll2 S9)
            clear S9 S2
            go_wp2_with fail
            go_ret2
            exact ⟨Ag, k, cg, rfl, by rw [← HGONE.out, ← HLF.out]; exact SF.out⟩
      have hiR : d < R.length := by omega
      have hiz : (0 : Int) ≤ (d : Int) := by omega
      have hiz2 : (d : Int) < (k : Int) := by omega
      have hoff : top * 2 + d * 2 = (a0 + d) * 2 := by omega
      have HHL := Lib.hid (show (hdP X1 ++ (hdP F ++ hdP (R.drop d))).length = a0 + (d + (R.length - d)) by simp only [List.length_append, hdP_length, List.length_drop, HX1.out, HF.out.1])
      have SZ := Lib.hid S8.out.pad
      clear S8
      go_upto_region 28 with (fail)
      refine wp_region_stage (w0 := w0) (os := (.heads (.slice Ag k cg) (hdP G) :: .pile (piP T ++ piP F) :: .box b5 106 #[.int .i64 ↑top, .int .i64 ↑bot] :: os)) (by kernel_rfl) (by kernel_rfl) (by kernel_rfl) [(0, 7, [7], fun vs => .cells (lineV (vs 7)) (List.replicate cols (blank q))), (1, 9, [7], fun vs => .heads (.slice (some ⟨gr, 0, none⟩) L.length c) (List.set (hdP X1 ++ (hdP F ++ hdP (R.drop d))) (a0 + d) (lineV (vs 7), false)))] [[], [], [], [], [], [3], [2], [0], [], [1]] [.none, .heads (.slice (some ⟨gr, 0, none⟩) L.length c) (hdP X1 ++ (hdP F ++ hdP (R.drop d))), .box b7 54 (pv q), .box p 58 #[.int .i64 ↑cols, .slice (some ⟨gr, 0, none⟩) L.length c]] (fun i u => match i with | 0 => u = (.slice (some ⟨gr, top * 2, none⟩) k (c - top) : Value) | 1 => u = (.int .i64 ↑d : Value) | 2 => u = (.pointer (some ⟨p, 0, none⟩) : Value) | 3 => u = (.pointer (some ⟨p, 0, none⟩) : Value) | 4 => u = (.pointer (some ⟨p, 0, none⟩) : Value) | 5 => u = (.int .i64 ↑cols : Value) | 6 => u = (.agg (pv q) : Value) | 7 => ∃ A m c, u = .agg #[.slice A m c, .bool false] | 8 => u = (.pointer (some ⟨gr, (a0 + d) * 2, none⟩) : Value) | 9 => True | _ => True) (fun vs => [.cells (lineV (vs 7)) (List.replicate cols (blank q)), .heads (.slice (some ⟨gr, 0, none⟩) L.length c) (List.set (hdP X1 ++ (hdP F ++ hdP (R.drop d))) (a0 + d) (lineV (vs 7), false)), .box b7 54 (pv q), .box p 58 #[.int .i64 ↑cols, .slice (some ⟨gr, 0, none⟩) L.length c]]) (by kernel_rfl) (fun vs => by rfl) SZ.out ?_ ?_
      · refine SSteps.cons (fun a w' vs σ hS hl hs hk => ?_) ?_
        · have e13 : a.tmps.getD 13 undef = (.slice (some ⟨gr, top * 2, none⟩) k (c - top) : Value) := (sk_old hk 13 (by kernel_rfl)).trans rfl
          have f13 := gd e13
          exact ro_pure (v := .slice (some ⟨gr, top * 2, none⟩) k (c - top)) (wanted_none rfl) (by simp [execOp, Act.eval, e13, f13, go_sem]) (sp_same (by kernel_rfl) hl hs hS (show (.slice (some ⟨gr, top * 2, none⟩) k (c - top) : Value) = _ from rfl)) trivial
        refine SSteps.cons (fun a w' vs σ hS hl hs hk => ?_) ?_
        · have e14 : a.tmps.getD 14 undef = (.int .i64 ↑d : Value) := (sk_old hk 14 (by kernel_rfl)).trans rfl
          have f14 := gd e14
          exact ro_pure (v := .int .i64 ↑d) (wanted_none rfl) (by simp [execOp, Act.eval, e14, f14, go_sem]) (sp_same (by kernel_rfl) hl hs hS (show (.int .i64 ↑d : Value) = _ from rfl)) trivial
        refine SSteps.cons (fun a w' vs σ hS hl hs hk => ?_) ?_
        · have e0 : a.tmps.getD 0 undef = (.pointer (some ⟨p, 0, none⟩) : Value) := (sk_old hk 0 (by kernel_rfl)).trans rfl
          have f0 := gd e0
          exact ro_pure (v := .pointer (some ⟨p, 0, none⟩)) (wanted_none rfl) (by simp [execOp, Act.eval, e0, f0, go_sem]) (sp_same (by kernel_rfl) hl hs hS (show (.pointer (some ⟨p, 0, none⟩) : Value) = _ from rfl)) trivial
        refine SSteps.cons (fun a w' vs σ hS hl hs hk => ?_) ?_
        · have e132 : a.tmps.getD 132 undef = (.pointer (some ⟨p, 0, none⟩) : Value) := (sk_val hk 2 (by kernel_rfl) rfl rfl).trans ((hk.1 2 (by kernel_rfl)).1)
          have f132 := gd e132
          exact ro_pure (v := .pointer (some ⟨p, 0, none⟩)) (wanted_none rfl) (by simp [execOp, Act.eval, e132, f132, go_sem]) (sp_same (by kernel_rfl) hl hs hS (show (.pointer (some ⟨p, 0, none⟩) : Value) = _ from rfl)) trivial
        refine SSteps.cons (fun a w' vs σ hS hl hs hk => ?_) ?_
        · have e133 : a.tmps.getD 133 undef = (.pointer (some ⟨p, 0, none⟩) : Value) := (sk_val hk 3 (by kernel_rfl) rfl rfl).trans ((hk.1 3 (by kernel_rfl)).1)
          have f133 := gd e133
          exact ro_pure (v := .pointer (some ⟨p, 0, none⟩)) (wanted_none rfl) (by simp [execOp, Act.eval, e133, f133, go_sem]) (sp_same (by kernel_rfl) hl hs hS (show (.pointer (some ⟨p, 0, none⟩) : Value) = _ from rfl)) trivial
        refine SSteps.cons (fun a w' vs σ hS hl hs hk => ?_) ?_
        · have e134 : a.tmps.getD 134 undef = (.pointer (some ⟨p, 0, none⟩) : Value) := (sk_val hk 4 (by kernel_rfl) rfl rfl).trans ((hk.1 4 (by kernel_rfl)).1)
          have f134 := gd e134
          have hx := (hS.box (sg (hs 3 (by decide)))).cell
          exact ro_pure (v := .int .i64 ↑cols) (wanted_none rfl) (by simp [execOp, Act.eval, e134, f134, go_sem, hx]) (sp_same (by kernel_rfl) hl hs hS (show (.int .i64 ↑cols : Value) = _ from rfl)) trivial
        refine SSteps.cons (fun a w' vs σ hS hl hs hk => ?_) ?_
        · have e7 : a.tmps.getD 7 undef = (.pointer (some ⟨b7, 0, none⟩) : Value) := (sk_old hk 7 (by kernel_rfl)).trans rfl
          have f7 := gd e7
          have hx := (hS.box (sg (hs 2 (by decide)))).penAt
          exact ro_pure (v := .agg (pv q)) (wanted_none rfl) (by simp [execOp, Act.eval, e7, f7, go_sem, hx]) (sp_same (by kernel_rfl) hl hs hS (show (.agg (pv q) : Value) = _ from rfl)) trivial
        refine SSteps.cons (fun a w' vs σ hS hl hs hk => ?_) ?_
        · have e135 : a.tmps.getD 135 undef = (.int .i64 ↑cols : Value) := (sk_val hk 5 (by kernel_rfl) rfl rfl).trans ((hk.1 5 (by kernel_rfl)).1)
          have f135 := gd e135
          have e136 : a.tmps.getD 136 undef = (.agg (pv q) : Value) := (sk_val hk 6 (by kernel_rfl) rfl rfl).trans ((hk.1 6 (by kernel_rfl)).1)
          have f136 := gd e136
          have h0 : σ[0]? = some .none := hs 0 (by decide)
          exact ro_call (f := 54) (wanted_none rfl) rfl (by simp only [List.map_toArray, List.map_cons, List.map_nil, Act.eval, e135, e136] <;> rfl) (fun _ _ => by kernel_rfl) ((gridblanks_any cols hcm q _ _ _ hS).mono fun e w2 ⟨x, h1, h2⟩ => ⟨_, h1, sp_set 0 (.cells x (List.replicate cols (blank q))) (by kernel_rfl) (by simp) (by decide) hl hs (by rfl) (h2.place (sg h0)) (by obtain ⟨A', c', e, -⟩ := h2.cellsRd (k := 0) rfl; exact ⟨A', _, c', by rw [e]⟩), trivial⟩)
        refine SSteps.cons (fun a w' vs σ hS hl hs hk => ?_) ?_
        · have e130 : a.tmps.getD 130 undef = (.slice (some ⟨gr, top * 2, none⟩) k (c - top) : Value) := (sk_val hk 0 (by kernel_rfl) rfl rfl).trans ((hk.1 0 (by kernel_rfl)).1)
          have f130 := gd e130
          have e131 : a.tmps.getD 131 undef = (.int .i64 ↑d : Value) := (sk_val hk 1 (by kernel_rfl) rfl rfl).trans ((hk.1 1 (by kernel_rfl)).1)
          have f131 := gd e131
          exact ro_pure (v := .pointer (some ⟨gr, (a0 + d) * 2, none⟩)) (wanted_none rfl) (by simp [execOp, Act.eval, e130, f130, e131, f131, go_sem, hiz, hiz2, hoff]) (sp_same (by kernel_rfl) hl hs hS (show (.pointer (some ⟨gr, (a0 + d) * 2, none⟩) : Value) = _ from rfl)) trivial
        refine SSteps.cons (fun a w' vs σ hS hl hs hk => ?_) ?_
        · have e138 : a.tmps.getD 138 undef = (.pointer (some ⟨gr, (a0 + d) * 2, none⟩) : Value) := (sk_val hk 8 (by kernel_rfl) rfl rfl).trans ((hk.1 8 (by kernel_rfl)).1)
          have f138 := gd e138
          have e137 : a.tmps.getD 137 undef = vs 7 := sk_val hk 7 (by kernel_rfl) rfl rfl
          have p137 : (fun u : Value => ∃ A m c, u = .agg #[.slice A m c, .bool false]) (vs 7) := (hk.1 7 (by kernel_rfl)).1
          have f137 := gd e137
          obtain ⟨A7, n7, c7, q7⟩ := p137
          have h1 : σ[1]? = some (.heads (.slice (some ⟨gr, 0, none⟩) L.length c) (hdP X1 ++ (hdP F ++ hdP (R.drop d)))) := hs 1 (by decide)
          obtain ⟨A8, c8, e8, -, -, -, hg8⟩ := hS.headsForm (sg h1)
          simp only [Value.slice.injEq] at e8
          obtain ⟨rfl, -, rfl⟩ := e8
          have hHl := HHL.out
          obtain ⟨g8, e9, hz, hcs, hf⟩ := hg8 (by omega)
          cases e9
          obtain ⟨x8, hx8⟩ := get_of (show a0 + d < (hdP X1 ++ (hdP F ++ hdP (R.drop d))).length by omega)
          obtain ⟨hx, hx'⟩ := hcs (a0 + d) x8 hx8
          exact rstep_store (w2 := (w'.setCell ⟨gr, (a0 + d) * 2, none⟩ (.slice A7 n7 c7)).setCell ⟨gr, (a0 + d) * 2 + 1, none⟩ (.bool false)) (wanted_none rfl) rfl (by simp [execOp, Act.eval, e138, f138, e137, f137, q7, hx, hx', hf, hz, go_sem]) (sp_set 1 (.heads (.slice (some ⟨gr, 0, none⟩) L.length c) (List.set (hdP X1 ++ (hdP F ++ hdP (R.drop d))) (a0 + d) (.slice A7 n7 c7, false))) (by kernel_rfl) (by simp) (by decide) hl hs (by show Ob.heads _ (List.set _ _ (lineV (vs 7), false)) = _; rw [q7]; rfl) (hS.storeHead (sg h1)) trivial) trivial
        exact SSteps.nil
      · intro vs w' hS hv
        have q0 := (show vs 0 = (.slice (some ⟨gr, top * 2, none⟩) k (c - top) : Value) from hv 0 (by decide))
        have q1 := (show vs 1 = (.int .i64 ↑d : Value) from hv 1 (by decide))
        have q2 := (show vs 2 = (.pointer (some ⟨p, 0, none⟩) : Value) from hv 2 (by decide))
        have q3 := (show vs 3 = (.pointer (some ⟨p, 0, none⟩) : Value) from hv 3 (by decide))
        have q4 := (show vs 4 = (.pointer (some ⟨p, 0, none⟩) : Value) from hv 4 (by decide))
        have q5 := (show vs 5 = (.int .i64 ↑cols : Value) from hv 5 (by decide))
        have q6 := (show vs 6 = (.agg (pv q) : Value) from hv 6 (by decide))
        have q8 := (show vs 8 = (.pointer (some ⟨gr, (a0 + d) * 2, none⟩) : Value) from hv 8 (by decide))
        obtain ⟨A7, n7, c7, q7⟩ := (show ∃ A m c, vs 7 = .agg #[.slice A m c, .bool false] from hv 7 (by decide))
        rw [q7] at hS
        have S2 := Lib.hid hS
        simp only [putL, Act.put, Nat.zero_add, Nat.reduceAdd, List.setIfInBounds_toArray, List.set_cons_succ, List.set_cons_zero, q0, q1, q2, q3, q4, q5, q6, q8]
        clear hS hv q0 q1 q2 q3 q4 q5 q6 q8
        simp only [q7]
        have S9 := S2.out
        rw [show lineV (.agg #[.slice A7 n7 c7, .bool false]) = .slice A7 n7 c7 from rfl, hdP_fill (.slice A7 n7 c7) (List.replicate cols (blank q)) false HX1.out HF.out.1 hiR] at S9
        have S10 := Lib.hid (show Objs w0 w' (.heads (.slice (some ⟨gr, 0, none⟩) L.length c) (hdP X1 ++ (hdP (F ++ [(.slice A7 n7 c7, (List.replicate cols (blank q)), false)]) ++ hdP (R.drop (d + 1)))) :: .box b7 54 (pv q) :: .box p 58 #[.int .i64 ↑cols, .slice (some ⟨gr, 0, none⟩) L.length c] :: .heads (.slice Ag k cg) (hdP G) :: .pile (piP T ++ piP (F ++ [(.slice A7 n7 c7, (List.replicate cols (blank q)), false)])) :: .box b5 106 #[.int .i64 ↑top, .int .i64 ↑bot] :: os) from by have := Objs.pileIn S9; rw [List.append_assoc] at this; rw [piP_append]; exact this)
        clear S9 S2
        go_wp2_with fail
        go_roundw
        case rel => exact ⟨d + 1, F ++ [(.slice A7 n7 c7, (List.replicate cols (blank q)), false)], by omega, by go_num, ⟨by simp [HF.out.1], by rw [lnP_append, HF.out.2]; unfold rollFresh; rw [List.replicate_succ']; rfl⟩, S10.out⟩
        case measure => simp [intOf]; omega
  · have hnl : ¬ -(many : Int) < n := by omega
    have hngt : ¬ (0 : Int) < n := by omega
    subst h2
    have HPB2 := Lib.hid (HPB.out rfl)
    have HG2 := HG.out
    rw [Nat.sub_self, Nat.add_zero] at HG2
    have HG := Lib.hid HG2
    clear HPB ha0 HG2
    by_cases hcap : c - top = k
    · go_wp2_with fail
      refine (clone_front S5.out.swap HONE.out (a := top) (m := k) (by rw [HTl.out]; omega) (by omega) (by rw [HTl.out]; omega)).mono ?_
      rintro e w5 ⟨Ag, cg, rfl, hS⟩
      obtain ⟨w6, hr6, hS6⟩ := run_copyH hS (k := 1) rfl HONE.out top top 0 (some ⟨gr, top * 2, none⟩) (some ⟨gr, top * 2, none⟩) 0 (0) k (k) (Nat.min_zero _) (by rw [HTl.out]; omega) (by rw [HTl.out]; omega) (fun h => absurd h (by omega)) 3
      have HR6 := Lib.hid hr6
      rw [hdP_drop T top, hdP_take, HG.out, ← hdP_drop T top, HPB2.out] at hS6
      have S7 := Lib.hid (ord7 (show Objs w0 w6 (.heads (.slice Ag k cg) (hdP G) :: .heads (.slice (some ⟨gr, 0, none⟩) L.length c) (hdP X1 ++ hdP R) :: .pile (piP T) :: .box b7 54 (pv q) :: .box b5 106 #[.int .i64 top, .int .i64 bot] :: .box p 58 #[.int .i64 cols, .slice (some ⟨gr, 0, none⟩) L.length c] :: os) from hS6))
      have HAO := HA0.out
      clear hS hr6 hS6 S5
      go_wp2_with (refine wpList_copyK rfl _ _ 30 30 rfl rfl rfl HR6.out ?_)
      go_loopw [14, 127] (fun _ vi wr => ∃ (d : Nat) (F : List Tr), d ≤ k ∧ vi = .int .i64 d ∧ (F.length = d ∧ lnP F = rollFresh d cols q) ∧ Objs w0 wr (.heads (.slice (some ⟨gr, 0, none⟩) L.length c) (hdP X1 ++ (hdP F ++ hdP (R.drop d))) :: .box b7 54 (pv q) :: .box p 58 #[.int .i64 ↑cols, .slice (some ⟨gr, 0, none⟩) L.length c] :: .heads (.slice Ag k cg) (hdP G) :: .pile (piP T ++ piP F) :: .box b5 106 #[.int .i64 ↑top, .int .i64 ↑bot] :: os)) (fun _ vi _ => k - (intOf vi).toNat)
      case atStart => exact ⟨0, [], by omega, rfl, ⟨rfl, rfl⟩, by simpa [hdP, piP] using S7.out⟩
      case round =>
        obtain ⟨d, F, hik, rfl, hFF, hS⟩ := hrel
        have HF := Lib.hid hFF
        have S8 := Lib.hid hS
        clear hFF hS S7
        by_cases hlt : d < k
        case neg =>
          have hie : d = k := by omega
          have hX := S8.out
          have hFk := HF.out.2
          rw [hie] at hX hFk
          have hX2 := hX.dealIn HPERM.out
          have HLF := Lib.hid (HLEFT.out F hFk)
          obtain ⟨L1, hL1⟩ : ∃ L1, L1 = lnP X1 ++ (lnP F ++ lnP (R.drop k)) := ⟨_, rfl⟩
          rw [← hL1] at hX2 HLF
          have hL1l : L1.length = L.length := by rw [hL1]; simp only [List.length_append, lnP_length, List.length_drop]; have := HX1.out; have := HF.out.1; have := HRL.out; omega
          have SX := Lib.hid hX2
          obtain ⟨hx5, hf5, hz5⟩ := (hX2.box (k := 4) rfl).facts
          clear hie hX hX2 hFk hL1 S8
          by_cases ht0 : top = 0
          · have HT0 := Lib.hid (show topHard top L1 = L1 by unfold topHard; rw [if_neg (by omega)])
            have htg : ¬ (0 : Int) < (top : Int) := by omega
            have SF := Lib.hid (fin_roll SX.out)
            clear ht0
            go_wp2_with fail
            go_ret2
            exact ⟨Ag, k, cg, rfl, by rw [← HGONE.out, ← HLF.out, HT0.out]; exact SF.out⟩
          · have htg : (0 : Int) < (top : Int) := by omega
            obtain ⟨l9, hlt1⟩ := get_of (show top - 1 < L1.length by omega)
            have HT0 := Lib.hid (show L1.set (top - 1) (l9.1, false) = topHard top L1 by unfold topHard; rw [if_pos (by omega), softMod_some hlt1])
            have HWT := Lib.hid (show IntKind.i64.wrap ((top : Int) - 1) = (top : Int) - 1 from IntWalk.i64_in _ (by omega))
            have htz : (0 : Int) ≤ (top : Int) - 1 := by omega
            have htz2 : (top : Int) - 1 < (L.length : Int) := by omega
            have htz3 : ¬ (top : Int) < 1 := by omega
            have htn : ((top : Int) - 1).toNat = top - 1 := by omega
            have SY := Lib.hid (ord_roll SX.out)
            go_upto_region 31 with (fail)
            refine wp_region_stage (w0 := w0) (os := (.lines (.slice Ag k cg) (lnP G) :: .box b7 54 (pv q) :: os)) (by kernel_rfl) (by kernel_rfl) (by kernel_rfl) [(0, 9, [], fun vs => .lines (.slice (some ⟨gr, 0, none⟩) L.length c) (L1.set (top - 1) (l9.1, false)))] [[], [], [], [1], [], [2], [], [], [], [0]] [.lines (.slice (some ⟨gr, 0, none⟩) L.length c) L1, .box p 58 #[.int .i64 ↑cols, .slice (some ⟨gr, 0, none⟩) L.length c], .box b5 106 #[.int .i64 ↑top, .int .i64 ↑bot]] (fun i u => match i with | 0 => u = (.pointer (some ⟨p, 0, none⟩) : Value) | 1 => u = (.pointer (some ⟨p, 0, none⟩) : Value) | 2 => u = (.pointer (some ⟨p, 1, none⟩) : Value) | 3 => u = (.slice (some ⟨gr, 0, none⟩) L.length c : Value) | 4 => u = (.pointer (some ⟨b5, 0, none⟩) : Value) | 5 => u = (.int .i64 ↑top : Value) | 6 => u = (.int .i64 (↑top - 1) : Value) | 7 => u = (.pointer (some ⟨gr, (top - 1) * 2, none⟩) : Value) | 8 => u = (.pointer (some ⟨gr, (top - 1) * 2 + 1, none⟩) : Value) | 9 => True | _ => True) (fun vs => [.lines (.slice (some ⟨gr, 0, none⟩) L.length c) (L1.set (top - 1) (l9.1, false)), .box p 58 #[.int .i64 ↑cols, .slice (some ⟨gr, 0, none⟩) L.length c], .box b5 106 #[.int .i64 ↑top, .int .i64 ↑bot]]) (by kernel_rfl) (fun vs => by rfl) SY.out ?_ ?_
            · refine SSteps.cons (fun a w' vs σ hS hl hs hk => ?_) ?_
              · have e0 : a.tmps.getD 0 undef = (.pointer (some ⟨p, 0, none⟩) : Value) := (sk_old hk 0 (by kernel_rfl)).trans rfl
                have f0 := gd e0
                exact ro_pure (v := .pointer (some ⟨p, 0, none⟩)) (wanted_none rfl) (by simp [execOp, Act.eval, e0, f0, go_sem]) (sp_same (by kernel_rfl) hl hs hS (show (.pointer (some ⟨p, 0, none⟩) : Value) = _ from rfl)) trivial
              refine SSteps.cons (fun a w' vs σ hS hl hs hk => ?_) ?_
              · have e143 : a.tmps.getD 143 undef = (.pointer (some ⟨p, 0, none⟩) : Value) := (sk_val hk 0 (by kernel_rfl) rfl rfl).trans ((hk.1 0 (by kernel_rfl)).1)
                have f143 := gd e143
                exact ro_pure (v := .pointer (some ⟨p, 0, none⟩)) (wanted_none rfl) (by simp [execOp, Act.eval, e143, f143, go_sem]) (sp_same (by kernel_rfl) hl hs hS (show (.pointer (some ⟨p, 0, none⟩) : Value) = _ from rfl)) trivial
              refine SSteps.cons (fun a w' vs σ hS hl hs hk => ?_) ?_
              · have e144 : a.tmps.getD 144 undef = (.pointer (some ⟨p, 0, none⟩) : Value) := (sk_val hk 1 (by kernel_rfl) rfl rfl).trans ((hk.1 1 (by kernel_rfl)).1)
                have f144 := gd e144
                exact ro_pure (v := .pointer (some ⟨p, 1, none⟩)) (wanted_none rfl) (by simp [execOp, Act.eval, e144, f144, go_sem]) (sp_same (by kernel_rfl) hl hs hS (show (.pointer (some ⟨p, 1, none⟩) : Value) = _ from rfl)) trivial
              refine SSteps.cons (fun a w' vs σ hS hl hs hk => ?_) ?_
              · have e145 : a.tmps.getD 145 undef = (.pointer (some ⟨p, 1, none⟩) : Value) := (sk_val hk 2 (by kernel_rfl) rfl rfl).trans ((hk.1 2 (by kernel_rfl)).1)
                have f145 := gd e145
                have hx := (hS.box (sg (hs 1 (by decide)))).cell
                exact ro_pure (v := .slice (some ⟨gr, 0, none⟩) L.length c) (wanted_none rfl) (by simp [execOp, Act.eval, e145, f145, go_sem, hx]) (sp_same (by kernel_rfl) hl hs hS (show (.slice (some ⟨gr, 0, none⟩) L.length c : Value) = _ from rfl)) trivial
              refine SSteps.cons (fun a w' vs σ hS hl hs hk => ?_) ?_
              · have e5 : a.tmps.getD 5 undef = (.pointer (some ⟨b5, 0, none⟩) : Value) := (sk_old hk 5 (by kernel_rfl)).trans rfl
                have f5 := gd e5
                exact ro_pure (v := .pointer (some ⟨b5, 0, none⟩)) (wanted_none rfl) (by simp [execOp, Act.eval, e5, f5, go_sem]) (sp_same (by kernel_rfl) hl hs hS (show (.pointer (some ⟨b5, 0, none⟩) : Value) = _ from rfl)) trivial
              refine SSteps.cons (fun a w' vs σ hS hl hs hk => ?_) ?_
              · have e147 : a.tmps.getD 147 undef = (.pointer (some ⟨b5, 0, none⟩) : Value) := (sk_val hk 4 (by kernel_rfl) rfl rfl).trans ((hk.1 4 (by kernel_rfl)).1)
                have f147 := gd e147
                have hx := (hS.box (sg (hs 2 (by decide)))).cell
                exact ro_pure (v := .int .i64 ↑top) (wanted_none rfl) (by simp [execOp, Act.eval, e147, f147, go_sem, hx]) (sp_same (by kernel_rfl) hl hs hS (show (.int .i64 ↑top : Value) = _ from rfl)) trivial
              refine SSteps.cons (fun a w' vs σ hS hl hs hk => ?_) ?_
              · have e148 : a.tmps.getD 148 undef = (.int .i64 ↑top : Value) := (sk_val hk 5 (by kernel_rfl) rfl rfl).trans ((hk.1 5 (by kernel_rfl)).1)
                have f148 := gd e148
                exact ro_pure (v := .int .i64 (↑top - 1)) (wanted_none rfl) (by simp [execOp, Act.eval, e148, f148, go_sem, HWT.out]) (sp_same (by kernel_rfl) hl hs hS (show (.int .i64 (↑top - 1) : Value) = _ from rfl)) trivial
              refine SSteps.cons (fun a w' vs σ hS hl hs hk => ?_) ?_
              · have e146 : a.tmps.getD 146 undef = (.slice (some ⟨gr, 0, none⟩) L.length c : Value) := (sk_val hk 3 (by kernel_rfl) rfl rfl).trans ((hk.1 3 (by kernel_rfl)).1)
                have f146 := gd e146
                have e149 : a.tmps.getD 149 undef = (.int .i64 (↑top - 1) : Value) := (sk_val hk 6 (by kernel_rfl) rfl rfl).trans ((hk.1 6 (by kernel_rfl)).1)
                have f149 := gd e149
                exact ro_pure (v := .pointer (some ⟨gr, (top - 1) * 2, none⟩)) (wanted_none rfl) (by simp [execOp, Act.eval, e146, f146, e149, f149, go_sem, htz, htz2, htn, htz3]) (sp_same (by kernel_rfl) hl hs hS (show (.pointer (some ⟨gr, (top - 1) * 2, none⟩) : Value) = _ from rfl)) trivial
              refine SSteps.cons (fun a w' vs σ hS hl hs hk => ?_) ?_
              · have e150 : a.tmps.getD 150 undef = (.pointer (some ⟨gr, (top - 1) * 2, none⟩) : Value) := (sk_val hk 7 (by kernel_rfl) rfl rfl).trans ((hk.1 7 (by kernel_rfl)).1)
                have f150 := gd e150
                exact ro_pure (v := .pointer (some ⟨gr, (top - 1) * 2 + 1, none⟩)) (wanted_none rfl) (by simp [execOp, Act.eval, e150, f150, go_sem]) (sp_same (by kernel_rfl) hl hs hS (show (.pointer (some ⟨gr, (top - 1) * 2 + 1, none⟩) : Value) = _ from rfl)) trivial
              refine SSteps.cons (fun a w' vs σ hS hl hs hk => ?_) ?_
              · have e151 : a.tmps.getD 151 undef = (.pointer (some ⟨gr, (top - 1) * 2 + 1, none⟩) : Value) := (sk_val hk 8 (by kernel_rfl) rfl rfl).trans ((hk.1 8 (by kernel_rfl)).1)
                have f151 := gd e151
                have h1 : σ[0]? = some (.lines (.slice (some ⟨gr, 0, none⟩) L.length c) L1) := hs 0 (by decide)
                obtain ⟨F9, bs9, hF9, -⟩ := hS.get (sg h1)
                obtain ⟨A9, c9, e9, -, -, -, hg9⟩ := hF9.form
                simp only [Value.slice.injEq] at e9
                obtain ⟨rfl, -, rfl⟩ := e9
                obtain ⟨g9, e9', hz, -, hso, hf⟩ := hg9 (by omega)
                cases e9'
                have hx := hso _ _ hlt1
                exact rstep_store (w2 := w'.setCell ⟨gr, (top - 1) * 2 + 1, none⟩ (.bool false)) (wanted_none rfl) rfl (by simp [execOp, Act.eval, e151, f151, hx, hf, hz, go_sem]) (sp_set 0 (.lines (.slice (some ⟨gr, 0, none⟩) L.length c) (L1.set (top - 1) (l9.1, false))) (by kernel_rfl) (by simp) (by decide) hl hs (by rfl) (hS.storeSoft (sg h1) hlt1) trivial) trivial
              exact SSteps.nil
            · intro vs w' hS hv
              have q0 := (show vs 0 = (.pointer (some ⟨p, 0, none⟩) : Value) from hv 0 (by decide))
              have q1 := (show vs 1 = (.pointer (some ⟨p, 0, none⟩) : Value) from hv 1 (by decide))
              have q2 := (show vs 2 = (.pointer (some ⟨p, 1, none⟩) : Value) from hv 2 (by decide))
              have q3 := (show vs 3 = (.slice (some ⟨gr, 0, none⟩) L.length c : Value) from hv 3 (by decide))
              have q4 := (show vs 4 = (.pointer (some ⟨b5, 0, none⟩) : Value) from hv 4 (by decide))
              have q5 := (show vs 5 = (.int .i64 ↑top : Value) from hv 5 (by decide))
              have q6 := (show vs 6 = (.int .i64 (↑top - 1) : Value) from hv 6 (by decide))
              have q7 := (show vs 7 = (.pointer (some ⟨gr, (top - 1) * 2, none⟩) : Value) from hv 7 (by decide))
              have q8 := (show vs 8 = (.pointer (some ⟨gr, (top - 1) * 2 + 1, none⟩) : Value) from hv 8 (by decide))
              have S2 := Lib.hid hS
              simp only [putL, Act.put, Nat.zero_add, Nat.reduceAdd, List.setIfInBounds_toArray, List.set_cons_succ, List.set_cons_zero, q0, q1, q2, q3, q4, q5, q6, q7, q8]
              clear hS hv q0 q1 q2 q3 q4 q5 q6 q7 q8
              have S9 := S2.out
              rw [HT0.out] at S9
              have SF := Lib.hid (fin_roll2 S9)
              clear S9 S2
              go_wp2_with fail
              go_ret2
              exact ⟨Ag, k, cg, rfl, by rw [← HGONE.out, ← HLF.out]; exact SF.out⟩
        have hiR : d < R.length := by omega
        have hiz : (0 : Int) ≤ (d : Int) := by omega
        have hiz2 : (d : Int) < (k : Int) := by omega
        have hoff : top * 2 + d * 2 = (a0 + d) * 2 := by omega
        have HHL := Lib.hid (show (hdP X1 ++ (hdP F ++ hdP (R.drop d))).length = a0 + (d + (R.length - d)) by simp only [List.length_append, hdP_length, List.length_drop, HX1.out, HF.out.1])
        have SZ := Lib.hid S8.out.pad
        clear S8
        go_upto_region 28 with (fail)
        refine wp_region_stage (w0 := w0) (os := (.heads (.slice Ag k cg) (hdP G) :: .pile (piP T ++ piP F) :: .box b5 106 #[.int .i64 ↑top, .int .i64 ↑bot] :: os)) (by kernel_rfl) (by kernel_rfl) (by kernel_rfl) [(0, 7, [7], fun vs => .cells (lineV (vs 7)) (List.replicate cols (blank q))), (1, 9, [7], fun vs => .heads (.slice (some ⟨gr, 0, none⟩) L.length c) (List.set (hdP X1 ++ (hdP F ++ hdP (R.drop d))) (a0 + d) (lineV (vs 7), false)))] [[], [], [], [], [], [3], [2], [0], [], [1]] [.none, .heads (.slice (some ⟨gr, 0, none⟩) L.length c) (hdP X1 ++ (hdP F ++ hdP (R.drop d))), .box b7 54 (pv q), .box p 58 #[.int .i64 ↑cols, .slice (some ⟨gr, 0, none⟩) L.length c]] (fun i u => match i with | 0 => u = (.slice (some ⟨gr, top * 2, none⟩) k (k) : Value) | 1 => u = (.int .i64 ↑d : Value) | 2 => u = (.pointer (some ⟨p, 0, none⟩) : Value) | 3 => u = (.pointer (some ⟨p, 0, none⟩) : Value) | 4 => u = (.pointer (some ⟨p, 0, none⟩) : Value) | 5 => u = (.int .i64 ↑cols : Value) | 6 => u = (.agg (pv q) : Value) | 7 => ∃ A m c, u = .agg #[.slice A m c, .bool false] | 8 => u = (.pointer (some ⟨gr, (a0 + d) * 2, none⟩) : Value) | 9 => True | _ => True) (fun vs => [.cells (lineV (vs 7)) (List.replicate cols (blank q)), .heads (.slice (some ⟨gr, 0, none⟩) L.length c) (List.set (hdP X1 ++ (hdP F ++ hdP (R.drop d))) (a0 + d) (lineV (vs 7), false)), .box b7 54 (pv q), .box p 58 #[.int .i64 ↑cols, .slice (some ⟨gr, 0, none⟩) L.length c]]) (by kernel_rfl) (fun vs => by rfl) SZ.out ?_ ?_
        · refine SSteps.cons (fun a w' vs σ hS hl hs hk => ?_) ?_
          · have e13 : a.tmps.getD 13 undef = (.slice (some ⟨gr, top * 2, none⟩) k (k) : Value) := (sk_old hk 13 (by kernel_rfl)).trans rfl
            have f13 := gd e13
            exact ro_pure (v := .slice (some ⟨gr, top * 2, none⟩) k (k)) (wanted_none rfl) (by simp [execOp, Act.eval, e13, f13, go_sem]) (sp_same (by kernel_rfl) hl hs hS (show (.slice (some ⟨gr, top * 2, none⟩) k (k) : Value) = _ from rfl)) trivial
          refine SSteps.cons (fun a w' vs σ hS hl hs hk => ?_) ?_
          · have e14 : a.tmps.getD 14 undef = (.int .i64 ↑d : Value) := (sk_old hk 14 (by kernel_rfl)).trans rfl
            have f14 := gd e14
            exact ro_pure (v := .int .i64 ↑d) (wanted_none rfl) (by simp [execOp, Act.eval, e14, f14, go_sem]) (sp_same (by kernel_rfl) hl hs hS (show (.int .i64 ↑d : Value) = _ from rfl)) trivial
          refine SSteps.cons (fun a w' vs σ hS hl hs hk => ?_) ?_
          · have e0 : a.tmps.getD 0 undef = (.pointer (some ⟨p, 0, none⟩) : Value) := (sk_old hk 0 (by kernel_rfl)).trans rfl
            have f0 := gd e0
            exact ro_pure (v := .pointer (some ⟨p, 0, none⟩)) (wanted_none rfl) (by simp [execOp, Act.eval, e0, f0, go_sem]) (sp_same (by kernel_rfl) hl hs hS (show (.pointer (some ⟨p, 0, none⟩) : Value) = _ from rfl)) trivial
          refine SSteps.cons (fun a w' vs σ hS hl hs hk => ?_) ?_
          · have e132 : a.tmps.getD 132 undef = (.pointer (some ⟨p, 0, none⟩) : Value) := (sk_val hk 2 (by kernel_rfl) rfl rfl).trans ((hk.1 2 (by kernel_rfl)).1)
            have f132 := gd e132
            exact ro_pure (v := .pointer (some ⟨p, 0, none⟩)) (wanted_none rfl) (by simp [execOp, Act.eval, e132, f132, go_sem]) (sp_same (by kernel_rfl) hl hs hS (show (.pointer (some ⟨p, 0, none⟩) : Value) = _ from rfl)) trivial
          refine SSteps.cons (fun a w' vs σ hS hl hs hk => ?_) ?_
          · have e133 : a.tmps.getD 133 undef = (.pointer (some ⟨p, 0, none⟩) : Value) := (sk_val hk 3 (by kernel_rfl) rfl rfl).trans ((hk.1 3 (by kernel_rfl)).1)
            have f133 := gd e133
            exact ro_pure (v := .pointer (some ⟨p, 0, none⟩)) (wanted_none rfl) (by simp [execOp, Act.eval, e133, f133, go_sem]) (sp_same (by kernel_rfl) hl hs hS (show (.pointer (some ⟨p, 0, none⟩) : Value) = _ from rfl)) trivial
          refine SSteps.cons (fun a w' vs σ hS hl hs hk => ?_) ?_
          · have e134 : a.tmps.getD 134 undef = (.pointer (some ⟨p, 0, none⟩) : Value) := (sk_val hk 4 (by kernel_rfl) rfl rfl).trans ((hk.1 4 (by kernel_rfl)).1)
            have f134 := gd e134
            have hx := (hS.box (sg (hs 3 (by decide)))).cell
            exact ro_pure (v := .int .i64 ↑cols) (wanted_none rfl) (by simp [execOp, Act.eval, e134, f134, go_sem, hx]) (sp_same (by kernel_rfl) hl hs hS (show (.int .i64 ↑cols : Value) = _ from rfl)) trivial
          refine SSteps.cons (fun a w' vs σ hS hl hs hk => ?_) ?_
          · have e7 : a.tmps.getD 7 undef = (.pointer (some ⟨b7, 0, none⟩) : Value) := (sk_old hk 7 (by kernel_rfl)).trans rfl
            have f7 := gd e7
            have hx := (hS.box (sg (hs 2 (by decide)))).penAt
            exact ro_pure (v := .agg (pv q)) (wanted_none rfl) (by simp [execOp, Act.eval, e7, f7, go_sem, hx]) (sp_same (by kernel_rfl) hl hs hS (show (.agg (pv q) : Value) = _ from rfl)) trivial
          refine SSteps.cons (fun a w' vs σ hS hl hs hk => ?_) ?_
          · have e135 : a.tmps.getD 135 undef = (.int .i64 ↑cols : Value) := (sk_val hk 5 (by kernel_rfl) rfl rfl).trans ((hk.1 5 (by kernel_rfl)).1)
            have f135 := gd e135
            have e136 : a.tmps.getD 136 undef = (.agg (pv q) : Value) := (sk_val hk 6 (by kernel_rfl) rfl rfl).trans ((hk.1 6 (by kernel_rfl)).1)
            have f136 := gd e136
            have h0 : σ[0]? = some .none := hs 0 (by decide)
            exact ro_call (f := 54) (wanted_none rfl) rfl (by simp only [List.map_toArray, List.map_cons, List.map_nil, Act.eval, e135, e136] <;> rfl) (fun _ _ => by kernel_rfl) ((gridblanks_any cols hcm q _ _ _ hS).mono fun e w2 ⟨x, h1, h2⟩ => ⟨_, h1, sp_set 0 (.cells x (List.replicate cols (blank q))) (by kernel_rfl) (by simp) (by decide) hl hs (by rfl) (h2.place (sg h0)) (by obtain ⟨A', c', e, -⟩ := h2.cellsRd (k := 0) rfl; exact ⟨A', _, c', by rw [e]⟩), trivial⟩)
          refine SSteps.cons (fun a w' vs σ hS hl hs hk => ?_) ?_
          · have e130 : a.tmps.getD 130 undef = (.slice (some ⟨gr, top * 2, none⟩) k (k) : Value) := (sk_val hk 0 (by kernel_rfl) rfl rfl).trans ((hk.1 0 (by kernel_rfl)).1)
            have f130 := gd e130
            have e131 : a.tmps.getD 131 undef = (.int .i64 ↑d : Value) := (sk_val hk 1 (by kernel_rfl) rfl rfl).trans ((hk.1 1 (by kernel_rfl)).1)
            have f131 := gd e131
            exact ro_pure (v := .pointer (some ⟨gr, (a0 + d) * 2, none⟩)) (wanted_none rfl) (by simp [execOp, Act.eval, e130, f130, e131, f131, go_sem, hiz, hiz2, hoff]) (sp_same (by kernel_rfl) hl hs hS (show (.pointer (some ⟨gr, (a0 + d) * 2, none⟩) : Value) = _ from rfl)) trivial
          refine SSteps.cons (fun a w' vs σ hS hl hs hk => ?_) ?_
          · have e138 : a.tmps.getD 138 undef = (.pointer (some ⟨gr, (a0 + d) * 2, none⟩) : Value) := (sk_val hk 8 (by kernel_rfl) rfl rfl).trans ((hk.1 8 (by kernel_rfl)).1)
            have f138 := gd e138
            have e137 : a.tmps.getD 137 undef = vs 7 := sk_val hk 7 (by kernel_rfl) rfl rfl
            have p137 : (fun u : Value => ∃ A m c, u = .agg #[.slice A m c, .bool false]) (vs 7) := (hk.1 7 (by kernel_rfl)).1
            have f137 := gd e137
            obtain ⟨A7, n7, c7, q7⟩ := p137
            have h1 : σ[1]? = some (.heads (.slice (some ⟨gr, 0, none⟩) L.length c) (hdP X1 ++ (hdP F ++ hdP (R.drop d)))) := hs 1 (by decide)
            obtain ⟨A8, c8, e8, -, -, -, hg8⟩ := hS.headsForm (sg h1)
            simp only [Value.slice.injEq] at e8
            obtain ⟨rfl, -, rfl⟩ := e8
            have hHl := HHL.out
            obtain ⟨g8, e9, hz, hcs, hf⟩ := hg8 (by omega)
            cases e9
            obtain ⟨x8, hx8⟩ := get_of (show a0 + d < (hdP X1 ++ (hdP F ++ hdP (R.drop d))).length by omega)
            obtain ⟨hx, hx'⟩ := hcs (a0 + d) x8 hx8
            exact rstep_store (w2 := (w'.setCell ⟨gr, (a0 + d) * 2, none⟩ (.slice A7 n7 c7)).setCell ⟨gr, (a0 + d) * 2 + 1, none⟩ (.bool false)) (wanted_none rfl) rfl (by simp [execOp, Act.eval, e138, f138, e137, f137, q7, hx, hx', hf, hz, go_sem]) (sp_set 1 (.heads (.slice (some ⟨gr, 0, none⟩) L.length c) (List.set (hdP X1 ++ (hdP F ++ hdP (R.drop d))) (a0 + d) (.slice A7 n7 c7, false))) (by kernel_rfl) (by simp) (by decide) hl hs (by show Ob.heads _ (List.set _ _ (lineV (vs 7), false)) = _; rw [q7]; rfl) (hS.storeHead (sg h1)) trivial) trivial
          exact SSteps.nil
        · intro vs w' hS hv
          have q0 := (show vs 0 = (.slice (some ⟨gr, top * 2, none⟩) k (k) : Value) from hv 0 (by decide))
          have q1 := (show vs 1 = (.int .i64 ↑d : Value) from hv 1 (by decide))
          have q2 := (show vs 2 = (.pointer (some ⟨p, 0, none⟩) : Value) from hv 2 (by decide))
          have q3 := (show vs 3 = (.pointer (some ⟨p, 0, none⟩) : Value) from hv 3 (by decide))
          have q4 := (show vs 4 = (.pointer (some ⟨p, 0, none⟩) : Value) from hv 4 (by decide))
          have q5 := (show vs 5 = (.int .i64 ↑cols : Value) from hv 5 (by decide))
          have q6 := (show vs 6 = (.agg (pv q) : Value) from hv 6 (by decide))
          have q8 := (show vs 8 = (.pointer (some ⟨gr, (a0 + d) * 2, none⟩) : Value) from hv 8 (by decide))
          obtain ⟨A7, n7, c7, q7⟩ := (show ∃ A m c, vs 7 = .agg #[.slice A m c, .bool false] from hv 7 (by decide))
          rw [q7] at hS
          have S2 := Lib.hid hS
          simp only [putL, Act.put, Nat.zero_add, Nat.reduceAdd, List.setIfInBounds_toArray, List.set_cons_succ, List.set_cons_zero, q0, q1, q2, q3, q4, q5, q6, q8]
          clear hS hv q0 q1 q2 q3 q4 q5 q6 q8
          simp only [q7]
          have S9 := S2.out
          rw [show lineV (.agg #[.slice A7 n7 c7, .bool false]) = .slice A7 n7 c7 from rfl, hdP_fill (.slice A7 n7 c7) (List.replicate cols (blank q)) false HX1.out HF.out.1 hiR] at S9
          have S10 := Lib.hid (show Objs w0 w' (.heads (.slice (some ⟨gr, 0, none⟩) L.length c) (hdP X1 ++ (hdP (F ++ [(.slice A7 n7 c7, (List.replicate cols (blank q)), false)]) ++ hdP (R.drop (d + 1)))) :: .box b7 54 (pv q) :: .box p 58 #[.int .i64 ↑cols, .slice (some ⟨gr, 0, none⟩) L.length c] :: .heads (.slice Ag k cg) (hdP G) :: .pile (piP T ++ piP (F ++ [(.slice A7 n7 c7, (List.replicate cols (blank q)), false)])) :: .box b5 106 #[.int .i64 ↑top, .int .i64 ↑bot] :: os) from by have := Objs.pileIn S9; rw [List.append_assoc] at this; rw [piP_append]; exact this)
          clear S9 S2
          go_wp2_with fail
          go_roundw
          case rel => exact ⟨d + 1, F ++ [(.slice A7 n7 c7, (List.replicate cols (blank q)), false)], by omega, by go_num, ⟨by simp [HF.out.1], by rw [lnP_append, HF.out.2]; unfold rollFresh; rw [List.replicate_succ']; rfl⟩, S10.out⟩
          case measure => simp [intOf]; omega
    · go_wp2_with fail
      refine (clone_front S5.out.swap HONE.out (a := top) (m := k) (by rw [HTl.out]; omega) (by omega) (by rw [HTl.out]; omega)).mono ?_
      rintro e w5 ⟨Ag, cg, rfl, hS⟩
      obtain ⟨w6, hr6, hS6⟩ := run_copyH hS (k := 1) rfl HONE.out top top 0 (some ⟨gr, top * 2 + k * 2, none⟩) (some ⟨gr, top * 2, none⟩) 0 (c - top - k) k (c - top) (Nat.min_zero _) (by rw [HTl.out]; omega) (by rw [HTl.out]; omega) (fun h => absurd h (by omega)) 3
      have HR6 := Lib.hid hr6
      rw [hdP_drop T top, hdP_take, HG.out, ← hdP_drop T top, HPB2.out] at hS6
      have S7 := Lib.hid (ord7 (show Objs w0 w6 (.heads (.slice Ag k cg) (hdP G) :: .heads (.slice (some ⟨gr, 0, none⟩) L.length c) (hdP X1 ++ hdP R) :: .pile (piP T) :: .box b7 54 (pv q) :: .box b5 106 #[.int .i64 top, .int .i64 bot] :: .box p 58 #[.int .i64 cols, .slice (some ⟨gr, 0, none⟩) L.length c] :: os) from hS6))
      have HAO := HA0.out
      clear hS hr6 hS6 S5
      go_wp2_with (refine wpList_copyK rfl _ _ 30 30 rfl rfl rfl HR6.out ?_)
      go_loopw [14, 127] (fun _ vi wr => ∃ (d : Nat) (F : List Tr), d ≤ k ∧ vi = .int .i64 d ∧ (F.length = d ∧ lnP F = rollFresh d cols q) ∧ Objs w0 wr (.heads (.slice (some ⟨gr, 0, none⟩) L.length c) (hdP X1 ++ (hdP F ++ hdP (R.drop d))) :: .box b7 54 (pv q) :: .box p 58 #[.int .i64 ↑cols, .slice (some ⟨gr, 0, none⟩) L.length c] :: .heads (.slice Ag k cg) (hdP G) :: .pile (piP T ++ piP F) :: .box b5 106 #[.int .i64 ↑top, .int .i64 ↑bot] :: os)) (fun _ vi _ => k - (intOf vi).toNat)
      case atStart => exact ⟨0, [], by omega, rfl, ⟨rfl, rfl⟩, by simpa [hdP, piP] using S7.out⟩
      case round =>
        obtain ⟨d, F, hik, rfl, hFF, hS⟩ := hrel
        have HF := Lib.hid hFF
        have S8 := Lib.hid hS
        clear hFF hS S7
        by_cases hlt : d < k
        case neg =>
          have hie : d = k := by omega
          have hX := S8.out
          have hFk := HF.out.2
          rw [hie] at hX hFk
          have hX2 := hX.dealIn HPERM.out
          have HLF := Lib.hid (HLEFT.out F hFk)
          obtain ⟨L1, hL1⟩ : ∃ L1, L1 = lnP X1 ++ (lnP F ++ lnP (R.drop k)) := ⟨_, rfl⟩
          rw [← hL1] at hX2 HLF
          have hL1l : L1.length = L.length := by rw [hL1]; simp only [List.length_append, lnP_length, List.length_drop]; have := HX1.out; have := HF.out.1; have := HRL.out; omega
          have SX := Lib.hid hX2
          obtain ⟨hx5, hf5, hz5⟩ := (hX2.box (k := 4) rfl).facts
          clear hie hX hX2 hFk hL1 S8
          by_cases ht0 : top = 0
          · have HT0 := Lib.hid (show topHard top L1 = L1 by unfold topHard; rw [if_neg (by omega)])
            have htg : ¬ (0 : Int) < (top : Int) := by omega
            have SF := Lib.hid (fin_roll SX.out)
            clear ht0
            go_wp2_with fail
            go_ret2
            exact ⟨Ag, k, cg, rfl, by rw [← HGONE.out, ← HLF.out, HT0.out]; exact SF.out⟩
          · have htg : (0 : Int) < (top : Int) := by omega
            obtain ⟨l9, hlt1⟩ := get_of (show top - 1 < L1.length by omega)
            have HT0 := Lib.hid (show L1.set (top - 1) (l9.1, false) = topHard top L1 by unfold topHard; rw [if_pos (by omega), softMod_some hlt1])
            have HWT := Lib.hid (show IntKind.i64.wrap ((top : Int) - 1) = (top : Int) - 1 from IntWalk.i64_in _ (by omega))
            have htz : (0 : Int) ≤ (top : Int) - 1 := by omega
            have htz2 : (top : Int) - 1 < (L.length : Int) := by omega
            have htz3 : ¬ (top : Int) < 1 := by omega
            have htn : ((top : Int) - 1).toNat = top - 1 := by omega
            have SY := Lib.hid (ord_roll SX.out)
            go_upto_region 31 with (fail)
            refine wp_region_stage (w0 := w0) (os := (.lines (.slice Ag k cg) (lnP G) :: .box b7 54 (pv q) :: os)) (by kernel_rfl) (by kernel_rfl) (by kernel_rfl) [(0, 9, [], fun vs => .lines (.slice (some ⟨gr, 0, none⟩) L.length c) (L1.set (top - 1) (l9.1, false)))] [[], [], [], [1], [], [2], [], [], [], [0]] [.lines (.slice (some ⟨gr, 0, none⟩) L.length c) L1, .box p 58 #[.int .i64 ↑cols, .slice (some ⟨gr, 0, none⟩) L.length c], .box b5 106 #[.int .i64 ↑top, .int .i64 ↑bot]] (fun i u => match i with | 0 => u = (.pointer (some ⟨p, 0, none⟩) : Value) | 1 => u = (.pointer (some ⟨p, 0, none⟩) : Value) | 2 => u = (.pointer (some ⟨p, 1, none⟩) : Value) | 3 => u = (.slice (some ⟨gr, 0, none⟩) L.length c : Value) | 4 => u = (.pointer (some ⟨b5, 0, none⟩) : Value) | 5 => u = (.int .i64 ↑top : Value) | 6 => u = (.int .i64 (↑top - 1) : Value) | 7 => u = (.pointer (some ⟨gr, (top - 1) * 2, none⟩) : Value) | 8 => u = (.pointer (some ⟨gr, (top - 1) * 2 + 1, none⟩) : Value) | 9 => True | _ => True) (fun vs => [.lines (.slice (some ⟨gr, 0, none⟩) L.length c) (L1.set (top - 1) (l9.1, false)), .box p 58 #[.int .i64 ↑cols, .slice (some ⟨gr, 0, none⟩) L.length c], .box b5 106 #[.int .i64 ↑top, .int .i64 ↑bot]]) (by kernel_rfl) (fun vs => by rfl) SY.out ?_ ?_
            · refine SSteps.cons (fun a w' vs σ hS hl hs hk => ?_) ?_
              · have e0 : a.tmps.getD 0 undef = (.pointer (some ⟨p, 0, none⟩) : Value) := (sk_old hk 0 (by kernel_rfl)).trans rfl
                have f0 := gd e0
                exact ro_pure (v := .pointer (some ⟨p, 0, none⟩)) (wanted_none rfl) (by simp [execOp, Act.eval, e0, f0, go_sem]) (sp_same (by kernel_rfl) hl hs hS (show (.pointer (some ⟨p, 0, none⟩) : Value) = _ from rfl)) trivial
              refine SSteps.cons (fun a w' vs σ hS hl hs hk => ?_) ?_
              · have e143 : a.tmps.getD 143 undef = (.pointer (some ⟨p, 0, none⟩) : Value) := (sk_val hk 0 (by kernel_rfl) rfl rfl).trans ((hk.1 0 (by kernel_rfl)).1)
                have f143 := gd e143
                exact ro_pure (v := .pointer (some ⟨p, 0, none⟩)) (wanted_none rfl) (by simp [execOp, Act.eval, e143, f143, go_sem]) (sp_same (by kernel_rfl) hl hs hS (show (.pointer (some ⟨p, 0, none⟩) : Value) = _ from rfl)) trivial
              refine SSteps.cons (fun a w' vs σ hS hl hs hk => ?_) ?_
              · have e144 : a.tmps.getD 144 undef = (.pointer (some ⟨p, 0, none⟩) : Value) := (sk_val hk 1 (by kernel_rfl) rfl rfl).trans ((hk.1 1 (by kernel_rfl)).1)
                have f144 := gd e144
                exact ro_pure (v := .pointer (some ⟨p, 1, none⟩)) (wanted_none rfl) (by simp [execOp, Act.eval, e144, f144, go_sem]) (sp_same (by kernel_rfl) hl hs hS (show (.pointer (some ⟨p, 1, none⟩) : Value) = _ from rfl)) trivial
              refine SSteps.cons (fun a w' vs σ hS hl hs hk => ?_) ?_
              · have e145 : a.tmps.getD 145 undef = (.pointer (some ⟨p, 1, none⟩) : Value) := (sk_val hk 2 (by kernel_rfl) rfl rfl).trans ((hk.1 2 (by kernel_rfl)).1)
                have f145 := gd e145
                have hx := (hS.box (sg (hs 1 (by decide)))).cell
                exact ro_pure (v := .slice (some ⟨gr, 0, none⟩) L.length c) (wanted_none rfl) (by simp [execOp, Act.eval, e145, f145, go_sem, hx]) (sp_same (by kernel_rfl) hl hs hS (show (.slice (some ⟨gr, 0, none⟩) L.length c : Value) = _ from rfl)) trivial
              refine SSteps.cons (fun a w' vs σ hS hl hs hk => ?_) ?_
              · have e5 : a.tmps.getD 5 undef = (.pointer (some ⟨b5, 0, none⟩) : Value) := (sk_old hk 5 (by kernel_rfl)).trans rfl
                have f5 := gd e5
                exact ro_pure (v := .pointer (some ⟨b5, 0, none⟩)) (wanted_none rfl) (by simp [execOp, Act.eval, e5, f5, go_sem]) (sp_same (by kernel_rfl) hl hs hS (show (.pointer (some ⟨b5, 0, none⟩) : Value) = _ from rfl)) trivial
              refine SSteps.cons (fun a w' vs σ hS hl hs hk => ?_) ?_
              · have e147 : a.tmps.getD 147 undef = (.pointer (some ⟨b5, 0, none⟩) : Value) := (sk_val hk 4 (by kernel_rfl) rfl rfl).trans ((hk.1 4 (by kernel_rfl)).1)
                have f147 := gd e147
                have hx := (hS.box (sg (hs 2 (by decide)))).cell
                exact ro_pure (v := .int .i64 ↑top) (wanted_none rfl) (by simp [execOp, Act.eval, e147, f147, go_sem, hx]) (sp_same (by kernel_rfl) hl hs hS (show (.int .i64 ↑top : Value) = _ from rfl)) trivial
              refine SSteps.cons (fun a w' vs σ hS hl hs hk => ?_) ?_
              · have e148 : a.tmps.getD 148 undef = (.int .i64 ↑top : Value) := (sk_val hk 5 (by kernel_rfl) rfl rfl).trans ((hk.1 5 (by kernel_rfl)).1)
                have f148 := gd e148
                exact ro_pure (v := .int .i64 (↑top - 1)) (wanted_none rfl) (by simp [execOp, Act.eval, e148, f148, go_sem, HWT.out]) (sp_same (by kernel_rfl) hl hs hS (show (.int .i64 (↑top - 1) : Value) = _ from rfl)) trivial
              refine SSteps.cons (fun a w' vs σ hS hl hs hk => ?_) ?_
              · have e146 : a.tmps.getD 146 undef = (.slice (some ⟨gr, 0, none⟩) L.length c : Value) := (sk_val hk 3 (by kernel_rfl) rfl rfl).trans ((hk.1 3 (by kernel_rfl)).1)
                have f146 := gd e146
                have e149 : a.tmps.getD 149 undef = (.int .i64 (↑top - 1) : Value) := (sk_val hk 6 (by kernel_rfl) rfl rfl).trans ((hk.1 6 (by kernel_rfl)).1)
                have f149 := gd e149
                exact ro_pure (v := .pointer (some ⟨gr, (top - 1) * 2, none⟩)) (wanted_none rfl) (by simp [execOp, Act.eval, e146, f146, e149, f149, go_sem, htz, htz2, htn, htz3]) (sp_same (by kernel_rfl) hl hs hS (show (.pointer (some ⟨gr, (top - 1) * 2, none⟩) : Value) = _ from rfl)) trivial
              refine SSteps.cons (fun a w' vs σ hS hl hs hk => ?_) ?_
              · have e150 : a.tmps.getD 150 undef = (.pointer (some ⟨gr, (top - 1) * 2, none⟩) : Value) := (sk_val hk 7 (by kernel_rfl) rfl rfl).trans ((hk.1 7 (by kernel_rfl)).1)
                have f150 := gd e150
                exact ro_pure (v := .pointer (some ⟨gr, (top - 1) * 2 + 1, none⟩)) (wanted_none rfl) (by simp [execOp, Act.eval, e150, f150, go_sem]) (sp_same (by kernel_rfl) hl hs hS (show (.pointer (some ⟨gr, (top - 1) * 2 + 1, none⟩) : Value) = _ from rfl)) trivial
              refine SSteps.cons (fun a w' vs σ hS hl hs hk => ?_) ?_
              · have e151 : a.tmps.getD 151 undef = (.pointer (some ⟨gr, (top - 1) * 2 + 1, none⟩) : Value) := (sk_val hk 8 (by kernel_rfl) rfl rfl).trans ((hk.1 8 (by kernel_rfl)).1)
                have f151 := gd e151
                have h1 : σ[0]? = some (.lines (.slice (some ⟨gr, 0, none⟩) L.length c) L1) := hs 0 (by decide)
                obtain ⟨F9, bs9, hF9, -⟩ := hS.get (sg h1)
                obtain ⟨A9, c9, e9, -, -, -, hg9⟩ := hF9.form
                simp only [Value.slice.injEq] at e9
                obtain ⟨rfl, -, rfl⟩ := e9
                obtain ⟨g9, e9', hz, -, hso, hf⟩ := hg9 (by omega)
                cases e9'
                have hx := hso _ _ hlt1
                exact rstep_store (w2 := w'.setCell ⟨gr, (top - 1) * 2 + 1, none⟩ (.bool false)) (wanted_none rfl) rfl (by simp [execOp, Act.eval, e151, f151, hx, hf, hz, go_sem]) (sp_set 0 (.lines (.slice (some ⟨gr, 0, none⟩) L.length c) (L1.set (top - 1) (l9.1, false))) (by kernel_rfl) (by simp) (by decide) hl hs (by rfl) (hS.storeSoft (sg h1) hlt1) trivial) trivial
              exact SSteps.nil
            · intro vs w' hS hv
              have q0 := (show vs 0 = (.pointer (some ⟨p, 0, none⟩) : Value) from hv 0 (by decide))
              have q1 := (show vs 1 = (.pointer (some ⟨p, 0, none⟩) : Value) from hv 1 (by decide))
              have q2 := (show vs 2 = (.pointer (some ⟨p, 1, none⟩) : Value) from hv 2 (by decide))
              have q3 := (show vs 3 = (.slice (some ⟨gr, 0, none⟩) L.length c : Value) from hv 3 (by decide))
              have q4 := (show vs 4 = (.pointer (some ⟨b5, 0, none⟩) : Value) from hv 4 (by decide))
              have q5 := (show vs 5 = (.int .i64 ↑top : Value) from hv 5 (by decide))
              have q6 := (show vs 6 = (.int .i64 (↑top - 1) : Value) from hv 6 (by decide))
              have q7 := (show vs 7 = (.pointer (some ⟨gr, (top - 1) * 2, none⟩) : Value) from hv 7 (by decide))
              have q8 := (show vs 8 = (.pointer (some ⟨gr, (top - 1) * 2 + 1, none⟩) : Value) from hv 8 (by decide))
              have S2 := Lib.hid hS
              simp only [putL, Act.put, Nat.zero_add, Nat.reduceAdd, List.setIfInBounds_toArray, List.set_cons_succ, List.set_cons_zero, q0, q1, q2, q3, q4, q5, q6, q7, q8]
              clear hS hv q0 q1 q2 q3 q4 q5 q6 q7 q8
              have S9 := S2.out
              rw [HT0.out] at S9
              have SF := Lib.hid (fin_roll2 S9)
              clear S9 S2
              go_wp2_with fail
              go_ret2
              exact ⟨Ag, k, cg, rfl, by rw [← HGONE.out, ← HLF.out]; exact SF.out⟩
        have hiR : d < R.length := by omega
        have hiz : (0 : Int) ≤ (d : Int) := by omega
        have hiz2 : (d : Int) < (k : Int) := by omega
        have hoff : top * 2 + d * 2 = (a0 + d) * 2 := by omega
        have HHL := Lib.hid (show (hdP X1 ++ (hdP F ++ hdP (R.drop d))).length = a0 + (d + (R.length - d)) by simp only [List.length_append, hdP_length, List.length_drop, HX1.out, HF.out.1])
        have SZ := Lib.hid S8.out.pad
        clear S8
        go_upto_region 28 with (fail)
        refine wp_region_stage (w0 := w0) (os := (.heads (.slice Ag k cg) (hdP G) :: .pile (piP T ++ piP F) :: .box b5 106 #[.int .i64 ↑top, .int .i64 ↑bot] :: os)) (by kernel_rfl) (by kernel_rfl) (by kernel_rfl) [(0, 7, [7], fun vs => .cells (lineV (vs 7)) (List.replicate cols (blank q))), (1, 9, [7], fun vs => .heads (.slice (some ⟨gr, 0, none⟩) L.length c) (List.set (hdP X1 ++ (hdP F ++ hdP (R.drop d))) (a0 + d) (lineV (vs 7), false)))] [[], [], [], [], [], [3], [2], [0], [], [1]] [.none, .heads (.slice (some ⟨gr, 0, none⟩) L.length c) (hdP X1 ++ (hdP F ++ hdP (R.drop d))), .box b7 54 (pv q), .box p 58 #[.int .i64 ↑cols, .slice (some ⟨gr, 0, none⟩) L.length c]] (fun i u => match i with | 0 => u = (.slice (some ⟨gr, top * 2, none⟩) k (c - top) : Value) | 1 => u = (.int .i64 ↑d : Value) | 2 => u = (.pointer (some ⟨p, 0, none⟩) : Value) | 3 => u = (.pointer (some ⟨p, 0, none⟩) : Value) | 4 => u = (.pointer (some ⟨p, 0, none⟩) : Value) | 5 => u = (.int .i64 ↑cols : Value) | 6 => u = (.agg (pv q) : Value) | 7 => ∃ A m c, u = .agg #[.slice A m c, .bool false] | 8 => u = (.pointer (some ⟨gr, (a0 + d) * 2, none⟩) : Value) | 9 => True | _ => True) (fun vs => [.cells (lineV (vs 7)) (List.replicate cols (blank q)), .heads (.slice (some ⟨gr, 0, none⟩) L.length c) (List.set (hdP X1 ++ (hdP F ++ hdP (R.drop d))) (a0 + d) (lineV (vs 7), false)), .box b7 54 (pv q), .box p 58 #[.int .i64 ↑cols, .slice (some ⟨gr, 0, none⟩) L.length c]]) (by kernel_rfl) (fun vs => by rfl) SZ.out ?_ ?_
        · refine SSteps.cons (fun a w' vs σ hS hl hs hk => ?_) ?_
          · have e13 : a.tmps.getD 13 undef = (.slice (some ⟨gr, top * 2, none⟩) k (c - top) : Value) := (sk_old hk 13 (by kernel_rfl)).trans rfl
            have f13 := gd e13
            exact ro_pure (v := .slice (some ⟨gr, top * 2, none⟩) k (c - top)) (wanted_none rfl) (by simp [execOp, Act.eval, e13, f13, go_sem]) (sp_same (by kernel_rfl) hl hs hS (show (.slice (some ⟨gr, top * 2, none⟩) k (c - top) : Value) = _ from rfl)) trivial
          refine SSteps.cons (fun a w' vs σ hS hl hs hk => ?_) ?_
          · have e14 : a.tmps.getD 14 undef = (.int .i64 ↑d : Value) := (sk_old hk 14 (by kernel_rfl)).trans rfl
            have f14 := gd e14
            exact ro_pure (v := .int .i64 ↑d) (wanted_none rfl) (by simp [execOp, Act.eval, e14, f14, go_sem]) (sp_same (by kernel_rfl) hl hs hS (show (.int .i64 ↑d : Value) = _ from rfl)) trivial
          refine SSteps.cons (fun a w' vs σ hS hl hs hk => ?_) ?_
          · have e0 : a.tmps.getD 0 undef = (.pointer (some ⟨p, 0, none⟩) : Value) := (sk_old hk 0 (by kernel_rfl)).trans rfl
            have f0 := gd e0
            exact ro_pure (v := .pointer (some ⟨p, 0, none⟩)) (wanted_none rfl) (by simp [execOp, Act.eval, e0, f0, go_sem]) (sp_same (by kernel_rfl) hl hs hS (show (.pointer (some ⟨p, 0, none⟩) : Value) = _ from rfl)) trivial
          refine SSteps.cons (fun a w' vs σ hS hl hs hk => ?_) ?_
          · have e132 : a.tmps.getD 132 undef = (.pointer (some ⟨p, 0, none⟩) : Value) := (sk_val hk 2 (by kernel_rfl) rfl rfl).trans ((hk.1 2 (by kernel_rfl)).1)
            have f132 := gd e132
            exact ro_pure (v := .pointer (some ⟨p, 0, none⟩)) (wanted_none rfl) (by simp [execOp, Act.eval, e132, f132, go_sem]) (sp_same (by kernel_rfl) hl hs hS (show (.pointer (some ⟨p, 0, none⟩) : Value) = _ from rfl)) trivial
          refine SSteps.cons (fun a w' vs σ hS hl hs hk => ?_) ?_
          · have e133 : a.tmps.getD 133 undef = (.pointer (some ⟨p, 0, none⟩) : Value) := (sk_val hk 3 (by kernel_rfl) rfl rfl).trans ((hk.1 3 (by kernel_rfl)).1)
            have f133 := gd e133
            exact ro_pure (v := .pointer (some ⟨p, 0, none⟩)) (wanted_none rfl) (by simp [execOp, Act.eval, e133, f133, go_sem]) (sp_same (by kernel_rfl) hl hs hS (show (.pointer (some ⟨p, 0, none⟩) : Value) = _ from rfl)) trivial
          refine SSteps.cons (fun a w' vs σ hS hl hs hk => ?_) ?_
          · have e134 : a.tmps.getD 134 undef = (.pointer (some ⟨p, 0, none⟩) : Value) := (sk_val hk 4 (by kernel_rfl) rfl rfl).trans ((hk.1 4 (by kernel_rfl)).1)
            have f134 := gd e134
            have hx := (hS.box (sg (hs 3 (by decide)))).cell
            exact ro_pure (v := .int .i64 ↑cols) (wanted_none rfl) (by simp [execOp, Act.eval, e134, f134, go_sem, hx]) (sp_same (by kernel_rfl) hl hs hS (show (.int .i64 ↑cols : Value) = _ from rfl)) trivial
          refine SSteps.cons (fun a w' vs σ hS hl hs hk => ?_) ?_
          · have e7 : a.tmps.getD 7 undef = (.pointer (some ⟨b7, 0, none⟩) : Value) := (sk_old hk 7 (by kernel_rfl)).trans rfl
            have f7 := gd e7
            have hx := (hS.box (sg (hs 2 (by decide)))).penAt
            exact ro_pure (v := .agg (pv q)) (wanted_none rfl) (by simp [execOp, Act.eval, e7, f7, go_sem, hx]) (sp_same (by kernel_rfl) hl hs hS (show (.agg (pv q) : Value) = _ from rfl)) trivial
          refine SSteps.cons (fun a w' vs σ hS hl hs hk => ?_) ?_
          · have e135 : a.tmps.getD 135 undef = (.int .i64 ↑cols : Value) := (sk_val hk 5 (by kernel_rfl) rfl rfl).trans ((hk.1 5 (by kernel_rfl)).1)
            have f135 := gd e135
            have e136 : a.tmps.getD 136 undef = (.agg (pv q) : Value) := (sk_val hk 6 (by kernel_rfl) rfl rfl).trans ((hk.1 6 (by kernel_rfl)).1)
            have f136 := gd e136
            have h0 : σ[0]? = some .none := hs 0 (by decide)
            exact ro_call (f := 54) (wanted_none rfl) rfl (by simp only [List.map_toArray, List.map_cons, List.map_nil, Act.eval, e135, e136] <;> rfl) (fun _ _ => by kernel_rfl) ((gridblanks_any cols hcm q _ _ _ hS).mono fun e w2 ⟨x, h1, h2⟩ => ⟨_, h1, sp_set 0 (.cells x (List.replicate cols (blank q))) (by kernel_rfl) (by simp) (by decide) hl hs (by rfl) (h2.place (sg h0)) (by obtain ⟨A', c', e, -⟩ := h2.cellsRd (k := 0) rfl; exact ⟨A', _, c', by rw [e]⟩), trivial⟩)
          refine SSteps.cons (fun a w' vs σ hS hl hs hk => ?_) ?_
          · have e130 : a.tmps.getD 130 undef = (.slice (some ⟨gr, top * 2, none⟩) k (c - top) : Value) := (sk_val hk 0 (by kernel_rfl) rfl rfl).trans ((hk.1 0 (by kernel_rfl)).1)
            have f130 := gd e130
            have e131 : a.tmps.getD 131 undef = (.int .i64 ↑d : Value) := (sk_val hk 1 (by kernel_rfl) rfl rfl).trans ((hk.1 1 (by kernel_rfl)).1)
            have f131 := gd e131
            exact ro_pure (v := .pointer (some ⟨gr, (a0 + d) * 2, none⟩)) (wanted_none rfl) (by simp [execOp, Act.eval, e130, f130, e131, f131, go_sem, hiz, hiz2, hoff]) (sp_same (by kernel_rfl) hl hs hS (show (.pointer (some ⟨gr, (a0 + d) * 2, none⟩) : Value) = _ from rfl)) trivial
          refine SSteps.cons (fun a w' vs σ hS hl hs hk => ?_) ?_
          · have e138 : a.tmps.getD 138 undef = (.pointer (some ⟨gr, (a0 + d) * 2, none⟩) : Value) := (sk_val hk 8 (by kernel_rfl) rfl rfl).trans ((hk.1 8 (by kernel_rfl)).1)
            have f138 := gd e138
            have e137 : a.tmps.getD 137 undef = vs 7 := sk_val hk 7 (by kernel_rfl) rfl rfl
            have p137 : (fun u : Value => ∃ A m c, u = .agg #[.slice A m c, .bool false]) (vs 7) := (hk.1 7 (by kernel_rfl)).1
            have f137 := gd e137
            obtain ⟨A7, n7, c7, q7⟩ := p137
            have h1 : σ[1]? = some (.heads (.slice (some ⟨gr, 0, none⟩) L.length c) (hdP X1 ++ (hdP F ++ hdP (R.drop d)))) := hs 1 (by decide)
            obtain ⟨A8, c8, e8, -, -, -, hg8⟩ := hS.headsForm (sg h1)
            simp only [Value.slice.injEq] at e8
            obtain ⟨rfl, -, rfl⟩ := e8
            have hHl := HHL.out
            obtain ⟨g8, e9, hz, hcs, hf⟩ := hg8 (by omega)
            cases e9
            obtain ⟨x8, hx8⟩ := get_of (show a0 + d < (hdP X1 ++ (hdP F ++ hdP (R.drop d))).length by omega)
            obtain ⟨hx, hx'⟩ := hcs (a0 + d) x8 hx8
            exact rstep_store (w2 := (w'.setCell ⟨gr, (a0 + d) * 2, none⟩ (.slice A7 n7 c7)).setCell ⟨gr, (a0 + d) * 2 + 1, none⟩ (.bool false)) (wanted_none rfl) rfl (by simp [execOp, Act.eval, e138, f138, e137, f137, q7, hx, hx', hf, hz, go_sem]) (sp_set 1 (.heads (.slice (some ⟨gr, 0, none⟩) L.length c) (List.set (hdP X1 ++ (hdP F ++ hdP (R.drop d))) (a0 + d) (.slice A7 n7 c7, false))) (by kernel_rfl) (by simp) (by decide) hl hs (by show Ob.heads _ (List.set _ _ (lineV (vs 7), false)) = _; rw [q7]; rfl) (hS.storeHead (sg h1)) trivial) trivial
          exact SSteps.nil
        · intro vs w' hS hv
          have q0 := (show vs 0 = (.slice (some ⟨gr, top * 2, none⟩) k (c - top) : Value) from hv 0 (by decide))
          have q1 := (show vs 1 = (.int .i64 ↑d : Value) from hv 1 (by decide))
          have q2 := (show vs 2 = (.pointer (some ⟨p, 0, none⟩) : Value) from hv 2 (by decide))
          have q3 := (show vs 3 = (.pointer (some ⟨p, 0, none⟩) : Value) from hv 3 (by decide))
          have q4 := (show vs 4 = (.pointer (some ⟨p, 0, none⟩) : Value) from hv 4 (by decide))
          have q5 := (show vs 5 = (.int .i64 ↑cols : Value) from hv 5 (by decide))
          have q6 := (show vs 6 = (.agg (pv q) : Value) from hv 6 (by decide))
          have q8 := (show vs 8 = (.pointer (some ⟨gr, (a0 + d) * 2, none⟩) : Value) from hv 8 (by decide))
          obtain ⟨A7, n7, c7, q7⟩ := (show ∃ A m c, vs 7 = .agg #[.slice A m c, .bool false] from hv 7 (by decide))
          rw [q7] at hS
          have S2 := Lib.hid hS
          simp only [putL, Act.put, Nat.zero_add, Nat.reduceAdd, List.setIfInBounds_toArray, List.set_cons_succ, List.set_cons_zero, q0, q1, q2, q3, q4, q5, q6, q8]
          clear hS hv q0 q1 q2 q3 q4 q5 q6 q8
          simp only [q7]
          have S9 := S2.out
          rw [show lineV (.agg #[.slice A7 n7 c7, .bool false]) = .slice A7 n7 c7 from rfl, hdP_fill (.slice A7 n7 c7) (List.replicate cols (blank q)) false HX1.out HF.out.1 hiR] at S9
          have S10 := Lib.hid (show Objs w0 w' (.heads (.slice (some ⟨gr, 0, none⟩) L.length c) (hdP X1 ++ (hdP (F ++ [(.slice A7 n7 c7, (List.replicate cols (blank q)), false)]) ++ hdP (R.drop (d + 1)))) :: .box b7 54 (pv q) :: .box p 58 #[.int .i64 ↑cols, .slice (some ⟨gr, 0, none⟩) L.length c] :: .heads (.slice Ag k cg) (hdP G) :: .pile (piP T ++ piP (F ++ [(.slice A7 n7 c7, (List.replicate cols (blank q)), false)])) :: .box b5 106 #[.int .i64 ↑top, .int .i64 ↑bot] :: os) from by have := Objs.pileIn S9; rw [List.append_assoc] at this; rw [piP_append]; exact this)
          clear S9 S2
          go_wp2_with fail
          go_roundw
          case rel => exact ⟨d + 1, F ++ [(.slice A7 n7 c7, (List.replicate cols (blank q)), false)], by omega, by go_num, ⟨by simp [HF.out.1], by rw [lnP_append, HF.out.2]; unfold rollFresh; rw [List.replicate_succ']; rfl⟩, S10.out⟩
          case measure => simp [intOf]; omega
end
end Go.Proofs.YtppijfjigcoifaaDoor

/-
  Copies of lines.
-/
set_option linter.unusedSimpArgs false
set_option linter.unusedVariables false
namespace Go.Proofs.YtppijfjigcoifaaDoor
open Go.RowKit

set_option maxRecDepth 100000 in
set_option maxHeartbeats 4000000 in
theorem copies_base (A : Option Addr) (c : Nat) (L : List Ln) (w : World) (ha : RdL w A c L) (hL : L.length ≤ 1000000) (hx : ∀ l ∈ L, l.1.length ≤ 1000000) :
    Calls Tryd.prog 24 #[.slice A L.length c] w fun e w' => ∃ v, e = .returned v ∧ Objs w w' [.lines v L] := by
  have HA := Lib.hid ha
  have HX := Lib.hid hx
  clear ha hx
  go_enter Tryd.func24, Tryd.ntmps24
  go_wp2_with fail
  go_loopw [3, 4] (fun v0 x wr => ∃ (n : Nat) (v : Value), n ≤ L.length ∧ v = v0 ∧ x = .int .i64 n ∧ Objs w wr [.lines v (L.take n)]) (fun _ x _ => L.length - (intOf x).toNat)
  case atStart => exact ⟨0, _, Nat.zero_le _, rfl, rfl, (objs_start w).nilLines⟩
  case round =>
    obtain ⟨n, v, hn, rfl, rfl, hS⟩ := hrel
    have S := Lib.hid hS
    clear hS
    by_cases hlt : n < L.length
    · have hl : L[n]? = some L[n] := by simp [hlt]
      obtain ⟨b, off, A', c', rfl, hz, hc1, hc2, hrd⟩ := HA.out.at_ hl
      have HR := Lib.hid hrd
      have HTK := Lib.hid (show L.take n ++ [(L[n].1, L[n].2)] = L.take (n + 1) by rw [List.take_succ_eq_append_getElem hlt])
      have hln := HX.out _ (List.getElem_mem hlt)
      have hlz : (0 : Int) ≤ (n : Int) := by omega
      have hlz2 : (n : Int) < (L.length : Int) := by omega
      clear hl hrd
      go_upto_region 5 with (fail)
      refine wp_region_stage (w0 := w) (os := []) (by kernel_rfl) (by kernel_rfl) (by kernel_rfl) [(0, 6, [6], fun vs => .cells (vs 6) L[n].1), (0, 12, [12], fun vs => .cells (lineV (vs 12)) L[n].1), (1, 13, [12, 13], fun vs => .box (blkOf (vs 13)) 39 #[lineV (vs 12), .bool L[n].2]), (2, 14, [14], fun vs => .lines (vs 14) (L.take (n + 1))), (0, 14, [], fun vs => .none), (2, 15, [15], fun vs => .lines (vs 15) (L.take (n + 1)))] [[], [], [], [], [], [], [0], [], [], [], [], [], [0], [1], [0, 1, 2], [2]] [.none, .none, .lines v (L.take n)] (fun i u => match i with | 0 => u = (v : Value) | 1 => u = (.slice (some ⟨b, off, none⟩) L.length c : Value) | 2 => u = (.int .i64 ↑n : Value) | 3 => u = (.pointer (some ⟨b, off + n * 2, none⟩) : Value) | 4 => u = (.pointer (some ⟨b, off + n * 2, none⟩) : Value) | 5 => u = (.slice A' L[n].1.length c' : Value) | 6 => ∃ A n c, u = .slice A n c | 7 => u = (.slice (some ⟨b, off, none⟩) L.length c : Value) | 8 => u = (.int .i64 ↑n : Value) | 9 => u = (.pointer (some ⟨b, off + n * 2, none⟩) : Value) | 10 => u = (.pointer (some ⟨b, off + n * 2 + 1, none⟩) : Value) | 11 => u = (.bool L[n].2 : Value) | 12 => ∃ A m c, u = .agg #[.slice A m c, .bool L[n].2] | 13 => ∃ g, u = .slice (some ⟨g, 0, none⟩) 1 1 | 14 => ∃ A m c, u = .slice A m c | 15 => ∃ A m c, u = .slice A m c | _ => True) (fun vs => [.none, .box (blkOf (vs 13)) 39 #[lineV (vs 12), .bool L[n].2], .lines (vs 15) (L.take (n + 1))]) (by kernel_rfl) (fun vs => by rfl) S.out.pad.pad ?_ ?_
      · refine SSteps.cons (fun a w' vs σ hS hl hs hk => ?_) ?_
        · have e3 : a.tmps.getD 3 undef = (v : Value) := (sk_later hk 15 (by kernel_rfl) rfl rfl).trans rfl
          have f3 := gd e3
          exact ro_pure (v := v) (wanted_none rfl) (by simp [execOp, Act.eval, e3, f3, go_sem]) (sp_same (by kernel_rfl) hl hs hS (show (v : Value) = _ from rfl)) trivial
        refine SSteps.cons (fun a w' vs σ hS hl hs hk => ?_) ?_
        · have e0 : a.tmps.getD 0 undef = (.slice (some ⟨b, off, none⟩) L.length c : Value) := (sk_old hk 0 (by kernel_rfl)).trans rfl
          have f0 := gd e0
          exact ro_pure (v := .slice (some ⟨b, off, none⟩) L.length c) (wanted_none rfl) (by simp [execOp, Act.eval, e0, f0, go_sem]) (sp_same (by kernel_rfl) hl hs hS (show (.slice (some ⟨b, off, none⟩) L.length c : Value) = _ from rfl)) trivial
        refine SSteps.cons (fun a w' vs σ hS hl hs hk => ?_) ?_
        · have e4 : a.tmps.getD 4 undef = (.int .i64 ↑n : Value) := (sk_old hk 4 (by kernel_rfl)).trans rfl
          have f4 := gd e4
          exact ro_pure (v := .int .i64 ↑n) (wanted_none rfl) (by simp [execOp, Act.eval, e4, f4, go_sem]) (sp_same (by kernel_rfl) hl hs hS (show (.int .i64 ↑n : Value) = _ from rfl)) trivial
        refine SSteps.cons (fun a w' vs σ hS hl hs hk => ?_) ?_
        · have e12 : a.tmps.getD 12 undef = (.slice (some ⟨b, off, none⟩) L.length c : Value) := (sk_val hk 1 (by kernel_rfl) rfl rfl).trans ((hk.1 1 (by kernel_rfl)).1)
          have f12 := gd e12
          have e13 : a.tmps.getD 13 undef = (.int .i64 ↑n : Value) := (sk_val hk 2 (by kernel_rfl) rfl rfl).trans ((hk.1 2 (by kernel_rfl)).1)
          have f13 := gd e13
          exact ro_pure (v := .pointer (some ⟨b, off + n * 2, none⟩)) (wanted_none rfl) (by simp [execOp, Act.eval, e12, f12, e13, f13, go_sem, hlt, hlz, hlz2]) (sp_same (by kernel_rfl) hl hs hS (show (.pointer (some ⟨b, off + n * 2, none⟩) : Value) = _ from rfl)) trivial
        refine SSteps.cons (fun a w' vs σ hS hl hs hk => ?_) ?_
        · have e14 : a.tmps.getD 14 undef = (.pointer (some ⟨b, off + n * 2, none⟩) : Value) := (sk_val hk 3 (by kernel_rfl) rfl rfl).trans ((hk.1 3 (by kernel_rfl)).1)
          have f14 := gd e14
          exact ro_pure (v := .pointer (some ⟨b, off + n * 2, none⟩)) (wanted_none rfl) (by simp [execOp, Act.eval, e14, f14, go_sem]) (sp_same (by kernel_rfl) hl hs hS (show (.pointer (some ⟨b, off + n * 2, none⟩) : Value) = _ from rfl)) trivial
        refine SSteps.cons (fun a w' vs σ hS hl hs hk => ?_) ?_
        · have e15 : a.tmps.getD 15 undef = (.pointer (some ⟨b, off + n * 2, none⟩) : Value) := (sk_val hk 4 (by kernel_rfl) rfl rfl).trans ((hk.1 4 (by kernel_rfl)).1)
          have f15 := gd e15
          have hx := (hS.base.cell (p := ⟨b, off + n * 2, none⟩) hz).trans hc1
          exact ro_pure (v := .slice A' L[n].1.length c') (wanted_none rfl) (by simp [execOp, Act.eval, e15, f15, go_sem, hx]) (sp_same (by kernel_rfl) hl hs hS (show (.slice A' L[n].1.length c' : Value) = _ from rfl)) trivial
        refine SSteps.cons (fun a w' vs σ hS hl hs hk => ?_) ?_
        · have e16 : a.tmps.getD 16 undef = (.slice A' L[n].1.length c' : Value) := (sk_val hk 5 (by kernel_rfl) rfl rfl).trans ((hk.1 5 (by kernel_rfl)).1)
          have f16 := gd e16
          have h0 : σ[0]? = some .none := hs 0 (by decide)
          obtain ⟨v6, w6, hr, hS2, A6, c6, hv6⟩ := run_appO hS.nilCells (k := 0) rfl (HR.out.bel hS.base) (by simp; omega) 37
          exact rs_run (wanted_none rfl) (exec_app rfl rfl (by simp only [Act.eval]; exact e16) hr) (sp_set 0 (.cells v6 L[n].1) (by kernel_rfl) (by simp) (by decide) hl hs (by rfl) (Objs.place (by simpa using hS2) (sg h0)) ⟨A6, _, c6, hv6⟩)
        refine SSteps.cons (fun a w' vs σ hS hl hs hk => ?_) ?_
        · have e0 : a.tmps.getD 0 undef = (.slice (some ⟨b, off, none⟩) L.length c : Value) := (sk_old hk 0 (by kernel_rfl)).trans rfl
          have f0 := gd e0
          exact ro_pure (v := .slice (some ⟨b, off, none⟩) L.length c) (wanted_none rfl) (by simp [execOp, Act.eval, e0, f0, go_sem]) (sp_same (by kernel_rfl) hl hs hS (show (.slice (some ⟨b, off, none⟩) L.length c : Value) = _ from rfl)) trivial
        refine SSteps.cons (fun a w' vs σ hS hl hs hk => ?_) ?_
        · have e4 : a.tmps.getD 4 undef = (.int .i64 ↑n : Value) := (sk_old hk 4 (by kernel_rfl)).trans rfl
          have f4 := gd e4
          exact ro_pure (v := .int .i64 ↑n) (wanted_none rfl) (by simp [execOp, Act.eval, e4, f4, go_sem]) (sp_same (by kernel_rfl) hl hs hS (show (.int .i64 ↑n : Value) = _ from rfl)) trivial
        refine SSteps.cons (fun a w' vs σ hS hl hs hk => ?_) ?_
        · have e18 : a.tmps.getD 18 undef = (.slice (some ⟨b, off, none⟩) L.length c : Value) := (sk_val hk 7 (by kernel_rfl) rfl rfl).trans ((hk.1 7 (by kernel_rfl)).1)
          have f18 := gd e18
          have e19 : a.tmps.getD 19 undef = (.int .i64 ↑n : Value) := (sk_val hk 8 (by kernel_rfl) rfl rfl).trans ((hk.1 8 (by kernel_rfl)).1)
          have f19 := gd e19
          exact ro_pure (v := .pointer (some ⟨b, off + n * 2, none⟩)) (wanted_none rfl) (by simp [execOp, Act.eval, e18, f18, e19, f19, go_sem, hlt, hlz, hlz2]) (sp_same (by kernel_rfl) hl hs hS (show (.pointer (some ⟨b, off + n * 2, none⟩) : Value) = _ from rfl)) trivial
        refine SSteps.cons (fun a w' vs σ hS hl hs hk => ?_) ?_
        · have e20 : a.tmps.getD 20 undef = (.pointer (some ⟨b, off + n * 2, none⟩) : Value) := (sk_val hk 9 (by kernel_rfl) rfl rfl).trans ((hk.1 9 (by kernel_rfl)).1)
          have f20 := gd e20
          exact ro_pure (v := .pointer (some ⟨b, off + n * 2 + 1, none⟩)) (wanted_none rfl) (by simp [execOp, Act.eval, e20, f20, go_sem]) (sp_same (by kernel_rfl) hl hs hS (show (.pointer (some ⟨b, off + n * 2 + 1, none⟩) : Value) = _ from rfl)) trivial
        refine SSteps.cons (fun a w' vs σ hS hl hs hk => ?_) ?_
        · have e21 : a.tmps.getD 21 undef = (.pointer (some ⟨b, off + n * 2 + 1, none⟩) : Value) := (sk_val hk 10 (by kernel_rfl) rfl rfl).trans ((hk.1 10 (by kernel_rfl)).1)
          have f21 := gd e21
          have hx := (hS.base.cell (p := ⟨b, off + n * 2 + 1, none⟩) hz).trans hc2
          exact ro_pure (v := .bool L[n].2) (wanted_none rfl) (by simp [execOp, Act.eval, e21, f21, go_sem, hx]) (sp_same (by kernel_rfl) hl hs hS (show (.bool L[n].2 : Value) = _ from rfl)) trivial
        refine SSteps.cons (fun a w' vs σ hS hl hs hk => ?_) ?_
        · have e17 : a.tmps.getD 17 undef = vs 6 := sk_val hk 6 (by kernel_rfl) rfl rfl
          have p17 : (fun u : Value => ∃ A n c, u = .slice A n c) (vs 6) := (hk.1 6 (by kernel_rfl)).1
          have f17 := gd e17
          have e22 : a.tmps.getD 22 undef = (.bool L[n].2 : Value) := (sk_val hk 11 (by kernel_rfl) rfl rfl).trans ((hk.1 11 (by kernel_rfl)).1)
          have f22 := gd e22
          obtain ⟨A6, n6, c6, q6⟩ := p17
          have e9 := e17.trans q6
          have f9 := gd e9
          have h0 : σ[0]? = some (.cells (vs 6) L[n].1) := hs 0 (by decide)
          rw [q6] at h0
          have hSS : Objs w w' ((σ ++ []).set 0 (.cells (.slice A6 n6 c6) L[n].1)) := by rw [set_self (sg h0)]; exact hS
          exact rs_run (v' := .agg #[.slice A6 n6 c6, .bool L[n].2]) (w' := w') (wanted_none rfl) (by simp [execOp, Act.eval, e9, f9, e22, f22, go_sem]) (sp_set 0 (.cells (.slice A6 n6 c6) L[n].1) (by kernel_rfl) (by simp) (by decide) hl hs (by rfl) hSS ⟨A6, n6, c6, rfl⟩)
        refine SSteps.cons (fun a w' vs σ hS hl hs hk => ?_) ?_
        · have e23 : a.tmps.getD 23 undef = vs 12 := sk_val hk 12 (by kernel_rfl) rfl rfl
          have p23 : (fun u : Value => ∃ A m c, u = .agg #[.slice A m c, .bool L[n].2]) (vs 12) := (hk.1 12 (by kernel_rfl)).1
          have f23 := gd e23
          obtain ⟨A6, n6, c6, q6⟩ := p23
          have e9 := e23.trans q6
          have f9 := gd e9
          have h1 : σ[1]? = some .none := hs 1 (by decide)
          exact rs_run (wanted_none rfl) (exec_bsl rfl (by simp [Act.eval, e9, f9]) (run_bsl (.slice A6 n6 c6) L[n].2 w')) (sp_set 1 (.box w'.heap.size 39 #[.slice A6 n6 c6, .bool L[n].2]) (by kernel_rfl) (by simp) (by decide) hl hs (by show Ob.box (blkOf (.slice (some ⟨w'.heap.size, 0, none⟩) 1 1)) 39 #[lineV (vs 12), .bool L[n].2] = _; rw [q6]; rfl) (hS.alloc1.place (sg h1)) ⟨_, rfl⟩)
        refine SSteps.cons (fun a w' vs σ hS hl hs hk => ?_) ?_
        · have e11 : a.tmps.getD 11 undef = (v : Value) := (sk_val hk 0 (by kernel_rfl) rfl rfl).trans ((hk.1 0 (by kernel_rfl)).1)
          have f11 := gd e11
          have e24 : a.tmps.getD 24 undef = vs 13 := sk_val hk 13 (by kernel_rfl) rfl rfl
          have p24 : (fun u : Value => ∃ g, u = .slice (some ⟨g, 0, none⟩) 1 1) (vs 13) := (hk.1 13 (by kernel_rfl)).1
          have f24 := gd e24
          have h2 : σ[2]? = some (.lines v (L.take n)) := hs 2 (by decide)
          have h0 : σ[0]? = some (.cells (lineV (vs 12)) L[n].1) := hs 0 (by decide)
          have h1 : σ[1]? = some (.box (blkOf (vs 13)) 39 #[lineV (vs 12), .bool L[n].2]) := hs 1 (by decide)
          obtain ⟨g8, hg8⟩ := p24
          rw [hg8, show blkOf (.slice (some ⟨g8, 0, none⟩) 1 1) = g8 from rfl] at h1
          obtain ⟨v9, w9, hr, hS2, A9, c9, hv9⟩ := run_appL hS (k := 2) (j := 0) (ad := ⟨g8, 0, none⟩) (c := 1) (s := L[n].2) (sg h2) (sg h0) (by decide) (by rw [(hS.box (sg h1)).cell]; rfl) (by rw [add_at, (hS.box (sg h1)).cell]; rfl) (by simp; omega) 30
          rw [HTK.out] at hS2
          exact rs_run (wanted_none rfl) (exec_app rfl (by simp only [Act.eval]; exact e11) (by simp only [Act.eval]; exact e24.trans hg8) hr) (sp_set2 2 0 (.lines v9 (L.take (n + 1))) .none (by decide) (by kernel_rfl) (by simp) (by simp) (by decide) (by decide) hl hs (by rfl) (by rfl) hS2 ⟨A9, _, c9, hv9⟩)
        refine SSteps.cons (fun a w' vs σ hS hl hs hk => ?_) ?_
        · have e25 : a.tmps.getD 25 undef = vs 14 := sk_val hk 14 (by kernel_rfl) rfl rfl
          have p25 : (fun u : Value => ∃ A m c, u = .slice A m c) (vs 14) := (hk.1 14 (by kernel_rfl)).1
          have f25 := gd e25
          obtain ⟨A9, n9, c9, q9⟩ := p25
          have e9 := e25.trans q9
          have f9 := gd e9
          have h2 : σ[2]? = some (.lines (vs 14) (L.take (n + 1))) := hs 2 (by decide)
          rw [q9] at h2
          have hSS : Objs w w' ((σ ++ []).set 2 (.lines (.slice A9 n9 c9) (L.take (n + 1)))) := by rw [set_self (sg h2)]; exact hS
          exact rs_run (v' := .slice A9 n9 c9) (w' := w') (wanted_none rfl) (by simp [execOp, Act.eval, e9, f9, go_sem]) (sp_set 2 (.lines (.slice A9 n9 c9) (L.take (n + 1))) (by kernel_rfl) (by simp) (by decide) hl hs (by rfl) hSS ⟨A9, n9, c9, rfl⟩)
        exact SSteps.nil
      · intro vs w' hS hv
        have q0 := (show vs 0 = (v : Value) from hv 0 (by decide))
        have q1 := (show vs 1 = (.slice (some ⟨b, off, none⟩) L.length c : Value) from hv 1 (by decide))
        have q2 := (show vs 2 = (.int .i64 ↑n : Value) from hv 2 (by decide))
        have q3 := (show vs 3 = (.pointer (some ⟨b, off + n * 2, none⟩) : Value) from hv 3 (by decide))
        have q4 := (show vs 4 = (.pointer (some ⟨b, off + n * 2, none⟩) : Value) from hv 4 (by decide))
        have q5 := (show vs 5 = (.slice A' L[n].1.length c' : Value) from hv 5 (by decide))
        have q7 := (show vs 7 = (.slice (some ⟨b, off, none⟩) L.length c : Value) from hv 7 (by decide))
        have q8 := (show vs 8 = (.int .i64 ↑n : Value) from hv 8 (by decide))
        have q9 := (show vs 9 = (.pointer (some ⟨b, off + n * 2, none⟩) : Value) from hv 9 (by decide))
        have q10 := (show vs 10 = (.pointer (some ⟨b, off + n * 2 + 1, none⟩) : Value) from hv 10 (by decide))
        have q11 := (show vs 11 = (.bool L[n].2 : Value) from hv 11 (by decide))
        have S2 := Lib.hid hS
        simp only [putL, Act.put, Nat.zero_add, Nat.reduceAdd, List.setIfInBounds_toArray, List.set_cons_succ, List.set_cons_zero, q0, q1, q2, q3, q4, q5, q7, q8, q9, q10, q11]
        clear hS hv q0 q1 q2 q3 q4 q5 q7 q8 q9 q10 q11
        go_wp2_with fail
        go_roundw
        case rel => exact ⟨n + 1, vs 15, by omega, rfl, by go_num, (S2.out.del 0).del 0⟩
        case measure => simp [intOf]; omega
    · have HTK := Lib.hid (show L.take n = L from List.take_of_length_le (by omega))
      go_wp2_with fail
      go_ret
      exact ⟨_, rfl, by have := S.out; rw [HTK.out] at this; exact this⟩
end Go.Proofs.YtppijfjigcoifaaDoor

/-
  What the reference's Roll needs: parts of lines read, heads appended and kept.
-/
set_option linter.unusedSimpArgs false
set_option linter.unusedVariables false
namespace Go.Proofs.YtppijfjigcoifaaDoor
open Go.RowKit

theorem RdL.part {w : World} {b off c c' a m : Nat} {L : List Ln} (h : RdL w (some ⟨b, off, none⟩) c L) (ham : a + m ≤ L.length) (hm : m ≤ c') : RdL w (some ⟨b, off + a * 2, none⟩) c' ((L.drop a).take m) := by
  refine ⟨by simp; omega, (fun e => by cases e), fun hn => ?_⟩
  have hm0 : 0 < m := by simp at hn; omega
  obtain ⟨b', off', e, hz, hr⟩ := h.2.2 (by omega)
  cases e
  refine ⟨b, off + a * 2, rfl, hz, fun i l hl => ?_⟩
  rw [List.getElem?_take] at hl
  split at hl
  · rw [List.getElem?_drop] at hl
    obtain ⟨A', c', h1, h2, h3⟩ := hr (a + i) l hl
    exact ⟨A', c', by rw [show off + a * 2 + i * 2 = off + (a + i) * 2 by omega]; exact h1, by rw [show off + a * 2 + i * 2 + 1 = off + (a + i) * 2 + 1 by omega]; exact h2, h3⟩
  · cases hl
theorem RdL.empty (w : World) (ad : Addr) (c : Nat) : RdL w (some ad) c [] := ⟨by simp, (fun e => by cases e), fun h => by simp at h⟩
section
variable {w0 w : World} {os : List Ob} {v : Value} {hp : List (Value × Bool)}
end
section
variable {T Ts Tf : List Tr} {L : List Ln} {top bot k many cols : Nat} {n : Int} {q : Pen}
end
end Go.Proofs.YtppijfjigcoifaaDoor

/-
  Roll of the reference's grid, upwards.
-/
set_option linter.unusedSimpArgs false
set_option linter.unusedVariables false
namespace Go.Proofs.YtppijfjigcoifaaDoor
open Go.RowKit

section
variable {w0 w : World} {os : List Ob}
end
section
variable {w0 w : World} {os : List Ob} {x cols : Nat} {L : List Ln}
end
end Go.Proofs.YtppijfjigcoifaaDoor

/-
  Roll of the reference's grid, downwards.
-/
set_option linter.unusedSimpArgs false
set_option linter.unusedVariables false
namespace Go.Proofs.YtppijfjigcoifaaDoor
open Go.RowKit

section
variable {w0 w : World} {os : List Ob} {v : Value} {hp : List (Value × Bool)}
end
section
variable {w0 w : World} {os : List Ob} {x cols : Nat} {L : List Ln}
end
end Go.Proofs.YtppijfjigcoifaaDoor

/-
  Shift and Roll wherever the grid lies; what they answer where nothing is done.
-/
set_option linter.unusedSimpArgs false
set_option linter.unusedVariables false
namespace Go.Proofs.YtppijfjigcoifaaDoor
open Go.RowKit

/-- A row's cells from a column on are shifted. -/
def shiftN (j cols : Nat) (n : Int) (q : Pen) (cs : List Cell) : List Cell :=
  if n = 0 then cs else if 0 < n then shiftR j (min n ((cols - j : Nat) : Int)).toNat q cs else shiftL j (min (-n) ((cols - j : Nat) : Int)).toNat q cs
section
variable {w0 w : World} {os : List Ob} {k p cols : Nat} {L : List Ln}
theorem ShiftG {i j : Nat} (n : Int) (q : Pen) (hT : Tabs w0) (hS : Objs w0 w os) (hk : os[k]? = some (.grid p 58 cols L)) (hcm : cols ≤ 1000) (hR : Rect cols L) (hi : i < L.length) (hq : q.ok = true) (hj : j < cols) (hn : -9223372036854775808 ≤ n ∧ n ≤ 9223372036854775807) :
    Calls Tryd.prog 52 #[.pointer (some ⟨p, 0, none⟩), .int .i64 i, .int .i64 j, .int .i64 n, .agg (pv q)] w fun e w' => e = .returned (.int .i64 0) ∧ Objs w0 w' (os.set k (.grid p 58 cols (rowMod i (shiftN j cols n q) L))) := by
  obtain ⟨l, hl⟩ := get_of hi
  rw [rowMod_some hl]
  have hc : 0 < cols := by omega
  have hrow : l.1.length = cols := hR.at_ hl
  by_cases h0 : n = 0
  · have e : shiftN j cols n q l.1 = l.1 := if_pos h0
    rw [e, set_self hl]
    exact front_call hS hk (fun os1 h => Shift_none q hT h hc hcm ⟨by omega, by omega⟩ hq h0)
  by_cases h1 : 0 < n
  · have e : shiftN j cols n q l.1 = shiftR j (min n ((cols - j : Nat) : Int)).toNat q l.1 := by unfold shiftN; rw [if_neg h0, if_pos h1]
    rw [e]
    exact front_call hS hk (fun os1 h => Shift_right q hT h hc hcm hl hrow hq n hj h1 hn.2 (by omega))
  have e : shiftN j cols n q l.1 = shiftL j (min (-n) ((cols - j : Nat) : Int)).toNat q l.1 := by unfold shiftN; rw [if_neg h0, if_neg h1]
  rw [e]
  by_cases h2 : -n < ((cols - j : Nat) : Int)
  · obtain ⟨m, hm⟩ : ∃ m : Nat, (m : Int) = -n := ⟨(-n).toNat, by omega⟩
    obtain rfl : n = -(m : Int) := by omega
    rw [show (min (-(-(m : Int))) ((cols - j : Nat) : Int)).toNat = m by omega]
    exact front_call hS hk (fun os1 h => Shift_left1 q hT h hc hcm hl hrow hq hj (by omega) (by omega))
  · rw [show (min (-n) ((cols - j : Nat) : Int)).toNat = cols - j by omega]
    exact front_call hS hk (fun os1 h => Shift_left2 q hT h hc hcm hl hrow hq n hj (by omega) (by omega) hn.1)
theorem Roll_zero {top bot : Int} {n : Int} (q : Pen) (hT : Tabs w0) (hS : Objs w0 w os) (hk : os[k]? = some (.grid p 58 cols L)) (hc : 0 < cols) (hin : 0 ≤ top ∧ top ≤ bot ∧ bot < L.length) (hq : q.ok = true) (hn : n = 0) :
    Calls Tryd.prog 50 #[.pointer (some ⟨p, 0, none⟩), .agg #[.int .i64 top, .int .i64 bot], .int .i64 n, .agg (pv q)] w fun e w' => e = .returned (.tuple #[.slice none 0 0, .int .i64 0]) ∧ Objs w0 w' os := by
  have HQ := Lib.hid hq
  subst hn
  clear hq
  have S := Lib.hid hS
  have HT := Lib.hid hT
  have HK := Lib.hid hk
  have d1 : decide (top < 0) = false := by simp; omega
  have d2 : decide (bot < top) = false := by simp; omega
  have d3 : decide ((L.length : Int) ≤ bot) = false := by simp; omega
  clear hS hT hk
  go_enter Tryd.func50, Tryd.ntmps50
  go_wp2_with fail
  refine (none_no S.out.alloc2 (k := k + 2) HK.out hc).mono ?_
  rintro e w1 ⟨rfl, hS⟩
  generalize w.heap.size + 1 = b7 at hS ⊢
  generalize w.heap.size = b5 at hS ⊢
  have S2 := Lib.hid hS
  obtain ⟨A, c, hB, hcx, -⟩ := hS.gridRd (k := k + 2) HK.out
  obtain ⟨hx5, hf5, hz5⟩ := (hS.box (k := 1) rfl).facts
  obtain ⟨hxp, hfp, hzp⟩ := hB.facts
  clear hS hB S
  go_wp2_with fail
  refine wp_region_below (by kernel_rfl) (by kernel_rfl) ?_
  repeat (go_big_quiet_step (fail))
  refine wpQuiet_nil ?_
  intro w2 hb2
  have S3 := Lib.hid (S2.out.bel hb2)
  clear hx5 hf5 hz5 hxp hfp hzp S2 hb2
  have hp7 := (S3.out.box (k := 0) rfl).penAt
  have hz7 := (S3.out.box (k := 0) rfl).lt
  go_wp2_with fail
  refine (inked_is HQ.out HT.out S3.out).mono ?_
  rintro e w3 ⟨rfl, hS⟩
  have S4 := Lib.hid hS
  clear hS S3 hp7 hz7
  go_wp2_with fail
  go_ret2
  exact ⟨rfl, S4.out.tail.tail⟩
theorem RollG {top bot : Nat} (n : Int) (q : Pen) (hT : Tabs w0) (hS : Objs w0 w os) (hk : os[k]? = some (.grid p 58 cols L)) (hc : 0 < cols) (hcm : cols ≤ 1000) (hL : L.length ≤ 100000) (htb : top ≤ bot) (hbl : bot < L.length) (hq : q.ok = true) (hn : -9223372036854775808 ≤ n ∧ n ≤ 9223372036854775807) :
    Calls Tryd.prog 50 #[.pointer (some ⟨p, 0, none⟩), .agg #[.int .i64 top, .int .i64 bot], .int .i64 n, .agg (pv q)] w fun e w' => ∃ A m c, e = .returned (.tuple #[.slice A m c, .int .i64 0]) ∧ Objs w0 w' (.lines (.slice A m c) (rollGone top bot n L) :: os.set k (.grid p 58 cols (rollL top bot n q cols L))) := by
  by_cases h0 : n = 0
  · have e1 : rollGone top bot n L = [] := if_pos h0
    have e2 : rollL top bot n q cols L = L := if_pos h0
    rw [e1, e2, set_self hk]
    exact (Roll_zero (top := top) (bot := bot) q hT hS hk hc ⟨by omega, by omega, by omega⟩ hq h0).mono (fun e w' ⟨h1, h2⟩ => ⟨none, 0, 0, h1, h2.nilLines⟩)
  by_cases h1 : 0 < n
  · by_cases h2 : n < ((bot + 1 - top : Nat) : Int)
    · exact (Roll_pos (k := n.toNat) q hT (hS.lift hk) hc hcm hL htb hbl hq h1 (.inl ⟨h2, by omega⟩)).mono (fun e w' ⟨A, m, c, h1, h2⟩ => ⟨A, m, c, h1, h2.lowerNew hk⟩)
    · exact (Roll_pos (k := bot + 1 - top) q hT (hS.lift hk) hc hcm hL htb hbl hq h1 (.inr ⟨⟨by omega, hn.2⟩, rfl⟩)).mono (fun e w' ⟨A, m, c, h1, h2⟩ => ⟨A, m, c, h1, h2.lowerNew hk⟩)
  · by_cases h2 : -((bot + 1 - top : Nat) : Int) < n
    · exact (Roll_neg (k := (-n).toNat) q hT (hS.lift hk) hc hcm hL htb hbl hq (by omega) (.inl ⟨h2, by omega⟩)).mono (fun e w' ⟨A, m, c, h1, h2⟩ => ⟨A, m, c, h1, h2.lowerNew hk⟩)
    · exact (Roll_neg (k := bot + 1 - top) q hT (hS.lift hk) hc hcm hL htb hbl hq (by omega) (.inr ⟨⟨by omega, hn.1⟩, rfl⟩)).mono (fun e w' ⟨A, m, c, h1, h2⟩ => ⟨A, m, c, h1, h2.lowerNew hk⟩)
end
end Go.Proofs.YtppijfjigcoifaaDoor

/-
  Erasing, in plain lists: what becomes of a row, of all rows.
-/
set_option linter.unusedSimpArgs false
set_option linter.unusedVariables false
namespace Go.Proofs.YtppijfjigcoifaaDoor
open Go.RowKit

theorem cAt_set (cs : List Cell) (i j : Nat) (x : Cell) : cAt (cs.set i x) j = if i = j ∧ i < cs.length then x else cAt cs j := by
  unfold cAt
  simp only [List.getD_eq_getElem?_getD, List.getElem?_set]
  by_cases h : i = j
  · subst h
    by_cases h2 : i < cs.length
    · simp [h2]
    · simp [h2]
  · simp [h]
theorem cAt_brk (c : Nat) (cs : List Cell) (j : Nat) : cAt (brk c cs) j = if (1 ≤ c ∧ c < cs.length ∧ (cAt cs (c - 1)).width = 2) ∧ (j + 1 = c ∨ j = c) then blank (cAt cs j).pen else cAt cs j := by
  cases c with
  | zero => simp [brk]
  | succ m =>
    rw [brk_succ]
    by_cases h : m + 1 < cs.length ∧ (cAt cs m).width = 2
    · rw [if_pos h, cAt_set, cAt_set]
      simp only [List.length_set, Nat.add_sub_cancel]
      by_cases h1 : m + 1 = j
      · subst h1; simp [h.1, h.2]
      · by_cases h2 : m = j
        · subst h2; simp [h.2, show m < cs.length by omega, h.1]
        · rw [if_neg (by omega), if_neg (by omega), if_neg (by omega)]
    · rw [if_neg h, if_neg]
      simp only [Nat.add_sub_cancel]
      intro h2; exact h ⟨h2.1.2.1, h2.1.2.2⟩
theorem cAt_wipe {a m : Nat} {p : Pen} {cs : List Cell} (h : a + m ≤ cs.length) (j : Nat) : cAt (wipeC a m p cs) j = if a ≤ j ∧ j < a + m then blank p else cAt cs j := by
  unfold cAt wipeC
  simp only [List.getD_eq_getElem?_getD]
  by_cases h1 : j < a
  · rw [if_neg (by omega), List.append_assoc, List.getElem?_append_left (by simp; omega), List.getElem?_take, if_pos h1]
  · by_cases h2 : j < a + m
    · rw [if_pos ⟨by omega, h2⟩, List.append_assoc, List.getElem?_append_right (by simp; omega), List.getElem?_append_left (by simp; omega)]
      simp [List.getElem?_replicate, show min a cs.length = a by omega, show j - a < m by omega]
    · rw [if_neg (by omega), List.getElem?_append_right (by simp; omega), List.getElem?_drop]
      congr 2
      simp; omega
/-- A row's line turns. -/
def lnMod (i : Nat) (F : Ln → Ln) (L : List Ln) : List Ln := match L[i]? with | some l => L.set i (F l) | none => L
theorem lnMod_get (i : Nat) (F : Ln → Ln) (L : List Ln) (r : Nat) : (lnMod i F L)[r]? = (L[r]?).map (fun l => if r = i then F l else l) := by
  unfold lnMod
  split
  · rename_i l hl
    rw [List.getElem?_set]
    by_cases h : i = r
    · subst h
      have hi := (List.getElem?_eq_some_iff.1 hl).1
      rw [if_pos rfl, if_pos hi, hl]
      simp
    · rw [if_neg h]
      have h' : ¬ r = i := fun e => h e.symm
      simp [h']
  · rename_i hl
    by_cases h : r = i
    · subst h; rw [hl]; rfl
    · simp [h]
theorem rowMod_is (i : Nat) (f : List Cell → List Cell) (L : List Ln) : rowMod i f L = lnMod i (fun l => (f l.1, l.2)) L := rfl
theorem softMod_is (i : Nat) (s : Bool) (L : List Ln) : softMod i s L = lnMod i (fun l => (l.1, s)) L := rfl
theorem Rect.lnMod {n : Nat} {L : List Ln} (h : Rect n L) (i : Nat) {F : Ln → Ln} (hF : ∀ l : Ln, l.1.length = n → (F l).1.length = n) : Rect n (lnMod i F L) := by
  unfold Proofs.YtppijfjigcoifaaDoor.lnMod
  split
  · rename_i l hl; exact rect_set h (hF _ (h.at_ hl))
  · exact h
/-- The other rows' part of erasing in the screen: the first n rows are done. -/
def otherRow (row : Nat) (k : Int) (n : Nat) : Prop := (n < row ∧ ¬ k = 0) ∨ (row < n ∧ ¬ k = 1)
instance (row : Nat) (k : Int) (n : Nat) : Decidable (otherRow row k n) := by unfold otherRow; infer_instance
section
variable {cols row col : Nat} {k : Int} {q : Pen} {L : List Ln}
end
end Go.Proofs.YtppijfjigcoifaaDoor

/-
  What each row is behind a roll; two rolls, one after the other.
-/
set_option linter.unusedSimpArgs false
set_option linter.unusedVariables false
namespace Go.Proofs.YtppijfjigcoifaaDoor
open Go.RowKit

def hardIf (b : Prop) [Decidable b] (l : Ln) : Ln := if b then (l.1, false) else l
def freshLn (cols : Nat) (q : Pen) : Ln := (List.replicate cols (blank q), false)
theorem hardIf_no {b : Prop} [Decidable b] (h : ¬ b) : hardIf b = id := by funext l; simp [hardIf, h]
theorem softMod_get (i : Nat) (L : List Ln) (r : Nat) : (softMod i false L)[r]? = (L[r]?).map (hardIf (r = i)) := by
  rw [softMod_is, lnMod_get]; rfl
theorem rollFresh_get {k cols r : Nat} {q : Pen} (h : r < k) : (rollFresh k cols q)[r]? = some (freshLn cols q) := by simp [rollFresh, freshLn, h]
theorem rollFresh_len (k cols : Nat) (q : Pen) : (rollFresh k cols q).length = k := by simp [rollFresh]
/-- The row that lies at a place behind a roll. -/
def rollAt (top bot : Nat) (n : Int) (q : Pen) (cols : Nat) (L : List Ln) (r : Nat) : Option Ln :=
  if n = 0 then L[r]? else
  (if r < top ∨ bot < r then L[r]?
   else if 0 < n then (if r + rollK n (bot + 1 - top) ≤ bot then (L[r + rollK n (bot + 1 - top)]?).map (hardIf (r + rollK n (bot + 1 - top) = bot)) else some (freshLn cols q))
   else (if r < top + rollK n (bot + 1 - top) then some (freshLn cols q) else (L[r - rollK n (bot + 1 - top)]?).map (hardIf (r = bot)))).map (hardIf (0 < top ∧ r + 1 = top))
section
variable {top bot : Nat} {n : Int} {q : Pen} {cols : Nat} {L : List Ln}
theorem rollIn_get {r : Nat} (hr : r < bot + 1 - top) : (rollIn top bot L)[r]? = L[top + r]? := by
  unfold rollIn; rw [List.getElem?_take, if_pos hr, List.getElem?_drop]
theorem rollMid_get (htb : top ≤ bot) (hbl : bot < L.length) {r : Nat} (hr : r < bot + 1 - top) :
    (rollMid top bot n q cols L)[r]? = if 0 < n then (if r + rollK n (bot + 1 - top) ≤ bot - top then (L[top + r + rollK n (bot + 1 - top)]?).map (hardIf (r + rollK n (bot + 1 - top) = bot - top)) else some (freshLn cols q))
      else (if r < rollK n (bot + 1 - top) then some (freshLn cols q) else (L[top + r - rollK n (bot + 1 - top)]?).map (hardIf (r = bot - top))) := by
  have hK := rollK_le n (bot + 1 - top)
  have hSl := rollStay_length (n := n) htb hbl
  unfold rollMid
  by_cases h0 : 0 < n
  · rw [if_pos h0, if_pos h0]
    by_cases h1 : r + rollK n (bot + 1 - top) ≤ bot - top
    · rw [if_pos h1, List.getElem?_append_left (by rw [lastHard_length, hSl]; omega)]
      unfold lastHard
      rw [softMod_get, hSl]
      unfold rollStay
      rw [if_pos h0, List.getElem?_drop, rollIn_get (by omega), show top + (rollK n (bot + 1 - top) + r) = top + r + rollK n (bot + 1 - top) by omega]
      congr 1
      funext l
      unfold hardIf
      by_cases h2 : r + rollK n (bot + 1 - top) = bot - top
      · rw [if_pos (by omega), if_pos h2]
      · rw [if_neg (by omega), if_neg h2]
    · rw [if_neg h1, List.getElem?_append_right (by rw [lastHard_length, hSl]; omega), rollFresh_get (by rw [lastHard_length, hSl]; omega)]
  · rw [if_neg h0, if_neg h0]
    by_cases h1 : r < rollK n (bot + 1 - top)
    · rw [if_pos h1, List.getElem?_append_left (by rw [rollFresh_len]; exact h1), rollFresh_get h1]
    · rw [if_neg h1, List.getElem?_append_right (by rw [rollFresh_len]; omega), rollFresh_len]
      unfold lastHard
      rw [softMod_get, hSl]
      unfold rollStay
      rw [if_neg h0, List.getElem?_take, if_pos (by omega), rollIn_get (by omega), show top + (r - rollK n (bot + 1 - top)) = top + r - rollK n (bot + 1 - top) by omega]
      congr 1
      funext l
      unfold hardIf
      by_cases h2 : r = bot - top
      · rw [if_pos (by omega), if_pos h2]
      · rw [if_neg (by omega), if_neg h2]
theorem topHard_get (r : Nat) : (topHard top L)[r]? = (L[r]?).map (hardIf (0 < top ∧ r + 1 = top)) := by
  unfold topHard
  by_cases h : 0 < top
  · rw [if_pos h, softMod_get]
    congr 1
    funext l
    unfold hardIf
    by_cases h2 : r = top - 1
    · rw [if_pos h2, if_pos (by omega)]
    · rw [if_neg h2, if_neg (by omega)]
  · rw [if_neg h, hardIf_no (by omega)]; simp
theorem rollL_get (htb : top ≤ bot) (hbl : bot < L.length) (r : Nat) : (rollL top bot n q cols L)[r]? = rollAt top bot n q cols L r := by
  unfold rollL rollAt
  by_cases h0 : n = 0
  · rw [if_pos h0, if_pos h0]
  rw [if_neg h0, if_neg h0, topHard_get]
  congr 1
  have hM := rollMid_length (n := n) (q := q) (cols := cols) htb hbl
  by_cases h1 : r < top
  · rw [List.getElem?_append_left (by simp; omega), List.getElem?_take, if_pos h1, if_pos (.inl h1)]
  have hTl : (L.take top).length = top := by simp; omega
  rw [List.getElem?_append_right (by omega), hTl]
  by_cases h2 : bot < r
  · rw [List.getElem?_append_right (by omega), hM, List.getElem?_drop, if_pos (.inr h2), show bot + 1 + (r - top - (bot + 1 - top)) = r by omega]
  rw [List.getElem?_append_left (by omega), rollMid_get htb hbl (by omega), if_neg (by omega : ¬ (r < top ∨ bot < r))]
  by_cases h3 : 0 < n
  · rw [if_pos h3, if_pos h3]
    by_cases h4 : r + rollK n (bot + 1 - top) ≤ bot
    · rw [if_pos (by omega), if_pos h4, show top + (r - top) = r by omega]
      congr 1
      funext l
      unfold hardIf
      by_cases h5 : r + rollK n (bot + 1 - top) = bot
      · rw [if_pos (by omega), if_pos h5]
      · rw [if_neg (by omega), if_neg h5]
    · rw [if_neg (show ¬ r - top + rollK n (bot + 1 - top) ≤ bot - top by omega), if_neg h4]
  · rw [if_neg h3, if_neg h3]
    by_cases h4 : r < top + rollK n (bot + 1 - top)
    · rw [if_pos (show r - top < rollK n (bot + 1 - top) by omega), if_pos h4]
    · rw [if_neg (show ¬ r - top < rollK n (bot + 1 - top) by omega), if_neg h4, show top + (r - top) = r by omega]
      congr 1
      funext l
      unfold hardIf
      by_cases h5 : r = bot
      · rw [if_pos (by omega), if_pos h5]
      · rw [if_neg (by omega), if_neg h5]
theorem hardIf_fresh (a : Prop) [Decidable a] (cols : Nat) (q : Pen) : hardIf a (freshLn cols q) = freshLn cols q := by
  unfold hardIf freshLn; split <;> rfl
/-- What a row is, piece by piece. -/
theorem rollAt_out (hn : ¬ n = 0) {r : Nat} (h : r < top ∨ bot < r) : rollAt top bot n q cols L r = (L[r]?).map (hardIf (0 < top ∧ r + 1 = top)) := by
  unfold rollAt; rw [if_neg hn, if_pos h]
theorem rollAt_up (hn : 0 < n) {r K : Nat} (hK : rollK n (bot + 1 - top) = K) (h : ¬ (r < top ∨ bot < r)) (h2 : r + K ≤ bot) : rollAt top bot n q cols L r = (L[r + K]?).map (hardIf (r + K = bot)) := by
  subst hK
  unfold rollAt
  rw [if_neg (show ¬ n = 0 by omega), if_neg h, if_pos hn, if_pos h2, hardIf_no (show ¬ (0 < top ∧ r + 1 = top) by omega), Option.map_id, id]
theorem rollAt_upf (hn : 0 < n) {r K : Nat} (hK : rollK n (bot + 1 - top) = K) (h : ¬ (r < top ∨ bot < r)) (h2 : ¬ r + K ≤ bot) : rollAt top bot n q cols L r = some (freshLn cols q) := by
  subst hK
  unfold rollAt
  rw [if_neg (show ¬ n = 0 by omega), if_neg h, if_pos hn, if_neg h2, Option.map_some, hardIf_fresh]
theorem rollAt_dnf (hn : n < 0) {r K : Nat} (hK : rollK n (bot + 1 - top) = K) (h : ¬ (r < top ∨ bot < r)) (h2 : r < top + K) : rollAt top bot n q cols L r = some (freshLn cols q) := by
  subst hK
  unfold rollAt
  rw [if_neg (show ¬ n = 0 by omega), if_neg h, if_neg (show ¬ 0 < n by omega), if_pos h2, Option.map_some, hardIf_fresh]
theorem rollAt_dn (hn : n < 0) {r K : Nat} (hK : rollK n (bot + 1 - top) = K) (h : ¬ (r < top ∨ bot < r)) (h2 : ¬ r < top + K) : rollAt top bot n q cols L r = (L[r - K]?).map (hardIf (r = bot)) := by
  subst hK
  unfold rollAt
  rw [if_neg (show ¬ n = 0 by omega), if_neg h, if_neg (show ¬ 0 < n by omega), if_neg h2, hardIf_no (show ¬ (0 < top ∧ r + 1 = top) by omega), Option.map_id, id]
end
end Go.Proofs.YtppijfjigcoifaaDoor

/-
  Inserting and deleting, in plain lists.
-/
set_option linter.unusedSimpArgs false
set_option linter.unusedVariables false
namespace Go.Proofs.YtppijfjigcoifaaDoor
open Go.RowKit

theorem brk_before {c : Nat} {cs : List Cell} (h1 : 1 ≤ c) (hc : c < cs.length) : ¬ (cAt (brk c cs) (c - 1)).width = 2 := by
  rw [cAt_brk]
  split
  · simp [blank]
  · rename_i h; intro h2; exact h ⟨⟨h1, hc, h2⟩, by omega⟩
section
variable {j k m : Nat} {q : Pen} {cs : List Cell}
theorem cAt_shiftR (h : j + k ≤ cs.length) {i : Nat} (hi : i < cs.length) : cAt (shiftR j k q cs) i = if i < j then cAt (brk (cs.length - k) (brk j cs)) i else if i < j + k then blank q else cAt (brk (cs.length - k) (brk j cs)) (i - k) := by
  obtain ⟨l, hl⟩ : ∃ l, l = brk (cs.length - k) (brk j cs) := ⟨_, rfl⟩
  have hll : l.length = cs.length := by rw [hl, brk_length, brk_length]
  unfold shiftR
  simp only [← hl]
  have ht : (l.take j).length = j := by simp; omega
  unfold cAt
  simp only [List.getD_eq_getElem?_getD]
  by_cases h1 : i < j
  · rw [if_pos h1, List.getElem?_append_left (by omega), List.getElem?_take, if_pos h1]
  · rw [if_neg h1, List.getElem?_append_right (by omega), ht]
    by_cases h2 : i < j + k
    · rw [if_pos h2, List.getElem?_append_left (by simp; omega)]
      simp [List.getElem?_replicate, show i - j < k by omega]
    · rw [if_neg h2, List.getElem?_append_right (by simp; omega), List.length_replicate, List.getElem?_take, if_pos (by omega), List.getElem?_drop, show j + (i - j - k) = i - k by omega]
theorem cAt_shiftL (h : j + k ≤ cs.length) {i : Nat} (hi : i < cs.length) : cAt (shiftL j k q cs) i = if i < j then cAt (brk (j + k) (brk j cs)) i else if i < cs.length - k then cAt (brk (j + k) (brk j cs)) (i + k) else blank q := by
  obtain ⟨l, hl⟩ : ∃ l, l = brk (j + k) (brk j cs) := ⟨_, rfl⟩
  have hll : l.length = cs.length := by rw [hl, brk_length, brk_length]
  unfold shiftL
  simp only [← hl]
  have ht : (l.take j).length = j := by simp; omega
  unfold cAt
  simp only [List.getD_eq_getElem?_getD]
  by_cases h1 : i < j
  · rw [if_pos h1, List.getElem?_append_left (by omega), List.getElem?_take, if_pos h1]
  · rw [if_neg h1, List.getElem?_append_right (by omega), ht]
    by_cases h2 : i < cs.length - k
    · rw [if_pos h2, List.getElem?_append_left (by simp; omega), List.getElem?_drop, show j + k + (i - j) = i + k by omega]
    · rw [if_neg h2, List.getElem?_append_right (by simp; omega)]
      simp [List.getElem?_replicate, show i - j - (l.length - (j + k)) < k by omega]
/-- No wide cell lies right behind another one. -/
def W2 (cs : List Cell) : Prop := ∀ i, i + 1 < cs.length → (cAt cs i).width = 2 → ¬ (cAt cs (i + 1)).width = 2
theorem W2.brk {cs : List Cell} (h : W2 cs) (c : Nat) : W2 (brk c cs) := fun i hi h1 h2 => by
  rw [brk_length] at hi
  rw [cAt_brk] at h1 h2
  split at h1
  · simp [blank] at h1
  · split at h2
    · simp [blank] at h2
    · exact h i hi h1 h2
end
section
variable {j cols a b : Nat} {q : Pen} {cs : List Cell}
end
end Go.Proofs.YtppijfjigcoifaaDoor

/-
  Erasing by the program: its check, cells, part.
-/
set_option linter.unusedSimpArgs false
set_option linter.unusedVariables false
namespace Go.Proofs.YtppijfjigcoifaaDoor
open Go.RowKit

section
variable {w0 w : World} {os : List Ob} {k p cols : Nat} {L : List Ln}
end
end Go.Proofs.YtppijfjigcoifaaDoor

/-
  Erasing by the program: Chars, InScreen; what is refused.
-/
set_option linter.unusedSimpArgs false
set_option linter.unusedVariables false
namespace Go.Proofs.YtppijfjigcoifaaDoor
open Go.RowKit

section
variable {w0 w : World} {os : List Ob} {k p cols : Nat} {L : List Ln}
end
end Go.Proofs.YtppijfjigcoifaaDoor

/-
  Erasing by the reference.
-/
set_option linter.unusedSimpArgs false
set_option linter.unusedVariables false
namespace Go.Proofs.YtppijfjigcoifaaDoor
open Go.RowKit

section
variable {w0 w : World} {os : List Ob} {k p cols : Nat} {L : List Ln}
end
end Go.Proofs.YtppijfjigcoifaaDoor

/-
  Erasing: what is refused.
-/
set_option linter.unusedSimpArgs false
set_option linter.unusedVariables false
namespace Go.Proofs.YtppijfjigcoifaaDoor
open Go.RowKit

section
variable {w0 w : World} {os : List Ob} {k p cols : Nat} {L : List Ln} {row col : Int} {pend : Bool}
/-- A grid that has no rows: nil, or zero. -/
def NoRows (w : World) (gp : Value) : Prop := ∀ w', Below w.heap.size w w' → Calls Tryd.prog 17 #[gp] w' fun e w2 => e = .returned (.int .i64 0) ∧ Below w'.heap.size w' w2
theorem NoRows.bel {gp : Value} {w' : World} (h : NoRows w gp) (hb : Below w.heap.size w w') : NoRows w' gp := fun w2 hb2 => h w2 (hb.trans (hb2.mono hb.size))
end
end Go.Proofs.YtppijfjigcoifaaDoor

/-
  Records of any size in memory under one name: a whole load is one step.
-/
set_option linter.unusedSimpArgs false
set_option linter.unusedVariables false
namespace Go.Proofs.YtppijfjigcoifaaDoor
open Go.RowKit

open Classical in
/-- The n values that lie at a place. -/
noncomputable def recAt (w : World) (b o n : Nat) : Option (Array Value) := if h : ∃ cs : Array Value, cs.size = n ∧ w.rangeAt b o cs.toList then some h.choose else none
theorem recAt_of {w : World} {b o n : Nat} {cs : Array Value} (hn : cs.size = n) (h : w.rangeAt b o cs.toList) : recAt w b o n = some cs := by
  have hx : ∃ cs : Array Value, cs.size = n ∧ w.rangeAt b o cs.toList := ⟨cs, hn, h⟩
  unfold recAt
  rw [dif_pos hx]
  exact congrArg some (rangeAt_det (by rw [hx.choose_spec.1, hn]) hx.choose_spec.2 h)
theorem range_of_recAt {w : World} {b o n : Nat} {cs : Array Value} (h : recAt w b o n = some cs) : cs.size = n ∧ w.rangeAt b o cs.toList := by
  unfold recAt at h
  split at h
  · rename_i hx; have := hx.choose_spec; rw [Option.some.inj h] at this; exact this
  · cases h
theorem recAt_same {w w' : World} {b : Nat} (h : ∀ i, w'.cell? ⟨b, i, none⟩ = w.cell? ⟨b, i, none⟩) (o n : Nat) : recAt w' b o n = recAt w b o n := by
  cases h1 : recAt w b o n with
  | some c => exact recAt_of (range_of_recAt h1).1 ((rangeAt_same h).2 (range_of_recAt h1).2)
  | none =>
    cases h2 : recAt w' b o n with
    | none => rfl
    | some c => rw [recAt_of (range_of_recAt h2).1 ((rangeAt_same h).1 (range_of_recAt h2).2)] at h1; cases h1
@[go_sem] theorem recAt_alloc (w : World) (ob : Obj) (b o n : Nat) (h : b < w.heap.size) : recAt (w.alloc ob) b o n = recAt w b o n := recAt_same (fun i => World.cell?_alloc_lt w ob ⟨b, i, none⟩ h) o n
theorem recAt_below {w w' : World} {B b : Nat} (hb : Below B w w') (h : b < B) (o n : Nat) : recAt w' b o n = recAt w b o n := recAt_same (fun i => hb.cell (p := ⟨b, i, none⟩) h) o n
@[go_sem] theorem recAt_plus (w x : World) (b o n : Nat) (h : b < w.heap.size) : recAt (plus w x) b o n = recAt w b o n := recAt_same (fun i => cell_plus w x b i h) o n
@[go_sem] theorem recAt_drew (w : World) (b o n : Nat) : recAt w.drew b o n = recAt w b o n := rfl
theorem Blk.recAt {w : World} {g : Nat} {t : TypeId} {cs : Array Value} (h : Blk w g t cs) (n : Nat) (hn : cs.size = n) : Proofs.YtppijfjigcoifaaDoor.recAt w g 0 n = some cs := recAt_of hn h.range
def ldR (a : Addr) (n : Nat) : Sem (Array Value) := loadCells a n
theorem ldR_of {w : World} {b o n : Nat} {cs : Array Value} (h : recAt w b o n = some cs) : (ldR ⟨b, o, none⟩ n).run Tryd.prog w = .ok cs w := by
  obtain ⟨hn, hr⟩ := range_of_recAt h
  have := run_loadCells_list (P := Tryd.prog) w ⟨b, o, none⟩ cs.toList (fun j v hv => by rw [add_at]; exact hr j v hv)
  subst hn
  simpa [ldR] using this
@[go_sem] theorem run_ldC_row (w : World) (b o : Nat) (h : (recAt w b o 16).isSome = true) : (ldC ⟨b, o, none⟩).run Tryd.prog w = .ok ((recAt w b o 16).getD #[]) w := by
  obtain ⟨c, hc⟩ := Option.isSome_iff_exists.1 h
  rw [hc]; exact ldR_of hc
@[go_sem] theorem run_ldR (w : World) (b o n : Nat) (h : (recAt w b o n).isSome = true) : (ldR ⟨b, o, none⟩ n).run Tryd.prog w = .ok ((recAt w b o n).getD #[]) w := by
  obtain ⟨c, hc⟩ := Option.isSome_iff_exists.1 h
  rw [hc]; exact ldR_of hc
/-- A readable slice of records of k values each. -/
def RdRec (w : World) (A : Option Addr) (c k : Nat) (rs : List (Array Value)) : Prop := rs.length ≤ c ∧ (A = none → c = 0) ∧ (0 < rs.length → ∃ b off, A = some ⟨b, off, none⟩ ∧ b < w.heap.size ∧ ∀ (i : Nat) (r : Array Value), rs[i]? = some r → recAt w b (off + i * k) k = some r)
theorem RdRec.bel {w w' : World} {A : Option Addr} {c k : Nat} {rs : List (Array Value)} (h : RdRec w A c k rs) (hb : Below w.heap.size w w') : RdRec w' A c k rs := ⟨h.1, h.2.1, fun hn => by
  obtain ⟨b, off, rfl, hz, hr⟩ := h.2.2 hn
  exact ⟨b, off, rfl, by have := hb.size; omega, fun i r hi => (recAt_below hb hz _ _).trans (hr i r hi)⟩⟩
theorem RdRec.at_ {w : World} {A : Option Addr} {c k : Nat} {rs : List (Array Value)} (h : RdRec w A c k rs) {i : Nat} {r : Array Value} (hi : rs[i]? = some r) : ∃ b off, A = some ⟨b, off, none⟩ ∧ b < w.heap.size ∧ recAt w b (off + i * k) k = some r := by
  have hl := (List.getElem?_eq_some_iff.1 hi).1
  obtain ⟨b, off, rfl, hz, hr⟩ := h.2.2 (by omega)
  exact ⟨b, off, rfl, hz, hr i r hi⟩
end Go.Proofs.YtppijfjigcoifaaDoor

/-
  edit.change: its check, its rolling.
-/
set_option linter.unusedSimpArgs false
set_option linter.unusedVariables false
namespace Go.Proofs.YtppijfjigcoifaaDoor
open Go.RowKit

structure Chg18 where
  g : Value
  row : Int
  col : Int
  pend : Bool
  top : Int
  bot : Int
  rows : Bool
  n : Int
  q : Pen
def ach (a : Chg18) : Array Value := #[a.g, .int .i64 a.row, .int .i64 a.col, .bool a.pend, .int .i64 a.top, .int .i64 a.bot, .bool a.rows, .int .i64 a.n, .int .i64 a.q.fk, .int .u8 a.q.fi, .int .u8 a.q.fr, .int .u8 a.q.fg, .int .u8 a.q.fb, .int .i64 a.q.bk, .int .u8 a.q.bi, .int .u8 a.q.br, .int .u8 a.q.bg, .int .u8 a.q.bb, .int .u8 a.q.fl]
@[go_sem] theorem ach_size (a : Chg18) : (ach a).size = 19 := by simp [ach]
@[simp high, go_sem high] theorem ach_get0 (a : Chg18) : (ach a)[0]? = some a.g := by simp [ach]
@[simp high, go_sem high] theorem ach_get1 (a : Chg18) : (ach a)[1]? = some (.int .i64 a.row) := by simp [ach]
@[simp high, go_sem high] theorem ach_get2 (a : Chg18) : (ach a)[2]? = some (.int .i64 a.col) := by simp [ach]
@[simp high, go_sem high] theorem ach_get3 (a : Chg18) : (ach a)[3]? = some (.bool a.pend) := by simp [ach]
@[simp high, go_sem high] theorem ach_get4 (a : Chg18) : (ach a)[4]? = some (.int .i64 a.top) := by simp [ach]
@[simp high, go_sem high] theorem ach_get5 (a : Chg18) : (ach a)[5]? = some (.int .i64 a.bot) := by simp [ach]
@[simp high, go_sem high] theorem ach_get6 (a : Chg18) : (ach a)[6]? = some (.bool a.rows) := by simp [ach]
@[simp high, go_sem high] theorem ach_get7 (a : Chg18) : (ach a)[7]? = some (.int .i64 a.n) := by simp [ach]
theorem ach_pen {w : World} {b o : Nat} {a : Chg18} (h : w.rangeAt b o (ach a).toList) : penAt w b (o + 8) = some a.q := penAt_of fun j v hv => by
  have := h (8 + j) v (by rw [← hv]; show ((ach a).toList)[8 + j]? = _; rw [← List.getElem?_drop]; rfl)
  rw [show o + 8 + j = o + (8 + j) by omega]; exact this
theorem Blk.ach_pen {w : World} {g : Nat} {t : TypeId} {a : Chg18} (h : Blk w g t (ach a)) : Proofs.YtppijfjigcoifaaDoor.penAt w g 8 = some a.q := by have := Proofs.YtppijfjigcoifaaDoor.ach_pen h.range; simpa using this
section
variable {w0 w : World} {os : List Ob} {k p cols : Nat} {L : List Ln}
theorem Objs.setBox2 (h : Objs w0 w os) {k g : Nat} {t : TypeId} {a b u v : Value} (hk : os[k]? = some (.box g t #[a, b])) : Objs w0 ((w.setCell ⟨g, 0, none⟩ u).setCell ⟨g, 1, none⟩ v) (os.set k (.box g t #[u, v])) := by
  have h1 := h.setBox k (i := 0) (u := u) hk
  have h2 := h1.setBox k (i := 1) (u := v) (g := g) (t := t) (cs := #[u, b]) (by rw [List.getElem?_set_self (List.getElem?_eq_some_iff.1 hk).1]; simp)
  simpa using h2
theorem grid_blk {t : TypeId} (hS : Objs w0 w os) (hk : os[k]? = some (.grid p t cols L)) : ∃ A c, Blk w p t #[.int .i64 cols, .slice A L.length c] := by
  obtain ⟨A, c, hB, -, -⟩ := hS.gridRd hk; exact ⟨A, c, hB⟩
end
end Go.Proofs.YtppijfjigcoifaaDoor

/-
  InsertCells, DeleteCells, InsertLines, DeleteLines: done, refused, of no grid.
-/
set_option linter.unusedSimpArgs false
set_option linter.unusedVariables false
namespace Go.Proofs.YtppijfjigcoifaaDoor
open Go.RowKit

@[go_sem ↓] theorem load_ldR19 (a : Addr) : loadCellsFrom a 0 19 #[] = ldR a 19 := rfl
@[go_sem] theorem fill_ach (g : Value) (r c t b n : Int) (pe ro : Bool) (q : Pen) : Array.foldl (fun cs x => cs.setIfInBounds (8 + x.snd) x.fst) #[g, .int .i64 r, .int .i64 c, .bool pe, .int .i64 t, .int .i64 b, .bool ro, .int .i64 n, .int .i64 0, .int .u8 0, .int .u8 0, .int .u8 0, .int .u8 0, .int .i64 0, .int .u8 0, .int .u8 0, .int .u8 0, .int .u8 0, .int .u8 0] (pv q).zipIdx 0 11 = ach ⟨g, r, c, pe, t, b, ro, n, q⟩ := by kernel_rfl
theorem Blk.ach {w : World} {g : Nat} {t : TypeId} {a : Chg18} (h : Blk w g t (Proofs.YtppijfjigcoifaaDoor.ach a)) : (∀ i, w.cell? ⟨g, i, none⟩ = (Proofs.YtppijfjigcoifaaDoor.ach a)[i]?) ∧ (∀ i, w.frozen? ⟨g, i, none⟩ = false) ∧ g < w.heap.size ∧ Proofs.YtppijfjigcoifaaDoor.recAt w g 0 19 = some (Proofs.YtppijfjigcoifaaDoor.ach a) ∧ Proofs.YtppijfjigcoifaaDoor.penAt w g 8 = some a.q :=
  ⟨h.cell, h.frozen, h.lt, h.recAt 19 (ach_size a), h.ach_pen⟩
/-- A grid that is not there: it has no rows, no columns. -/
def NoGrid (w : World) (gp : Value) : Prop := NoRows w gp ∧ ∀ w', Below w.heap.size w w' → Calls Tryd.prog 18 #[gp] w' fun e w2 => e = .returned (.int .i64 0) ∧ Below w'.heap.size w' w2
theorem NoGrid.bel {w w' : World} {gp : Value} (h : NoGrid w gp) (hb : Below w.heap.size w w') : NoGrid w' gp := ⟨h.1.bel hb, fun w2 hb2 => h.2 w2 (hb.trans (hb2.mono hb.size))⟩
section
variable {w0 w : World} {os : List Ob} {k p cols : Nat} {L : List Ln}
end
end Go.Proofs.YtppijfjigcoifaaDoor

/-
  region: which regions there are, the errors.
-/
set_option linter.unusedSimpArgs false
set_option linter.unusedVariables false
namespace Go.Proofs.YtppijfjigcoifaaDoor
open Go.RowKit

theorem eqIn_cursor (a b c d : Int) (x y : Bool) (w : World) : (Op.equalIn 10000 48 (.agg #[.int .i64 a, .int .i64 b, .bool x]) (.agg #[.int .i64 c, .int .i64 d, .bool y])).run Tryd.prog w = .ok (decide (a = c ∧ b = d ∧ x = y)) w := by
  by_cases h0 : a = c
  case neg => simp [go_sem, h0]
  by_cases h1 : b = d
  case neg => simp [go_sem, h0, h1]
  cases x <;> cases y <;> simp [go_sem, h0, h1]
section
variable {w0 w : World} {os : List Ob} {k p cols : Nat} {L : List Ln}
end
end Go.Proofs.YtppijfjigcoifaaDoor

/-
  region: scrolling up and down.
-/
set_option linter.unusedSimpArgs false
set_option linter.unusedVariables false
namespace Go.Proofs.YtppijfjigcoifaaDoor
open Go.RowKit

theorem loadVar_blk {P : Program} {w : World} {g : Nat} {t ty : TypeId} {cs : Array Value} {d : TypeDesc} (h : Blk w g t cs) (hu : P.underlying ty = some d) (hd : (match d with | .struct _ | .array _ _ => true | _ => false) = true) (hi : (P.info? ty).map (·.size) = some cs.size) : (loadVar ty ⟨g, 0, none⟩).run P w = .ok (.agg cs) w := by
  exact run_loadVar_row w g t ty cs (0, 0) d h hu hd hi
theorem results_cell2 {P : Program} {fn : Func} {p u : Tmp} {ty : TypeId} (h : fn.results = #[.cell p ty, .tmp u]) (tmps : Array Value) (w : World) (g : Nat) (t : TypeId) (cs : Array Value) (d : TypeDesc) (hp : tmps.getD p undef = .pointer (some ⟨g, 0, none⟩)) (hb : Blk w g t cs)
    (hu : P.underlying ty = some d) (hd : (match d with | .struct _ | .array _ _ => true | _ => false) = true) (hi : (P.info? ty).map (·.size) = some cs.size) : (results fn tmps).run P w = .ok (.tuple #[.agg cs, tmps.getD u undef]) w := by
  have hp' : tmps[p]?.getD undef = .pointer (some ⟨g, 0, none⟩) := by simpa using hp
  simp [results, h, hp', asAddr, loadVar_blk hb hu hd hi, Sem.run_bind, Result.andThen]
section
variable {w0 w : World} {os : List Ob} {k p cols : Nat} {L : List Ln}
end
end Go.Proofs.YtppijfjigcoifaaDoor

/-
  region: a cursor goes down, and up.
-/
set_option linter.unusedSimpArgs false
set_option linter.unusedVariables false
namespace Go.Proofs.YtppijfjigcoifaaDoor
open Go.RowKit

section
variable {w0 w : World} {os : List Ob} {k p cols : Nat} {L : List Ln}
end
end Go.Proofs.YtppijfjigcoifaaDoor

/-
  region: a cursor goes down, and up, by the reference.
-/
set_option linter.unusedSimpArgs false
set_option linter.unusedVariables false
namespace Go.Proofs.YtppijfjigcoifaaDoor
open Go.RowKit

section
variable {w0 w : World} {os : List Ob} {k p cols : Nat} {L : List Ln}
end
end Go.Proofs.YtppijfjigcoifaaDoor

/-
  A call of the chapter on regions.
-/
set_option linter.unusedSimpArgs false
set_option linter.unusedVariables false
namespace Go.Proofs.YtppijfjigcoifaaDoor
open Go.RowKit

@[go_sem ↓] theorem load_ldR18b (a : Addr) : loadCellsFrom a 0 18 #[] = ldR a 18 := rfl
attribute [go_sem high] eqIn_cursor
structure Act19 where
  what : Int
  n : Int
  top : Int
  bot : Int
  row : Int
  col : Int
  pend : Bool
  q : Pen
def av19 (a : Act19) : Array Value := #[.int .i64 a.what, .int .i64 a.n, .int .i64 a.top, .int .i64 a.bot, .int .i64 a.row, .int .i64 a.col, .bool a.pend, .int .i64 a.q.fk, .int .u8 a.q.fi, .int .u8 a.q.fr, .int .u8 a.q.fg, .int .u8 a.q.fb, .int .i64 a.q.bk, .int .u8 a.q.bi, .int .u8 a.q.br, .int .u8 a.q.bg, .int .u8 a.q.bb, .int .u8 a.q.fl]
@[go_sem] theorem av19_size (a : Act19) : (av19 a).size = 18 := by simp [av19]
@[simp high, go_sem high] theorem av19_get0 (a : Act19) : (av19 a)[0]? = some (.int .i64 a.what) := by simp [av19]
@[simp high, go_sem high] theorem av19_get1 (a : Act19) : (av19 a)[1]? = some (.int .i64 a.n) := by simp [av19]
@[simp high, go_sem high] theorem av19_get2 (a : Act19) : (av19 a)[2]? = some (.int .i64 a.top) := by simp [av19]
@[simp high, go_sem high] theorem av19_get3 (a : Act19) : (av19 a)[3]? = some (.int .i64 a.bot) := by simp [av19]
@[simp high, go_sem high] theorem av19_get4 (a : Act19) : (av19 a)[4]? = some (.int .i64 a.row) := by simp [av19]
@[simp high, go_sem high] theorem av19_get5 (a : Act19) : (av19 a)[5]? = some (.int .i64 a.col) := by simp [av19]
@[simp high, go_sem high] theorem av19_get6 (a : Act19) : (av19 a)[6]? = some (.bool a.pend) := by simp [av19]
@[go_sem] theorem av19_set0 (a : Act19) (n : Int) : (av19 a).setIfInBounds 0 (.int .i64 n) = av19 { a with what := n } := by simp [av19]
@[go_sem] theorem av19_set1 (a : Act19) (n : Int) : (av19 a).setIfInBounds 1 (.int .i64 n) = av19 { a with n := n } := by simp [av19]
end Go.Proofs.YtppijfjigcoifaaDoor
