/-
  The law's does of the chapter on regions.
-/
import Derived.Test.YtghahanpmcpacaaDoorR6
set_option linter.unusedSimpArgs false
set_option linter.unusedVariables false
namespace Go.Proofs.YtghahanpmcpacaaDoor
open Go.RowKit

section
variable {w0 w : World} {os : List Ob} {p x cols : Nat} {L : List Ln}
set_option maxRecDepth 100000 in
set_option maxHeartbeats 16000000 in
theorem l19does3 {wh n top bot row col : Int} {pend : Bool} {q : Pen} (hT : Tabs w0) (hS : Objs w0 w (.grid p 37 cols L :: .grid x 63 cols L :: os)) (hc : 0 < cols) (hcm : cols ≤ 1000) (hR : Rect cols L) (hL : 0 < L.length) (hLm : L.length ≤ 1000) (hnl : -9223372036854775808 ≤ n) (hnm : n ≤ 9223372036854775807) (hw0 : (wh == 0) = false) (hw1 : (wh == 1) = false) (hw2 : (wh == 2) = false) :
    Calls Tryd.prog 26 #[.pointer (some ⟨p, 0, none⟩), .pointer (some ⟨x, 0, none⟩), .agg (av19 ⟨wh, n, top, bot, row, col, pend, q⟩)] w fun e w' => e = .returned (.bool true) ∧ Objs w0 w' (.grid p 37 cols (act19N ⟨wh, n, top, bot, row, col, pend, q⟩ cols L) :: .grid x 63 cols (act19N ⟨wh, n, top, bot, row, col, pend, q⟩ cols L) :: os) := by
  have HT := Lib.hid hT
  have S := Lib.hid hS
  have HR := Lib.hid hR
  have HMILL := Lib.hid (show ∀ l ∈ L, l.1.length ≤ 1000000 from fun l hl => by have := hR l hl; omega)
  have HWC := Lib.hid (show IntKind.i64.wrap ((cols : Int) - 1) = (cols : Int) - 1 from IntWalk.i64_in _ (by omega))
  clear hT hS hR
  cases hin : inG row col pend L.length cols with
  | false =>
    have HIN := Lib.hid hin
    clear hin
    rcases in_cases19 row col pend L.length cols with ⟨d1, HE⟩ | ⟨⟨d1, d2⟩, HE⟩ | ⟨⟨d1, d2⟩, d3, HE⟩ | ⟨⟨d1, d2⟩, ⟨d3, d4⟩, HE⟩ | ⟨⟨d1, d2⟩, ⟨d3, d4⟩, hpd, d5, HE⟩ | ⟨⟨d1, d2⟩, ⟨d3, d4⟩, hpd, d5, HE⟩ | ⟨⟨d1, d2⟩, ⟨d3, d4⟩, hpd, HE⟩
    all_goals (
      first
      | (have h9 := HE.out; rw [HIN.out] at h9; cases h9; done)
      | skip)
    all_goals (
      as_aux_lemma =>
        go_enter Tryd.func26, Tryd.ntmps26
        go_upto_region 1 with (fail)
        refine at_objsC S.out.alloc1 (fun W hW => ?_)
        generalize hb5 : w.heap.size = b5 at hW ⊢
        clear hb5
        obtain ⟨hx, hf, hz, hr, hp⟩ := (hW.box (k := 0) rfl).act19
        have S0 := Lib.hid hW
        clear hW
        go_upto_region 2 with (fail)
        refine at_objsC (S0.out.alloc1 (c1 := #[.int .i64 row, .int .i64 col, .bool pend]) (t1 := 25)) (fun W2 hW => ?_)
        generalize hb7 : W.heap.size = b7 at hW ⊢
        clear hb7 hx hf hz hr hp
        have S1 := Lib.hid hW
        have hwc := HWC.out
        (try have hpv := hpd.out)
        clear hW S0 S
        obtain ⟨hx7, hf7, hz7⟩ := (S1.out.box (k := 0) rfl).facts
        obtain ⟨hx, hf, hz, hr, hp⟩ := (S1.out.box (k := 1) rfl).act19
        obtain ⟨A9, c9, hB9, hmx9, -⟩ := S1.out.gridRd (k := 3) rfl
        obtain ⟨hxx, hfx, hzx⟩ := hB9.facts
        clear hB9 hmx9
        refine wp_region_below (by kernel_rfl) (by kernel_rfl) ?_
        repeat (go_big_quiet_step (fail))
        refine wpQuiet_nil ?_
        intro w2 hb2
        have S2 := Lib.hid (S1.out.bel hb2)
        clear hb2 hwc S1
        (try clear hpv)
        (try clear hpd)
        (try clear d5)
        clear hx7 hf7 hz7 hx hf hz hr hp
        clear hxx hfx hzx
        cases hreg : regB L.length top bot with
        | false =>
          have HREG := Lib.hid hreg
          have HBAD := Lib.hid (show ¬ (regB L.length top bot = true ∧ q.ok = true) from fun h => by rw [hreg] at h; cases h.1)
          have HBADF := Lib.hid (show ¬ fine19 ⟨wh, n, top, bot, row, col, pend, q⟩ L.length = true from fun h => by unfold fine19 at h; simp only [hreg, Bool.false_and] at h; cases h)
          clear hreg
          have HN := Lib.hid (show act19N ⟨wh, n, top, bot, row, col, pend, q⟩ cols L = L by unfold act19N; rw [if_neg (by simpa using hw0), if_neg (by simpa using hw1), if_neg (by simpa using hw2), if_neg (fun h => HBADF.out h.1)])
          go_upto_region 3 with (fail)
          obtain ⟨hx7, hf7, hz7⟩ := (S2.out.box (k := 0) rfl).facts
          obtain ⟨hx, hf, hz, hr, hp⟩ := (S2.out.box (k := 1) rfl).act19
          obtain ⟨A9, c9, hB9, hmx9, -⟩ := S2.out.gridRd (k := 3) rfl
          obtain ⟨hxx, hfx, hzx⟩ := hB9.facts
          clear hB9 hmx9
          have HT3 := Lib.hid (S2.out.tabs HT.out)
          refine wp_region_below (by kernel_rfl) (by kernel_rfl) ?_
          repeat (go_big_quiet_step (first | (go_at_call 27; exact quiet_below (r19Right_is HREG.out _)) | (go_at_call 60; exact quiet_below (r14Blank_any _ _)) | (go_at_call 53; exact quiet_below (cellValid_any _ _ (HT3.out.bel (below_plus _ _))))))
          refine wpQuiet_nil ?_
          intro w3 hb3
          have S3 := Lib.hid (S2.out.bel hb3)
          clear hb3 S2
          clear hx7 hf7 hz7 hx hf hz hr hp
          clear hxx hfx hzx
          obtain ⟨hx7, hf7, hz7⟩ := (S3.out.box (k := 0) rfl).facts
          obtain ⟨hx, hf, hz, hr, hp⟩ := (S3.out.box (k := 1) rfl).act19
          go_wp2_with fail
          refine (Reverse_no q HT.out S3.out (k := 2) rfl hc hcm hL (fun h => HBAD.out ⟨h.1, h.2.2⟩)).mono ?_
          rintro e w4 ⟨rfl, hS⟩
          have S4 := Lib.hid hS
          clear hS S3 hx7 hf7 hz7 hx hf hz hr hp
          go_wp2_with fail
          go_ret
          exact ⟨rfl, by rw [HN.out]; exact S4.out.alloc1.tail.tail.tail⟩
        | true =>
          have HREG := Lib.hid hreg
          cases hq : q.ok with
          | false =>
            have HQ := Lib.hid hq
            have hqb : (blank q).ok = false := by rw [ok_blank]; exact HQ.out
            have HBAD := Lib.hid (show ¬ (regB L.length top bot = true ∧ q.ok = true) from fun h => by rw [hq] at h; cases h.2)
            have HBADF := Lib.hid (show ¬ fine19 ⟨wh, n, top, bot, row, col, pend, q⟩ L.length = true from fun h => by unfold fine19 at h; simp only [hq, Bool.and_false] at h; cases h)
            clear hreg hq
            have HN := Lib.hid (show act19N ⟨wh, n, top, bot, row, col, pend, q⟩ cols L = L by unfold act19N; rw [if_neg (by simpa using hw0), if_neg (by simpa using hw1), if_neg (by simpa using hw2), if_neg (fun h => HBADF.out h.1)])
            go_upto_region 3 with (fail)
            obtain ⟨hx7, hf7, hz7⟩ := (S2.out.box (k := 0) rfl).facts
            obtain ⟨hx, hf, hz, hr, hp⟩ := (S2.out.box (k := 1) rfl).act19
            obtain ⟨A9, c9, hB9, hmx9, -⟩ := S2.out.gridRd (k := 3) rfl
            obtain ⟨hxx, hfx, hzx⟩ := hB9.facts
            clear hB9 hmx9
            have HT3 := Lib.hid (S2.out.tabs HT.out)
            refine wp_region_below (by kernel_rfl) (by kernel_rfl) ?_
            repeat (go_big_quiet_step (first | (go_at_call 27; exact quiet_below (r19Right_is HREG.out _)) | (go_at_call 60; exact quiet_below (r14Blank_any _ _)) | (go_at_call 53; exact quiet_below (cellValid_any _ _ (HT3.out.bel (below_plus _ _))))))
            refine wpQuiet_nil ?_
            intro w3 hb3
            have S3 := Lib.hid (S2.out.bel hb3)
            clear hb3 S2
            clear hx7 hf7 hz7 hx hf hz hr hp
            clear hxx hfx hzx
            clear hqb
            obtain ⟨hx7, hf7, hz7⟩ := (S3.out.box (k := 0) rfl).facts
            obtain ⟨hx, hf, hz, hr, hp⟩ := (S3.out.box (k := 1) rfl).act19
            go_wp2_with fail
            refine (Reverse_no q HT.out S3.out (k := 2) rfl hc hcm hL (fun h => HBAD.out ⟨h.1, h.2.2⟩)).mono ?_
            rintro e w4 ⟨rfl, hS⟩
            have S4 := Lib.hid hS
            clear hS S3 hx7 hf7 hz7 hx hf hz hr hp
            go_wp2_with fail
            go_ret
            exact ⟨rfl, by rw [HN.out]; exact S4.out.alloc1.tail.tail.tail⟩
          | true =>
            have HQ := Lib.hid hq
            have hqb : (blank q).ok = true := by rw [ok_blank]; exact HQ.out
            have HF := Lib.hid (show fine19 ⟨wh, n, top, bot, row, col, pend, q⟩ L.length = true from by unfold fine19; simp only [hreg, hq, Bool.and_self])
            clear hreg hq
            go_upto_region 3 with (fail)
            obtain ⟨hx7, hf7, hz7⟩ := (S2.out.box (k := 0) rfl).facts
            obtain ⟨hx, hf, hz, hr, hp⟩ := (S2.out.box (k := 1) rfl).act19
            obtain ⟨A9, c9, hB9, hmx9, -⟩ := S2.out.gridRd (k := 3) rfl
            obtain ⟨hxx, hfx, hzx⟩ := hB9.facts
            clear hB9 hmx9
            have HT3 := Lib.hid (S2.out.tabs HT.out)
            refine wp_region_below (by kernel_rfl) (by kernel_rfl) ?_
            repeat (go_big_quiet_step (first | (go_at_call 27; exact quiet_below (r19Right_is HREG.out _)) | (go_at_call 60; exact quiet_below (r14Blank_any _ _)) | (go_at_call 53; exact quiet_below (cellValid_any _ _ (HT3.out.bel (below_plus _ _))))))
            refine wpQuiet_nil ?_
            intro w3 hb3
            have S3 := Lib.hid (S2.out.bel hb3)
            clear hb3 S2
            clear hx7 hf7 hz7 hx hf hz hr hp
            clear hxx hfx hzx
            clear hqb
            have HN := Lib.hid (show act19N ⟨wh, n, top, bot, row, col, pend, q⟩ cols L = L by unfold act19N; rw [if_neg (by simpa using hw0), if_neg (by simpa using hw1), if_neg (by simpa using hw2), if_neg (fun h => by have h1 := h.2; rw [HIN.out] at h1; cases h1)])
            obtain ⟨hx7, hf7, hz7⟩ := (S3.out.box (k := 0) rfl).facts
            obtain ⟨hx, hf, hz, hr, hp⟩ := (S3.out.box (k := 1) rfl).act19
            go_wp2_with fail
            refine (Reverse_no q HT.out S3.out (k := 2) rfl hc hcm hL (fun h => by have h1 := h.2.1; rw [HIN.out] at h1; cases h1)).mono ?_
            rintro e w4 ⟨rfl, hS⟩
            have S4 := Lib.hid hS
            clear hS S3 hx7 hf7 hz7 hx hf hz hr hp
            go_wp2_with fail
            go_ret
            exact ⟨rfl, by rw [HN.out]; exact S4.out.alloc1.tail.tail.tail⟩)
  | true =>
    have HIN := Lib.hid hin
    clear hin
    rcases in_cases19 row col pend L.length cols with ⟨d1, HE⟩ | ⟨⟨d1, d2⟩, HE⟩ | ⟨⟨d1, d2⟩, d3, HE⟩ | ⟨⟨d1, d2⟩, ⟨d3, d4⟩, HE⟩ | ⟨⟨d1, d2⟩, ⟨d3, d4⟩, hpd, d5, HE⟩ | ⟨⟨d1, d2⟩, ⟨d3, d4⟩, hpd, d5, HE⟩ | ⟨⟨d1, d2⟩, ⟨d3, d4⟩, hpd, HE⟩
    all_goals (
      first
      | (have h9 := HE.out; rw [HIN.out] at h9; cases h9; done)
      | skip)
    all_goals (
      as_aux_lemma =>
        go_enter Tryd.func26, Tryd.ntmps26
        go_upto_region 1 with (fail)
        refine at_objsC S.out.alloc1 (fun W hW => ?_)
        generalize hb5 : w.heap.size = b5 at hW ⊢
        clear hb5
        obtain ⟨hx, hf, hz, hr, hp⟩ := (hW.box (k := 0) rfl).act19
        have S0 := Lib.hid hW
        clear hW
        go_upto_region 2 with (fail)
        refine at_objsC (S0.out.alloc1 (c1 := #[.int .i64 row, .int .i64 col, .bool pend]) (t1 := 25)) (fun W2 hW => ?_)
        generalize hb7 : W.heap.size = b7 at hW ⊢
        clear hb7 hx hf hz hr hp
        have S1 := Lib.hid hW
        have hwc := HWC.out
        (try have hpv := hpd.out)
        clear hW S0 S
        obtain ⟨hx7, hf7, hz7⟩ := (S1.out.box (k := 0) rfl).facts
        obtain ⟨hx, hf, hz, hr, hp⟩ := (S1.out.box (k := 1) rfl).act19
        obtain ⟨A9, c9, hB9, hmx9, -⟩ := S1.out.gridRd (k := 3) rfl
        obtain ⟨hxx, hfx, hzx⟩ := hB9.facts
        clear hB9 hmx9
        refine wp_region_below (by kernel_rfl) (by kernel_rfl) ?_
        repeat (go_big_quiet_step (fail))
        refine wpQuiet_nil ?_
        intro w2 hb2
        have S2 := Lib.hid (S1.out.bel hb2)
        clear hb2 hwc S1
        (try clear hpv)
        (try clear hpd)
        (try clear d5)
        clear hx7 hf7 hz7 hx hf hz hr hp
        clear hxx hfx hzx
        cases hreg : regB L.length top bot with
        | false =>
          have HREG := Lib.hid hreg
          have HBAD := Lib.hid (show ¬ (regB L.length top bot = true ∧ q.ok = true) from fun h => by rw [hreg] at h; cases h.1)
          have HBADF := Lib.hid (show ¬ fine19 ⟨wh, n, top, bot, row, col, pend, q⟩ L.length = true from fun h => by unfold fine19 at h; simp only [hreg, Bool.false_and] at h; cases h)
          clear hreg
          have HN := Lib.hid (show act19N ⟨wh, n, top, bot, row, col, pend, q⟩ cols L = L by unfold act19N; rw [if_neg (by simpa using hw0), if_neg (by simpa using hw1), if_neg (by simpa using hw2), if_neg (fun h => HBADF.out h.1)])
          go_upto_region 3 with (fail)
          obtain ⟨hx7, hf7, hz7⟩ := (S2.out.box (k := 0) rfl).facts
          obtain ⟨hx, hf, hz, hr, hp⟩ := (S2.out.box (k := 1) rfl).act19
          obtain ⟨A9, c9, hB9, hmx9, -⟩ := S2.out.gridRd (k := 3) rfl
          obtain ⟨hxx, hfx, hzx⟩ := hB9.facts
          clear hB9 hmx9
          have HT3 := Lib.hid (S2.out.tabs HT.out)
          refine wp_region_below (by kernel_rfl) (by kernel_rfl) ?_
          repeat (go_big_quiet_step (first | (go_at_call 27; exact quiet_below (r19Right_is HREG.out _)) | (go_at_call 60; exact quiet_below (r14Blank_any _ _)) | (go_at_call 53; exact quiet_below (cellValid_any _ _ (HT3.out.bel (below_plus _ _))))))
          refine wpQuiet_nil ?_
          intro w3 hb3
          have S3 := Lib.hid (S2.out.bel hb3)
          clear hb3 S2
          clear hx7 hf7 hz7 hx hf hz hr hp
          clear hxx hfx hzx
          obtain ⟨hx7, hf7, hz7⟩ := (S3.out.box (k := 0) rfl).facts
          obtain ⟨hx, hf, hz, hr, hp⟩ := (S3.out.box (k := 1) rfl).act19
          go_wp2_with fail
          refine (Reverse_no q HT.out S3.out (k := 2) rfl hc hcm hL (fun h => HBAD.out ⟨h.1, h.2.2⟩)).mono ?_
          rintro e w4 ⟨rfl, hS⟩
          have S4 := Lib.hid hS
          clear hS S3 hx7 hf7 hz7 hx hf hz hr hp
          go_wp2_with fail
          go_ret
          exact ⟨rfl, by rw [HN.out]; exact S4.out.alloc1.tail.tail.tail⟩
        | true =>
          have HREG := Lib.hid hreg
          cases hq : q.ok with
          | false =>
            have HQ := Lib.hid hq
            have hqb : (blank q).ok = false := by rw [ok_blank]; exact HQ.out
            have HBAD := Lib.hid (show ¬ (regB L.length top bot = true ∧ q.ok = true) from fun h => by rw [hq] at h; cases h.2)
            have HBADF := Lib.hid (show ¬ fine19 ⟨wh, n, top, bot, row, col, pend, q⟩ L.length = true from fun h => by unfold fine19 at h; simp only [hq, Bool.and_false] at h; cases h)
            clear hreg hq
            have HN := Lib.hid (show act19N ⟨wh, n, top, bot, row, col, pend, q⟩ cols L = L by unfold act19N; rw [if_neg (by simpa using hw0), if_neg (by simpa using hw1), if_neg (by simpa using hw2), if_neg (fun h => HBADF.out h.1)])
            go_upto_region 3 with (fail)
            obtain ⟨hx7, hf7, hz7⟩ := (S2.out.box (k := 0) rfl).facts
            obtain ⟨hx, hf, hz, hr, hp⟩ := (S2.out.box (k := 1) rfl).act19
            obtain ⟨A9, c9, hB9, hmx9, -⟩ := S2.out.gridRd (k := 3) rfl
            obtain ⟨hxx, hfx, hzx⟩ := hB9.facts
            clear hB9 hmx9
            have HT3 := Lib.hid (S2.out.tabs HT.out)
            refine wp_region_below (by kernel_rfl) (by kernel_rfl) ?_
            repeat (go_big_quiet_step (first | (go_at_call 27; exact quiet_below (r19Right_is HREG.out _)) | (go_at_call 60; exact quiet_below (r14Blank_any _ _)) | (go_at_call 53; exact quiet_below (cellValid_any _ _ (HT3.out.bel (below_plus _ _))))))
            refine wpQuiet_nil ?_
            intro w3 hb3
            have S3 := Lib.hid (S2.out.bel hb3)
            clear hb3 S2
            clear hx7 hf7 hz7 hx hf hz hr hp
            clear hxx hfx hzx
            clear hqb
            obtain ⟨hx7, hf7, hz7⟩ := (S3.out.box (k := 0) rfl).facts
            obtain ⟨hx, hf, hz, hr, hp⟩ := (S3.out.box (k := 1) rfl).act19
            go_wp2_with fail
            refine (Reverse_no q HT.out S3.out (k := 2) rfl hc hcm hL (fun h => HBAD.out ⟨h.1, h.2.2⟩)).mono ?_
            rintro e w4 ⟨rfl, hS⟩
            have S4 := Lib.hid hS
            clear hS S3 hx7 hf7 hz7 hx hf hz hr hp
            go_wp2_with fail
            go_ret
            exact ⟨rfl, by rw [HN.out]; exact S4.out.alloc1.tail.tail.tail⟩
          | true =>
            have HQ := Lib.hid hq
            have hqb : (blank q).ok = true := by rw [ok_blank]; exact HQ.out
            have HF := Lib.hid (show fine19 ⟨wh, n, top, bot, row, col, pend, q⟩ L.length = true from by unfold fine19; simp only [hreg, hq, Bool.and_self])
            clear hreg hq
            go_upto_region 3 with (fail)
            obtain ⟨hx7, hf7, hz7⟩ := (S2.out.box (k := 0) rfl).facts
            obtain ⟨hx, hf, hz, hr, hp⟩ := (S2.out.box (k := 1) rfl).act19
            obtain ⟨A9, c9, hB9, hmx9, -⟩ := S2.out.gridRd (k := 3) rfl
            obtain ⟨hxx, hfx, hzx⟩ := hB9.facts
            clear hB9 hmx9
            have HT3 := Lib.hid (S2.out.tabs HT.out)
            refine wp_region_below (by kernel_rfl) (by kernel_rfl) ?_
            repeat (go_big_quiet_step (first | (go_at_call 27; exact quiet_below (r19Right_is HREG.out _)) | (go_at_call 60; exact quiet_below (r14Blank_any _ _)) | (go_at_call 53; exact quiet_below (cellValid_any _ _ (HT3.out.bel (below_plus _ _))))))
            refine wpQuiet_nil ?_
            intro w3 hb3
            have S3 := Lib.hid (S2.out.bel hb3)
            clear hb3 S2
            clear hx7 hf7 hz7 hx hf hz hr hp
            clear hxx hfx hzx
            clear hqb
            obtain ⟨top, bot, rfl, rfl, htb, hbl⟩ := regB_nat HREG.out
            have hing := ingrid_iff.1 HIN.out
            obtain ⟨row, rfl⟩ : ∃ y : Nat, row = y := ⟨row.toNat, by omega⟩
            obtain ⟨col, rfl⟩ : ∃ y : Nat, col = y := ⟨col.toNat, by omega⟩
            have hrow : row < L.length := by omega
            clear hing
            have HN := Lib.hid (show act19N ⟨wh, n, top, bot, row, col, pend, q⟩ cols L = rvL top bot row q cols L by unfold act19N; rw [if_neg (by simpa using hw0), if_neg (by simpa using hw1), if_neg (by simpa using hw2), if_pos ⟨HF.out, HIN.out⟩]; rfl)
            obtain ⟨hx7, hf7, hz7⟩ := (S3.out.box (k := 0) rfl).facts
            obtain ⟨hx, hf, hz, hr, hp⟩ := (S3.out.box (k := 1) rfl).act19
            go_wp2_with fail
            refine (Reverse_yes q HT.out S3.out (k := 2) rfl hcm hLm htb hbl HQ.out HIN.out).mono ?_
            rintro e w4 ⟨rfl, hS⟩
            have S4 := Lib.hid hS
            clear hS S3 hx7 hf7 hz7 hx hf hz hr hp
            go_upto_region 25 with (fail)
            refine at_objsC (S4.out.alloc1 (c1 := #[.int .i64 (rvRow top row : Nat), .int .i64 col, .bool false]) (t1 := 25)) (fun W5 hW => ?_)
            generalize hb18 : w4.heap.size = b18 at hW ⊢
            clear hb18 S4
            have SZ := Lib.hid (show Objs w0 W5 (.box b18 25 #[.int .i64 ↑(rvRow top row), .int .i64 ↑col, .bool false] :: .box b7 25 #[.int .i64 ↑row, .int .i64 ↑col, .bool pend] :: .box b5 33 (av19 ⟨wh, n, ↑top, ↑bot, ↑row, ↑col, pend, q⟩) :: .grid p 37 ↑cols (rvL top bot row q cols L) :: .grid x 63 ↑cols L :: os) from hW) 
            clear hW
            refine wp_region_stage (w0 := w0) (os := os) (by kernel_rfl) (by kernel_rfl) (by kernel_rfl) [(4, 7, [], fun vs => .grid x 63 ↑cols (rvL top bot row q cols L))] [[0], [], [], [2], [1], [], [2], [4], [], [], [], [], [], []] [.box b18 25 #[.int .i64 ↑(rvRow top row), .int .i64 ↑col, .bool false], .box b7 25 #[.int .i64 ↑row, .int .i64 ↑col, .bool pend], .box b5 33 (av19 ⟨wh, n, ↑top, ↑bot, ↑row, ↑col, pend, q⟩), .grid p 37 ↑cols (rvL top bot row q cols L), .grid x 63 ↑cols L] (fun i u => match i with | 0 => u = (.agg #[.int .i64 ↑(rvRow top row), .int .i64 ↑col, .bool false] : Value) | 1 => u = (.pointer (some ⟨x, 0, none⟩) : Value) | 2 => u = (.pointer (some ⟨b5, 2, none⟩) : Value) | 3 => u = (.agg #[.int .i64 ↑top, .int .i64 ↑bot] : Value) | 4 => u = (.agg #[.int .i64 ↑row, .int .i64 ↑col, .bool pend] : Value) | 5 => u = (.pointer (some ⟨b5, 7, none⟩) : Value) | 6 => u = (.agg (pv q) : Value) | 7 => u = (.agg #[.int .i64 ↑(rvRow top row), .int .i64 ↑col, .bool false] : Value) | 8 => u = (.bool true : Value) | 9 => u = (.bool true : Value) | 10 => u = (.int .i64 0 : Value) | 11 => u = (.bool true : Value) | 12 => u = (.bool true : Value) | 13 => u = (.bool true : Value) | _ => True) (fun vs => [.box b18 25 #[.int .i64 ↑(rvRow top row), .int .i64 ↑col, .bool false], .box b7 25 #[.int .i64 ↑row, .int .i64 ↑col, .bool pend], .box b5 33 (av19 ⟨wh, n, ↑top, ↑bot, ↑row, ↑col, pend, q⟩), .grid p 37 ↑cols (rvL top bot row q cols L), .grid x 63 ↑cols (rvL top bot row q cols L)]) (by kernel_rfl) (fun vs => by rfl) SZ.out ?_ ?_
            · refine SSteps.cons (fun a w' vs σ hS hl hs hk => ?_) ?_
              · have e18 : a.tmps.getD 18 undef = (.pointer (some ⟨b18, 0, none⟩) : Value) := (sk_old hk 18 (by kernel_rfl)).trans rfl
                have f18 := gd e18
                have hx := (hS.box (sg (hs 0 (by decide)))).cell
                exact ro_pure (v := .agg #[.int .i64 ↑(rvRow top row), .int .i64 ↑col, .bool false]) (wanted_none rfl) (by simp [execOp, Act.eval, e18, f18, go_sem, hx]) (sp_same (by kernel_rfl) hl hs hS (show (.agg #[.int .i64 ↑(rvRow top row), .int .i64 ↑col, .bool false] : Value) = _ from rfl)) trivial
              refine SSteps.cons (fun a w' vs σ hS hl hs hk => ?_) ?_
              · have e1 : a.tmps.getD 1 undef = (.pointer (some ⟨x, 0, none⟩) : Value) := (sk_old hk 1 (by kernel_rfl)).trans rfl
                have f1 := gd e1
                exact ro_pure (v := .pointer (some ⟨x, 0, none⟩)) (wanted_none rfl) (by simp [execOp, Act.eval, e1, f1, go_sem]) (sp_same (by kernel_rfl) hl hs hS (show (.pointer (some ⟨x, 0, none⟩) : Value) = _ from rfl)) trivial
              refine SSteps.cons (fun a w' vs σ hS hl hs hk => ?_) ?_
              · have e5 : a.tmps.getD 5 undef = (.pointer (some ⟨b5, 0, none⟩) : Value) := (sk_old hk 5 (by kernel_rfl)).trans rfl
                have f5 := gd e5
                exact ro_pure (v := .pointer (some ⟨b5, 2, none⟩)) (wanted_none rfl) (by simp [execOp, Act.eval, e5, f5, go_sem]) (sp_same (by kernel_rfl) hl hs hS (show (.pointer (some ⟨b5, 2, none⟩) : Value) = _ from rfl)) trivial
              refine SSteps.cons (fun a w' vs σ hS hl hs hk => ?_) ?_
              · have e229 : a.tmps.getD 229 undef = (.pointer (some ⟨b5, 2, none⟩) : Value) := (sk_val hk 2 (by kernel_rfl) rfl rfl).trans ((hk.1 2 (by kernel_rfl)).1)
                have f229 := gd e229
                have hx := (hS.box (sg (hs 2 (by decide)))).cell
                exact ro_pure (v := .agg #[.int .i64 ↑top, .int .i64 ↑bot]) (wanted_none rfl) (by simp [execOp, Act.eval, e229, f229, go_sem, hx]) (sp_same (by kernel_rfl) hl hs hS (show (.agg #[.int .i64 ↑top, .int .i64 ↑bot] : Value) = _ from rfl)) trivial
              refine SSteps.cons (fun a w' vs σ hS hl hs hk => ?_) ?_
              · have e7 : a.tmps.getD 7 undef = (.pointer (some ⟨b7, 0, none⟩) : Value) := (sk_old hk 7 (by kernel_rfl)).trans rfl
                have f7 := gd e7
                have hx := (hS.box (sg (hs 1 (by decide)))).cell
                exact ro_pure (v := .agg #[.int .i64 ↑row, .int .i64 ↑col, .bool pend]) (wanted_none rfl) (by simp [execOp, Act.eval, e7, f7, go_sem, hx]) (sp_same (by kernel_rfl) hl hs hS (show (.agg #[.int .i64 ↑row, .int .i64 ↑col, .bool pend] : Value) = _ from rfl)) trivial
              refine SSteps.cons (fun a w' vs σ hS hl hs hk => ?_) ?_
              · have e5 : a.tmps.getD 5 undef = (.pointer (some ⟨b5, 0, none⟩) : Value) := (sk_old hk 5 (by kernel_rfl)).trans rfl
                have f5 := gd e5
                exact ro_pure (v := .pointer (some ⟨b5, 7, none⟩)) (wanted_none rfl) (by simp [execOp, Act.eval, e5, f5, go_sem]) (sp_same (by kernel_rfl) hl hs hS (show (.pointer (some ⟨b5, 7, none⟩) : Value) = _ from rfl)) trivial
              refine SSteps.cons (fun a w' vs σ hS hl hs hk => ?_) ?_
              · have e232 : a.tmps.getD 232 undef = (.pointer (some ⟨b5, 7, none⟩) : Value) := (sk_val hk 5 (by kernel_rfl) rfl rfl).trans ((hk.1 5 (by kernel_rfl)).1)
                have f232 := gd e232
                obtain ⟨-, -, -, -, hx⟩ := (hS.box (sg (hs 2 (by decide)))).act19
                exact ro_pure (v := .agg (pv q)) (wanted_none rfl) (by simp [execOp, Act.eval, e232, f232, go_sem, hx]) (sp_same (by kernel_rfl) hl hs hS (show (.agg (pv q) : Value) = _ from rfl)) trivial
              refine SSteps.cons (fun a w' vs σ hS hl hs hk => ?_) ?_
              · have e228 : a.tmps.getD 228 undef = (.pointer (some ⟨x, 0, none⟩) : Value) := (sk_val hk 1 (by kernel_rfl) rfl rfl).trans ((hk.1 1 (by kernel_rfl)).1)
                have f228 := gd e228
                have e230 : a.tmps.getD 230 undef = (.agg #[.int .i64 ↑top, .int .i64 ↑bot] : Value) := (sk_val hk 3 (by kernel_rfl) rfl rfl).trans ((hk.1 3 (by kernel_rfl)).1)
                have f230 := gd e230
                have e231 : a.tmps.getD 231 undef = (.agg #[.int .i64 ↑row, .int .i64 ↑col, .bool pend] : Value) := (sk_val hk 4 (by kernel_rfl) rfl rfl).trans ((hk.1 4 (by kernel_rfl)).1)
                have f231 := gd e231
                have e233 : a.tmps.getD 233 undef = (.agg (pv q) : Value) := (sk_val hk 6 (by kernel_rfl) rfl rfl).trans ((hk.1 6 (by kernel_rfl)).1)
                have f233 := gd e233
                have h4 : σ[4]? = some (.grid x 63 ↑cols L) := hs 4 (by decide)
                exact ro_call (f := 29) (wanted_none rfl) rfl (by simp only [List.map_toArray, List.map_cons, List.map_nil, Act.eval, e228, e230, e231, e233] <;> rfl) (fun _ _ => by kernel_rfl) ((front_call hS (sg h4) (fun os1 h => r19Reverse_any (row := row) (col := col) (pend := pend) q h (k := 0) rfl hcm hLm HR.out htb hbl hrow)).mono fun e w2 ⟨h1, h2⟩ => ⟨_, h1, sp_set 4 _ (by kernel_rfl) (by simp) (by decide) hl hs (by rfl) h2 rfl, trivial⟩)
              refine SSteps.cons (fun a w' vs σ hS hl hs hk => ?_) ?_
              · have e227 : a.tmps.getD 227 undef = (.agg #[.int .i64 ↑(rvRow top row), .int .i64 ↑col, .bool false] : Value) := (sk_val hk 0 (by kernel_rfl) rfl rfl).trans ((hk.1 0 (by kernel_rfl)).1)
                have f227 := gd e227
                have e234 : a.tmps.getD 234 undef = (.agg #[.int .i64 ↑(rvRow top row), .int .i64 ↑col, .bool false] : Value) := (sk_val hk 7 (by kernel_rfl) rfl rfl).trans ((hk.1 7 (by kernel_rfl)).1)
                have f234 := gd e234
                exact ro_pure (v := .bool true) (wanted_none rfl) (by simp [execOp, Act.eval, e227, f227, e234, f234, go_sem]) (sp_same (by kernel_rfl) hl hs hS (show (.bool true : Value) = _ from rfl)) trivial
              refine SSteps.cons (fun a w' vs σ hS hl hs hk => ?_) ?_
              · have e235 : a.tmps.getD 235 undef = (.bool true : Value) := (sk_val hk 8 (by kernel_rfl) rfl rfl).trans ((hk.1 8 (by kernel_rfl)).1)
                have f235 := gd e235
                exact ro_pure (v := .bool true) (wanted_none rfl) (by simp [execOp, Act.eval, e235, f235, go_sem]) (sp_same (by kernel_rfl) hl hs hS (show (.bool true : Value) = _ from rfl)) trivial
              refine SSteps.cons (fun a w' vs σ hS hl hs hk => ?_) ?_
              · have e19 : a.tmps.getD 19 undef = (.int .i64 0 : Value) := (sk_old hk 19 (by kernel_rfl)).trans rfl
                have f19 := gd e19
                exact ro_pure (v := .int .i64 0) (wanted_yes rfl rfl rfl (show _ = _ from (sk_val hk 9 (by kernel_rfl) rfl rfl).trans ((hk.1 9 (by kernel_rfl)).1))) (by simp [execOp, Act.eval, e19, f19, go_sem]) (sp_same (by kernel_rfl) hl hs hS (show (.int .i64 0 : Value) = _ from rfl)) trivial
              refine SSteps.cons (fun a w' vs σ hS hl hs hk => ?_) ?_
              · have e237 : a.tmps.getD 237 undef = (.int .i64 0 : Value) := (sk_val hk 10 (by kernel_rfl) rfl rfl).trans ((hk.1 10 (by kernel_rfl)).1)
                have f237 := gd e237
                exact ro_pure (v := .bool true) (wanted_yes rfl rfl rfl (show _ = _ from (sk_val hk 9 (by kernel_rfl) rfl rfl).trans ((hk.1 9 (by kernel_rfl)).1))) (by simp [execOp, Act.eval, e237, f237, go_sem]) (sp_same (by kernel_rfl) hl hs hS (show (.bool true : Value) = _ from rfl)) trivial
              refine SSteps.cons (fun a w' vs σ hS hl hs hk => ?_) ?_
              · have e236 : a.tmps.getD 236 undef = (.bool true : Value) := (sk_val hk 9 (by kernel_rfl) rfl rfl).trans ((hk.1 9 (by kernel_rfl)).1)
                have f236 := gd e236
                have e238 : a.tmps.getD 238 undef = (.bool true : Value) := (sk_val hk 11 (by kernel_rfl) rfl rfl).trans ((hk.1 11 (by kernel_rfl)).1)
                have f238 := gd e238
                exact ro_pure (v := .bool true) (wanted_none rfl) (by simp [execOp, Act.eval, e236, f236, e238, f238, go_sem]) (sp_same (by kernel_rfl) hl hs hS (show (.bool true : Value) = _ from rfl)) trivial
              refine SSteps.cons (fun a w' vs σ hS hl hs hk => ?_) ?_
              · have e239 : a.tmps.getD 239 undef = (.bool true : Value) := (sk_val hk 12 (by kernel_rfl) rfl rfl).trans ((hk.1 12 (by kernel_rfl)).1)
                have f239 := gd e239
                exact ro_pure (v := .bool true) (wanted_none rfl) (by simp [execOp, Act.eval, e239, f239, go_sem]) (sp_same (by kernel_rfl) hl hs hS (show (.bool true : Value) = _ from rfl)) trivial
              exact SSteps.nil
            · intro vs w' hS hv
              have q0 := (show vs 0 = (.agg #[.int .i64 ↑(rvRow top row), .int .i64 ↑col, .bool false] : Value) from hv 0 (by decide))
              have q1 := (show vs 1 = (.pointer (some ⟨x, 0, none⟩) : Value) from hv 1 (by decide))
              have q2 := (show vs 2 = (.pointer (some ⟨b5, 2, none⟩) : Value) from hv 2 (by decide))
              have q3 := (show vs 3 = (.agg #[.int .i64 ↑top, .int .i64 ↑bot] : Value) from hv 3 (by decide))
              have q4 := (show vs 4 = (.agg #[.int .i64 ↑row, .int .i64 ↑col, .bool pend] : Value) from hv 4 (by decide))
              have q5 := (show vs 5 = (.pointer (some ⟨b5, 7, none⟩) : Value) from hv 5 (by decide))
              have q6 := (show vs 6 = (.agg (pv q) : Value) from hv 6 (by decide))
              have q7 := (show vs 7 = (.agg #[.int .i64 ↑(rvRow top row), .int .i64 ↑col, .bool false] : Value) from hv 7 (by decide))
              have q8 := (show vs 8 = (.bool true : Value) from hv 8 (by decide))
              have q9 := (show vs 9 = (.bool true : Value) from hv 9 (by decide))
              have q10 := (show vs 10 = (.int .i64 0 : Value) from hv 10 (by decide))
              have q11 := (show vs 11 = (.bool true : Value) from hv 11 (by decide))
              have q12 := (show vs 12 = (.bool true : Value) from hv 12 (by decide))
              have q13 := (show vs 13 = (.bool true : Value) from hv 13 (by decide))
              have S2 := Lib.hid hS
              simp only [putL, Act.put, Nat.zero_add, Nat.reduceAdd, List.setIfInBounds_toArray, List.set_cons_succ, List.set_cons_zero, q0, q1, q2, q3, q4, q5, q6, q7, q8, q9, q10, q11, q12, q13]
              clear hS hv q0 q1 q2 q3 q4 q5 q6 q7 q8 q9 q10 q11 q12 q13
              have S6 := S2
              clear S2
              go_wp2_with fail
              go_ret
              exact ⟨rfl, by rw [HN.out]; exact S6.out.tail.tail.tail⟩)
end
end Go.Proofs.YtghahanpmcpacaaDoor
