/-
  The law's does of the chapter on regions.
-/
import Derived.Test.YtghahanpmcpacaaDoorR6
set_option linter.unusedSimpArgs false
set_option linter.unusedVariables false
namespace Go.Proofs.YtghahanpmcpacaaDoor
open Go.RowKit

section
variable {w0 w : World} {os : List Ob} {p x cols : Nat} {L : List Ln}
set_option maxRecDepth 100000 in
set_option maxHeartbeats 16000000 in
theorem l19does1 {n top bot row col : Int} {pend : Bool} {q : Pen} (hT : Tabs w0) (hS : Objs w0 w (.grid p 37 cols L :: .grid x 63 cols L :: os)) (hc : 0 < cols) (hcm : cols ≤ 1000) (hR : Rect cols L) (hL : 0 < L.length) (hLm : L.length ≤ 1000) (hnl : -9223372036854775808 ≤ n) (hnm : n ≤ 9223372036854775807) :
    Calls Tryd.prog 26 #[.pointer (some ⟨p, 0, none⟩), .pointer (some ⟨x, 0, none⟩), .agg (av19 ⟨1, n, top, bot, row, col, pend, q⟩)] w fun e w' => e = .returned (.bool true) ∧ Objs w0 w' (.grid p 37 cols (act19N ⟨1, n, top, bot, row, col, pend, q⟩ cols L) :: .grid x 63 cols (act19N ⟨1, n, top, bot, row, col, pend, q⟩ cols L) :: os) := by
  have HT := Lib.hid hT
  have S := Lib.hid hS
  have HR := Lib.hid hR
  have HMILL := Lib.hid (show ∀ l ∈ L, l.1.length ≤ 1000000 from fun l hl => by have := hR l hl; omega)
  have HWC := Lib.hid (show IntKind.i64.wrap ((cols : Int) - 1) = (cols : Int) - 1 from IntWalk.i64_in _ (by omega))
  clear hT hS hR
  rcases in_cases19 row col pend L.length cols with ⟨d1, HE⟩ | ⟨⟨d1, d2⟩, HE⟩ | ⟨⟨d1, d2⟩, d3, HE⟩ | ⟨⟨d1, d2⟩, ⟨d3, d4⟩, HE⟩ | ⟨⟨d1, d2⟩, ⟨d3, d4⟩, hpd, d5, HE⟩ | ⟨⟨d1, d2⟩, ⟨d3, d4⟩, hpd, d5, HE⟩ | ⟨⟨d1, d2⟩, ⟨d3, d4⟩, hpd, HE⟩
  all_goals (
    as_aux_lemma =>
      go_enter Tryd.func26, Tryd.ntmps26
      go_upto_region 1 with (fail)
      refine at_objsC S.out.alloc1 (fun W hW => ?_)
      generalize hb5 : w.heap.size = b5 at hW ⊢
      clear hb5
      obtain ⟨hx, hf, hz, hr, hp⟩ := (hW.box (k := 0) rfl).act19
      have S0 := Lib.hid hW
      clear hW
      go_upto_region 2 with (fail)
      refine at_objsC (S0.out.alloc1 (c1 := #[.int .i64 row, .int .i64 col, .bool pend]) (t1 := 25)) (fun W2 hW => ?_)
      generalize hb7 : W.heap.size = b7 at hW ⊢
      clear hb7 hx hf hz hr hp
      have S1 := Lib.hid hW
      have hwc := HWC.out
      (try have hpv := hpd.out)
      clear hW S0 S
      obtain ⟨hx7, hf7, hz7⟩ := (S1.out.box (k := 0) rfl).facts
      obtain ⟨hx, hf, hz, hr, hp⟩ := (S1.out.box (k := 1) rfl).act19
      obtain ⟨A9, c9, hB9, hmx9, -⟩ := S1.out.gridRd (k := 3) rfl
      obtain ⟨hxx, hfx, hzx⟩ := hB9.facts
      clear hB9 hmx9
      refine wp_region_below (by kernel_rfl) (by kernel_rfl) ?_
      repeat (go_big_quiet_step (fail))
      refine wpQuiet_nil ?_
      intro w2 hb2
      have S2 := Lib.hid (S1.out.bel hb2)
      clear hb2 hwc S1
      (try clear hpv)
      (try clear hpd)
      (try clear d5)
      clear hx7 hf7 hz7 hx hf hz hr hp
      clear hxx hfx hzx
      cases hreg : regB L.length top bot with
      | false =>
        have HREG := Lib.hid hreg
        have HBAD := Lib.hid (show ¬ (regB L.length top bot = true ∧ q.ok = true) from fun h => by rw [hreg] at h; cases h.1)
        have HBADF := Lib.hid (show ¬ fine19 ⟨1, n, top, bot, row, col, pend, q⟩ L.length = true from fun h => by unfold fine19 at h; simp only [hreg, Bool.false_and] at h; cases h)
        clear hreg
        have HN := Lib.hid (show act19N ⟨1, n, top, bot, row, col, pend, q⟩ cols L = L by unfold act19N; rw [if_neg (show ¬ ((1 : Int) = 0) by decide), if_pos rfl, if_neg (fun h => HBADF.out h.1)])
        go_upto_region 3 with (fail)
        obtain ⟨hx7, hf7, hz7⟩ := (S2.out.box (k := 0) rfl).facts
        obtain ⟨hx, hf, hz, hr, hp⟩ := (S2.out.box (k := 1) rfl).act19
        obtain ⟨A9, c9, hB9, hmx9, -⟩ := S2.out.gridRd (k := 3) rfl
        obtain ⟨hxx, hfx, hzx⟩ := hB9.facts
        clear hB9 hmx9
        have HT3 := Lib.hid (S2.out.tabs HT.out)
        refine wp_region_below (by kernel_rfl) (by kernel_rfl) ?_
        repeat (go_big_quiet_step (first | (go_at_call 27; exact quiet_below (r19Right_is HREG.out _)) | (go_at_call 60; exact quiet_below (r14Blank_any _ _)) | (go_at_call 53; exact quiet_below (cellValid_any _ _ (HT3.out.bel (below_plus _ _))))))
        refine wpQuiet_nil ?_
        intro w3 hb3
        have S3 := Lib.hid (S2.out.bel hb3)
        clear hb3 S2
        clear hx7 hf7 hz7 hx hf hz hr hp
        clear hxx hfx hzx
        obtain ⟨hx7, hf7, hz7⟩ := (S3.out.box (k := 0) rfl).facts
        obtain ⟨hx, hf, hz, hr, hp⟩ := (S3.out.box (k := 1) rfl).act19
        go_wp2_with fail
        refine (Down_no q HT.out S3.out (k := 2) rfl hc hL (fun h => HBAD.out ⟨h.1, h.2.2⟩) hnm).mono ?_
        rintro e w4 ⟨rfl, hS⟩
        have S4 := Lib.hid hS
        clear hS S3 hx7 hf7 hz7 hx hf hz hr hp
        obtain ⟨hx7, hf7, hz7⟩ := (S4.out.box (k := 0) rfl).facts
        obtain ⟨hx, hf, hz, hr, hp⟩ := (S4.out.box (k := 1) rfl).act19
        go_wp2_with fail
        go_ret
        exact ⟨rfl, by rw [HN.out]; exact S4.out.tail.tail⟩
      | true =>
        have HREG := Lib.hid hreg
        cases hq : q.ok with
        | false =>
          have HQ := Lib.hid hq
          have hqb : (blank q).ok = false := by rw [ok_blank]; exact HQ.out
          have HBAD := Lib.hid (show ¬ (regB L.length top bot = true ∧ q.ok = true) from fun h => by rw [hq] at h; cases h.2)
          have HBADF := Lib.hid (show ¬ fine19 ⟨1, n, top, bot, row, col, pend, q⟩ L.length = true from fun h => by unfold fine19 at h; simp only [hq, Bool.and_false] at h; cases h)
          clear hreg hq
          have HN := Lib.hid (show act19N ⟨1, n, top, bot, row, col, pend, q⟩ cols L = L by unfold act19N; rw [if_neg (show ¬ ((1 : Int) = 0) by decide), if_pos rfl, if_neg (fun h => HBADF.out h.1)])
          go_upto_region 3 with (fail)
          obtain ⟨hx7, hf7, hz7⟩ := (S2.out.box (k := 0) rfl).facts
          obtain ⟨hx, hf, hz, hr, hp⟩ := (S2.out.box (k := 1) rfl).act19
          obtain ⟨A9, c9, hB9, hmx9, -⟩ := S2.out.gridRd (k := 3) rfl
          obtain ⟨hxx, hfx, hzx⟩ := hB9.facts
          clear hB9 hmx9
          have HT3 := Lib.hid (S2.out.tabs HT.out)
          refine wp_region_below (by kernel_rfl) (by kernel_rfl) ?_
          repeat (go_big_quiet_step (first | (go_at_call 27; exact quiet_below (r19Right_is HREG.out _)) | (go_at_call 60; exact quiet_below (r14Blank_any _ _)) | (go_at_call 53; exact quiet_below (cellValid_any _ _ (HT3.out.bel (below_plus _ _))))))
          refine wpQuiet_nil ?_
          intro w3 hb3
          have S3 := Lib.hid (S2.out.bel hb3)
          clear hb3 S2
          clear hx7 hf7 hz7 hx hf hz hr hp
          clear hxx hfx hzx
          clear hqb
          obtain ⟨hx7, hf7, hz7⟩ := (S3.out.box (k := 0) rfl).facts
          obtain ⟨hx, hf, hz, hr, hp⟩ := (S3.out.box (k := 1) rfl).act19
          go_wp2_with fail
          refine (Down_no q HT.out S3.out (k := 2) rfl hc hL (fun h => HBAD.out ⟨h.1, h.2.2⟩) hnm).mono ?_
          rintro e w4 ⟨rfl, hS⟩
          have S4 := Lib.hid hS
          clear hS S3 hx7 hf7 hz7 hx hf hz hr hp
          obtain ⟨hx7, hf7, hz7⟩ := (S4.out.box (k := 0) rfl).facts
          obtain ⟨hx, hf, hz, hr, hp⟩ := (S4.out.box (k := 1) rfl).act19
          go_wp2_with fail
          go_ret
          exact ⟨rfl, by rw [HN.out]; exact S4.out.tail.tail⟩
        | true =>
          have HQ := Lib.hid hq
          have hqb : (blank q).ok = true := by rw [ok_blank]; exact HQ.out
          have HF := Lib.hid (show fine19 ⟨1, n, top, bot, row, col, pend, q⟩ L.length = true from by unfold fine19; simp only [hreg, hq, Bool.and_self])
          clear hreg hq
          go_upto_region 3 with (fail)
          obtain ⟨hx7, hf7, hz7⟩ := (S2.out.box (k := 0) rfl).facts
          obtain ⟨hx, hf, hz, hr, hp⟩ := (S2.out.box (k := 1) rfl).act19
          obtain ⟨A9, c9, hB9, hmx9, -⟩ := S2.out.gridRd (k := 3) rfl
          obtain ⟨hxx, hfx, hzx⟩ := hB9.facts
          clear hB9 hmx9
          have HT3 := Lib.hid (S2.out.tabs HT.out)
          refine wp_region_below (by kernel_rfl) (by kernel_rfl) ?_
          repeat (go_big_quiet_step (first | (go_at_call 27; exact quiet_below (r19Right_is HREG.out _)) | (go_at_call 60; exact quiet_below (r14Blank_any _ _)) | (go_at_call 53; exact quiet_below (cellValid_any _ _ (HT3.out.bel (below_plus _ _))))))
          refine wpQuiet_nil ?_
          intro w3 hb3
          have S3 := Lib.hid (S2.out.bel hb3)
          clear hb3 S2
          clear hx7 hf7 hz7 hx hf hz hr hp
          clear hxx hfx hzx
          clear hqb
          by_cases hn0 : n < 0
          · have d0 : decide (n < 0) = true := decide_eq_true hn0
            have HNEG := Lib.hid (show ¬ 0 ≤ n by omega)
            have HN := Lib.hid (show act19N ⟨1, n, top, bot, row, col, pend, q⟩ cols L = L by unfold act19N; rw [if_neg (show ¬ ((1 : Int) = 0) by decide), if_pos rfl, if_neg (fun h => by have h1 := HNEG.out; have h2 : 0 ≤ n := h.2; omega)])
            obtain ⟨hx7, hf7, hz7⟩ := (S3.out.box (k := 0) rfl).facts
            obtain ⟨hx, hf, hz, hr, hp⟩ := (S3.out.box (k := 1) rfl).act19
            go_wp2_with fail
            refine (Down_no q HT.out S3.out (k := 2) rfl hc hL (fun h => by have h1 := HNEG.out; have h2 := h.2.1; omega) hnm).mono ?_
            rintro e w4 ⟨rfl, hS⟩
            have S4 := Lib.hid hS
            clear hS S3 hx7 hf7 hz7 hx hf hz hr hp
            obtain ⟨hx7, hf7, hz7⟩ := (S4.out.box (k := 0) rfl).facts
            obtain ⟨hx, hf, hz, hr, hp⟩ := (S4.out.box (k := 1) rfl).act19
            go_wp2_with fail
            go_ret
            exact ⟨rfl, by rw [HN.out]; exact S4.out.tail.tail⟩
          · have d0 : decide (n < 0) = false := decide_eq_false hn0
            have HNN := Lib.hid (show 0 ≤ n by omega)
            have HWN := Lib.hid (show IntKind.i64.wrap (-n) = -n from IntWalk.i64_in _ (by omega))
            obtain ⟨top, bot, rfl, rfl, htb, hbl⟩ := regB_nat HREG.out
            have HN := Lib.hid (show act19N ⟨1, n, top, bot, row, col, pend, q⟩ cols L = rollL top bot (-n) q cols L by unfold act19N; rw [if_neg (show ¬ ((1 : Int) = 0) by decide), if_pos rfl, if_pos ⟨HF.out, HNN.out⟩]; rfl)
            obtain ⟨hx7, hf7, hz7⟩ := (S3.out.box (k := 0) rfl).facts
            obtain ⟨hx, hf, hz, hr, hp⟩ := (S3.out.box (k := 1) rfl).act19
            go_wp2_with fail
            refine (Down_yes q HT.out S3.out (k := 2) rfl hc hcm hLm htb hbl HQ.out ⟨HNN.out, hnm⟩).mono ?_
            rintro e w4 ⟨rfl, hS⟩
            have S4 := Lib.hid hS
            clear hS S3 hx7 hf7 hz7 hx hf hz hr hp
            obtain ⟨hx, hf, hz, hr, hp⟩ := (S4.out.box (k := 1) rfl).act19
            have hwn := HWN.out
            go_wp2_with fail
            refine (r14RollG (-n) q S4.out (k := 3) rfl hcm hLm HMILL.out htb hbl (by clear hwn; have := HNN.out; omega)).mono ?_
            rintro e w5 ⟨A2, m2, c2, rfl, hS⟩
            have S5 := Lib.hid hS
            clear hS S4 hx hf hz hr hp hwn
            go_wp2_with fail
            go_ret
            exact ⟨rfl, by rw [HN.out]; exact S5.out.tail.tail.tail⟩)
end
end Go.Proofs.YtghahanpmcpacaaDoor
