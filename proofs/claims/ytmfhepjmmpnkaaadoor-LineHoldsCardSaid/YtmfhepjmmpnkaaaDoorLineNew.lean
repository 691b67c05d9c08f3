/-
  LineNew: the walk.
-/
import Derived.Test.YtmfhepjmmpnkaaaDoorKnown6
set_option linter.unusedSimpArgs false
set_option linter.unusedVariables false
namespace Go.Proofs.YtmfhepjmmpnkaaaDoor
open Go.RowKit

theorem own_ge {w : World} {B n c : Nat} {A : Option Addr} {cs : List Cell} (h : OwnC w B (.slice A n c) cs) : ∀ k, A.map (·.block) = some k → B ≤ k := fun k hk => by
  cases A with
  | none => cases hk
  | some ad => cases hk; exact (World.ownsRow.lt h _ rfl).1
theorem own_lt2 {w : World} {B n c : Nat} {A : Option Addr} {cs : List Cell} (h : OwnC w B (.slice A n c) cs) : ∀ k, A.map (·.block) = some k → k < w.heap.size := fun k hk => by
  cases A with
  | none => cases hk
  | some ad => cases hk; exact (World.ownsRow.lt h _ rfl).2
theorem tt_of {f : FuncId} {args : Array Value} {w : World} {b : Bool} (hc : Calls Tryd.prog f args w fun e w' => e = .returned (.bool b) ∧ Below w.heap.size w w') (h : b = true) : Calls Tryd.prog f args w fun e w' => e = .returned (.bool true) ∧ Below w.heap.size w w' := h ▸ hc
theorem ff_of {f : FuncId} {args : Array Value} {w : World} {b : Bool} (hc : Calls Tryd.prog f args w fun e w' => e = .returned (.bool b) ∧ Below w.heap.size w w') (h : b = false) : Calls Tryd.prog f args w fun e w' => e = .returned (.bool false) ∧ Below w.heap.size w w' := h ▸ hc
set_option maxRecDepth 100000 in
set_option maxHeartbeats 2000000 in
theorem lineNew_no_false (n : Int) (hcn : ¬ (0 ≤ n ∧ n ≤ 1000)) (A : Option Addr) (c : Nat) (l : List Cell) (s : Bool) (w : World) (ht : Tabs w) (ha : RdC w A c l) (hl : l.length ≤ 40) (hv : lineOk l = false) :
    Calls Tryd.prog 8 #[.int .i64 n, .slice A l.length c, .bool s] w fun e w' => e = .returned (.bool true) ∧ Below w.heap.size w w' := by
    have HT := Lib.hid ht
    have HA := Lib.hid ha
    have HV := Lib.hid hv
    clear ht ha hv
    go_enter Tryd.func8, Tryd.ntmps8
    go_wp2_with fail
    refine (columns_no hcn _).mono ?_
    rintro e w1 ⟨rfl, hb1⟩
    have HB1 := Lib.hid hb1
    clear hb1
    go_wp2_with fail
    refine (tt_of (l06news_any n [] false 2 none 0 [] false 2 _ (fun w3 hb3 => lineNew_no n (by omega) w3) (RdC.nil _) (by decide) (by decide)) (by decide +kernel)).mono ?_
    rintro e w2 ⟨rfl, hb2⟩
    have HB := Lib.hid (HB1.out.trans (hb2.mono HB1.out.size))
    clear hb2 HB1
    go_upto_region 9 with (fail)
    have K7 := Lib.hid (Blk.new w2 59 #[.slice A l.length c, .bool s])
    have HBX := Lib.hid (HB.out.trans ((belA w2 (.cells #[.slice A l.length c, .bool s] 59)).mono HB.out.size))
    generalize w2.alloc (.cells #[.slice A l.length c, .bool s] 59) = W at K7 HBX ⊢
    generalize w2.heap.size = b7 at K7 ⊢
    obtain ⟨hx7, hf7, hz7⟩ := K7.out.facts
    refine wp_region_below (by kernel_rfl) (by kernel_rfl) ?_
    repeat (go_big_quiet_step ((first | (go_at_call 42; exact quiet_below (lvalid_is HV.out _ _ _ _ ((HT.out.bel HBX.out).bel (below_plus _ _)) ((HA.out.bel HBX.out).bel (below_plus _ _)) (by omega))) | (go_at_call 43; exact quiet_below (r6valid_is HV.out _ _ _ _ ((HT.out.bel HBX.out).bel (below_plus _ _)) ((HA.out.bel HBX.out).bel (below_plus _ _)) (by omega))))))
    refine wpQuiet_nil ?_
    intro w3 hb3
    have K73 := Lib.hid (K7.out.bel hb3)
    have HB3 := Lib.hid (HBX.out.trans (hb3.mono HBX.out.size))
    clear hb3 hx7 hf7 hz7 K7 HBX HB
    obtain ⟨hx7, hf7, hz7⟩ := K73.out.facts
    go_wp2_with fail
    refine (r6valid_is HV.out _ _ _ _ (HT.out.bel HB3.out) (HA.out.bel HB3.out) (by omega)).mono ?_
    rintro e w4 ⟨rfl, hb4⟩
    have HB4 := Lib.hid (HB3.out.trans (hb4.mono HB3.out.size))
    have K74 := Lib.hid (K73.out.bel hb4)
    clear hb4 hx7 hf7 hz7
    go_wp2_with fail
    refine (tt_of (l06of_any A l.length c s (ofLine l s).1 (ofLine l s).2.1 (ofLine l s).2.2 none 0 [] false 2 _ (fun w5 hb5 => lineOf_any A c l s w5 ((HT.out.bel HB4.out).bel hb5) ((HA.out.bel HB4.out).bel hb5) (by omega)) (RdC.nil _) (by simp [ofLine, HV.out]) (by decide)) (by simp [ofLine, HV.out, eqL])).mono ?_
    rintro e w5 ⟨rfl, hb5⟩
    have HB5 := Lib.hid (HB4.out.trans (hb5.mono HB4.out.size))
    clear hb5
    go_wp2_with fail
    refine (l06known_any _ (HT.out.bel HB5.out)).mono ?_
    rintro e w6 ⟨rfl, hb6⟩
    go_wp2_with fail
    go_ret
    exact ⟨rfl, HB5.out.trans (hb6.mono HB5.out.size)⟩

set_option maxRecDepth 100000 in
set_option maxHeartbeats 2000000 in
theorem lineNew_no_true (n : Int) (hcn : ¬ (0 ≤ n ∧ n ≤ 1000)) (A : Option Addr) (c : Nat) (l : List Cell) (s : Bool) (w : World) (ht : Tabs w) (ha : RdC w A c l) (hl : l.length ≤ 40) (hv : lineOk l = true) :
    Calls Tryd.prog 8 #[.int .i64 n, .slice A l.length c, .bool s] w fun e w' => e = .returned (.bool true) ∧ Below w.heap.size w w' := by
    have HT := Lib.hid ht
    have HA := Lib.hid ha
    have HV := Lib.hid hv
    clear ht ha hv
    go_enter Tryd.func8, Tryd.ntmps8
    go_wp2_with fail
    refine (columns_no hcn _).mono ?_
    rintro e w1 ⟨rfl, hb1⟩
    have HB1 := Lib.hid hb1
    clear hb1
    go_wp2_with fail
    refine (tt_of (l06news_any n [] false 2 none 0 [] false 2 _ (fun w3 hb3 => lineNew_no n (by omega) w3) (RdC.nil _) (by decide) (by decide)) (by decide +kernel)).mono ?_
    rintro e w2 ⟨rfl, hb2⟩
    have HB := Lib.hid (HB1.out.trans (hb2.mono HB1.out.size))
    clear hb2 HB1
    go_upto_region 9 with (fail)
    have K7 := Lib.hid (Blk.new w2 59 #[.slice A l.length c, .bool s])
    have HBX := Lib.hid (HB.out.trans ((belA w2 (.cells #[.slice A l.length c, .bool s] 59)).mono HB.out.size))
    generalize w2.alloc (.cells #[.slice A l.length c, .bool s] 59) = W at K7 HBX ⊢
    generalize w2.heap.size = b7 at K7 ⊢
    obtain ⟨hx7, hf7, hz7⟩ := K7.out.facts
    refine wp_region_below (by kernel_rfl) (by kernel_rfl) ?_
    repeat (go_big_quiet_step ((first | (go_at_call 42; exact quiet_below (lvalid_is HV.out _ _ _ _ ((HT.out.bel HBX.out).bel (below_plus _ _)) ((HA.out.bel HBX.out).bel (below_plus _ _)) (by omega))) | (go_at_call 43; exact quiet_below (r6valid_is HV.out _ _ _ _ ((HT.out.bel HBX.out).bel (below_plus _ _)) ((HA.out.bel HBX.out).bel (below_plus _ _)) (by omega))))))
    refine wpQuiet_nil ?_
    intro w3 hb3
    have K73 := Lib.hid (K7.out.bel hb3)
    have HB3 := Lib.hid (HBX.out.trans (hb3.mono HBX.out.size))
    clear hb3 hx7 hf7 hz7 K7 HBX HB
    obtain ⟨hx7, hf7, hz7⟩ := K73.out.facts
    go_wp2_with fail
    refine (r6valid_is HV.out _ _ _ _ (HT.out.bel HB3.out) (HA.out.bel HB3.out) (by omega)).mono ?_
    rintro e w4 ⟨rfl, hb4⟩
    have HB4 := Lib.hid (HB3.out.trans (hb4.mono HB3.out.size))
    have K74 := Lib.hid (K73.out.bel hb4)
    clear hb4 hx7 hf7 hz7
    go_wp2_with (at_builtin; (refine wpList_appC rfl _ _ rfl w4.heap.size (.slice none 0 0) [] rfl (OwnC.nil w4 _) A c l rfl (HA.out.bel HB4.out) (by simp; omega) (Nat.le_refl _) ?_); intro v1 w5 hown1 hg1 hat1; rw [List.nil_append] at hown1; obtain ⟨A1, c1, rfl, hrd1⟩ := hown1.form; have HR5 := Lib.hid hrd1; have HO5 := Lib.hid hown1; have hb5 := (Below.refl w4.heap.size w4).grown hg1 (Nat.le_refl _) (by simp [Value.ownBlock]); have HB5 := Lib.hid (HB4.out.trans (hb5.mono HB4.out.size)); have K75 := Lib.hid (K74.out.bel hb5); clear hown1 hg1 hat1 hrd1 hb5)
    refine (lineOf_any A1 c1 l s _ (HT.out.bel HB5.out) HR5.out (by omega)).mono ?_
    have HOF := Lib.hid (show ofLine l s = (l, s, 0) by simp [ofLine, HV.out])
    rw [HOF.out]
    rintro e w6 ⟨v6, rfl, ho6, hb6⟩
    obtain ⟨A6, c6, rfl, hr6⟩ := ho6.form
    have HO6 := Lib.hid (ho6.bel (belA w6 (.cells #[.slice A6 l.length c6, .bool s] 59)))
    have HO7 := Lib.hid ((HO5.out.bel hb6).bel (belA w6 (.cells #[.slice A6 l.length c6, .bool s] 59)))
    have K8 := Lib.hid (Blk.new w6 59 #[.slice A6 l.length c6, .bool s])
    have hb66 := hb6.trans ((belA w6 (.cells #[.slice A6 l.length c6, .bool s] 59)).mono hb6.size)
    have HB6 := Lib.hid (HB5.out.trans (hb66.mono HB5.out.size))
    have K76 := Lib.hid (K75.out.bel hb66)
    have HZ6 := Lib.hid hb6.size
    have HN5 := Lib.hid (show ∀ b, A1.map (·.block) = some b → b < w5.heap.size from own_lt2 HO5.out)
    clear ho6 hb6 hr6 hb66
    go_upto_region 15 with (fail)
    generalize w6.alloc (.cells #[.slice A6 l.length c6, .bool s] 59) = W6 at HO6 HO7 K8 HB6 K76 ⊢
    have HZ8 := Lib.hid HZ6.out
    generalize hq : w6.heap.size = b8 at K8 HZ8 ⊢
    clear hq
    go_wp2_with fail
    refine (r04Stain_any _ A1 c1 l _ HO7.out (by omega)).mono ?_
    rintro e w7 ⟨rfl, hg7⟩
    have hne : ∀ b, w5.heap.size ≤ b → some b ≠ A1.map (·.block) := fun b hb e => by have := HN5.out b e.symm; omega
    have HO9 := Lib.hid (show OwnC w7 w5.heap.size (.slice A6 l.length c6) l from HO6.out.kept hg7 (by
      rcases hq : (Value.slice A6 l.length c6).ownBlock with _ | g
      · exact .inl rfl
      · exact .inr (hne g (own_from HO6.out g hq))))
    have K87 := Lib.hid (K8.out.grown hg7 (hne _ (by have := HZ8.out; omega)))
    have K77 := Lib.hid (K76.out.grown hg7 (fun e => by have h1 := HB4.out.size; have h2 := own_ge HO5.out b7 e.symm; have h3 := K74.out.lt; omega))
    have HB7 := Lib.hid (HB6.out.grown hg7 HB6.out.size (fun q hq => by have h1 := HB4.out.size; have h2 := own_ge HO5.out q hq; omega))
    clear hg7 hne
    obtain ⟨hx7, hf7, hz7⟩ := K77.out.facts
    obtain ⟨hx8, hf8, hz8⟩ := K87.out.facts
    obtain ⟨A9, c9, hve, hr9⟩ := HO9.out.form
    injection hve with e1 _ e2
    subst e1
    subst e2
    have HR9 := Lib.hid hr9
    clear hr9
    go_wp2_with fail
    refine (tt_of (l06is_any _ _ _ _ _ _ _ _ _ _ _ HR9.out (HA.out.bel HB7.out) (by omega) (by omega)) (by rw [eqL_self]; rfl)).mono ?_
    rintro e w8 ⟨rfl, hb8⟩
    have HB8 := Lib.hid (HB7.out.trans (hb8.mono HB7.out.size))
    clear hb8
    go_wp2_with fail
    refine (l06known_any _ (HT.out.bel HB8.out)).mono ?_
    rintro e w9 ⟨rfl, hb9⟩
    go_wp2_with fail
    go_ret
    exact ⟨rfl, HB8.out.trans (hb9.mono HB8.out.size)⟩

set_option maxRecDepth 100000 in
set_option maxHeartbeats 2000000 in
theorem lineNew_yes_false (n : Nat) (hcn : n ≤ 1000) (A : Option Addr) (c : Nat) (l : List Cell) (s : Bool) (w : World) (ht : Tabs w) (ha : RdC w A c l) (hl : l.length ≤ 40) (hv : lineOk l = false) :
    Calls Tryd.prog 8 #[.int .i64 n, .slice A l.length c, .bool s] w fun e w' => e = .returned (.bool true) ∧ Below w.heap.size w w' := by
    have HT := Lib.hid ht
    have HA := Lib.hid ha
    have HV := Lib.hid hv
    clear ht ha hv
    go_enter Tryd.func8, Tryd.ntmps8
    go_wp2_with fail
    refine (columns_yes (by omega) _).mono ?_
    rintro e w1 ⟨rfl, hb1⟩
    have HB1 := Lib.hid hb1
    clear hb1
    go_wp2_with fail
    refine (r06New_any n (by omega) _).mono ?_
    rintro e w0 ⟨v0, rfl, ho0, hb0⟩
    obtain ⟨A0, c0, rfl, hr0⟩ := ho0.form
    have HR0 := Lib.hid hr0
    have HB0 := Lib.hid (HB1.out.trans (hb0.mono HB1.out.size))
    clear hb0 ho0 hr0 HB1
    go_wp2_with fail
    refine (tt_of (l06news_any n (empties n) false 0 A0 c0 (empties n) false 0 _ (fun w3 hb3 => lineNew_yes n (by omega) w3) HR0.out (by rw [emp_len]; omega) (by rw [emp_len]; omega)) (by rw [eqL_self]; rfl)).mono ?_
    rintro e w2 ⟨rfl, hb2⟩
    have HB := Lib.hid (HB0.out.trans (hb2.mono HB0.out.size))
    clear hb2 HB0
    go_upto_region 9 with (fail)
    have K7 := Lib.hid (Blk.new w2 59 #[.slice A l.length c, .bool s])
    have HBX := Lib.hid (HB.out.trans ((belA w2 (.cells #[.slice A l.length c, .bool s] 59)).mono HB.out.size))
    generalize w2.alloc (.cells #[.slice A l.length c, .bool s] 59) = W at K7 HBX ⊢
    generalize w2.heap.size = b7 at K7 ⊢
    obtain ⟨hx7, hf7, hz7⟩ := K7.out.facts
    refine wp_region_below (by kernel_rfl) (by kernel_rfl) ?_
    repeat (go_big_quiet_step ((first | (go_at_call 42; exact quiet_below (lvalid_is HV.out _ _ _ _ ((HT.out.bel HBX.out).bel (below_plus _ _)) ((HA.out.bel HBX.out).bel (below_plus _ _)) (by omega))) | (go_at_call 43; exact quiet_below (r6valid_is HV.out _ _ _ _ ((HT.out.bel HBX.out).bel (below_plus _ _)) ((HA.out.bel HBX.out).bel (below_plus _ _)) (by omega))))))
    refine wpQuiet_nil ?_
    intro w3 hb3
    have K73 := Lib.hid (K7.out.bel hb3)
    have HB3 := Lib.hid (HBX.out.trans (hb3.mono HBX.out.size))
    clear hb3 hx7 hf7 hz7 K7 HBX HB
    obtain ⟨hx7, hf7, hz7⟩ := K73.out.facts
    go_wp2_with fail
    refine (r6valid_is HV.out _ _ _ _ (HT.out.bel HB3.out) (HA.out.bel HB3.out) (by omega)).mono ?_
    rintro e w4 ⟨rfl, hb4⟩
    have HB4 := Lib.hid (HB3.out.trans (hb4.mono HB3.out.size))
    have K74 := Lib.hid (K73.out.bel hb4)
    clear hb4 hx7 hf7 hz7
    go_wp2_with fail
    refine (tt_of (l06of_any A l.length c s (ofLine l s).1 (ofLine l s).2.1 (ofLine l s).2.2 none 0 [] false 2 _ (fun w5 hb5 => lineOf_any A c l s w5 ((HT.out.bel HB4.out).bel hb5) ((HA.out.bel HB4.out).bel hb5) (by omega)) (RdC.nil _) (by simp [ofLine, HV.out]) (by decide)) (by simp [ofLine, HV.out, eqL])).mono ?_
    rintro e w5 ⟨rfl, hb5⟩
    have HB5 := Lib.hid (HB4.out.trans (hb5.mono HB4.out.size))
    clear hb5
    go_wp2_with fail
    refine (l06known_any _ (HT.out.bel HB5.out)).mono ?_
    rintro e w6 ⟨rfl, hb6⟩
    go_wp2_with fail
    go_ret
    exact ⟨rfl, HB5.out.trans (hb6.mono HB5.out.size)⟩

set_option maxRecDepth 100000 in
set_option maxHeartbeats 2000000 in
theorem lineNew_yes_true (n : Nat) (hcn : n ≤ 1000) (A : Option Addr) (c : Nat) (l : List Cell) (s : Bool) (w : World) (ht : Tabs w) (ha : RdC w A c l) (hl : l.length ≤ 40) (hv : lineOk l = true) :
    Calls Tryd.prog 8 #[.int .i64 n, .slice A l.length c, .bool s] w fun e w' => e = .returned (.bool true) ∧ Below w.heap.size w w' := by
    have HT := Lib.hid ht
    have HA := Lib.hid ha
    have HV := Lib.hid hv
    clear ht ha hv
    go_enter Tryd.func8, Tryd.ntmps8
    go_wp2_with fail
    refine (columns_yes (by omega) _).mono ?_
    rintro e w1 ⟨rfl, hb1⟩
    have HB1 := Lib.hid hb1
    clear hb1
    go_wp2_with fail
    refine (r06New_any n (by omega) _).mono ?_
    rintro e w0 ⟨v0, rfl, ho0, hb0⟩
    obtain ⟨A0, c0, rfl, hr0⟩ := ho0.form
    have HR0 := Lib.hid hr0
    have HB0 := Lib.hid (HB1.out.trans (hb0.mono HB1.out.size))
    clear hb0 ho0 hr0 HB1
    go_wp2_with fail
    refine (tt_of (l06news_any n (empties n) false 0 A0 c0 (empties n) false 0 _ (fun w3 hb3 => lineNew_yes n (by omega) w3) HR0.out (by rw [emp_len]; omega) (by rw [emp_len]; omega)) (by rw [eqL_self]; rfl)).mono ?_
    rintro e w2 ⟨rfl, hb2⟩
    have HB := Lib.hid (HB0.out.trans (hb2.mono HB0.out.size))
    clear hb2 HB0
    go_upto_region 9 with (fail)
    have K7 := Lib.hid (Blk.new w2 59 #[.slice A l.length c, .bool s])
    have HBX := Lib.hid (HB.out.trans ((belA w2 (.cells #[.slice A l.length c, .bool s] 59)).mono HB.out.size))
    generalize w2.alloc (.cells #[.slice A l.length c, .bool s] 59) = W at K7 HBX ⊢
    generalize w2.heap.size = b7 at K7 ⊢
    obtain ⟨hx7, hf7, hz7⟩ := K7.out.facts
    refine wp_region_below (by kernel_rfl) (by kernel_rfl) ?_
    repeat (go_big_quiet_step ((first | (go_at_call 42; exact quiet_below (lvalid_is HV.out _ _ _ _ ((HT.out.bel HBX.out).bel (below_plus _ _)) ((HA.out.bel HBX.out).bel (below_plus _ _)) (by omega))) | (go_at_call 43; exact quiet_below (r6valid_is HV.out _ _ _ _ ((HT.out.bel HBX.out).bel (below_plus _ _)) ((HA.out.bel HBX.out).bel (below_plus _ _)) (by omega))))))
    refine wpQuiet_nil ?_
    intro w3 hb3
    have K73 := Lib.hid (K7.out.bel hb3)
    have HB3 := Lib.hid (HBX.out.trans (hb3.mono HBX.out.size))
    clear hb3 hx7 hf7 hz7 K7 HBX HB
    obtain ⟨hx7, hf7, hz7⟩ := K73.out.facts
    go_wp2_with fail
    refine (r6valid_is HV.out _ _ _ _ (HT.out.bel HB3.out) (HA.out.bel HB3.out) (by omega)).mono ?_
    rintro e w4 ⟨rfl, hb4⟩
    have HB4 := Lib.hid (HB3.out.trans (hb4.mono HB3.out.size))
    have K74 := Lib.hid (K73.out.bel hb4)
    clear hb4 hx7 hf7 hz7
    go_wp2_with (at_builtin; (refine wpList_appC rfl _ _ rfl w4.heap.size (.slice none 0 0) [] rfl (OwnC.nil w4 _) A c l rfl (HA.out.bel HB4.out) (by simp; omega) (Nat.le_refl _) ?_); intro v1 w5 hown1 hg1 hat1; rw [List.nil_append] at hown1; obtain ⟨A1, c1, rfl, hrd1⟩ := hown1.form; have HR5 := Lib.hid hrd1; have HO5 := Lib.hid hown1; have hb5 := (Below.refl w4.heap.size w4).grown hg1 (Nat.le_refl _) (by simp [Value.ownBlock]); have HB5 := Lib.hid (HB4.out.trans (hb5.mono HB4.out.size)); have K75 := Lib.hid (K74.out.bel hb5); clear hown1 hg1 hat1 hrd1 hb5)
    refine (lineOf_any A1 c1 l s _ (HT.out.bel HB5.out) HR5.out (by omega)).mono ?_
    have HOF := Lib.hid (show ofLine l s = (l, s, 0) by simp [ofLine, HV.out])
    rw [HOF.out]
    rintro e w6 ⟨v6, rfl, ho6, hb6⟩
    obtain ⟨A6, c6, rfl, hr6⟩ := ho6.form
    have HO6 := Lib.hid (ho6.bel (belA w6 (.cells #[.slice A6 l.length c6, .bool s] 59)))
    have HO7 := Lib.hid ((HO5.out.bel hb6).bel (belA w6 (.cells #[.slice A6 l.length c6, .bool s] 59)))
    have K8 := Lib.hid (Blk.new w6 59 #[.slice A6 l.length c6, .bool s])
    have hb66 := hb6.trans ((belA w6 (.cells #[.slice A6 l.length c6, .bool s] 59)).mono hb6.size)
    have HB6 := Lib.hid (HB5.out.trans (hb66.mono HB5.out.size))
    have K76 := Lib.hid (K75.out.bel hb66)
    have HZ6 := Lib.hid hb6.size
    have HN5 := Lib.hid (show ∀ b, A1.map (·.block) = some b → b < w5.heap.size from own_lt2 HO5.out)
    clear ho6 hb6 hr6 hb66
    go_upto_region 15 with (fail)
    generalize w6.alloc (.cells #[.slice A6 l.length c6, .bool s] 59) = W6 at HO6 HO7 K8 HB6 K76 ⊢
    have HZ8 := Lib.hid HZ6.out
    generalize hq : w6.heap.size = b8 at K8 HZ8 ⊢
    clear hq
    go_wp2_with fail
    refine (r04Stain_any _ A1 c1 l _ HO7.out (by omega)).mono ?_
    rintro e w7 ⟨rfl, hg7⟩
    have hne : ∀ b, w5.heap.size ≤ b → some b ≠ A1.map (·.block) := fun b hb e => by have := HN5.out b e.symm; omega
    have HO9 := Lib.hid (show OwnC w7 w5.heap.size (.slice A6 l.length c6) l from HO6.out.kept hg7 (by
      rcases hq : (Value.slice A6 l.length c6).ownBlock with _ | g
      · exact .inl rfl
      · exact .inr (hne g (own_from HO6.out g hq))))
    have K87 := Lib.hid (K8.out.grown hg7 (hne _ (by have := HZ8.out; omega)))
    have K77 := Lib.hid (K76.out.grown hg7 (fun e => by have h1 := HB4.out.size; have h2 := own_ge HO5.out b7 e.symm; have h3 := K74.out.lt; omega))
    have HB7 := Lib.hid (HB6.out.grown hg7 HB6.out.size (fun q hq => by have h1 := HB4.out.size; have h2 := own_ge HO5.out q hq; omega))
    clear hg7 hne
    obtain ⟨hx7, hf7, hz7⟩ := K77.out.facts
    obtain ⟨hx8, hf8, hz8⟩ := K87.out.facts
    obtain ⟨A9, c9, hve, hr9⟩ := HO9.out.form
    injection hve with e1 _ e2
    subst e1
    subst e2
    have HR9 := Lib.hid hr9
    clear hr9
    go_wp2_with fail
    refine (tt_of (l06is_any _ _ _ _ _ _ _ _ _ _ _ HR9.out (HA.out.bel HB7.out) (by omega) (by omega)) (by rw [eqL_self]; rfl)).mono ?_
    rintro e w8 ⟨rfl, hb8⟩
    have HB8 := Lib.hid (HB7.out.trans (hb8.mono HB7.out.size))
    clear hb8
    go_wp2_with fail
    refine (l06known_any _ (HT.out.bel HB8.out)).mono ?_
    rintro e w9 ⟨rfl, hb9⟩
    go_wp2_with fail
    go_ret
    exact ⟨rfl, HB8.out.trans (hb9.mono HB8.out.size)⟩

theorem l06LineNew_any (n : Int) (A : Option Addr) (c : Nat) (l : List Cell) (s : Bool) (w : World) (ht : Tabs w) (bd : -9223372036854775808 ≤ n ∧ n ≤ 9223372036854775807) (ha : RdC w A c l) (hm : c ≤ maxLen) :
    Calls Tryd.prog 8 #[.int .i64 n, .slice A l.length c, .bool s] w fun e w' => e = .returned (.bool true) ∧ Below w.heap.size w w' := by
  by_cases hl : 40 < l.length
  · have HT := Lib.hid ht
    have hlen : l.length ≤ 9223372036854775807 := by have := ha.1; unfold maxLen at hm; omega
    clear ht ha hm
    go_enter Tryd.func8, Tryd.ntmps8
    go_wp2_with fail
    refine (l06known_any _ HT.out).mono ?_
    rintro e w1 ⟨rfl, hb⟩
    go_wp2_with fail
    go_ret
    exact ⟨rfl, hb⟩
  by_cases hc : 0 ≤ n ∧ n ≤ 1000
  · obtain ⟨k, rfl⟩ := Int.eq_ofNat_of_zero_le hc.1
    cases hv : lineOk l
    · exact lineNew_yes_false k (by omega) A c l s w ht ha (by omega) hv
    · exact lineNew_yes_true k (by omega) A c l s w ht ha (by omega) hv
  · cases hv : lineOk l
    · exact lineNew_no_false n hc A c l s w ht ha (by omega) hv
    · exact lineNew_no_true n hc A c l s w ht ha (by omega) hv
end Go.Proofs.YtmfhepjmmpnkaaaDoor
