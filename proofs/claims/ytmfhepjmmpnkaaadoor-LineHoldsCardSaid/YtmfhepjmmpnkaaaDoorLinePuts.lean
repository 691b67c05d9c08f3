/-
  LinePuts: the walk.
-/
import Derived.Test.YtmfhepjmmpnkaaaDoorLineNew
set_option linter.unusedSimpArgs false
set_option linter.unusedVariables false
namespace Go.Proofs.YtmfhepjmmpnkaaaDoor
open Go.RowKit

theorem putOf_len {at_ : Int} {ds cs : List Cell} {s : Bool} (hn : cs.length ≤ 40) (hd : ds.length ≤ 40) : (putOf at_ ds cs s).1.length ≤ 40 := by
  unfold putOf
  split
  · split
    · rename_i h
      rw [putAt_length (by omega)]
      exact hn
    · simp
  · simp
set_option maxRecDepth 100000 in
set_option maxHeartbeats 2000000 in
theorem l06LinePuts_any (A0 : Option Addr) (c0 : Nat) (l0 : List Cell) (s0 : Bool) (n : Int) (A2 : Option Addr) (c2 : Nat) (l2 : List Cell) (w : World) (ht : Tabs w) (ha : RdC w A0 c0 l0) (hm0 : c0 ≤ maxLen) (bd : -9223372036854775808 ≤ n ∧ n ≤ 9223372036854775807) (hd : RdC w A2 c2 l2) (hm2 : c2 ≤ maxLen) :
    Calls Tryd.prog 11 #[.agg #[.slice A0 l0.length c0, .bool s0], .int .i64 n, .slice A2 l2.length c2] w fun e w' => e = .returned (.bool true) ∧ Below w.heap.size w w' := by
  have HT := Lib.hid ht
  have HA := Lib.hid ha
  have HD := Lib.hid hd
  have hlen0 : l0.length ≤ 9223372036854775807 := by have := ha.1; unfold maxLen at hm0; omega
  have hlen2 : l2.length ≤ 9223372036854775807 := by have := hd.1; unfold maxLen at hm2; omega
  clear ht ha hd hm0 hm2
  have KN : ∀ w1, Below w.heap.size w w1 → Tabs w1 := fun w1 hb => HT.out.bel hb
  have KNH := Lib.hid KN
  clear KN
  by_cases h0 : l0.length ≤ 40
  case neg =>
    go_enter Tryd.func11, Tryd.ntmps11
    go_wp2_with fail
    refine (small_no h0 hlen0 _ _ _ _).mono ?_
    rintro e w1 ⟨rfl, hb⟩
    go_wp2_with fail
    refine (l06known_any _ (KNH.out _ (bel1 hb))).mono ?_
    rintro e w2 ⟨rfl, hb2⟩
    go_wp2_with fail
    go_ret
    exact ⟨rfl, (bel1 hb).trans (hb2.mono (bel1 hb).size)⟩
  by_cases h2 : 40 < l2.length
  · go_enter Tryd.func11, Tryd.ntmps11
    go_wp2_with fail
    refine (small_yes h0 _ _ _ _).mono ?_
    rintro e w1 ⟨rfl, hb⟩
    go_wp2_with fail
    refine (l06known_any _ (KNH.out _ (bel1 hb))).mono ?_
    rintro e w2 ⟨rfl, hb2⟩
    go_wp2_with fail
    go_ret
    exact ⟨rfl, (bel1 hb).trans (hb2.mono (bel1 hb).size)⟩
  go_enter Tryd.func11, Tryd.ntmps11
  go_wp2_with fail
  refine (small_yes h0 _ _ _ _).mono ?_
  rintro e w1 ⟨rfl, hb⟩
  obtain ⟨k3, hb1⟩ := box1 hb
  have K3 := Lib.hid k3
  have HB1 := Lib.hid hb1
  obtain ⟨hx3, hf3, hz3⟩ := k3.facts
  clear hb k3 hb1
  go_wp2_with fail
  refine (r06Copy_any A0 c0 l0 s0 _ (HA.out.bel HB1.out) (by omega)).mono ?_
  rintro e w2 ⟨v2, rfl, ho2, hb2⟩
  obtain ⟨A1, c1, rfl, hr2⟩ := ho2.form
  have HR2 := Lib.hid hr2
  have K32 := Lib.hid (K3.out.bel hb2)
  have HB2 := Lib.hid (HB1.out.trans (hb2.mono HB1.out.size))
  clear ho2 hb2 hr2 hx3 hf3 hz3 K3 HB1
  go_upto_region 4 with (at_builtin; (refine wpList_appC rfl _ _ rfl w2.heap.size (.slice none 0 0) [] rfl (OwnC.nil w2 _) A2 c2 l2 rfl (HD.out.bel HB2.out) (by simp; omega) (Nat.le_refl _) ?_); intro v1 w5 hown1 hg1 hat1; rw [List.nil_append] at hown1; obtain ⟨A5, c5, rfl, hrd1⟩ := hown1.form; have HR5 := Lib.hid hrd1; have hb5 := (Below.refl w2.heap.size w2).grown hg1 (Nat.le_refl _) (by simp [Value.ownBlock]); have HB5 := Lib.hid (HB2.out.trans (hb5.mono HB2.out.size)); have K35 := Lib.hid (K32.out.bel hb5); have HR25 := Lib.hid (HR2.out.bel hb5); clear hown1 hg1 hat1 hrd1 hb5)
  have K7 := Lib.hid (Blk.new w5 59 #[.slice A1 l0.length c1, .bool s0])
  have K3 := Lib.hid (K35.out.bel (belA w5 (.cells #[.slice A1 l0.length c1, .bool s0] 59)))
  have RO := Lib.hid (HR25.out.bel (belA w5 (.cells #[.slice A1 l0.length c1, .bool s0] 59)))
  have RC := Lib.hid (HR5.out.bel (belA w5 (.cells #[.slice A1 l0.length c1, .bool s0] 59)))
  have HB := Lib.hid (HB5.out.trans ((belA w5 (.cells #[.slice A1 l0.length c1, .bool s0] 59)).mono HB5.out.size))
  generalize w5.alloc (.cells #[.slice A1 l0.length c1, .bool s0] 59) = W at K7 K3 RO RC HB ⊢
  generalize w5.heap.size = b7 at K7 ⊢
  clear HR2 K32 HB2 HR5 HB5 K35 HR25
  obtain ⟨hx3, hf3, hz3⟩ := K3.out.facts
  go_wp2_with fail
  refine (r06Put_any A0 c0 l0 s0 n bd A2 c2 l2 _ (KNH.out _ HB.out) (HA.out.bel HB.out) (HD.out.bel HB.out) (by omega) (by omega)).mono ?_
  have HPL := Lib.hid (putOf_len (at_ := n) (ds := l2) (cs := l0) (s := s0) h0 (by omega))
  rintro e w8 ⟨v8, rfl, ho8, hb8⟩
  obtain ⟨A8, c8, rfl, hr8⟩ := ho8.form
  have HR8 := Lib.hid (hr8.bel (belA w8 (.cells #[.slice A8 (putOf n l2 l0 s0).1.length c8, .bool (putOf n l2 l0 s0).2.1] 59)))
  have hb88 := hb8.trans ((belA w8 (.cells #[.slice A8 (putOf n l2 l0 s0).1.length c8, .bool (putOf n l2 l0 s0).2.1] 59)).mono hb8.size)
  have K9 := Lib.hid (Blk.new w8 59 #[.slice A8 (putOf n l2 l0 s0).1.length c8, .bool (putOf n l2 l0 s0).2.1])
  have K78 := Lib.hid (K7.out.bel hb88)
  have K38 := Lib.hid (K3.out.bel hb88)
  have RO8 := Lib.hid (RO.out.bel hb88)
  have RC8 := Lib.hid (RC.out.bel hb88)
  have HB8 := Lib.hid (HB.out.trans (hb88.mono HB.out.size))
  clear ho8 hb8 hr8 hb88 hx3 hf3 hz3 K7 K3 RO RC HB
  go_upto_region 5 with (fail)
  generalize w8.alloc (.cells #[.slice A8 (putOf n l2 l0 s0).1.length c8, .bool (putOf n l2 l0 s0).2.1] 59) = W8 at HR8 K9 K78 K38 RO8 RC8 HB8 ⊢
  generalize w8.heap.size = b9 at K9 ⊢
  obtain ⟨hx7, hf7, hz7⟩ := K78.out.facts
  go_wp2_with fail
  refine (linePut_any A1 c1 l0 s0 n bd A5 c5 l2 _ (KNH.out _ HB8.out) RO8.out RC8.out (by omega) (by omega)).mono ?_
  rintro e w10 ⟨v10, rfl, ho10, hb10⟩
  obtain ⟨A10, c10, rfl, -⟩ := ho10.form
  have hb11 := hb10.trans ((belA w10 (.cells #[.slice A10 (putOf n l2 l0 s0).1.length c10, .bool (putOf n l2 l0 s0).2.1] 59)).mono hb10.size)
  have HO10 := Lib.hid (ho10.bel (belA w10 (.cells #[.slice A10 (putOf n l2 l0 s0).1.length c10, .bool (putOf n l2 l0 s0).2.1] 59)))
  have K11 := Lib.hid (Blk.new w10 59 #[.slice A10 (putOf n l2 l0 s0).1.length c10, .bool (putOf n l2 l0 s0).2.1])
  have K9A := Lib.hid (K9.out.bel hb11)
  have K7A := Lib.hid (K78.out.bel hb11)
  have K3A := Lib.hid (K38.out.bel hb11)
  have ROA := Lib.hid (RO8.out.bel hb11)
  have RCA := Lib.hid (RC8.out.bel hb11)
  have HR8A := Lib.hid (HR8.out.bel hb11)
  have HBA := Lib.hid (HB8.out.trans (hb11.mono HB8.out.size))
  have HCA := Lib.hid hb11
  have HZA := Lib.hid (show W8.heap.size ≤ w10.heap.size from hb10.size)
  clear ho10 hb10 hb11 hx7 hf7 hz7
  go_upto_region 6 with (fail)
  generalize w10.alloc (.cells #[.slice A10 (putOf n l2 l0 s0).1.length c10, .bool (putOf n l2 l0 s0).2.1] 59) = W10 at HO10 K11 K9A K7A K3A ROA RCA HR8A HBA HCA ⊢
  generalize hqb : w10.heap.size = b11 at K11 HZA ⊢
  clear hqb
  obtain ⟨hx11, hf11, hz11⟩ := K11.out.facts
  obtain ⟨hx9, hf9, hz9⟩ := K9A.out.facts
  obtain ⟨Aq, cq, hve, hrq⟩ := HO10.out.form
  injection hve with e1 _ e2
  subst e1
  subst e2
  have HRQ := Lib.hid hrq
  clear hrq
  go_wp2_with fail
  refine (tt_of (l06is_any _ _ _ _ _ _ _ _ _ _ _ HRQ.out HR8A.out (by have := HPL.out; omega) (by have := HPL.out; omega)) (by rw [eqL_self]; simp)).mono ?_
  rintro e w12 ⟨rfl, hb12⟩
  have HO12 := Lib.hid (HO10.out.bel hb12)
  have K1112 := Lib.hid (K11.out.bel hb12)
  have HBC := Lib.hid (HBA.out.trans (hb12.mono HBA.out.size))
  have HCC := Lib.hid (HCA.out.trans (hb12.mono HCA.out.size))
  clear hb12 hx11 hf11 hz11 hx9 hf9 hz9
  obtain ⟨hx11, hf11, hz11⟩ := K1112.out.facts
  go_wp2_with fail
  refine (r04Stain_any _ A10 c10 _ _ HO12.out (by have := HPL.out; omega)).mono ?_
  rintro e w13 ⟨rfl, hg13⟩
  have HC13 := Lib.hid (HCC.out.grown hg13 HCC.out.size (fun q hq => own_ge HO12.out q hq))
  have HB13 := Lib.hid (HBC.out.grown hg13 HBC.out.size (fun q hq => by have h1 := own_ge HO12.out q hq; have h2 := HB8.out.size; omega))
  have K713 := Lib.hid (K78.out.bel HC13.out)
  have K313 := Lib.hid (K38.out.bel HC13.out)
  have RO13 := Lib.hid (RO8.out.bel HC13.out)
  have RC13 := Lib.hid (RC8.out.bel HC13.out)
  clear hg13 hx11 hf11 hz11
  obtain ⟨hx7, hf7, hz7⟩ := K713.out.facts
  obtain ⟨hx3, hf3, hz3⟩ := K313.out.facts
  go_wp2_with fail
  refine (tt_of (r06Same_any _ _ _ _ _ _ _ _ _ RO13.out (HA.out.bel HB13.out) (by omega) (by omega)) (eqL_self _ _)).mono ?_
  rintro e w14 ⟨rfl, hb14⟩
  have HB14 := Lib.hid (HB13.out.trans (hb14.mono HB13.out.size))
  have RC14 := Lib.hid (RC13.out.bel hb14)
  clear hb14 hx7 hf7 hz7 hx3 hf3 hz3
  go_wp2_with fail
  refine (tt_of (r04Same_any _ _ _ _ _ _ _ RC14.out (HD.out.bel HB14.out) (by omega) (by omega)) (by simp)).mono ?_
  rintro e w15 ⟨rfl, hb15⟩
  have HB15 := Lib.hid (HB14.out.trans (hb15.mono HB14.out.size))
  clear hb15
  go_wp2_with fail
  refine (l06known_any _ (KNH.out _ HB15.out)).mono ?_
  rintro e w16 ⟨rfl, hb16⟩
  go_wp2_with fail
  go_ret
  exact ⟨rfl, HB15.out.trans (hb16.mono HB15.out.size)⟩
end Go.Proofs.YtmfhepjmmpnkaaaDoor
