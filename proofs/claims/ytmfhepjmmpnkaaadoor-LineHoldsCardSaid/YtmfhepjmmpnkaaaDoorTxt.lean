/-
  A strings.Builder that the call has made: copyCheck, WriteString, String; line.Text and the reference's.
-/
import Derived.Test.YtmfhepjmmpnkaaaDoorLine8
import Derived.Shelf.Strings.Builder1
set_option linter.unusedSimpArgs false
set_option linter.unusedVariables false
namespace Go.Proofs.YtmfhepjmmpnkaaaDoor
open Go.RowKit Go.Shelf

def strRen : Go.Shelf.Ren := ⟨fun | 169 => 80 | n => n, fun | 70 => 95 | 9 => 9 | 0 => 0 | 72 => 98 | 37 => 96 | 127 => 109 | 3 => 3 | 5 => 5 | n => n, fun | n => n⟩
theorem strLays : Go.Proofs.Lays.n169 Tryd.prog strRen := {
  mixed := by kernel_rfl
  f169 := Tryd.func80.trans (congrArg some (by kernel_rfl))
  t0 := Tryd.underlying0
  a0 := Tryd.isAgg0
  z0 := Tryd.sizeOf0
  v0 := Tryd.zeroValue0
  t3 := Tryd.underlying3
  a3 := Tryd.isAgg3
  z3 := Tryd.sizeOf3
  v3 := Tryd.zeroValue3
  t9 := Tryd.underlying9
  a9 := Tryd.isAgg9
  z9 := Tryd.sizeOf9
  v9 := Tryd.zeroValue9
  t37 := Tryd.underlying96
  a37 := Tryd.isAgg96
  z37 := Tryd.sizeOf96
  v37 := Tryd.zeroValue96
  t70 := Tryd.underlying95
  a70 := Tryd.isAgg95
  z70 := Tryd.sizeOf95
  v70 := Tryd.zeroValue95
  t72 := Tryd.underlying98
  a72 := Tryd.isAgg98
  z72 := Tryd.sizeOf98
  v72 := Tryd.zeroValue98
  t127 := Tryd.underlying109
  a127 := Tryd.isAgg109
  z127 := Tryd.sizeOf109
  v127 := Tryd.zeroValue109 }
theorem strExtra : Builder.Extra Tryd.prog strRen := {
  sizeBuilder := by kernel_rfl
  liesBuilder := by kernel_rfl
  t5 := Tryd.underlying5
  a5 := Tryd.isAgg5
  z5 := Tryd.sizeOf5
  v5 := Tryd.zeroValue5
  infoByte := by kernel_rfl
  cellsByte := by kernel_rfl
  sizeByte := by kernel_rfl
  neB5 := by decide }
theorem bString (B b : Nat) (l : List UInt8) (w : World) (h : Lib.IsBuilder 98 5 B b (Lib.byteCells l) w) (hBw : B ≤ w.heap.size) :
    Calls Tryd.prog 80 #[.pointer (some ⟨b, 0, none⟩)] w fun e w' => e = .returned (.string ⟨l.toArray⟩) ∧ Below B w w' := Any.Builder_String_any strLays strExtra B b l w h hBw
set_option maxRecDepth 100000 in
set_option maxHeartbeats 1000000 in
theorem copyCheck_used (b : Nat) (w : World) (h0 : w.cell? ⟨b, 0, none⟩ = some (.pointer (some ⟨b, 0, none⟩))) :
    Calls Tryd.prog 86 #[.pointer (some ⟨b, 0, none⟩)] w fun e w' => e = .returned (.tuple #[]) ∧ w' = w := by
  obtain ⟨j, hj, _⟩ := Option.map_eq_some_iff.1 strExtra.sizeBuilder
  go_enter Tryd.func86, Tryd.ntmps86
  go_wp2
  rw [Lib.run_neq_ptr_same w _ Tryd.underlying95 hj]
  go_wp2
  go_end0
  exact ⟨rfl, rfl⟩
set_option maxRecDepth 100000 in
set_option maxHeartbeats 1000000 in
theorem copyCheck_fresh (b : Nat) (w : World) (h0 : w.cell? ⟨b, 0, none⟩ = some (.pointer none)) (hsh : w.shape? b = some (98, 2)) (hfz : w.frozen? ⟨b, 0, none⟩ = false) :
    Calls Tryd.prog 86 #[.pointer (some ⟨b, 0, none⟩)] w fun e w' => e = .returned (.tuple #[]) ∧ w' = w.setCell ⟨b, 0, none⟩ (.pointer (some ⟨b, 0, none⟩)) := by
  obtain ⟨j, hj, hjs⟩ := Option.map_eq_some_iff.1 strExtra.sizeBuilder
  go_enter Tryd.func86, Tryd.ntmps86
  go_wp2
  rw [Lib.run_to_unsafe w ⟨b, 0, none⟩ Tryd.underlying95 Tryd.underlying116 hj (by rw [hjs]; decide) hsh (Nat.zero_lt_succ 1)]
  simp only [Result.andThen]
  rw [Oper.upon_value]
  go_wp2
  rw [run_callFunc_extern Tryd.func93 (by kernel_rfl) (by kernel_rfl) (by kernel_rfl) (e := Extern.AbiNoEscape.same) (by kernel_rfl)]
  rw [Lib.run_noEscape]
  simp only [Result.andThen]
  rw [Oper.upon_value]
  go_wp2
  rw [Lib.run_from_unsafe w ⟨b, 0, none⟩ Tryd.underlying116 Tryd.underlying95 hj hsh strExtra.liesBuilder]
  simp only [Result.andThen]
  rw [Oper.upon_value]
  go_wp2
  go_end0
  exact ⟨rfl, rfl⟩
theorem copyCheck_any (B b : Nat) (bs : List Value) (w : World) (h : Lib.IsBuilder 98 5 B b bs w) :
    Calls Tryd.prog 86 #[.pointer (some ⟨b, 0, none⟩)] w fun e w' => e = .returned (.tuple #[]) ∧ (Lib.BuilderAt 98 5 B b (.pointer (some ⟨b, 0, none⟩)) bs w' ∧ Below B w w') := by
  rcases h with h | h
  · refine (copyCheck_fresh b w h.cell0 h.shape h.frozen0).mono ?_
    rintro e w' ⟨rfl, rfl⟩
    exact ⟨rfl, h.used _, (Below.refl B w).setCell (p := ⟨b, 0, none⟩) h.1 _⟩
  · refine (copyCheck_used b w h.cell0).mono ?_
    rintro e w' ⟨rfl, rfl⟩
    exact ⟨rfl, h, Below.refl B _⟩
set_option maxRecDepth 100000 in
set_option maxHeartbeats 1000000 in
theorem writeString_any (B b : Nat) (bs : List Value) (s : ByteArray) (w : World) (h : Lib.IsBuilder 98 5 B b bs w) (hlen : bs.length + s.size ≤ 140737488355328) (hBw : B ≤ w.heap.size) :
    Calls Tryd.prog 79 #[.pointer (some ⟨b, 0, none⟩), .string s] w fun e w' => e = .returned (.tuple #[.int .i64 s.size, .nilIface]) ∧ (Lib.BuilderAt 98 5 B b (.pointer (some ⟨b, 0, none⟩)) (bs ++ Lib.strCells s) w' ∧ Below B w w') := by
  obtain ⟨i0, hi, hz0, hz1, hz2⟩ := info_parts strExtra.infoByte
  have HI := Lib.hid hi
  have HZ0 := Lib.hid hz0
  have HZ1 := Lib.hid hz1
  have HZ2 := Lib.hid hz2
  clear hi hz0 hz1 hz2
  go_enter Tryd.func79, Tryd.ntmps79
  go_wp2_with fail
  refine (copyCheck_any B b bs _ h).mono ?_
  rintro e w1 ⟨rfl, h1, hb1⟩
  obtain ⟨hB, v, hbk, hown, hne⟩ := h1
  have c0 : w1.cell? ⟨b, 0, none⟩ = some (.pointer (some ⟨b, 0, none⟩)) := by rw [Lib.cell_of_heap hbk]; rfl
  have c1 : w1.cell? ⟨b, 1, none⟩ = some v := by rw [Lib.cell_of_heap hbk]; rfl
  go_wp2_with (at_builtin; refine Lib.wpList_append_own_string _ rfl _ _ 96 9 rfl B 5 i0 Tryd.underlying96 Tryd.underlying9 HI.out HZ0.out HZ1.out HZ2.out _ _ _ rfl hown s rfl ?c3 ?c4 ?c5 ?_)
  case c3 => unfold maxLen; omega
  case c4 => omega
  case c5 => have := hb1.size; omega
  intro v' w2 hown' hgrow _
  have hlt : b < w1.heap.size := by
    rcases Nat.lt_or_ge b w1.heap.size with h' | h'
    · exact h'
    · simp [Array.getElem?_eq_none h'] at hbk
  have hb2 : w2.heap[b]? = some (.cells #[.pointer (some ⟨b, 0, none⟩), v] 98 (0, 0)) := by
    rw [hgrow.block b hlt (fun e => hne e.symm)]
    exact hbk
  have d0 : w2.cell? ⟨b, 0, none⟩ = some (.pointer (some ⟨b, 0, none⟩)) := by rw [Lib.cell_of_heap hb2]; rfl
  have d1 : w2.cell? ⟨b, 1, none⟩ = some v := by rw [Lib.cell_of_heap hb2]; rfl
  have f1 : w2.frozen? ⟨b, 1, none⟩ = false := Lib.frozen_of_heap hb2 1
  obtain ⟨ao, n', cap, rfl⟩ : ∃ ao n' cap, v' = .slice ao n' cap := by
    rcases hown'.2 with ⟨hv, _⟩ | ⟨g, cap, cur, hv, _⟩
    · exact ⟨_, _, _, hv⟩
    · exact ⟨_, _, _, hv⟩
  go_wp2
  go_ret2
  refine ⟨rfl, ?_, ?_⟩
  · exact Lib.BuilderAt.put (T := 98) (e := 5) hB hb2 (bs' := bs ++ Lib.strCells s) (by simpa [Lib.strCells_length] using hown') (by decide)
  · exact (hb1.grown hgrow (by have := hb1.size; omega) (fun k hk => (hown.lt k hk).1)).setCell (p := ⟨b, 1, none⟩) hB _
theorem isB_bel {B b : Nat} {bs : List Value} {w w' : World} (h : Lib.IsBuilder 98 5 B b bs w) (hb : Below w.heap.size w w') : Lib.IsBuilder 98 5 B b bs w' := by
  have key : ∀ p, Lib.BuilderAt 98 5 B b p bs w → Lib.BuilderAt 98 5 B b p bs w' := fun p h => by
    have hlt := h.lt
    obtain ⟨hB, v, hbk, hown, hne⟩ := h
    refine ⟨hB, v, (hb.block b hlt).trans hbk, ?_, hne⟩
    rcases hv : v.ownBlock with _ | g
    · exact World.ownsRow.kept hown (only_of_below hb none) (.inl hv)
    · exact World.ownsRow.kept hown (only_of_below hb none) (.inr (by rw [hv]; simp))
  rcases h with h | h
  · exact .inl (key _ h)
  · exact .inr (key _ h)
/-- A text's bytes as cells. -/
def txt (s : ByteArray) : List Value := Lib.byteCells s.data.toList
theorem txt_len (s : ByteArray) : (txt s).length = s.size := by simp [txt, Lib.byteCells_length]
theorem txt_app (s t : ByteArray) : txt s ++ Lib.strCells t = txt (s ++ t) := by
  simp [txt, Lib.byteCells, Lib.strCells, ByteArray.data_append]
set_option maxRecDepth 100000 in
set_option maxHeartbeats 1000000 in
theorem lineText_any (A : Option Addr) (c : Nat) (cs : List Cell) (s : Bool) (w : World) (ha : RdC w A c cs) (hn : cs.length ≤ 1000000) :
    Calls Tryd.prog 50 #[.agg #[.slice A cs.length c, .bool s]] w fun e w' => e = .returned (.string (textsOf (trimL cs))) ∧ Below w.heap.size w w' := by
  have HA := Lib.hid ha
  have hcc := ha.1
  have HAN := Lib.hid ha.2.1
  have hu := usedOf_le cs
  clear ha
  have hru := fun w' => run_upto w' A cs.length c (usedOf cs) hu hcc HAN.out (by omega)
  go_enter Tryd.func50, Tryd.ntmps50
  go_wp2_with fail
  have K0 := Lib.hid ((Blk.new w 59 #[.slice A cs.length c, .bool s]).alloc (.cells #[.pointer none, .slice none 0 0] 98))
  have KB := Lib.hid (Lib.fresh_isBuilder 98 5 (w.alloc (.cells #[.slice A cs.length c, .bool s] 59)))
  have HB := Lib.hid (bel1 (belA (w.alloc (.cells #[.slice A cs.length c, .bool s] 59)) (.cells #[.pointer none, .slice none 0 0] 98)))
  have HW := Lib.hid (show (w.alloc (.cells #[.slice A cs.length c, .bool s] 59)).heap.size = w.heap.size + 1 by simp)
  rw [HW.out] at KB
  generalize (w.alloc (.cells #[.slice A cs.length c, .bool s] 59)).alloc (.cells #[.pointer none, .slice none 0 0] 98) = W at K0 KB HB ⊢
  obtain ⟨hx0, hf0, hz0⟩ := K0.out.facts
  refine wp_region_below (by kernel_rfl) (by kernel_rfl) ?_
  repeat (go_big_quiet_step ((go_at_call 48; exact quiet_below (lineUsed_any A c cs s _ ((HA.out.bel HB.out).bel (below_plus _ _)) hn))))
  refine wpQuiet_nil ?_
  intro w2 hb2
  have KB2 := Lib.hid (isB_bel KB.out hb2)
  have HB2 := Lib.hid (HB.out.trans (hb2.mono HB.out.size))
  have HZ2 := Lib.hid (show w.heap.size + 1 ≤ w2.heap.size by have := hb2.size; have := KB.out; rcases this with h | h <;> (have := h.lt; omega))
  clear KB HB K0 hx0 hf0 hz0 hb2 hru HW
  go_wp2_with fail
  go_loopw [12, 5] (fun i _ wr => ∃ k : Nat, k ≤ usedOf cs ∧ i = .int .i64 k ∧ Lib.IsBuilder 98 5 (w.heap.size + 1) (w.heap.size + 1) (txt (textTo (trimL cs) k)) wr ∧ Below w.heap.size w wr ∧ w.heap.size + 1 ≤ wr.heap.size) (fun i _ _ => usedOf cs - (intOf i).toNat)
  case atStart => exact ⟨0, Nat.zero_le _, rfl, KB2.out, HB2.out, HZ2.out⟩
  case round =>
    clear KB2 HB2 HZ2
    obtain ⟨k, hk, rfl, hbu, hb, hz⟩ := hrel
    have HU := Lib.hid hbu
    have HB := Lib.hid hb
    have HZ := Lib.hid hz
    clear hbu hb hz
    by_cases hlt : k < usedOf cs
    · have hlt2 : k < cs.length := by omega
      obtain ⟨b1, o1, rfl, hz1, hr1⟩ := (HA.out.bel HB.out).at_ hlt2
      have hc1 := elem_cell hr1 hlt2
      clear hr1
      go_wp2_with fail
      refine (cellText_any _ _).mono ?_
      rintro e w3 ⟨rfl, hb3⟩
      have HU3 := Lib.hid (isB_bel HU.out (bel1 hb3))
      have HB3 := Lib.hid (HB.out.trans ((bel1 hb3).mono HB.out.size))
      have HZ3 := Lib.hid (show w.heap.size + 1 ≤ w3.heap.size by have := (bel1 hb3).size; have := HZ.out; omega)
      clear hb3
      go_wp2_with fail
      refine (writeString_any _ _ _ _ _ HU3.out (by rw [txt_len]; have := textTo_size (trimL cs) k; have := text_size cs[k]; omega) HZ3.out).mono ?_
      rintro e w4 ⟨rfl, hbu, hb4⟩
      have HT := Lib.hid (show txt (textTo (trimL cs) k) ++ Lib.strCells cs[k].text = txt (textTo (trimL cs) (k + 1)) by rw [txt_app, textTo_succ (by rw [trim_length]; exact hlt)]; simp [trimL])
      have HU4 := Lib.hid (HT.out ▸ hbu)
      have HB4 := Lib.hid (HB3.out.trans (hb4.mono (Nat.le_succ _)))
      have HZ4 := Lib.hid (show w.heap.size + 1 ≤ w4.heap.size by have := hb4.size; have := HZ3.out; omega)
      clear hbu hb4 HT
      go_wp2_with fail
      go_roundw
      case rel => exact ⟨k + 1, by omega, by go_num, .inr HU4.out, HB4.out, HZ4.out⟩
      case measure => simp [intOf]; omega
    · obtain rfl : k = usedOf cs := by omega
      go_wp2_with fail
      refine (bString _ _ _ _ HU.out HZ.out).mono ?_
      rintro e w3 ⟨rfl, hb3⟩
      have HE := Lib.hid (show (⟨(textTo (trimL cs) (usedOf cs)).data.toList.toArray⟩ : ByteArray) = textsOf (trimL cs) by unfold textsOf; rw [trim_length])
      rw [HE.out]
      go_wp2_with fail
      go_ret
      exact ⟨rfl, HB.out.trans (hb3.mono (Nat.le_succ _))⟩
set_option maxRecDepth 100000 in
set_option maxHeartbeats 1000000 in
theorem r06Text_any (A : Option Addr) (c : Nat) (cs : List Cell) (s : Bool) (w : World) (ha : RdC w A c cs) (hn : cs.length ≤ 1000000) :
    Calls Tryd.prog 51 #[.agg #[.slice A cs.length c, .bool s]] w fun e w' => e = .returned (.string (textsOf (trimL cs))) ∧ Below w.heap.size w w' := by
  have HA := Lib.hid ha
  have hcc := ha.1
  have HAN := Lib.hid ha.2.1
  have hu := usedOf_le cs
  clear ha
  have hru := fun w' => run_upto w' A cs.length c (usedOf cs) hu hcc HAN.out (by omega)
  have HTX := Lib.hid (fun w' (hr : RdC w' A c cs) => (trim_length cs) ▸ r04Texts_any A c (trimL cs) w' (hr.upto _) (by rw [trim_length]; omega))
  go_enter Tryd.func51, Tryd.ntmps51
  go_wp2_with fail
  have K0 := Lib.hid (Blk.new w 59 #[.slice A cs.length c, .bool s])
  have HB := Lib.hid (belA w (.cells #[.slice A cs.length c, .bool s] 59))
  generalize w.alloc (.cells #[.slice A cs.length c, .bool s] 59) = W at K0 HB ⊢
  obtain ⟨hx0, hf0, hz0⟩ := K0.out.facts
  refine wp_region_below (by kernel_rfl) (by kernel_rfl) ?_
  repeat (go_big_quiet_step ((first | (go_at_call 49; exact quiet_below (r06Used_any A c cs s _ ((HA.out.bel HB.out).bel (below_plus _ _)) hn)) | (go_at_call 25; exact quiet_below (HTX.out _ ((HA.out.bel HB.out).bel (below_plus _ _)))))))
  refine wpQuiet_nil ?_
  intro w2 hb2
  go_wp2_with fail
  go_ret
  exact ⟨rfl, HB.out.trans (hb2.mono HB.out.size)⟩
end Go.Proofs.YtmfhepjmmpnkaaaDoor
