/-
  The text of a cell: cell.Text and the reference's.
-/
import Derived.Test.YtmfhepjmmpnkaaaDoorSlice
import Derived.WalkLawsBesides
import Derived.WalkSpells
import Derived.Laws.Cover4
import Derived.Maps.AppendAt
import Derived.OwnWalk
set_option linter.unusedSimpArgs false
set_option linter.unusedVariables false
namespace Go.Proofs.YtmfhepjmmpnkaaaDoor
open Go.RowKit

def addM (s : ByteArray) (m : Int) : ByteArray := if m = 0 then s else s ++ Utf8.encode m
def Cell.text (c : Cell) : ByteArray := if c.width = 0 then ⟨#[]⟩ else if c.rune = 0 then ⟨#[32]⟩ else addM (addM (addM (Utf8.encode c.rune) c.m0) c.m1) c.m2

/-- The text after k marks. -/
def Cell.tx (c : Cell) : Nat → ByteArray
  | 0 => Utf8.encode c.rune
  | 1 => addM (Utf8.encode c.rune) c.m0
  | 2 => addM (addM (Utf8.encode c.rune) c.m0) c.m1
  | _ => addM (addM (addM (Utf8.encode c.rune) c.m0) c.m1) c.m2

theorem enc_size (r : Int) : (Utf8.encode r).size ≤ 4 := by
  unfold Utf8.encode
  simp only
  generalize (if Utf8.valid r = true then r.toNat else Utf8.runeError) = c
  split
  · exact Nat.le_of_ble_eq_true rfl
  · split
    · exact Nat.le_of_ble_eq_true rfl
    · split <;> exact Nat.le_of_ble_eq_true rfl
theorem addM_size (s : ByteArray) (m : Int) : (addM s m).size ≤ s.size + 4 := by
  unfold addM
  split
  · omega
  · have := enc_size m; simp [ByteArray.size_append]; omega
theorem tx_size (c : Cell) (k : Nat) : (c.tx k).size ≤ 16 := by
  have h0 := enc_size c.rune
  have h1 := addM_size (Utf8.encode c.rune) c.m0
  have h2 := addM_size (addM (Utf8.encode c.rune) c.m0) c.m1
  have h3 := addM_size (addM (addM (Utf8.encode c.rune) c.m0) c.m1) c.m2
  rcases k with _ | _ | _ | k <;> simp only [Cell.tx] <;> omega
theorem text_size (c : Cell) : c.text.size ≤ 16 := by
  have := tx_size c 3
  unfold Cell.text
  split
  · exact Nat.le_of_ble_eq_true rfl
  · split
    · exact Nat.le_of_ble_eq_true rfl
    · exact this
set_option maxHeartbeats 1000000 in
theorem cellText_any (c : Cell) (w : World) : Calls Tryd.prog 33 #[.agg (cv c)] w fun e w' => e = .returned (.string c.text) ∧ Below w.heap.size w w' := by
  by_cases h0 : c.width = 0
  · have h0' := beq_yes h0
    have HO := Lib.hid (show c.text = ⟨#[]⟩ by simp [Cell.text, h0])
    clear h0
    go_enter Tryd.func33, Tryd.ntmps33
    go_wp2_with fail
    go_ret
    exact ⟨by rw [HO.out]; rfl, (Below.refl _ _).alloc (Nat.le_refl _) _⟩
  have h0' := beq_no h0
  by_cases h1 : c.rune = 0
  · have h1' := beq_yes h1
    have HO := Lib.hid (show c.text = ⟨#[32]⟩ by simp [Cell.text, h0, h1])
    clear h0 h1
    go_enter Tryd.func33, Tryd.ntmps33
    go_wp2_with fail
    go_ret
    exact ⟨by rw [HO.out]; rfl, (Below.refl _ _).alloc (Nat.le_refl _) _⟩
  have h1' := beq_no h1
  have HO := Lib.hid (show c.text = c.tx 3 by simp [Cell.text, Cell.tx, h0, h1])
  clear h0 h1
  go_enter Tryd.func33, Tryd.ntmps33
  go_wp2_with fail
  go_loop [3, 19] (fun s i => ∃ k : Nat, k ≤ 3 ∧ i = .int .i64 k ∧ s = .string (c.tx k)) (fun _ i => 3 - (intOf i).toNat)
  case atStart => exact ⟨0, by omega, rfl, rfl⟩
  case round =>
    obtain ⟨k, hk, rfl, rfl⟩ := hrel
    have hts := tx_size c k
    have hm0 := enc_size c.m0
    have hm1 := enc_size c.m1
    have hm2 := enc_size c.m2
    have hk4 : k = 0 ∨ k = 1 ∨ k = 2 ∨ k = 3 := by omega
    clear hk
    rcases hk4 with rfl | rfl | rfl | rfl
    · by_cases hm : c.m0 = 0
      · have hm' := bne_no hm
        have HM := Lib.hid (show c.tx 1 = c.tx 0 by simp [Cell.tx, addM, hm])
        clear hm
        go_wp2_with fail
        go_round
        case rel => exact ⟨1, by omega, rfl, by rw [HM.out]⟩
        case measure => simp [intOf]
      · have hm' := bne_yes hm
        have HM := Lib.hid (show c.tx 1 = c.tx 0 ++ Utf8.encode c.m0 by simp [Cell.tx, addM, hm])
        clear hm
        go_wp2_with fail
        go_round
        case rel => exact ⟨1, by omega, rfl, by rw [HM.out]⟩
        case measure => simp [intOf]
    · by_cases hm : c.m1 = 0
      · have hm' := bne_no hm
        have HM := Lib.hid (show c.tx 2 = c.tx 1 by simp [Cell.tx, addM, hm])
        clear hm
        go_wp2_with fail
        go_round
        case rel => exact ⟨2, by omega, rfl, by rw [HM.out]⟩
        case measure => simp [intOf]
      · have hm' := bne_yes hm
        have HM := Lib.hid (show c.tx 2 = c.tx 1 ++ Utf8.encode c.m1 by simp [Cell.tx, addM, hm])
        clear hm
        go_wp2_with fail
        go_round
        case rel => exact ⟨2, by omega, rfl, by rw [HM.out]⟩
        case measure => simp [intOf]
    · by_cases hm : c.m2 = 0
      · have hm' := bne_no hm
        have HM := Lib.hid (show c.tx 3 = c.tx 2 by simp [Cell.tx, addM, hm])
        clear hm
        go_wp2_with fail
        go_round
        case rel => exact ⟨3, by omega, rfl, by rw [HM.out]⟩
        case measure => simp [intOf]
      · have hm' := bne_yes hm
        have HM := Lib.hid (show c.tx 3 = c.tx 2 ++ Utf8.encode c.m2 by simp [Cell.tx, addM, hm])
        clear hm
        go_wp2_with fail
        go_round
        case rel => exact ⟨3, by omega, rfl, by rw [HM.out]⟩
        case measure => simp [intOf]
    · go_wp2_with fail
      go_ret
      exact ⟨by rw [HO.out]; rfl, (Below.refl _ _).alloc (Nat.le_refl _) _⟩

/-- The reference's runes of a cell. -/
def Cell.runes (c : Cell) : Nat → List Int
  | 0 => [c.rune]
  | 1 => [c.rune] ++ (if c.m0 = 0 then [] else [c.m0])
  | 2 => [c.rune] ++ (if c.m0 = 0 then [] else [c.m0]) ++ (if c.m1 = 0 then [] else [c.m1])
  | _ => [c.rune] ++ (if c.m0 = 0 then [] else [c.m0]) ++ (if c.m1 = 0 then [] else [c.m1]) ++ (if c.m2 = 0 then [] else [c.m2])
theorem runesBytes_snoc (l : List Int) (m : Int) : runesBytes (l ++ [m]) = runesBytes l ++ Utf8.encode m := by simp [runesBytes]
theorem bytes_empty (s : ByteArray) : ByteArray.empty ++ s = s := by
  cases s; simp [ByteArray.ext_iff]
theorem runes_add (l : List Int) (m : Int) : runesBytes (l ++ (if m = 0 then [] else [m])) = addM (runesBytes l) m := by
  unfold addM
  split
  · simp
  · rw [runesBytes_snoc]
theorem runes_tx (c : Cell) : runesBytes (c.runes 3) = c.tx 3 := by
  have h0 : runesBytes [c.rune] = Utf8.encode c.rune := by simp [runesBytes, bytes_empty]
  simp only [Cell.runes, Cell.tx, runes_add, h0]
theorem runes_len (c : Cell) (k : Nat) : 0 < (c.runes k).length ∧ (c.runes k).length ≤ 4 := by
  rcases k with _ | _ | _ | k <;> simp [Cell.runes] <;> (repeat' split) <;> simp
theorem i32_info : (Tryd.prog.info? 21).map (fun i => (i.zero, i.size, i.bytes)) = some (some (.int .i32 0), 1, 4) := by kernel_rfl
/-- The call owns a slice of runes. -/
def OwnI (w : World) (B : Nat) (v : Value) (l : List Int) : Prop := w.ownsRow B 21 1 v l.length (l.map (.int .i32))
theorem OwnI.one (w : World) (B : Nat) (r : Int) (hB : B ≤ w.heap.size) : OwnI (w.alloc (.cells #[.int .i32 r] 21)) B (.slice (some ⟨w.heap.size, 0, none⟩) 1 1) [r] :=
  ⟨by simp, .inr ⟨w.heap.size, 1, _, rfl, hB, heap_alloc_new w _, Nat.le_refl _, by simp [maxLen], by simp, by simp⟩⟩
theorem OwnI.text {w : World} {B : Nat} {v : Value} {l : List Int} (h : OwnI w B v l) (hl : 0 < l.length) : (convert 38 9 v).run Tryd.prog w = .ok (.string (runesBytes l)) w := by
  obtain ⟨g, cap, rfl, _, _⟩ := h.form hl
  have := run_convert_runes (P := Tryd.prog) w 38 9 21 ⟨g, 0, none⟩ l.length cap l (Nat.le_refl _) Tryd.underlying38 Tryd.underlying21 Tryd.underlying9
    (fun j hj => by
      have := h.cells (g := g) rfl j (.int .i32 (l.getD j 0)) (by simp [hj])
      exact this)
  rw [this, List.take_of_length_le (Nat.le_refl _)]
theorem OwnI.lt {w : World} {B : Nat} {v : Value} {l : List Int} (h : OwnI w B v l) : ∀ k, v.ownBlock = some k → B ≤ k := fun k hk => (World.ownsRow.lt h k hk).1

theorem wpList_appI {ops : Array Oper} {rest : List Oper} {o : Oper} {a : Act} {w : World} {Q : Exit → Act → World → Prop} (hgd : o.guard = none) (s x : Operand)
    (ho : o.op = .call { callee := .builtin .append, args := #[s, x], argTypes := #[38, 38] })
    (B : Nat) (v : Value) (l : List Int) (hs : a.eval s = v) (hown : OwnI w B v l) (m : Int) (hx : a.eval x = .slice (some ⟨w.heap.size, 0, none⟩) 1 1) (hl : l.length ≤ 1000) (hB : B ≤ w.heap.size)
    (h : ∀ v' w', OwnI w' B v' (l ++ [m]) → (w.alloc (.cells #[.int .i32 m] 21)).grownBy w' v.ownBlock → wpList Tryd.prog ops Q rest (a.put o.dst v') w') : wpList Tryd.prog ops Q (o :: rest) a (w.alloc (.cells #[.int .i32 m] 21)) := by
  obtain ⟨i, hi, hz0, hz1, hz2⟩ := info_parts i32_info
  refine wpList_append_own_at _ hgd s x 38 ho B 21 i _ 1 4 Tryd.underlying38 hi hz0 hz1 hz2 rfl (by omega) v l.length (l.map (.int .i32)) hs (World.ownsRow.alloc hown _) ⟨w.heap.size, 0, none⟩ 1 1 [.int .i32 m] hx rfl (cell_one_new _ _ _) (by simp [Value.oneCell'])
      (by simp only [maxLen]; omega) (by omega) (by simp; omega) fun v' w' g1 g2 _ g4 => h v' w' ?_ g2
  unfold OwnI
  simpa using g1
/-- What a round that appends a mark does. -/
theorem own_step {w wr w1 : World} {c : Cell} {v v' : Value} {l : List Int} {m : Int} (hx : Blk wr w.heap.size 30 (cv c)) (hb : Below w.heap.size w wr) (ho : OwnI wr (w.heap.size + 1) v l)
    (h1 : OwnI w1 (w.heap.size + 1) v' (l ++ [m])) (hg : (wr.alloc (.cells #[.int .i32 m] 21)).grownBy w1 v.ownBlock) :
    OwnI w1 (w.heap.size + 1) v' (l ++ [m]) ∧ Blk w1 w.heap.size 30 (cv c) ∧ Below w.heap.size w w1 := by
  have hz := hb.size
  refine ⟨h1, (hx.alloc _).grown hg (fun e => ?_), (hb.alloc hz _).grown hg (by simp; omega) (fun k hk => ?_)⟩
  · have := ho.lt _ e.symm; omega
  · have := ho.lt k hk; omega

set_option maxRecDepth 100000 in
set_option maxHeartbeats 4000000 in
theorem r04Text_any (c : Cell) (w : World) : Calls Tryd.prog 37 #[.agg (cv c)] w fun e w' => e = .returned (.string c.text) ∧ Below w.heap.size w w' := by
  by_cases h0 : c.width = 0
  · have h0' := beq_yes h0
    have HO := Lib.hid (show c.text = ⟨#[]⟩ by simp [Cell.text, h0])
    clear h0
    go_enter Tryd.func37, Tryd.ntmps37
    go_wp2_with fail
    go_ret
    exact ⟨by rw [HO.out]; rfl, (Below.refl _ _).alloc (Nat.le_refl _) _⟩
  have h0' := beq_no h0
  by_cases h1 : c.rune = 0
  · have h1' := beq_yes h1
    have HO := Lib.hid (show c.text = ⟨#[32]⟩ by simp [Cell.text, h0, h1])
    clear h0 h1
    go_enter Tryd.func37, Tryd.ntmps37
    go_wp2_with fail
    go_ret
    exact ⟨by rw [HO.out]; rfl, (Below.refl _ _).alloc (Nat.le_refl _) _⟩
  have h1' := beq_no h1
  have HO := Lib.hid (show c.text = c.tx 3 by simp [Cell.text, Cell.tx, h0, h1])
  clear h0 h1
  go_enter Tryd.func37, Tryd.ntmps37
  go_wp2_with fail
  go_loopw [3, 4] (fun v i wr => ∃ k : Nat, k ≤ 3 ∧ i = .int .i64 k ∧ OwnI wr (w.heap.size + 1) v (c.runes k) ∧ Blk wr w.heap.size 30 (cv c) ∧ Below w.heap.size w wr) (fun _ i _ => 3 - (intOf i).toNat)
  case atStart => exact ⟨0, by omega, rfl, by have := OwnI.one (w.alloc (.cells (cv c) 30)) (w.heap.size + 1) c.rune (by simp); simp only [World.size_alloc] at this; exact this, (Blk.new _ _ _).alloc _, ((Below.refl _ _).alloc (Nat.le_refl _) _).alloc (by simp) _⟩
  case round =>
    obtain ⟨k, hk, rfl, ho, hx, hb⟩ := hrel
    have HN := Lib.hid ho
    have HX := Lib.hid hx
    have HB := Lib.hid hb
    obtain ⟨hx1, hf, hz, hca, hpa⟩ := hx.box
    have hw0 := hb.size
    clear ho hx hb hca hpa
    have hk4 : k = 0 ∨ k = 1 ∨ k = 2 ∨ k = 3 := by omega
    clear hk
    have hlen := (runes_len c k).2
    rcases hk4 with rfl | rfl | rfl | rfl
    · by_cases hm : c.m0 = 0
      · have hm' := bne_no hm
        have HM := Lib.hid (show c.runes 1 = c.runes 0 by simp [Cell.runes, hm])
        clear hm
        go_wp2_with fail
        go_roundw
        case rel => exact ⟨1, by omega, rfl, by rw [HM.out]; exact HN.out, HX.out, HB.out⟩
        case measure => simp [intOf]
      · have hm' := bne_yes hm
        have HM := Lib.hid (show c.runes 1 = c.runes 0 ++ [c.m0] by simp [Cell.runes, hm])
        clear hm
        go_wp2_with (at_builtin; (refine wpList_appI rfl _ _ rfl (w.heap.size + 1) _ _ rfl HN.out _ rfl (by omega) (by omega) ?_); intro v1 w1 hown1 hg1; have hst := own_step HX.out HB.out HN.out hown1 hg1; have HST := Lib.hid hst; clear hst hown1 hg1)
        go_roundw
        case rel => exact ⟨1, by omega, rfl, by rw [HM.out]; exact HST.out.1, HST.out.2.1, HST.out.2.2⟩
        case measure => simp [intOf]
    · by_cases hm : c.m1 = 0
      · have hm' := bne_no hm
        have HM := Lib.hid (show c.runes 2 = c.runes 1 by simp [Cell.runes, hm])
        clear hm
        go_wp2_with fail
        go_roundw
        case rel => exact ⟨2, by omega, rfl, by rw [HM.out]; exact HN.out, HX.out, HB.out⟩
        case measure => simp [intOf]
      · have hm' := bne_yes hm
        have HM := Lib.hid (show c.runes 2 = c.runes 1 ++ [c.m1] by simp [Cell.runes, hm])
        clear hm
        go_wp2_with (at_builtin; (refine wpList_appI rfl _ _ rfl (w.heap.size + 1) _ _ rfl HN.out _ rfl (by omega) (by omega) ?_); intro v1 w1 hown1 hg1; have hst := own_step HX.out HB.out HN.out hown1 hg1; have HST := Lib.hid hst; clear hst hown1 hg1)
        go_roundw
        case rel => exact ⟨2, by omega, rfl, by rw [HM.out]; exact HST.out.1, HST.out.2.1, HST.out.2.2⟩
        case measure => simp [intOf]
    · by_cases hm : c.m2 = 0
      · have hm' := bne_no hm
        have HM := Lib.hid (show c.runes 3 = c.runes 2 by simp [Cell.runes, hm])
        clear hm
        go_wp2_with fail
        go_roundw
        case rel => exact ⟨3, by omega, rfl, by rw [HM.out]; exact HN.out, HX.out, HB.out⟩
        case measure => simp [intOf]
      · have hm' := bne_yes hm
        have HM := Lib.hid (show c.runes 3 = c.runes 2 ++ [c.m2] by simp [Cell.runes, hm])
        clear hm
        go_wp2_with (at_builtin; (refine wpList_appI rfl _ _ rfl (w.heap.size + 1) _ _ rfl HN.out _ rfl (by omega) (by omega) ?_); intro v1 w1 hown1 hg1; have hst := own_step HX.out HB.out HN.out hown1 hg1; have HST := Lib.hid hst; clear hst hown1 hg1)
        go_roundw
        case rel => exact ⟨3, by omega, rfl, by rw [HM.out]; exact HST.out.1, HST.out.2.1, HST.out.2.2⟩
        case measure => simp [intOf]
    · have hcv := HN.out.text (runes_len c 3).1
      have HR := Lib.hid (runes_tx c)
      go_wp2_with fail
      go_ret
      exact ⟨by rw [HO.out, ← HR.out]; rfl, HB.out⟩

/-- The text of the first k cells. -/
def textTo (cs : List Cell) (k : Nat) : ByteArray := (cs.take k).foldl (fun s c => s ++ c.text) ⟨#[]⟩
theorem textTo_size (cs : List Cell) (k : Nat) : (textTo cs k).size ≤ 16 * k := by
  unfold textTo
  induction k with
  | zero => exact Nat.le_refl _
  | succ k ih =>
    rcases Nat.lt_or_ge k cs.length with h | h
    · rw [List.take_succ_eq_append_getElem h, List.foldl_append]
      have := text_size cs[k]
      simp only [List.foldl_cons, List.foldl_nil, ByteArray.size_append]; omega
    · rw [List.take_of_length_le (by omega)] at ih ⊢; omega
def textsOf (cs : List Cell) : ByteArray := textTo cs cs.length
theorem textTo_succ {cs : List Cell} {k : Nat} (h : k < cs.length) : textTo cs (k + 1) = textTo cs k ++ cs[k].text := by
  unfold textTo
  rw [List.take_succ_eq_append_getElem h, List.foldl_append]
  rfl

set_option maxHeartbeats 1000000 in
theorem cellTexts_any (A : Option Addr) (c : Nat) (cs : List Cell) (w : World) (ha : RdC w A c cs) (hn : cs.length ≤ 1000000) :
    Calls Tryd.prog 24 #[.slice A cs.length c] w fun e w' => e = .returned (.string (textsOf cs)) ∧ Below w.heap.size w w' := by
  have HA := Lib.hid ha
  clear ha
  go_enter Tryd.func24, Tryd.ntmps24
  go_wp2_with fail
  go_loopw [3, 8] (fun s i wr => ∃ k : Nat, k ≤ cs.length ∧ i = .int .i64 k ∧ s = .string (textTo cs k) ∧ Below w.heap.size w wr) (fun _ i _ => cs.length - (intOf i).toNat)
  case atStart => exact ⟨0, by omega, rfl, rfl, Below.refl _ _⟩
  case round =>
    obtain ⟨k, hk, rfl, rfl, hb⟩ := hrel
    have HW := Lib.hid hb
    clear hb
    by_cases hlt : k < cs.length
    · obtain ⟨b1, o1, rfl, hz1, hr1⟩ := (HA.out.bel HW.out).at_ hlt
      have hc1 := elem_cell hr1 hlt
      have HS := Lib.hid (textTo_succ hlt)
      have hs1 := textTo_size cs k
      have hs2 := text_size cs[k]
      clear hr1
      go_wp2_with fail
      refine (cellText_any _ _).mono ?_
      rintro e w2 ⟨rfl, hb2⟩
      obtain ⟨_, hb3⟩ := box_call hb2 (by simp)
      go_wp2_with fail
      go_roundw
      case rel => exact ⟨k + 1, by omega, by go_num, by rw [HS.out], HW.out.trans (hb3.mono HW.out.size)⟩
      case measure => simp [intOf]; omega
    · obtain rfl : k = cs.length := by omega
      go_wp2_with fail
      go_ret
      exact ⟨rfl, HW.out⟩
set_option maxHeartbeats 1000000 in
theorem r04Texts_any (A : Option Addr) (c : Nat) (cs : List Cell) (w : World) (ha : RdC w A c cs) (hn : cs.length ≤ 1000000) :
    Calls Tryd.prog 25 #[.slice A cs.length c] w fun e w' => e = .returned (.string (textsOf cs)) ∧ Below w.heap.size w w' := by
  have HA := Lib.hid ha
  clear ha
  go_enter Tryd.func25, Tryd.ntmps25
  go_wp2_with fail
  go_loopw [3, 4] (fun s i wr => ∃ k : Nat, k ≤ cs.length ∧ i = .int .i64 k ∧ s = .string (textTo cs k) ∧ Below w.heap.size w wr) (fun _ i _ => cs.length - (intOf i).toNat)
  case atStart => exact ⟨0, by omega, rfl, rfl, Below.refl _ _⟩
  case round =>
    obtain ⟨k, hk, rfl, rfl, hb⟩ := hrel
    have HW := Lib.hid hb
    clear hb
    by_cases hlt : k < cs.length
    · obtain ⟨b1, o1, rfl, hz1, hr1⟩ := (HA.out.bel HW.out).at_ hlt
      have hc1 := elem_cell hr1 hlt
      have HS := Lib.hid (textTo_succ hlt)
      have hs1 := textTo_size cs k
      have hs2 := text_size cs[k]
      clear hr1
      go_wp2_with fail
      refine (r04Text_any _ _).mono ?_
      rintro e w2 ⟨rfl, hb2⟩
      go_wp2_with fail
      go_roundw
      case rel => exact ⟨k + 1, by omega, by go_num, by rw [HS.out], HW.out.trans (hb2.mono HW.out.size)⟩
      case measure => simp [intOf]; omega
    · obtain rfl : k = cs.length := by omega
      go_wp2_with fail
      go_ret
      exact ⟨rfl, HW.out⟩
end Go.Proofs.YtmfhepjmmpnkaaaDoor
