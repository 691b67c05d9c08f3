/-
  PrinterHolds: the law returns true.
-/
import Derived.Test.YtppijfjigcoifaaDoorS4
set_option linter.unusedSimpArgs false
set_option linter.unusedVariables false
namespace Go.Proofs.YtppijfjigcoifaaDoor
open Go.RowKit

def bare (wr : Wrs) : Wrs := wr.map fun e => (e.1, e.2.1, e.2.2.1, fun _ => .none)
theorem stageOk_bare (t : List Nat) (n m : Nat) (wr : Wrs) (rd : List (List Nat)) : stageOk t n m wr rd = stageOk t n m (bare wr) rd := by
 simp [stageOk, bare, List.all_map, Function.comp_def]
theorem Objs.two_ne {w0 w : World} {os : List Ob} (h : Objs w0 w os) {i j g g' : Nat} {t t' : TypeId} {cs cs' : Array Value} (hi : os[i]? = some (.box g t cs)) (hj : os[j]? = some (.box g' t' cs')) (hij : i ≠ j) : g ≠ g' := by
 obtain ⟨F, h1, h2, h3, h4⟩ := h.ex
 rintro rfl
 exact hij (h4 i j g (((h1 i _ hi).2 g).2 rfl) (((h1 j _ hj).2 g).2 rfl))
set_option maxRecDepth 100000 in
set_option maxHeartbeats 400000000 in
theorem l16PrinterHolds_any (rows cols : Int) (Al : Option Addr) (cl : Nat) (l : List Act16) (w : World) (hT : Tabs w) (hal : RdRec w Al cl 16 (l.map av16)) (hml : cl ≤ maxLen) :
  Calls Tryd.prog 9 #[.int .i64 rows, .int .i64 cols, .slice Al l.length cl] w fun e w' => e = .returned (.bool true) ∧ Below w.heap.size w w' := by
 have HT := Lib.hid hT
 have HAL := Lib.hid hal
 have hlm : l.length ≤ 9223372036854775807 := by have := hal.1; unfold maxLen at hml; simp at this; omega
 clear hT hal hml
 have hcases : (rows < 1 ∨ (1 ≤ rows ∧ 6 < rows) ∨ ((1 ≤ rows ∧ rows ≤ 6) ∧ cols < 1) ∨ ((1 ≤ rows ∧ rows ≤ 6) ∧ 1 ≤ cols ∧ 12 < cols) ∨ ((1 ≤ rows ∧ rows ≤ 6) ∧ (1 ≤ cols ∧ cols ≤ 12) ∧ 60 < (l.length : Int))) ∨ ((1 ≤ rows ∧ rows ≤ 6) ∧ (1 ≤ cols ∧ cols ≤ 12) ∧ (l.length : Int) ≤ 60) := by omega
 rcases hcases with hno | ⟨⟨h1, h2⟩, ⟨h3, h4⟩, h5⟩
 ·rcases hno with h | ⟨h, h2⟩ | ⟨⟨h, h2⟩, h3⟩ | ⟨⟨h, h2⟩, h3, h4⟩ | ⟨⟨h, h2⟩, ⟨h3, h4⟩, h5⟩
  all_goals
   go_enter Tryd.func9, Tryd.ntmps9
   go_wp2_with fail
   refine (l16known_any _ HT.out).mono ?_
   rintro e w1 ⟨rfl, hb⟩
   go_wp2_with fail
   go_ret
   exact ⟨rfl, hb⟩
 obtain ⟨rr, rfl⟩ : ∃ rr : Nat, rows = rr := ⟨rows.toNat, by omega⟩
 obtain ⟨s, rfl⟩ : ∃ s : Nat, cols = s := ⟨cols.toNat, by omega⟩
 have g1 : 1 ≤ rr := by omega
 have g2 : rr ≤ 6 := by omega
 have g3 : 1 ≤ s := by omega
 have g4 : s ≤ 12 := by omega
 have hc0 : 0 < s := by omega
 have hcm0 : s ≤ 1000 := by omega
 have hrp : 0 < rr := by omega
 go_enter Tryd.func9, Tryd.ntmps9
 go_wp2_with fail
 refine (gridNew_yes rr s g1 (by omega) g3 (by omega) w _ [] (objs_start w)).mono ?_
 rintro e w1 ⟨p, rfl, hS⟩
 obtain ⟨L0, hL0⟩ : ∃ L0, L0 = List.replicate rr (List.replicate s (blank pen0), false) := ⟨_, rfl⟩
 have HK0 := Lib.hid (show Kept14 s rr L0 by rw [hL0]; exact kept14_new s rr)
 rw [← hL0] at hS
 have S1 := Lib.hid hS
 clear hS hL0
 go_upto_region 7 with (fail)
 refine at_objsC (S1.out.alloc1 (c1 := #[.int .i64 0, .int .i64 0, .bool false]) (t1 := 48)) (fun W hW => ?_)
 generalize w1.heap.size = b9 at hW ⊢
 have S2 := Lib.hid (show Objs w W [.grid p 58 ↑s L0, .box b9 48 #[.int .i64 ↑(0 : Nat), .int .i64 ↑(0 : Nat), .bool false]] from (Objs.pick (σ := [_, _]) (os := []) hW [some 1, some 0] (by decide) rfl))
 have HI0 := Lib.hid (show inG ((0 : Nat) : Int) ((0 : Nat) : Int) false rr s = true from ingrid_iff.2 ⟨by omega, by omega, by simp⟩)
 clear hW S1
 go_wp2_with fail
 go_loopg [10] l.length (fun g vi wr => ∃ (k i j : Nat) (pd : Bool) (L0 : List Ln), k ≤ l.length ∧ g = l.length - k ∧ vi = .int .i64 k ∧ Hid (inG i j pd rr s = true) ∧ Hid (Kept14 s rr L0) ∧ Objs w wr [.grid p 58 ↑s L0, .box b9 48 #[.int .i64 ↑i, .int .i64 ↑j, .bool pd]])
 case atStart => exact ⟨0, 0, 0, false, L0, Nat.zero_le _, rfl, rfl, HI0, HK0, S2.out⟩
 case round =>
  as_aux_lemma =>
   clear S2 HK0 HI0 L0
   obtain ⟨k0, i, j, pd, L0, hk0, rfl, rfl, HI0, HK0, hS⟩ := hrel
   have S := Lib.hid hS
   clear hS
   by_cases hlt : k0 < l.length
   case neg =>
    as_aux_lemma =>
     go_wp2_with fail
     refine (l16known_any _ (S.out.tabs HT.out)).mono ?_
     rintro e w4 ⟨rfl, hb⟩
     have HB := Lib.hid (S.out.bel hb).base
     clear hb
     go_wp2_with fail
     go_ret
     exact ⟨rfl, HB.out⟩
   have hing := ingrid_iff.1 HI0.out
   have hir : i < rr := by omega
   have hjs : j < s := by omega
   clear hing
   obtain ⟨a1, ha1⟩ : ∃ a1, a1 = l[k0] := ⟨_, rfl⟩
   obtain ⟨ba, oa, rfl, hba, hre⟩ := HAL.out.at_ (i := k0) (r := av16 a1) (by simp [hlt, ha1])
   have hlz : (0 : Int) ≤ (k0 : Int) := by omega
   have hlz2 : (k0 : Int) < (l.length : Int) := by omega
   have hrec := (recAt_below S.out.base hba (oa + k0 * 16) 16).trans hre
   have hL0m : L0.length ≤ 1000 := by rw [HK0.out.2.1]; omega
   clear hre ha1
   go_upto_region 11 with (fail)
   clear hrec
   refine at_objsC (S.out.alloc1 (c1 := av16 a1) (t1 := 56)) (fun W hW => ?_)
   generalize wr.heap.size = b11 at hW ⊢
   have S1 := Lib.hid hW
   clear hW S
   go_wp2_with fail
   refine (Lines_any S1.out (k := 1) rfl hc0 (HK0.out.1.mill hcm0) (by omega)).mono ?_
   rintro x w4 ⟨v12, rfl, hS⟩
   obtain ⟨A12, c12, rfl, -, -⟩ := hS.linesRd (k := 0) rfl
   have S2 := Lib.hid hS
   clear hS S1
   obtain ⟨hx9, hf9, hz9⟩ := (S2.out.box (k := 3) rfl).facts
   go_upto_region 13 with (fail)
   clear hx9 hf9 hz9
   refine at_objsC (S2.out.alloc1 (c1 := #[.int .i64 ↑i, .int .i64 ↑j, .bool pd]) (t1 := 48)) (fun W hW => ?_)
   generalize w4.heap.size = b13 at hW ⊢
   have S3 := Lib.hid (show Objs w W [.lines (.slice A12 L0.length c12) L0, .box b13 48 #[.int .i64 ↑i, .int .i64 ↑j, .bool pd], .box b11 56 (av16 a1), .grid p 58 ↑s L0, .box b9 48 #[.int .i64 ↑i, .int .i64 ↑j, .bool pd]] from (Objs.pick (σ := [_, _, _, _, _]) (os := []) hW [some 1, some 0, some 2, some 3, some 4] (by decide) rfl))
   clear hW S2
   obtain ⟨hx11, hf11, hz11, hr11, hp11⟩ := (S3.out.box (k := 2) rfl).act16
   obtain ⟨hx9, hf9, hz9⟩ := (S3.out.box (k := 4) rfl).facts
   obtain ⟨hx13, hf13, hz13⟩ := (S3.out.box (k := 1) rfl).facts
   go_upto_block 2 with (fail)
   go_cut [14, 15] (fun s14 s15 wx => ∃ (i2 j2 : Nat) (pd2 : Bool) (L1 : List Ln) (e : Int) (mk : Bool), s14 = .int .i64 e ∧ s15 = .bool mk ∧ Hid (HoR s rr a1 i j L0 L1 i2 j2 pd2 e mk) ∧ Objs w wx [.lines (.slice A12 L0.length c12) L0, .box b13 48 #[.int .i64 ↑i2, .int .i64 ↑j2, .bool pd2], .box b11 56 (av16 a1), .grid p 58 ↑s L1, .box b9 48 #[.int .i64 ↑i, .int .i64 ↑j, .bool pd]])
   case first =>
    as_aux_lemma =>
     by_cases h0 : a1.what = 0
     case pos =>
      as_aux_lemma =>
       have hb0 := beq_yes h0
       have H0 := Lib.hid h0
       clear h0
       obtain ⟨i2, j2, pd2, L1, e, HRR, hcall⟩ := hoPrint (p := p) H0.out HT.out hc0 hcm0 hrp HK0.out HI0.out
       have HR := Lib.hid HRR
       have HCALL := Lib.hid hcall
       clear HRR hcall
       go_wp2_with fail
       refine (HCALL.out W _ 3 S3.out rfl).mono ?_
       rintro x w6 ⟨rfl, hS⟩
       have S4 := Lib.hid hS
       clear hS hx9 hf9 hz9 hx11 hf11 hz11 hr11 hp11 hx13 hf13 hz13
       obtain ⟨hx13, hf13, hz13⟩ := (S4.out.box (k := 1) rfl).facts
       have SF := Lib.hid (S4.out.setCur 1 (r := ↑i2) (c := ↑j2) (b := pd2) rfl)
       go_wp2_with fail
       go_meet
       case rel => exact ⟨i2, j2, pd2, L1, e, false, rfl, rfl, HR, SF.out⟩
     by_cases h1 : a1.what = 1
     case pos =>
      as_aux_lemma =>
       have hb0 := beq_no h0
       have hb1 := beq_yes h1
       have H1 := Lib.hid h1
       clear h0 h1
       obtain ⟨mk, L1, e, HRR, hcall⟩ := hoMark (p := p) H1.out HT.out hc0 hcm0 hrp HK0.out HI0.out
       have HR := Lib.hid HRR
       have HCALL := Lib.hid hcall
       clear HRR hcall
       go_wp2_with fail
       refine (HCALL.out W _ 3 S3.out rfl).mono ?_
       rintro x w6 ⟨rfl, hS⟩
       have S4 := Lib.hid hS
       clear hS
       go_wp2_with fail
       go_meet
       case rel => exact ⟨i, j, pd, L1, e, mk, rfl, rfl, HR, S4.out⟩
     by_cases h2 : a1.what = 2
     case pos =>
      as_aux_lemma =>
       have hb0 := beq_no h0
       have hb1 := beq_no h1
       have hb2 := beq_yes h2
       have H2 := Lib.hid h2
       clear h0 h1 h2
       have HWI := Lib.hid (show IntKind.i64.wrap ((i : Int) + 1) = (i : Int) + 1 from IntWalk.i64_in _ (by omega))
       have hr0 : ((rr : Int) == 0) = false := beq_no (by omega)
       have hmod := Lib.hid (show (((i + 1) % rr : Nat) : Int) = ((i : Int) + 1) % (rr : Int) by simp)
       have hml := Nat.mod_lt (i + 1) hrp
       have SF := Lib.hid (S3.out.setCur 1 (r := ((i : Int) + 1) % (rr : Int)) (c := 0) (b := false) rfl)
       have hwi := HWI.out
       go_wp2_with fail
       clear hwi
       go_meet
       case rel => exact ⟨(i + 1) % rr, 0, false, L0, 0, false, rfl, rfl, Lib.hid (hoR_same HK0.out (fun _ => ingrid_iff.2 ⟨by omega, by omega, by simp⟩) (fun _ h => absurd h (by have := H2.out; omega))), by rw [hmod.out]; exact SF.out⟩
     have hb0 := beq_no h0
     have hb1 := beq_no h1
     have hb2 := beq_no h2
     clear h0 h1 h2
     go_wp2_with fail
     go_meet
     case rel => exact ⟨i, j, pd, L0, 0, false, rfl, rfl, Lib.hid (hoR_same HK0.out (fun _ => HI0.out) (fun _ _ => rfl)), S3.out⟩

   case rest =>
    as_aux_lemma =>
     obtain ⟨i2, j2, pd2, L1, e, mk, rfl, rfl, HR, hS⟩ := hcut
     have S4 := Lib.hid hS
     clear hS S3 hx9 hf9 hz9 hx11 hf11 hz11 hr11 hp11 hx13 hf13 hz13
     have HLL1 := Lib.hid (show L1.length = rr from HR.out.kept.2.1)
     have HK1 := Lib.hid HR.out.kept
     have hL1m : L1.length ≤ 1000 := by have := HLL1.out; omega
     go_wp2_with fail
     refine (Lines_any S4.out (k := 3) rfl hc0 (HK1.out.1.mill hcm0) (by omega)).mono ?_
     rintro x w7 ⟨v16, rfl, hS⟩
     obtain ⟨A16, c16, rfl, -, -⟩ := hS.linesRd (k := 0) rfl
     have S5 := Lib.hid hS
     clear hS S4
     go_upto_region 22 with (fail)
     have hn0 : ((L0.length : Int) != (rr : Int)) = false := bne_no (by rw [HK0.out.2.1])
     have hn1 : ((L1.length : Int) != (rr : Int)) = false := bne_no (by rw [HLL1.out])
     have SR0 := Lib.hid (S5.out.linesRd' (k := 1) rfl).2.2
     have SR1 := Lib.hid (S5.out.linesRd' (k := 0) rfl).2.2
     obtain ⟨hx11, hf11, hz11⟩ := (S5.out.box (k := 3) rfl).facts
     go_cut [135] (fun s135 wx => s135 = .bool false ∧ Objs w wx [.lines (.slice A16 L1.length c16) L1, .lines (.slice A12 L0.length c12) L0, .box b13 48 #[.int .i64 ↑i2, .int .i64 ↑j2, .bool pd2], .box b11 56 (av16 a1), .grid p 58 ↑s L1, .box b9 48 #[.int .i64 ↑i, .int .i64 ↑j, .bool pd]])
     case first =>
      as_aux_lemma =>
       have hsame : (¬ e = 0 ∨ (e = 0 ∧ 0 < a1.what ∧ mk = false)) → Calls Tryd.prog 19 #[.slice A12 L0.length c12, .slice A16 L1.length c16] w7 fun x w' => x = .returned (.bool true) ∧ Below w7.heap.size w7 w' := fun h => by
        have hcon := r14SameLines_any A12 A16 c12 c16 L0 L1 w7 SR0.out SR1.out (by omega) (by omega) (HK0.out.1.mill hcm0) (HK1.out.1.mill hcm0)
        rw [HR.out.same (by rcases h with h | ⟨-, h⟩; exact .inl h; exact .inr h)] at hcon ⊢
        simpa using hcon
       have HSAME := Lib.hid hsame
       clear hsame
       by_cases he : e = 0
       case neg =>
        as_aux_lemma =>
         have hbe := bne_yes he
         have HE := Lib.hid he
         clear he
         go_wp2_with fail
         refine (HSAME.out (.inl HE.out)).mono ?_
         rintro x w8 ⟨rfl, hb⟩
         have S6 := Lib.hid (S5.out.bel hb)
         clear hb
         go_wp2_with fail
         go_meet
         case rel => exact ⟨rfl, S6.out⟩
       case pos =>
        as_aux_lemma =>
         have hbe := bne_no he
         have HE := Lib.hid he
         clear he
         by_cases hw : 0 < a1.what
         case pos =>
          as_aux_lemma =>
           cases mk with
           | true =>
            go_wp2_with fail
            go_meet
            case rel => exact ⟨rfl, S5.out⟩
           | false =>
            go_wp2_with fail
            refine (HSAME.out (.inr ⟨HE.out, hw, by trivial⟩)).mono ?_
            rintro x w8 ⟨rfl, hb⟩
            have S6 := Lib.hid (S5.out.bel hb)
            clear hb
            go_wp2_with fail
            go_meet
            case rel => exact ⟨rfl, S6.out⟩
         case neg =>
          as_aux_lemma =>
           go_wp2_with fail
           go_meet
           case rel => exact ⟨rfl, S5.out⟩
     case rest =>
      as_aux_lemma =>
       obtain ⟨rfl, hS⟩ := hcut
       have S6 := Lib.hid hS
       clear hS S5 SR0 SR1 hx11 hf11 hz11
       by_cases he : e = 0
       case neg =>
        as_aux_lemma =>
         have hbe := bne_yes he
         have HE := Lib.hid he
         clear he
         go_wp2_with fail
         have e1 := HR.out.same (.inl HE.out)
         go_roundg (l.length - (k0 + 1))
         case measure => omega
         case rel => exact ⟨k0 + 1, i, j, pd, L0, by omega, rfl, by go_num, HI0, HK0, by have h := S6.out; rw [e1] at h; exact (Objs.pick (σ := [_, _, _, _, _, _]) (os := []) h [some 4, some 5] (by decide) rfl)⟩
       have hbe := bne_no he
       have HE := Lib.hid he
       have hin2 := ingrid_iff.1 (HR.out.inn he)
       have HI2 := Lib.hid (HR.out.inn he)
       have HROW := Lib.hid (HR.out.row he)
       clear he
       go_upto_region 25 with (fail)
       obtain ⟨hx11, hf11, hz11⟩ := (S6.out.box (k := 3) rfl).facts
       obtain ⟨hx13, hf13, hz13⟩ := (S6.out.box (k := 2) rfl).facts
       obtain ⟨hx9, hf9, hz9⟩ := (S6.out.box (k := 5) rfl).facts
       go_cut [180] (fun s180 wx => s180 = .bool false ∧ Objs w wx [.lines (.slice A16 L1.length c16) L1, .lines (.slice A12 L0.length c12) L0, .box b13 48 #[.int .i64 ↑i2, .int .i64 ↑j2, .bool pd2], .box b11 56 (av16 a1), .grid p 58 ↑s L1, .box b9 48 #[.int .i64 ↑i, .int .i64 ↑j, .bool pd]])
       case first =>
        as_aux_lemma =>
         have t1 : (0 : Int) ≤ (i2 : Int) := by omega
         have t2 : (i2 : Int) < (rr : Int) := by omega
         have t3 : (0 : Int) ≤ (j2 : Int) := by omega
         have t4 : (j2 : Int) < (s : Int) := by omega
         have t5 : IntKind.i64.wrap ((s : Int) - 1) = (s : Int) - 1 := IntWalk.i64_in _ (by omega)
         have H13 := Lib.hid hin2
         clear hin2
         by_cases h0 : a1.what = 0
         case pos =>
          as_aux_lemma =>
           have hb0 := beq_yes h0
           have hbi : ((i2 : Int) != (i : Int)) = false := bne_no (by rw [HROW.out h0])
           clear h0
           cases pd2 with
           | true =>
            have hbj : ((j2 : Int) != (s : Int) - 1) = false := bne_no (H13.out.2.2 rfl)
            go_wp2_with fail
            clear t5
            go_meet
            case rel => exact ⟨congrArg Value.bool (by simp; omega), S6.out⟩
           | false =>
            go_wp2_with fail
            clear t5
            go_meet
            case rel => exact ⟨congrArg Value.bool (by simp; omega), S6.out⟩
         case neg =>
          as_aux_lemma =>
           have hb0 := beq_no h0
           clear h0
           cases pd2 with
           | true =>
            have hbj : ((j2 : Int) != (s : Int) - 1) = false := bne_no (H13.out.2.2 rfl)
            go_wp2_with fail
            clear t5
            go_meet
            case rel => exact ⟨congrArg Value.bool (by simp; omega), S6.out⟩
           | false =>
            go_wp2_with fail
            clear t5
            go_meet
            case rel => exact ⟨congrArg Value.bool (by simp; omega), S6.out⟩
       case rest =>
        as_aux_lemma =>
         obtain ⟨rfl, hS⟩ := hcut
         have S7 := Lib.hid hS
         clear hS S6 hx11 hf11 hz11 hx13 hf13 hz13 hx9 hf9 hz9 hin2
         go_wp2_with fail
         go_loopg [18] rr (fun g v wx => ∃ k : Nat, k ≤ rr ∧ g = rr - k ∧ v = .int .i64 k ∧ Objs w wx [.lines (.slice A16 L1.length c16) L1, .lines (.slice A12 L0.length c12) L0, .box b13 48 #[.int .i64 ↑i2, .int .i64 ↑j2, .bool pd2], .box b11 56 (av16 a1), .grid p 58 ↑s L1, .box b9 48 #[.int .i64 ↑i, .int .i64 ↑j, .bool pd]])
         case atStart => exact ⟨0, Nat.zero_le _, rfl, rfl, S7.out⟩
         case round =>
          as_aux_lemma =>
           clear S7
           obtain ⟨k, hk, rfl, rfl, hS⟩ := hrel
           have S8 := Lib.hid hS
           clear hS
           by_cases hkr : k < rr
           case pos =>
            as_aux_lemma =>
             obtain ⟨l0, hl0⟩ := get_of (show k < L0.length by rw [HK0.out.2.1]; exact hkr)
             obtain ⟨l1, hl1'⟩ := get_of (show k < L1.length by rw [HLL1.out]; exact hkr)
             obtain ⟨hx9, hf9, hz9⟩ := (S8.out.box (k := 5) rfl).facts
             obtain ⟨g0, o0, B0, d0, rfl, hzg0, hc1, hc2, hB0⟩ := (S8.out.linesRd' (k := 1) rfl).2.2.at_ hl0
             obtain ⟨g1, o1, B1, d1, rfl, hzg1, hc3, hc4, hB1⟩ := (S8.out.linesRd' (k := 0) rfl).2.2.at_ hl1'
             have HB0 := Lib.hid hB0
             have HB1 := Lib.hid hB1
             have hk0 : (0 : Int) ≤ (k : Int) := by omega
             have hk1 : (k : Int) < (L0.length : Int) := by have := HK0.out.2.1; omega
             have hk2 : (k : Int) < (L1.length : Int) := by have := HLL1.out; omega
             have hls1 : ((l1.1.length : Int) != (s : Int)) = false := bne_no (by rw [HK1.out.1.at_ hl1'])
             have hlm1 : l1.1.length ≤ 1000000 := by rw [HK1.out.1.at_ hl1']; omega
             have hls0 : ((l0.1.length : Int) != (s : Int)) = false := bne_no (by rw [HK0.out.1.at_ hl0])
             clear hB0 hB1
             go_upto_region 31 with (fail)
             by_cases hki' : k = i
             case pos =>
              as_aux_lemma =>
               obtain rfl : i = k := hki'.symm
               clear hl0 hl1' hkr
               refine wp_region_stage (w0 := wr) (os := []) (by kernel_rfl) (by kernel_rfl) (by kernel_rfl) [] [[], [], [], [], [], [], [], [], [], [], [], [], [], [], [], [], [], [], [], [], [], [], [], [], [], [], [], [], [], [], [], [], [], [], [], []] [] (fun opn u => match opn with | 0 => u = .int .i64 ↑i | 1 => u = .pointer (some ⟨b9, 0, none⟩) | 2 => u = .int .i64 ↑i | 3 => u = .bool false | 4 => u = .bool false | 5 => u = (undef : Value) | 6 => u = (undef : Value) | 7 => u = (undef : Value) | 8 => u = (undef : Value) | 9 => u = (undef : Value) | 10 => u = (undef : Value) | 11 => u = (undef : Value) | 12 => u = (undef : Value) | 13 => u = (undef : Value) | 14 => u = (undef : Value) | 15 => u = .bool false | 16 => u = .bool false | 17 => u = .slice (some ⟨g1, o1, none⟩) L1.length c16 | 18 => u = .int .i64 ↑i | 19 => u = .pointer (some ⟨g1, o1 + i * 2, none⟩) | 20 => u = .pointer (some ⟨g1, o1 + i * 2, none⟩) | 21 => u = .slice B1 l1.1.length d1 | 22 => u = .int .i64 ↑l1.1.length | 23 => u = .int .i64 ↑s | 24 => u = .bool false | 25 => u = .bool false | 26 => u = .bool false | 27 => u = .slice (some ⟨g0, o0, none⟩) L0.length c12 | 28 => u = .int .i64 ↑i | 29 => u = .pointer (some ⟨g0, o0 + i * 2, none⟩) | 30 => u = .pointer (some ⟨g0, o0 + i * 2, none⟩) | 31 => u = .slice B0 l0.1.length d0 | 32 => u = .int .i64 ↑l0.1.length | 33 => u = .int .i64 ↑s | 34 => u = .bool false | 35 => u = .bool false | _ => True) (fun vs => []) (by kernel_rfl) (fun vs => by rfl) (objs_start wr) ?_ ?_
               ·apply sc
                ·intro a w' vs σ hS hl hs hk
                 have f18 : a.tmps[18]?.getD undef = .int .i64 ↑i := sof hk
                 exact rp (.int .i64 ↑i) (by simp [execOp, Act.eval, f18, go_sem]) hl hs hS
                apply sc
                ·intro a w' vs σ hS hl hs hk
                 have f9 : a.tmps[9]?.getD undef = .pointer (some ⟨b9, 0, none⟩) := sof hk
                 exact rp (pt b9 0) (by simp [execOp, Act.eval, f9, go_sem]) hl hs hS
                apply sc
                ·intro a w' vs σ hS hl hs hk
                 have f187 : a.tmps[187]?.getD undef = .pointer (some ⟨b9, 0, none⟩) := svf hk 1
                 have hx := (hS.base.cell (p := ⟨b9, 0, none⟩) hz9).trans (hx9 0)
                 exact rp (.int .i64 ↑i) (by simp [execOp, Act.eval, f187, go_sem, hx]) hl hs hS
                apply sc
                ·intro a w' vs σ hS hl hs hk
                 have f186 : a.tmps[186]?.getD undef = .int .i64 ↑i := svf hk 0
                 have f188 : a.tmps[188]?.getD undef = .int .i64 ↑i := svf hk 2
                 exact rp (.bool false) (by simp [execOp, Act.eval, f186, f188, go_sem]) hl hs hS
                apply sc
                ·intro a w' vs σ hS hl hs hk
                 have f189 : a.tmps[189]?.getD undef = .bool false := svf hk 3
                 exact rp (.bool false) (by simp [execOp, Act.eval, f189, go_sem]) hl hs hS
                apply sc
                ·intro a w' vs σ hS hl hs hk
                 exact rs_skip (wanted_no rfl rfl rfl (svv hk 4) (by decide)) (sp_same (by kernel_rfl) hl hs hS rfl)
                apply sc
                ·intro a w' vs σ hS hl hs hk
                 exact rs_skip (wanted_no rfl rfl rfl (svv hk 4) (by decide)) (sp_same (by kernel_rfl) hl hs hS rfl)
                apply sc
                ·intro a w' vs σ hS hl hs hk
                 exact rs_skip (wanted_no rfl rfl rfl (svv hk 4) (by decide)) (sp_same (by kernel_rfl) hl hs hS rfl)
                apply sc
                ·intro a w' vs σ hS hl hs hk
                 exact rs_skip (wanted_no rfl rfl rfl (svv hk 4) (by decide)) (sp_same (by kernel_rfl) hl hs hS rfl)
                apply sc
                ·intro a w' vs σ hS hl hs hk
                 exact rs_skip (wanted_no rfl rfl rfl (svv hk 4) (by decide)) (sp_same (by kernel_rfl) hl hs hS rfl)
                apply sc
                ·intro a w' vs σ hS hl hs hk
                 exact rs_skip (wanted_no rfl rfl rfl (svv hk 4) (by decide)) (sp_same (by kernel_rfl) hl hs hS rfl)
                apply sc
                ·intro a w' vs σ hS hl hs hk
                 exact rs_skip (wanted_no rfl rfl rfl (svv hk 4) (by decide)) (sp_same (by kernel_rfl) hl hs hS rfl)
                apply sc
                ·intro a w' vs σ hS hl hs hk
                 exact rs_skip (wanted_no rfl rfl rfl (svv hk 4) (by decide)) (sp_same (by kernel_rfl) hl hs hS rfl)
                apply sc
                ·intro a w' vs σ hS hl hs hk
                 exact rs_skip (wanted_no rfl rfl rfl (svv hk 4) (by decide)) (sp_same (by kernel_rfl) hl hs hS rfl)
                apply sc
                ·intro a w' vs σ hS hl hs hk
                 exact rs_skip (wanted_no rfl rfl rfl (svv hk 4) (by decide)) (sp_same (by kernel_rfl) hl hs hS rfl)
                apply sc
                ·intro a w' vs σ hS hl hs hk
                 have f190 : a.tmps[190]?.getD undef = .bool false := svf hk 4
                 have f200 : a.tmps[200]?.getD undef = (undef : Value) := svf hk 14
                 exact rp (.bool false) (by simp [execOp, Act.eval, f190, f200, go_sem]) hl hs hS
                apply sc
                ·intro a w' vs σ hS hl hs hk
                 have f201 : a.tmps[201]?.getD undef = .bool false := svf hk 15
                 exact rp (.bool false) (by simp [execOp, Act.eval, f201, go_sem]) hl hs hS
                apply sc
                ·intro a w' vs σ hS hl hs hk
                 have f16 : a.tmps[16]?.getD undef = .slice (some ⟨g1, o1, none⟩) L1.length c16 := sof hk
                 exact rq (.slice (some ⟨g1, o1, none⟩) L1.length c16) (wanted_yes rfl rfl rfl (svv hk 16)) (by simp [execOp, Act.eval, f16, go_sem]) hl hs hS
                apply sc
                ·intro a w' vs σ hS hl hs hk
                 have f18 : a.tmps[18]?.getD undef = .int .i64 ↑i := sof hk
                 exact rq (.int .i64 ↑i) (wanted_yes rfl rfl rfl (svv hk 16)) (by simp [execOp, Act.eval, f18, go_sem]) hl hs hS
                apply sc
                ·intro a w' vs σ hS hl hs hk
                 have f203 : a.tmps[203]?.getD undef = .slice (some ⟨g1, o1, none⟩) L1.length c16 := svf hk 17
                 have f204 : a.tmps[204]?.getD undef = .int .i64 ↑i := svf hk 18
                 exact rq (pt g1 (o1 + i * 2)) (wanted_yes rfl rfl rfl (svv hk 16)) (by simp [execOp, Act.eval, f203, f204, go_sem, hk0, hk2]) hl hs hS
                apply sc
                ·intro a w' vs σ hS hl hs hk
                 have f205 : a.tmps[205]?.getD undef = .pointer (some ⟨g1, o1 + i * 2, none⟩) := svf hk 19
                 exact rq (pt g1 (o1 + i * 2)) (wanted_yes rfl rfl rfl (svv hk 16)) (by simp [execOp, Act.eval, f205, go_sem]) hl hs hS
                apply sc
                ·intro a w' vs σ hS hl hs hk
                 have f206 : a.tmps[206]?.getD undef = .pointer (some ⟨g1, o1 + i * 2, none⟩) := svf hk 20
                 have hx := (hS.base.cell (p := ⟨g1, o1 + i * 2, none⟩) hzg1).trans hc3
                 exact rq (.slice B1 l1.1.length d1) (wanted_yes rfl rfl rfl (svv hk 16)) (by simp [execOp, Act.eval, f206, go_sem, hx]) hl hs hS
                apply sc
                ·intro a w' vs σ hS hl hs hk
                 have f207 : a.tmps[207]?.getD undef = .slice B1 l1.1.length d1 := svf hk 21
                 exact rq (.int .i64 ↑l1.1.length) (wanted_yes rfl rfl rfl (svv hk 16)) (by simp [execOp, Act.eval, f207, go_sem]) hl hs hS
                apply sc
                ·intro a w' vs σ hS hl hs hk
                 have f1 : a.tmps[1]?.getD undef = .int .i64 ↑s := sof hk
                 exact rq (.int .i64 ↑s) (wanted_yes rfl rfl rfl (svv hk 16)) (by simp [execOp, Act.eval, f1, go_sem]) hl hs hS
                apply sc
                ·intro a w' vs σ hS hl hs hk
                 have f208 : a.tmps[208]?.getD undef = .int .i64 ↑l1.1.length := svf hk 22
                 have f209 : a.tmps[209]?.getD undef = .int .i64 ↑s := svf hk 23
                 exact rq (.bool false) (wanted_yes rfl rfl rfl (svv hk 16)) (by simp [execOp, Act.eval, f208, f209, go_sem, hls1]) hl hs hS
                apply sc
                ·intro a w' vs σ hS hl hs hk
                 have f202 : a.tmps[202]?.getD undef = .bool false := svf hk 16
                 have f210 : a.tmps[210]?.getD undef = .bool false := svf hk 24
                 exact rp (.bool false) (by simp [execOp, Act.eval, f202, f210, go_sem]) hl hs hS
                apply sc
                ·intro a w' vs σ hS hl hs hk
                 have f211 : a.tmps[211]?.getD undef = .bool false := svf hk 25
                 exact rp (.bool false) (by simp [execOp, Act.eval, f211, go_sem]) hl hs hS
                apply sc
                ·intro a w' vs σ hS hl hs hk
                 have f12 : a.tmps[12]?.getD undef = .slice (some ⟨g0, o0, none⟩) L0.length c12 := sof hk
                 exact rq (.slice (some ⟨g0, o0, none⟩) L0.length c12) (wanted_yes rfl rfl rfl (svv hk 26)) (by simp [execOp, Act.eval, f12, go_sem]) hl hs hS
                apply sc
                ·intro a w' vs σ hS hl hs hk
                 have f18 : a.tmps[18]?.getD undef = .int .i64 ↑i := sof hk
                 exact rq (.int .i64 ↑i) (wanted_yes rfl rfl rfl (svv hk 26)) (by simp [execOp, Act.eval, f18, go_sem]) hl hs hS
                apply sc
                ·intro a w' vs σ hS hl hs hk
                 have f213 : a.tmps[213]?.getD undef = .slice (some ⟨g0, o0, none⟩) L0.length c12 := svf hk 27
                 have f214 : a.tmps[214]?.getD undef = .int .i64 ↑i := svf hk 28
                 exact rq (pt g0 (o0 + i * 2)) (wanted_yes rfl rfl rfl (svv hk 26)) (by simp [execOp, Act.eval, f213, f214, go_sem, hk0, hk1]) hl hs hS
                apply sc
                ·intro a w' vs σ hS hl hs hk
                 have f215 : a.tmps[215]?.getD undef = .pointer (some ⟨g0, o0 + i * 2, none⟩) := svf hk 29
                 exact rq (pt g0 (o0 + i * 2)) (wanted_yes rfl rfl rfl (svv hk 26)) (by simp [execOp, Act.eval, f215, go_sem]) hl hs hS
                apply sc
                ·intro a w' vs σ hS hl hs hk
                 have f216 : a.tmps[216]?.getD undef = .pointer (some ⟨g0, o0 + i * 2, none⟩) := svf hk 30
                 have hx := (hS.base.cell (p := ⟨g0, o0 + i * 2, none⟩) hzg0).trans hc1
                 exact rq (.slice B0 l0.1.length d0) (wanted_yes rfl rfl rfl (svv hk 26)) (by simp [execOp, Act.eval, f216, go_sem, hx]) hl hs hS
                apply sc
                ·intro a w' vs σ hS hl hs hk
                 have f217 : a.tmps[217]?.getD undef = .slice B0 l0.1.length d0 := svf hk 31
                 exact rq (.int .i64 ↑l0.1.length) (wanted_yes rfl rfl rfl (svv hk 26)) (by simp [execOp, Act.eval, f217, go_sem]) hl hs hS
                apply sc
                ·intro a w' vs σ hS hl hs hk
                 have f1 : a.tmps[1]?.getD undef = .int .i64 ↑s := sof hk
                 exact rq (.int .i64 ↑s) (wanted_yes rfl rfl rfl (svv hk 26)) (by simp [execOp, Act.eval, f1, go_sem]) hl hs hS
                apply sc
                ·intro a w' vs σ hS hl hs hk
                 have f218 : a.tmps[218]?.getD undef = .int .i64 ↑l0.1.length := svf hk 32
                 have f219 : a.tmps[219]?.getD undef = .int .i64 ↑s := svf hk 33
                 exact rq (.bool false) (wanted_yes rfl rfl rfl (svv hk 26)) (by simp [execOp, Act.eval, f218, f219, go_sem, hls0]) hl hs hS
                apply sc
                ·intro a w' vs σ hS hl hs hk
                 have f212 : a.tmps[212]?.getD undef = .bool false := svf hk 26
                 have f220 : a.tmps[220]?.getD undef = .bool false := svf hk 34
                 exact rp (.bool false) (by simp [execOp, Act.eval, f212, f220, go_sem]) hl hs hS
                exact SSteps.nil
               ·intro vs w' hS hv
                have q0 : vs 0 = _ := hv 0 (by decide)
                have q1 : vs 1 = _ := hv 1 (by decide)
                have q2 : vs 2 = _ := hv 2 (by decide)
                have q3 : vs 3 = _ := hv 3 (by decide)
                have q4 : vs 4 = _ := hv 4 (by decide)
                have q5 : vs 5 = _ := hv 5 (by decide)
                have q6 : vs 6 = _ := hv 6 (by decide)
                have q7 : vs 7 = _ := hv 7 (by decide)
                have q8 : vs 8 = _ := hv 8 (by decide)
                have q9 : vs 9 = _ := hv 9 (by decide)
                have q10 : vs 10 = _ := hv 10 (by decide)
                have q11 : vs 11 = _ := hv 11 (by decide)
                have q12 : vs 12 = _ := hv 12 (by decide)
                have q13 : vs 13 = _ := hv 13 (by decide)
                have q14 : vs 14 = _ := hv 14 (by decide)
                have q15 : vs 15 = _ := hv 15 (by decide)
                have q16 : vs 16 = _ := hv 16 (by decide)
                have q17 : vs 17 = _ := hv 17 (by decide)
                have q18 : vs 18 = _ := hv 18 (by decide)
                have q19 : vs 19 = _ := hv 19 (by decide)
                have q20 : vs 20 = _ := hv 20 (by decide)
                have q21 : vs 21 = _ := hv 21 (by decide)
                have q22 : vs 22 = _ := hv 22 (by decide)
                have q23 : vs 23 = _ := hv 23 (by decide)
                have q24 : vs 24 = _ := hv 24 (by decide)
                have q25 : vs 25 = _ := hv 25 (by decide)
                have q26 : vs 26 = _ := hv 26 (by decide)
                have q27 : vs 27 = _ := hv 27 (by decide)
                have q28 : vs 28 = _ := hv 28 (by decide)
                have q29 : vs 29 = _ := hv 29 (by decide)
                have q30 : vs 30 = _ := hv 30 (by decide)
                have q31 : vs 31 = _ := hv 31 (by decide)
                have q32 : vs 32 = _ := hv 32 (by decide)
                have q33 : vs 33 = _ := hv 33 (by decide)
                have q34 : vs 34 = _ := hv 34 (by decide)
                have q35 : vs 35 = _ := hv 35 (by decide)
                have S2 := Lib.hid hS
                simp only [putL, Act.put, Nat.zero_add, Nat.reduceAdd, List.setIfInBounds_toArray, List.set_cons_succ, List.set_cons_zero, q0, q1, q2, q3, q4, q5, q6, q7, q8, q9, q10, q11, q12, q13, q14, q15, q16, q17, q18, q19, q20, q21, q22, q23, q24, q25, q26, q27, q28, q29, q30, q31, q32, q33, q34, q35]
                clear hS hv q0 q1 q2 q3 q4 q5 q6 q7 q8 q9 q10 q11 q12 q13 q14 q15 q16 q17 q18 q19 q20 q21 q22 q23 q24 q25 q26 q27 q28 q29 q30 q31 q32 q33 q34 q35
                have S9 := Lib.hid (S8.out.bel S2.out.base)
                clear S2 S8 hx9 hf9 hz9 hzg0 hc1 hc2 hzg1 hc3 hc4 HB0 HB1
                go_wp2_with fail
                go_roundg (rr - (i + 1))
                case measure => omega
                case rel => exact ⟨i + 1, by omega, rfl, by go_num, S9.out⟩

             case neg =>
              as_aux_lemma =>
               have hki : ((k : Int) != (i : Int)) = true := bne_yes (by omega)
               obtain rfl : l1 = l0 := by
                have := HR.out.far k hki'
                rw [hl0, hl1'] at this
                exact Option.some.inj this
               clear hl0 hl1' hki'
               refine wp_region_stage (w0 := wr) (os := []) (by kernel_rfl) (by kernel_rfl) (by kernel_rfl) [] [[], [], [], [], [], [], [], [], [], [], [], [], [], [], [], [], [], [], [], [], [], [], [], [], [], [], [], [], [], [], [], [], [], [], [], []] [] (fun opn u => match opn with | 0 => u = .int .i64 ↑k | 1 => u = .pointer (some ⟨b9, 0, none⟩) | 2 => u = .int .i64 ↑i | 3 => u = .bool true | 4 => u = .bool true | 5 => u = .slice (some ⟨g0, o0, none⟩) L0.length c12 | 6 => u = .int .i64 ↑k | 7 => u = .pointer (some ⟨g0, o0 + k * 2, none⟩) | 8 => u = .agg #[.slice B0 l1.1.length d0, .bool l1.2] | 9 => u = .slice (some ⟨g1, o1, none⟩) L1.length c16 | 10 => u = .int .i64 ↑k | 11 => u = .pointer (some ⟨g1, o1 + k * 2, none⟩) | 12 => u = .agg #[.slice B1 l1.1.length d1, .bool l1.2] | 13 => u = .bool true | 14 => u = .bool false | 15 => u = .bool false | 16 => u = .bool false | 17 => u = .slice (some ⟨g1, o1, none⟩) L1.length c16 | 18 => u = .int .i64 ↑k | 19 => u = .pointer (some ⟨g1, o1 + k * 2, none⟩) | 20 => u = .pointer (some ⟨g1, o1 + k * 2, none⟩) | 21 => u = .slice B1 l1.1.length d1 | 22 => u = .int .i64 ↑l1.1.length | 23 => u = .int .i64 ↑s | 24 => u = .bool false | 25 => u = .bool false | 26 => u = .bool false | 27 => u = .slice (some ⟨g0, o0, none⟩) L0.length c12 | 28 => u = .int .i64 ↑k | 29 => u = .pointer (some ⟨g0, o0 + k * 2, none⟩) | 30 => u = .pointer (some ⟨g0, o0 + k * 2, none⟩) | 31 => u = .slice B0 l1.1.length d0 | 32 => u = .int .i64 ↑l1.1.length | 33 => u = .int .i64 ↑s | 34 => u = .bool false | 35 => u = .bool false | _ => True) (fun vs => []) (by kernel_rfl) (fun vs => by rfl) (objs_start wr) ?_ ?_
               ·apply sc
                ·intro a w' vs σ hS hl hs hk
                 have f18 : a.tmps[18]?.getD undef = .int .i64 ↑k := sof hk
                 exact rp (.int .i64 ↑k) (by simp [execOp, Act.eval, f18, go_sem]) hl hs hS
                apply sc
                ·intro a w' vs σ hS hl hs hk
                 have f9 : a.tmps[9]?.getD undef = .pointer (some ⟨b9, 0, none⟩) := sof hk
                 exact rp (pt b9 0) (by simp [execOp, Act.eval, f9, go_sem]) hl hs hS
                apply sc
                ·intro a w' vs σ hS hl hs hk
                 have f187 : a.tmps[187]?.getD undef = .pointer (some ⟨b9, 0, none⟩) := svf hk 1
                 have hx := (hS.base.cell (p := ⟨b9, 0, none⟩) hz9).trans (hx9 0)
                 exact rp (.int .i64 ↑i) (by simp [execOp, Act.eval, f187, go_sem, hx]) hl hs hS
                apply sc
                ·intro a w' vs σ hS hl hs hk
                 have f186 : a.tmps[186]?.getD undef = .int .i64 ↑k := svf hk 0
                 have f188 : a.tmps[188]?.getD undef = .int .i64 ↑i := svf hk 2
                 exact rp (.bool true) (by simp [execOp, Act.eval, f186, f188, go_sem, hki]) hl hs hS
                apply sc
                ·intro a w' vs σ hS hl hs hk
                 have f189 : a.tmps[189]?.getD undef = .bool true := svf hk 3
                 exact rp (.bool true) (by simp [execOp, Act.eval, f189, go_sem]) hl hs hS
                apply sc
                ·intro a w' vs σ hS hl hs hk
                 have f12 : a.tmps[12]?.getD undef = .slice (some ⟨g0, o0, none⟩) L0.length c12 := sof hk
                 exact rq (.slice (some ⟨g0, o0, none⟩) L0.length c12) (wanted_yes rfl rfl rfl (svv hk 4)) (by simp [execOp, Act.eval, f12, go_sem]) hl hs hS
                apply sc
                ·intro a w' vs σ hS hl hs hk
                 have f18 : a.tmps[18]?.getD undef = .int .i64 ↑k := sof hk
                 exact rq (.int .i64 ↑k) (wanted_yes rfl rfl rfl (svv hk 4)) (by simp [execOp, Act.eval, f18, go_sem]) hl hs hS
                apply sc
                ·intro a w' vs σ hS hl hs hk
                 have f191 : a.tmps[191]?.getD undef = .slice (some ⟨g0, o0, none⟩) L0.length c12 := svf hk 5
                 have f192 : a.tmps[192]?.getD undef = .int .i64 ↑k := svf hk 6
                 exact rq (pt g0 (o0 + k * 2)) (wanted_yes rfl rfl rfl (svv hk 4)) (by simp [execOp, Act.eval, f191, f192, go_sem, hk0, hk1]) hl hs hS
                apply sc
                ·intro a w' vs σ hS hl hs hk
                 have f193 : a.tmps[193]?.getD undef = .pointer (some ⟨g0, o0 + k * 2, none⟩) := svf hk 7
                 have hx := (hS.base.cell (p := ⟨g0, o0 + k * 2, none⟩) hzg0).trans hc1
                 have hy := (hS.base.cell (p := ⟨g0, o0 + k * 2 + 1, none⟩) hzg0).trans hc2
                 exact rq (.agg #[.slice B0 l1.1.length d0, .bool l1.2]) (wanted_yes rfl rfl rfl (svv hk 4)) (by simp [execOp, Act.eval, f193, go_sem, hx, hy]) hl hs hS
                apply sc
                ·intro a w' vs σ hS hl hs hk
                 have f16 : a.tmps[16]?.getD undef = .slice (some ⟨g1, o1, none⟩) L1.length c16 := sof hk
                 exact rq (.slice (some ⟨g1, o1, none⟩) L1.length c16) (wanted_yes rfl rfl rfl (svv hk 4)) (by simp [execOp, Act.eval, f16, go_sem]) hl hs hS
                apply sc
                ·intro a w' vs σ hS hl hs hk
                 have f18 : a.tmps[18]?.getD undef = .int .i64 ↑k := sof hk
                 exact rq (.int .i64 ↑k) (wanted_yes rfl rfl rfl (svv hk 4)) (by simp [execOp, Act.eval, f18, go_sem]) hl hs hS
                apply sc
                ·intro a w' vs σ hS hl hs hk
                 have f195 : a.tmps[195]?.getD undef = .slice (some ⟨g1, o1, none⟩) L1.length c16 := svf hk 9
                 have f196 : a.tmps[196]?.getD undef = .int .i64 ↑k := svf hk 10
                 exact rq (pt g1 (o1 + k * 2)) (wanted_yes rfl rfl rfl (svv hk 4)) (by simp [execOp, Act.eval, f195, f196, go_sem, hk0, hk2]) hl hs hS
                apply sc
                ·intro a w' vs σ hS hl hs hk
                 have f197 : a.tmps[197]?.getD undef = .pointer (some ⟨g1, o1 + k * 2, none⟩) := svf hk 11
                 have hx := (hS.base.cell (p := ⟨g1, o1 + k * 2, none⟩) hzg1).trans hc3
                 have hy := (hS.base.cell (p := ⟨g1, o1 + k * 2 + 1, none⟩) hzg1).trans hc4
                 exact rq (.agg #[.slice B1 l1.1.length d1, .bool l1.2]) (wanted_yes rfl rfl rfl (svv hk 4)) (by simp [execOp, Act.eval, f197, go_sem, hx, hy]) hl hs hS
                apply sc
                ·intro a w' vs σ hS hl hs hk
                 have e194 : a.tmps.getD 194 undef = .agg #[.slice B0 l1.1.length d0, .bool l1.2] := svv hk 8
                 have e198 : a.tmps.getD 198 undef = .agg #[.slice B1 l1.1.length d1, .bool l1.2] := svv hk 12
                 have hcon := r14SameLine_any B0 B1 d0 d1 l1.1 l1.1 l1.2 l1.2 w' (HB0.out.bel hS.base) (HB1.out.bel hS.base) hlm1 hlm1
                 rw [show eqL l1.1 l1.2 l1.1 l1.2 = true by rw [eqL_line]; simp] at hcon
                 exact ro_call (f := 41) (wanted_yes rfl rfl rfl (svv hk 4)) rfl (by simp only [List.map_toArray, List.map_cons, List.map_nil, Act.eval, e194, e198] <;> rfl) (fun _ _ => by kernel_rfl) (hcon.mono fun e w2 ⟨h1, h2⟩ => ⟨_, h1, sp_same (by kernel_rfl) hl hs (hS.bel h2) rfl, trivial⟩)
                apply sc
                ·intro a w' vs σ hS hl hs hk
                 have f199 : a.tmps[199]?.getD undef = .bool true := svf hk 13
                 exact rq (.bool false) (wanted_yes rfl rfl rfl (svv hk 4)) (by simp [execOp, Act.eval, f199, go_sem]) hl hs hS
                apply sc
                ·intro a w' vs σ hS hl hs hk
                 have f190 : a.tmps[190]?.getD undef = .bool true := svf hk 4
                 have f200 : a.tmps[200]?.getD undef = .bool false := svf hk 14
                 exact rp (.bool false) (by simp [execOp, Act.eval, f190, f200, go_sem]) hl hs hS
                apply sc
                ·intro a w' vs σ hS hl hs hk
                 have f201 : a.tmps[201]?.getD undef = .bool false := svf hk 15
                 exact rp (.bool false) (by simp [execOp, Act.eval, f201, go_sem]) hl hs hS
                apply sc
                ·intro a w' vs σ hS hl hs hk
                 have f16 : a.tmps[16]?.getD undef = .slice (some ⟨g1, o1, none⟩) L1.length c16 := sof hk
                 exact rq (.slice (some ⟨g1, o1, none⟩) L1.length c16) (wanted_yes rfl rfl rfl (svv hk 16)) (by simp [execOp, Act.eval, f16, go_sem]) hl hs hS
                apply sc
                ·intro a w' vs σ hS hl hs hk
                 have f18 : a.tmps[18]?.getD undef = .int .i64 ↑k := sof hk
                 exact rq (.int .i64 ↑k) (wanted_yes rfl rfl rfl (svv hk 16)) (by simp [execOp, Act.eval, f18, go_sem]) hl hs hS
                apply sc
                ·intro a w' vs σ hS hl hs hk
                 have f203 : a.tmps[203]?.getD undef = .slice (some ⟨g1, o1, none⟩) L1.length c16 := svf hk 17
                 have f204 : a.tmps[204]?.getD undef = .int .i64 ↑k := svf hk 18
                 exact rq (pt g1 (o1 + k * 2)) (wanted_yes rfl rfl rfl (svv hk 16)) (by simp [execOp, Act.eval, f203, f204, go_sem, hk0, hk2]) hl hs hS
                apply sc
                ·intro a w' vs σ hS hl hs hk
                 have f205 : a.tmps[205]?.getD undef = .pointer (some ⟨g1, o1 + k * 2, none⟩) := svf hk 19
                 exact rq (pt g1 (o1 + k * 2)) (wanted_yes rfl rfl rfl (svv hk 16)) (by simp [execOp, Act.eval, f205, go_sem]) hl hs hS
                apply sc
                ·intro a w' vs σ hS hl hs hk
                 have f206 : a.tmps[206]?.getD undef = .pointer (some ⟨g1, o1 + k * 2, none⟩) := svf hk 20
                 have hx := (hS.base.cell (p := ⟨g1, o1 + k * 2, none⟩) hzg1).trans hc3
                 exact rq (.slice B1 l1.1.length d1) (wanted_yes rfl rfl rfl (svv hk 16)) (by simp [execOp, Act.eval, f206, go_sem, hx]) hl hs hS
                apply sc
                ·intro a w' vs σ hS hl hs hk
                 have f207 : a.tmps[207]?.getD undef = .slice B1 l1.1.length d1 := svf hk 21
                 exact rq (.int .i64 ↑l1.1.length) (wanted_yes rfl rfl rfl (svv hk 16)) (by simp [execOp, Act.eval, f207, go_sem]) hl hs hS
                apply sc
                ·intro a w' vs σ hS hl hs hk
                 have f1 : a.tmps[1]?.getD undef = .int .i64 ↑s := sof hk
                 exact rq (.int .i64 ↑s) (wanted_yes rfl rfl rfl (svv hk 16)) (by simp [execOp, Act.eval, f1, go_sem]) hl hs hS
                apply sc
                ·intro a w' vs σ hS hl hs hk
                 have f208 : a.tmps[208]?.getD undef = .int .i64 ↑l1.1.length := svf hk 22
                 have f209 : a.tmps[209]?.getD undef = .int .i64 ↑s := svf hk 23
                 exact rq (.bool false) (wanted_yes rfl rfl rfl (svv hk 16)) (by simp [execOp, Act.eval, f208, f209, go_sem, hls1]) hl hs hS
                apply sc
                ·intro a w' vs σ hS hl hs hk
                 have f202 : a.tmps[202]?.getD undef = .bool false := svf hk 16
                 have f210 : a.tmps[210]?.getD undef = .bool false := svf hk 24
                 exact rp (.bool false) (by simp [execOp, Act.eval, f202, f210, go_sem]) hl hs hS
                apply sc
                ·intro a w' vs σ hS hl hs hk
                 have f211 : a.tmps[211]?.getD undef = .bool false := svf hk 25
                 exact rp (.bool false) (by simp [execOp, Act.eval, f211, go_sem]) hl hs hS
                apply sc
                ·intro a w' vs σ hS hl hs hk
                 have f12 : a.tmps[12]?.getD undef = .slice (some ⟨g0, o0, none⟩) L0.length c12 := sof hk
                 exact rq (.slice (some ⟨g0, o0, none⟩) L0.length c12) (wanted_yes rfl rfl rfl (svv hk 26)) (by simp [execOp, Act.eval, f12, go_sem]) hl hs hS
                apply sc
                ·intro a w' vs σ hS hl hs hk
                 have f18 : a.tmps[18]?.getD undef = .int .i64 ↑k := sof hk
                 exact rq (.int .i64 ↑k) (wanted_yes rfl rfl rfl (svv hk 26)) (by simp [execOp, Act.eval, f18, go_sem]) hl hs hS
                apply sc
                ·intro a w' vs σ hS hl hs hk
                 have f213 : a.tmps[213]?.getD undef = .slice (some ⟨g0, o0, none⟩) L0.length c12 := svf hk 27
                 have f214 : a.tmps[214]?.getD undef = .int .i64 ↑k := svf hk 28
                 exact rq (pt g0 (o0 + k * 2)) (wanted_yes rfl rfl rfl (svv hk 26)) (by simp [execOp, Act.eval, f213, f214, go_sem, hk0, hk1]) hl hs hS
                apply sc
                ·intro a w' vs σ hS hl hs hk
                 have f215 : a.tmps[215]?.getD undef = .pointer (some ⟨g0, o0 + k * 2, none⟩) := svf hk 29
                 exact rq (pt g0 (o0 + k * 2)) (wanted_yes rfl rfl rfl (svv hk 26)) (by simp [execOp, Act.eval, f215, go_sem]) hl hs hS
                apply sc
                ·intro a w' vs σ hS hl hs hk
                 have f216 : a.tmps[216]?.getD undef = .pointer (some ⟨g0, o0 + k * 2, none⟩) := svf hk 30
                 have hx := (hS.base.cell (p := ⟨g0, o0 + k * 2, none⟩) hzg0).trans hc1
                 exact rq (.slice B0 l1.1.length d0) (wanted_yes rfl rfl rfl (svv hk 26)) (by simp [execOp, Act.eval, f216, go_sem, hx]) hl hs hS
                apply sc
                ·intro a w' vs σ hS hl hs hk
                 have f217 : a.tmps[217]?.getD undef = .slice B0 l1.1.length d0 := svf hk 31
                 exact rq (.int .i64 ↑l1.1.length) (wanted_yes rfl rfl rfl (svv hk 26)) (by simp [execOp, Act.eval, f217, go_sem]) hl hs hS
                apply sc
                ·intro a w' vs σ hS hl hs hk
                 have f1 : a.tmps[1]?.getD undef = .int .i64 ↑s := sof hk
                 exact rq (.int .i64 ↑s) (wanted_yes rfl rfl rfl (svv hk 26)) (by simp [execOp, Act.eval, f1, go_sem]) hl hs hS
                apply sc
                ·intro a w' vs σ hS hl hs hk
                 have f218 : a.tmps[218]?.getD undef = .int .i64 ↑l1.1.length := svf hk 32
                 have f219 : a.tmps[219]?.getD undef = .int .i64 ↑s := svf hk 33
                 exact rq (.bool false) (wanted_yes rfl rfl rfl (svv hk 26)) (by simp [execOp, Act.eval, f218, f219, go_sem, hls0]) hl hs hS
                apply sc
                ·intro a w' vs σ hS hl hs hk
                 have f212 : a.tmps[212]?.getD undef = .bool false := svf hk 26
                 have f220 : a.tmps[220]?.getD undef = .bool false := svf hk 34
                 exact rp (.bool false) (by simp [execOp, Act.eval, f212, f220, go_sem]) hl hs hS
                exact SSteps.nil
               ·intro vs w' hS hv
                have q0 : vs 0 = _ := hv 0 (by decide)
                have q1 : vs 1 = _ := hv 1 (by decide)
                have q2 : vs 2 = _ := hv 2 (by decide)
                have q3 : vs 3 = _ := hv 3 (by decide)
                have q4 : vs 4 = _ := hv 4 (by decide)
                have q5 : vs 5 = _ := hv 5 (by decide)
                have q6 : vs 6 = _ := hv 6 (by decide)
                have q7 : vs 7 = _ := hv 7 (by decide)
                have q8 : vs 8 = _ := hv 8 (by decide)
                have q9 : vs 9 = _ := hv 9 (by decide)
                have q10 : vs 10 = _ := hv 10 (by decide)
                have q11 : vs 11 = _ := hv 11 (by decide)
                have q12 : vs 12 = _ := hv 12 (by decide)
                have q13 : vs 13 = _ := hv 13 (by decide)
                have q14 : vs 14 = _ := hv 14 (by decide)
                have q15 : vs 15 = _ := hv 15 (by decide)
                have q16 : vs 16 = _ := hv 16 (by decide)
                have q17 : vs 17 = _ := hv 17 (by decide)
                have q18 : vs 18 = _ := hv 18 (by decide)
                have q19 : vs 19 = _ := hv 19 (by decide)
                have q20 : vs 20 = _ := hv 20 (by decide)
                have q21 : vs 21 = _ := hv 21 (by decide)
                have q22 : vs 22 = _ := hv 22 (by decide)
                have q23 : vs 23 = _ := hv 23 (by decide)
                have q24 : vs 24 = _ := hv 24 (by decide)
                have q25 : vs 25 = _ := hv 25 (by decide)
                have q26 : vs 26 = _ := hv 26 (by decide)
                have q27 : vs 27 = _ := hv 27 (by decide)
                have q28 : vs 28 = _ := hv 28 (by decide)
                have q29 : vs 29 = _ := hv 29 (by decide)
                have q30 : vs 30 = _ := hv 30 (by decide)
                have q31 : vs 31 = _ := hv 31 (by decide)
                have q32 : vs 32 = _ := hv 32 (by decide)
                have q33 : vs 33 = _ := hv 33 (by decide)
                have q34 : vs 34 = _ := hv 34 (by decide)
                have q35 : vs 35 = _ := hv 35 (by decide)
                have S2 := Lib.hid hS
                simp only [putL, Act.put, Nat.zero_add, Nat.reduceAdd, List.setIfInBounds_toArray, List.set_cons_succ, List.set_cons_zero, q0, q1, q2, q3, q4, q5, q6, q7, q8, q9, q10, q11, q12, q13, q14, q15, q16, q17, q18, q19, q20, q21, q22, q23, q24, q25, q26, q27, q28, q29, q30, q31, q32, q33, q34, q35]
                clear hS hv q0 q1 q2 q3 q4 q5 q6 q7 q8 q9 q10 q11 q12 q13 q14 q15 q16 q17 q18 q19 q20 q21 q22 q23 q24 q25 q26 q27 q28 q29 q30 q31 q32 q33 q34 q35
                have S9 := Lib.hid (S8.out.bel S2.out.base)
                clear S2 S8 hx9 hf9 hz9 hzg0 hc1 hc2 hzg1 hc3 hc4 HB0 HB1
                go_wp2_with fail
                go_roundg (rr - (k + 1))
                case measure => omega
                case rel => exact ⟨k + 1, by omega, rfl, by go_num, S9.out⟩

           case neg =>
            as_aux_lemma =>
             obtain rfl : k = rr := by omega
             clear hkr hk
             obtain ⟨l0, hl0⟩ := get_of (show i < L0.length by have := HK0.out.2.1; omega)
             obtain ⟨l1, hl1'⟩ := get_of (show i < L1.length by rw [HLL1.out]; exact hir)
             obtain ⟨bb, hho⟩ := HR.out.cell l0 l1 hl0 hl1'
             have HHO := Lib.hid hho
             have HL0 := Lib.hid hl0
             have HL1 := Lib.hid hl1'
             have HC0 := Lib.hid (HK0.out.1.at_ hl0)
             have HC1 := Lib.hid (HK1.out.1.at_ hl1')
             clear hho hl0 hl1'
             go_wp2_with fail
             go_loopg [17, 19] s (fun g vch v wx => ∃ (n k : Nat), k ≤ s ∧ g = s - k ∧ vch = .int .i64 n ∧ v = .int .i64 k ∧ Hid (n ≤ k ∧ (a1.what = 1 → n ≤ 1 ∧ (n = 1 → bb < k))) ∧ Objs w wx [.lines (.slice A16 L1.length c16) L1, .lines (.slice A12 L0.length c12) L0, .box b13 48 #[.int .i64 ↑i2, .int .i64 ↑j2, .bool pd2], .box b11 56 (av16 a1), .grid p 58 ↑s L1, .box b9 48 #[.int .i64 ↑i, .int .i64 ↑j, .bool pd]])
             case atStart => exact ⟨0, 0, Nat.zero_le _, rfl, rfl, rfl, Lib.hid ⟨by omega, fun _ => ⟨by omega, fun h => by omega⟩⟩, S8.out⟩
             case round =>
              as_aux_lemma =>
               clear S8
               obtain ⟨n, k, hk, rfl, rfl, rfl, HN, hS⟩ := hrel
               have S9 := Lib.hid hS
               clear hS
               by_cases hks : k < s
               case pos =>
                as_aux_lemma =>
                 obtain ⟨hx9, hf9, hz9⟩ := (S9.out.box (k := 5) rfl).facts
                 obtain ⟨g0, o0, B0, d0, rfl, hzg0, hc1, -, hB0⟩ := (S9.out.linesRd' (k := 1) rfl).2.2.at_ HL0.out
                 obtain ⟨g1, o1, B1, d1, rfl, hzg1, hc3, -, hB1⟩ := (S9.out.linesRd' (k := 0) rfl).2.2.at_ HL1.out
                 obtain ⟨gb0, ob0, rfl, hzb0, hce0⟩ := hB0.cellOf (k := k) (by rw [HC0.out]; exact hks)
                 obtain ⟨gb1, ob1, rfl, hzb1, hce1⟩ := hB1.cellOf (k := k) (by rw [HC1.out]; exact hks)
                 obtain ⟨x0, hx0⟩ : ∃ x, cAt l0.1 k = x := ⟨_, rfl⟩
                 obtain ⟨x1, hx1⟩ : ∃ x, cAt l1.1 k = x := ⟨_, rfl⟩
                 rw [hx0] at hce0
                 rw [hx1] at hce1
                 have HX0 := Lib.hid hx0
                 have HX1 := Lib.hid hx1
                 have hi0 : (0 : Int) ≤ (i : Int) := by omega
                 have hi1 : (i : Int) < (L0.length : Int) := by have := HK0.out.2.1; omega
                 have hi2 : (i : Int) < (L1.length : Int) := by have := HLL1.out; omega
                 have hk0 : (0 : Int) ≤ (k : Int) := by omega
                 have hkl0 : (k : Int) < (l0.1.length : Int) := by rw [HC0.out]; omega
                 have hkl1 : (k : Int) < (l1.1.length : Int) := by rw [HC1.out]; omega
                 clear hB0 hB1 hx0 hx1
                 go_upto_region 36 with (fail)
                 refine wp_region_stage (w0 := wr) (os := []) (by kernel_rfl) (by kernel_rfl) (by kernel_rfl) [(0, 18, [18], fun vs => .box (blkOf (vs 18)) 71 (cv cell0)), (1, 19, [19], fun vs => .box (blkOf (vs 19)) 71 (cv cell0)), (0, 20, [18], fun vs => .box (blkOf (vs 18)) 71 (cv x0)), (1, 21, [19], fun vs => .box (blkOf (vs 19)) 71 (cv x1))] [[], [], [], [], [], [], [], [], [], [], [], [], [], [], [], [], [], [], [0], [1], [0], [1]] [.none, .none] (fun opn u => match opn with | 0 => u = .slice (some ⟨g0, o0, none⟩) L0.length c12 | 1 => u = .pointer (some ⟨b9, 0, none⟩) | 2 => u = .int .i64 ↑i | 3 => u = .pointer (some ⟨g0, o0 + i * 2, none⟩) | 4 => u = .pointer (some ⟨g0, o0 + i * 2, none⟩) | 5 => u = .slice (some ⟨gb0, ob0, none⟩) l0.1.length d0 | 6 => u = .int .i64 ↑k | 7 => u = .pointer (some ⟨gb0, ob0 + k * 16, none⟩) | 8 => u = .agg (cv x0) | 9 => u = .slice (some ⟨g1, o1, none⟩) L1.length c16 | 10 => u = .pointer (some ⟨b9, 0, none⟩) | 11 => u = .int .i64 ↑i | 12 => u = .pointer (some ⟨g1, o1 + i * 2, none⟩) | 13 => u = .pointer (some ⟨g1, o1 + i * 2, none⟩) | 14 => u = .slice (some ⟨gb1, ob1, none⟩) l1.1.length d1 | 15 => u = .int .i64 ↑k | 16 => u = .pointer (some ⟨gb1, ob1 + k * 16, none⟩) | 17 => u = .agg (cv x1) | 18 => ∃ g, u = .pointer (some ⟨g, 0, none⟩) | 19 => ∃ g, u = .pointer (some ⟨g, 0, none⟩) | 20 => True | 21 => True | _ => True) (fun vs => [.box (blkOf (vs 18)) 71 (cv x0), .box (blkOf (vs 19)) 71 (cv x1)]) (by rw [stageOk_bare]; simp only [bare, List.map_cons, List.map_nil]; decide +kernel) (fun vs => by rfl) (objs_start wr).pad.pad ?_ ?_
                 ·as_aux_lemma =>
                   apply sc
                   ·intro a w' vs σ hS hl hs hk
                    have f12 : a.tmps[12]?.getD undef = .slice (some ⟨g0, o0, none⟩) L0.length c12 := sof hk
                    exact rp (.slice (some ⟨g0, o0, none⟩) L0.length c12) (by simp [execOp, Act.eval, f12, go_sem]) hl hs hS
                   apply sc
                   ·intro a w' vs σ hS hl hs hk
                    have f9 : a.tmps[9]?.getD undef = .pointer (some ⟨b9, 0, none⟩) := sof hk
                    exact rp (pt b9 0) (by simp [execOp, Act.eval, f9, go_sem]) hl hs hS
                   apply sc
                   ·intro a w' vs σ hS hl hs hk
                    have f228 : a.tmps[228]?.getD undef = .pointer (some ⟨b9, 0, none⟩) := svf hk 1
                    have hx := (hS.base.cell (p := ⟨b9, 0, none⟩) hz9).trans (hx9 0)
                    exact rp (.int .i64 ↑i) (by simp [execOp, Act.eval, f228, go_sem, hx]) hl hs hS
                   apply sc
                   ·intro a w' vs σ hS hl hs hk
                    have f227 : a.tmps[227]?.getD undef = .slice (some ⟨g0, o0, none⟩) L0.length c12 := svf hk 0
                    have f229 : a.tmps[229]?.getD undef = .int .i64 ↑i := svf hk 2
                    exact rp (pt g0 (o0 + i * 2)) (by simp [execOp, Act.eval, f227, f229, go_sem, hi0, hi1]) hl hs hS
                   apply sc
                   ·intro a w' vs σ hS hl hs hk
                    have f230 : a.tmps[230]?.getD undef = .pointer (some ⟨g0, o0 + i * 2, none⟩) := svf hk 3
                    exact rp (pt g0 (o0 + i * 2)) (by simp [execOp, Act.eval, f230, go_sem]) hl hs hS
                   apply sc
                   ·intro a w' vs σ hS hl hs hk
                    have f231 : a.tmps[231]?.getD undef = .pointer (some ⟨g0, o0 + i * 2, none⟩) := svf hk 4
                    have hx := (hS.base.cell (p := ⟨g0, o0 + i * 2, none⟩) hzg0).trans hc1
                    exact rp (.slice (some ⟨gb0, ob0, none⟩) l0.1.length d0) (by simp [execOp, Act.eval, f231, go_sem, hx]) hl hs hS
                   apply sc
                   ·intro a w' vs σ hS hl hs hk
                    have f19 : a.tmps[19]?.getD undef = .int .i64 ↑k := sof hk
                    exact rp (.int .i64 ↑k) (by simp [execOp, Act.eval, f19, go_sem]) hl hs hS
                   apply sc
                   ·intro a w' vs σ hS hl hs hk
                    have f232 : a.tmps[232]?.getD undef = .slice (some ⟨gb0, ob0, none⟩) l0.1.length d0 := svf hk 5
                    have f233 : a.tmps[233]?.getD undef = .int .i64 ↑k := svf hk 6
                    exact rp (pt gb0 (ob0 + k * 16)) (by simp [execOp, Act.eval, f232, f233, go_sem, hk0, hkl0]) hl hs hS
                   apply sc
                   ·intro a w' vs σ hS hl hs hk
                    have f234 : a.tmps[234]?.getD undef = .pointer (some ⟨gb0, ob0 + k * 16, none⟩) := svf hk 7
                    have hx := (cellAt_below hS.base hzb0 (ob0 + k * 16)).trans hce0
                    exact rp (.agg (cv x0)) (by simp [execOp, Act.eval, f234, go_sem, hx]) hl hs hS
                   apply sc
                   ·intro a w' vs σ hS hl hs hk
                    have f16 : a.tmps[16]?.getD undef = .slice (some ⟨g1, o1, none⟩) L1.length c16 := sof hk
                    exact rp (.slice (some ⟨g1, o1, none⟩) L1.length c16) (by simp [execOp, Act.eval, f16, go_sem]) hl hs hS
                   apply sc
                   ·intro a w' vs σ hS hl hs hk
                    have f9 : a.tmps[9]?.getD undef = .pointer (some ⟨b9, 0, none⟩) := sof hk
                    exact rp (pt b9 0) (by simp [execOp, Act.eval, f9, go_sem]) hl hs hS
                   apply sc
                   ·intro a w' vs σ hS hl hs hk
                    have f237 : a.tmps[237]?.getD undef = .pointer (some ⟨b9, 0, none⟩) := svf hk 10
                    have hx := (hS.base.cell (p := ⟨b9, 0, none⟩) hz9).trans (hx9 0)
                    exact rp (.int .i64 ↑i) (by simp [execOp, Act.eval, f237, go_sem, hx]) hl hs hS
                   apply sc
                   ·intro a w' vs σ hS hl hs hk
                    have f236 : a.tmps[236]?.getD undef = .slice (some ⟨g1, o1, none⟩) L1.length c16 := svf hk 9
                    have f238 : a.tmps[238]?.getD undef = .int .i64 ↑i := svf hk 11
                    exact rp (pt g1 (o1 + i * 2)) (by simp [execOp, Act.eval, f236, f238, go_sem, hi0, hi2]) hl hs hS
                   apply sc
                   ·intro a w' vs σ hS hl hs hk
                    have f239 : a.tmps[239]?.getD undef = .pointer (some ⟨g1, o1 + i * 2, none⟩) := svf hk 12
                    exact rp (pt g1 (o1 + i * 2)) (by simp [execOp, Act.eval, f239, go_sem]) hl hs hS
                   apply sc
                   ·intro a w' vs σ hS hl hs hk
                    have f240 : a.tmps[240]?.getD undef = .pointer (some ⟨g1, o1 + i * 2, none⟩) := svf hk 13
                    have hx := (hS.base.cell (p := ⟨g1, o1 + i * 2, none⟩) hzg1).trans hc3
                    exact rp (.slice (some ⟨gb1, ob1, none⟩) l1.1.length d1) (by simp [execOp, Act.eval, f240, go_sem, hx]) hl hs hS
                   apply sc
                   ·intro a w' vs σ hS hl hs hk
                    have f19 : a.tmps[19]?.getD undef = .int .i64 ↑k := sof hk
                    exact rp (.int .i64 ↑k) (by simp [execOp, Act.eval, f19, go_sem]) hl hs hS
                   apply sc
                   ·intro a w' vs σ hS hl hs hk
                    have f241 : a.tmps[241]?.getD undef = .slice (some ⟨gb1, ob1, none⟩) l1.1.length d1 := svf hk 14
                    have f242 : a.tmps[242]?.getD undef = .int .i64 ↑k := svf hk 15
                    exact rp (pt gb1 (ob1 + k * 16)) (by simp [execOp, Act.eval, f241, f242, go_sem, hk0, hkl1]) hl hs hS
                   apply sc
                   ·intro a w' vs σ hS hl hs hk
                    have f243 : a.tmps[243]?.getD undef = .pointer (some ⟨gb1, ob1 + k * 16, none⟩) := svf hk 16
                    have hx := (cellAt_below hS.base hzb1 (ob1 + k * 16)).trans hce1
                    exact rp (.agg (cv x1)) (by simp [execOp, Act.eval, f243, go_sem, hx]) hl hs hS
                   apply sc
                   ·intro a w' vs σ hS hl hs hk
                    have h1 : σ[0]? = some .none := hs 0 (by decide)
                    exact rs_run (v' := .pointer (some ⟨w'.heap.size, 0, none⟩)) (w' := w'.alloc (.cells (cv cell0) 71)) (wanted_none rfl) (by first | (simp [execOp, go_sem]; done) | (simp [execOp, go_sem]; rfl) | rfl) (sp_set 0 (.box w'.heap.size 71 (cv cell0)) (by kernel_rfl) (by simp) (by decide) hl hs (by rfl) (hS.alloc1.place (sg h1)) ⟨_, rfl⟩)
                   apply sc
                   ·intro a w' vs σ hS hl hs hk
                    have h1 : σ[1]? = some .none := hs 1 (by decide)
                    exact rs_run (v' := .pointer (some ⟨w'.heap.size, 0, none⟩)) (w' := w'.alloc (.cells (cv cell0) 71)) (wanted_none rfl) (by first | (simp [execOp, go_sem]; done) | (simp [execOp, go_sem]; rfl) | rfl) (sp_set 1 (.box w'.heap.size 71 (cv cell0)) (by kernel_rfl) (by simp) (by decide) hl hs (by rfl) (hS.alloc1.place (sg h1)) ⟨_, rfl⟩)
                   apply sc
                   ·intro a w' vs σ hS hl hs hk
                    have e20 : a.tmps.getD 20 undef = vs 18 := sk_val hk 18 (by kernel_rfl) rfl rfl
                    have p20 : (fun u : Value => ∃ g, u = .pointer (some ⟨g, 0, none⟩)) (vs 18) := (hk.1 18 (by kernel_rfl)).1
                    have f20 := gd e20
                    have f235 : a.tmps[235]?.getD undef = .agg (cv x0) := svf hk 8
                    obtain ⟨g9, q9⟩ := p20
                    have h1 : σ[0]? = some (.box (blkOf (vs 18)) 71 (cv cell0)) := hs 0 (by decide)
                    rw [q9, show blkOf (.pointer (some ⟨g9, 0, none⟩)) = g9 from rfl] at h1
                    have hst := store_cv_row w' g9 (cv cell0) x0 (hS.box (sg h1)) (cv_size _)
                    exact rstep_store (w2 := w'.setRow g9 (cv x0)) (wanted_none rfl) rfl (by simp [execOp, Act.eval, e20, f20, f235, q9, hst, go_sem]) (sp_set 0 (.box g9 71 (cv x0)) (by kernel_rfl) (by simp) (by decide) hl hs (by show Ob.box (blkOf (vs 18)) 71 (cv x0) = _; rw [q9]; rfl) (hS.rowBox 0 (ds := cv x0) (sg h1)) trivial) trivial
                   apply sc
                   ·intro a w' vs σ hS hl hs hk
                    have e21 : a.tmps.getD 21 undef = vs 19 := sk_val hk 19 (by kernel_rfl) rfl rfl
                    have p21 : (fun u : Value => ∃ g, u = .pointer (some ⟨g, 0, none⟩)) (vs 19) := (hk.1 19 (by kernel_rfl)).1
                    have f21 := gd e21
                    have f244 : a.tmps[244]?.getD undef = .agg (cv x1) := svf hk 17
                    obtain ⟨g9, q9⟩ := p21
                    have h1 : σ[1]? = some (.box (blkOf (vs 19)) 71 (cv cell0)) := hs 1 (by decide)
                    rw [q9, show blkOf (.pointer (some ⟨g9, 0, none⟩)) = g9 from rfl] at h1
                    have hst := store_cv_row w' g9 (cv cell0) x1 (hS.box (sg h1)) (cv_size _)
                    exact rstep_store (w2 := w'.setRow g9 (cv x1)) (wanted_none rfl) rfl (by simp [execOp, Act.eval, e21, f21, f244, q9, hst, go_sem]) (sp_set 1 (.box g9 71 (cv x1)) (by kernel_rfl) (by simp) (by decide) hl hs (by show Ob.box (blkOf (vs 19)) 71 (cv x1) = _; rw [q9]; rfl) (hS.rowBox 1 (ds := cv x1) (sg h1)) trivial) trivial
                   exact SSteps.nil
                 ·intro vs w' hS hv
                  have q0 : vs 0 = _ := hv 0 (by decide)
                  have q1 : vs 1 = _ := hv 1 (by decide)
                  have q2 : vs 2 = _ := hv 2 (by decide)
                  have q3 : vs 3 = _ := hv 3 (by decide)
                  have q4 : vs 4 = _ := hv 4 (by decide)
                  have q5 : vs 5 = _ := hv 5 (by decide)
                  have q6 : vs 6 = _ := hv 6 (by decide)
                  have q7 : vs 7 = _ := hv 7 (by decide)
                  have q8 : vs 8 = _ := hv 8 (by decide)
                  have q9 : vs 9 = _ := hv 9 (by decide)
                  have q10 : vs 10 = _ := hv 10 (by decide)
                  have q11 : vs 11 = _ := hv 11 (by decide)
                  have q12 : vs 12 = _ := hv 12 (by decide)
                  have q13 : vs 13 = _ := hv 13 (by decide)
                  have q14 : vs 14 = _ := hv 14 (by decide)
                  have q15 : vs 15 = _ := hv 15 (by decide)
                  have q16 : vs 16 = _ := hv 16 (by decide)
                  have q17 : vs 17 = _ := hv 17 (by decide)
                  obtain ⟨b20, q18⟩ := (show ∃ g, vs 18 = .pointer (some ⟨g, 0, none⟩) from hv 18 (by decide))
                  obtain ⟨b21, q19⟩ := (show ∃ g, vs 19 = .pointer (some ⟨g, 0, none⟩) from hv 19 (by decide))
                  rw [q18, q19, show blkOf (.pointer (some ⟨b20, 0, none⟩)) = b20 from rfl, show blkOf (.pointer (some ⟨b21, 0, none⟩)) = b21 from rfl] at hS
                  have S2 := Lib.hid hS
                  simp only [putL, Act.put, Nat.zero_add, Nat.reduceAdd, List.setIfInBounds_toArray, List.set_cons_succ, List.set_cons_zero, q0, q1, q2, q3, q4, q5, q6, q7, q8, q9, q10, q11, q12, q13, q14, q15, q16, q17]
                  clear hS hv q0 q1 q2 q3 q4 q5 q6 q7 q8 q9 q10 q11 q12 q13 q14 q15 q16 q17
                  simp only [q18, q19]
                  have S10 := S2
                  clear S2 q18 q19
                  as_aux_lemma =>
                   have S11 := Lib.hid (show Objs w _ (.box b20 71 (cv x0) :: .box b21 71 (cv x1) :: [.lines (.slice (some ⟨g1, o1, none⟩) L1.length c16) L1, .lines (.slice (some ⟨g0, o0, none⟩) L0.length c12) L0, .box b13 48 #[.int .i64 ↑i2, .int .i64 ↑j2, .bool pd2], .box b11 56 (av16 a1), .grid p 58 ↑s L1, .box b9 48 #[.int .i64 ↑i, .int .i64 ↑j, .bool pd]]) from S9.out.nests S10.out)
                   clear S9 S10 hx9 hf9 hz9 hzg0 hc1 hzg1 hc3 hzb0 hce0 hzb1 hce1 hi0 hi1 hi2 hk0 hkl0 hkl1
                   have hca0 := (S11.out.box (k := 0) rfl).cellAt
                   have hca1 := (S11.out.box (k := 1) rfl).cellAt
                   obtain ⟨hx20, hf20, hz20⟩ := (S11.out.box (k := 0) rfl).facts
                   obtain ⟨hx21, hf21, hz21⟩ := (S11.out.box (k := 1) rfl).facts
                   have hne := S11.out.two_ne (i := 0) (j := 1) rfl rfl (by decide)
                   have hne' := hne.symm
                   by_cases hxx : x0 = x1
                   case pos =>
                    as_aux_lemma =>
                     have hd := decide_eq_true hxx
                     clear hxx
                     go_wp2_with fail
                     go_roundg (s - (k + 1))
                     case measure => omega
                     case rel => exact ⟨n, k + 1, by omega, rfl, rfl, by go_num, Lib.hid ⟨by have := HN.out.1; omega, fun h => ⟨(HN.out.2 h).1, fun g => by have := (HN.out.2 h).2 g; omega⟩⟩, S11.out.tail.tail⟩
                   have hnk := HN.out.1
                   have hd := decide_eq_false hxx
                   have HXX := Lib.hid hxx
                   clear hxx
                   have S12 := Lib.hid (show Objs w _ (.box b20 71 (cv (strip x0)) :: .box b21 71 (cv (strip x1)) :: [.lines (.slice (some ⟨g1, o1, none⟩) L1.length c16) L1, .lines (.slice (some ⟨g0, o0, none⟩) L0.length c12) L0, .box b13 48 #[.int .i64 ↑i2, .int .i64 ↑j2, .bool pd2], .box b11 56 (av16 a1), .grid p 58 ↑s L1, .box b9 48 #[.int .i64 ↑i, .int .i64 ↑j, .bool pd]]) from (S11.out.strip 0 rfl).strip 1 rfl)
                   go_upto_region 40 with (fail)
                   clear hca0 hca1 hd S11 hx20 hx21 hne hne'
                   refine at_objsC S12.out (fun W2 hW2 => ?_)
                   clear S12
                   have S12 := Lib.hid hW2
                   clear hW2
                   obtain ⟨hx9, hf9, hz9⟩ := (S12.out.box (k := 7) rfl).facts
                   obtain ⟨hx11, hf11, hz11⟩ := (S12.out.box (k := 5) rfl).facts
                   go_upto_region 41 with (fail)
                   have HWS := Lib.hid (show IntKind.i64.wrap ((s : Int) - 1) = (s : Int) - 1 from IntWalk.i64_in _ (by omega))
                   have HWJ := Lib.hid (show IntKind.i64.wrap ((j : Int) - 1) = (j : Int) - 1 from IntWalk.i64_in _ (by omega))
                   obtain ⟨bs, hbs⟩ : ∃ bs, decide (wOf a1.r = 2 ∧ a1.auto = false ∧ j = s - 1) = bs := ⟨_, rfl⟩
                   have HBS := Lib.hid hbs
                   clear hbs
                   go_cut [22, 270] (fun s22 s270 wx => s22 = .int .i64 ↑j ∧ s270 = .bool bs ∧ Objs w wx (.box b20 71 (cv (strip x0)) :: .box b21 71 (cv (strip x1)) :: [.lines (.slice (some ⟨g1, o1, none⟩) L1.length c16) L1, .lines (.slice (some ⟨g0, o0, none⟩) L0.length c12) L0, .box b13 48 #[.int .i64 ↑i2, .int .i64 ↑j2, .bool pd2], .box b11 56 (av16 a1), .grid p 58 ↑s L1, .box b9 48 #[.int .i64 ↑i, .int .i64 ↑j, .bool pd]]))
                   case first =>
                    as_aux_lemma =>
                     have hcas : ¬ wOf a1.r = 2 ∨ (wOf a1.r = 2 ∧ a1.auto = true) ∨ (wOf a1.r = 2 ∧ a1.auto = false ∧ ¬ j = s - 1) ∨ (wOf a1.r = 2 ∧ a1.auto = false ∧ j = s - 1) := by
                      by_cases h1 : wOf a1.r = 2
                      ·cases h2 : a1.auto
                       ·by_cases h3 : j = s - 1
                        ·exact .inr (.inr (.inr ⟨h1, rfl, h3⟩))
                        ·exact .inr (.inr (.inl ⟨h1, rfl, h3⟩))
                       ·exact .inr (.inl ⟨h1, rfl⟩)
                      ·exact .inl h1
                     go_wp2_with fail
                     refine (width_is rfl _ (S12.out.tabs HT.out)).mono ?_
                     rintro x w9 ⟨rfl, hb⟩
                     have S13 := Lib.hid (S12.out.bel hb)
                     clear hb S12 hx9 hf9 hz9 hx11 hf11 hz11 hf20 hz20 hf21 hz21
                     obtain ⟨hx11, hf11, hz11⟩ := (S13.out.box (k := 5) rfl).facts
                     rcases hcas with h1 | ⟨h1, h2⟩ | ⟨h1, h2, h3⟩ | ⟨h1, h2, h3⟩
                     ·have hb1 := beq_no h1
                      have HD := Lib.hid (show bs = false by rw [← HBS.out]; exact decide_eq_false (fun h => h1 h.1))
                      clear h1
                      go_wp2_with fail
                      go_meet
                      case rel => exact ⟨rfl, by rw [HD.out], S13.out⟩
                     ·have hb1 := beq_yes h1
                      have HD := Lib.hid (show bs = false by rw [← HBS.out]; exact decide_eq_false (fun h => by rw [h2] at h; cases h.2.1))
                      clear h1
                      go_wp2_with fail
                      go_meet
                      case rel => exact ⟨rfl, by rw [HD.out], S13.out⟩
                     ·have hb1 := beq_yes h1
                      have hb3 : ((j : Int) == (s : Int) - 1) = false := beq_no (by omega)
                      have HD := Lib.hid (show bs = false by rw [← HBS.out]; exact decide_eq_false (fun h => h3 h.2.2))
                      clear h1 h3
                      have hws := HWS.out
                      go_wp2_with fail
                      go_meet
                      case rel => exact ⟨rfl, by rw [HD.out], S13.out⟩
                     ·have hb1 := beq_yes h1
                      have hb3 : ((j : Int) == (s : Int) - 1) = true := beq_yes (by omega)
                      have HD := Lib.hid (show bs = true by rw [← HBS.out]; exact decide_eq_true ⟨h1, h2, h3⟩)
                      clear h1 h3
                      have hws := HWS.out
                      go_wp2_with fail
                      go_meet
                      case rel => exact ⟨rfl, by rw [HD.out], S13.out⟩
                   case rest =>
                    as_aux_lemma =>
                     obtain ⟨rfl, rfl, hS⟩ := hcut
                     have S13 := Lib.hid hS
                     clear hS S12 hx9 hf9 hz9 hx11 hf11 hz11 hf20 hz20 hf21 hz21
                     obtain ⟨lo, hlo⟩ : ∃ lo, lowA s a1 j = lo := ⟨_, rfl⟩
                     have HLO := Lib.hid hlo
                     have hlob : -1 ≤ lo ∧ lo < s := by rw [← hlo]; unfold lowA; split <;> omega
                     clear hlo
                     obtain ⟨hx11, hf11, hz11⟩ := (S13.out.box (k := 5) rfl).facts
                     have hca0 := (S13.out.box (k := 0) rfl).cellAt
                     have hca1 := (S13.out.box (k := 1) rfl).cellAt
                     obtain ⟨hx20, hf20, hz20⟩ := (S13.out.box (k := 0) rfl).facts
                     obtain ⟨-, hf21, hz21⟩ := (S13.out.box (k := 1) rfl).facts
                     go_upto_if 270 with (fail)
                     go_cut [22] (fun s22 wx => s22 = .int .i64 lo ∧ Objs w wx (.box b20 71 (cv (strip x0)) :: .box b21 71 (cv (strip x1)) :: [.lines (.slice (some ⟨g1, o1, none⟩) L1.length c16) L1, .lines (.slice (some ⟨g0, o0, none⟩) L0.length c12) L0, .box b13 48 #[.int .i64 ↑i2, .int .i64 ↑j2, .bool pd2], .box b11 56 (av16 a1), .grid p 58 ↑s L1, .box b9 48 #[.int .i64 ↑i, .int .i64 ↑j, .bool pd]]))
                     case first =>
                      as_aux_lemma =>
                       cases bs with
                       | true =>
                        have HLL := Lib.hid (show (j : Int) - 1 = lo by rw [← HLO.out]; unfold lowA; rw [if_pos (of_decide_eq_true HBS.out)])
                        clear hlob
                        have hwj := HWJ.out
                        go_wp2_with fail
                        go_meet
                        case rel => exact ⟨by rw [← HLL.out], S13.out⟩
                       | false =>
                        have HLL := Lib.hid (show (j : Int) = lo by rw [← HLO.out]; unfold lowA; rw [if_neg (of_decide_eq_false HBS.out)])
                        clear hlob
                        go_wp2_with fail
                        go_meet
                        case rel => exact ⟨by rw [HLL.out], S13.out⟩
                     case rest =>
                      as_aux_lemma =>
                       obtain ⟨rfl, hS⟩ := hcut
                       have S14 := Lib.hid hS
                       clear hS S13 hx11 hf11 hz11 hca0 hca1 hx20 hf20 hz20 hf21 hz21
                       go_upto_region 43 with (fail)
                       obtain ⟨hx11, hf11, hz11⟩ := (S14.out.box (k := 5) rfl).facts
                       have hca0 := (S14.out.box (k := 0) rfl).cellAt
                       have hca1 := (S14.out.box (k := 1) rfl).cellAt
                       obtain ⟨hx20, hf20, hz20⟩ := (S14.out.box (k := 0) rfl).facts
                       obtain ⟨-, hf21, hz21⟩ := (S14.out.box (k := 1) rfl).facts
                       have hne : ¬ cAt l0.1 k = cAt l1.1 k := by rw [HX0.out, HX1.out]; exact HXX.out
                       have HNE := Lib.hid hne
                       clear hne
                       go_cut [301] (fun s301 wx => s301 = .bool false ∧ Objs w wx (.box b20 71 (cv (strip x0)) :: .box b21 71 (cv (strip x1)) :: [.lines (.slice (some ⟨g1, o1, none⟩) L1.length c16) L1, .lines (.slice (some ⟨g0, o0, none⟩) L0.length c12) L0, .box b13 48 #[.int .i64 ↑i2, .int .i64 ↑j2, .bool pd2], .box b11 56 (av16 a1), .grid p 58 ↑s L1, .box b9 48 #[.int .i64 ↑i, .int .i64 ↑j, .bool pd]]))
                       case first =>
                        as_aux_lemma =>
                         by_cases h1 : a1.what = 1
                         case pos =>
                          as_aux_lemma =>
                           have hb1 := beq_yes h1
                           have hb0 : (a1.what == 0) = false := beq_no (by omega)
                           have hst : decide (strip x0 = strip x1) = true := decide_eq_true (by have := (HHO.out.mark h1 k hks HNE.out).2; rw [HX0.out, HX1.out] at this; exact this)
                           clear h1
                           go_wp2_with fail
                           go_meet
                           case rel => exact ⟨rfl, S14.out⟩
                         by_cases h0 : a1.what = 0
                         case pos =>
                          as_aux_lemma =>
                           have hb1 := beq_no h1
                           have hb0 := beq_yes h0
                           clear h1
                           by_cases hkl : (k : Int) < lo
                           case pos =>
                            as_aux_lemma =>
                             obtain ⟨p1, p2⟩ := HHO.out.prnt h0 k hks HNE.out (by rw [HLO.out]; exact hkl)
                             rw [HLO.out] at p1
                             have hkn : ¬ (k : Int) < lo - 1 := by omega
                             have hwl : IntKind.i64.wrap (lo - 1) = lo - 1 := IntWalk.i64_in _ (by omega)
                             have hw2 : ((strip x0).width != 2) = false := bne_no (by rw [HX0.out] at p2; exact p2)
                             clear p1 p2 h0
                             go_wp2_with fail
                             go_meet
                             case rel => exact ⟨rfl, S14.out⟩
                           case neg =>
                            as_aux_lemma =>
                             clear h0
                             go_wp2_with fail
                             go_meet
                             case rel => exact ⟨rfl, S14.out⟩
                         have hb1 := beq_no h1
                         have hb0 := beq_no h0
                         clear h1 h0
                         go_wp2_with fail
                         go_meet
                         case rel => exact ⟨rfl, S14.out⟩
                       case rest =>
                        as_aux_lemma =>
                         obtain ⟨rfl, hS⟩ := hcut
                         have S15 := Lib.hid hS
                         clear hS S14 hx11 hf11 hz11 hca0 hca1 hx20 hf20 hz20 hf21 hz21
                         go_wp2_with fail
                         go_roundg (s - (k + 1))
                         case measure => omega
                         case rel => exact ⟨n + 1, k + 1, by omega, rfl, by go_num, by go_num, Lib.hid ⟨by omega, fun h => by
                          have h2 := HN.out.2 h
                          have h3 := (HHO.out.mark h k hks HNE.out).1
                          exact ⟨by omega, fun _ => by omega⟩⟩, S15.out.tail.tail⟩

               case neg =>
                as_aux_lemma =>
                 have hks1 : ¬ (k : Int) < (s : Int) := by omega
                 clear hks
                 obtain ⟨hx11, hf11, hz11⟩ := (S9.out.box (k := 3) rfl).facts
                 obtain ⟨hx13, hf13, hz13⟩ := (S9.out.box (k := 2) rfl).facts
                 obtain ⟨hx9, hf9, hz9⟩ := (S9.out.box (k := 5) rfl).facts
                 have SF := Lib.hid (S9.out.setCur 5 (r := ↑i2) (c := ↑j2) (b := pd2) rfl)
                 by_cases h1 : a1.what = 1
                 case' pos =>
                  have hb1 := beq_yes h1
                  have hnn : ¬ (1 : Int) < (n : Int) := by have := (HN.out.2 h1).1; omega
                 case' neg =>
                  have hb1 := beq_no h1
                 all_goals
                  clear h1
                  go_wp2_with fail
                  go_roundg (l.length - (k0 + 1))
                  case measure => omega
                  case rel => exact ⟨k0 + 1, i2, j2, pd2, L1, by omega, rfl, by go_num, HI2, HK1, (Objs.pick (σ := [_, _, _, _, _, _]) (os := []) SF.out [some 4, some 5] (by decide) rfl)⟩

end Go.Proofs.YtppijfjigcoifaaDoor
