/- TokB, TokC, TokD, TokE, TokF, TokG, TokH, ParA, ParB, ParC. -/
import Derived.Test.YtkfillfkbhbbjaaGreatDoorTokA
import Derived.Laws.BytesArg
set_option maxRecDepth 100000
set_option maxHeartbeats 4000000
set_option linter.unusedSimpArgs false
set_option linter.unusedVariables false
namespace Go.Proofs.YtkfillfkbhbbjaaGreatDoor
open Go.RowKit
set_option maxHeartbeats 1000000 in
theorem skip_any {s : ByteArray} {i r : Nat} {f : Nat} (h : skipF s f i = some r) (hi : i ≤ s.size) (hs : s.size ≤ 1000000) (w : World) : Calls Tryz.prog 91 #[.string s, .int .i64 i] w fun e w' => e = .returned (.int .i64 r) ∧ w' = w := by
 have H := zh h; clear h
 go_enter Tryz.func91, Tryz.ntmps91
 go_wp2_with fail
 go_loop [1] (fun iv => ∃ k g : Nat, k ≤ s.size ∧ iv = .int .i64 k ∧ Hid (skipF s g k = some r)) (fun iv => s.size - (intOf iv).toNat)
 case atStart => exact ⟨i, f, hi, rfl, zh H.out⟩
 obtain ⟨k, g, hk, rfl, HA⟩ := hrel;have ha := HA.out;clear HA
 cases g with
 | zero => simp [skipF] at ha
 | succ g =>
  rw [skipF] at ha
  by_cases h3 : k < s.size
  ·rw [nth_some h3] at ha;generalize hz : ((s[k]'h3).toNat : Int) = z at *
   simp only at ha
   by_cases hb : z = 32 ∨ z = 9 ∨ z = 13
   ·rw [if_pos hb] at ha;have HA := zh ha; clear ha
    rcases hb with rfl | rfl | rfl
    all_goals
     go_wp2_with fail
     exact ⟨⟨k + 1, g, by omega, by go_num, HA⟩, by simp [intOf]; omega⟩
   rw [if_neg hb] at ha
   by_cases hc : z = 92 ∨ z = 35
   ·rw [if_pos hc] at ha; cases ha
   rw [if_neg hc] at ha;obtain rfl := Option.some.inj ha;clear ha;have n1 : (z == 32) = false := beq_false_of_ne fun h => hb (.inl h)
   have n2 : (z == 9) = false := beq_false_of_ne fun h => hb (.inr (.inl h))
   have n3 : (z == 13) = false := beq_false_of_ne fun h => hb (.inr (.inr h))
   have n4 : (z == 92) = false := beq_false_of_ne fun h => hc (.inl h)
   have n5 : (z == 35) = false := beq_false_of_ne fun h => hc (.inr h)
   clear hb hc
   go_wp2_with fail
   go_ret
   exact zfb
  rw [nth_none qg] at ha;obtain rfl := Option.some.inj ha;clear ha
  go_wp2_with fail
  go_ret
  exact zfb
set_option maxRecDepth 1000000 in
theorem isWord_any (t : ByteArray) (w : World) : Calls Tryz.prog 94 #[.string t] w fun e w' => e = .returned (.bool (isWord t)) ∧ w' = w := by
 go_enter Tryz.func94, Tryz.ntmps94
 go_wp2_with fail
 refine (among_any words t zi w).mono ?_;rintro e w' ⟨rfl, rfl⟩
 go_wp2_with fail
 go_ret
 exact zfb
set_option maxRecDepth 1000000 in
theorem isBuilt_any (t : ByteArray) (w : World) : Calls Tryz.prog 95 #[.string t] w fun e w' => e = .returned (.bool (isBuilt t)) ∧ w' = w := by
 go_enter Tryz.func95, Tryz.ntmps95
 go_wp2_with fail
 refine (among_any builts t zi w).mono ?_;rintro e w' ⟨rfl, rfl⟩
 go_wp2_with fail
 go_ret
 exact zfb
set_option maxHeartbeats 1000000 in
theorem dig_any (s : ByteArray) (i : Nat) (hs : s.size ≤ 1000000) (w : World) : Calls Tryz.prog 123 #[.string s, .int .i64 i] w fun e w' => e = .returned (.bool (digF s i)) ∧ w' = w := by
 by_cases h3 : i < s.size
 ·have hd : digF s i = digitF ((s[i]'h3).toNat : Int) := by simp [digF, nth_some h3]
  rw [hd];clear hd;generalize hz : ((s[i]'h3).toNat : Int) = z at *
  by_cases h1 : 48 ≤ z
  ·have hd : digitF z = decide (z ≤ 57) := by simp [digitF, h1]
   exact zvd
  have hd : digitF z = false := by simp [digitF, h1]
  exact zvd
 have hd : digF s i = false := by simp [digF, nth_none (Nat.le_of_not_lt h3)]
 exact zvd
set_option maxRecDepth 1000000 in
set_option maxHeartbeats 4000000 in
theorem sign_any {s : ByteArray} {i : Nat} (h3 : i < s.size) (hs : s.size ≤ 1000000) (w : World) : Calls Tryz.prog 101 #[.string s, .int .i64 i] w fun e w' => e = .returned (.string ((signF s i ((s[i]'h3).toNat : Int)).getD (bs []))) ∧ w' = w := by
 have hw1 : IntKind.i64.wrap ((i : Int) + 1) = (i : Int) + 1 := IntWalk.i64_in _ qg;have hw2 : IntKind.i64.wrap ((i : Int) + 2) = (i : Int) + 2 := IntWalk.i64_in _ qg;generalize hz : ((s[i]'h3).toNat : Int) = z at *
 by_cases h1 : i + 1 < s.size
 ·cases hA : among signs2 (s.extract i (i + 2))
  ·by_cases h32 : z = 32
   ·subst h32;rw [show (signF s i 32).getD (bs []) = bs [] from by simp [signF, *]];exact jvd
   have n1 : (z == 32) = false := beq_false_of_ne h32
   cases hB : among signs1 (s.extract i (i + 1))
   ·rw [show (signF s i z).getD (bs []) = bs [] from by simp [signF, *]];exact qrd
   rw [show (signF s i z).getD (bs []) = s.extract i (i + 1) from by simp [signF, *]];exact qrd
  rw [show (signF s i z).getD (bs []) = s.extract i (i + 2) from by simp [signF, *]];exact jvd
 by_cases h32 : z = 32
 ·subst h32;rw [show (signF s i 32).getD (bs []) = bs [] from by simp [signF, *]]
  go_enter Tryz.func101, Tryz.ntmps101
  go_wp2_with fail
  go_ret
  exact zfb
 have n1 : (z == 32) = false := beq_false_of_ne h32
 cases hB : among signs1 (s.extract i (i + 1))
 ·rw [show (signF s i z).getD (bs []) = bs [] from by simp [signF, *]];exact qvd
 rw [show (signF s i z).getD (bs []) = s.extract i (i + 1) from by simp [signF, *]];exact qvd
theorem dig_any' (s : ByteArray) (i : Nat) (hs : s.size ≤ 1000000) (w : World) : Calls Tryz.prog 123 #[.string s, .int .i64 ((i : Int) + 1)] w fun e w' => e = .returned (.bool (digF s (i + 1))) ∧ w' = w := dig_any s (i + 1) hs w
set_option maxRecDepth 1000000 in
set_option maxHeartbeats 4000000 in
theorem numeral_any {s : ByteArray} {i e : Nat} (h : numeralF s i = some e) (hi : i ≤ s.size) (hs : s.size ≤ 1000000) (w : World) : Calls Tryz.prog 99 #[.string s, .int .i64 i] w fun r w' => r = .returned (.int .i64 e) ∧ w' = w := by
 have hw1 : IntKind.i64.wrap ((i : Int) + 1) = (i : Int) + 1 := IntWalk.i64_in _ qg
 by_cases h3 : i < s.size
 ·have hd : digF s i = digitF ((s[i]'h3).toNat : Int) := by simp [digF, nth_some h3]
  rw [numeralF, nth_some h3] at h;generalize hz : ((s[i]'h3).toNat : Int) = z at *
  simp only at h
  cases hdz : digitF z
  ·rw [hdz] at h hd;simp only [Bool.false_eq_true, if_false] at h
   by_cases h46 : z = 46
   ·rw [if_pos h46] at h; cases h
   rw [if_neg h46] at h;obtain rfl := Option.some.inj h;have n46 : (z == 46) = false := beq_false_of_ne h46;clear h h46 hdz;exact zsd
  rw [hdz] at h hd;simp only [if_true] at h
  by_cases h4 : i + 1 < s.size
  ·have hd1 : digF s (i + 1) = digitF ((s[i + 1]'h4).toNat : Int) := by simp [digF, nth_some h4]
   rw [nth_some h4] at h;generalize hy : ((s[i + 1]'h4).toNat : Int) = y at *
   simp only at h
   split at h
   ·cases h
   rename_i hn;obtain rfl := Option.some.inj h;simp only [Bool.or_eq_true, not_or, Bool.not_eq_true] at hn;obtain ⟨⟨⟨n1, n2⟩, n3⟩, n4⟩ := hn;rw [n1] at hd1;clear h hdz n1;exact qpd
  rw [nth_none qg] at h;obtain rfl := Option.some.inj h;have hd1 : digF s (i + 1) = false := by simp [digF, nth_none (Nat.le_of_not_lt h4)]
  clear h hdz;exact qpd
 rw [numeralF, nth_none qg] at h;obtain rfl := Option.some.inj h;have hd : digF s i = false := by simp [digF, nth_none (Nat.le_of_not_lt h3)]
 clear h;exact zsd
theorem placeF_nl {s : ByteArray} {i k l c : Nat} (hk : k < i) (h : nthZ s k = some 10) : placeF s (i - k) k l c = placeF s (i - (k + 1)) (k + 1) (l + 1) 1 := by
 have e : i - k = (i - (k + 1)) + 1 := by omega
 rw [e, placeF, if_pos h]
theorem placeF_on {s : ByteArray} {i k l c : Nat} (hk : k < i) (h : nthZ s k ≠ some 10) : placeF s (i - k) k l c = placeF s (i - (k + 1)) (k + 1) l (c + 1) := by
 have e : i - k = (i - (k + 1)) + 1 := by omega
 rw [e, placeF, if_neg h]
set_option maxHeartbeats 2000000 in
theorem place_any {s : ByteArray} {i : Nat} (hi : i ≤ s.size) (hs : s.size ≤ 1000000) (w : World) : Calls Tryz.prog 102 #[.string s, .int .i64 i] w fun r w' => r = .returned (.complex .f64 (placeOf s i).1 (placeOf s i).2) ∧ w' = w := by
 rcases Nat.eq_zero_or_pos i with rfl | hpos
 ·have hP0 : Ending.returned (.complex .f64 (floatOfInt .f64 1) (floatOfInt .f64 1)) = Ending.returned (.complex .f64 (placeOf s 0).1 (placeOf s 0).2) := by
   have e : placeOf s 0 = (flt 1, flt 1) := rfl;rw [e]
   rfl
  go_enter Tryz.func102, Tryz.ntmps102
  go_wp2_with fail
  refine wp_loop_rounds 1 ?_;rw [rounds_succ]
  go_wp2_with fail
  go_ret
  exact ⟨hP0, rfl⟩
 obtain ⟨R, hR⟩ : ∃ R, placeF s i 0 1 1 = R := ⟨_, rfl⟩;have hP : placeOf s i = (flt R.1, flt R.2) := by unfold placeOf; rw [hR]
 rw [hP];clear hP;have HR := zh hR; clear hR
 go_enter Tryz.func102, Tryz.ntmps102
 go_wp2_with fail
 go_loop [5, 6, 7] (fun lv cv iv => ∃ k l c : Nat, k ≤ i ∧ l ≤ k + 1 ∧ c ≤ k + 1 ∧ iv = .int .i64 k ∧ lv = .int .i64 l ∧ cv = .int .i64 c ∧ Hid (placeF s (i - k) k l c = R)) (fun _ _ iv => i - (intOf iv).toNat)
 case atStart => exact ⟨0, 1, 1, by omega, by omega, by omega, rfl, rfl, rfl, zh (by simpa using HR.out)⟩
 obtain ⟨k, l, c, hk, hl, hc, rfl, rfl, rfl, HA⟩ := hrel
 by_cases h1 : k < i
 ·have h4 : k < s.size := by omega
  have hnz := nth_some h4;have ha := HA.out;clear HA;generalize hz : ((s[k]'h4).toNat : Int) = z at *
  by_cases h10 : z = 10
  ·subst h10;rw [placeF_nl h1 hnz] at ha;have HA := zh ha;clear ha hnz
   go_wp2_with fail
   exact ⟨⟨k + 1, l + 1, 1, by omega, by omega, by omega, by go_num, by go_num, rfl, HA⟩, by simp [intOf]; omega⟩
  rw [placeF_on h1 (by rw [hnz]; simpa using h10)] at ha;have HA := zh ha;have n10 : (z == 10) = false := beq_false_of_ne h10;clear ha hnz h10
  go_wp2_with fail
  exact ⟨⟨k + 1, l, c + 1, by omega, by omega, by omega, by go_num, rfl, by go_num, HA⟩, by simp [intOf]; omega⟩
 have e : i - k = 0 := by omega
 have ha := HA.out;rw [e, placeF] at ha;have HA' := zh ha;clear ha HA e
 go_wp2_with fail
 go_ret
 exact jfb
def bCell (b : UInt8) : Value := .int .u8 b.toNat
def bRow (bs : List UInt8) : List Value := bs.map bCell
def Bys (w : World) (base : Nat) (v : Value) (bs : List UInt8) : Prop := w.ownsRow base 5 1 v bs.length (bRow bs)
theorem Bys.keep {w w' : World} {base : Nat} {v : Value} {bs : List UInt8} (h : Bys w base v bs) (hk : Keeps [] w w') : Bys w' base v bs := row_keep0 h hk
def Gl (w : World) : Prop := w.cell? ⟨12, 0, none⟩ = some (.bool true) ∧ w.cell? ⟨14, 0, none⟩ = some (.int .u64 52) ∧ 14 < w.heap.size
theorem Gl.keep {w w' : World} (h : Gl w) {fp : List Nat} (hk : Keeps fp w w') (hf : ∀ x ∈ fp, 14 < x) : Gl w' := by
 obtain ⟨h1, h2, h3⟩ := h;have n12 : 12 ∉ fp := fun hm => by have := hf _ hm; omega
 have n14 : 14 ∉ fp := fun hm => by have := hf _ hm; omega
 refine ⟨?_, ?_, Nat.lt_of_lt_of_le h3 hk.size⟩
 ·rw [World.cell?_of_block (w := w) (a := ⟨12, 0, none⟩) (hk.block 12 qg n12)]; exact h1
 rw [World.cell?_of_block (w := w) (a := ⟨14, 0, none⟩) (hk.block 14 h3 n14)]; exact h2
theorem bool2_any (w : World) : Calls Tryz.prog 220 #[.bool false] w fun r w' => r = .returned (.int .u64 0) ∧ w' = w := by
 go_enter Tryz.func220, Tryz.ntmps220
 go_wp2_with fail
 go_ret
 exact zfb
theorem special49 {s : ByteArray} (h1 : s.size = 1) (h0 : 0 < s.size) (hz : ((s[0]'h0).toNat : Int) = 49) (w : World) : Calls Tryz.prog 211 #[.string s] w fun r w' => r = .returned (.tuple #[.float .f64 0, .int .i64 0, .bool false]) ∧ w' = w := by
 go_enter Tryz.func211, Tryz.ntmps211
 go_wp2_with fail
 exact bodyPost_ret (v := .tuple #[.float .f64 0, .int .i64 0, .bool false]) qq rfl ⟨rfl, rfl⟩
theorem readFloat49 {s : ByteArray} (h1 : s.size = 1) (h0 : 0 < s.size) (hz : ((s[0]'h0).toNat : Int) = 49) (w : World) : Calls Tryz.prog 212 #[.string s] w fun r w' => r = .returned (.tuple #[.int .u64 1, .int .i64 0, .bool false, .bool false, .bool false, .int .i64 1, .bool true]) ∧ w' = w := by
 go_enter Tryz.func212, Tryz.ntmps212
 go_wp2_with fail
 go_step3
 go_wp2_with fail
 go_step3
 go_wp2_with fail
 refine wp_loop_rounds 2 ?_;rw [rounds_succ]
 go_wp2_with fail
 rw [rounds_succ]
 go_wp2_with fail
 rw [Exit.noGoto_ret];exact bodyPost_ret (v := .tuple #[.int .u64 1, .int .i64 0, .bool false, .bool false, .bool false, .int .i64 1, .bool true]) qq rfl ⟨rfl, rfl⟩
theorem exact49 {w : World} (hG : Gl w) : Calls Tryz.prog 222 #[.int .u64 1, .int .i64 0, .bool false] w fun r w' => r = .returned (.tuple #[.float .f64 (flt 1), .bool true]) ∧ w' = w := by
 obtain ⟨g1, g2, g3⟩ := hG;have g4 : 14 < w.heap.size := g3
 go_enter Tryz.func222, Tryz.ntmps222
 go_wp2_with fail
 go_ret2
 exact zfb
theorem atof49 {w : World} (hG : Gl w) {s : ByteArray} (h1 : s.size = 1) (h0 : 0 < s.size) (hz : ((s[0]'h0).toNat : Int) = 49) : Calls Tryz.prog 185 #[.string s] w fun r w' => r = .returned (.tuple #[.float .f64 (flt 1), .int .i64 1, .nilIface]) ∧ w' = w := by
 have HG := zh hG;obtain ⟨g1, g2, g3⟩ := hG;have hsp := special49 h1 h0 hz w;have hrf := readFloat49 h1 h0 hz w;have HSP := zh hsp; have HRF := zh hrf;clear hsp hrf hz
 go_enter Tryz.func185, Tryz.ntmps185
 go_wp2_with fail
 refine HSP.out.mono ?_;rintro r w' ⟨rfl, rfl⟩
 go_wp2_with fail
 refine HRF.out.mono ?_;rintro r w'' ⟨rfl, rfl⟩
 go_wp2_with fail
 refine (bool2_any _).mono ?_;rintro r w'' ⟨rfl, rfl⟩
 go_wp2_with fail
 refine (exact49 HG.out).mono ?_;rintro r w'' ⟨rfl, rfl⟩
 go_wp2_with fail
 exact qfb
theorem prefix_49 {w : World} (hG : Gl w) {s : ByteArray} (h1 : s.size = 1) (h0 : 0 < s.size) (hz : ((s[0]'h0).toNat : Int) = 49) : Calls Tryz.prog 155 #[.string s, .int .i64 64] w fun r w' => r = .returned (.tuple #[.float .f64 (flt 1), .int .i64 1, .nilIface]) ∧ w' = w := by
 have ha := atof49 hG h1 h0 hz;have HA := zh ha;clear ha hz
 go_enter Tryz.func155, Tryz.ntmps155
 go_wp2_with fail
 refine HA.out.mono ?_;rintro r w' ⟨rfl, rfl⟩
 go_wp2_with fail
 exact qfb
theorem iparse49 {w : World} (hG : Gl w) {s : ByteArray} (h1 : s.size = 1) (h0 : 0 < s.size) (hz : ((s[0]'h0).toNat : Int) = 49) : Calls Tryz.prog 124 #[.string s, .int .i64 64] w fun r w' => r = .returned (.tuple #[.float .f64 (flt 1), .nilIface]) ∧ w' = w := by
 have ha := prefix_49 hG h1 h0 hz;have HA := zh ha;clear ha hz
 go_enter Tryz.func124, Tryz.ntmps124
 exact zxd
theorem parse49 {w : World} (hG : Gl w) {s : ByteArray} (h1 : s.size = 1) (h0 : 0 < s.size) (hz : ((s[0]'h0).toNat : Int) = 49) : Calls Tryz.prog 100 #[.string s, .int .i64 64] w fun r w' => r = .returned (.tuple #[.float .f64 (flt 1), .nilIface]) ∧ w' = w := by
 have ha := iparse49 hG h1 h0 hz;have HA := zh ha;clear ha hz
 go_enter Tryz.func100, Tryz.ntmps100
 exact zxd
theorem parseFloat_any {w : World} (hG : Gl w) {s : ByteArray} (h1 : s.size = 1) (h0 : 0 < s.size) {z : Int} (hz : ((s[0]'h0).toNat : Int) = z) (h : z = 49) : Calls Tryz.prog 100 #[.string s, .int .i64 64] w fun r w' => r = .returned (.tuple #[.float .f64 (flt (z - 48).toNat), .nilIface]) ∧ w' = w := by
 subst h;exact parse49 hG h1 h0 hz
abbrev tokV (t : Tok) : Value := .agg #[.int .i64 t.kind, .string t.text, .float .f64 t.num, .int .i64 t.fr, .int .i64 t.to]
abbrev tokC (kind : Int) (text : ByteArray) (num : Nat) (fr te : Int) : Obj := .cells #[.int .i64 kind, .string text, .float .f64 num, .int .i64 fr, .int .i64 te] 90
theorem skipF_le {s : ByteArray} : ∀ {f i r : Nat}, skipF s f i = some r → i ≤ r ∧ (i ≤ s.size → r ≤ s.size)
 | 0, _, _, h => by simp [skipF] at h
 | f + 1, i, r, h => by
   rw [skipF] at h
   by_cases hi : i < s.size
   ·rw [nth_some hi] at h;simp only at h
    split at h
    ·have := skipF_le h; omega
    split at h
    ·cases h
    have := Option.some.inj h; omega
   rw [nth_none qg] at h;have := Option.some.inj h; omega
theorem wordEndF_le {s : ByteArray} : ∀ {f i r : Nat}, wordEndF s f i = some r → i ≤ r ∧ (i ≤ s.size → r ≤ s.size)
 | 0, _, _, h => by simp [wordEndF] at h
 | f + 1, i, r, h => by
   rw [wordEndF] at h
   by_cases hi : i < s.size
   ·rw [nth_some hi] at h;simp only at h
    split at h
    ·have := wordEndF_le h; omega
    have := Option.some.inj h; omega
   rw [nth_none qg] at h;have := Option.some.inj h; omega
theorem numeralF_le {s : ByteArray} {i e : Nat} (h : numeralF s i = some e) (hi : i < s.size) : e = i ∨ e = i + 1 := by
 rw [numeralF, nth_some hi] at h;simp only at h
 split at h
 ·split at h
  ·exact .inr (Option.some.inj h).symm
  split at h
  ·cases h
  exact .inr (Option.some.inj h).symm
 split at h
 ·cases h
 exact .inl (Option.some.inj h).symm
theorem signF_pos {s : ByteArray} {i : Nat} {c : Int} {x : ByteArray} (h : signF s i c = some x) (hi : i < s.size) : 0 < x.size ∧ x.size ≤ 2 := by
 unfold signF at h
 split at h
 ·rename_i hc;simp at hc;obtain rfl := Option.some.inj h;rw [ByteArray.size_extract]; omega
 split at h
 ·obtain rfl := Option.some.inj h;rw [ByteArray.size_extract]; omega
 cases h
theorem ne_nil {x : ByteArray} (h : 0 < x.size) : (x.toList == (⟨#[]⟩ : ByteArray).toList) = false := by
 rw [same_eq]
 cases hb : same x ⟨#[]⟩
 ·rfl
 have := same_iff.1 hb;subst this;exact absurd h zi
theorem extract_one {s : ByteArray} {a : Nat} (h : a < s.size) (h0 : 0 < (s.extract a (a + 1)).size) : (s.extract a (a + 1))[0]'h0 = s[a]'h := by
 rw [ByteArray.getElem_extract]; simp
theorem gtF {c : Int} (h : c = 49) : (FloatKind.f64.format.order (flt (c - 48).toNat) 9218868437227405311 == some Ordering.gt) = false := by
 rcases h with rfl | rfl <;> kernel_rfl
set_option maxRecDepth 1000000 in
set_option maxHeartbeats 4000000 in
theorem next_end_p {w : World} (hG : Gl w) {s : ByteArray} {i a : Nat} {op : Bool}  (hpos : 0 < i) (hi : i ≤ s.size) (hsa : ∀ W, Calls Tryz.prog 91 #[.string s, .int .i64 i] W fun e w' => e = .returned (.int .i64 a) ∧ w' = W) (hs : s.size ≤ 100000) (hale : a = s.size) : Calls Tryz.prog 62 #[.string s, .int .i64 i, .bool op] w fun r w' => r = .returned (.tuple #[tokV ⟨0, bs [], 0, a, a⟩, .int .i64 0]) ∧ Keeps [] w w' := by
 have HSA := zh hsa; have HG := zh hG;clear hsa hG;subst hale
 go_enter Tryz.func62, Tryz.ntmps62
 go_wp2_with fail
 refine (HSA.out _).mono ?_;rintro r w1 ⟨rfl, rfl⟩
 go_wp2_with ((with_reducible show wpList _ _ _ (Oper.mk none (.store 90 _ _) _ _ _ _ :: _) _ _); refine stT 90 (w.heap.size + 1) 0 _ (show _ = some (tokC 0 ⟨#[]⟩ 0 0 0) from ql) rfl (.agg #[.int .i64 0, .string ⟨#[]⟩, .float .f64 0, .int .i64 s.size, .int .i64 s.size]) rfl jh zj qh ?_)
 intro w2 hs2;have hr2 := hs2.row;have hz2 := hs2.size;simp at hr2 hz2;have hk2 : Keeps [] w w2 := ((Keeps.alloc [] w (tokC 0 ⟨#[]⟩ 0 0 0)).trans (Keeps.alloc [] _ (tokC 0 ⟨#[]⟩ 0 0 0)) jg).trans hs2.keeps jg;have hq2 := hs2.at (h_alloc (o := tokC 0 ⟨#[]⟩ 0 0 0) (h_new w (tokC 0 ⟨#[]⟩ 0 0 0))) qg;have HR2 := zh hr2; have HK2 := zh hk2; have HQ2 := zh hq2;clear hs2 hr2 hk2 hq2
 go_wp2_with ((with_reducible show wpList _ _ _ (Oper.mk none (.store 90 _ _) _ _ _ _ :: _) _ _); refine stT 90 (w.heap.size + 2) 0 _ (show _ = some (tokC 0 ⟨#[]⟩ 0 0 0) from zn) qt (.agg #[.int .i64 0, .string ⟨#[]⟩, .float .f64 0, .int .i64 s.size, .int .i64 0]) rfl jh zj qh ?_)
 intro w3 hs3;have hq3 := hs3.at (h_alloc (o := tokC 0 ⟨#[]⟩ 0 0 0) HQ2.out) qg;have hr3 := hs3.at (h_alloc (o := tokC 0 ⟨#[]⟩ 0 0 0) HR2.out) qg;have hk3 : Keeps [] w w3 := (HK2.out.trans (Keeps.alloc [] w2 (tokC 0 ⟨#[]⟩ 0 0 0)) jg).trans hs3.keeps jg;clear hs3 hz2 HR2 HK2 HQ2;have HG3 := zh (HG.out.keep hk3 jg);have HQ3 := zh hq3; have HR3 := zh hr3; have HK3 := zh hk3;clear hq3 hr3 hk3 HSA HG;generalize hRR : w.heap.size = R at *
 have HRW : Hid (w.heap.size = R) := zh hRR;clear hRR;have d0 := cell_of_heap HR3.out 0;have df0 := frozen_of_heap HR3.out 0;have d1 := cell_of_heap HR3.out 1;have df1 := frozen_of_heap HR3.out 1;have d2 := cell_of_heap HR3.out 2;have df2 := frozen_of_heap HR3.out 2;have d3 := cell_of_heap HR3.out 3;have df3 := frozen_of_heap HR3.out 3;have d4 := cell_of_heap HR3.out 4;have df4 := frozen_of_heap HR3.out 4;simp at d0 d1 d2 d3 d4
 go_wp2_with ((with_reducible show wpList _ _ _ (Oper.mk none (.store 90 _ _) _ _ _ _ :: _) _ _); refine stT 90 R 0 _ HQ3.out rfl (.agg #[.int .i64 0, .string ⟨#[]⟩, .float .f64 0, .int .i64 s.size, .int .i64 s.size]) rfl jh zj qh ?_)
 intro w9 hs9;have x0 := cell_of_heap hs9.row 0;have x1 := cell_of_heap hs9.row 1;have x2 := cell_of_heap hs9.row 2;have x3 := cell_of_heap hs9.row 3;have x4 := cell_of_heap hs9.row 4;simp at x0 x1 x2 x3 x4;have hk9 : Keeps [] w w9 := Keeps.trans HK3.out hs9.keeps zl;clear hs9
 go_wp2_with fail
 exact bodyPost_ret (v := .tuple #[.agg #[.int .i64 0, .string ⟨#[]⟩, .float .f64 0, .int .i64 s.size, .int .i64 s.size], .int .i64 0]) zk rfl ⟨rfl, hk9⟩
set_option maxRecDepth 1000000 in
set_option maxHeartbeats 4000000 in
theorem next_word_z {w : World} (hG : Gl w) {s : ByteArray} {a : Nat} {op : Bool} {c : Int} {e : Nat} (hsa : ∀ W, Calls Tryz.prog 91 #[.string s, .int .i64 0] W fun e w' => e = .returned (.int .i64 a) ∧ w' = W) (hs : s.size ≤ 100000) (h3 : a < s.size) (hz : ((s[a]'h3).toNat : Int) = c) (h10 : ¬ c = 10) (hl : letterF c = true) (hwe : wordEndF s (s.size + 1) a = some e) : Calls Tryz.prog 62 #[.string s, .int .i64 0, .bool op] w fun r w' => r = .returned (.tuple #[tokV ⟨kindF s (s.extract a e) e, s.extract a e, 0, a, e⟩, .int .i64 0]) ∧ Keeps [] w w' := by
 exact qyc
set_option maxRecDepth 1000000 in
set_option maxHeartbeats 4000000 in
theorem next_word_p {w : World} (hG : Gl w) {s : ByteArray} {i a : Nat} {op : Bool} {c : Int} {e : Nat} (hpos : 0 < i) (hi : i ≤ s.size) (hsa : ∀ W, Calls Tryz.prog 91 #[.string s, .int .i64 i] W fun e w' => e = .returned (.int .i64 a) ∧ w' = W) (hs : s.size ≤ 100000) (h3 : a < s.size) (hz : ((s[a]'h3).toNat : Int) = c) (h10 : ¬ c = 10) (hl : letterF c = true) (hwe : wordEndF s (s.size + 1) a = some e) : Calls Tryz.prog 62 #[.string s, .int .i64 i, .bool op] w fun r w' => r = .returned (.tuple #[tokV ⟨kindF s (s.extract a e) e, s.extract a e, 0, a, e⟩, .int .i64 0]) ∧ Keeps [] w w' := by
 exact qyc
set_option maxRecDepth 1000000 in
set_option maxHeartbeats 4000000 in
theorem next_numn_p {w : World} (hG : Gl w) {s : ByteArray} {i a : Nat} {op : Bool} {c : Int} (hpos : 0 < i) (hi : i ≤ s.size) (hsa : ∀ W, Calls Tryz.prog 91 #[.string s, .int .i64 i] W fun e w' => e = .returned (.int .i64 a) ∧ w' = W) (hs : s.size ≤ 100000) (h3 : a < s.size) (hz : ((s[a]'h3).toNat : Int) = c) (h10 : ¬ c = 10) (hl : letterF c = false) (h34 : ¬ c = 34) (h47 : ¬ c = 47) (hnu : numeralF s a = some (a + 1)) (hcc : c = 49) : Calls Tryz.prog 62 #[.string s, .int .i64 i, .bool op] w fun r w' => r = .returned (.tuple #[tokV ⟨2, s.extract a (a + 1), flt (c - 48).toNat, a, a + 1⟩, .int .i64 0]) ∧ Keeps [] w w' := by
 have HSA := zh hsa; have HG := zh hG;clear hsa hG;have n10 : (c == 10) = false := beq_false_of_ne h10;have n34 : (c == 34) = false := beq_false_of_ne h34;have hale : a ≤ s.size := by omega
 have n47 : (c == 47) = false := beq_false_of_ne h47;clear h47;have hna := fun W => numeral_any hnu hale qg W
 have hx1 : (s.extract a (a + 1)).size = 1 := by rw [ByteArray.size_extract]; omega
 have hx0 : 0 < (s.extract a (a + 1)).size := by omega
 have hpf := fun W (hG : Gl W) => parseFloat_any hG hx1 hx0 (z := c) (by rw [extract_one h3 hx0]; exact hz) hcc
 have hgt := gtF hcc;have HPF := zh hpf; have HNU := zh hna;clear hpf hx1 hx0 hcc hna hnu;clear h10 h34
 go_enter Tryz.func62, Tryz.ntmps62
 go_wp2_with fail
 refine (HSA.out _).mono ?_;rintro r w1 ⟨rfl, rfl⟩
 go_wp2_with ((with_reducible show wpList _ _ _ (Oper.mk none (.store 90 _ _) _ _ _ _ :: _) _ _); refine stT 90 (w.heap.size + 1) 0 _ (show _ = some (tokC 0 ⟨#[]⟩ 0 0 0) from ql) rfl (.agg #[.int .i64 0, .string ⟨#[]⟩, .float .f64 0, .int .i64 a, .int .i64 a]) rfl jh zj qh ?_)
 intro w2 hs2;have hr2 := hs2.row;have hz2 := hs2.size;simp at hr2 hz2;have hk2 : Keeps [] w w2 := ((Keeps.alloc [] w (tokC 0 ⟨#[]⟩ 0 0 0)).trans (Keeps.alloc [] _ (tokC 0 ⟨#[]⟩ 0 0 0)) jg).trans hs2.keeps jg;have hq2 := hs2.at (h_alloc (o := tokC 0 ⟨#[]⟩ 0 0 0) (h_new w (tokC 0 ⟨#[]⟩ 0 0 0))) qg;have HR2 := zh hr2; have HK2 := zh hk2; have HQ2 := zh hq2;clear hs2 hr2 hk2 hq2
 go_wp2_with ((with_reducible show wpList _ _ _ (Oper.mk none (.store 90 _ _) _ _ _ _ :: _) _ _); refine stT 90 (w.heap.size + 2) 0 _ (show _ = some (tokC 0 ⟨#[]⟩ 0 0 0) from zn) qt (.agg #[.int .i64 0, .string ⟨#[]⟩, .float .f64 0, .int .i64 a, .int .i64 0]) rfl jh zj qh ?_)
 intro w3 hs3;have hq3 := hs3.at (h_alloc (o := tokC 0 ⟨#[]⟩ 0 0 0) HQ2.out) qg;have hr3 := hs3.at (h_alloc (o := tokC 0 ⟨#[]⟩ 0 0 0) HR2.out) qg;have hk3 : Keeps [] w w3 := (HK2.out.trans (Keeps.alloc [] w2 (tokC 0 ⟨#[]⟩ 0 0 0)) jg).trans hs3.keeps jg;clear hs3 hz2 HR2 HK2 HQ2;have HG3 := zh (HG.out.keep hk3 jg);have HQ3 := zh hq3; have HR3 := zh hr3; have HK3 := zh hk3;clear hq3 hr3 hk3 HSA HG;generalize hRR : w.heap.size = R at *
 have HRW : Hid (w.heap.size = R) := zh hRR;clear hRR
 go_wp2_with fail
 refine (letter_any c _).mono ?_;rintro r w' ⟨rfl, hw'⟩;rw [hw'];clear hw';rw [hl]
 go_wp2_with fail
 refine (HNU.out _).mono ?_;rintro r w' ⟨rfl, hw'⟩;rw [hw'];clear hw'
 go_wp2_with fail
 refine (HPF.out _ HG3.out).mono ?_;rintro r w' ⟨rfl, hw'⟩;rw [hw'];clear hw'
 go_wp2_with ((with_reducible show wpList _ _ _ (Oper.mk none (.store 90 _ _) _ _ _ _ :: _) _ _); refine stT 90 R 0 _ HQ3.out rfl (.agg #[.int .i64 2, .string (s.extract a (a + 1)), .float .f64 (flt (c - 48).toNat), .int .i64 a, .int .i64 ((a : Int) + 1)]) rfl jh zj qh ?_)
 intro w9 hs9;have x0 := cell_of_heap hs9.row 0;have x1 := cell_of_heap hs9.row 1;have x2 := cell_of_heap hs9.row 2;have x3 := cell_of_heap hs9.row 3;have x4 := cell_of_heap hs9.row 4;simp at x0 x1 x2 x3 x4;have hk9 : Keeps [] w w9 := Keeps.trans HK3.out hs9.keeps zl;clear hs9
 go_wp2_with fail
 exact bodyPost_ret (v := .tuple #[.agg #[.int .i64 2, .string (s.extract a (a + 1)), .float .f64 (flt (c - 48).toNat), .int .i64 a, .int .i64 ((a : Int) + 1)], .int .i64 0]) zk rfl ⟨rfl, hk9⟩
set_option maxRecDepth 1000000 in
set_option maxHeartbeats 4000000 in
theorem next_signn_z {w : World} (hG : Gl w) {s : ByteArray} {a : Nat} {op : Bool} {c : Int} {x : ByteArray} (hsa : ∀ W, Calls Tryz.prog 91 #[.string s, .int .i64 0] W fun e w' => e = .returned (.int .i64 a) ∧ w' = W) (hs : s.size ≤ 100000) (h3 : a < s.size) (hz : ((s[a]'h3).toNat : Int) = c) (h10 : ¬ c = 10) (hl : letterF c = false) (h34 : ¬ c = 34) (h47 : ¬ c = 47) (hnu : numeralF s a = some a) (hsg : signF s a c = some x) : Calls Tryz.prog 62 #[.string s, .int .i64 0, .bool op] w fun r w' => r = .returned (.tuple #[tokV ⟨9, x, 0, a, a + x.size⟩, .int .i64 0]) ∧ Keeps [] w w' := by
 exact zbd
set_option maxRecDepth 1000000 in
set_option maxHeartbeats 4000000 in
theorem next_signn_p {w : World} (hG : Gl w) {s : ByteArray} {i a : Nat} {op : Bool} {c : Int} {x : ByteArray} (hpos : 0 < i) (hi : i ≤ s.size) (hsa : ∀ W, Calls Tryz.prog 91 #[.string s, .int .i64 i] W fun e w' => e = .returned (.int .i64 a) ∧ w' = W) (hs : s.size ≤ 100000) (h3 : a < s.size) (hz : ((s[a]'h3).toNat : Int) = c) (h10 : ¬ c = 10) (hl : letterF c = false) (h34 : ¬ c = 34) (h47 : ¬ c = 47) (hnu : numeralF s a = some a) (hsg : signF s a c = some x) : Calls Tryz.prog 62 #[.string s, .int .i64 i, .bool op] w fun r w' => r = .returned (.tuple #[tokV ⟨9, x, 0, a, a + x.size⟩, .int .i64 0]) ∧ Keeps [] w w' := by
 exact zbd
theorem next_any {w : World} (hG : Gl w) {s : ByteArray} {i : Nat} {op : Bool} {t : Tok} (h : nextF s i op = some t) (hi : i ≤ s.size) (hs : s.size ≤ 100000) : Calls Tryz.prog 62 #[.string s, .int .i64 i, .bool op] w fun r w' => r = .returned (.tuple #[tokV t, .int .i64 0]) ∧ Keeps [] w w' := by
 have hm : min i s.size = i := by omega
 rw [nextF, hm] at h
 cases hsk : skipF s (s.size + 1) i with
 | none => rw [hsk] at h; simp at h
 | some a =>
  rw [hsk] at h;simp only [Option.bind_eq_bind, Option.bind_some] at h;have hale := (skipF_le hsk).2 hi;have hsa := fun W => skip_any hsk hi qg W
  by_cases h3 : a < s.size
  ·rw [nth_some h3] at h;generalize hz : ((s[a]'h3).toNat : Int) = c at *
   simp only at h
   by_cases hc : c = 10 ∨ c = 34 ∨ c = 47
   ·rw [if_pos hc] at h; cases h
   rw [if_neg hc] at h;have h10 : ¬ c = 10 := fun x => hc (.inl x)
   have h34 : ¬ c = 34 := fun x => hc (.inr (.inl x))
   have h4 : ¬ c = 47 := fun x => hc (.inr (.inr x))
   cases hl : letterF c
   ·rw [hl] at h;simp only [Bool.false_eq_true, if_false, otherF, Option.bind_eq_bind] at h
    cases hnu : numeralF s a with
    | none => rw [hnu] at h; simp at h
    | some e =>
     rw [hnu] at h;simp only [Option.bind_some] at h
     rcases numeralF_le hnu h3 with rfl | rfl
     ·rw [if_neg (Nat.lt_irrefl _)] at h
      cases hsg : signF s e c with
      | none => rw [hsg] at h; simp at h
      | some x =>
       rw [hsg] at h;simp only [Option.bind_some, Option.some.injEq] at h;subst h
       rcases Nat.eq_zero_or_pos i with rfl | hpos
       ·exact next_signn_z hG hsa hs h3 hz h10 hl h34 h4 hnu hsg
       exact next_signn_p hG hpos hi hsa hs h3 hz h10 hl h34 h4 hnu hsg
     rw [if_pos (Nat.lt_succ_self _)] at h
     split at h
     ·rename_i hcc;simp only [Option.some.injEq] at h;subst h;exact next_numn_p hG (Nat.pos_of_ne_zero hcc.1) hi hsa hs h3 hz h10 hl h34 h4 hnu hcc.2
     cases h
   rw [hl] at h;simp only [if_true] at h
   cases hwe : wordEndF s (s.size + 1) a with
   | none => rw [hwe] at h; simp at h
   | some e =>
    rw [hwe] at h;simp only [Option.bind_some, Option.some.injEq] at h;subst h
    rcases Nat.eq_zero_or_pos i with rfl | hpos
    ·exact next_word_z hG hsa hs h3 hz h10 hl hwe
    exact next_word_p hG hpos hi hsa hs h3 hz h10 hl hwe
  rw [nth_none qg] at h;simp only at h
  split at h
  ·cases h
  rename_i h0;obtain rfl := Option.some.inj h;exact next_end_p hG (Nat.pos_of_ne_zero h0) hi hsa hs qg
structure PSt where
 pos : Nat
 opn : Int
 ng : Bool
abbrev parC (s : ByteArray) (st : PSt) : Obj := .cells #[.string s, .int .i64 st.pos, .int .i64 st.opn, .bool st.ng, .int .i64 0, .complex .f64 0 0] 87
structure PP (s : ByteArray) (p : Nat) (st : PSt) (w : World) : Prop where
 gl : Gl w
 row : w.heap[p]? = some (parC s st)
 p : 14 < p
 size : s.size ≤ 4096
 le : st.pos ≤ s.size
 ob : -100 ≤ st.opn ∧ st.opn ≤ 40
theorem PP.keep {s : ByteArray} {p : Nat} {st : PSt} {w w' : World} (h : PP s p st w) (hk : Keeps [] w w') : PP s p st w' :=
 ⟨h.gl.keep hk jg, hk.at h.row jg, h.p, h.size, h.le, h.ob⟩
theorem nextF_le {s : ByteArray} {i : Nat} {op : Bool} {t : Tok} (h : nextF s i op = some t) (hi : i ≤ s.size) : t.fr ≤ t.to ∧ t.to ≤ s.size ∧ t.text.size ≤ s.size := by
 have hm : min i s.size = i := by omega
 have hb : (bs []).size = 0 := rfl;rw [nextF, hm] at h
 cases hsk : skipF s (s.size + 1) i with
 | none => rw [hsk] at h; simp at h
 | some a =>
  rw [hsk] at h;simp only [Option.bind_eq_bind, Option.bind_some] at h;have hale := (skipF_le hsk).2 hi
  by_cases h3 : a < s.size
  ·rw [nth_some h3] at h;simp only at h
   split at h
   ·cases h
   split at h
   ·cases hwe : wordEndF s (s.size + 1) a with
    | none => rw [hwe] at h; simp at h
    | some e =>
     rw [hwe] at h;simp only [Option.bind_some, Option.some.injEq] at h;subst h;have := wordEndF_le hwe;simp only [ByteArray.size_extract]; omega
   rw [otherF] at h
   cases hnu : numeralF s a with
   | none => rw [hnu] at h; simp at h
   | some e =>
    rw [hnu] at h;simp only [Option.bind_eq_bind, Option.bind_some] at h;have hle := numeralF_le hnu h3
    split at h
    ·split at h
     ·obtain rfl := Option.some.inj h;simp only [ByteArray.size_extract]; omega
     cases h
    cases hsg : signF s a ((s[a]'h3).toNat : Int) with
    | none => rw [hsg] at h; simp at h
    | some x =>
     rw [hsg] at h;simp only [Option.bind_some, Option.some.injEq] at h;subst h;have h2 := signF_pos hsg h3
     have h4 : a + x.size ≤ s.size := by
      unfold signF at hsg
      split at hsg
      ·rename_i hc;simp at hc;obtain rfl := Option.some.inj hsg;rw [ByteArray.size_extract]; omega
      split at hsg
      ·obtain rfl := Option.some.inj hsg;rw [ByteArray.size_extract]; omega
      cases hsg
     simp only; omega
  rw [nth_none qg] at h;simp only at h
  split at h
  ·cases h
  obtain rfl := Option.some.inj h;simp only; omega
theorem ok_any {s : ByteArray} {p : Nat} {st : PSt} {w : World} (h : PP s p st w) : Calls Tryz.prog 34 #[.pointer (some ⟨p, 0, none⟩)] w fun r w' => r = .returned (.bool true) ∧ w' = w := by
 have c4 := cell_of_heap h.row 4;simp at c4;have hlt := h_lt h.row;clear h
 go_enter Tryz.func34, Tryz.ntmps34
 go_wp2_with fail
 go_ret
 exact zfb
set_option maxHeartbeats 1000000 in
theorem peek_any {s : ByteArray} {p : Nat} {st : PSt} {w : World} (h : PP s p st w) {i : Nat} {t : Tok} (ht : nextF s i false = some t) (hi : i ≤ s.size) : Calls Tryz.prog 61 #[.pointer (some ⟨p, 0, none⟩), .int .i64 i] w fun r w' => r = .returned (.tuple #[tokV t, .bool true]) ∧ Keeps [] w w' := by
 have c0 := cell_of_heap h.row 0;simp at c0;have hlt := h_lt h.row;have hN := fun W (hG : Gl W) => next_any hG ht hi zbb
 have HG := zh h.gl; have HN := zh hN;clear h hN ht;obtain ⟨kd, tx, nm, fr, te⟩ := t
 go_enter Tryz.func61, Tryz.ntmps61
 go_wp2_with fail
 refine (HN.out _ (HG.out.keep (Keeps.alloc [] w (tokC 0 ⟨#[]⟩ 0 0 0)) jg)).mono ?_;rintro r w1 ⟨rfl, hk1⟩;have hq1 := hk1.at (h_new w (tokC 0 ⟨#[]⟩ 0 0 0)) jg;have HQ1 := zh hq1; have HK1 := zh ((Keeps.alloc [] w (tokC 0 ⟨#[]⟩ 0 0 0)).trans hk1 jg);clear hq1 hk1
 go_wp2_with ((with_reducible show wpList _ _ _ (Oper.mk none (.store 90 _ _) _ _ _ _ :: _) _ _); refine stT 90 w1.heap.size 0 _ (h_new _ _) rfl (.agg #[.int .i64 kd, .string tx, .float .f64 nm, .int .i64 fr, .int .i64 te]) rfl jh zj qh ?_)
 intro w2 hs2;have x0 := cell_of_heap hs2.row 0;have x1 := cell_of_heap hs2.row 1;have x2 := cell_of_heap hs2.row 2;have x3 := cell_of_heap hs2.row 3;have x4 := cell_of_heap hs2.row 4;simp at x0 x1 x2 x3 x4;have hsz1 := HK1.out.size;have HQ2 := zh (hs2.at (h_alloc (o := tokC 0 ⟨#[]⟩ 0 0 0) HQ1.out) (by have := h_lt HQ1.out; omega));have HK2 := zh ((HK1.out.trans (Keeps.alloc [] w1 (tokC 0 ⟨#[]⟩ 0 0 0)) jg).trans hs2.keeps (by simp; exact hsz1));clear hs2
 go_wp2_with ((with_reducible show wpList _ _ _ (Oper.mk none (.store 90 _ _) _ _ _ _ :: _) _ _); refine stT 90 w.heap.size 0 _ HQ2.out rfl (.agg #[.int .i64 kd, .string tx, .float .f64 nm, .int .i64 fr, .int .i64 te]) rfl jh zj qh ?_)
 intro w3 hs3;have y0 := cell_of_heap hs3.row 0;have y1 := cell_of_heap hs3.row 1;have y2 := cell_of_heap hs3.row 2;have y3 := cell_of_heap hs3.row 3;have y4 := cell_of_heap hs3.row 4;simp at y0 y1 y2 y3 y4;have HK3 := zh (HK2.out.trans hs3.keeps jg);clear hs3 x0 x1 x2 x3 x4
 go_wp2_with fail
 exact bodyPost_ret (v := .tuple #[.agg #[.int .i64 kd, .string tx, .float .f64 nm, .int .i64 fr, .int .i64 te], .bool true]) (by simp [results, rsA, go_sem, y0, y1, y2, y3, y4]) rfl ⟨rfl, HK3.out⟩
def isT (t : Tok) (x : ByteArray) : Bool := (t.kind == 9 || t.kind == 8) && same t.text x
set_option maxHeartbeats 2000000 in
theorem is_any {s : ByteArray} {p : Nat} {st : PSt} {w : World} (h : PP s p st w) {t : Tok} (ht : nextF s st.pos false = some t) (x : ByteArray) : Calls Tryz.prog 64 #[.pointer (some ⟨p, 0, none⟩), .string x] w fun r w' => r = .returned (.bool (isT t x)) ∧ Keeps [] w w' := by
 have c1 := cell_of_heap h.row 1;simp at c1;have hlt := h_lt h.row;have H := zh h; have HT := zh ht;clear h ht;obtain ⟨kd, tx, nm, fr, te⟩ := t;have hsq := same_eq tx x
 by_cases h9 : kd = 9
 ·have hv : isT ⟨kd, tx, nm, fr, te⟩ x = same tx x := by simp [isT, h9]
  rw [hv]; clear hv;subst h9
  go_enter Tryz.func64, Tryz.ntmps64
  go_wp2_with fail
  refine jib ?_;rintro r w' ⟨rfl, hw'⟩;rw [hw'];clear hw'
  go_wp2_with fail
  refine qib ?_;rintro r w1 ⟨rfl, hk1⟩;have HK1 := zh hk1;clear hk1
  go_wp2_with ((with_reducible show wpList _ _ _ (Oper.mk none (.store 90 _ _) _ _ _ _ :: _) _ _); refine stT 90 w1.heap.size 0 _ (h_new _ _) rfl (.agg #[.int .i64 9, .string tx, .float .f64 nm, .int .i64 fr, .int .i64 te]) rfl jh zj qh ?_)
  exact zkd
 have n9 : (kd == 9) = false := beq_false_of_ne h9
 by_cases h8 : kd = 8
 ·have hv : isT ⟨kd, tx, nm, fr, te⟩ x = same tx x := by simp [isT, h8]
  rw [hv]; clear hv;subst h8;clear n9 h9
  go_enter Tryz.func64, Tryz.ntmps64
  go_wp2_with fail
  refine jib ?_;rintro r w' ⟨rfl, hw'⟩;rw [hw'];clear hw'
  go_wp2_with fail
  refine qib ?_;rintro r w1 ⟨rfl, hk1⟩;have HK1 := zh hk1;clear hk1
  go_wp2_with ((with_reducible show wpList _ _ _ (Oper.mk none (.store 90 _ _) _ _ _ _ :: _) _ _); refine stT 90 w1.heap.size 0 _ (h_new _ _) rfl (.agg #[.int .i64 8, .string tx, .float .f64 nm, .int .i64 fr, .int .i64 te]) rfl jh zj qh ?_)
  exact zkd
 have n8 : (kd == 8) = false := beq_false_of_ne h8;have hv : isT ⟨kd, tx, nm, fr, te⟩ x = false := by simp [isT, h8, h9]
 rw [hv]; clear hv;clear h8 h9
 go_enter Tryz.func64, Tryz.ntmps64
 go_wp2_with fail
 refine jib ?_;rintro r w' ⟨rfl, hw'⟩;rw [hw'];clear hw'
 go_wp2_with fail
 refine qib ?_;rintro r w1 ⟨rfl, hk1⟩;have HK1 := zh hk1;clear hk1
 go_wp2_with ((with_reducible show wpList _ _ _ (Oper.mk none (.store 90 _ _) _ _ _ _ :: _) _ _); refine stT 90 w1.heap.size 0 _ (h_new _ _) rfl (.agg #[.int .i64 kd, .string tx, .float .f64 nm, .int .i64 fr, .int .i64 te]) rfl jh zj qh ?_)
 exact zkd
set_option maxHeartbeats 2000000 in
theorem place_tok {s : ByteArray} {p : Nat} {st : PSt} {w : World} (h : PP s p st w) (t : Tok) (hf : t.fr ≤ s.size) : Calls Tryz.prog 126 #[.pointer (some ⟨p, 0, none⟩), tokV t] w fun r w' => r = .returned (.complex .f64 (placeOf s t.fr).1 (placeOf s t.fr).2) ∧ Keeps [] w w' := by
 have c0 := cell_of_heap h.row 0;simp at c0;have hlt := h_lt h.row;have hpl := fun W => place_any hf zbb W
 have HPL := zh hpl;clear h hpl;obtain ⟨kd, tx, nm, fr, te⟩ := t
 go_enter Tryz.func126, Tryz.ntmps126
 go_upto_region 1 with fail
 go_quiet ((go_at_call 102; refine Calls.quiet_of_same (HPL.out _)))
 go_wp2_with fail
 go_ret
 exact ⟨rfl, (Keeps.alloc [] w _).trans (Keeps.drewN [] _ nq) jg⟩
set_option maxHeartbeats 2000000 in
theorem take_no {s : ByteArray} {p : Nat} {st : PSt} {w : World} (h : PP s p st w) {t : Tok} (ht : nextF s st.pos false = some t) {x : ByteArray} (hx : isT t x = false) : Calls Tryz.prog 104 #[.pointer (some ⟨p, 0, none⟩), .string x] w fun r w' => r = .returned (.bool false) ∧ Keeps [] w w' := by
 have hi := is_any h ht x;rw [hx] at hi;have HI := zh hi;clear hi hx ht h
 go_enter Tryz.func104, Tryz.ntmps104
 go_wp2_with fail
 refine HI.out.mono ?_;rintro r w' ⟨rfl, hk⟩
 go_wp2_with fail
 go_ret
 exact ⟨rfl, hk⟩
set_option maxHeartbeats 2000000 in
theorem take_40 {s : ByteArray} {p : Nat} {st : PSt} {w : World} (h : PP s p st w) {t : Tok} (ht : nextF s st.pos false = some t) (ho : st.opn < 40) (hx : isT t ⟨#[40]⟩ = true) : Calls Tryz.prog 104 #[.pointer (some ⟨p, 0, none⟩), .string ⟨#[40]⟩] w fun r w' => r = .returned (.bool true) ∧ PP s p ⟨t.to, st.opn + 1, st.ng⟩ w' ∧ Keeps [p] w w' := by
 have hi := is_any h ht ⟨#[40]⟩;exact jzc
set_option maxHeartbeats 2000000 in
theorem take_91 {s : ByteArray} {p : Nat} {st : PSt} {w : World} (h : PP s p st w) {t : Tok} (ht : nextF s st.pos false = some t) (ho : st.opn < 40) (hx : isT t ⟨#[91]⟩ = true) : Calls Tryz.prog 104 #[.pointer (some ⟨p, 0, none⟩), .string ⟨#[91]⟩] w fun r w' => r = .returned (.bool true) ∧ PP s p ⟨t.to, st.opn + 1, st.ng⟩ w' ∧ Keeps [p] w w' := by
 have hi := is_any h ht ⟨#[91]⟩;exact jzc
set_option maxHeartbeats 2000000 in
theorem take_123 {s : ByteArray} {p : Nat} {st : PSt} {w : World} (h : PP s p st w) {t : Tok} (ht : nextF s st.pos false = some t) (ho : st.opn < 40) (hx : isT t ⟨#[123]⟩ = true) : Calls Tryz.prog 104 #[.pointer (some ⟨p, 0, none⟩), .string ⟨#[123]⟩] w fun r w' => r = .returned (.bool true) ∧ PP s p ⟨t.to, st.opn + 1, st.ng⟩ w' ∧ Keeps [p] w w' := by
 have hi := is_any h ht ⟨#[123]⟩;exact jzc
set_option maxHeartbeats 2000000 in
theorem take_41 {s : ByteArray} {p : Nat} {st : PSt} {w : World} (h : PP s p st w) {t : Tok} (ht : nextF s st.pos false = some t) (ho : -100 < st.opn) (hx : isT t ⟨#[41]⟩ = true) : Calls Tryz.prog 104 #[.pointer (some ⟨p, 0, none⟩), .string ⟨#[41]⟩] w fun r w' => r = .returned (.bool true) ∧ PP s p ⟨t.to, st.opn - 1, st.ng⟩ w' ∧ Keeps [p] w w' := by
 have hi := is_any h ht ⟨#[41]⟩;exact qzc
set_option maxHeartbeats 2000000 in
theorem take_93 {s : ByteArray} {p : Nat} {st : PSt} {w : World} (h : PP s p st w) {t : Tok} (ht : nextF s st.pos false = some t) (ho : -100 < st.opn) (hx : isT t ⟨#[93]⟩ = true) : Calls Tryz.prog 104 #[.pointer (some ⟨p, 0, none⟩), .string ⟨#[93]⟩] w fun r w' => r = .returned (.bool true) ∧ PP s p ⟨t.to, st.opn - 1, st.ng⟩ w' ∧ Keeps [p] w w' := by
 have hi := is_any h ht ⟨#[93]⟩;exact qzc
set_option maxHeartbeats 2000000 in
theorem take_125 {s : ByteArray} {p : Nat} {st : PSt} {w : World} (h : PP s p st w) {t : Tok} (ht : nextF s st.pos false = some t) (ho : -100 < st.opn) (hx : isT t ⟨#[125]⟩ = true) : Calls Tryz.prog 104 #[.pointer (some ⟨p, 0, none⟩), .string ⟨#[125]⟩] w fun r w' => r = .returned (.bool true) ∧ PP s p ⟨t.to, st.opn - 1, st.ng⟩ w' ∧ Keeps [p] w w' := by
 have hi := is_any h ht ⟨#[125]⟩;exact qzc
set_option maxHeartbeats 2000000 in
theorem take_plain {s : ByteArray} {p : Nat} {st : PSt} {w : World} (h : PP s p st w) {t : Tok} (ht : nextF s st.pos false = some t) {x : ByteArray} (x40 : (x.toList == [40]) = false) (x91 : (x.toList == [91]) = false) (x123 : (x.toList == [123]) = false) (x41 : (x.toList == [41]) = false) (x93 : (x.toList == [93]) = false) (x125 : (x.toList == [125]) = false) (hx : isT t x = true) : Calls Tryz.prog 104 #[.pointer (some ⟨p, 0, none⟩), .string x] w fun r w' => r = .returned (.bool true) ∧ PP s p ⟨t.to, st.opn, st.ng⟩ w' ∧ Keeps [p] w w' := by
 have hi := is_any h ht x;rw [hx] at hi;obtain ⟨le1, le2, le3⟩ := nextF_le ht h.le;have hob := h.ob;have H := zh h; have HI := zh hi; have HT := zh ht;clear hi hx ht h;obtain ⟨kd, tx, nm, fr, te⟩ := t;obtain ⟨pos, opn, ng⟩ := st;simp only at le1 le2 le3 hob;obtain ⟨ob1, ob2⟩ := hob
 go_enter Tryz.func104, Tryz.ntmps104
 go_wp2_with fail
 refine HI.out.mono ?_;rintro r w0 ⟨rfl, hk0⟩;have HP0 := zh (H.out.keep hk0); have HK0 := zh hk0;have c1 := cell_of_heap HP0.out.row 1;have hlt := h_lt HP0.out.row;simp at c1;clear hk0
 go_wp2_with fail
 refine zjb ?_;rintro r w1 ⟨rfl, hk1⟩;have HP1 := zh (HP0.out.keep hk1);have HK1 := zh (HK0.out.trans hk1 jg);clear hk1 c1 hlt
 go_wp2_with ((with_reducible show wpList _ _ _ (Oper.mk none (.store 90 _ _) _ _ _ _ :: _) _ _); refine stT 90 w1.heap.size 0 _ (h_new _ _) rfl (.agg #[.int .i64 kd, .string tx, .float .f64 nm, .int .i64 fr, .int .i64 te]) rfl jh zj qh ?_)
 intro w2 hs2;have x0 := cell_of_heap hs2.row 0;have x1 := cell_of_heap hs2.row 1;have x2 := cell_of_heap hs2.row 2;have x3 := cell_of_heap hs2.row 3;have x4 := cell_of_heap hs2.row 4;simp at x0 x1 x2 x3 x4;have hsz2 := HK1.out.size;have HTR2 := zh hs2.row;have hst2 : Keeps [] w1 w2 := (Keeps.alloc [] w1 (tokC 0 ⟨#[]⟩ 0 0 0)).trans hs2.keeps jg;have HST2 := zh hst2;have HK2 := zh (HK1.out.trans hst2 jg);clear hs2 hst2;have HP2 := zh (HP1.out.keep HST2.out);have c0 := cell_of_heap HP2.out.row 0;have f0 := frozen_of_heap HP2.out.row 0;have c1 := cell_of_heap HP2.out.row 1;have f1 := frozen_of_heap HP2.out.row 1;have c2 := cell_of_heap HP2.out.row 2;have f2 := frozen_of_heap HP2.out.row 2;have c3 := cell_of_heap HP2.out.row 3;have f3 := frozen_of_heap HP2.out.row 3;have c4 := cell_of_heap HP2.out.row 4;have f4 := frozen_of_heap HP2.out.row 4;have c5 := cell_of_heap HP2.out.row 5;have f5 := frozen_of_heap HP2.out.row 5;simp at c0 c1 c2 c3 c4 c5;have hlt := h_lt HP2.out.row
 go_wp2_with fail
 go_ret
 have hrow : (w2.setCell ⟨p, 1, none⟩ (.int .i64 te)).heap[p]? = some (parC s ⟨te, opn, ng⟩) := by
  have := (h_set_eq (i := 1) (u := .int .i64 te) HP2.out.row)
  simpa using this
 have hkp : Keeps [p] w2 (w2.setCell ⟨p, 1, none⟩ (.int .i64 te)) := (Keeps.trans (Keeps.refl [p] w2) (Keeps.setCell [p] _ _ _ jg) jg);exact jjb
end Go.Proofs.YtkfillfkbhbbjaaGreatDoor
