/- NamesChain: the law, walked. -/
import Derived.Test.YtkfillfkbhbbjaaGreatDoorKnw
set_option maxRecDepth 100000
set_option maxHeartbeats 4000000
set_option linter.unusedSimpArgs false
set_option linter.unusedVariables false
namespace Go.Proofs.YtkfillfkbhbbjaaGreatDoor
open Go.RowKit
/-- A number of one or two digits. -/
def digitsF (n : Nat) : List UInt8 := if n < 10 then [(48 + n).toUInt8] else [(48 + n / 10).toUInt8, (48 + n % 10).toUInt8]
def lastF (n : Nat) (arr : Bool) (i : Nat) : List UInt8 :=
 if i + 1 = n then (if arr then [112, 91, 49, 93, 32, 61, 32, 50] else [112, 114, 105, 110, 116, 32, 112, 32, (97 + i % 26).toUInt8, 120]) else 102 :: (digitsF (i + 1) ++ [40, 112, 41])
def fnF (n : Nat) (arr : Bool) (i : Nat) : List UInt8 := [102, 117, 110, 99, 116, 105, 111, 110, 32, 102] ++ (digitsF i ++ ([40, 112, 41, 32, 123, 32] ++ (lastF n arr i ++ [32, 125, 10])))
def fnsF (n : Nat) (arr : Bool) : Nat → List UInt8
 | 0 => []
 | k + 1 => fnsF n arr k ++ fnF n arr k
def headF (other : Bool) : List UInt8 := [66, 69, 71, 73, 78, 32, 123, 32, 102, 48, 40, 116, 41] ++ ((if other then [59, 32, 112, 114, 105, 110, 116, 32, 116] else []) ++ [32, 125, 10])
def chainF (n : Nat) (arr other : Bool) (k : Nat) : ByteArray := ⟨(headF other ++ fnsF n arr k).toArray⟩
theorem pick_any {n : Int} (h1 : -9223372036854775808 ≤ n) (h2 : n ≤ 9223372036854775807) (m : Nat) (hm : 0 < m) (hm2 : m ≤ 1000000) (w : World) : Calls Tryz.prog 15 #[.int .i64 n, .int .i64 m] w fun r w' => ∃ k : Nat, r = .returned (.int .i64 k) ∧ k < m ∧ w' = w := by
 have d0 : (m : Int) ≠ 0 := by omega
 have e1 : n.tmod m < m := by have := Int.tmod_lt_of_pos n (b := (m : Int)) (by omega); exact this
 have e2 : -(m : Int) < n.tmod m := by have := Int.lt_tmod_of_pos n (b := (m : Int)) (by omega); exact this
 generalize hz : n.tmod m = z at e1 e2
 go_enter Tryz.func15, Tryz.ntmps15
 by_cases hneg : z < 0
 ·obtain ⟨k, hk⟩ : ∃ k : Nat, (k : Int) = z + m := ⟨(z + m).toNat, by omega⟩
  go_wp2
  exact bodyPost_ret (v := .int .i64 k) (by rw [hk]; simp [results, Tryz.results15] <;> rfl) rfl ⟨k, rfl, by omega, rfl⟩
 ·obtain ⟨k, hk⟩ : ∃ k : Nat, (k : Int) = z := ⟨z.toNat, by omega⟩
  go_wp2
  exact bodyPost_ret (v := .int .i64 k) (by rw [hk]; simp [results, Tryz.results15] <;> rfl) rfl ⟨k, rfl, by omega, rfl⟩
def digS (n : Nat) : ByteArray := ⟨(digitsF n).toArray⟩
def byS (n : Nat) : ByteArray := ⟨#[n.toUInt8]⟩
def by2S (n : Nat) : ByteArray := ⟨#[n.toUInt8, 120]⟩
theorem bs_app (a b : List UInt8) : (⟨a.toArray⟩ : ByteArray) ++ ⟨b.toArray⟩ = ⟨(a ++ b).toArray⟩ := by
 apply ByteArray.ext
 simp
theorem digS_size (n : Nat) : (digS n).size ≤ 2 := by unfold digS digitsF; split <;> simp [ByteArray.size]
theorem digS_two {n : Nat} (h : n < 100) (h2 : 10 ≤ n) : digS n = digS (n / 10) ++ digS (n % 10) := by
 unfold digS
 rw [bs_app]
 unfold digitsF
 rw [if_neg (by omega), if_pos (by omega), if_pos (by omega)]
 rfl
theorem u8_nat {n : Nat} (h : n < 256) : (n.toUInt8).toNat = n := by simp; omega
theorem conv1 (w : World) {n : Nat} (h : n < 256) : (convert 43 9 (.slice (some ⟨w.heap.size, 0, none⟩) 1 1)).run Tryz.prog (w.alloc (.cells #[.int .u8 (n : Nat)] 5)) = .ok (.string (byS n)) (w.alloc (.cells #[.int .u8 (n : Nat)] 5)) :=
 run_convert_bytes_back (P := Tryz.prog) _ 43 9 5 ⟨w.heap.size, 0, none⟩ 1 [n.toUInt8] Tryz.underlying43 Tryz.underlying5 Tryz.underlying9 (fun j hj => by
  have hj0 : j = 0 := by simpa using hj
  subst hj0
  have := cell_of_heap (h_new w (.cells #[.int .u8 (n : Nat)] 5)) 0
  simp only [List.getElem_cons_zero, u8_nat h]
  simp [Addr.add])
theorem conv2 (w : World) {n : Nat} (h : n < 256) : (convert 43 9 (.slice (some ⟨w.heap.size, 0, none⟩) 2 2)).run Tryz.prog (w.alloc (.cells #[.int .u8 (n : Nat), .int .u8 120] 5)) = .ok (.string (by2S n)) (w.alloc (.cells #[.int .u8 (n : Nat), .int .u8 120] 5)) :=
 run_convert_bytes_back (P := Tryz.prog) _ 43 9 5 ⟨w.heap.size, 0, none⟩ 2 [n.toUInt8, 120] Tryz.underlying43 Tryz.underlying5 Tryz.underlying9 (fun j hj => by
  have hj2 : j < 2 := by simpa using hj
  have h0 := cell_of_heap (h_new w (.cells #[.int .u8 (n : Nat), .int .u8 120] 5)) 0
  have h1 := cell_of_heap (h_new w (.cells #[.int .u8 (n : Nat), .int .u8 120] 5)) 1
  match j, hj2 with
  | 0, _ => simp only [List.getElem_cons_zero, u8_nat h]; simp [Addr.add]
  | 1, _ => simp [Addr.add])
theorem digits1 {n : Nat} (h : n < 10) (w : World) : Calls Tryz.prog 16 #[.int .i64 n] w fun r w' => r = .returned (.string (digS n)) ∧ Keeps [] w w' := by
 have d0 : (n : Int) < 10 := by omega
 obtain ⟨m, hm⟩ : ∃ m, m = 48 + n := ⟨_, rfl⟩
 have hm2 : m < 256 := by omega
 have hm3 : (48 : Int) + (n : Int) = (m : Int) := by omega
 have hcv := conv1 w hm2
 have hds : digS n = byS m := by unfold digS digitsF byS; rw [if_pos h, hm]
 rw [hds]
 clear hm hds
 go_enter Tryz.func16, Tryz.ntmps16
 go_wp2_with fail
 refine ret_at (v := .string (byS m)) (fun W => Keeps [] w W) (by with_reducible repeat (first | exact k0 _ _ | refine kA ?_ _ | refine kD ?_ | refine kS ?_ (by simp) | refine kM ?_ (by simp))) (fun W hW => ?_) rfl (fun W hW => ?_)
 ·simp [results, Tryz.results16, go_sem]
 ·exact ⟨rfl, hW⟩
theorem digits2 {n : Nat} (h : n < 100) (h2 : 10 ≤ n) (w : World) : Calls Tryz.prog 16 #[.int .i64 n] w fun r w' => r = .returned (.string (digS n)) ∧ Keeps [] w w' := by
 have d0 : ¬ (n : Int) < 10 := by omega
 have d1 : decide (n < 10) = false := by simp; omega
 obtain ⟨a, ha⟩ : ∃ a, a = n / 10 := ⟨_, rfl⟩
 obtain ⟨b, hb⟩ : ∃ b, b = n % 10 := ⟨_, rfl⟩
 have e1 : (n : Int).tdiv 10 = (a : Int) := by rw [Int.tdiv_eq_ediv_of_nonneg (by omega)]; omega
 have e2 : (n : Int).tmod 10 = (b : Int) := by rw [Int.tmod_eq_emod_of_nonneg (by omega)]; omega
 have ha2 : a < 10 := by omega
 have hb2 : b < 10 := by omega
 have hza := digS_size a
 have hzb := digS_size b
 have hds := digS_two h h2
 rw [← ha, ← hb] at hds
 rw [hds]
 clear ha hb hds
 go_enter Tryz.func16, Tryz.ntmps16
 go_wp2_with fail
 refine (digits1 ha2 _).mono ?_
 rintro r w1 ⟨rfl, hk1⟩
 go_wp2_with fail
 refine (digits1 hb2 _).mono ?_
 rintro r w2 ⟨rfl, hk2⟩
 go_wp2_with fail
 first | go_ret | go_ret2 | go_end0
 exact ⟨rfl, hk1.trans hk2 (by simp)⟩
theorem digits_any {n : Nat} (h : n < 100) (w : World) : Calls Tryz.prog 16 #[.int .i64 n] w fun r w' => r = .returned (.string (digS n)) ∧ Keeps [] w w' := by
 by_cases h2 : n < 10
 ·exact digits1 h2 w
 ·exact digits2 h (by omega) w

def textS (n : Nat) (arr other : Bool) (k : Nat) : ByteArray := chainF n arr other k
def lastS (n : Nat) (arr : Bool) (i : Nat) : ByteArray := ⟨(lastF n arr i).toArray⟩
theorem lastS_more {n i : Nat} {arr : Bool} (h : i + 1 ≠ n) : lastS n arr i = (⟨#[102]⟩ ++ digS (i + 1)) ++ ⟨#[40, 112, 41]⟩ := by
 unfold lastS lastF digS
 rw [if_neg h, bs_app [102], bs_app _ [40, 112, 41]]
 rfl
theorem lastS_arr {n i : Nat} (h : i + 1 = n) : lastS n true i = ⟨#[112, 91, 49, 93, 32, 61, 32, 50]⟩ := by
 unfold lastS lastF
 rw [if_pos h, if_pos rfl]
theorem lastS_no {n i : Nat} (h : i + 1 = n) : lastS n false i = ⟨#[112, 114, 105, 110, 116, 32, 112, 32]⟩ ++ by2S (97 + i % 26) := by
 unfold lastS lastF by2S
 rw [if_pos h, if_neg (by simp)]
 rw [bs_app [112, 114, 105, 110, 116, 32, 112, 32] [(97 + i % 26).toUInt8, 120]]
 rfl
theorem textS_next (n : Nat) (arr other : Bool) (k : Nat) : textS n arr other (k + 1) = ((((textS n arr other k ++ ⟨#[102, 117, 110, 99, 116, 105, 111, 110, 32, 102]⟩) ++ digS k) ++ ⟨#[40, 112, 41, 32, 123, 32]⟩) ++ lastS n arr k) ++ ⟨#[32, 125, 10]⟩ := by
 unfold textS chainF lastS digS
 apply ByteArray.ext
 simp [fnsF, fnF]
theorem lastS_size (n : Nat) (arr : Bool) (i : Nat) : (lastS n arr i).size ≤ 10 := by
 unfold lastS lastF digitsF
 split
 ·split <;> simp [ByteArray.size]
 ·split <;> simp [ByteArray.size]
theorem textS_size (n : Nat) (arr other : Bool) : ∀ k, (textS n arr other k).size ≤ 25 + k * 31
 | 0 => by cases other <;> simp [textS, chainF, headF, fnsF, ByteArray.size]
 | k + 1 => by
  have h1 := textS_size n arr other k
  have h2 := lastS_size n arr k
  have h3 := digS_size k
  rw [textS_next]
  simp only [ByteArray.size_append]
  have e1 : (⟨#[102, 117, 110, 99, 116, 105, 111, 110, 32, 102]⟩ : ByteArray).size = 10 := rfl
  have e2 : (⟨#[40, 112, 41, 32, 123, 32]⟩ : ByteArray).size = 6 := rfl
  have e3 : (⟨#[32, 125, 10]⟩ : ByteArray).size = 3 := rfl
  omega
theorem textS_zero (n : Nat) (arr other : Bool) : textS n arr other 0 = (if other then ⟨#[66, 69, 71, 73, 78, 32, 123, 32, 102, 48, 40, 116, 41]⟩ ++ ⟨#[59, 32, 112, 114, 105, 110, 116, 32, 116]⟩ else ⟨#[66, 69, 71, 73, 78, 32, 123, 32, 102, 48, 40, 116, 41]⟩) ++ ⟨#[32, 125, 10]⟩ := by
 cases other <;> rfl
def ChI1 (n : Nat) (arr other : Bool) (w : World) (g : Nat) (s i : Value) (W : World) : Prop := ∃ k : Nat, i = .int .i64 k ∧ k ≤ n ∧ g + k = n + 1 ∧ s = .string (textS n arr other k) ∧ Keeps [] w W
end Go.Proofs.YtkfillfkbhbbjaaGreatDoor
namespace Go.Proofs.YtkfillfkbhbbjaaGreatDoor
open Go.RowKit
theorem digits_z {n : Nat} {z : Int} (hz : z = (n : Nat)) (h : n < 100) (w : World) : Calls Tryz.prog 16 #[.int .i64 z] w fun r w' => r = .returned (.string (digS n)) ∧ Keeps [] w w' := by subst hz; exact digits_any h w
def ChI2 (t : Told) (w : World) (n : Nat) (X : Nat) (ob : Obj) (pa : Option Addr) (pc : Nat) (aa : Option Addr) (na ac : Nat) (g : Nat) (j : Value) (W : World) : Prop := ∃ k : Nat, j = .int .i64 k ∧ k ≤ n ∧ g + k = n + 1 ∧ Keeps [] w W ∧ W.heap[X]? = some ob ∧ SliceR FlagsE W (fun _ => True) t.info.params (.slice pa n pc) ∧ SliceR StrE W (fun _ => True) t.info.arrays (.slice aa na ac)
def ChR (n : Nat) (a o : Bool) (t : Told) : Prop := if (a && o) = true then t.e = 30 else t.e = 0 ∧ t.info.params.length = n ∧ t.info.arrays.length ≤ 5 ∧ (∀ l ∈ t.info.params, l = [a]) ∧ strsF t.info.arrays [⟨#[116]⟩] = a

theorem chain_tf {z : Int} (h1 : -9223372036854775808 ≤ z) (h2 : z ≤ 9223372036854775807) (hall : ∀ n, 1 ≤ n → n ≤ 20 → ∃ g t, parseF (textS n true false n) = some g ∧ nCheck 60 g = some t ∧ ChR n true false t) {w : World} (hg : Gl w) :
  Calls Tryz.prog 5 #[.int .i64 z, .bool true, .bool false] w fun r w' => r = .returned (.bool true) ∧ Keeps [] w w' := by
 have HALL := zh hall; have HG0 := zh hg
 clear hall hg
 go_enter Tryz.func5, Tryz.ntmps5
 go_wp2_with fail
 refine (pick_any h1 h2 20 (by omega) (by omega) _).mono ?_
 rintro r w1 ⟨k0', rfl, hk0, rfl⟩
 obtain ⟨n, hn⟩ : ∃ n : Nat, n = k0' + 1 := ⟨_, rfl⟩
 have en : (1 : Int) + (k0' : Int) = (n : Int) := by omega
 have hn1 : 1 ≤ n := by omega
 have hn2 : n ≤ 20 := by omega
 clear hn
 go_wp2_with fail
 go_loopg [7, 8] (n + 1) (fun g s i wr => ChI1 n true false w1 g s i wr)
 case atStart => exact ⟨0, rfl, Nat.zero_le _, rfl, by rw [textS_zero]; rfl, k0 [] _⟩
 case round =>
  obtain ⟨k, rfl, hk1, hk2, rfl, hk⟩ := hrel
  have hts := textS_size n true false k
  by_cases hlt : k < n
  ·cases gk with
   | zero => omega
   | succ f =>
    obtain ⟨q, hq⟩ : ∃ q, q = k % 26 := ⟨_, rfl⟩
    have et : (k : Int).tmod 26 = (q : Int) := by rw [Int.tmod_eq_emod_of_nonneg (by omega)]; omega
    have hq2 : q < 26 := by omega
    obtain ⟨m, hm⟩ : ∃ m, m = 97 + q := ⟨_, rfl⟩
    have hm3 : (97 : Int) + (q : Int) = (m : Int) := by omega
    have hm2 : m < 256 := by omega
    have hcv := conv2 wr hm2
    have HM : Hid (97 + k % 26 = m) := zh (by rw [← hq, hm])
    have hz2 : (by2S m).size = 2 := rfl
    clear hm hq
    by_cases hkn : k + 1 = n
    ·have e5 : ((k : Int) == (n : Int) - 1) = true := by simp; omega
     have hz1 := digS_size (k + 1)
     have HKN := zh hkn
     clear hkn
     go_wp2_with fail
     refine (digits_z (n := k + 1) (by simp) (by omega) _).mono ?_
     rintro r w1 ⟨rfl, hk1⟩
     go_wp2_with fail
     refine (digits_z (n := k) rfl (by omega) _).mono ?_
     rintro r w2 ⟨rfl, hk2⟩
     have hzc := digS_size k
     go_wp2_with fail
     go_roundg f
     case measure => omega
     case rel => exact ⟨k + 1, by first | rfl | (simp; done) | (simp; omega), by omega, by omega, by rw [textS_next, lastS_arr HKN.out], (hk.trans (fp' := []) (kA (k0 [] _) _) (by simp)).trans (hk1.trans hk2 (by simp)) (by simp)⟩
    ·have e5 : ((k : Int) == (n : Int) - 1) = false := by simp; omega
     have hz1 := digS_size (k + 1)
     have HKN := zh hkn
     clear hkn
     go_wp2_with fail
     refine (digits_z (n := k + 1) (by simp) (by omega) _).mono ?_
     rintro r w1 ⟨rfl, hk1⟩
     go_wp2_with fail
     refine (digits_z (n := k) rfl (by omega) _).mono ?_
     rintro r w2 ⟨rfl, hk2⟩
     have hzc := digS_size k
     go_wp2_with fail
     go_roundg f
     case measure => omega
     case rel => exact ⟨k + 1, by first | rfl | (simp; done) | (simp; omega), by omega, by omega, by rw [textS_next, lastS_more HKN.out], (hk.trans (fp' := []) (kA (k0 [] _) _) (by simp)).trans (hk1.trans hk2 (by simp)) (by simp)⟩
  ·have hke : n = k := by omega
   subst hke
   obtain ⟨g, t, hp, hc, hR⟩ := HALL.out n hn1 hn2
   obtain ⟨⟨sc, ar, ps⟩, re, im, e⟩ := t
   have hR2 : e = 0 ∧ ps.length = n ∧ ar.length ≤ 5 ∧ (∀ l ∈ ps, l = [true]) ∧ strsF ar [⟨#[116]⟩] = true := by simpa [ChR] using hR
   obtain ⟨rfl, hnp, hal, hps, hst⟩ := hR2
   have hnp := hnp.symm
   have HPS := zh hps; have HNP := zh hnp; have HAL := zh hal
   obtain ⟨ns, hns⟩ : ∃ x, x = sc.length := ⟨_, rfl⟩
   obtain ⟨na, hna⟩ : ∃ x, x = ar.length := ⟨_, rfl⟩
   have HNA := zh hna; have HNS := zh hns
   have HP := zh hp; have HC := zh hc; have HK := zh hk; have HG := zh (HG0.out.keep hk (by simp))

   clear hp hc hk hR hna hns hnp hps hal
   go_wp2_with fail
   refine (parsed_any HG.out HP.out).mono ?_
   rintro r w2 ⟨ra, rn, rc, fa, fn, fc, rfl, hv, hk2⟩
   have HV := zh hv; have HK2 := zh hk2
   clear hv hk2
   go_wp2_with fail
   refine (check_lit HV.out HC.out (m1 := ns) (m2 := na) (m3 := n) HNS.out HNA.out HNP.out).mono ?_
   rintro r w3 ⟨sa, sc', aa, ac, pa, pc, rfl, hi1, hi2, hi3, hk3⟩
   have HI2 := zh hi2; have HI3 := zh hi3; have HK3 := zh hk3
   clear hi1 hi2 hi3 hk3
   go_wp2_with fail
   refine calls_at (fun W => Keeps [] w3 W ∧ W.heap[w3.heap.size]? = some (.cells #[.slice sa ns sc', .slice aa na ac, .slice pa n pc] 25 (0, 0))) ⟨(by with_reducible repeat (first | exact k0 _ _ | refine kA ?_ _ | refine kD ?_ | refine kS ?_ (by simp) | refine kM ?_ (by simp))), (by simp only [hS, hA, hD, hM, World.size_alloc, World.size_setCell, World.size_drew, size_mset, Nat.add_right_cancel_iff, Nat.left_eq_add, Nat.add_eq_left, Nat.reduceEqDiff, Nat.add_assoc, Nat.reduceAdd, Nat.one_ne_zero, Nat.zero_ne_one, reduceIte, Option.map_some, Obj.put] <;> rfl)⟩ ?_
   rintro w4 ⟨hk4, hX⟩
   have HK4 := zh ((HK.out.trans HK2.out (by simp)).trans (HK3.out.trans hk4 (by simp)) (by simp))
   have HG4 := zh (HG0.out.keep HK4.out (by simp))
   have HX4 := zh hX
   have HI24 := zh (HI2.out.kp strL hk4 (by simp)); have HI34 := zh (HI3.out.kp flagsL hk4 (by simp))
   clear hk4 hX HI2 HI3
   refine (known_any HG4.out).mono ?_
   rintro r w5 ⟨rfl, hk5⟩
   have HK5 := zh (HK4.out.trans hk5 (by simp)); have HG5 := zh (HG4.out.keep hk5 (by simp))
   have HX5 := zh (hk5.at HX4.out (by simp)); have HI25 := zh (HI24.out.kp strL hk5 (by simp)); have HI35 := zh (HI34.out.kp flagsL hk5 (by simp))
   clear hk5
   have dn : ((n : Int) != (n : Int)) = false := by simp
   obtain ⟨l_X, x0, x1, x2, y0, y1, y2⟩ := cf3 HX5.out
   go_wp2_with fail
   clear l_X x0 x1 x2 y0 y1 y2
   go_loopg [14] (n + 1) (fun g j wq => ChI2 ⟨⟨sc, ar, ps⟩, re, im, 0⟩ w1 n w3.heap.size (.cells #[.slice sa ns sc', .slice aa na ac, .slice pa n pc] 25 (0, 0)) pa pc aa na ac g j wq)
   case atStart => exact ⟨0, rfl, Nat.zero_le _, rfl, HK5.out, HX5.out, HI35.out, HI25.out⟩
   case round =>
    rename World => wq
    obtain ⟨k, rfl, hk1, hk2, hk, hX, hi3, hi2⟩ := hrel
    obtain ⟨l_X, x0, x1, x2, y0, y1, y2⟩ := cf3 hX
    have HK := zh hk; have HX := zh hX; have HI2 := zh hi2; have HI3 := zh hi3
    clear hk hX hi2
    by_cases hlt : k < n
    ·have hlp : k < ps.length := by rw [← HNP.out]; exact hlt
     obtain ⟨gq, oq, aq, mq, cq, hpq, hcq, hmq, hbq⟩ := flags_at hi3 (i := k) hlp
     have hpk : ps[k] = [true] := HPS.out _ (List.getElem_mem hlp)
     have hmq1 : mq = 1 := by rw [hmq]; show (ps[k]).length = 1; rw [hpk]; rfl
     obtain ⟨gr, or, har, hr0⟩ := bools_at hbq (i := 0) (by show 0 < (ps[k]).length; rw [hpk]; exact Nat.one_pos)
     have hr1 : wq.cell? ⟨gr, or + 0, none⟩ = some (.bool true) := by
      rw [hr0]
      have : (ps[k])[0]'(by rw [hpk]; exact Nat.one_pos) = true := by simp [hpk]
      exact congrArg (fun b => some (Value.bool b)) this
     clear hr0 hbq hmq hpk
     subst hmq1
     subst hpq
     subst har
     simp at hr1
     have lq := lt_cell hcq
     have lr := lt_cell hr1
     cases gk with
     | zero => omega
     | succ f =>
      clear hi3 hlp
      go_wp2_with fail
      go_roundg f
      case measure => omega
      case rel => exact ⟨k + 1, by first | rfl | (simp; done) | (simp; omega), by omega, by omega, HK.out, HX.out, HI3.out, HI2.out⟩
    ·have hke : n = k := by omega
     subst hke
     clear hi3
     go_wp2_with fail
     refine calls_at (fun W => Keeps [] wq W ∧ W.heap[wq.heap.size]? = some (.cells #[.string ⟨#[116]⟩] 9 (0, 0))) ⟨(by with_reducible repeat (first | exact k0 _ _ | refine kA ?_ _ | refine kD ?_ | refine kS ?_ (by simp) | refine kM ?_ (by simp))), (by simp only [hS, hA, hD, hM, World.size_alloc, World.size_setCell, World.size_drew, size_mset, Nat.add_right_cancel_iff, Nat.left_eq_add, Nat.add_eq_left, Nat.reduceEqDiff, Nat.add_assoc, Nat.reduceAdd, Nat.one_ne_zero, Nat.zero_ne_one, reduceIte, Option.map_some, Obj.put] <;> rfl)⟩ ?_
     rintro w6 ⟨hk6, hS⟩
     refine (strs_any (HI2.out.kp strL hk6 (by simp)) (sliceR_one hS) HNA.out rfl (by have := HAL.out; show ar.length ≤ 1000000; omega)).mono ?_
     rintro r w7 ⟨rfl, hk7⟩
     have HK7 := zh (HK.out.trans (hk6.trans hk7 (by simp)) (by simp))
     clear hk6 hk7 hS l_X x0 x1 x2 y0 y1 y2
     go_wp2_with fail
     refine ret_at (v := .bool true) (fun W => Keeps [] w7 W) (by with_reducible repeat (first | exact k0 _ _ | refine kA ?_ _ | refine kD ?_ | refine kS ?_ (by simp) | refine kM ?_ (by simp))) (fun W hW => ?_) rfl (fun W hW => ?_)
     ·simp [results, Tryz.results5, go_sem]
     ·exact ⟨rfl, HK7.out.trans hW (by simp)⟩

theorem chain_tt {z : Int} (h1 : -9223372036854775808 ≤ z) (h2 : z ≤ 9223372036854775807) (hall : ∀ n, 1 ≤ n → n ≤ 20 → ∃ g t, parseF (textS n true true n) = some g ∧ nCheck 60 g = some t ∧ ChR n true true t) {w : World} (hg : Gl w) :
  Calls Tryz.prog 5 #[.int .i64 z, .bool true, .bool true] w fun r w' => r = .returned (.bool true) ∧ Keeps [] w w' := by
 have HALL := zh hall; have HG0 := zh hg
 clear hall hg
 go_enter Tryz.func5, Tryz.ntmps5
 go_wp2_with fail
 refine (pick_any h1 h2 20 (by omega) (by omega) _).mono ?_
 rintro r w1 ⟨k0', rfl, hk0, rfl⟩
 obtain ⟨n, hn⟩ : ∃ n : Nat, n = k0' + 1 := ⟨_, rfl⟩
 have en : (1 : Int) + (k0' : Int) = (n : Int) := by omega
 have hn1 : 1 ≤ n := by omega
 have hn2 : n ≤ 20 := by omega
 clear hn
 go_wp2_with fail
 go_loopg [7, 8] (n + 1) (fun g s i wr => ChI1 n true true w1 g s i wr)
 case atStart => exact ⟨0, rfl, Nat.zero_le _, rfl, by rw [textS_zero]; rfl, k0 [] _⟩
 case round =>
  obtain ⟨k, rfl, hk1, hk2, rfl, hk⟩ := hrel
  have hts := textS_size n true true k
  by_cases hlt : k < n
  ·cases gk with
   | zero => omega
   | succ f =>
    obtain ⟨q, hq⟩ : ∃ q, q = k % 26 := ⟨_, rfl⟩
    have et : (k : Int).tmod 26 = (q : Int) := by rw [Int.tmod_eq_emod_of_nonneg (by omega)]; omega
    have hq2 : q < 26 := by omega
    obtain ⟨m, hm⟩ : ∃ m, m = 97 + q := ⟨_, rfl⟩
    have hm3 : (97 : Int) + (q : Int) = (m : Int) := by omega
    have hm2 : m < 256 := by omega
    have hcv := conv2 wr hm2
    have HM : Hid (97 + k % 26 = m) := zh (by rw [← hq, hm])
    have hz2 : (by2S m).size = 2 := rfl
    clear hm hq
    by_cases hkn : k + 1 = n
    ·have e5 : ((k : Int) == (n : Int) - 1) = true := by simp; omega
     have hz1 := digS_size (k + 1)
     have HKN := zh hkn
     clear hkn
     go_wp2_with fail
     refine (digits_z (n := k + 1) (by simp) (by omega) _).mono ?_
     rintro r w1 ⟨rfl, hk1⟩
     go_wp2_with fail
     refine (digits_z (n := k) rfl (by omega) _).mono ?_
     rintro r w2 ⟨rfl, hk2⟩
     have hzc := digS_size k
     go_wp2_with fail
     go_roundg f
     case measure => omega
     case rel => exact ⟨k + 1, by first | rfl | (simp; done) | (simp; omega), by omega, by omega, by rw [textS_next, lastS_arr HKN.out], (hk.trans (fp' := []) (kA (k0 [] _) _) (by simp)).trans (hk1.trans hk2 (by simp)) (by simp)⟩
    ·have e5 : ((k : Int) == (n : Int) - 1) = false := by simp; omega
     have hz1 := digS_size (k + 1)
     have HKN := zh hkn
     clear hkn
     go_wp2_with fail
     refine (digits_z (n := k + 1) (by simp) (by omega) _).mono ?_
     rintro r w1 ⟨rfl, hk1⟩
     go_wp2_with fail
     refine (digits_z (n := k) rfl (by omega) _).mono ?_
     rintro r w2 ⟨rfl, hk2⟩
     have hzc := digS_size k
     go_wp2_with fail
     go_roundg f
     case measure => omega
     case rel => exact ⟨k + 1, by first | rfl | (simp; done) | (simp; omega), by omega, by omega, by rw [textS_next, lastS_more HKN.out], (hk.trans (fp' := []) (kA (k0 [] _) _) (by simp)).trans (hk1.trans hk2 (by simp)) (by simp)⟩
  ·have hke : n = k := by omega
   subst hke
   obtain ⟨g, t, hp, hc, hR⟩ := HALL.out n hn1 hn2
   obtain ⟨⟨sc, ar, ps⟩, re, im, e⟩ := t
   have he : e = 30 := by simpa [ChR] using hR
   subst he
   have hnp : ∃ x, x = ps.length := ⟨_, rfl⟩
   obtain ⟨np, hnp⟩ := hnp
   obtain ⟨ns, hns⟩ : ∃ x, x = sc.length := ⟨_, rfl⟩
   obtain ⟨na, hna⟩ : ∃ x, x = ar.length := ⟨_, rfl⟩
   have HNA := zh hna; have HNS := zh hns
   have HP := zh hp; have HC := zh hc; have HK := zh hk; have HG := zh (HG0.out.keep hk (by simp))
   have HNP := zh hnp
   clear hp hc hk hR hna hns hnp 
   go_wp2_with fail
   refine (parsed_any HG.out HP.out).mono ?_
   rintro r w2 ⟨ra, rn, rc, fa, fn, fc, rfl, hv, hk2⟩
   have HV := zh hv; have HK2 := zh hk2
   clear hv hk2
   go_wp2_with fail
   refine (check_lit HV.out HC.out (m1 := ns) (m2 := na) (m3 := np) HNS.out HNA.out HNP.out).mono ?_
   rintro r w3 ⟨sa, sc', aa, ac, pa, pc, rfl, hi1, hi2, hi3, hk3⟩
   have HI2 := zh hi2; have HI3 := zh hi3; have HK3 := zh hk3
   clear hi1 hi2 hi3 hk3
   go_wp2_with fail
   refine calls_at (fun W => Keeps [] w3 W ∧ W.heap[w3.heap.size]? = some (.cells #[.slice sa ns sc', .slice aa na ac, .slice pa np pc] 25 (0, 0))) ⟨(by with_reducible repeat (first | exact k0 _ _ | refine kA ?_ _ | refine kD ?_ | refine kS ?_ (by simp) | refine kM ?_ (by simp))), (by simp only [hS, hA, hD, hM, World.size_alloc, World.size_setCell, World.size_drew, size_mset, Nat.add_right_cancel_iff, Nat.left_eq_add, Nat.add_eq_left, Nat.reduceEqDiff, Nat.add_assoc, Nat.reduceAdd, Nat.one_ne_zero, Nat.zero_ne_one, reduceIte, Option.map_some, Obj.put] <;> rfl)⟩ ?_
   rintro w4 ⟨hk4, hX⟩
   have HK4 := zh ((HK.out.trans HK2.out (by simp)).trans (HK3.out.trans hk4 (by simp)) (by simp))
   have HG4 := zh (HG0.out.keep HK4.out (by simp))
   have HX4 := zh hX
   have HI24 := zh (HI2.out.kp strL hk4 (by simp)); have HI34 := zh (HI3.out.kp flagsL hk4 (by simp))
   clear hk4 hX HI2 HI3
   refine (known_any HG4.out).mono ?_
   rintro r w5 ⟨rfl, hk5⟩
   have HK5 := zh (HK4.out.trans hk5 (by simp)); have HG5 := zh (HG4.out.keep hk5 (by simp))
   clear hk5
   go_wp2_with fail
   refine (known_any HG5.out).mono ?_
   rintro r w6 ⟨rfl, hk6⟩
   have HK6 := zh (HK5.out.trans hk6 (by simp))
   clear hk6
   go_wp2_with fail
   refine ret_at (v := .bool true) (fun W => Keeps [] w6 W) (by with_reducible repeat (first | exact k0 _ _ | refine kA ?_ _ | refine kD ?_ | refine kS ?_ (by simp) | refine kM ?_ (by simp))) (fun W hW => ?_) rfl (fun W hW => ?_)
   ·simp [results, Tryz.results5, go_sem]
   ·exact ⟨rfl, HK6.out.trans hW (by simp)⟩

theorem chain_ft {z : Int} (h1 : -9223372036854775808 ≤ z) (h2 : z ≤ 9223372036854775807) (hall : ∀ n, 1 ≤ n → n ≤ 20 → ∃ g t, parseF (textS n false true n) = some g ∧ nCheck 60 g = some t ∧ ChR n false true t) {w : World} (hg : Gl w) :
  Calls Tryz.prog 5 #[.int .i64 z, .bool false, .bool true] w fun r w' => r = .returned (.bool true) ∧ Keeps [] w w' := by
 have HALL := zh hall; have HG0 := zh hg
 clear hall hg
 go_enter Tryz.func5, Tryz.ntmps5
 go_wp2_with fail
 refine (pick_any h1 h2 20 (by omega) (by omega) _).mono ?_
 rintro r w1 ⟨k0', rfl, hk0, rfl⟩
 obtain ⟨n, hn⟩ : ∃ n : Nat, n = k0' + 1 := ⟨_, rfl⟩
 have en : (1 : Int) + (k0' : Int) = (n : Int) := by omega
 have hn1 : 1 ≤ n := by omega
 have hn2 : n ≤ 20 := by omega
 clear hn
 go_wp2_with fail
 go_loopg [7, 8] (n + 1) (fun g s i wr => ChI1 n false true w1 g s i wr)
 case atStart => exact ⟨0, rfl, Nat.zero_le _, rfl, by rw [textS_zero]; rfl, k0 [] _⟩
 case round =>
  obtain ⟨k, rfl, hk1, hk2, rfl, hk⟩ := hrel
  have hts := textS_size n false true k
  by_cases hlt : k < n
  ·cases gk with
   | zero => omega
   | succ f =>
    obtain ⟨q, hq⟩ : ∃ q, q = k % 26 := ⟨_, rfl⟩
    have et : (k : Int).tmod 26 = (q : Int) := by rw [Int.tmod_eq_emod_of_nonneg (by omega)]; omega
    have hq2 : q < 26 := by omega
    obtain ⟨m, hm⟩ : ∃ m, m = 97 + q := ⟨_, rfl⟩
    have hm3 : (97 : Int) + (q : Int) = (m : Int) := by omega
    have hm2 : m < 256 := by omega
    have hcv := conv2 wr hm2
    have HM : Hid (97 + k % 26 = m) := zh (by rw [← hq, hm])
    have hz2 : (by2S m).size = 2 := rfl
    clear hm hq
    by_cases hkn : k + 1 = n
    ·have e5 : ((k : Int) == (n : Int) - 1) = true := by simp; omega
     have hz1 := digS_size (k + 1)
     have HKN := zh hkn
     clear hkn
     go_wp2_with fail
     refine (digits_z (n := k + 1) (by simp) (by omega) _).mono ?_
     rintro r w1 ⟨rfl, hk1⟩
     go_wp2_with fail
     refine (digits_z (n := k) rfl (by omega) _).mono ?_
     rintro r w2 ⟨rfl, hk2⟩
     have hzc := digS_size k
     go_wp2_with fail
     go_roundg f
     case measure => omega
     case rel => exact ⟨k + 1, by first | rfl | (simp; done) | (simp; omega), by omega, by omega, by rw [textS_next, lastS_no HKN.out, HM.out], (hk.trans (fp' := []) (kA (k0 [] _) _) (by simp)).trans (hk1.trans hk2 (by simp)) (by simp)⟩
    ·have e5 : ((k : Int) == (n : Int) - 1) = false := by simp; omega
     have hz1 := digS_size (k + 1)
     have HKN := zh hkn
     clear hkn
     go_wp2_with fail
     refine (digits_z (n := k + 1) (by simp) (by omega) _).mono ?_
     rintro r w1 ⟨rfl, hk1⟩
     go_wp2_with fail
     refine (digits_z (n := k) rfl (by omega) _).mono ?_
     rintro r w2 ⟨rfl, hk2⟩
     have hzc := digS_size k
     go_wp2_with fail
     go_roundg f
     case measure => omega
     case rel => exact ⟨k + 1, by first | rfl | (simp; done) | (simp; omega), by omega, by omega, by rw [textS_next, lastS_more HKN.out], (hk.trans (fp' := []) (kA (k0 [] _) _) (by simp)).trans (hk1.trans hk2 (by simp)) (by simp)⟩
  ·have hke : n = k := by omega
   subst hke
   obtain ⟨g, t, hp, hc, hR⟩ := HALL.out n hn1 hn2
   obtain ⟨⟨sc, ar, ps⟩, re, im, e⟩ := t
   have hR2 : e = 0 ∧ ps.length = n ∧ ar.length ≤ 5 ∧ (∀ l ∈ ps, l = [false]) ∧ strsF ar [⟨#[116]⟩] = false := by simpa [ChR] using hR
   obtain ⟨rfl, hnp, hal, hps, hst⟩ := hR2
   have hnp := hnp.symm
   have HPS := zh hps; have HNP := zh hnp; have HAL := zh hal
   obtain ⟨ns, hns⟩ : ∃ x, x = sc.length := ⟨_, rfl⟩
   obtain ⟨na, hna⟩ : ∃ x, x = ar.length := ⟨_, rfl⟩
   have HNA := zh hna; have HNS := zh hns
   have HP := zh hp; have HC := zh hc; have HK := zh hk; have HG := zh (HG0.out.keep hk (by simp))

   clear hp hc hk hR hna hns hnp hps hal
   go_wp2_with fail
   refine (parsed_any HG.out HP.out).mono ?_
   rintro r w2 ⟨ra, rn, rc, fa, fn, fc, rfl, hv, hk2⟩
   have HV := zh hv; have HK2 := zh hk2
   clear hv hk2
   go_wp2_with fail
   refine (check_lit HV.out HC.out (m1 := ns) (m2 := na) (m3 := n) HNS.out HNA.out HNP.out).mono ?_
   rintro r w3 ⟨sa, sc', aa, ac, pa, pc, rfl, hi1, hi2, hi3, hk3⟩
   have HI2 := zh hi2; have HI3 := zh hi3; have HK3 := zh hk3
   clear hi1 hi2 hi3 hk3
   go_wp2_with fail
   refine calls_at (fun W => Keeps [] w3 W ∧ W.heap[w3.heap.size]? = some (.cells #[.slice sa ns sc', .slice aa na ac, .slice pa n pc] 25 (0, 0))) ⟨(by with_reducible repeat (first | exact k0 _ _ | refine kA ?_ _ | refine kD ?_ | refine kS ?_ (by simp) | refine kM ?_ (by simp))), (by simp only [hS, hA, hD, hM, World.size_alloc, World.size_setCell, World.size_drew, size_mset, Nat.add_right_cancel_iff, Nat.left_eq_add, Nat.add_eq_left, Nat.reduceEqDiff, Nat.add_assoc, Nat.reduceAdd, Nat.one_ne_zero, Nat.zero_ne_one, reduceIte, Option.map_some, Obj.put] <;> rfl)⟩ ?_
   rintro w4 ⟨hk4, hX⟩
   have HK4 := zh ((HK.out.trans HK2.out (by simp)).trans (HK3.out.trans hk4 (by simp)) (by simp))
   have HG4 := zh (HG0.out.keep HK4.out (by simp))
   have HX4 := zh hX
   have HI24 := zh (HI2.out.kp strL hk4 (by simp)); have HI34 := zh (HI3.out.kp flagsL hk4 (by simp))
   clear hk4 hX HI2 HI3
   refine (known_any HG4.out).mono ?_
   rintro r w5 ⟨rfl, hk5⟩
   have HK5 := zh (HK4.out.trans hk5 (by simp)); have HG5 := zh (HG4.out.keep hk5 (by simp))
   have HX5 := zh (hk5.at HX4.out (by simp)); have HI25 := zh (HI24.out.kp strL hk5 (by simp)); have HI35 := zh (HI34.out.kp flagsL hk5 (by simp))
   clear hk5
   have dn : ((n : Int) != (n : Int)) = false := by simp
   obtain ⟨l_X, x0, x1, x2, y0, y1, y2⟩ := cf3 HX5.out
   go_wp2_with fail
   clear l_X x0 x1 x2 y0 y1 y2
   go_loopg [14] (n + 1) (fun g j wq => ChI2 ⟨⟨sc, ar, ps⟩, re, im, 0⟩ w1 n w3.heap.size (.cells #[.slice sa ns sc', .slice aa na ac, .slice pa n pc] 25 (0, 0)) pa pc aa na ac g j wq)
   case atStart => exact ⟨0, rfl, Nat.zero_le _, rfl, HK5.out, HX5.out, HI35.out, HI25.out⟩
   case round =>
    rename World => wq
    obtain ⟨k, rfl, hk1, hk2, hk, hX, hi3, hi2⟩ := hrel
    obtain ⟨l_X, x0, x1, x2, y0, y1, y2⟩ := cf3 hX
    have HK := zh hk; have HX := zh hX; have HI2 := zh hi2; have HI3 := zh hi3
    clear hk hX hi2
    by_cases hlt : k < n
    ·have hlp : k < ps.length := by rw [← HNP.out]; exact hlt
     obtain ⟨gq, oq, aq, mq, cq, hpq, hcq, hmq, hbq⟩ := flags_at hi3 (i := k) hlp
     have hpk : ps[k] = [false] := HPS.out _ (List.getElem_mem hlp)
     have hmq1 : mq = 1 := by rw [hmq]; show (ps[k]).length = 1; rw [hpk]; rfl
     obtain ⟨gr, or, har, hr0⟩ := bools_at hbq (i := 0) (by show 0 < (ps[k]).length; rw [hpk]; exact Nat.one_pos)
     have hr1 : wq.cell? ⟨gr, or + 0, none⟩ = some (.bool false) := by
      rw [hr0]
      have : (ps[k])[0]'(by rw [hpk]; exact Nat.one_pos) = false := by simp [hpk]
      exact congrArg (fun b => some (Value.bool b)) this
     clear hr0 hbq hmq hpk
     subst hmq1
     subst hpq
     subst har
     simp at hr1
     have lq := lt_cell hcq
     have lr := lt_cell hr1
     cases gk with
     | zero => omega
     | succ f =>
      clear hi3 hlp
      go_wp2_with fail
      go_roundg f
      case measure => omega
      case rel => exact ⟨k + 1, by first | rfl | (simp; done) | (simp; omega), by omega, by omega, HK.out, HX.out, HI3.out, HI2.out⟩
    ·have hke : n = k := by omega
     subst hke
     clear hi3
     go_wp2_with fail
     refine calls_at (fun W => Keeps [] wq W ∧ W.heap[wq.heap.size]? = some (.cells #[.string ⟨#[116]⟩] 9 (0, 0))) ⟨(by with_reducible repeat (first | exact k0 _ _ | refine kA ?_ _ | refine kD ?_ | refine kS ?_ (by simp) | refine kM ?_ (by simp))), (by simp only [hS, hA, hD, hM, World.size_alloc, World.size_setCell, World.size_drew, size_mset, Nat.add_right_cancel_iff, Nat.left_eq_add, Nat.add_eq_left, Nat.reduceEqDiff, Nat.add_assoc, Nat.reduceAdd, Nat.one_ne_zero, Nat.zero_ne_one, reduceIte, Option.map_some, Obj.put] <;> rfl)⟩ ?_
     rintro w6 ⟨hk6, hS⟩
     refine (strs_any (HI2.out.kp strL hk6 (by simp)) (sliceR_one hS) HNA.out rfl (by have := HAL.out; show ar.length ≤ 1000000; omega)).mono ?_
     rintro r w7 ⟨rfl, hk7⟩
     have HK7 := zh (HK.out.trans (hk6.trans hk7 (by simp)) (by simp))
     clear hk6 hk7 hS l_X x0 x1 x2 y0 y1 y2
     go_wp2_with fail
     refine ret_at (v := .bool true) (fun W => Keeps [] w7 W) (by with_reducible repeat (first | exact k0 _ _ | refine kA ?_ _ | refine kD ?_ | refine kS ?_ (by simp) | refine kM ?_ (by simp))) (fun W hW => ?_) rfl (fun W hW => ?_)
     ·simp [results, Tryz.results5, go_sem]
     ·exact ⟨rfl, HK7.out.trans hW (by simp)⟩

theorem chain_ff {z : Int} (h1 : -9223372036854775808 ≤ z) (h2 : z ≤ 9223372036854775807) (hall : ∀ n, 1 ≤ n → n ≤ 20 → ∃ g t, parseF (textS n false false n) = some g ∧ nCheck 60 g = some t ∧ ChR n false false t) {w : World} (hg : Gl w) :
  Calls Tryz.prog 5 #[.int .i64 z, .bool false, .bool false] w fun r w' => r = .returned (.bool true) ∧ Keeps [] w w' := by
 have HALL := zh hall; have HG0 := zh hg
 clear hall hg
 go_enter Tryz.func5, Tryz.ntmps5
 go_wp2_with fail
 refine (pick_any h1 h2 20 (by omega) (by omega) _).mono ?_
 rintro r w1 ⟨k0', rfl, hk0, rfl⟩
 obtain ⟨n, hn⟩ : ∃ n : Nat, n = k0' + 1 := ⟨_, rfl⟩
 have en : (1 : Int) + (k0' : Int) = (n : Int) := by omega
 have hn1 : 1 ≤ n := by omega
 have hn2 : n ≤ 20 := by omega
 clear hn
 go_wp2_with fail
 go_loopg [7, 8] (n + 1) (fun g s i wr => ChI1 n false false w1 g s i wr)
 case atStart => exact ⟨0, rfl, Nat.zero_le _, rfl, by rw [textS_zero]; rfl, k0 [] _⟩
 case round =>
  obtain ⟨k, rfl, hk1, hk2, rfl, hk⟩ := hrel
  have hts := textS_size n false false k
  by_cases hlt : k < n
  ·cases gk with
   | zero => omega
   | succ f =>
    obtain ⟨q, hq⟩ : ∃ q, q = k % 26 := ⟨_, rfl⟩
    have et : (k : Int).tmod 26 = (q : Int) := by rw [Int.tmod_eq_emod_of_nonneg (by omega)]; omega
    have hq2 : q < 26 := by omega
    obtain ⟨m, hm⟩ : ∃ m, m = 97 + q := ⟨_, rfl⟩
    have hm3 : (97 : Int) + (q : Int) = (m : Int) := by omega
    have hm2 : m < 256 := by omega
    have hcv := conv2 wr hm2
    have HM : Hid (97 + k % 26 = m) := zh (by rw [← hq, hm])
    have hz2 : (by2S m).size = 2 := rfl
    clear hm hq
    by_cases hkn : k + 1 = n
    ·have e5 : ((k : Int) == (n : Int) - 1) = true := by simp; omega
     have hz1 := digS_size (k + 1)
     have HKN := zh hkn
     clear hkn
     go_wp2_with fail
     refine (digits_z (n := k + 1) (by simp) (by omega) _).mono ?_
     rintro r w1 ⟨rfl, hk1⟩
     go_wp2_with fail
     refine (digits_z (n := k) rfl (by omega) _).mono ?_
     rintro r w2 ⟨rfl, hk2⟩
     have hzc := digS_size k
     go_wp2_with fail
     go_roundg f
     case measure => omega
     case rel => exact ⟨k + 1, by first | rfl | (simp; done) | (simp; omega), by omega, by omega, by rw [textS_next, lastS_no HKN.out, HM.out], (hk.trans (fp' := []) (kA (k0 [] _) _) (by simp)).trans (hk1.trans hk2 (by simp)) (by simp)⟩
    ·have e5 : ((k : Int) == (n : Int) - 1) = false := by simp; omega
     have hz1 := digS_size (k + 1)
     have HKN := zh hkn
     clear hkn
     go_wp2_with fail
     refine (digits_z (n := k + 1) (by simp) (by omega) _).mono ?_
     rintro r w1 ⟨rfl, hk1⟩
     go_wp2_with fail
     refine (digits_z (n := k) rfl (by omega) _).mono ?_
     rintro r w2 ⟨rfl, hk2⟩
     have hzc := digS_size k
     go_wp2_with fail
     go_roundg f
     case measure => omega
     case rel => exact ⟨k + 1, by first | rfl | (simp; done) | (simp; omega), by omega, by omega, by rw [textS_next, lastS_more HKN.out], (hk.trans (fp' := []) (kA (k0 [] _) _) (by simp)).trans (hk1.trans hk2 (by simp)) (by simp)⟩
  ·have hke : n = k := by omega
   subst hke
   obtain ⟨g, t, hp, hc, hR⟩ := HALL.out n hn1 hn2
   obtain ⟨⟨sc, ar, ps⟩, re, im, e⟩ := t
   have hR2 : e = 0 ∧ ps.length = n ∧ ar.length ≤ 5 ∧ (∀ l ∈ ps, l = [false]) ∧ strsF ar [⟨#[116]⟩] = false := by simpa [ChR] using hR
   obtain ⟨rfl, hnp, hal, hps, hst⟩ := hR2
   have hnp := hnp.symm
   have HPS := zh hps; have HNP := zh hnp; have HAL := zh hal
   obtain ⟨ns, hns⟩ : ∃ x, x = sc.length := ⟨_, rfl⟩
   obtain ⟨na, hna⟩ : ∃ x, x = ar.length := ⟨_, rfl⟩
   have HNA := zh hna; have HNS := zh hns
   have HP := zh hp; have HC := zh hc; have HK := zh hk; have HG := zh (HG0.out.keep hk (by simp))

   clear hp hc hk hR hna hns hnp hps hal
   go_wp2_with fail
   refine (parsed_any HG.out HP.out).mono ?_
   rintro r w2 ⟨ra, rn, rc, fa, fn, fc, rfl, hv, hk2⟩
   have HV := zh hv; have HK2 := zh hk2
   clear hv hk2
   go_wp2_with fail
   refine (check_lit HV.out HC.out (m1 := ns) (m2 := na) (m3 := n) HNS.out HNA.out HNP.out).mono ?_
   rintro r w3 ⟨sa, sc', aa, ac, pa, pc, rfl, hi1, hi2, hi3, hk3⟩
   have HI2 := zh hi2; have HI3 := zh hi3; have HK3 := zh hk3
   clear hi1 hi2 hi3 hk3
   go_wp2_with fail
   refine calls_at (fun W => Keeps [] w3 W ∧ W.heap[w3.heap.size]? = some (.cells #[.slice sa ns sc', .slice aa na ac, .slice pa n pc] 25 (0, 0))) ⟨(by with_reducible repeat (first | exact k0 _ _ | refine kA ?_ _ | refine kD ?_ | refine kS ?_ (by simp) | refine kM ?_ (by simp))), (by simp only [hS, hA, hD, hM, World.size_alloc, World.size_setCell, World.size_drew, size_mset, Nat.add_right_cancel_iff, Nat.left_eq_add, Nat.add_eq_left, Nat.reduceEqDiff, Nat.add_assoc, Nat.reduceAdd, Nat.one_ne_zero, Nat.zero_ne_one, reduceIte, Option.map_some, Obj.put] <;> rfl)⟩ ?_
   rintro w4 ⟨hk4, hX⟩
   have HK4 := zh ((HK.out.trans HK2.out (by simp)).trans (HK3.out.trans hk4 (by simp)) (by simp))
   have HG4 := zh (HG0.out.keep HK4.out (by simp))
   have HX4 := zh hX
   have HI24 := zh (HI2.out.kp strL hk4 (by simp)); have HI34 := zh (HI3.out.kp flagsL hk4 (by simp))
   clear hk4 hX HI2 HI3
   refine (known_any HG4.out).mono ?_
   rintro r w5 ⟨rfl, hk5⟩
   have HK5 := zh (HK4.out.trans hk5 (by simp)); have HG5 := zh (HG4.out.keep hk5 (by simp))
   have HX5 := zh (hk5.at HX4.out (by simp)); have HI25 := zh (HI24.out.kp strL hk5 (by simp)); have HI35 := zh (HI34.out.kp flagsL hk5 (by simp))
   clear hk5
   have dn : ((n : Int) != (n : Int)) = false := by simp
   obtain ⟨l_X, x0, x1, x2, y0, y1, y2⟩ := cf3 HX5.out
   go_wp2_with fail
   clear l_X x0 x1 x2 y0 y1 y2
   go_loopg [14] (n + 1) (fun g j wq => ChI2 ⟨⟨sc, ar, ps⟩, re, im, 0⟩ w1 n w3.heap.size (.cells #[.slice sa ns sc', .slice aa na ac, .slice pa n pc] 25 (0, 0)) pa pc aa na ac g j wq)
   case atStart => exact ⟨0, rfl, Nat.zero_le _, rfl, HK5.out, HX5.out, HI35.out, HI25.out⟩
   case round =>
    rename World => wq
    obtain ⟨k, rfl, hk1, hk2, hk, hX, hi3, hi2⟩ := hrel
    obtain ⟨l_X, x0, x1, x2, y0, y1, y2⟩ := cf3 hX
    have HK := zh hk; have HX := zh hX; have HI2 := zh hi2; have HI3 := zh hi3
    clear hk hX hi2
    by_cases hlt : k < n
    ·have hlp : k < ps.length := by rw [← HNP.out]; exact hlt
     obtain ⟨gq, oq, aq, mq, cq, hpq, hcq, hmq, hbq⟩ := flags_at hi3 (i := k) hlp
     have hpk : ps[k] = [false] := HPS.out _ (List.getElem_mem hlp)
     have hmq1 : mq = 1 := by rw [hmq]; show (ps[k]).length = 1; rw [hpk]; rfl
     obtain ⟨gr, or, har, hr0⟩ := bools_at hbq (i := 0) (by show 0 < (ps[k]).length; rw [hpk]; exact Nat.one_pos)
     have hr1 : wq.cell? ⟨gr, or + 0, none⟩ = some (.bool false) := by
      rw [hr0]
      have : (ps[k])[0]'(by rw [hpk]; exact Nat.one_pos) = false := by simp [hpk]
      exact congrArg (fun b => some (Value.bool b)) this
     clear hr0 hbq hmq hpk
     subst hmq1
     subst hpq
     subst har
     simp at hr1
     have lq := lt_cell hcq
     have lr := lt_cell hr1
     cases gk with
     | zero => omega
     | succ f =>
      clear hi3 hlp
      go_wp2_with fail
      go_roundg f
      case measure => omega
      case rel => exact ⟨k + 1, by first | rfl | (simp; done) | (simp; omega), by omega, by omega, HK.out, HX.out, HI3.out, HI2.out⟩
    ·have hke : n = k := by omega
     subst hke
     clear hi3
     go_wp2_with fail
     refine calls_at (fun W => Keeps [] wq W ∧ W.heap[wq.heap.size]? = some (.cells #[.string ⟨#[116]⟩] 9 (0, 0))) ⟨(by with_reducible repeat (first | exact k0 _ _ | refine kA ?_ _ | refine kD ?_ | refine kS ?_ (by simp) | refine kM ?_ (by simp))), (by simp only [hS, hA, hD, hM, World.size_alloc, World.size_setCell, World.size_drew, size_mset, Nat.add_right_cancel_iff, Nat.left_eq_add, Nat.add_eq_left, Nat.reduceEqDiff, Nat.add_assoc, Nat.reduceAdd, Nat.one_ne_zero, Nat.zero_ne_one, reduceIte, Option.map_some, Obj.put] <;> rfl)⟩ ?_
     rintro w6 ⟨hk6, hS⟩
     refine (strs_any (HI2.out.kp strL hk6 (by simp)) (sliceR_one hS) HNA.out rfl (by have := HAL.out; show ar.length ≤ 1000000; omega)).mono ?_
     rintro r w7 ⟨rfl, hk7⟩
     have HK7 := zh (HK.out.trans (hk6.trans hk7 (by simp)) (by simp))
     clear hk6 hk7 hS l_X x0 x1 x2 y0 y1 y2
     go_wp2_with fail
     refine ret_at (v := .bool true) (fun W => Keeps [] w7 W) (by with_reducible repeat (first | exact k0 _ _ | refine kA ?_ _ | refine kD ?_ | refine kS ?_ (by simp) | refine kM ?_ (by simp))) (fun W hW => ?_) rfl (fun W hW => ?_)
     ·simp [results, Tryz.results5, go_sem]
     ·exact ⟨rfl, HK7.out.trans hW (by simp)⟩
end Go.Proofs.YtkfillfkbhbbjaaGreatDoor
