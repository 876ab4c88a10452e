/- The law: known. Made by a program (law.py, walk.py). -/
import Derived.Test.YtkfillfkbhbbjaaGreatDoorNodV
import Derived.Test.YtkfillfkbhbbjaaGreatDoorNamH
import Derived.Test.YtkfillfkbhbbjaaGreatDoorNamF
import Derived.Test.YtkfillfkbhbbjaaGreatDoorNodO
import Derived.Test.YtkfillfkbhbbjaaGreatDoorNodX
import Derived.Test.YtkfillfkbhbbjaaGreatDoorInfo
import Derived.Test.YtkfillfkbhbbjaaGreatDoorShS
import Derived.Test.YtkfillfkbhbbjaaGreatDoorArr
import Derived.Test.YtkfillfkbhbbjaaGreatDoorHed
set_option maxRecDepth 100000
set_option maxHeartbeats 4000000
set_option linter.unusedSimpArgs false
set_option linter.unusedVariables false
namespace Go.Proofs.YtkfillfkbhbbjaaGreatDoor
open Go.RowKit

theorem counts_at {s : ByteArray} {a b : Nat} (h : countsF s = (a, b)) (w : World) : Calls Tryz.prog 117 #[.string s] w fun r w' => r = .returned (.tuple #[.int .i64 a, .int .i64 b]) ∧ w' = w := by
 have := counts_any s w
 rw [h] at this
 exact this

theorem built_l {K : CKey} (hK : CFix K) {T : Nat → Prop} {ua : Option Addr} {uc : Nat} {st : NS} {w : World} (h : CK K T ua uc st w) (kd : Int) (tx : ByteArray) (fm : Nat) (na : Option Addr) (nc re im : Nat) (kids : List Node) {c1 c2 : Nat} (hcn : countsF tx = (c1, c2)) (hlo : kids.length < c1) :
  Calls Tryz.prog 77 #[.pointer (some ⟨K.c, 0, none⟩), .agg #[.int .i64 kd, .string tx, .float .f64 fm, .slice na kids.length nc, .complex .f64 re im]] w fun r w' => ∃ T' ua' uc', r = .returned (.tuple #[]) ∧ CK K T' ua' uc' (faultF st re im 31) w' ∧ CStep K T T' w w' := by
 have d1 : ((kids.length : Int) < (c1 : Int)) := by omega
 have d2 : decide (kids.length < c1) = true := by simp [hlo]
 have HC0 := zh h; have HS0 := zh (CStep.refl K T w)
 clear h
 go_enter Tryz.func77, Tryz.ntmps77
 obtain ⟨l_c, l_mf, l_ms, l_mn⟩ := HC0.out.lt
 go_wp2_with fail
 refine calls_at (fun W => Keeps [] w W ∧ W.heap[w.heap.size]? = some (.cells #[.int .i64 kd, .string tx, .float .f64 fm, .slice na kids.length nc, .complex .f64 re im] 50 (0, 0))) ⟨(by with_reducible repeat (first | exact k0 _ _ | refine kA ?_ _ | refine kD ?_ | refine kS ?_ (by simp) | refine kM ?_ (by simp))), (by simp only [hS, hA, hD, hM, World.size_setCell, World.size_drew, reduceIte, Option.map_some, Obj.put] <;> rfl)⟩ ?_
 rintro w1 ⟨Kw1, cw1_B⟩
 have ⟨n_c_B, n_B_c⟩ := zne l_c
 have ⟨n_mf_B, n_B_mf⟩ := zne l_mf
 have ⟨n_ms_B, n_B_ms⟩ := zne l_ms
 have ⟨n_mn_B, n_B_mn⟩ := zne l_mn
 have o_B : w.heap.size ≤ w.heap.size := Nat.le_refl _
 have off_B : Off K T (w.heap.size) := off_new HC0.out (Nat.le_refl _)
 have o0_B : K.w0.heap.size ≤ w.heap.size := Nat.le_trans HC0.out.keep.size (Nat.le_refl _)
 have HCw1 := zh (HC0.out.kp0 Kw1)
 have HSw1 := zh (HS0.out.loc Kw1 (by simp))
 have Rw1_B := zh cw1_B
 clear Kw1 cw1_B l_c l_mf l_ms l_mn HC0 HS0
 refine (counts_at hcn _).mono ?_
 rintro r w' ⟨rfl, hw'⟩
 rw [hw']
 clear hw'
 obtain ⟨l_c, l_mf, l_ms, l_mn⟩ := HCw1.out.lt
 obtain ⟨l_B, xB_0, xB_1, xB_2, xB_3, xB_4, yB_0, yB_1, yB_2, yB_3, yB_4⟩ := cf5 Rw1_B.out
 go_wp2_with fail
 clear l_c l_B xB_0 xB_1 xB_2 xB_3 xB_4 yB_0 yB_1 yB_2 yB_3 yB_4 l_mf l_ms l_mn
 refine (fault_any hK HCw1.out re im 31).mono ?_
 rintro r e2 ⟨T2, ua2, uc2, rfl, hc, hs⟩
 have off2_B := hs.off (h_lt Rw1_B.out) off_B
 have Re2_B := zh (hs.at Rw1_B.out off_B)
 have off_B' := off2_B
 have HCe2 := zh hc
 have HSe2 := zh (HSw1.out.trans hs)
 clear Rw1_B off_B HCw1 HSw1 hc hs
 have off_B := off_B'
 clear off_B' off2_B
 obtain ⟨l_c, l_mf, l_ms, l_mn⟩ := HCe2.out.lt
 have l_B := h_lt Re2_B.out
 go_wp2_with fail
 refine ret_at (v := .tuple #[]) (fun W => Keeps [] e2 W) (by with_reducible repeat (first | exact k0 _ _ | refine kA ?_ _ | refine kD ?_ | refine kS ?_ (by simp) | refine kM ?_ (by simp))) (fun w3 hW => ?_) rfl (fun w3 hW => ?_)
 ·have Kw3 : Keeps [] e2 w3 := hW
  simp [results, Tryz.results77, go_sem]
 ·have Kw3 : Keeps [] e2 w3 := hW
  have Rw3_B := zh (Kw3.at Re2_B.out (by simp))
  have HCw3 := zh (HCe2.out.kp0 Kw3)
  have HSw3 := zh (HSe2.out.loc Kw3 (by simp))
  clear Kw3 l_c l_B l_mf l_ms l_mn Re2_B HCe2 HSe2
  exact ⟨_, _, _, rfl, HCw3.out, HSw3.out⟩

theorem built_m {K : CKey} (hK : CFix K) {T : Nat → Prop} {ua : Option Addr} {uc : Nat} {st : NS} {w : World} (h : CK K T ua uc st w) (kd : Int) (tx : ByteArray) (fm : Nat) (na : Option Addr) (nc re im : Nat) (kids : List Node) {c1 c2 : Nat} (hcn : countsF tx = (c1, c2)) (hn : ¬ kids.length < c1) (hlo : c2 < kids.length) :
  Calls Tryz.prog 77 #[.pointer (some ⟨K.c, 0, none⟩), .agg #[.int .i64 kd, .string tx, .float .f64 fm, .slice na kids.length nc, .complex .f64 re im]] w fun r w' => ∃ T' ua' uc', r = .returned (.tuple #[]) ∧ CK K T' ua' uc' (faultF st re im 31) w' ∧ CStep K T T' w w' := by
 have d1 : ¬ kids.length < c1 := by omega
 have d2 : decide (kids.length < c1) = false := by simp [d1]
 have d3 : ((c2 : Int) < (kids.length : Int)) := by omega
 have d4 : decide (c2 < kids.length) = true := by simp [hlo]
 have HC0 := zh h; have HS0 := zh (CStep.refl K T w)
 clear h
 go_enter Tryz.func77, Tryz.ntmps77
 obtain ⟨l_c, l_mf, l_ms, l_mn⟩ := HC0.out.lt
 go_wp2_with fail
 refine calls_at (fun W => Keeps [] w W ∧ W.heap[w.heap.size]? = some (.cells #[.int .i64 kd, .string tx, .float .f64 fm, .slice na kids.length nc, .complex .f64 re im] 50 (0, 0))) ⟨(by with_reducible repeat (first | exact k0 _ _ | refine kA ?_ _ | refine kD ?_ | refine kS ?_ (by simp) | refine kM ?_ (by simp))), (by simp only [hS, hA, hD, hM, World.size_setCell, World.size_drew, reduceIte, Option.map_some, Obj.put] <;> rfl)⟩ ?_
 rintro w1 ⟨Kw1, cw1_B⟩
 have ⟨n_c_B, n_B_c⟩ := zne l_c
 have ⟨n_mf_B, n_B_mf⟩ := zne l_mf
 have ⟨n_ms_B, n_B_ms⟩ := zne l_ms
 have ⟨n_mn_B, n_B_mn⟩ := zne l_mn
 have o_B : w.heap.size ≤ w.heap.size := Nat.le_refl _
 have off_B : Off K T (w.heap.size) := off_new HC0.out (Nat.le_refl _)
 have o0_B : K.w0.heap.size ≤ w.heap.size := Nat.le_trans HC0.out.keep.size (Nat.le_refl _)
 have HCw1 := zh (HC0.out.kp0 Kw1)
 have HSw1 := zh (HS0.out.loc Kw1 (by simp))
 have Rw1_B := zh cw1_B
 clear Kw1 cw1_B l_c l_mf l_ms l_mn HC0 HS0
 refine (counts_at hcn _).mono ?_
 rintro r w' ⟨rfl, hw'⟩
 rw [hw']
 clear hw'
 obtain ⟨l_c, l_mf, l_ms, l_mn⟩ := HCw1.out.lt
 obtain ⟨l_B, xB_0, xB_1, xB_2, xB_3, xB_4, yB_0, yB_1, yB_2, yB_3, yB_4⟩ := cf5 Rw1_B.out
 go_wp2_with fail
 clear l_c l_B xB_0 xB_1 xB_2 xB_3 xB_4 yB_0 yB_1 yB_2 yB_3 yB_4 l_mf l_ms l_mn
 refine (fault_any hK HCw1.out re im 31).mono ?_
 rintro r e2 ⟨T2, ua2, uc2, rfl, hc, hs⟩
 have off2_B := hs.off (h_lt Rw1_B.out) off_B
 have Re2_B := zh (hs.at Rw1_B.out off_B)
 have off_B' := off2_B
 have HCe2 := zh hc
 have HSe2 := zh (HSw1.out.trans hs)
 clear Rw1_B off_B HCw1 HSw1 hc hs
 have off_B := off_B'
 clear off_B' off2_B
 obtain ⟨l_c, l_mf, l_ms, l_mn⟩ := HCe2.out.lt
 have l_B := h_lt Re2_B.out
 go_wp2_with fail
 refine ret_at (v := .tuple #[]) (fun W => Keeps [] e2 W) (by with_reducible repeat (first | exact k0 _ _ | refine kA ?_ _ | refine kD ?_ | refine kS ?_ (by simp) | refine kM ?_ (by simp))) (fun w3 hW => ?_) rfl (fun w3 hW => ?_)
 ·have Kw3 : Keeps [] e2 w3 := hW
  simp [results, Tryz.results77, go_sem]
 ·have Kw3 : Keeps [] e2 w3 := hW
  have Rw3_B := zh (Kw3.at Re2_B.out (by simp))
  have HCw3 := zh (HCe2.out.kp0 Kw3)
  have HSw3 := zh (HSe2.out.loc Kw3 (by simp))
  clear Kw3 l_c l_B l_mf l_ms l_mn Re2_B HCe2 HSe2
  exact ⟨_, _, _, rfl, HCw3.out, HSw3.out⟩

theorem node_toc {K : CKey} (hK : CFix K) {T : Nat → Prop} {ua : Option Addr} {uc : Nat} {st : NS} {w : World} (h : CK K T ua uc st w) (kd : Int) (tx : ByteArray) (fm : Nat) (na : Option Addr) (nc re im : Nat) (kids : List Node) {st' : NS} (hkd : kd = 19) (hc : ∀ w, CK K T ua uc st w → Calls Tryz.prog 76 #[.pointer (some ⟨K.c, 0, none⟩), .agg #[.int .i64 kd, .string tx, .float .f64 fm, .slice na kids.length nc, .complex .f64 re im]] w fun r w' => ∃ T' ua' uc', r = .returned (.tuple #[]) ∧ CK K T' ua' uc' (st') w' ∧ CStep K T T' w w') :
  Calls Tryz.prog 43 #[.pointer (some ⟨K.c, 0, none⟩), .agg #[.int .i64 kd, .string tx, .float .f64 fm, .slice na kids.length nc, .complex .f64 re im]] w fun r w' => ∃ T' ua' uc', r = .returned (.tuple #[]) ∧ CK K T' ua' uc' (st') w' ∧ CStep K T T' w w' := by
 have e4 : (kd == 4) = false := by simp [hkd]
 have e5 : (kd == 5) = false := by simp [hkd]
 have e11 : (kd == 11) = false := by simp [hkd]
 have e41 : (kd == 41) = false := by simp [hkd]
 have e35 : (kd == 35) = false := by simp [hkd]
 have e20 : (kd == 20) = false := by simp [hkd]
 have e19 : (kd == 19) = true := by simp [hkd]
 have HCC := zh hc
 clear hc hkd
 have HC0 := zh h; have HS0 := zh (CStep.refl K T w)
 clear h
 go_enter Tryz.func43, Tryz.ntmps43
 obtain ⟨l_c, l_mf, l_ms, l_mn⟩ := HC0.out.lt
 go_wp2_with fail
 refine calls_at (fun W => Keeps [] w W ∧ W.heap[w.heap.size]? = some (.cells #[.int .i64 kd, .string tx, .float .f64 fm, .slice na kids.length nc, .complex .f64 re im] 50 (0, 0))) ⟨(by with_reducible repeat (first | exact k0 _ _ | refine kA ?_ _ | refine kD ?_ | refine kS ?_ (by simp) | refine kM ?_ (by simp))), (by simp only [hS, hA, hD, hM, World.size_setCell, World.size_drew, reduceIte, Option.map_some, Obj.put] <;> rfl)⟩ ?_
 rintro w1 ⟨Kw1, cw1_B⟩
 have ⟨n_c_B, n_B_c⟩ := zne l_c
 have ⟨n_mf_B, n_B_mf⟩ := zne l_mf
 have ⟨n_ms_B, n_B_ms⟩ := zne l_ms
 have ⟨n_mn_B, n_B_mn⟩ := zne l_mn
 have o_B : w.heap.size ≤ w.heap.size := Nat.le_refl _
 have off_B : Off K T (w.heap.size) := off_new HC0.out (Nat.le_refl _)
 have o0_B : K.w0.heap.size ≤ w.heap.size := Nat.le_trans HC0.out.keep.size (Nat.le_refl _)
 have HCw1 := zh (HC0.out.kp0 Kw1)
 have HSw1 := zh (HS0.out.loc Kw1 (by simp))
 have Rw1_B := zh cw1_B
 clear Kw1 cw1_B l_c l_mf l_ms l_mn HC0 HS0
 refine (HCC.out _ HCw1.out).mono ?_
 rintro r e2 ⟨T2, ua2, uc2, rfl, hc, hs⟩
 have off2_B := hs.off (h_lt Rw1_B.out) off_B
 have Re2_B := zh (hs.at Rw1_B.out off_B)
 have off_B' := off2_B
 have HCe2 := zh hc
 have HSe2 := zh (HSw1.out.trans hs)
 clear Rw1_B off_B HCw1 HSw1 hc hs
 have off_B := off_B'
 clear off_B' off2_B
 obtain ⟨l_c, l_mf, l_ms, l_mn⟩ := HCe2.out.lt
 have l_B := h_lt Re2_B.out
 go_wp2_with fail
 refine ret_at (v := .tuple #[]) (fun W => Keeps [] e2 W) (by with_reducible repeat (first | exact k0 _ _ | refine kA ?_ _ | refine kD ?_ | refine kS ?_ (by simp) | refine kM ?_ (by simp))) (fun w3 hW => ?_) rfl (fun w3 hW => ?_)
 ·have Kw3 : Keeps [] e2 w3 := hW
  simp [results, Tryz.results43, go_sem]
 ·have Kw3 : Keeps [] e2 w3 := hW
  have Rw3_B := zh (Kw3.at Re2_B.out (by simp))
  have HCw3 := zh (HCe2.out.kp0 Kw3)
  have HSw3 := zh (HSe2.out.loc Kw3 (by simp))
  clear Kw3 l_c l_B l_mf l_ms l_mn Re2_B HCe2 HSe2
  exact ⟨_, _, _, rfl, HCw3.out, HSw3.out⟩

theorem node_tob {K : CKey} (hK : CFix K) {T : Nat → Prop} {ua : Option Addr} {uc : Nat} {st : NS} {w : World} (h : CK K T ua uc st w) (kd : Int) (tx : ByteArray) (fm : Nat) (na : Option Addr) (nc re im : Nat) (kids : List Node) {st' : NS} (hkd : kd = 20) (hc : ∀ w, CK K T ua uc st w → Calls Tryz.prog 77 #[.pointer (some ⟨K.c, 0, none⟩), .agg #[.int .i64 kd, .string tx, .float .f64 fm, .slice na kids.length nc, .complex .f64 re im]] w fun r w' => ∃ T' ua' uc', r = .returned (.tuple #[]) ∧ CK K T' ua' uc' (st') w' ∧ CStep K T T' w w') :
  Calls Tryz.prog 43 #[.pointer (some ⟨K.c, 0, none⟩), .agg #[.int .i64 kd, .string tx, .float .f64 fm, .slice na kids.length nc, .complex .f64 re im]] w fun r w' => ∃ T' ua' uc', r = .returned (.tuple #[]) ∧ CK K T' ua' uc' (st') w' ∧ CStep K T T' w w' := by
 have e4 : (kd == 4) = false := by simp [hkd]
 have e5 : (kd == 5) = false := by simp [hkd]
 have e11 : (kd == 11) = false := by simp [hkd]
 have e41 : (kd == 41) = false := by simp [hkd]
 have e35 : (kd == 35) = false := by simp [hkd]
 have e19 : (kd == 19) = false := by simp [hkd]
 have e20 : (kd == 20) = true := by simp [hkd]
 have HCC := zh hc
 clear hc hkd
 have HC0 := zh h; have HS0 := zh (CStep.refl K T w)
 clear h
 go_enter Tryz.func43, Tryz.ntmps43
 obtain ⟨l_c, l_mf, l_ms, l_mn⟩ := HC0.out.lt
 go_wp2_with fail
 refine calls_at (fun W => Keeps [] w W ∧ W.heap[w.heap.size]? = some (.cells #[.int .i64 kd, .string tx, .float .f64 fm, .slice na kids.length nc, .complex .f64 re im] 50 (0, 0))) ⟨(by with_reducible repeat (first | exact k0 _ _ | refine kA ?_ _ | refine kD ?_ | refine kS ?_ (by simp) | refine kM ?_ (by simp))), (by simp only [hS, hA, hD, hM, World.size_setCell, World.size_drew, reduceIte, Option.map_some, Obj.put] <;> rfl)⟩ ?_
 rintro w1 ⟨Kw1, cw1_B⟩
 have ⟨n_c_B, n_B_c⟩ := zne l_c
 have ⟨n_mf_B, n_B_mf⟩ := zne l_mf
 have ⟨n_ms_B, n_B_ms⟩ := zne l_ms
 have ⟨n_mn_B, n_B_mn⟩ := zne l_mn
 have o_B : w.heap.size ≤ w.heap.size := Nat.le_refl _
 have off_B : Off K T (w.heap.size) := off_new HC0.out (Nat.le_refl _)
 have o0_B : K.w0.heap.size ≤ w.heap.size := Nat.le_trans HC0.out.keep.size (Nat.le_refl _)
 have HCw1 := zh (HC0.out.kp0 Kw1)
 have HSw1 := zh (HS0.out.loc Kw1 (by simp))
 have Rw1_B := zh cw1_B
 clear Kw1 cw1_B l_c l_mf l_ms l_mn HC0 HS0
 refine (HCC.out _ HCw1.out).mono ?_
 rintro r e2 ⟨T2, ua2, uc2, rfl, hc, hs⟩
 have off2_B := hs.off (h_lt Rw1_B.out) off_B
 have Re2_B := zh (hs.at Rw1_B.out off_B)
 have off_B' := off2_B
 have HCe2 := zh hc
 have HSe2 := zh (HSw1.out.trans hs)
 clear Rw1_B off_B HCw1 HSw1 hc hs
 have off_B := off_B'
 clear off_B' off2_B
 obtain ⟨l_c, l_mf, l_ms, l_mn⟩ := HCe2.out.lt
 have l_B := h_lt Re2_B.out
 go_wp2_with fail
 refine ret_at (v := .tuple #[]) (fun W => Keeps [] e2 W) (by with_reducible repeat (first | exact k0 _ _ | refine kA ?_ _ | refine kD ?_ | refine kS ?_ (by simp) | refine kM ?_ (by simp))) (fun w3 hW => ?_) rfl (fun w3 hW => ?_)
 ·have Kw3 : Keeps [] e2 w3 := hW
  simp [results, Tryz.results43, go_sem]
 ·have Kw3 : Keeps [] e2 w3 := hW
  have Rw3_B := zh (Kw3.at Re2_B.out (by simp))
  have HCw3 := zh (HCe2.out.kp0 Kw3)
  have HSw3 := zh (HSe2.out.loc Kw3 (by simp))
  clear Kw3 l_c l_B l_mf l_ms l_mn Re2_B HCe2 HSe2
  exact ⟨_, _, _, rfl, HCw3.out, HSw3.out⟩

theorem nodeStep_mk (g : ProgP) (rec : NRec) (st : NS) (kd : Int) (tx : ByteArray) (fm : Nat) (kids : List Node) (re im : Nat) : nodeStep g rec st (.mk kd tx fm kids re im) =
  if 1000000 < kids.length then none
  else if kd = 19 then
   if flook g tx = 0 then some (faultF st re im 28)
   else if (paramsOf g (flook g tx)).length < kids.length then some (faultF st re im 31)
   else callF g rec (flook g tx) (paramsOf g (flook g tx)) kids st
  else if kd = 20 then
   if kids.length < (countsF tx).1 ∨ (countsF tx).2 < kids.length then some (faultF st re im 31) else none
  else if kd = 11 ∨ kd = 41 ∨ kd = 32 ∨ kd = 33 ∨ kd = 34 ∨ kd = 35 then none
  else (preF g st (.mk kd tx fm kids re im)).bind fun st => kidsF rec kids st := rfl
theorem flookA_lt {s : ByteArray} : ∀ {l : List FuncP} {i k : Nat}, flookA s l i = k + 1 → k < i + l.length
 | [], _, _, h => by cases h
 | f :: l, i, k, h => by
  unfold flookA at h
  split at h
  ·simp at h; simp; omega
  ·have := flookA_lt h; simp; omega
theorem flook_lt {g : ProgP} {s : ByteArray} {i : Nat} (h : flook g s = i + 1) : i < g.funcs.length := by
 have := flookA_lt h; omega
/-- A node, by the plain step. -/
theorem node_step {K : CKey} (hK : CFix K) {rec : NRec} (hrec : NodeC K rec) : NodeC K (nodeStep K.g rec) := by
 intro st n st' v hn hv T ua uc w h
 obtain ⟨kd, tx, fm, kids, re, im⟩ := n
 cases hv with
 | mk hk =>
  obtain ⟨na, nc, rfl⟩ := hk.shape
  rw [nodeStep_mk] at hn
  split at hn
  ·cases hn
  rename_i hkl
  have hkl : kids.length ≤ 1000000 := by omega
  split at hn
  ·rename_i h19
   refine node_toc hK h kd tx fm na nc re im kids h19 fun w h => ?_
   split at hn
   ·rename_i h0
    obtain rfl : faultF st re im 28 = st' := by simpa using hn
    exact call_0 hK h kd tx fm na nc re im kids (fn := flook K.g tx) rfl h0
   ·rename_i h0
    obtain ⟨i, hi⟩ : ∃ i, flook K.g tx = i + 1 := ⟨flook K.g tx - 1, by omega⟩
    have hlt : i < K.g.funcs.length := flook_lt hi
    have hp : paramsOf K.g (flook K.g tx) = K.g.funcs[i].params := by unfold paramsOf; rw [hi, Nat.add_sub_cancel, List.getElem?_eq_getElem hlt]
    rw [hp] at hn
    split at hn
    ·rename_i hl
     obtain rfl : faultF st re im 31 = st' := by simpa using hn
     exact call_1 hK h kd tx fm na nc re im kids (fn := flook K.g tx) rfl hi hlt hl
    ·rename_i hl
     exact call_2 hK h kd tx fm na nc re im kids (fn := flook K.g tx) rfl hi hlt (by omega) hkl hk hrec hn
  ·rename_i h19
   split at hn
   ·rename_i h20
    obtain ⟨c1, c2, hcn⟩ : ∃ a b, countsF tx = (a, b) := ⟨_, _, rfl⟩
    rw [hcn] at hn
    split at hn
    ·rename_i hl
     obtain rfl : faultF st re im 31 = st' := by simpa using hn
     refine node_tob hK h kd tx fm na nc re im kids h20 fun w h => ?_
     by_cases hlo : kids.length < c1
     ·exact built_l hK h kd tx fm na nc re im kids hcn hlo
     ·exact built_m hK h kd tx fm na nc re im kids hcn hlo (hl.resolve_left hlo)
    ·cases hn
   ·rename_i h20
    split at hn
    ·cases hn
    rename_i hno
    simp only [not_or] at hno
    obtain ⟨h11, h41, h32, h33, h34, h35⟩ := hno
    simp only [Option.bind_eq_some_iff] at hn
    obtain ⟨s1, hpre, hcf⟩ := hn
    by_cases h4 : kd = 4
    ·exact node_v hK h kd tx fm na nc re im kids h4 h19 h20 h11 h41 h32 h33 h34 h35 hkl hk hrec hpre hcf
    by_cases h5 : kd = 5
    ·exact node_x hK h kd tx fm na nc re im kids h5 h19 h20 h11 h41 h32 h33 h34 h35 hkl hk hrec hpre hcf
    exact node_o hK h kd tx fm na nc re im kids h4 h5 h19 h20 h11 h41 h32 h33 h34 h35 hkl hk hrec hpre hcf
theorem node_any {K : CKey} (hK : CFix K) : ∀ fu, NodeC K (nodeN K.g fu)
 | 0 => fun _ _ _ _ h => by cases h
 | fu + 1 => node_step hK (node_any hK fu)
end Go.Proofs.YtkfillfkbhbbjaaGreatDoor
namespace Go.Proofs.YtkfillfkbhbbjaaGreatDoor
open Go.RowKit

theorem nAll_ok {fu : Nat} {g : ProgP} {st st1 : NS} (h : nAll fu g st = some st1) : (st.e ≠ 0 ∧ st1 = st) ∨ (st.e = 0 ∧ ∃ s, allR (nodeN g fu) g.rules st = some s ∧ allF (nodeN g fu) 0 g.funcs s = some st1) := by
 unfold nAll at h
 by_cases h0 : st.e = 0
 ·rw [if_pos h0] at h
  simp only [Option.bind_eq_bind, Option.bind_eq_some_iff] at h
  exact .inr ⟨h0, h⟩
 ·rw [if_neg h0] at h
  exact .inl ⟨h0, (Option.some.inj h).symm⟩
theorem nArr_ok {st st1 : NS} (h : nArr st = some st1) : (st.e ≠ 0 ∧ st1 = st) ∨ (st.e = 0 ∧ ∃ k, kindsF st = some k ∧ arraysF k st.uses st = some st1) := by
 unfold nArr at h
 by_cases h0 : st.e = 0
 ·rw [if_pos h0] at h
  simp only [Option.bind_eq_bind, Option.bind_eq_some_iff] at h
  exact .inr ⟨h0, h⟩
 ·rw [if_neg h0] at h
  exact .inl ⟨h0, (Option.some.inj h).symm⟩
theorem arraysF_keep {k : Kinds} : ∀ {l : List Use} {st st1 : NS}, arraysF k l st = some st1 → st1.uses = st.uses ∧ st1.seen = st.seen
 | [], st, st1, h => by simp only [arraysF, Option.some.injEq] at h; rw [h]; exact ⟨rfl, rfl⟩
 | u :: l, st, st1, h => by
  unfold arraysF at h
  simp only [Option.bind_eq_bind, Option.bind_eq_some_iff] at h
  obtain ⟨b, _, h⟩ := h
  have := arraysF_keep h
  cases b with
  | true =>
   rw [if_pos rfl] at this
   unfold faultF at this
   split at this <;> exact this
  | false => rw [if_neg (by simp)] at this; exact this

theorem check_any {fu : Nat} {g : ProgP} {t : Told} {w : World} {S : Nat → Prop} {v : Value} (hv : ProgV w S g v) (hx : nCheck fu g = some t) :
  Calls Tryz.prog 9 #[v] w fun r w' => ∃ iv, r = .returned (.tuple #[iv, .complex .f64 t.re t.im, .int .i64 t.e]) ∧ InfoV w' (fun g => w.heap.size ≤ g) t.info iv ∧ Keeps [] w w' := by
 obtain ⟨ra, rc, fa, fc, rfl, hr, hf⟩ := hv
 unfold nCheck at hx
 by_cases hsb : smallB g = false
 ·rw [if_pos hsb] at hx; cases hx
 rw [if_neg hsb] at hx
 simp only [Option.bind_eq_bind, Option.bind_eq_some_iff] at hx
 obtain ⟨st1, hall, hx⟩ := hx
 by_cases hbig : 100000 < st1.uses.length ∨ 100000 < st1.seen.length
 ·rw [if_pos hbig] at hx; cases hx
 rw [if_neg hbig] at hx
 simp only [Option.bind_eq_some_iff] at hx
 obtain ⟨st2, harr, hrest⟩ := hx
 have hsb2 : smallB g = true := by cases h : smallB g with | true => rfl | false => exact absurd h hsb
 unfold smallB at hsb2
 simp only [Bool.and_eq_true, decide_eq_true_eq, List.all_eq_true] at hsb2
 obtain ⟨⟨⟨hs1, hs2⟩, hs3⟩, hs4⟩ := hsb2
 have HPR := zh (hr.to ruleL (T := fun _ => True) fun _ _ => trivial); have HPF := zh (hf.to funcL (T := fun _ => True) fun _ _ => trivial)
 clear hr hf hsb
 go_enter Tryz.func9, Tryz.ntmps9
 go_upto_region 1 with fail
 refine wp_at (fun W => Keeps [] w W ∧ W.heap[w.heap.size]? = some (.cells #[.slice ra g.rules.length rc, .slice fa g.funcs.length fc] 33 (0, 0)) ∧ W.heap[w.heap.size + 1]? = some (.cells #[.slice none 0 0, .slice none 0 0, .slice none 0 0] 25 (0, 0))) ⟨(by with_reducible repeat (first | exact k0 _ _ | refine kA ?_ _ | refine kD ?_ | refine kS ?_ (by simp) | refine kM ?_ (by simp))), (by simp only [hS, hA, hD, hM, World.size_alloc, World.size_setCell, World.size_drew, size_mset, Nat.add_right_cancel_iff, Nat.left_eq_add, Nat.add_eq_left, Nat.reduceEqDiff, Nat.add_assoc, Nat.reduceAdd, Nat.one_ne_zero, Nat.zero_ne_one, reduceIte, Option.map_some, Obj.put] <;> rfl), (by simp only [hS, hA, hD, hM, World.size_alloc, World.size_setCell, World.size_drew, size_mset, Nat.add_right_cancel_iff, Nat.left_eq_add, Nat.add_eq_left, Nat.reduceEqDiff, Nat.add_assoc, Nat.reduceAdd, Nat.one_ne_zero, Nat.zero_ne_one, reduceIte, Option.map_some, Obj.put] <;> rfl)⟩ ?_
 rintro w1 ⟨k1, cP, cR⟩
 obtain ⟨RR, hRR⟩ : ∃ x, x = w.heap.size + 1 := ⟨_, rfl⟩
 rw [← hRR] at cR ⊢
 have o_R : w.heap.size ≤ RR := by omega
 have HK1 := zh k1; have HRR := zh cR
 have HPR1 := zh (HPR.out.kp ruleL k1 (by simp)); have HPF1 := zh (HPF.out.kp funcL k1 (by simp))
 obtain ⟨l_P, xP_0, xP_1, yP_0, yP_1⟩ := cf2 cP
 have hm65 : ∀ W : World, (Instr.makeMap 65 none).run Tryz.prog W = .ok (.map (some W.heap.size)) (W.alloc (.map #[] 0)) := fun _ => rfl
 have hm66 : ∀ W : World, (Instr.makeMap 66 none).run Tryz.prog W = .ok (.map (some W.heap.size)) (W.alloc (.map #[] 0)) := fun _ => rfl
 have hm67 : ∀ W : World, (Instr.makeMap 67 none).run Tryz.prog W = .ok (.map (some W.heap.size)) (W.alloc (.map #[] 0)) := fun _ => rfl
 clear k1 cP cR HPR HPF
 go_wp2_with fail
 refine calls_at (fun W => Keeps [] w1 W ∧ W.heap[w1.heap.size]? = some (.map #[] 0) ∧ W.heap[w1.heap.size + 1]? = some (.map #[] 0) ∧ W.heap[w1.heap.size + 2]? = some (.map #[] 0) ∧ W.heap[w1.heap.size + 3]? = some (.cells #[.slice ra g.rules.length rc, .slice fa g.funcs.length fc, .map (some w1.heap.size), .int .i64 0, .int .i64 0, .int .i64 0, .slice none 0 0, .map (some (w1.heap.size + 1)), .map (some (w1.heap.size + 2)), .complex .f64 0 0, .int .i64 0] 70 (0, 0))) ⟨(by with_reducible repeat (first | exact k0 _ _ | refine kA ?_ _ | refine kD ?_ | refine kS ?_ (by simp) | refine kM ?_ (by simp))), (by simp only [hS, hA, hD, hM, World.size_alloc, World.size_setCell, World.size_drew, size_mset, Nat.add_right_cancel_iff, Nat.left_eq_add, Nat.add_eq_left, Nat.reduceEqDiff, Nat.add_assoc, Nat.reduceAdd, Nat.one_ne_zero, Nat.zero_ne_one, reduceIte, Option.map_some, Obj.put] <;> rfl), (by simp only [hS, hA, hD, hM, World.size_alloc, World.size_setCell, World.size_drew, size_mset, Nat.add_right_cancel_iff, Nat.left_eq_add, Nat.add_eq_left, Nat.reduceEqDiff, Nat.add_assoc, Nat.reduceAdd, Nat.one_ne_zero, Nat.zero_ne_one, reduceIte, Option.map_some, Obj.put] <;> rfl), (by simp only [hS, hA, hD, hM, World.size_alloc, World.size_setCell, World.size_drew, size_mset, Nat.add_right_cancel_iff, Nat.left_eq_add, Nat.add_eq_left, Nat.reduceEqDiff, Nat.add_assoc, Nat.reduceAdd, Nat.one_ne_zero, Nat.zero_ne_one, reduceIte, Option.map_some, Obj.put] <;> rfl), (by simp only [hS, hA, hD, hM, World.size_alloc, World.size_setCell, World.size_drew, size_mset, Nat.add_right_cancel_iff, Nat.left_eq_add, Nat.add_eq_left, Nat.reduceEqDiff, Nat.add_assoc, Nat.reduceAdd, Nat.one_ne_zero, Nat.zero_ne_one, reduceIte, Option.map_some, Obj.put] <;> rfl)⟩ ?_
 rintro w2 ⟨k2, rmf, rms, rmn, rc2⟩
 clear l_P xP_0 xP_1 yP_0 yP_1 hm65 hm66 hm67
 obtain ⟨K, hKd⟩ : ∃ K : CKey, K = ⟨g, w1, w1.heap.size + 3, w1.heap.size, w1.heap.size + 1, w1.heap.size + 2, ra, rc, fa, fc⟩ := ⟨_, rfl⟩
 have eg : K.g = g := by rw [hKd]
 have e0 : K.w0 = w1 := by rw [hKd]
 have ec : w1.heap.size + 3 = K.c := by rw [hKd]
 have hK : CFix K := by
  subst hKd
  exact ⟨HPR1.out, HPF1.out, Nat.le_add_right _ _, Nat.le_refl _, Nat.le_add_right _ _, Nat.le_add_right _ _, by simp, by show g.funcs.length ≤ _; omega, hs2, fun f hf => Nat.le_trans (hs3 f hf) (by omega), hs4⟩
 have hrow : w2.heap[K.c]? = some (ckC K ns0 none 0) := by subst hKd; exact rc2
 have hrmf : w2.heap[K.mf]? = some (.map #[] 0) := by subst hKd; exact rmf
 have hrms : w2.heap[K.ms]? = some (.map #[] 0) := by subst hKd; exact rms
 have hrmn : w2.heap[K.mn]? = some (.map #[] 0) := by subst hKd; exact rmn
 have hk01 : Keeps [] K.w0 w2 := by rw [e0]; exact k2
 have HKR : Hid (∀ {W W' : World}, Keeps [] K.w0 W → Keeps [RR] W W' → Keeps [] w W') := zh fun h1 h2 => HK1.out.trans (fp' := [RR]) ((e0 ▸ h1.weaken (fp' := [RR]) (by simp)).trans h2 (fun _ h => .inl h)) (by simpa using o_R)
 have HRR0 : Hid (K.w0.heap[RR]? = some (.cells #[.slice none 0 0, .slice none 0 0, .slice none 0 0] 25 (0, 0))) := zh (by rw [e0]; exact HRR.out)
 have hs5 : ∀ f ∈ K.g.funcs, f.params.length ≤ 100000 := by rw [eg]; exact hs3
 have hs6 : K.g.funcs.length ≤ 100000 := by rw [eg]; exact hs1
 have HS := zh (And.intro hs5 hs6)
 rw [ec]
 rw [← eg] at hall hrest
 clear hKd e0 ec k2 rc2 rmf rms rmn HPR1 HPF1 HRR HK1 hs1 hs2 hs3 hs4 hs5 hs6 eg hRR
 have HAL := zh hall; have HAR := zh harr; have HRS := zh hrest
 obtain ⟨st0, hst0⟩ : ∃ x, headsA K.g 0 K.g.funcs ns0 = x := ⟨_, rfl⟩
 rw [hst0] at HAL
 clear hall harr hrest
 refine (heads_any hK hk01 hrow hrmf hrms hrmn hst0).mono ?_
 rintro r w3 ⟨T3, ua3, uc3, rfl, hc⟩
 have HC3 := zh hc
 clear hk01 hrow hrmf hrms hrmn hc hst0
 rcases nAll_ok HAL.out with ⟨h0, rfl⟩ | ⟨h0, s1, hr1, hf1⟩
 ·have d0 : (st1.e == 0) = false := beq_false_of_ne h0
  have d1 : (st1.e != 0) = true := by simp [h0]
  rcases nArr_ok HAR.out with ⟨-, rfl⟩ | ⟨h1, -⟩
  rotate_left
  ·exact absurd h1 h0
  obtain ⟨l_c, xc_0, xc_1, xc_2, xc_3, xc_4, xc_5, xc_6, xc_7, xc_8, xc_9, xc_10, yc_0, yc_1, yc_2, yc_3, yc_4, yc_5, yc_6, yc_7, yc_8, yc_9, yc_10⟩ := cf11 HC3.out.row
  go_upto_region 8 with fail
  have rR : w3.heap[RR]? = some (.cells #[.slice none 0 0, .slice none 0 0, .slice none 0 0] 25 (0, 0)) := HC3.out.keep.at HRR0.out (by simp)
  obtain ⟨l_R, xR_0, xR_1, xR_2, yR_0, yR_1, yR_2⟩ := cf3 rR
  go_cut [3, 4] (fun s3 s4 W => s3 = .complex .f64 st2.re st2.im ∧ s4 = .int .i64 st2.e ∧ Keeps [RR] w3 W ∧ W.heap[RR]? = some (.cells #[.slice none 0 0, .slice none 0 0, .slice none 0 0] 25 (0, 0)))
  case first =>
   go_region
   all_goals
    go_wp2_with fail
    go_meet
    case rel => exact ⟨rfl, rfl, (by with_reducible repeat (first | exact k0 _ _ | refine kA ?_ _ | refine kD ?_ | refine kS ?_ (by simp) | refine kM ?_ (by simp))), (by simp only [hS, hA, hD, hM, World.size_alloc, World.size_setCell, World.size_drew, size_mset, Nat.add_right_cancel_iff, Nat.left_eq_add, Nat.add_eq_left, Nat.reduceEqDiff, Nat.add_assoc, Nat.reduceAdd, Nat.one_ne_zero, Nat.zero_ne_one, reduceIte, Option.map_some, Obj.put, rR] <;> rfl)⟩
  case rest =>
   obtain ⟨rfl, rfl, k8, c8⟩ := hcut
   generalize wc = w8 at *
   have h8 := zh c8; have hk8 := zh k8
   have HCX := HC3
   clear l_c xc_0 yc_0 xc_1 yc_1 xc_2 yc_2 xc_3 yc_3 xc_4 yc_4 xc_5 yc_5 xc_6 yc_6 xc_7 yc_7 xc_8 yc_8 xc_9 yc_9 xc_10 yc_10 HC3 rR l_R xR_0 xR_1 xR_2 yR_0 yR_1 yR_2 c8 k8
   go_wp2_with fail
   refine ret_at (v := .tuple #[.agg #[.slice none 0 0, .slice none 0 0, .slice none 0 0], .complex .f64 st2.re st2.im, .int .i64 st2.e]) (fun W => Keeps [] w8 W) (by with_reducible repeat (first | exact k0 _ _ | refine kA ?_ _ | refine kD ?_ | refine kS ?_ (by simp) | refine kM ?_ (by simp))) (fun W hW => ?_) rfl (fun W hW => ?_)
   ·have hW : Keeps [] w8 W := hW
    have rq := hW.at h8.out (by simp)
    have q0 := cell_of_heap rq 0
    have q1 := cell_of_heap rq 1
    have q2 := cell_of_heap rq 2
    simp at q0 q1 q2
    simp [results, Tryz.results9, go_sem, q0, q1, q2]
   ·have hW : Keeps [] w8 W := hW
    have hrest := HRS.out
    rw [nRest, if_pos h0] at hrest
    simp only [Option.some.injEq] at hrest
    subst hrest
    exact ⟨_, rfl, ⟨none, 0, none, 0, none, 0, rfl, SliceR.nil, SliceR.nil, SliceR.nil⟩, HKR.out HCX.out.keep (hk8.out.trans hW (by simp))⟩
 ·have HR1 := zh hr1; have HF1 := zh hf1
  clear hr1 hf1
  have d0 : (st0.e == 0) = true := by simp [h0]
  obtain ⟨l_c, xc_0, xc_1, xc_2, xc_3, xc_4, xc_5, xc_6, xc_7, xc_8, xc_9, xc_10, yc_0, yc_1, yc_2, yc_3, yc_4, yc_5, yc_6, yc_7, yc_8, yc_9, yc_10⟩ := cf11 HC3.out.row
  go_wp2_with fail
  clear l_c xc_0 yc_0 xc_1 yc_1 xc_2 yc_2 xc_3 yc_3 xc_4 yc_4 xc_5 yc_5 xc_6 yc_6 xc_7 yc_7 xc_8 yc_8 xc_9 yc_9 xc_10 yc_10
  refine (all_any hK HC3.out (node_any hK fu) HR1.out HF1.out).mono ?_
  rintro r w4 ⟨T4, ua4, uc4, rfl, hc, -⟩
  have HC4 := zh hc
  clear hc HC3 HR1 HF1 d0 h0
  rcases nArr_ok HAR.out with ⟨h0, rfl⟩ | ⟨h0, k1, hkf, har⟩
  ·have d0 : (st2.e == 0) = false := beq_false_of_ne h0
   have d1 : (st2.e != 0) = true := by simp [h0]
   obtain ⟨l_c, xc_0, xc_1, xc_2, xc_3, xc_4, xc_5, xc_6, xc_7, xc_8, xc_9, xc_10, yc_0, yc_1, yc_2, yc_3, yc_4, yc_5, yc_6, yc_7, yc_8, yc_9, yc_10⟩ := cf11 HC4.out.row
   go_upto_region 8 with fail
   have rR : w4.heap[RR]? = some (.cells #[.slice none 0 0, .slice none 0 0, .slice none 0 0] 25 (0, 0)) := HC4.out.keep.at HRR0.out (by simp)
   obtain ⟨l_R, xR_0, xR_1, xR_2, yR_0, yR_1, yR_2⟩ := cf3 rR
   go_cut [3, 4] (fun s3 s4 W => s3 = .complex .f64 st2.re st2.im ∧ s4 = .int .i64 st2.e ∧ Keeps [RR] w4 W ∧ W.heap[RR]? = some (.cells #[.slice none 0 0, .slice none 0 0, .slice none 0 0] 25 (0, 0)))
   case first =>
    go_region
    all_goals
     go_wp2_with fail
     go_meet
     case rel => exact ⟨rfl, rfl, (by with_reducible repeat (first | exact k0 _ _ | refine kA ?_ _ | refine kD ?_ | refine kS ?_ (by simp) | refine kM ?_ (by simp))), (by simp only [hS, hA, hD, hM, World.size_alloc, World.size_setCell, World.size_drew, size_mset, Nat.add_right_cancel_iff, Nat.left_eq_add, Nat.add_eq_left, Nat.reduceEqDiff, Nat.add_assoc, Nat.reduceAdd, Nat.one_ne_zero, Nat.zero_ne_one, reduceIte, Option.map_some, Obj.put, rR] <;> rfl)⟩
   case rest =>
    obtain ⟨rfl, rfl, k8, c8⟩ := hcut
    generalize wc = w8 at *
    have h8 := zh c8; have hk8 := zh k8
    have HCX := HC4
    clear l_c xc_0 yc_0 xc_1 yc_1 xc_2 yc_2 xc_3 yc_3 xc_4 yc_4 xc_5 yc_5 xc_6 yc_6 xc_7 yc_7 xc_8 yc_8 xc_9 yc_9 xc_10 yc_10 HC4 rR l_R xR_0 xR_1 xR_2 yR_0 yR_1 yR_2 c8 k8
    go_wp2_with fail
    refine ret_at (v := .tuple #[.agg #[.slice none 0 0, .slice none 0 0, .slice none 0 0], .complex .f64 st2.re st2.im, .int .i64 st2.e]) (fun W => Keeps [] w8 W) (by with_reducible repeat (first | exact k0 _ _ | refine kA ?_ _ | refine kD ?_ | refine kS ?_ (by simp) | refine kM ?_ (by simp))) (fun W hW => ?_) rfl (fun W hW => ?_)
    ·have hW : Keeps [] w8 W := hW
     have rq := hW.at h8.out (by simp)
     have q0 := cell_of_heap rq 0
     have q1 := cell_of_heap rq 1
     have q2 := cell_of_heap rq 2
     simp at q0 q1 q2
     simp [results, Tryz.results9, go_sem, q0, q1, q2]
    ·have hW : Keeps [] w8 W := hW
     have hrest := HRS.out
     rw [nRest, if_pos h0] at hrest
     simp only [Option.some.injEq] at hrest
     subst hrest
     exact ⟨_, rfl, ⟨none, 0, none, 0, none, 0, rfl, SliceR.nil, SliceR.nil, SliceR.nil⟩, HKR.out HCX.out.keep (hk8.out.trans hW (by simp))⟩
  ·have d0 : (st1.e == 0) = true := by simp [h0]
   have HKF := zh hkf; have HAF := zh har
   obtain ⟨hu2, hn2⟩ := arraysF_keep har
   have hul : st1.uses.length ≤ 100000 := by omega
   have hnl : st1.seen.length ≤ 100000 := by omega
   clear hkf har hbig h0
   obtain ⟨l_c, xc_0, xc_1, xc_2, xc_3, xc_4, xc_5, xc_6, xc_7, xc_8, xc_9, xc_10, yc_0, yc_1, yc_2, yc_3, yc_4, yc_5, yc_6, yc_7, yc_8, yc_9, yc_10⟩ := cf11 HC4.out.row
   go_wp2_with fail
   clear l_c xc_0 yc_0 xc_1 yc_1 xc_2 yc_2 xc_3 yc_3 xc_4 yc_4 xc_5 yc_5 xc_6 yc_6 xc_7 yc_7 xc_8 yc_8 xc_9 yc_9 xc_10 yc_10
   refine (arrays_any hK HC4.out HKF.out (by omega) HAF.out).mono ?_
   rintro r w5 ⟨T5, ua5, uc5, rfl, hc, -⟩
   have HC5 := zh hc
   clear hc HC4 HKF HAF d0
   by_cases h0 : st2.e = 0
   ·have d1 : (st2.e != 0) = false := by simp [h0]
    have hrest := HRS.out
    rw [nRest, if_neg (by simp [h0])] at hrest
    simp only [Option.bind_eq_bind, Option.bind_eq_some_iff, Option.some.injEq] at hrest
    obtain ⟨k2, hkf, x, hxi, rfl⟩ := hrest
    have HKF := zh hkf; have HXI := zh hxi
    clear hkf hxi h0 HRS
    obtain ⟨l_c, xc_0, xc_1, xc_2, xc_3, xc_4, xc_5, xc_6, xc_7, xc_8, xc_9, xc_10, yc_0, yc_1, yc_2, yc_3, yc_4, yc_5, yc_6, yc_7, yc_8, yc_9, yc_10⟩ := cf11 HC5.out.row
    go_wp2_with fail
    clear l_c xc_0 yc_0 xc_1 yc_1 xc_2 yc_2 xc_3 yc_3 xc_4 yc_4 xc_5 yc_5 xc_6 yc_6 xc_7 yc_7 xc_8 yc_8 xc_9 yc_9 xc_10 yc_10
    refine (info_any hK HC5.out HKF.out (by rw [hu2]; omega) (by rw [hn2]; exact hnl) HS.out.2 HS.out.1 HXI.out).mono ?_
    rintro r w6 ⟨v, rfl, hiv, hk⟩
    obtain ⟨sa, sc, aa, ac, pa, pc, rfl, hi1, hi2, hi3⟩ := hiv
    have rR : w6.heap[RR]? = some (.cells #[.slice none 0 0, .slice none 0 0, .slice none 0 0] 25 (0, 0)) := hk.at (HC5.out.keep.at HRR0.out (by simp)) (by simp)
    obtain ⟨l_R, xR_0, xR_1, xR_2, yR_0, yR_1, yR_2⟩ := cf3 rR
    have HI1 := zh hi1; have HI2 := zh hi2; have HI3 := zh hi3; have HK6 := zh (HC5.out.keep.trans hk (by simp))
    have hR5 : RR < w5.heap.size := h_lt (HC5.out.keep.at HRR0.out (by simp))
    have hw5 : w.heap.size ≤ w5.heap.size := Nat.le_trans o_R (Nat.le_of_lt hR5)
    clear hi1 hi2 hi3 hk HC5
    obtain ⟨n1, hn1⟩ : ∃ n, n = x.scalars.length := ⟨_, rfl⟩
    obtain ⟨n2, hn3⟩ : ∃ n, n = x.arrays.length := ⟨_, rfl⟩
    obtain ⟨n3, hn4⟩ : ∃ n, n = x.params.length := ⟨_, rfl⟩
    rw [← hn1, ← hn3, ← hn4]
    have HN := zh (And.intro hn1 (And.intro hn3 hn4))
    clear hn1 hn3 hn4
    go_wp2_with fail
    refine ret_at (v := .tuple #[.agg #[.slice sa n1 sc, .slice aa n2 ac, .slice pa n3 pc], .complex .f64 0 0, .int .i64 0]) (fun W => Keeps [RR] w6 W ∧ W.heap[RR]? = some (.cells #[.slice sa n1 sc, .slice aa n2 ac, .slice pa n3 pc] 25 (0, 0))) ⟨(by with_reducible repeat (first | exact k0 _ _ | refine kA ?_ _ | refine kD ?_ | refine kS ?_ (by simp) | refine kM ?_ (by simp))), (by simp only [hS, hA, hD, hM, World.size_alloc, World.size_setCell, World.size_drew, size_mset, Nat.add_right_cancel_iff, Nat.left_eq_add, Nat.add_eq_left, Nat.reduceEqDiff, Nat.add_assoc, Nat.reduceAdd, Nat.one_ne_zero, Nat.zero_ne_one, reduceIte, Option.map_some, Obj.put, rR] <;> rfl)⟩ (fun W hW => ?_) rfl (fun W hW => ?_)
    ·obtain ⟨hW, rq⟩ := hW
     have q0 := cell_of_heap rq 0
     have q1 := cell_of_heap rq 1
     have q2 := cell_of_heap rq 2
     simp at q0 q1 q2
     simp [results, Tryz.results9, go_sem, q0, q1, q2]
    ·obtain ⟨hW, -⟩ := hW
     obtain ⟨hn1, hn3, hn4⟩ := HN.out
     subst hn1 hn3 hn4
     have hd : ∀ y ∈ [RR], ¬ w5.heap.size ≤ y := fun y hy hc => by simp at hy; subst hy; omega
     exact ⟨_, rfl, ⟨sa, sc, aa, ac, pa, pc, rfl, (HI1.out.kp strL hW hd).to strL fun y hy => Nat.le_trans hw5 hy, (HI2.out.kp strL hW hd).to strL fun y hy => Nat.le_trans hw5 hy, (HI3.out.kp flagsL hW hd).to flagsL fun y hy => Nat.le_trans hw5 hy⟩, HKR.out HK6.out hW⟩
   ·have d1 : (st2.e != 0) = true := by simp [h0]
    obtain ⟨l_c, xc_0, xc_1, xc_2, xc_3, xc_4, xc_5, xc_6, xc_7, xc_8, xc_9, xc_10, yc_0, yc_1, yc_2, yc_3, yc_4, yc_5, yc_6, yc_7, yc_8, yc_9, yc_10⟩ := cf11 HC5.out.row
    go_upto_region 8 with fail
    have rR : w5.heap[RR]? = some (.cells #[.slice none 0 0, .slice none 0 0, .slice none 0 0] 25 (0, 0)) := HC5.out.keep.at HRR0.out (by simp)
    obtain ⟨l_R, xR_0, xR_1, xR_2, yR_0, yR_1, yR_2⟩ := cf3 rR
    go_cut [3, 4] (fun s3 s4 W => s3 = .complex .f64 st2.re st2.im ∧ s4 = .int .i64 st2.e ∧ Keeps [RR] w5 W ∧ W.heap[RR]? = some (.cells #[.slice none 0 0, .slice none 0 0, .slice none 0 0] 25 (0, 0)))
    case first =>
     go_region
     all_goals
      go_wp2_with fail
      go_meet
      case rel => exact ⟨rfl, rfl, (by with_reducible repeat (first | exact k0 _ _ | refine kA ?_ _ | refine kD ?_ | refine kS ?_ (by simp) | refine kM ?_ (by simp))), (by simp only [hS, hA, hD, hM, World.size_alloc, World.size_setCell, World.size_drew, size_mset, Nat.add_right_cancel_iff, Nat.left_eq_add, Nat.add_eq_left, Nat.reduceEqDiff, Nat.add_assoc, Nat.reduceAdd, Nat.one_ne_zero, Nat.zero_ne_one, reduceIte, Option.map_some, Obj.put, rR] <;> rfl)⟩
    case rest =>
     obtain ⟨rfl, rfl, k8, c8⟩ := hcut
     generalize wc = w8 at *
     have h8 := zh c8; have hk8 := zh k8
     have HCX := HC5
     clear l_c xc_0 yc_0 xc_1 yc_1 xc_2 yc_2 xc_3 yc_3 xc_4 yc_4 xc_5 yc_5 xc_6 yc_6 xc_7 yc_7 xc_8 yc_8 xc_9 yc_9 xc_10 yc_10 HC5 rR l_R xR_0 xR_1 xR_2 yR_0 yR_1 yR_2 c8 k8
     go_wp2_with fail
     refine ret_at (v := .tuple #[.agg #[.slice none 0 0, .slice none 0 0, .slice none 0 0], .complex .f64 st2.re st2.im, .int .i64 st2.e]) (fun W => Keeps [] w8 W) (by with_reducible repeat (first | exact k0 _ _ | refine kA ?_ _ | refine kD ?_ | refine kS ?_ (by simp) | refine kM ?_ (by simp))) (fun W hW => ?_) rfl (fun W hW => ?_)
     ·have hW : Keeps [] w8 W := hW
      have rq := hW.at h8.out (by simp)
      have q0 := cell_of_heap rq 0
      have q1 := cell_of_heap rq 1
      have q2 := cell_of_heap rq 2
      simp at q0 q1 q2
      simp [results, Tryz.results9, go_sem, q0, q1, q2]
     ·have hW : Keeps [] w8 W := hW
      have hrest := HRS.out
      rw [nRest, if_pos h0] at hrest
      simp only [Option.some.injEq] at hrest
      subst hrest
      exact ⟨_, rfl, ⟨none, 0, none, 0, none, 0, rfl, SliceR.nil, SliceR.nil, SliceR.nil⟩, HKR.out HCX.out.keep (hk8.out.trans hW (by simp))⟩
end Go.Proofs.YtkfillfkbhbbjaaGreatDoor
namespace Go.Proofs.YtkfillfkbhbbjaaGreatDoor
open Go.RowKit

theorem told_of {α : Type} {s : ByteArray} {F : Told → α} {x : α} (h : ((parseF s).bind fun g => (nCheck 60 g).map F) = some x) : ∃ g t, parseF s = some g ∧ nCheck 60 g = some t ∧ F t = x := by
 rw [Option.bind_eq_some_iff] at h
 obtain ⟨g, hg, h⟩ := h
 rw [Option.map_eq_some_iff] at h
 obtain ⟨t, ht, h⟩ := h
 exact ⟨g, t, hg, ht, h⟩
theorem sliceR_one {w : World} {x : ByteArray} {G : Nat} {f : Nat × Nat} (h : w.heap[G]? = some (.cells #[.string x] 9 f)) : SliceR StrE w (fun _ => True) [x] (.slice (some ⟨G, 0, none⟩) 1 1) :=
 ⟨some ⟨G, 0, none⟩, 1, rfl, Nat.le_refl _, fun _ => ⟨G, 0, [.string x], rfl, trivial, h_lt h, .cons (c := [.string x]) rfl .nil, fun j u hj => by rw [cell_of_heap h]; simpa using hj⟩⟩
def strsF : List ByteArray → List ByteArray → Bool
 | [], [] => true
 | a :: x, b :: y => if same a b then strsF x y else false
 | _, _ => false
theorem SliceR.str {w : World} {S : Nat → Prop} {l : List ByteArray} {a : Option Addr} {n cap : Nat} (h : SliceR StrE w S l (.slice a n cap)) {i : Nat} (hi : i < l.length) : ∃ g o, a = some ⟨g, o, none⟩ ∧ w.cell? ⟨g, o + i, none⟩ = some (.string l[i]) := by
 obtain ⟨g, o, cap', c, hv, _, _, hc, hx⟩ := h.get strL hi
 injection hv with h1 _ _
 have hc' : c = [.string l[i]] := hc
 subst hc'
 exact ⟨g, o, h1, by simpa using hx 0 _ rfl⟩
theorem strsF_len : ∀ {a b : List ByteArray}, a.length ≠ b.length → strsF a b = false
 | [], [], h => absurd rfl h
 | [], _ :: _, _ => rfl
 | _ :: _, [], _ => rfl
 | a :: x, b :: y, h => by
  unfold strsF
  split
  ·exact strsF_len (by simpa using h)
  ·rfl
theorem check_lit {fu : Nat} {g : ProgP} {t : Told} {w : World} {S : Nat → Prop} {v : Value} (hv : ProgV w S g v) (hx : nCheck fu g = some t) {m1 m2 m3 : Nat} (h1 : m1 = t.info.scalars.length) (h2 : m2 = t.info.arrays.length) (h3 : m3 = t.info.params.length) :
  Calls Tryz.prog 9 #[v] w fun r w' => ∃ sa sc aa ac pa pc, r = .returned (.tuple #[.agg #[.slice sa m1 sc, .slice aa m2 ac, .slice pa m3 pc], .complex .f64 t.re t.im, .int .i64 t.e]) ∧ SliceR StrE w' (fun _ => True) t.info.scalars (.slice sa m1 sc) ∧ SliceR StrE w' (fun _ => True) t.info.arrays (.slice aa m2 ac) ∧ SliceR FlagsE w' (fun _ => True) t.info.params (.slice pa m3 pc) ∧ Keeps [] w w' := by
 subst h1; subst h2; subst h3
 exact (check_any hv hx).mono fun r w' ⟨iv, h1, ⟨sa, sc, aa, ac, pa, pc, h2, h3, h4, h5⟩, h6⟩ => ⟨sa, sc, aa, ac, pa, pc, by rw [h1, h2], h3.to strL (fun _ _ => trivial), h4.to strL (fun _ _ => trivial), h5.to flagsL (fun _ _ => trivial), h6⟩
theorem flags_at {w : World} {S : Nat → Prop} {l : List (List Bool)} {pa : Option Addr} {n pc : Nat} (h : SliceR FlagsE w S l (.slice pa n pc)) {i : Nat} (hi : i < l.length) : ∃ g o a m cap, pa = some ⟨g, o, none⟩ ∧ w.cell? ⟨g, o + i, none⟩ = some (.slice a m cap) ∧ m = l[i].length ∧ SliceR BoolE w S l[i] (.slice a m cap) := by
 obtain ⟨g, o, cap', c, hv, _, _, ⟨a, cap, hc, hs⟩, hx⟩ := h.get flagsL hi
 injection hv with h1 _ _
 subst hc
 exact ⟨g, o, a, _, cap, h1, by simpa using hx 0 _ rfl, rfl, hs⟩
theorem bools_at {w : World} {S : Nat → Prop} {l : List Bool} {pa : Option Addr} {n pc : Nat} (h : SliceR BoolE w S l (.slice pa n pc)) {i : Nat} (hi : i < l.length) : ∃ g o, pa = some ⟨g, o, none⟩ ∧ w.cell? ⟨g, o + i, none⟩ = some (.bool l[i]) := by
 obtain ⟨g, o, cap', c, hv, _, _, hc, hx⟩ := h.get boolL hi
 injection hv with h1 _ _
 have hc' : c = [.bool l[i]] := hc
 subst hc'
 exact ⟨g, o, h1, by simpa using hx 0 _ rfl⟩
def StrI (la lb : List ByteArray) (n : Nat) (w : World) (g : Nat) (j : Value) (W : World) : Prop := ∃ k : Nat, j = .int .i64 k ∧ k ≤ n ∧ g + k = n + 1 ∧ strsF (la.drop k) (lb.drop k) = strsF la lb ∧ Keeps [] w W

theorem strs_any {la lb : List ByteArray} {a b : Option Addr} {na nb ca cb : Nat} {S S' : Nat → Prop} {w : World} (ha : SliceR StrE w S la (.slice a na ca)) (hb : SliceR StrE w S' lb (.slice b nb cb)) (hna : na = la.length) (hnb : nb = lb.length) (hl : la.length ≤ 1000000) :
  Calls Tryz.prog 17 #[.slice a na ca, .slice b nb cb] w fun r w' => r = .returned (.bool (strsF la lb)) ∧ Keeps [] w w' := by
 have HA := zh ha; have HB := zh hb
 clear ha hb
 by_cases hne : na = nb
 rotate_left
 ·have d0 : ((na : Int) != (nb : Int)) = true := by simp; omega
  have d1 : (na != nb) = true := by simp [hne]
  rw [strsF_len (by rw [← hna, ← hnb]; exact hne)]
  clear hna hnb hl
  go_enter Tryz.func17, Tryz.ntmps17
  go_wp2_with fail
  refine ret_at (v := .bool false) (fun W => Keeps [] w W) (by with_reducible repeat (first | exact k0 _ _ | refine kA ?_ _ | refine kD ?_ | refine kS ?_ (by simp) | refine kM ?_ (by simp))) (fun W hW => ?_) rfl (fun W hW => ?_)
  ·simp [results, Tryz.results17, go_sem]
  ·exact ⟨rfl, hW⟩
 subst hne
 have d0 : ((na : Int) != (na : Int)) = false := by simp
 have HNA := zh hna; have HNB := zh hnb
 have hl2 : na ≤ 1000000 := by omega
 clear hna hnb hl
 go_enter Tryz.func17, Tryz.ntmps17
 go_wp2_with fail
 go_loopg [5] (na + 1) (fun g j wr => StrI la lb na w g j wr)
 case atStart => exact ⟨0, rfl, Nat.zero_le _, rfl, rfl, (by with_reducible repeat (first | exact k0 _ _ | refine kA ?_ _ | refine kD ?_ | refine kS ?_ (by simp) | refine kM ?_ (by simp)))⟩
 case round =>
  obtain ⟨k, rfl, hk1, hk2, hs, hk⟩ := hrel
  have HK := zh hk
  clear hk
  by_cases hlt : k < na
  ·have hla : k < la.length := by rw [← HNA.out]; exact hlt
   have hlb : k < lb.length := by rw [← HNB.out]; exact hlt
   obtain ⟨g, o, rfl, hc1⟩ := (HA.out.kp strL HK.out (by simp)).str hla
   obtain ⟨g2, o2, rfl, hc2⟩ := (HB.out.kp strL HK.out (by simp)).str hlb
   have lg := lt_cell hc1
   have lg2 := lt_cell hc2
   rw [List.drop_eq_getElem_cons hla, List.drop_eq_getElem_cons hlb, strsF] at hs
   generalize la[k] = x at *
   generalize lb[k] = y at *
   clear hla hlb
   cases gk with
   | zero => omega
   | succ f =>
    by_cases hxy : x = y
    ·subst hxy
     rw [if_pos (same_iff.2 rfl)] at hs
     have HS := zh hs
     clear hs
     have d2 : (x.toList == x.toList) = true := by simp
     have d3 : (x.toList != x.toList) = false := by simp
     go_upto_region 6 with fail
     go_region
     all_goals
      go_wp2_with fail
      go_roundg f
      case measure => omega
      case rel => exact ⟨k + 1, by first | rfl | (simp; done) | (simp; omega), by omega, by omega, HS.out, HK.out.trans (fp' := []) (by with_reducible repeat (first | exact k0 _ _ | refine kA ?_ _ | refine kD ?_ | refine kS ?_ (by simp) | refine kM ?_ (by simp))) (by simp)⟩
    ·have hsf : same x y = false := by cases h : same x y with | false => rfl | true => exact absurd (same_iff.1 h) hxy
     rw [if_neg (by rw [hsf]; simp)] at hs
     have d3 : (x.toList == y.toList) = false := by rw [same_eq]; exact hsf
     have d4 : (x.toList != y.toList) = true := by unfold bne; rw [d3]; rfl
     have HS := zh hs
     clear hs hxy hsf
     go_upto_region 6 with fail
     go_region
     all_goals
      go_wp2_with fail
      refine ret_at (v := .bool false) (fun W => Keeps [] wr W) (by with_reducible repeat (first | exact k0 _ _ | refine kA ?_ _ | refine kD ?_ | refine kS ?_ (by simp) | refine kM ?_ (by simp))) (fun W hW => ?_) rfl (fun W hW => ?_)
      ·simp [results, Tryz.results17, go_sem]
      ·exact ⟨by rw [← HS.out], HK.out.trans hW (by simp)⟩
  ·have hke : k = na := by omega
   rw [hke, HNA.out, List.drop_length, ← HNA.out, HNB.out, List.drop_length] at hs
   have HS := zh hs
   clear hs
   go_wp2_with fail
   refine ret_at (v := .bool true) (fun W => Keeps [] wr W) (by with_reducible repeat (first | exact k0 _ _ | refine kA ?_ _ | refine kD ?_ | refine kS ?_ (by simp) | refine kM ?_ (by simp))) (fun W hW => ?_) rfl (fun W hW => ?_)
   ·simp [results, Tryz.results17, go_sem]
   ·exact ⟨by rw [← HS.out]; rfl, HK.out.trans hW (by simp)⟩
theorem parsed_any {s : ByteArray} {g : ProgP} {w : World} (hg : Gl w) (hx : parseF s = some g) :
  Calls Tryz.prog 10 #[.string s] w fun r w' => ∃ ra n1 rc fa n2 fc, r = .returned (.agg #[.slice ra n1 rc, .slice fa n2 fc]) ∧ ProgV w' (fun g => w.heap.size ≤ g) g (.agg #[.slice ra n1 rc, .slice fa n2 fc]) ∧ Keeps [] w w' := by
 have HX := zh hx; have HG := zh hg
 clear hx hg
 go_enter Tryz.func10, Tryz.ntmps10
 go_wp2_with fail
 refine calls_at (fun W => Keeps [] w W ∧ W.heap[w.heap.size]? = some (.cells #[.slice none 0 0, .slice none 0 0] 33 (0, 0))) ⟨(by with_reducible repeat (first | exact k0 _ _ | refine kA ?_ _ | refine kD ?_ | refine kS ?_ (by simp) | refine kM ?_ (by simp))), (by simp only [hS, hA, hD, hM, World.size_alloc, World.size_setCell, World.size_drew, size_mset, Nat.add_right_cancel_iff, Nat.left_eq_add, Nat.add_eq_left, Nat.reduceEqDiff, Nat.add_assoc, Nat.reduceAdd, Nat.one_ne_zero, Nat.zero_ne_one, reduceIte, Option.map_some, Obj.put] <;> rfl)⟩ ?_
 rintro w1 ⟨k1, cR⟩
 refine (parse_any (HG.out.keep k1 (by simp)) HX.out).mono ?_
 rintro r w2 ⟨v, rfl, hp, hk⟩
 obtain ⟨ra, rc, fa, fc, rfl, h1, h2⟩ := hp
 have rR := hk.at cR (by simp)
 have hw1 : w.heap.size < w1.heap.size := h_lt cR
 have HK1 := zh (k1.trans hk (by simp))
 obtain ⟨n1, hn1⟩ : ∃ n, n = g.rules.length := ⟨_, rfl⟩
 obtain ⟨n2, hn2⟩ : ∃ n, n = g.funcs.length := ⟨_, rfl⟩
 rw [← hn1, ← hn2]
 have HN := zh (And.intro hn1 hn2); have H1 := zh h1; have H2 := zh h2
 clear hn1 hn2 h1 h2 hk k1 cR
 obtain ⟨l_R, xR_0, xR_1, yR_0, yR_1⟩ := cf2 rR
 go_wp2_with fail
 refine ret_at (v := .agg #[.slice ra n1 rc, .slice fa n2 fc]) (fun W => Keeps [w.heap.size] w2 W ∧ W.heap[w.heap.size]? = some (.cells #[.slice ra n1 rc, .slice fa n2 fc] 33 (0, 0))) ⟨(by with_reducible repeat (first | exact k0 _ _ | refine kA ?_ _ | refine kD ?_ | refine kS ?_ (by simp) | refine kM ?_ (by simp))), (by simp only [hS, hA, hD, hM, World.size_alloc, World.size_setCell, World.size_drew, size_mset, Nat.add_right_cancel_iff, Nat.left_eq_add, Nat.add_eq_left, Nat.reduceEqDiff, Nat.add_assoc, Nat.reduceAdd, Nat.one_ne_zero, Nat.zero_ne_one, reduceIte, Option.map_some, Obj.put, rR, Nat.ne_of_lt l_R, Nat.ne_of_gt l_R] <;> rfl)⟩ (fun W hW => ?_) rfl (fun W hW => ?_)
 ·obtain ⟨hW, rq⟩ := hW
  have q0 := cell_of_heap rq 0
  have q1 := cell_of_heap rq 1
  simp at q0 q1
  simp [results, Tryz.results10, go_sem, q0, q1]
 ·obtain ⟨hW, -⟩ := hW
  obtain ⟨hn1, hn2⟩ := HN.out
  subst hn1 hn2
  have hd : ∀ y ∈ [w.heap.size], ¬ w1.heap.size ≤ y := fun y hy hc => by simp at hy; subst hy; omega
  exact ⟨ra, _, rc, fa, _, fc, rfl, ⟨ra, rc, fa, fc, rfl, (H1.out.kp ruleL hW hd).to ruleL fun y hy => Nat.le_trans (Nat.le_of_lt hw1) hy, (H2.out.kp funcL hW hd).to funcL fun y hy => Nat.le_trans (Nat.le_of_lt hw1) hy⟩, HK1.out.trans hW (by simp)⟩
end Go.Proofs.YtkfillfkbhbbjaaGreatDoor
namespace Go.Proofs.YtkfillfkbhbbjaaGreatDoor
open Go.RowKit
theorem told_k1 : ∃ g t, parseF ⟨#[123, 32, 97, 91, 36, 49, 93, 43, 43, 59, 32, 110, 32, 61, 32, 110, 32, 43, 32, 49, 32, 125]⟩ = some g ∧ nCheck 60 g = some t ∧ (t.e, t.re, t.im, t.info.scalars, t.info.arrays, t.info.params) = (0, 0, 0, [bs [110]], [bs [97]], []) := told_of (by kernel_rfl)
theorem told_k2 : ∃ g t, parseF ⟨#[66, 69, 71, 73, 78, 32, 123, 32, 110, 101, 120, 116, 32, 125]⟩ = some g ∧ nCheck 60 g = some t ∧ (t.e, t.re, t.im, t.info.scalars, t.info.arrays, t.info.params) = (32, 4607182418800017408, 4621256167635550208, [], [], []) := told_of (by kernel_rfl)

theorem known_any {w : World} (hg : Gl w) : Calls Tryz.prog 11 #[] w fun r w' => r = .returned (.bool true) ∧ Keeps [] w w' := by
 obtain ⟨gk1, ⟨⟨sck1, ark1, psk1⟩, rek1, imk1, ek1⟩, hpk1, hnk1, hFk1⟩ := told_k1
 simp only [Prod.mk.injEq] at hFk1
 obtain ⟨rfl, rfl, rfl, rfl, rfl, rfl⟩ := hFk1
 have HPk1 := zh hpk1; have HNk1 := zh hnk1
 clear hpk1 hnk1
 obtain ⟨gk2, ⟨⟨sck2, ark2, psk2⟩, rek2, imk2, ek2⟩, hpk2, hnk2, hFk2⟩ := told_k2
 simp only [Prod.mk.injEq] at hFk2
 obtain ⟨rfl, rfl, rfl, rfl, rfl, rfl⟩ := hFk2
 have HPk2 := zh hpk2; have HNk2 := zh hnk2
 clear hpk2 hnk2
 have HG0 := zh hg; have HK0 := zh (Keeps.refl [] w)
 have hs1 : strsF [bs [110]] [⟨#[110]⟩] = true := by kernel_rfl
 have hs2 : strsF [bs [97]] [⟨#[97]⟩] = true := by kernel_rfl
 have hq1 : FloatKind.f64.format.order 4607182418800017408 4607182418800017408 = some Ordering.eq := by kernel_rfl
 have hq9 : FloatKind.f64.format.order 4621256167635550208 4621256167635550208 = some Ordering.eq := by kernel_rfl
 clear hg
 go_enter Tryz.func11, Tryz.ntmps11
 go_wp2_with fail
 refine (parsed_any HG0.out HPk1.out).mono ?_
 rintro r e1 ⟨ra, rn, rc, fa, fn, fc, rfl, hv, hk⟩
 have HKe1 := zh (HK0.out.trans hk (by simp))
 have HG0_e1 := zh (HG0.out.keep hk (by simp))
 have HV := zh hv
 clear hv
 clear hk HK0 HG0
 go_wp2_with fail
 refine (check_lit HV.out HNk1.out (m1 := 1) (m2 := 1) (m3 := 0) rfl rfl rfl).mono ?_
 rintro r e2 ⟨sak1, sck1, aak1, ack1, pak1, pck1, rfl, hi1, hi2, hi3, hk⟩
 have HKe2 := zh (HKe1.out.trans hk (by simp))
 have HG0_e2 := zh (HG0_e1.out.keep hk (by simp))
 have HSk1 := zh hi1; have HAk1 := zh hi2; have HBk1 := zh hi3
 clear hi1 hi2 hi3 HV
 clear hk HKe1 HG0_e1
 go_wp2_with fail
 refine calls_at (fun W => Keeps [] e2 W ∧ W.heap[e2.heap.size]? = some (.cells #[.slice sak1 1 sck1, .slice aak1 1 ack1, .slice pak1 0 pck1] 25 (0, 0))) ⟨(by with_reducible repeat (first | exact k0 _ _ | refine kA ?_ _ | refine kD ?_ | refine kS ?_ (by simp) | refine kM ?_ (by simp))), (by simp only [hS, hA, hD, hM, World.size_setCell, World.size_drew, reduceIte, Option.map_some, Obj.put] <;> rfl)⟩ ?_
 rintro w3 ⟨Kw3, cw3_I⟩
 have o_I : w.heap.size ≤ e2.heap.size := HKe2.out.size
 have HKw3 := zh (HKe2.out.trans Kw3 (by simp))
 have HG0_w3 := zh (HG0_e2.out.keep Kw3 (by simp))
 have HSk1_w3 := zh (HSk1.out.kp strL Kw3 (by simp))
 have HAk1_w3 := zh (HAk1.out.kp strL Kw3 (by simp))
 have HBk1_w3 := zh (HBk1.out.kp flagsL Kw3 (by simp))
 have Rw3_I := zh cw3_I
 clear Kw3 cw3_I HKe2 HG0_e2 HSk1 HAk1 HBk1
 refine (parsed_any HG0_w3.out HPk2.out).mono ?_
 rintro r e4 ⟨ra, rn, rc, fa, fn, fc, rfl, hv, hk⟩
 have Re4_I := zh (hk.at Rw3_I.out (by simp))
 have HKe4 := zh (HKw3.out.trans hk (by simp))
 have HG0_e4 := zh (HG0_w3.out.keep hk (by simp))
 have HSk1_e4 := zh (HSk1_w3.out.kp strL hk (by simp))
 have HAk1_e4 := zh (HAk1_w3.out.kp strL hk (by simp))
 have HBk1_e4 := zh (HBk1_w3.out.kp flagsL hk (by simp))
 have HV := zh hv
 clear hv
 clear hk Rw3_I HKw3 HG0_w3 HSk1_w3 HAk1_w3 HBk1_w3
 have l_I := h_lt Re4_I.out
 go_wp2_with fail
 clear l_I
 refine (check_lit HV.out HNk2.out (m1 := 0) (m2 := 0) (m3 := 0) rfl rfl rfl).mono ?_
 rintro r e5 ⟨sak2, sck2, aak2, ack2, pak2, pck2, rfl, hi1, hi2, hi3, hk⟩
 have Re5_I := zh (hk.at Re4_I.out (by simp))
 have HKe5 := zh (HKe4.out.trans hk (by simp))
 have HG0_e5 := zh (HG0_e4.out.keep hk (by simp))
 have HSk1_e5 := zh (HSk1_e4.out.kp strL hk (by simp))
 have HAk1_e5 := zh (HAk1_e4.out.kp strL hk (by simp))
 have HBk1_e5 := zh (HBk1_e4.out.kp flagsL hk (by simp))
 have HSk2 := zh hi1; have HAk2 := zh hi2; have HBk2 := zh hi3
 clear hi1 hi2 hi3 HV
 clear hk Re4_I HKe4 HG0_e4 HSk1_e4 HAk1_e4 HBk1_e4
 obtain ⟨l_I, xI_0, xI_1, xI_2, yI_0, yI_1, yI_2⟩ := cf3 Re5_I.out
 have l_I_1 : e2.heap.size < e5.heap.size + 1 := Nat.lt_add_right 1 l_I
 go_wp2_with fail
 refine calls_at (fun W => Keeps [] e5 W ∧ W.heap[e5.heap.size]? = some (.cells #[.slice sak2 0 sck2, .slice aak2 0 ack2, .slice pak2 0 pck2] 25 (0, 0)) ∧ W.heap[e5.heap.size + 1]? = some (.cells #[.string ⟨#[110]⟩] 9 (0, 0))) ⟨(by with_reducible repeat (first | exact k0 _ _ | refine kA ?_ _ | refine kD ?_ | refine kS ?_ (by simp) | refine kM ?_ (by simp))), (by simp only [hS, hA, hD, hM, World.size_alloc, World.size_setCell, World.size_drew, size_mset, Nat.add_right_cancel_iff, Nat.left_eq_add, Nat.add_eq_left, Nat.reduceEqDiff, Nat.add_assoc, Nat.reduceAdd, Nat.one_ne_zero, Nat.zero_ne_one, reduceIte, Option.map_some, Obj.put] <;> rfl), (by simp only [hS, hA, hD, hM, World.size_alloc, World.size_setCell, World.size_drew, size_mset, Nat.add_right_cancel_iff, Nat.left_eq_add, Nat.add_eq_left, Nat.reduceEqDiff, Nat.add_assoc, Nat.reduceAdd, Nat.one_ne_zero, Nat.zero_ne_one, reduceIte, Option.map_some, Obj.put] <;> rfl)⟩ ?_
 rintro w6 ⟨Kw6, cw6_I2, cw6_S⟩
 have ⟨n_I_I2, n_I2_I⟩ := zne l_I
 have o_I2 : w.heap.size ≤ e5.heap.size := HKe5.out.size
 have ⟨n_I_S, n_S_I⟩ := zne (Nat.lt_add_right 1 l_I)
 have n_I2_S : e5.heap.size ≠ e5.heap.size + 1 := by simp
 have n_S_I2 : e5.heap.size + 1 ≠ e5.heap.size := by simp
 have o_S : w.heap.size ≤ e5.heap.size + 1 := Nat.le_trans (HKe5.out.size) (Nat.le_add_right _ 1)
 have Rw6_I := zh (Kw6.at Re5_I.out (by simp))
 have HKw6 := zh (HKe5.out.trans Kw6 (by simp))
 have HG0_w6 := zh (HG0_e5.out.keep Kw6 (by simp))
 have HSk1_w6 := zh (HSk1_e5.out.kp strL Kw6 (by simp))
 have HAk1_w6 := zh (HAk1_e5.out.kp strL Kw6 (by simp))
 have HBk1_w6 := zh (HBk1_e5.out.kp flagsL Kw6 (by simp))
 have HSk2_w6 := zh (HSk2.out.kp strL Kw6 (by simp))
 have HAk2_w6 := zh (HAk2.out.kp strL Kw6 (by simp))
 have HBk2_w6 := zh (HBk2.out.kp flagsL Kw6 (by simp))
 have Rw6_I2 := zh cw6_I2
 have Rw6_S := zh cw6_S
 clear Kw6 cw6_I2 cw6_S l_I l_I_1 xI_0 xI_1 xI_2 yI_0 yI_1 yI_2 Re5_I HKe5 HG0_e5 HSk1_e5 HAk1_e5 HBk1_e5 HSk2 HAk2 HBk2
 refine (strs_any HSk1_w6.out (sliceR_one Rw6_S.out) rfl rfl (by simp)).mono ?_
 rintro r e7 ⟨rfl, hk⟩
 have Re7_I := zh (hk.at Rw6_I.out (by simp))
 have Re7_I2 := zh (hk.at Rw6_I2.out (by simp))
 have Re7_S := zh (hk.at Rw6_S.out (by simp))
 have HKe7 := zh (HKw6.out.trans hk (by simp))
 have HG0_e7 := zh (HG0_w6.out.keep hk (by simp))
 have HSk1_e7 := zh (HSk1_w6.out.kp strL hk (by simp))
 have HAk1_e7 := zh (HAk1_w6.out.kp strL hk (by simp))
 have HBk1_e7 := zh (HBk1_w6.out.kp flagsL hk (by simp))
 have HSk2_e7 := zh (HSk2_w6.out.kp strL hk (by simp))
 have HAk2_e7 := zh (HAk2_w6.out.kp strL hk (by simp))
 have HBk2_e7 := zh (HBk2_w6.out.kp flagsL hk (by simp))
 clear hk Rw6_I Rw6_I2 Rw6_S HKw6 HG0_w6 HSk1_w6 HAk1_w6 HBk1_w6 HSk2_w6 HAk2_w6 HBk2_w6
 obtain ⟨l_I, xI_0, xI_1, xI_2, yI_0, yI_1, yI_2⟩ := cf3 Re7_I.out
 have l_I2 := h_lt Re7_I2.out
 have l_S := h_lt Re7_S.out
 go_wp2_with fail
 refine calls_at (fun W => Keeps [] e7 W ∧ W.heap[e7.heap.size]? = some (.cells #[.string ⟨#[97]⟩] 9 (0, 0))) ⟨(by with_reducible repeat (first | exact k0 _ _ | refine kA ?_ _ | refine kD ?_ | refine kS ?_ (by simp) | refine kM ?_ (by simp))), (by simp only [hS, hA, hD, hM, World.size_setCell, World.size_drew, reduceIte, Option.map_some, Obj.put] <;> rfl)⟩ ?_
 rintro w8 ⟨Kw8, cw8_S2⟩
 have ⟨n_I_S2, n_S2_I⟩ := zne l_I
 have ⟨n_I2_S2, n_S2_I2⟩ := zne l_I2
 have ⟨n_S_S2, n_S2_S⟩ := zne l_S
 have o_S2 : w.heap.size ≤ e7.heap.size := HKe7.out.size
 have Rw8_I := zh (Kw8.at Re7_I.out (by simp))
 have Rw8_I2 := zh (Kw8.at Re7_I2.out (by simp))
 have Rw8_S := zh (Kw8.at Re7_S.out (by simp))
 have HKw8 := zh (HKe7.out.trans Kw8 (by simp))
 have HG0_w8 := zh (HG0_e7.out.keep Kw8 (by simp))
 have HSk1_w8 := zh (HSk1_e7.out.kp strL Kw8 (by simp))
 have HAk1_w8 := zh (HAk1_e7.out.kp strL Kw8 (by simp))
 have HBk1_w8 := zh (HBk1_e7.out.kp flagsL Kw8 (by simp))
 have HSk2_w8 := zh (HSk2_e7.out.kp strL Kw8 (by simp))
 have HAk2_w8 := zh (HAk2_e7.out.kp strL Kw8 (by simp))
 have HBk2_w8 := zh (HBk2_e7.out.kp flagsL Kw8 (by simp))
 have Rw8_S2 := zh cw8_S2
 clear Kw8 cw8_S2 l_I xI_0 xI_1 xI_2 yI_0 yI_1 yI_2 l_I2 l_S Re7_I Re7_I2 Re7_S HKe7 HG0_e7 HSk1_e7 HAk1_e7 HBk1_e7 HSk2_e7 HAk2_e7 HBk2_e7
 refine (strs_any HAk1_w8.out (sliceR_one Rw8_S2.out) rfl rfl (by simp)).mono ?_
 rintro r e9 ⟨rfl, hk⟩
 have Re9_I := zh (hk.at Rw8_I.out (by simp))
 have Re9_I2 := zh (hk.at Rw8_I2.out (by simp))
 have Re9_S := zh (hk.at Rw8_S.out (by simp))
 have Re9_S2 := zh (hk.at Rw8_S2.out (by simp))
 have HKe9 := zh (HKw8.out.trans hk (by simp))
 have HG0_e9 := zh (HG0_w8.out.keep hk (by simp))
 have HSk1_e9 := zh (HSk1_w8.out.kp strL hk (by simp))
 have HAk1_e9 := zh (HAk1_w8.out.kp strL hk (by simp))
 have HBk1_e9 := zh (HBk1_w8.out.kp flagsL hk (by simp))
 have HSk2_e9 := zh (HSk2_w8.out.kp strL hk (by simp))
 have HAk2_e9 := zh (HAk2_w8.out.kp strL hk (by simp))
 have HBk2_e9 := zh (HBk2_w8.out.kp flagsL hk (by simp))
 clear hk Rw8_I Rw8_I2 Rw8_S Rw8_S2 HKw8 HG0_w8 HSk1_w8 HAk1_w8 HBk1_w8 HSk2_w8 HAk2_w8 HBk2_w8
 have l_I := h_lt Re9_I.out
 have l_I2 := h_lt Re9_I2.out
 have l_S := h_lt Re9_S.out
 have l_S2 := h_lt Re9_S2.out
 go_wp2_with fail
 refine ret_at (v := .bool true) (fun W => Keeps [] e9 W) (by with_reducible repeat (first | exact k0 _ _ | refine kA ?_ _ | refine kD ?_ | refine kS ?_ (by simp) | refine kM ?_ (by simp))) (fun w10 hW => ?_) rfl (fun w10 hW => ?_)
 ·have Kw10 : Keeps [] e9 w10 := hW
  simp [results, Tryz.results11, go_sem]
 ·have Kw10 : Keeps [] e9 w10 := hW
  have Rw10_I := zh (Kw10.at Re9_I.out (by simp))
  have Rw10_I2 := zh (Kw10.at Re9_I2.out (by simp))
  have Rw10_S := zh (Kw10.at Re9_S.out (by simp))
  have Rw10_S2 := zh (Kw10.at Re9_S2.out (by simp))
  have HKw10 := zh (HKe9.out.trans Kw10 (by simp))
  have HG0_w10 := zh (HG0_e9.out.keep Kw10 (by simp))
  have HSk1_w10 := zh (HSk1_e9.out.kp strL Kw10 (by simp))
  have HAk1_w10 := zh (HAk1_e9.out.kp strL Kw10 (by simp))
  have HBk1_w10 := zh (HBk1_e9.out.kp flagsL Kw10 (by simp))
  have HSk2_w10 := zh (HSk2_e9.out.kp strL Kw10 (by simp))
  have HAk2_w10 := zh (HAk2_e9.out.kp strL Kw10 (by simp))
  have HBk2_w10 := zh (HBk2_e9.out.kp flagsL Kw10 (by simp))
  clear Kw10 l_I l_I2 l_S l_S2 Re9_I Re9_I2 Re9_S Re9_S2 HKe9 HG0_e9 HSk1_e9 HAk1_e9 HBk1_e9 HSk2_e9 HAk2_e9 HBk2_e9
  exact ⟨rfl, HKw10.out⟩
end Go.Proofs.YtkfillfkbhbbjaaGreatDoor
