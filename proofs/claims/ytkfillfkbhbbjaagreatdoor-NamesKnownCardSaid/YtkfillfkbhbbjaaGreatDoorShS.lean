/- sort.Strings, laid at this program. Made by a program (mkSh.py). -/
import Derived.Test.YtkfillfkbhbbjaaGreatDoorKinL
import Derived.Test.YtkfillfkbhbbjaaGreatDoorTokE
import Derived.Shelf.Sort.Plain
set_option maxRecDepth 100000
set_option maxHeartbeats 4000000
set_option linter.unusedSimpArgs false
set_option linter.unusedVariables false
namespace Go.Proofs.YtkfillfkbhbbjaaGreatDoor
open Go.RowKit

def KinI1 (K : CKey) (T : Nat → Prop) (ua : Option Addr) (uc : Nat) (st : NS) (w : World) (kb it : Nat) (g : Nat) (W : World) : Prop :=
 ∃ p n, RangeS W it K.mn st.seen p n ∧ g = n + 1 ∧ KindW W kb (fun x => if p.any (spK st x) = true then 1 else 0) ∧ CK K T ua uc st W ∧ Keeps [] w W
def KinI2 (K : CKey) (T : Nat → Prop) (ua : Option Addr) (uc : Nat) (st : NS) (kf : Kinds) (w : World) (kb : Nat) (g : Nat) (j : Value) (W : World) : Prop :=
 ∃ k : Nat, j = .int .i64 k ∧ k ≤ st.uses.length ∧ g + k = st.uses.length + 1 ∧ ∃ kk, kindsU st (st.uses.drop k) kk = some kf ∧ KindW W kb (fun x => kof x kk) ∧ CK K T ua uc st W ∧ Keeps [] w W

theorem kinds_any {K : CKey} (hK : CFix K) {T : Nat → Prop} {ua : Option Addr} {uc : Nat} {st : NS} {w : World} (h : CK K T ua uc st w) {kf : Kinds} (hkf : kindsF st = some kf) (hul : st.uses.length ≤ 1000000) :
  Calls Tryz.prog 44 #[.pointer (some ⟨K.c, 0, none⟩)] w fun r w' => ∃ b, r = .returned (.map (some b)) ∧ w.heap.size ≤ b ∧ KindW w' b (fun x => kof x kf) ∧ Keeps [] w w' := by
 unfold kindsF at hkf
 simp only [Option.bind_eq_bind, Option.bind_eq_some_iff] at hkf
 obtain ⟨k1, hks, hku1⟩ := hkf
 obtain ⟨hroots, hkof⟩ := kindsS_ok hks
 have HU1 := zh hku1; have HRO := zh hroots; have HKO := zh hkof
 clear hks hku1 hroots hkof
 have HC0 := zh h; have HS0 := zh (CStep.refl K T w); have HK0 := zh (Keeps.refl [] w)
 clear h
 have n_kb_mn : w.heap.size ≠ K.mn := fun e => by have := HC0.out.lt; omega
 have n_kb_c : w.heap.size ≠ K.c := fun e => by have := HC0.out.lt; omega
 have n_c_kb := Ne.symm n_kb_c; have n_mn_kb := Ne.symm n_kb_mn
 have n_mf_kb : K.mf ≠ w.heap.size := fun e => by have := HC0.out.lt; omega
 have n_ms_kb : K.ms ≠ w.heap.size := fun e => by have := HC0.out.lt; omega
 have o0_kb : K.w0.heap.size ≤ w.heap.size := HC0.out.keep.size
 have o_kb : w.heap.size ≤ w.heap.size := Nat.le_refl _
 have hmm : (Instr.makeMap 103 none).run Tryz.prog w = .ok (.map (some w.heap.size)) (w.alloc (.map #[] 0)) := rfl
 go_enter Tryz.func44, Tryz.ntmps44
 obtain ⟨l_c, l_mf, l_ms, l_mn⟩ := HC0.out.lt
 go_upto_region 2 with fail
 refine wp_at (fun W => Keeps [] w W ∧ W.heap[w.heap.size]? = some (.map #[] 0)) ⟨(by with_reducible repeat (first | exact k0 _ _ | refine kA ?_ _ | refine kD ?_ | refine kS ?_ (by simp) | refine kM ?_ (by simp))), (by simp only [hS, hA, hD, hM, World.size_setCell, World.size_drew, reduceIte, Option.map_some, Obj.put] <;> rfl)⟩ ?_
 rintro w1 ⟨k1, ck⟩
 have HC1 := zh (HC0.out.kp0 k1); have HCB1 := zh (HC0.out.kp0 k1); have HKB1 := zh (KindW.start ck); have HK1 := zh (HK0.out.trans k1 (by simp))
 have off_kb := off_new HC0.out (Nat.le_refl _)
 have hlk := h_lt ck
 clear ck k1
 obtain ⟨w2, hrun, k2, hsz, hrs⟩ := RangeS.start HC1.out.seen Tryz.underlying67
 have HC2 := zh (HC1.out.kp0 k2); have HKB2 := zh (HKB1.out.keep k2 (by simp)); have HK2 := zh (HK1.out.trans k2 (by simp)); have HR2 := zh hrs
 have hw1 : w.heap.size ≤ w1.heap.size := HK1.out.size
 have off_it := off_new HC0.out hw1
 clear k2 hrs hsz HC1 HKB1 HK1
 obtain ⟨l_c, xc_0, xc_1, xc_2, xc_3, xc_4, xc_5, xc_6, xc_7, xc_8, xc_9, xc_10, yc_0, yc_1, yc_2, yc_3, yc_4, yc_5, yc_6, yc_7, yc_8, yc_9, yc_10⟩ := cf11 (HCB1.out.row)
 go_wp2_with fail
 go_loopg [] (st.seen.length + 1) (fun g wr => KinI1 K T ua uc st w (w.heap.size) (w1.heap.size) g wr)
 case atStart => exact ⟨[], st.seen.length, HR2.out, rfl, HKB2.out.of (fun x => rfl), HC2.out, HK2.out⟩
 case round =>
  have n_kb_it : w.heap.size ≠ w1.heap.size := Nat.ne_of_lt hlk
  have n_it_kb := Ne.symm n_kb_it
  rename World => wo
  obtain ⟨p, n, hrs, hg, hkb, hc, hk⟩ := hrel
  have HCwo := zh hc; have HKBwo := zh hkb; have HKwo := zh hk; have HSwo := zh ((CStep.refl K T w).loc hk (by simp))
  clear hc hkb hk
  rcases hrs.next 0 with ⟨hperm, hrun2⟩ | ⟨t, n2, wn, ht, hn, hrun2, hkn, hszn, hrn⟩
  ·have HOF : Hid (∀ x, (if p.any (spK st x) = true then 1 else 0) = kof x k1) := zh (fun x => by rw [HKO.out x, any_perm hperm]; rfl)
   clear hrs hperm
   have l_kb := HKBwo.out.lt
   obtain ⟨l_c, xc_0, xc_1, xc_2, xc_3, xc_4, xc_5, xc_6, xc_7, xc_8, xc_9, xc_10, yc_0, yc_1, yc_2, yc_3, yc_4, yc_5, yc_6, yc_7, yc_8, yc_9, yc_10⟩ := cf11 HCwo.out.row
   obtain ⟨-, l_mf, l_ms, l_mn⟩ := HCwo.out.lt
   obtain ⟨ua0, hua0⟩ : ∃ x, ua = x := ⟨_, rfl⟩
   have HUA := zh hua0
   rw [hua0] at xc_6
   clear hua0
   go_wp2_with fail
   clear l_c xc_0 xc_1 xc_2 xc_3 xc_4 xc_5 xc_6 xc_7 xc_8 xc_9 xc_10 yc_0 yc_1 yc_2 yc_3 yc_4 yc_5 yc_6 yc_7 yc_8 yc_9 yc_10 l_mf l_ms l_mn l_kb
   go_loopg [34] (st.uses.length + 1) (fun g j wr => KinI2 K T ua uc st kf w (w.heap.size) g j wr)
   case atStart => exact ⟨0, rfl, Nat.zero_le _, rfl, k1, HU1.out, HKBwo.out.of HOF.out, HCwo.out, HKwo.out⟩
   case round =>
    obtain ⟨k, rfl, hk1, hk2, kk, hku, hkb, hc, hk⟩ := hrel
    have HCwr := zh hc; have HKBwr := zh hkb; have HKwr := zh hk; have HSwr := zh ((CStep.refl K T w).loc hk (by simp))
    clear hc hkb hk
    by_cases hlt : k < st.uses.length
    ·obtain ⟨gu, hgu, q0, q1, q2, q3, q4, q5, q6, q7⟩ := CK.use HCwr.out hlt
     have euu := HUA.out.symm.trans hgu
     subst euu
     have lgu : gu < wr.heap.size := lt_cell q0
     rw [List.drop_eq_getElem_cons hlt, kindsU] at hku
     generalize st.uses[k] = u at *
     cases gk with
     | zero => omega
     | succ f =>
      cases hkid : u.kid with
      | true =>
       rw [if_pos (by rw [hkid]; rfl)] at hku
       have l_kb := HKBwr.out.lt
       obtain ⟨l_c, l_mf, l_ms, l_mn⟩ := HCwr.out.lt
       go_wp2_with fail
       go_roundg f
       case measure => omega
       case rel =>
        refine inv_at (fun W => Keeps [] wr W ∧ W.heap[wr.heap.size]? = some (.cells #[.complex .f64 u.re u.im, .int .i64 u.of.1, .string u.of.2, .bool u.array, .int .i64 u.param.1, .string u.param.2, .bool true, .bool u.bad] 106 (0, 0))) ⟨(by with_reducible repeat (first | exact k0 _ _ | refine kA ?_ _ | refine kD ?_ | refine kS ?_ (by simp) | refine kM ?_ (by simp))), (by simp only [hS, hA, hD, hM, World.size_setCell, World.size_drew, reduceIte, Option.map_some, Obj.put] <;> rfl)⟩ ?_
        rintro w71 ⟨Kw71, cw71_U⟩
        have ⟨n_c_U, n_U_c⟩ := zne l_c
        have ⟨n_mf_U, n_U_mf⟩ := zne l_mf
        have ⟨n_ms_U, n_U_ms⟩ := zne l_ms
        have ⟨n_mn_U, n_U_mn⟩ := zne l_mn
        have ⟨n_kb_U, n_U_kb⟩ := zne l_kb
        have o_U : w.heap.size ≤ wr.heap.size := HSwr.out.size
        have off_U : Off K T (wr.heap.size) := off_new HCwr.out (Nat.le_refl _)
        have o0_U : K.w0.heap.size ≤ wr.heap.size := Nat.le_trans HCwr.out.keep.size (Nat.le_refl _)
        have HCw71 := zh (HCwr.out.kp0 Kw71)
        have HSw71 := zh (HSwr.out.loc Kw71 (by simp))
        have HKw71 := zh (HKwr.out.trans Kw71 (by simp))
        have HKkbw71 := zh (HKBwr.out.keep Kw71 (by simp))
        have Rw71_U := zh cw71_U
        clear Kw71 cw71_U l_c l_mf l_ms l_mn l_kb HCwr HSwr HKwr HKBwr
        exact ⟨k + 1, by first | rfl | (simp; done) | (simp; omega), by omega, by omega, _, hku, HKkbw71.out, HCw71.out, HKw71.out⟩
      | false =>
       cases hbad : u.bad with
       | true =>
        rw [if_pos (by rw [hkid, hbad]; rfl)] at hku
        have l_kb := HKBwr.out.lt
        obtain ⟨l_c, l_mf, l_ms, l_mn⟩ := HCwr.out.lt
        go_wp2_with fail
        go_roundg f
        case measure => omega
        case rel =>
         refine inv_at (fun W => Keeps [] wr W ∧ W.heap[wr.heap.size]? = some (.cells #[.complex .f64 u.re u.im, .int .i64 u.of.1, .string u.of.2, .bool u.array, .int .i64 u.param.1, .string u.param.2, .bool false, .bool true] 106 (0, 0))) ⟨(by with_reducible repeat (first | exact k0 _ _ | refine kA ?_ _ | refine kD ?_ | refine kS ?_ (by simp) | refine kM ?_ (by simp))), (by simp only [hS, hA, hD, hM, World.size_setCell, World.size_drew, reduceIte, Option.map_some, Obj.put] <;> rfl)⟩ ?_
         rintro w71 ⟨Kw71, cw71_U⟩
         have ⟨n_c_U, n_U_c⟩ := zne l_c
         have ⟨n_mf_U, n_U_mf⟩ := zne l_mf
         have ⟨n_ms_U, n_U_ms⟩ := zne l_ms
         have ⟨n_mn_U, n_U_mn⟩ := zne l_mn
         have ⟨n_kb_U, n_U_kb⟩ := zne l_kb
         have o_U : w.heap.size ≤ wr.heap.size := HSwr.out.size
         have off_U : Off K T (wr.heap.size) := off_new HCwr.out (Nat.le_refl _)
         have o0_U : K.w0.heap.size ≤ wr.heap.size := Nat.le_trans HCwr.out.keep.size (Nat.le_refl _)
         have HCw71 := zh (HCwr.out.kp0 Kw71)
         have HSw71 := zh (HSwr.out.loc Kw71 (by simp))
         have HKw71 := zh (HKwr.out.trans Kw71 (by simp))
         have HKkbw71 := zh (HKBwr.out.keep Kw71 (by simp))
         have Rw71_U := zh cw71_U
         clear Kw71 cw71_U l_c l_mf l_ms l_mn l_kb HCwr HSwr HKwr HKBwr
         exact ⟨k + 1, by first | rfl | (simp; done) | (simp; omega), by omega, by omega, _, hku, HKkbw71.out, HCw71.out, HKw71.out⟩
       | false =>
        rw [if_neg (by rw [hkid, hbad]; simp)] at hku
        simp only [Option.bind_eq_bind, Option.bind_eq_some_iff] at hku
        obtain ⟨r, hrt, hku⟩ := hku
        have HRT := zh hrt
        clear hrt
        obtain ⟨kn, hkn⟩ : ∃ x, x = kof r kk := ⟨_, rfl⟩
        have HKN := zh hkn
        rw [← hkn] at hku
        clear hkn
        by_cases h0 : kn > 0
        ·rw [if_pos h0] at hku
         have d0 : (0 : Int) < (kn : Int) := by omega
         have d1 : decide (0 < kn) = true := by simp [h0]
         have l_kb := HKBwr.out.lt
         obtain ⟨l_c, l_mf, l_ms, l_mn⟩ := HCwr.out.lt
         go_wp2_with fail
         refine calls_at (fun W => Keeps [] wr W ∧ W.heap[wr.heap.size]? = some (.cells #[.complex .f64 u.re u.im, .int .i64 u.of.1, .string u.of.2, .bool u.array, .int .i64 u.param.1, .string u.param.2, .bool false, .bool false] 106 (0, 0))) ⟨(by with_reducible repeat (first | exact k0 _ _ | refine kA ?_ _ | refine kD ?_ | refine kS ?_ (by simp) | refine kM ?_ (by simp))), (by simp only [hS, hA, hD, hM, World.size_setCell, World.size_drew, reduceIte, Option.map_some, Obj.put] <;> rfl)⟩ ?_
         rintro w71 ⟨Kw71, cw71_U⟩
         have ⟨n_c_U, n_U_c⟩ := zne l_c
         have ⟨n_mf_U, n_U_mf⟩ := zne l_mf
         have ⟨n_ms_U, n_U_ms⟩ := zne l_ms
         have ⟨n_mn_U, n_U_mn⟩ := zne l_mn
         have ⟨n_kb_U, n_U_kb⟩ := zne l_kb
         have o_U : w.heap.size ≤ wr.heap.size := HSwr.out.size
         have off_U : Off K T (wr.heap.size) := off_new HCwr.out (Nat.le_refl _)
         have o0_U : K.w0.heap.size ≤ wr.heap.size := Nat.le_trans HCwr.out.keep.size (Nat.le_refl _)
         have HCw71 := zh (HCwr.out.kp0 Kw71)
         have HSw71 := zh (HSwr.out.loc Kw71 (by simp))
         have HKw71 := zh (HKwr.out.trans Kw71 (by simp))
         have HKkbw71 := zh (HKBwr.out.keep Kw71 (by simp))
         have Rw71_U := zh cw71_U
         clear Kw71 cw71_U l_c l_mf l_ms l_mn l_kb HCwr HSwr HKwr HKBwr
         refine (root_any HCw71.out HRT.out).mono ?_
         rintro r e72 ⟨rfl, hk⟩
         have Re72_U := zh (hk.at Rw71_U.out (by simp))
         have HCe72 := zh (HCw71.out.kp0 hk)
         have HSe72 := zh (HSw71.out.loc hk (by simp))
         have HKe72 := zh (HKw71.out.trans hk (by simp))
         have HKkbe72 := zh (HKkbw71.out.keep hk (by simp))
         clear hk Rw71_U HCw71 HSw71 HKw71 HKkbw71
         have l_kb := HKkbe72.out.lt
         obtain ⟨l_c, l_mf, l_ms, l_mn⟩ := HCe72.out.lt
         have l_U := h_lt Re72_U.out
         have hlk2 := HKkbe72.out.look r (n := kn) HKN.out
         go_wp2_with fail
         go_roundg f
         case measure => omega
         case rel =>
          exact ⟨k + 1, by first | rfl | (simp; done) | (simp; omega), by omega, by omega, _, hku, HKkbe72.out, HCe72.out, HKe72.out⟩
        ·rw [if_neg h0] at hku
         have hz : kn = 0 := by omega
         have d0 : decide (0 < kn) = false := by simp [hz]
         cases harr : u.array with
         | true =>
          rw [harr, if_pos rfl] at hku
          have HOF : Hid (∀ x, (if x = r then 2 else kof x kk) = kof x ((r, 2) :: kk)) := zh (fun x => by rw [kof]; by_cases h : x = r <;> simp [h, teq_iff])
          have l_kb := HKBwr.out.lt
          obtain ⟨l_c, l_mf, l_ms, l_mn⟩ := HCwr.out.lt
          go_wp2_with fail
          refine calls_at (fun W => Keeps [] wr W ∧ W.heap[wr.heap.size]? = some (.cells #[.complex .f64 u.re u.im, .int .i64 u.of.1, .string u.of.2, .bool true, .int .i64 u.param.1, .string u.param.2, .bool false, .bool false] 106 (0, 0))) ⟨(by with_reducible repeat (first | exact k0 _ _ | refine kA ?_ _ | refine kD ?_ | refine kS ?_ (by simp) | refine kM ?_ (by simp))), (by simp only [hS, hA, hD, hM, World.size_setCell, World.size_drew, reduceIte, Option.map_some, Obj.put] <;> rfl)⟩ ?_
          rintro w71 ⟨Kw71, cw71_U⟩
          have ⟨n_c_U, n_U_c⟩ := zne l_c
          have ⟨n_mf_U, n_U_mf⟩ := zne l_mf
          have ⟨n_ms_U, n_U_ms⟩ := zne l_ms
          have ⟨n_mn_U, n_U_mn⟩ := zne l_mn
          have ⟨n_kb_U, n_U_kb⟩ := zne l_kb
          have o_U : w.heap.size ≤ wr.heap.size := HSwr.out.size
          have off_U : Off K T (wr.heap.size) := off_new HCwr.out (Nat.le_refl _)
          have o0_U : K.w0.heap.size ≤ wr.heap.size := Nat.le_trans HCwr.out.keep.size (Nat.le_refl _)
          have HCw71 := zh (HCwr.out.kp0 Kw71)
          have HSw71 := zh (HSwr.out.loc Kw71 (by simp))
          have HKw71 := zh (HKwr.out.trans Kw71 (by simp))
          have HKkbw71 := zh (HKBwr.out.keep Kw71 (by simp))
          have Rw71_U := zh cw71_U
          clear Kw71 cw71_U l_c l_mf l_ms l_mn l_kb HCwr HSwr HKwr HKBwr
          refine (root_any HCw71.out HRT.out).mono ?_
          rintro r e72 ⟨rfl, hk⟩
          have Re72_U := zh (hk.at Rw71_U.out (by simp))
          have HCe72 := zh (HCw71.out.kp0 hk)
          have HSe72 := zh (HSw71.out.loc hk (by simp))
          have HKe72 := zh (HKw71.out.trans hk (by simp))
          have HKkbe72 := zh (HKkbw71.out.keep hk (by simp))
          clear hk Rw71_U HCw71 HSw71 HKw71 HKkbw71
          have l_kb := HKkbe72.out.lt
          obtain ⟨l_c, l_mf, l_ms, l_mn⟩ := HCe72.out.lt
          obtain ⟨l_U, xU_0, xU_1, xU_2, xU_3, xU_4, xU_5, xU_6, xU_7, yU_0, yU_1, yU_2, yU_3, yU_4, yU_5, yU_6, yU_7⟩ := cf8 Re72_U.out
          have hlk2 := HKkbe72.out.look r (n := kn) HKN.out
          go_wp2_with fail
          clear l_c l_U xU_0 xU_1 xU_2 xU_3 xU_4 xU_5 xU_6 xU_7 yU_0 yU_1 yU_2 yU_3 yU_4 yU_5 yU_6 yU_7 l_mf l_ms l_mn l_kb
          refine (root_any HCe72.out HRT.out).mono ?_
          rintro r e73 ⟨rfl, hk⟩
          have Re73_U := zh (hk.at Re72_U.out (by simp))
          have HCe73 := zh (HCe72.out.kp0 hk)
          have HSe73 := zh (HSe72.out.loc hk (by simp))
          have HKe73 := zh (HKe72.out.trans hk (by simp))
          have HKkbe73 := zh (HKkbe72.out.keep hk (by simp))
          clear hk Re72_U HCe72 HSe72 HKe72 HKkbe72
          have l_kb := HKkbe73.out.lt
          obtain ⟨l_c, l_mf, l_ms, l_mn⟩ := HCe73.out.lt
          have l_U := h_lt Re73_U.out
          obtain ⟨es, ek, hes, hes2⟩ := HKkbe73.out
          have HEB := zh hes; have HES := zh hes2
          clear hes hes2
          have hup := run_kind HEB.out r 2
          go_wp2_with fail
          go_roundg f
          case measure => omega
          case rel =>
           refine inv_at (fun W => Keeps [(w.heap.size)] e73 W ∧ W.heap[(w.heap.size)]? = some (.map (ents tval (kput r (.int .i64 2) ek es).1) (kput r (.int .i64 2) ek es).2)) ⟨(by with_reducible repeat (first | exact k0 _ _ | refine kA ?_ _ | refine kD ?_ | refine kS ?_ (by simp) | refine kM ?_ (by simp))), (by simp only [hS, hA, hD, hM, reduceIte, Option.map_some, Obj.put, HEB.out, Nat.ne_of_lt l_kb, Nat.ne_of_gt l_kb] <;> rfl)⟩ ?_
           rintro w74 ⟨Kw74, cw74_kb⟩
           have Rw74_U := zh (Kw74.at Re73_U.out (by simp [n_U_kb]))
           have HCw74 := zh (HCe73.out.kp Kw74 (by simp [o0_kb]) (by simp [n_c_kb]) (by simp [n_mf_kb]) (by simp [n_ms_kb]) (by simp [n_mn_kb]) (by simp [(off_kb).2.2.2]))
           have HSw74 := zh (HSe73.out.loc Kw74 (by simp [o_kb]))
           have HKw74 := zh (HKe73.out.trans Kw74 (by simp [o_kb]))
           have Rw74_kb := zh cw74_kb
           clear Kw74 cw74_kb l_c l_U l_mf l_ms l_mn l_kb Re73_U HCe73 HSe73 HKe73 HKkbe73
           exact ⟨k + 1, by first | rfl | (simp; done) | (simp; omega), by omega, by omega, _, hku, (KindW.put HES.out Rw74_kb.out).of HOF.out, HCw74.out, HKw74.out⟩
         | false =>
          rw [harr, if_neg (by simp)] at hku
          have HOF : Hid (∀ x, (if x = r then 1 else kof x kk) = kof x ((r, 1) :: kk)) := zh (fun x => by rw [kof]; by_cases h : x = r <;> simp [h, teq_iff])
          have l_kb := HKBwr.out.lt
          obtain ⟨l_c, l_mf, l_ms, l_mn⟩ := HCwr.out.lt
          go_wp2_with fail
          refine calls_at (fun W => Keeps [] wr W ∧ W.heap[wr.heap.size]? = some (.cells #[.complex .f64 u.re u.im, .int .i64 u.of.1, .string u.of.2, .bool false, .int .i64 u.param.1, .string u.param.2, .bool false, .bool false] 106 (0, 0))) ⟨(by with_reducible repeat (first | exact k0 _ _ | refine kA ?_ _ | refine kD ?_ | refine kS ?_ (by simp) | refine kM ?_ (by simp))), (by simp only [hS, hA, hD, hM, World.size_setCell, World.size_drew, reduceIte, Option.map_some, Obj.put] <;> rfl)⟩ ?_
          rintro w71 ⟨Kw71, cw71_U⟩
          have ⟨n_c_U, n_U_c⟩ := zne l_c
          have ⟨n_mf_U, n_U_mf⟩ := zne l_mf
          have ⟨n_ms_U, n_U_ms⟩ := zne l_ms
          have ⟨n_mn_U, n_U_mn⟩ := zne l_mn
          have ⟨n_kb_U, n_U_kb⟩ := zne l_kb
          have o_U : w.heap.size ≤ wr.heap.size := HSwr.out.size
          have off_U : Off K T (wr.heap.size) := off_new HCwr.out (Nat.le_refl _)
          have o0_U : K.w0.heap.size ≤ wr.heap.size := Nat.le_trans HCwr.out.keep.size (Nat.le_refl _)
          have HCw71 := zh (HCwr.out.kp0 Kw71)
          have HSw71 := zh (HSwr.out.loc Kw71 (by simp))
          have HKw71 := zh (HKwr.out.trans Kw71 (by simp))
          have HKkbw71 := zh (HKBwr.out.keep Kw71 (by simp))
          have Rw71_U := zh cw71_U
          clear Kw71 cw71_U l_c l_mf l_ms l_mn l_kb HCwr HSwr HKwr HKBwr
          refine (root_any HCw71.out HRT.out).mono ?_
          rintro r e72 ⟨rfl, hk⟩
          have Re72_U := zh (hk.at Rw71_U.out (by simp))
          have HCe72 := zh (HCw71.out.kp0 hk)
          have HSe72 := zh (HSw71.out.loc hk (by simp))
          have HKe72 := zh (HKw71.out.trans hk (by simp))
          have HKkbe72 := zh (HKkbw71.out.keep hk (by simp))
          clear hk Rw71_U HCw71 HSw71 HKw71 HKkbw71
          have l_kb := HKkbe72.out.lt
          obtain ⟨l_c, l_mf, l_ms, l_mn⟩ := HCe72.out.lt
          obtain ⟨l_U, xU_0, xU_1, xU_2, xU_3, xU_4, xU_5, xU_6, xU_7, yU_0, yU_1, yU_2, yU_3, yU_4, yU_5, yU_6, yU_7⟩ := cf8 Re72_U.out
          have hlk2 := HKkbe72.out.look r (n := kn) HKN.out
          go_wp2_with fail
          clear l_c l_U xU_0 xU_1 xU_2 xU_3 xU_4 xU_5 xU_6 xU_7 yU_0 yU_1 yU_2 yU_3 yU_4 yU_5 yU_6 yU_7 l_mf l_ms l_mn l_kb
          refine (root_any HCe72.out HRT.out).mono ?_
          rintro r e73 ⟨rfl, hk⟩
          have Re73_U := zh (hk.at Re72_U.out (by simp))
          have HCe73 := zh (HCe72.out.kp0 hk)
          have HSe73 := zh (HSe72.out.loc hk (by simp))
          have HKe73 := zh (HKe72.out.trans hk (by simp))
          have HKkbe73 := zh (HKkbe72.out.keep hk (by simp))
          clear hk Re72_U HCe72 HSe72 HKe72 HKkbe72
          have l_kb := HKkbe73.out.lt
          obtain ⟨l_c, l_mf, l_ms, l_mn⟩ := HCe73.out.lt
          have l_U := h_lt Re73_U.out
          obtain ⟨es, ek, hes, hes2⟩ := HKkbe73.out
          have HEB := zh hes; have HES := zh hes2
          clear hes hes2
          have hup := run_kind HEB.out r 1
          go_wp2_with fail
          go_roundg f
          case measure => omega
          case rel =>
           refine inv_at (fun W => Keeps [(w.heap.size)] e73 W ∧ W.heap[(w.heap.size)]? = some (.map (ents tval (kput r (.int .i64 1) ek es).1) (kput r (.int .i64 1) ek es).2)) ⟨(by with_reducible repeat (first | exact k0 _ _ | refine kA ?_ _ | refine kD ?_ | refine kS ?_ (by simp) | refine kM ?_ (by simp))), (by simp only [hS, hA, hD, hM, reduceIte, Option.map_some, Obj.put, HEB.out, Nat.ne_of_lt l_kb, Nat.ne_of_gt l_kb] <;> rfl)⟩ ?_
           rintro w74 ⟨Kw74, cw74_kb⟩
           have Rw74_U := zh (Kw74.at Re73_U.out (by simp [n_U_kb]))
           have HCw74 := zh (HCe73.out.kp Kw74 (by simp [o0_kb]) (by simp [n_c_kb]) (by simp [n_mf_kb]) (by simp [n_ms_kb]) (by simp [n_mn_kb]) (by simp [(off_kb).2.2.2]))
           have HSw74 := zh (HSe73.out.loc Kw74 (by simp [o_kb]))
           have HKw74 := zh (HKe73.out.trans Kw74 (by simp [o_kb]))
           have Rw74_kb := zh cw74_kb
           clear Kw74 cw74_kb l_c l_U l_mf l_ms l_mn l_kb Re73_U HCe73 HSe73 HKe73 HKkbe73
           exact ⟨k + 1, by first | rfl | (simp; done) | (simp; omega), by omega, by omega, _, hku, (KindW.put HES.out Rw74_kb.out).of HOF.out, HCw74.out, HKw74.out⟩
    ·have hke : k = st.uses.length := by omega
     rw [hke, List.drop_length, kindsU] at hku
     obtain rfl : kk = kf := by simpa using hku
     clear hku hke
     have l_kb := HKBwr.out.lt
     obtain ⟨l_c, l_mf, l_ms, l_mn⟩ := HCwr.out.lt
     go_wp2_with fail
     refine ret_at (v := .map (some w.heap.size)) (fun W => Keeps [] wr W) (by with_reducible repeat (first | exact k0 _ _ | refine kA ?_ _ | refine kD ?_ | refine kS ?_ (by simp) | refine kM ?_ (by simp))) (fun w71 hW => ?_) rfl (fun w71 hW => ?_)
     ·have Kw71 : Keeps [] wr w71 := hW
      simp [results, Tryz.results44, go_sem]
     ·have Kw71 : Keeps [] wr w71 := hW
      have HCw71 := zh (HCwr.out.kp0 Kw71)
      have HSw71 := zh (HSwr.out.loc Kw71 (by simp))
      have HKw71 := zh (HKwr.out.trans Kw71 (by simp))
      have HKkbw71 := zh (HKBwr.out.keep Kw71 (by simp))
      clear Kw71 l_c l_mf l_ms l_mn l_kb HCwr HSwr HKwr HKBwr
      exact ⟨_, rfl, Nat.le_refl _, HKkbw71.out, HKw71.out⟩
  ·have hent := hrn.entry
   have lwn : wo.heap.size = wn.heap.size := hszn.symm
   have HCwn := zh (CK.news HC0.out HCwo.out hkn (by simp; exact hw1)); have HKBwn := zh (HKBwo.out.keep hkn (by simp [n_kb_it])); have HKwn := zh (HKwo.out.trans hkn (by simp; exact hw1)); have HRwn := zh hrn
   have HSwn := zh ((CStep.refl K T w).loc HKwn.out (by simp))
   have HRO1 := HRO.out t ht
   clear hrs hrn hkn lwn hszn HCwo HKBwo HKwo HSwo
   have n_mn_it : K.mn ≠ w1.heap.size := fun e => by have := HC0.out.lt; omega
   cases gk with
   | zero => omega
   | succ m =>
    by_cases h0 : t.1 = 0
    ·have d0 : ((t.1 : Int) == 0) = true := by simp [h0]
     have d1 : (t.1 == 0) = true := by simp [h0]
     cases hsp : specialF t.2 with
     | true =>
      obtain ⟨r, hrr⟩ : ∃ r, r = rootD st t := ⟨_, rfl⟩
      have hgs : spG t = true := by simp [spG, h0, hsp]
      have HRT : Hid (rootN st t = some r) := zh (by rw [hrr]; exact HRO1 hgs)
      have HOF : Hid (∀ x, (if x = r then 1 else if p.any (spK st x) = true then 1 else 0) = if (p ++ [t]).any (spK st x) = true then 1 else 0) := zh (fun x => by
       have e : spK st x t = teq x r := by unfold spK; rw [hgs, ← hrr]; rfl
       simp only [List.any_append, List.any_cons, List.any_nil, Bool.or_false, e]
       by_cases h : x = r
       ·simp [h, teq_iff.2 rfl]
       ·have : teq x r = false := by cases h2 : teq x r with | false => rfl | true => exact absurd (teq_iff.1 h2) h
        rw [if_neg h, this, Bool.or_false])
      clear hrr hgs HRO1 h0
      have l_kb := HKBwn.out.lt
      obtain ⟨l_c, l_mf, l_ms, l_mn⟩ := HCwn.out.lt
      go_wp2_with fail
      refine calls_at (fun W => Keeps [] wn W ∧ W.heap[wn.heap.size]? = some (.cells #[.int .i64 t.1, .string t.2] 101 (0, 0))) ⟨(by with_reducible repeat (first | exact k0 _ _ | refine kA ?_ _ | refine kD ?_ | refine kS ?_ (by simp) | refine kM ?_ (by simp))), (by simp only [hS, hA, hD, hM, World.size_setCell, World.size_drew, reduceIte, Option.map_some, Obj.put] <;> rfl)⟩ ?_
      rintro w51 ⟨Kw51, cw51_B⟩
      have ⟨n_c_B, n_B_c⟩ := zne l_c
      have ⟨n_mf_B, n_B_mf⟩ := zne l_mf
      have ⟨n_ms_B, n_B_ms⟩ := zne l_ms
      have ⟨n_mn_B, n_B_mn⟩ := zne l_mn
      have ⟨n_kb_B, n_B_kb⟩ := zne l_kb
      have o_B : w.heap.size ≤ wn.heap.size := HSwn.out.size
      have off_B : Off K T (wn.heap.size) := off_new HCwn.out (Nat.le_refl _)
      have o0_B : K.w0.heap.size ≤ wn.heap.size := Nat.le_trans HCwn.out.keep.size (Nat.le_refl _)
      have HCw51 := zh (HCwn.out.kp0 Kw51)
      have HSw51 := zh (HSwn.out.loc Kw51 (by simp))
      have HKw51 := zh (HKwn.out.trans Kw51 (by simp))
      have HKkbw51 := zh (HKBwn.out.keep Kw51 (by simp))
      have HRw51 := zh (HRwn.out.keep Kw51 (by simp) (by simp))
      have Rw51_B := zh cw51_B
      clear Kw51 cw51_B l_c l_mf l_ms l_mn l_kb HCwn HSwn HKwn HKBwn HRwn
      refine (special_any t.2 _).mono ?_
      rintro r w' ⟨rfl, hw'⟩
      rw [hw']
      clear hw'
      have l_kb := HKkbw51.out.lt
      obtain ⟨l_c, l_mf, l_ms, l_mn⟩ := HCw51.out.lt
      obtain ⟨l_B, xB_0, xB_1, yB_0, yB_1⟩ := cf2 Rw51_B.out
      go_wp2_with fail
      clear l_c l_B xB_0 xB_1 yB_0 yB_1 l_mf l_ms l_mn l_kb
      refine (root_any HCw51.out HRT.out).mono ?_
      rintro r e52 ⟨rfl, hk⟩
      have Re52_B := zh (hk.at Rw51_B.out (by simp))
      have HCe52 := zh (HCw51.out.kp0 hk)
      have HSe52 := zh (HSw51.out.loc hk (by simp))
      have HKe52 := zh (HKw51.out.trans hk (by simp))
      have HKkbe52 := zh (HKkbw51.out.keep hk (by simp))
      have HRe52 := zh (HRw51.out.keep hk (by simp) (by simp))
      clear hk Rw51_B HCw51 HSw51 HKw51 HKkbw51 HRw51
      have l_kb := HKkbe52.out.lt
      obtain ⟨l_c, l_mf, l_ms, l_mn⟩ := HCe52.out.lt
      have l_B := h_lt Re52_B.out
      obtain ⟨es, ek, hes, hes2⟩ := HKkbe52.out
      have HEB := zh hes; have HES := zh hes2
      clear hes hes2
      have hup := run_kind HEB.out r 1
      go_wp2_with fail
      go_roundg m
      case measure => omega
      case rel =>
       refine inv_at (fun W => Keeps [(w.heap.size)] e52 W ∧ W.heap[(w.heap.size)]? = some (.map (ents tval (kput r (.int .i64 1) ek es).1) (kput r (.int .i64 1) ek es).2)) ⟨(by with_reducible repeat (first | exact k0 _ _ | refine kA ?_ _ | refine kD ?_ | refine kS ?_ (by simp) | refine kM ?_ (by simp))), (by simp only [hS, hA, hD, hM, reduceIte, Option.map_some, Obj.put, HEB.out, Nat.ne_of_lt l_kb, Nat.ne_of_gt l_kb] <;> rfl)⟩ ?_
       rintro w53 ⟨Kw53, cw53_kb⟩
       have Rw53_B := zh (Kw53.at Re52_B.out (by simp [n_B_kb]))
       have HCw53 := zh (HCe52.out.kp Kw53 (by simp [o0_kb]) (by simp [n_c_kb]) (by simp [n_mf_kb]) (by simp [n_ms_kb]) (by simp [n_mn_kb]) (by simp [(off_kb).2.2.2]))
       have HSw53 := zh (HSe52.out.loc Kw53 (by simp [o_kb]))
       have HKw53 := zh (HKe52.out.trans Kw53 (by simp [o_kb]))
       have HRw53 := zh (HRe52.out.keep Kw53 (by simp [n_mn_kb]) (by simp [n_it_kb]))
       have Rw53_kb := zh cw53_kb
       clear Kw53 cw53_kb l_c l_B l_mf l_ms l_mn l_kb Re52_B HCe52 HSe52 HKe52 HKkbe52 HRe52
       exact ⟨p ++ [t], n2, HRw53.out, by omega, (KindW.put HES.out Rw53_kb.out).of HOF.out, HCw53.out, HKw53.out⟩
     | false =>
      have HOF : Hid (∀ x, (if p.any (spK st x) = true then 1 else 0) = if (p ++ [t]).any (spK st x) = true then 1 else 0) := zh (fun x => by
       have e : spK st x t = false := by unfold spK spG; rw [hsp]; simp
       simp only [List.any_append, List.any_cons, List.any_nil, Bool.or_false, e])
      clear HRO1 h0
      have l_kb := HKBwn.out.lt
      obtain ⟨l_c, l_mf, l_ms, l_mn⟩ := HCwn.out.lt
      go_wp2_with fail
      refine calls_at (fun W => Keeps [] wn W ∧ W.heap[wn.heap.size]? = some (.cells #[.int .i64 t.1, .string t.2] 101 (0, 0))) ⟨(by with_reducible repeat (first | exact k0 _ _ | refine kA ?_ _ | refine kD ?_ | refine kS ?_ (by simp) | refine kM ?_ (by simp))), (by simp only [hS, hA, hD, hM, World.size_setCell, World.size_drew, reduceIte, Option.map_some, Obj.put] <;> rfl)⟩ ?_
      rintro w51 ⟨Kw51, cw51_B⟩
      have ⟨n_c_B, n_B_c⟩ := zne l_c
      have ⟨n_mf_B, n_B_mf⟩ := zne l_mf
      have ⟨n_ms_B, n_B_ms⟩ := zne l_ms
      have ⟨n_mn_B, n_B_mn⟩ := zne l_mn
      have ⟨n_kb_B, n_B_kb⟩ := zne l_kb
      have o_B : w.heap.size ≤ wn.heap.size := HSwn.out.size
      have off_B : Off K T (wn.heap.size) := off_new HCwn.out (Nat.le_refl _)
      have o0_B : K.w0.heap.size ≤ wn.heap.size := Nat.le_trans HCwn.out.keep.size (Nat.le_refl _)
      have HCw51 := zh (HCwn.out.kp0 Kw51)
      have HSw51 := zh (HSwn.out.loc Kw51 (by simp))
      have HKw51 := zh (HKwn.out.trans Kw51 (by simp))
      have HKkbw51 := zh (HKBwn.out.keep Kw51 (by simp))
      have HRw51 := zh (HRwn.out.keep Kw51 (by simp) (by simp))
      have Rw51_B := zh cw51_B
      clear Kw51 cw51_B l_c l_mf l_ms l_mn l_kb HCwn HSwn HKwn HKBwn HRwn
      refine (special_any t.2 _).mono ?_
      rintro r w' ⟨rfl, hw'⟩
      rw [hw']
      clear hw'
      have l_kb := HKkbw51.out.lt
      obtain ⟨l_c, l_mf, l_ms, l_mn⟩ := HCw51.out.lt
      have l_B := h_lt Rw51_B.out
      go_wp2_with fail
      go_roundg m
      case measure => omega
      case rel =>
       exact ⟨p ++ [t], n2, HRw51.out, by omega, HKkbw51.out.of HOF.out, HCw51.out, HKw51.out⟩
    ·have d0 : ((t.1 : Int) == 0) = false := by simp; omega
     have d1 : (t.1 == 0) = false := by simp [h0]
     have HOF : Hid (∀ x, (if p.any (spK st x) = true then 1 else 0) = if (p ++ [t]).any (spK st x) = true then 1 else 0) := zh (fun x => by
      have e : spK st x t = false := by unfold spK spG; simp [h0]
      simp only [List.any_append, List.any_cons, List.any_nil, Bool.or_false, e])
     clear HRO1 h0
     have l_kb := HKBwn.out.lt
     obtain ⟨l_c, l_mf, l_ms, l_mn⟩ := HCwn.out.lt
     go_wp2_with fail
     go_roundg m
     case measure => omega
     case rel =>
      refine inv_at (fun W => Keeps [] wn W ∧ W.heap[wn.heap.size]? = some (.cells #[.int .i64 t.1, .string t.2] 101 (0, 0))) ⟨(by with_reducible repeat (first | exact k0 _ _ | refine kA ?_ _ | refine kD ?_ | refine kS ?_ (by simp) | refine kM ?_ (by simp))), (by simp only [hS, hA, hD, hM, World.size_setCell, World.size_drew, reduceIte, Option.map_some, Obj.put] <;> rfl)⟩ ?_
      rintro w51 ⟨Kw51, cw51_B⟩
      have ⟨n_c_B, n_B_c⟩ := zne l_c
      have ⟨n_mf_B, n_B_mf⟩ := zne l_mf
      have ⟨n_ms_B, n_B_ms⟩ := zne l_ms
      have ⟨n_mn_B, n_B_mn⟩ := zne l_mn
      have ⟨n_kb_B, n_B_kb⟩ := zne l_kb
      have o_B : w.heap.size ≤ wn.heap.size := HSwn.out.size
      have off_B : Off K T (wn.heap.size) := off_new HCwn.out (Nat.le_refl _)
      have o0_B : K.w0.heap.size ≤ wn.heap.size := Nat.le_trans HCwn.out.keep.size (Nat.le_refl _)
      have HCw51 := zh (HCwn.out.kp0 Kw51)
      have HSw51 := zh (HSwn.out.loc Kw51 (by simp))
      have HKw51 := zh (HKwn.out.trans Kw51 (by simp))
      have HKkbw51 := zh (HKBwn.out.keep Kw51 (by simp))
      have HRw51 := zh (HRwn.out.keep Kw51 (by simp) (by simp))
      have Rw51_B := zh cw51_B
      clear Kw51 cw51_B l_c l_mf l_ms l_mn l_kb HCwn HSwn HKwn HKBwn HRwn
      exact ⟨p ++ [t], n2, HRw51.out, by omega, HKkbw51.out.of HOF.out, HCw51.out, HKw51.out⟩
end Go.Proofs.YtkfillfkbhbbjaaGreatDoor
namespace Go.Proofs.YtkfillfkbhbbjaaGreatDoor
open Go.RowKit

/-- A rule of the program, in whatever world of the checker's. -/
theorem CK.rule {K : CKey} (hK : CFix K) {T : Nat → Prop} {ua : Option Addr} {uc : Nat} {st : NS} {W : World} (h : CK K T ua uc st W) {i : Nat} (hi : i < K.g.rules.length) :
  ∃ g o pa pc b0 b1 b2 b3 b4, K.ra = some ⟨g, o, none⟩ ∧ W.cell? ⟨g, o + i * 9, none⟩ = some (.int .i64 K.g.rules[i].kind) ∧ W.cell? ⟨g, o + i * 9 + 1, none⟩ = some (.int .i64 K.g.rules[i].n) ∧ W.cell? ⟨g, o + i * 9 + 2, none⟩ = some (.slice pa K.g.rules[i].pats.length pc) ∧ W.cell? ⟨g, o + i * 9 + 3, none⟩ = some b0 ∧ W.cell? ⟨g, o + i * 9 + 4, none⟩ = some b1 ∧ W.cell? ⟨g, o + i * 9 + 5, none⟩ = some b2 ∧ W.cell? ⟨g, o + i * 9 + 6, none⟩ = some b3 ∧
   W.cell? ⟨g, o + i * 9 + 7, none⟩ = some b4 ∧ W.cell? ⟨g, o + i * 9 + 8, none⟩ = some (.complex .f64 K.g.rules[i].re K.g.rules[i].im) ∧ KidsR K.w0 (fun _ => True) K.g.rules[i].pats (.slice pa K.g.rules[i].pats.length pc) ∧ NodeR K.w0 (fun _ => True) K.g.rules[i].body (.agg #[b0, b1, b2, b3, b4]) := by
 obtain ⟨g, o, cap, c, hv, -, hg, ⟨pa, pc, b0, b1, b2, b3, b4, rfl, hp, hn⟩, hc⟩ := hK.rules.get ruleL hi
 have hc' : ∀ j u, [.int .i64 K.g.rules[i].kind, .int .i64 K.g.rules[i].n, .slice pa K.g.rules[i].pats.length pc, b0, b1, b2, b3, b4, .complex .f64 K.g.rules[i].re K.g.rules[i].im][j]? = some u → W.cell? ⟨g, o + i * 9 + j, none⟩ = some u := fun j u hj => by
  rw [World.cell?_of_block (w := K.w0) (a := ⟨g, o + i * 9 + j, none⟩) (h.keep.block g hg (by simp)), Nat.add_assoc]; exact hc j u hj
 have hra : K.ra = some ⟨g, o, none⟩ := by injection hv
 exact ⟨g, o, pa, pc, b0, b1, b2, b3, b4, hra, hc' 0 _ rfl, hc' 1 _ rfl, hc' 2 _ rfl, hc' 3 _ rfl, hc' 4 _ rfl, hc' 5 _ rfl, hc' 6 _ rfl, hc' 7 _ rfl, hc' 8 _ rfl, hp, hn⟩
def AllR (K : CKey) (rec : NRec) (st' : NS) (T0 : Nat → Prop) (w : World) (g : Nat) (j : Value) (W : World) : Prop :=
 ∃ k : Nat, j = .int .i64 k ∧ k ≤ K.g.rules.length ∧ g + k = K.g.rules.length + 1 ∧ ∃ st T ua uc, allR rec (K.g.rules.drop k) st = some st' ∧ CK K T ua uc st W ∧ CStep K T0 T w W
def AllP (K : CKey) (rec : NRec) (pats : List Node) (st' : NS) (T0 : Nat → Prop) (w : World) (B : Nat) (ob : Obj) (g : Nat) (j : Value) (W : World) : Prop :=
 ∃ k : Nat, j = .int .i64 k ∧ k ≤ pats.length ∧ g + k = pats.length + 1 ∧ ∃ st T ua uc, patsF rec (pats.drop k) st = some st' ∧ CK K T ua uc st W ∧ CStep K T0 T w W ∧ W.heap[B]? = some ob ∧ Off K T B
def AllFn (K : CKey) (rec : NRec) (st' : NS) (T0 : Nat → Prop) (w : World) (g : Nat) (j : Value) (W : World) : Prop :=
 ∃ k : Nat, j = .int .i64 k ∧ k ≤ K.g.funcs.length ∧ g + k = K.g.funcs.length + 1 ∧ ∃ st T ua uc, allF rec k (K.g.funcs.drop k) st = some st' ∧ CK K T ua uc st W ∧ CStep K T0 T w W

theorem all_any {K : CKey} (hK : CFix K) {T : Nat → Prop} {ua : Option Addr} {uc : Nat} {st : NS} {w : World} (h : CK K T ua uc st w) {rec : NRec} {s1 st' : NS} (hrec : NodeC K rec) (har : allR rec K.g.rules st = some s1) (haf : allF rec 0 K.g.funcs s1 = some st') :
  Calls Tryz.prog 25 #[.pointer (some ⟨K.c, 0, none⟩)] w fun r w' => ∃ T' ua' uc', r = .returned (.tuple #[]) ∧ CK K T' ua' uc' (st') w' ∧ CStep K T T' w w' := by
 have hrs := hK.rsmall
 have hfs := hK.small
 have HC0 := zh h; have HS0 := zh (CStep.refl K T w); have HREC := zh hrec; have HAR := zh har; have HAF := zh haf
 clear h hrec har haf
 go_enter Tryz.func25, Tryz.ntmps25
 obtain ⟨l_c, xc_0, xc_1, xc_2, xc_3, xc_4, xc_5, xc_6, xc_7, xc_8, xc_9, xc_10, yc_0, yc_1, yc_2, yc_3, yc_4, yc_5, yc_6, yc_7, yc_8, yc_9, yc_10⟩ := cf11 HC0.out.row
 obtain ⟨-, l_mf, l_ms, l_mn⟩ := HC0.out.lt
 obtain ⟨ra, hra0⟩ : ∃ x, K.ra = x := ⟨_, rfl⟩
 rw [hra0] at xc_0
 have HRA0 := zh hra0
 clear hra0
 go_wp2_with fail
 clear l_c xc_0 xc_1 xc_2 xc_3 xc_4 xc_5 xc_6 xc_7 xc_8 xc_9 xc_10 yc_0 yc_1 yc_2 yc_3 yc_4 yc_5 yc_6 yc_7 yc_8 yc_9 yc_10 l_mf l_ms l_mn
 go_loopg [14] (K.g.rules.length + 1) (fun g j wr => AllR K rec s1 T w g j wr)
 case atStart => exact ⟨0, rfl, Nat.zero_le _, rfl, _, _, _, _, HAR.out, HC0.out, HS0.out⟩
 case round =>
  rename World => wo
  obtain ⟨k, rfl, hk1, hk2, st1, T1, ua1, uc1, har, hc, hs⟩ := hrel
  have HCr := zh hc; have HSr := zh hs
  clear hc hs
  by_cases hlt : k < K.g.rules.length
  ·obtain ⟨g, o, pa, pc, b0, b1, b2, b3, b4, hra, c0, c1, c2, c3, c4, c5, c6, c7, c8, hkp, hnb⟩ := CK.rule hK HCr.out hlt
   obtain ⟨fmb, nab, ncb, hvb, -⟩ := hnb.kids
   simp only [Value.agg.injEq, Array.mk.injEq, List.cons.injEq, and_true] at hvb
   obtain ⟨rfl, rfl, rfl, rfl, rfl⟩ := hvb
   have hps : K.g.rules[k].pats.length ≤ 1000000 := hK.tsmall _ (List.getElem_mem hlt)
   have lg : g < wo.heap.size := lt_cell c0
   rw [List.drop_eq_getElem_cons hlt, allR] at har
   generalize K.g.rules[k] = ru at *
   simp only [Option.bind_eq_bind, Option.bind_eq_some_iff] at har
   obtain ⟨s2, hp, s3, hb, har⟩ := har
   have HPF := zh hp; have HKP := zh hkp
   have era := HRA0.out.symm.trans hra
   subst era
   clear hp hkp hra
   cases gk with
   | zero => omega
   | succ f =>
    obtain ⟨l_c, xc_0, xc_1, xc_2, xc_3, xc_4, xc_5, xc_6, xc_7, xc_8, xc_9, xc_10, yc_0, yc_1, yc_2, yc_3, yc_4, yc_5, yc_6, yc_7, yc_8, yc_9, yc_10⟩ := cf11 HCr.out.row
    obtain ⟨-, l_mf, l_ms, l_mn⟩ := HCr.out.lt
    go_wp2_with fail
    refine wp_at (fun W => Keeps [K.c] wo W ∧ W.heap[K.c]? = some (.cells #[.slice K.ra K.g.rules.length K.rc, .slice K.fa K.g.funcs.length K.fc, .map (some K.mf), .int .i64 st1.fn, .int .i64 ru.kind, .int .i64 0, .slice ua1 st1.uses.length uc1, .map (some K.ms), .map (some K.mn), .complex .f64 st1.re st1.im, .int .i64 st1.e] 70 (0, 0)) ∧ W.heap[wo.heap.size]? = some (.cells #[.int .i64 ru.kind, .int .i64 ru.n, .slice pa ru.pats.length pc, .int .i64 ru.body.kind, .string ru.body.name, .float .f64 fmb, .slice nab ru.body.kids.length ncb, .complex .f64 ru.body.re ru.body.im, .complex .f64 ru.re ru.im] 52 (0, 0))) ⟨(by with_reducible repeat (first | exact k0 _ _ | refine kA ?_ _ | refine kD ?_ | refine kS ?_ (by simp) | refine kM ?_ (by simp))), (by simp only [hS, hA, hD, hM, World.size_setCell, World.size_drew, reduceIte, Option.map_some, Obj.put, HCr.out.row, Nat.ne_of_lt l_c, Nat.ne_of_gt l_c] <;> rfl), (by simp only [hS, hA, hD, hM, World.size_setCell, World.size_drew, reduceIte, Option.map_some, Obj.put, HCr.out.row, Nat.ne_of_lt l_c, Nat.ne_of_gt l_c] <;> rfl)⟩ ?_
    rintro w51 ⟨Kw51, cw51_c, cw51_Ru⟩
    have ⟨n_c_Ru, n_Ru_c⟩ := zne l_c
    have ⟨n_mf_Ru, n_Ru_mf⟩ := zne l_mf
    have ⟨n_ms_Ru, n_Ru_ms⟩ := zne l_ms
    have ⟨n_mn_Ru, n_Ru_mn⟩ := zne l_mn
    have o_Ru : w.heap.size ≤ wo.heap.size := HSr.out.size
    have off_Ru : Off K T1 (wo.heap.size) := off_new HCr.out (Nat.le_refl _)
    have o0_Ru : K.w0.heap.size ≤ wo.heap.size := Nat.le_trans HCr.out.keep.size (Nat.le_refl _)
    have HCw51 : Hid (CK K T1 ua1 uc1 ({ st1 with rule := ru.kind, loops := 0 }) w51) := zh (HCr.out.upd hK Kw51 cw51_c (by simp) (by simp) (by simp) (by simp) (by simp) rfl rfl rfl HCr.out.fn (show (-1000000 : Int) ≤ 0 ∧ (0 : Int) ≤ 1000000 from ⟨by omega, by omega⟩))
    have HSw51 := zh (HSr.out.loc Kw51 (by simp []))
    have Rw51_Ru := zh cw51_Ru
    clear Kw51 cw51_c cw51_Ru l_c xc_0 xc_1 xc_2 xc_3 xc_4 xc_5 xc_6 xc_7 xc_8 xc_9 xc_10 yc_0 yc_1 yc_2 yc_3 yc_4 yc_5 yc_6 yc_7 yc_8 yc_9 yc_10 l_mf l_ms l_mn HCr HSr
    go_loopg [29] (ru.pats.length + 1) (fun g j wp => AllP K rec ru.pats s2 T w (wo.heap.size) (.cells #[.int .i64 ru.kind, .int .i64 ru.n, .slice pa ru.pats.length pc, .int .i64 ru.body.kind, .string ru.body.name, .float .f64 fmb, .slice nab ru.body.kids.length ncb, .complex .f64 ru.body.re ru.body.im, .complex .f64 ru.re ru.im] 52 (0, 0)) g j wp)
    case atStart => exact ⟨0, rfl, Nat.zero_le _, rfl, _, _, _, _, HPF.out, HCw51.out, HSw51.out, Rw51_Ru.out, off_Ru⟩
    case round =>
     obtain ⟨i, rfl, hi1, hi2, st2, T2, ua2, uc2, hpf, hc, hs, hB, off_Ru⟩ := hrel
     have HCp := zh hc; have HSp := zh hs; have RRu := zh hB
     clear hc hs hB
     by_cases hlt2 : i < ru.pats.length
     ·obtain ⟨g3, o3, fm3, na3, nc3, hna, kc0, kc1, kc2, kc3, kc4, hkn⟩ := CK.kid HCp.out HKP.out hlt2
      subst hna
      have lg3 : g3 < wr.heap.size := lt_cell kc0
      rw [List.drop_eq_getElem_cons hlt2, patsF] at hpf
      generalize ru.pats[i] = kk at *
      simp only [Option.bind_eq_bind, Option.bind_eq_some_iff] at hpf
      obtain ⟨s4, hr, hpf⟩ := hpf
      cases gk with
      | zero => omega
      | succ f2 =>
       obtain ⟨l_c, l_mf, l_ms, l_mn⟩ := HCp.out.lt
       have l_Ru := h_lt RRu.out
       go_wp2_with fail
       refine calls_at (fun W => Keeps [] wr W ∧ W.heap[wr.heap.size]? = some (.cells #[.int .i64 kk.kind, .string kk.name, .float .f64 fm3, .slice na3 kk.kids.length nc3, .complex .f64 kk.re kk.im] 50 (0, 0))) ⟨(by with_reducible repeat (first | exact k0 _ _ | refine kA ?_ _ | refine kD ?_ | refine kS ?_ (by simp) | refine kM ?_ (by simp))), (by simp only [hS, hA, hD, hM, World.size_setCell, World.size_drew, reduceIte, Option.map_some, Obj.put] <;> rfl)⟩ ?_
       rintro w71 ⟨Kw71, cw71_Kd⟩
       have ⟨n_c_Kd, n_Kd_c⟩ := zne l_c
       have ⟨n_mf_Kd, n_Kd_mf⟩ := zne l_mf
       have ⟨n_ms_Kd, n_Kd_ms⟩ := zne l_ms
       have ⟨n_mn_Kd, n_Kd_mn⟩ := zne l_mn
       have ⟨n_Ru_Kd, n_Kd_Ru⟩ := zne l_Ru
       have o_Kd : w.heap.size ≤ wr.heap.size := HSp.out.size
       have off_Kd : Off K T2 (wr.heap.size) := off_new HCp.out (Nat.le_refl _)
       have o0_Kd : K.w0.heap.size ≤ wr.heap.size := Nat.le_trans HCp.out.keep.size (Nat.le_refl _)
       have Rw71_Ru := zh (Kw71.at RRu.out (by simp))
       have HCw71 := zh (HCp.out.kp0 Kw71)
       have HSw71 := zh (HSp.out.loc Kw71 (by simp))
       have Rw71_Kd := zh cw71_Kd
       clear Kw71 cw71_Kd l_c l_Ru l_mf l_ms l_mn RRu HCp HSp
       refine (HREC.out _ _ _ _ hr hkn _ _ _ _ HCw71.out).mono ?_
       rintro r e72 ⟨T72, ua72, uc72, rfl, hc, hs⟩
       have off2_Ru := hs.off (h_lt Rw71_Ru.out) off_Ru
       have Re72_Ru := zh (hs.at Rw71_Ru.out off_Ru)
       have off2_Kd := hs.off (h_lt Rw71_Kd.out) off_Kd
       have Re72_Kd := zh (hs.at Rw71_Kd.out off_Kd)
       have off_Ru' := off2_Ru
       have off_Kd' := off2_Kd
       have HCe72 := zh hc
       have HSe72 := zh (HSw71.out.trans hs)
       clear Rw71_Ru off_Ru Rw71_Kd off_Kd HCw71 HSw71 hc hs
       have off_Ru := off_Ru'
       clear off_Ru' off2_Ru
       have off_Kd := off_Kd'
       clear off_Kd' off2_Kd
       obtain ⟨l_c, l_mf, l_ms, l_mn⟩ := HCe72.out.lt
       have l_Ru := h_lt Re72_Ru.out
       have l_Kd := h_lt Re72_Kd.out
       go_wp2_with fail
       go_roundg f2
       case measure => omega
       case rel =>
        exact ⟨i + 1, by first | rfl | (simp; done) | (simp; omega), by omega, by omega, _, _, _, _, hpf, HCe72.out, HSe72.out, Re72_Ru.out, off_Ru⟩
     ·have hie : i = ru.pats.length := by omega
      subst hie
      rw [List.drop_length, patsF] at hpf
      obtain rfl : st2 = s2 := by simpa using hpf
      clear hpf
      obtain ⟨l_c, l_mf, l_ms, l_mn⟩ := HCp.out.lt
      obtain ⟨l_Ru, xRu_0, xRu_1, xRu_2, xRu_3, xRu_4, xRu_5, xRu_6, xRu_7, xRu_8, yRu_0, yRu_1, yRu_2, yRu_3, yRu_4, yRu_5, yRu_6, yRu_7, yRu_8⟩ := cf9 RRu.out
      go_wp2_with fail
      clear l_c l_Ru xRu_0 xRu_1 xRu_2 xRu_3 xRu_4 xRu_5 xRu_6 xRu_7 xRu_8 yRu_0 yRu_1 yRu_2 yRu_3 yRu_4 yRu_5 yRu_6 yRu_7 yRu_8 l_mf l_ms l_mn
      refine (HREC.out _ _ _ _ hb hnb _ _ _ _ HCp.out).mono ?_
      rintro r e71 ⟨T71, ua71, uc71, rfl, hc, hs⟩
      have off2_Ru := hs.off (h_lt RRu.out) off_Ru
      have Re71_Ru := zh (hs.at RRu.out off_Ru)
      have off_Ru' := off2_Ru
      have HCe71 := zh hc
      have HSe71 := zh (HSp.out.trans hs)
      clear RRu off_Ru HCp HSp hc hs
      have off_Ru := off_Ru'
      clear off_Ru' off2_Ru
      obtain ⟨l_c, l_mf, l_ms, l_mn⟩ := HCe71.out.lt
      have l_Ru := h_lt Re71_Ru.out
      go_wp2_with fail
      go_roundg f
      case measure => omega
      case rel =>
       exact ⟨k + 1, by first | rfl | (simp; done) | (simp; omega), by omega, by omega, _, _, _, _, har, HCe71.out, HSe71.out⟩
  ·have hke : k = K.g.rules.length := by omega
   subst hke
   rw [List.drop_length, allR] at har
   obtain rfl : st1 = s1 := by simpa using har
   clear har
   obtain ⟨l_c, xc_0, xc_1, xc_2, xc_3, xc_4, xc_5, xc_6, xc_7, xc_8, xc_9, xc_10, yc_0, yc_1, yc_2, yc_3, yc_4, yc_5, yc_6, yc_7, yc_8, yc_9, yc_10⟩ := cf11 HCr.out.row
   obtain ⟨-, l_mf, l_ms, l_mn⟩ := HCr.out.lt
   obtain ⟨fa, hfa0⟩ : ∃ x, K.fa = x := ⟨_, rfl⟩
   rw [hfa0] at xc_1
   have HFA0 := zh hfa0
   clear hfa0
   go_wp2_with fail
   clear l_c xc_0 xc_1 xc_2 xc_3 xc_4 xc_5 xc_6 xc_7 xc_8 xc_9 xc_10 yc_0 yc_1 yc_2 yc_3 yc_4 yc_5 yc_6 yc_7 yc_8 yc_9 yc_10 l_mf l_ms l_mn
   go_loopg [48] (K.g.funcs.length + 1) (fun g j wf => AllFn K rec st' T w g j wf)
   case atStart => exact ⟨0, rfl, Nat.zero_le _, rfl, _, _, _, _, HAF.out, HCr.out, HSr.out⟩
   case round =>
    obtain ⟨k, rfl, hk1, hk2, st3, T3, ua3, uc3, haf, hc, hs⟩ := hrel
    have HCf := zh hc; have HSf := zh hs
    clear hc hs
    by_cases hlt : k < K.g.funcs.length
    ·obtain ⟨g, o, pa, pc, b0, b1, b2, b3, b4, hfa, c0, c1, c2, c3, c4, c5, c6, c7, hsp, hnb⟩ := CK.func hK HCf.out hlt
     obtain ⟨fmb, nab, ncb, hvb, -⟩ := hnb.kids
     simp only [Value.agg.injEq, Array.mk.injEq, List.cons.injEq, and_true] at hvb
     obtain ⟨rfl, rfl, rfl, rfl, rfl⟩ := hvb
     have lg : g < wr.heap.size := lt_cell c0
     have efa := HFA0.out.symm.trans hfa
     subst efa
     clear hfa
     rw [List.drop_eq_getElem_cons hlt, allF] at haf
     generalize K.g.funcs[k] = fu at *
     simp only [Option.bind_eq_bind, Option.bind_eq_some_iff] at haf
     obtain ⟨s3, hb, haf⟩ := haf
     cases gk with
     | zero => omega
     | succ f =>
      obtain ⟨l_c, xc_0, xc_1, xc_2, xc_3, xc_4, xc_5, xc_6, xc_7, xc_8, xc_9, xc_10, yc_0, yc_1, yc_2, yc_3, yc_4, yc_5, yc_6, yc_7, yc_8, yc_9, yc_10⟩ := cf11 HCf.out.row
      obtain ⟨-, l_mf, l_ms, l_mn⟩ := HCf.out.lt
      go_wp2_with fail
      refine calls_at (fun W => Keeps [K.c] wr W ∧ W.heap[K.c]? = some (.cells #[.slice K.ra K.g.rules.length K.rc, .slice K.fa K.g.funcs.length K.fc, .map (some K.mf), .int .i64 (k + 1), .int .i64 st3.rule, .int .i64 0, .slice ua3 st3.uses.length uc3, .map (some K.ms), .map (some K.mn), .complex .f64 st3.re st3.im, .int .i64 st3.e] 70 (0, 0)) ∧ W.heap[wr.heap.size]? = some (.cells #[.string fu.name, .slice pa fu.params.length pc, .int .i64 fu.body.kind, .string fu.body.name, .float .f64 fmb, .slice nab fu.body.kids.length ncb, .complex .f64 fu.body.re fu.body.im, .complex .f64 fu.re fu.im] 61 (0, 0))) ⟨(by with_reducible repeat (first | exact k0 _ _ | refine kA ?_ _ | refine kD ?_ | refine kS ?_ (by simp) | refine kM ?_ (by simp))), (by simp only [hS, hA, hD, hM, World.size_setCell, World.size_drew, reduceIte, Option.map_some, Obj.put, HCf.out.row, Nat.ne_of_lt l_c, Nat.ne_of_gt l_c] <;> rfl), (by simp only [hS, hA, hD, hM, World.size_setCell, World.size_drew, reduceIte, Option.map_some, Obj.put, HCf.out.row, Nat.ne_of_lt l_c, Nat.ne_of_gt l_c] <;> rfl)⟩ ?_
      rintro w81 ⟨Kw81, cw81_c, cw81_Fu⟩
      have ⟨n_c_Fu, n_Fu_c⟩ := zne l_c
      have ⟨n_mf_Fu, n_Fu_mf⟩ := zne l_mf
      have ⟨n_ms_Fu, n_Fu_ms⟩ := zne l_ms
      have ⟨n_mn_Fu, n_Fu_mn⟩ := zne l_mn
      have o_Fu : w.heap.size ≤ wr.heap.size := HSf.out.size
      have off_Fu : Off K T3 (wr.heap.size) := off_new HCf.out (Nat.le_refl _)
      have o0_Fu : K.w0.heap.size ≤ wr.heap.size := Nat.le_trans HCf.out.keep.size (Nat.le_refl _)
      have HCw81 : Hid (CK K T3 ua3 uc3 ({ st3 with fn := k + 1, loops := 0 }) w81) := zh (HCf.out.upd hK Kw81 cw81_c (by simp) (by simp) (by simp) (by simp) (by simp) rfl rfl rfl (show k + 1 ≤ K.g.funcs.length from hlt) (show (-1000000 : Int) ≤ 0 ∧ (0 : Int) ≤ 1000000 from ⟨by omega, by omega⟩))
      have HSw81 := zh (HSf.out.loc Kw81 (by simp []))
      have Rw81_Fu := zh cw81_Fu
      clear Kw81 cw81_c cw81_Fu l_c xc_0 xc_1 xc_2 xc_3 xc_4 xc_5 xc_6 xc_7 xc_8 xc_9 xc_10 yc_0 yc_1 yc_2 yc_3 yc_4 yc_5 yc_6 yc_7 yc_8 yc_9 yc_10 l_mf l_ms l_mn HCf HSf
      refine (HREC.out _ _ _ _ hb hnb _ _ _ _ HCw81.out).mono ?_
      rintro r e82 ⟨T82, ua82, uc82, rfl, hc, hs⟩
      have off2_Fu := hs.off (h_lt Rw81_Fu.out) off_Fu
      have Re82_Fu := zh (hs.at Rw81_Fu.out off_Fu)
      have off_Fu' := off2_Fu
      have HCe82 := zh hc
      have HSe82 := zh (HSw81.out.trans hs)
      clear Rw81_Fu off_Fu HCw81 HSw81 hc hs
      have off_Fu := off_Fu'
      clear off_Fu' off2_Fu
      obtain ⟨l_c, l_mf, l_ms, l_mn⟩ := HCe82.out.lt
      have l_Fu := h_lt Re82_Fu.out
      go_wp2_with fail
      go_roundg f
      case measure => omega
      case rel =>
       exact ⟨k + 1, by first | rfl | (simp; done) | (simp; omega), by omega, by omega, _, _, _, _, haf, HCe82.out, HSe82.out⟩
    ·have hke : k = K.g.funcs.length := by omega
     subst hke
     rw [List.drop_length, allF] at haf
     obtain rfl : st3 = st' := by simpa using haf
     clear haf
     obtain ⟨l_c, l_mf, l_ms, l_mn⟩ := HCf.out.lt
     go_wp2_with fail
     refine end_at (v := .tuple #[]) (fun W => Keeps [] wr W) (by with_reducible repeat (first | exact k0 _ _ | refine kA ?_ _ | refine kD ?_ | refine kS ?_ (by simp) | refine kM ?_ (by simp))) (fun w81 hW => ?_) rfl (fun w81 hW => ?_)
     ·have Kw81 : Keeps [] wr w81 := hW
      simp [results, Tryz.results25, go_sem]
     ·have Kw81 : Keeps [] wr w81 := hW
      have HCw81 := zh (HCf.out.kp0 Kw81)
      have HSw81 := zh (HSf.out.loc Kw81 (by simp))
      clear Kw81 l_c l_mf l_ms l_mn HCf HSf
      exact ⟨_, _, _, rfl, HCw81.out, HSw81.out⟩
end Go.Proofs.YtkfillfkbhbbjaaGreatDoor
namespace Go.Proofs.YtkfillfkbhbbjaaGreatDoor
open Go.RowKit

/-- A function of the program, wherever the program still lies. -/
theorem func_at {K : CKey} (hK : CFix K) {W : World} (hk : Keeps [] K.w0 W) {i : Nat} (hi : i < K.g.funcs.length) :
  ∃ g o pa pc fm na nc, K.fa = some ⟨g, o, none⟩ ∧ W.cell? ⟨g, o + i * 8, none⟩ = some (.string K.g.funcs[i].name) ∧ W.cell? ⟨g, o + i * 8 + 1, none⟩ = some (.slice pa K.g.funcs[i].params.length pc) ∧ W.cell? ⟨g, o + i * 8 + 2, none⟩ = some (.int .i64 K.g.funcs[i].body.kind) ∧ W.cell? ⟨g, o + i * 8 + 3, none⟩ = some (.string K.g.funcs[i].body.name) ∧ W.cell? ⟨g, o + i * 8 + 4, none⟩ = some (.float .f64 fm) ∧
   W.cell? ⟨g, o + i * 8 + 5, none⟩ = some (.slice na K.g.funcs[i].body.kids.length nc) ∧ W.cell? ⟨g, o + i * 8 + 6, none⟩ = some (.complex .f64 K.g.funcs[i].body.re K.g.funcs[i].body.im) ∧ W.cell? ⟨g, o + i * 8 + 7, none⟩ = some (.complex .f64 K.g.funcs[i].re K.g.funcs[i].im) ∧ SliceR StrE K.w0 (fun _ => True) K.g.funcs[i].params (.slice pa K.g.funcs[i].params.length pc) ∧ K.g.funcs[i].params.length ≤ pc := by
 obtain ⟨g, o, cap, c, hv, -, hg, ⟨pa, pc, b0, b1, b2, b3, b4, rfl, hp, hn⟩, hc⟩ := hK.funcs.get funcL hi
 obtain ⟨fm, na, nc, hvb, -⟩ := hn.kids
 simp only [Value.agg.injEq, Array.mk.injEq, List.cons.injEq, and_true] at hvb
 obtain ⟨rfl, rfl, rfl, rfl, rfl⟩ := hvb
 have hc' : ∀ j u, [.string K.g.funcs[i].name, .slice pa K.g.funcs[i].params.length pc, .int .i64 K.g.funcs[i].body.kind, .string K.g.funcs[i].body.name, .float .f64 fm, .slice na K.g.funcs[i].body.kids.length nc, .complex .f64 K.g.funcs[i].body.re K.g.funcs[i].body.im, .complex .f64 K.g.funcs[i].re K.g.funcs[i].im][j]? = some u → W.cell? ⟨g, o + i * 8 + j, none⟩ = some u := fun j u hj => by
  rw [World.cell?_of_block (w := K.w0) (a := ⟨g, o + i * 8 + j, none⟩) (hk.block g hg (by simp)), Nat.add_assoc]; exact hc j u hj
 have hfa : K.fa = some ⟨g, o, none⟩ := by injection hv
 exact ⟨g, o, pa, pc, fm, na, nc, hfa, hc' 0 _ rfl, hc' 1 _ rfl, hc' 2 _ rfl, hc' 3 _ rfl, hc' 4 _ rfl, hc' 5 _ rfl, hc' 6 _ rfl, hc' 7 _ rfl, hp, hp.cap⟩
theorem flookA_snoc (s : ByteArray) (f : FuncP) : ∀ (l : List FuncP) (i : Nat), flookA s (l ++ [f]) i = if flookA s l i = 0 then (if same s f.name then i + l.length + 1 else 0) else flookA s l i
 | [], i => by simp [flookA]
 | x :: l, i => by
  rw [List.cons_append]
  by_cases h : same s x.name = true
  ·have a1 : flookA s (x :: l) i = i + 1 := by rw [flookA, if_pos h]
   have a2 : flookA s (x :: (l ++ [f])) i = i + 1 := by rw [flookA, if_pos h]
   rw [a1, a2]; simp
  ·have a1 : flookA s (x :: l) i = flookA s l (i + 1) := by rw [flookA, if_neg h]
   have a2 : flookA s (x :: (l ++ [f])) i = flookA s (l ++ [f]) (i + 1) := by rw [flookA, if_neg h]
   rw [a1, a2, flookA_snoc s f l (i + 1)]
   have e : i + 1 + l.length + 1 = i + (x :: l).length + 1 := by simp; omega
   rw [e]
/-- The map of the functions' numbers, as far as it is laid. -/
def MapFi (es : List (Ent ByteArray)) (l : List FuncP) : Prop := ∀ s, kval s es = if flookA s l 0 = 0 then none else some (.int .i64 (flookA s l 0 : Nat))
theorem MapFi.put {es : List (Ent ByteArray)} {l : List FuncP} {f : FuncP} {k : Nat} {v : Int} (h : MapFi es l) (hf : flookA f.name l 0 = 0) (hv : v = (l.length + 1 : Nat)) : MapFi (kput f.name (.int .i64 v) k es).1 (l ++ [f]) := by
 intro s
 rw [kval_kput, flookA_snoc, h s]
 by_cases hs : s = f.name
 ·subst hs
  rw [if_pos rfl, if_pos hf, if_pos (same_iff.2 rfl), hv]
  simp
 ·have : ¬ same s f.name = true := fun h => hs (same_iff.1 h)
  rw [if_neg hs, if_neg this]
  by_cases h0 : flookA s l 0 = 0 <;> simp [h0]
theorem MapFi.skip {es : List (Ent ByteArray)} {l : List FuncP} {f : FuncP} (h : MapFi es l) (hf : flookA f.name l 0 ≠ 0) : MapFi es (l ++ [f]) := by
 intro s
 rw [flookA_snoc, h s]
 by_cases hs : same s f.name = true
 ·rw [same_iff.1 hs, if_neg hf, if_neg hf, if_neg hf]
 ·rw [if_neg hs]
  by_cases h0 : flookA s l 0 = 0 <;> simp [h0]
/-- The checker, its functions' numbers laid. -/
theorem ck_start {K : CKey} (hK : CFix K) {w W : World} (h0 : Keeps [] K.w0 w) (hk : Keeps [K.mf] w W) (hc : w.heap[K.c]? = some (ckC K ns0 none 0)) (hms : w.heap[K.ms]? = some (.map #[] 0)) (hmn : w.heap[K.mn]? = some (.map #[] 0)) {es : List (Ent ByteArray)} {k : Nat}
  (hmf : W.heap[K.mf]? = some (.map (ents (fun s => Value.string s) es) k)) (he : MapFi es K.g.funcs) : ∃ T ua uc, CK K T ua uc ns0 W := by
 refine ⟨fun _ => False, none, 0, h0.trans hk (by simp; exact hK.mf), hk.at hc (by simp [hK.ne.1]), ⟨es, k, hmf, fun s => ?_⟩, ⟨[], 0, hk.at hms (by simp [Ne.symm hK.ne.2.2.2.1]), rfl⟩, ⟨[], 0, hk.at hmn (by simp [Ne.symm hK.ne.2.2.2.2.1]), rfl, by simp, by simp⟩, OwnL.nil, fun _ h => h.elim, fun _ h => h.elim, ⟨id, id, id, id⟩, Nat.zero_le _, by decide, by decide⟩
 rw [he s]
 unfold flook
 by_cases h : flookA s K.g.funcs 0 = 0 <;> simp [h]
def HedI1 (K : CKey) (w : World) (g : Nat) (j : Value) (W : World) : Prop :=
 ∃ k : Nat, j = .int .i64 k ∧ k ≤ K.g.funcs.length ∧ g + k = K.g.funcs.length + 1 ∧ Keeps [K.mf] w W ∧ ∃ es ek, W.heap[K.mf]? = some (.map (ents (fun s => Value.string s) es) ek) ∧ MapFi es (K.g.funcs.take k)
theorem look65n {b : Nat} {W : World} {es : List (Ent ByteArray)} {k : Nat} {s : ByteArray} (hb : W.heap[b]? = some (.map (ents (fun s => Value.string s) es) k)) (h : kval s es = none) : (Instr.lookup 65 (.map (some b)) (.string s) true).run Tryz.prog W = .ok (.tuple #[.int .i64 0, .bool false]) W := by
 have := run_klook_ok (P := Tryz.prog) (keyS Tryz.underlying9) Tryz.underlying65 (z := .int .i64 0) (w := W) (by simp [go_sem]) hb s
 rw [h] at this; exact this
theorem look65s {b : Nat} {W : World} {es : List (Ent ByteArray)} {k : Nat} {s : ByteArray} {v : Value} (hb : W.heap[b]? = some (.map (ents (fun s => Value.string s) es) k)) (h : kval s es = some v) : (Instr.lookup 65 (.map (some b)) (.string s) true).run Tryz.prog W = .ok (.tuple #[v, .bool true]) W := by
 have := run_klook_ok (P := Tryz.prog) (keyS Tryz.underlying9) Tryz.underlying65 (z := .int .i64 0) (w := W) (by simp [go_sem]) hb s
 rw [h] at this; exact this
theorem run_fns {b : Nat} {W : World} {es : List (Ent ByteArray)} {k : Nat} (hb : W.heap[b]? = some (.map (ents (fun s => Value.string s) es) k)) (s : ByteArray) (v : Value) :
  (Instr.mapUpdate 65 (.map (some b)) (.string s) v).run Tryz.prog W = .ok () (mset W b (.map (ents (fun s => Value.string s) (kput s v k es).1) (kput s v k es).2)) :=
 run_kput (P := Tryz.prog) (keyS Tryz.underlying9) Tryz.underlying65 hb s v
def HedI2 (K : CKey) (T : Nat → Prop) (ua : Option Addr) (uc : Nat) (st' : NS) (w : World) (g : Nat) (j : Value) (W : World) : Prop :=
 ∃ k : Nat, j = .int .i64 k ∧ k ≤ K.g.funcs.length ∧ g + k = K.g.funcs.length + 1 ∧ ∃ st, headsA K.g k (K.g.funcs.drop k) st = st' ∧ CK K T ua uc st W ∧ CStep K T T w W
def HedI3 (K : CKey) (T : Nat → Prop) (ua : Option Addr) (uc : Nat) (m : Nat) (f : FuncP) (st' : NS) (w : World) (B : Nat) (ob : Obj) (g : Nat) (j : Value) (W : World) : Prop :=
 ∃ k : Nat, j = .int .i64 k ∧ k ≤ f.params.length ∧ g + k = f.params.length + 1 ∧ ∃ st, headPs K.g m f (f.params.take k) (f.params.drop k) st = st' ∧ CK K T ua uc st W ∧ CStep K T T w W ∧ W.heap[B]? = some ob
def HedI4 (K : CKey) (T : Nat → Prop) (ua : Option Addr) (uc : Nat) (f : FuncP) (s : ByteArray) (l : List ByteArray) (st' : NS) (w : World) (B : Nat) (ob : Obj) (g : Nat) (j : Value) (W : World) : Prop :=
 ∃ k : Nat, j = .int .i64 k ∧ k ≤ l.length ∧ g + k = l.length + 1 ∧ ∃ st, headP f s (l.drop k) st = st' ∧ CK K T ua uc st W ∧ CStep K T T w W ∧ W.heap[B]? = some ob
theorem fault_same {K : CKey} (hK : CFix K) {T : Nat → Prop} {ua : Option Addr} {uc : Nat} {st : NS} {w : World} (h : CK K T ua uc st w) (re im : Nat) (e : Int) :
  Calls Tryz.prog 42 #[.pointer (some ⟨K.c, 0, none⟩), .complex .f64 re im, .int .i64 e] w fun r w' => r = .returned (.tuple #[]) ∧ CK K T ua uc (faultF st re im e) w' ∧ CStep K T T w w' := by
 unfold faultF
 by_cases h0 : st.e = 0
 ·rw [if_pos h0]
  exact fault_y hK h re im e (by simp [h0])
 ·rw [if_neg h0]
  exact fault_n hK h re im e (by simp [h0])
end Go.Proofs.YtkfillfkbhbbjaaGreatDoor
namespace Go.Proofs.YtkfillfkbhbbjaaGreatDoor
open Go.Shelf Go.Sort Go.RowKit
def laysRen : Go.Shelf.Ren := ⟨fun | 192 => 46 | 190 => 79 | 125 => 119 | 258 => 118 | 128 => 152 | 129 => 153 | 302 => 143 | 303 => 144 | 304 => 145 | 305 => 146 | 306 => 147 | 307 => 148 | 308 => 149 | 309 => 150 | 310 => 151 | 333 => 178 | 329 => 179 | 330 => 180 | 334 => 181 | 335 => 182 | 336 => 183 | 344 => 210 | n => n, fun | 31 => 22 | 0 => 0 | 9 => 9 | 3 => 3 | 46 => 178 | 51 => 203 | 53 => 189 | 4 => 4 | 183 => 197 | 182 => 196 | 131 => 97 | 5 => 5 | 218 => 220 | 222 => 59 | 228 => 256 | 229 => 174 | n => n, fun n => n⟩
theorem laysSort : Lays.n192 Tryz.prog laysRen := {
 mixed := by kernel_rfl
 f125 := Tryz.func119.trans (congrArg some (by kernel_rfl))
 f128 := Tryz.func152.trans (congrArg some (by kernel_rfl))
 f129 := Tryz.func153.trans (congrArg some (by kernel_rfl))
 f190 := Tryz.func79.trans (congrArg some (by kernel_rfl))
 f192 := Tryz.func46.trans (congrArg some (by kernel_rfl))
 f258 := Tryz.func118.trans (congrArg some (by kernel_rfl))
 f302 := Tryz.func143.trans (congrArg some (by kernel_rfl))
 f303 := Tryz.func144.trans (congrArg some (by kernel_rfl))
 f304 := Tryz.func145.trans (congrArg some (by kernel_rfl))
 f305 := Tryz.func146.trans (congrArg some (by kernel_rfl))
 f306 := Tryz.func147.trans (congrArg some (by kernel_rfl))
 f307 := Tryz.func148.trans (congrArg some (by kernel_rfl))
 f308 := Tryz.func149.trans (congrArg some (by kernel_rfl))
 f309 := Tryz.func150.trans (congrArg some (by kernel_rfl))
 f310 := Tryz.func151.trans (congrArg some (by kernel_rfl))
 f329 := Tryz.func179.trans (congrArg some (by kernel_rfl))
 f330 := Tryz.func180.trans (congrArg some (by kernel_rfl))
 f333 := Tryz.func178.trans (congrArg some (by kernel_rfl))
 f334 := Tryz.func181.trans (congrArg some (by kernel_rfl))
 f335 := Tryz.func182.trans (congrArg some (by kernel_rfl))
 f336 := Tryz.func183.trans (congrArg some (by kernel_rfl))
 f344 := Tryz.func210.trans (congrArg some (by kernel_rfl))
 t0 := Tryz.underlying0
 a0 := Tryz.isAgg0
 z0 := Tryz.sizeOf0
 v0 := Tryz.zeroValue0
 t3 := Tryz.underlying3
 a3 := Tryz.isAgg3
 z3 := Tryz.sizeOf3
 v3 := Tryz.zeroValue3
 t4 := Tryz.underlying4
 a4 := Tryz.isAgg4
 z4 := Tryz.sizeOf4
 v4 := Tryz.zeroValue4
 t5 := Tryz.underlying5
 a5 := Tryz.isAgg5
 z5 := Tryz.sizeOf5
 v5 := Tryz.zeroValue5
 t9 := Tryz.underlying9
 a9 := Tryz.isAgg9
 z9 := Tryz.sizeOf9
 v9 := Tryz.zeroValue9
 t31 := Tryz.underlying22
 a31 := Tryz.isAgg22
 z31 := Tryz.sizeOf22
 v31 := Tryz.zeroValue22
 t46 := Tryz.underlying178
 a46 := Tryz.isAgg178
 z46 := Tryz.sizeOf178
 v46 := Tryz.zeroValue178
 t51 := Tryz.underlying203
 a51 := Tryz.isAgg203
 z51 := Tryz.sizeOf203
 v51 := Tryz.zeroValue203
 t53 := Tryz.underlying189
 a53 := Tryz.isAgg189
 z53 := Tryz.sizeOf189
 v53 := Tryz.zeroValue189
 t131 := Tryz.underlying97
 a131 := Tryz.isAgg97
 z131 := Tryz.sizeOf97
 v131 := Tryz.zeroValue97
 t182 := Tryz.underlying196
 a182 := Tryz.isAgg196
 z182 := Tryz.sizeOf196
 v182 := Tryz.zeroValue196
 t183 := Tryz.underlying197
 a183 := Tryz.isAgg197
 z183 := Tryz.sizeOf197
 v183 := Tryz.zeroValue197
 t218 := Tryz.underlying220
 a218 := Tryz.isAgg220
 z218 := Tryz.sizeOf220
 v218 := Tryz.zeroValue220
 t222 := Tryz.underlying59
 a222 := Tryz.isAgg59
 z222 := Tryz.sizeOf59
 v222 := Tryz.zeroValue59
 t228 := Tryz.underlying256
 a228 := Tryz.isAgg256
 z228 := Tryz.sizeOf256
 v228 := Tryz.zeroValue256
 t229 := Tryz.underlying174
 a229 := Tryz.isAgg174
 z229 := Tryz.sizeOf174
 v229 := Tryz.zeroValue174 }
theorem strings_any (blk off cap : Nat) (ss : List (List UInt8)) (w : World) (hH : Holds encStr w blk off ss.toArray) (hblk : blk < w.heap.size) (hsz : ss.length < 4611686018427387904) :
  Calls Tryz.prog 46 #[.slice (some ⟨blk, off, none⟩) ss.length cap] w fun e w' =>
   e = .returned (.tuple #[]) ∧ ∃ n os, w' = grow (putRow encStr (Sort.ahead w n) blk off (ss.mergeSort fun x y => decide (x ≤ y)).toArray) os :=
 Any.sort_Strings laysSort blk off cap ss w hH hblk hsz
end Go.Proofs.YtkfillfkbhbbjaaGreatDoor
