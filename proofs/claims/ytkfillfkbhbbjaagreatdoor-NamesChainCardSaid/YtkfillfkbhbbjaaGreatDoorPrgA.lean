/- function, walked. Made by a program (parse.py, walk.py). -/
import Derived.Test.YtkfillfkbhbbjaaGreatDoorData
set_option maxRecDepth 100000
set_option maxHeartbeats 4000000
set_option linter.unusedSimpArgs false
set_option linter.unusedVariables false
namespace Go.Proofs.YtkfillfkbhbbjaaGreatDoor
open Go.RowKit

/-- The parameters so far; the function lies in block F. -/
def ParsI (s : ByteArray) (p R F : Nat) (w : World) (tx : ByteArray) (re im : Nat) (l : List ByteArray) (st : PSt) (W : World) : Prop :=
 ∃ (v : Value) (T : Nat → Prop) (U : Nat), OwnL StrE 9 1 W w.heap.size T l v ∧ (∀ x, T x → x < U) ∧ U ≤ W.heap.size ∧ (∀ x, T x → w.heap.size ≤ x) ∧ ¬ T p ∧ ¬ T R ∧ ¬ T F ∧ PP s p st W ∧ Keeps [p] w W ∧
  W.heap[R]? = some (.cells #[.string ⟨#[]⟩, .slice none 0 0, .int .i64 0, .string ⟨#[]⟩, .float .f64 0, .slice none 0 0, .complex .f64 0 0, .complex .f64 0 0] 61 (0, 0)) ∧ W.heap[F]? = some (.cells #[.string tx, v, .int .i64 0, .string ⟨#[]⟩, .float .f64 0, .slice none 0 0, .complex .f64 0 0, .complex .f64 re im] 61 (0, 0))
def FnI (s : ByteArray) (p R F : Nat) (w : World) (tx : ByteArray) (re im : Nat) (l' : List ByteArray) (st' : PSt) (g : Nat) (W : World) : Prop :=
 ∃ (l : List ByteArray) (st : PSt), paramsF s g l st = some (l', st') ∧ l.length + g ≤ 60 ∧ ParsI s p R F w tx re im l st W
theorem nameF_some {s : ByteArray} {st st2 : PSt} {t : Tok} (h : nameF s st = some (t, st2)) : nextF s st.pos false = some t ∧ t.kind = 5 ∧ st2 = ⟨t.to, st.opn, st.ng⟩ := by
 unfold nameF at h
 cases ht : nextF s st.pos false with
 | none => rw [ht] at h; simp at h
 | some t2 =>
  rw [ht] at h
  simp only [Option.bind_eq_bind, Option.bind_some] at h
  split at h
  ·rename_i h5
   simp only [Option.some.injEq, Prod.mk.injEq] at h
   obtain ⟨rfl, rfl⟩ := h
   exact ⟨rfl, h5, rfl⟩
  ·cases h

theorem take_of_is {s : ByteArray} {st st2 : PSt} {x : ByteArray} {b c : Bool} (h : takeF s st x = some (c, st2)) (hi : isF s st x = some b) : c = b := by
 unfold takeF at h
 unfold isF at hi
 cases ht : nextF s st.pos false with
 | none => rw [ht] at h; simp at h
 | some t =>
  rw [ht] at h hi
  simp only [Option.bind_eq_bind, Option.bind_some, Option.some.injEq] at h hi
  rw [hi] at h
  cases b with
  | false => simp at h; first | exact h.1 | exact h.1.symm
  | true =>
   simp only [if_true] at h
   cases ho : opnF x st.opn with
   | none => rw [ho] at h; simp at h
   | some o => rw [ho] at h; simp at h; first | exact h.1 | exact h.1.symm

theorem function_6 {s : ByteArray} {p : Nat} {st st1 st2 st6 st7 st8 st9 : PSt} {l' : List ByteArray} {b : Node} {kd0 : Int} {tx0 tx : ByteArray} {nm0 fr0 te0 nm fr te : Nat}
  (ht0 : nextF s st.pos false = some ⟨kd0, tx0, nm0, fr0, te0⟩) (hx : takeF s st ⟨#[102, 117, 110, 99, 116, 105, 111, 110]⟩ = some (true, st1)) (ht : nextF s st1.pos false = some ⟨6, tx, nm, fr, te⟩) (hw : wantF s ⟨te, st1.opn, st1.ng⟩ ⟨#[40]⟩ = some st2) (hg : paramsF s 20 [] st2 = some (l', st6))
  (hv : wantF s st6 ⟨#[41]⟩ = some st7) (hz : linesA s st7 ⟨#[]⟩ = some st8) (hb : Hands s p st8 st9 b 107) (w : World) (h : PP s p st w) :
  Calls Tryz.prog 65 #[.pointer (some ⟨p, 0, none⟩)] w fun r w' => ∃ v, r = .returned v ∧ FuncV w' (fun g => w.heap.size ≤ g) ⟨tx, l', b, (placeOf s fr0).1, (placeOf s fr0).2⟩ v ∧ PP s p st9 w' ∧ Keeps [p] w w' := by
 have g_p := h.p
 have g_0 : 14 < w.heap.size := Nat.lt_trans g_p (h_lt h.row)
 have hle : ∀ W, PP s p st1 W → te ≤ s.size := fun W hW => (nextF_le ht hW.le).2.1
 have HLE := zh hle
 have HP0 := zh h; have HK0 := zh (Keeps.refl [p] w); have HT0 := zh ht0; have HX := zh hx; have HT := zh ht; have HW := zh hw; have HG := zh hg; have HV := zh hv; have HZ : Hid (linesF s ⟨#[]⟩ (s.size + 2) st7 = some st8) := zh hz; have HBL := zh hb
 clear h ht0 hx ht hw hg hv hz hb hle
 go_enter Tryz.func65, Tryz.ntmps65
 have l_p := h_lt HP0.out.row
 go_wp2_with fail
 refine calls_at (fun W => Keeps [] w W ∧ W.heap[w.heap.size]? = some (.cells #[.string ⟨#[]⟩, .slice none 0 0, .int .i64 0, .string ⟨#[]⟩, .float .f64 0, .slice none 0 0, .complex .f64 0 0, .complex .f64 0 0] 61 (0, 0))) ⟨(by with_reducible repeat (first | exact k0 _ _ | refine kA ?_ _ | refine kD ?_ | refine kS ?_ (by simp) | refine kM ?_ (by simp))), (by simp only [hS, hA, hD, hM, World.size_setCell, World.size_drew, reduceIte, Option.map_some, Obj.put] <;> rfl)⟩ ?_
 rintro w1 ⟨Kw1, cw1_R⟩
 have ⟨n_p_R, n_R_p⟩ := zne l_p
 have o_R : w.heap.size ≤ w.heap.size := Nat.le_refl _
 have g_R : 14 < w.heap.size := Nat.lt_trans g_p l_p
 have HKw1 := zh (HK0.out.trans Kw1 (by simp))
 have HPw1 := zh (HP0.out.keep Kw1)
 have Rw1_R := zh cw1_R
 clear Kw1 cw1_R l_p HK0 HP0
 refine (here_any HPw1.out HT0.out).mono ?_
 rintro r e2 ⟨rfl, hk⟩
 have Re2_R := zh (hk.at Rw1_R.out (by simp))
 have HKe2 := zh (HKw1.out.trans hk (by simp))
 have HPe2 := zh (HPw1.out.keep hk)
 clear hk Rw1_R HKw1 HPw1
 have l_p := h_lt HPe2.out.row
 have l_R := h_lt Re2_R.out
 go_wp2_with fail
 refine calls_at (fun W => Keeps [] e2 W ∧ W.heap[e2.heap.size]? = some (.cells #[.int .i64 kd0, .string tx0, .float .f64 nm0, .int .i64 fr0, .int .i64 te0] 90 (0, 0))) ⟨(by with_reducible repeat (first | exact k0 _ _ | refine kA ?_ _ | refine kD ?_ | refine kS ?_ (by simp) | refine kM ?_ (by simp))), (by simp only [hS, hA, hD, hM, World.size_setCell, World.size_drew, reduceIte, Option.map_some, Obj.put] <;> rfl)⟩ ?_
 rintro w3 ⟨Kw3, cw3_T0⟩
 have ⟨n_p_T0, n_T0_p⟩ := zne l_p
 have ⟨n_R_T0, n_T0_R⟩ := zne l_R
 have o_T0 : w.heap.size ≤ e2.heap.size := HKe2.out.size
 have g_T0 : 14 < e2.heap.size := Nat.lt_trans g_p l_p
 have Rw3_R := zh (Kw3.at Re2_R.out (by simp))
 have HKw3 := zh (HKe2.out.trans Kw3 (by simp))
 have HPw3 := zh (HPe2.out.keep Kw3)
 have Rw3_T0 := zh cw3_T0
 clear Kw3 cw3_T0 l_p l_R Re2_R HKe2 HPe2
 refine (take_any HPw3.out HX.out).mono ?_
 rintro r e4 ⟨rfl, hp, hk⟩
 have Re4_R := zh (hk.at Rw3_R.out (by simp [n_R_p]))
 have Re4_T0 := zh (hk.at Rw3_T0.out (by simp [n_T0_p]))
 have HKe4 := zh (HKw3.out.trans hk (by simp))
 have HPne4 := zh hp
 clear hp
 clear hk Rw3_R Rw3_T0 HKw3 HPw3
 have l_p := h_lt HPne4.out.row
 have l_R := h_lt Re4_R.out
 have l_T0 := h_lt Re4_T0.out
 go_wp2_with fail
 clear l_p l_R l_T0
 refine (see_any HPne4.out HT.out).mono ?_
 rintro r e5 ⟨rfl, hk⟩
 have Re5_R := zh (hk.at Re4_R.out (by simp))
 have Re5_T0 := zh (hk.at Re4_T0.out (by simp))
 have HKe5 := zh (HKe4.out.trans hk (by simp))
 have HPe5 := zh (HPne4.out.keep hk)
 clear hk Re4_R Re4_T0 HKe4 HPne4
 have l_p := h_lt HPe5.out.row
 have l_R := h_lt Re5_R.out
 have l_T0 := h_lt Re5_T0.out
 go_wp2_with fail
 refine calls_at (fun W => Keeps [] e5 W ∧ W.heap[e5.heap.size]? = some (.cells #[.int .i64 6, .string tx, .float .f64 nm, .int .i64 fr, .int .i64 te] 90 (0, 0))) ⟨(by with_reducible repeat (first | exact k0 _ _ | refine kA ?_ _ | refine kD ?_ | refine kS ?_ (by simp) | refine kM ?_ (by simp))), (by simp only [hS, hA, hD, hM, World.size_setCell, World.size_drew, reduceIte, Option.map_some, Obj.put] <;> rfl)⟩ ?_
 rintro w6 ⟨Kw6, cw6_T⟩
 have ⟨n_p_T, n_T_p⟩ := zne l_p
 have ⟨n_R_T, n_T_R⟩ := zne l_R
 have ⟨n_T0_T, n_T_T0⟩ := zne l_T0
 have o_T : w.heap.size ≤ e5.heap.size := HKe5.out.size
 have g_T : 14 < e5.heap.size := Nat.lt_trans g_p l_p
 have Rw6_R := zh (Kw6.at Re5_R.out (by simp))
 have Rw6_T0 := zh (Kw6.at Re5_T0.out (by simp))
 have HKw6 := zh (HKe5.out.trans Kw6 (by simp))
 have HPw6 := zh (HPe5.out.keep Kw6)
 have Rw6_T := zh cw6_T
 clear Kw6 cw6_T l_p l_R l_T0 Re5_R Re5_T0 HKe5 HPe5
 refine (ok_any HPw6.out).mono ?_
 rintro r w' ⟨rfl, hw'⟩
 rw [hw']
 clear hw'
 have l_p := h_lt HPw6.out.row
 have l_R := h_lt Rw6_R.out
 have l_T0 := h_lt Rw6_T0.out
 obtain ⟨l_T, xT_0, xT_1, xT_2, xT_3, xT_4, yT_0, yT_1, yT_2, yT_3, yT_4⟩ := cf5 Rw6_T.out
 go_wp2_with fail
 refine calls_at (fun W => Keeps [] w6 W ∧ W.heap[w6.heap.size]? = some (.cells #[.string tx, .slice none 0 0, .int .i64 0, .string ⟨#[]⟩, .float .f64 0, .slice none 0 0, .complex .f64 0 0, .complex .f64 (placeOf s fr0).1 (placeOf s fr0).2] 61 (0, 0))) ⟨(by with_reducible repeat (first | exact k0 _ _ | refine kA ?_ _ | refine kD ?_ | refine kS ?_ (by simp) | refine kM ?_ (by simp))), (by simp only [hS, hA, hD, hM, World.size_setCell, World.size_drew, reduceIte, Option.map_some, Obj.put] <;> rfl)⟩ ?_
 rintro w7 ⟨Kw7, cw7_F⟩
 have ⟨n_p_F, n_F_p⟩ := zne l_p
 have ⟨n_R_F, n_F_R⟩ := zne l_R
 have ⟨n_T0_F, n_F_T0⟩ := zne l_T0
 have ⟨n_T_F, n_F_T⟩ := zne l_T
 have o_F : w.heap.size ≤ w6.heap.size := HKw6.out.size
 have g_F : 14 < w6.heap.size := Nat.lt_trans g_p l_p
 have Rw7_R := zh (Kw7.at Rw6_R.out (by simp))
 have Rw7_T0 := zh (Kw7.at Rw6_T0.out (by simp))
 have Rw7_T := zh (Kw7.at Rw6_T.out (by simp))
 have HKw7 := zh (HKw6.out.trans Kw7 (by simp))
 have HPw7 := zh (HPw6.out.keep Kw7)
 have Rw7_F := zh cw7_F
 clear Kw7 cw7_F l_p l_R l_T0 l_T xT_0 xT_1 xT_2 xT_3 xT_4 yT_0 yT_1 yT_2 yT_3 yT_4 Rw6_R Rw6_T0 Rw6_T HKw6 HPw6
 refine (ok_any HPw7.out).mono ?_
 rintro r w' ⟨rfl, hw'⟩
 rw [hw']
 clear hw'
 obtain ⟨l_p, xp_0, xp_1, xp_2, xp_3, xp_4, xp_5, yp_0, yp_1, yp_2, yp_3, yp_4, yp_5⟩ := cf6 HPw7.out.row
 have l_R := h_lt Rw7_R.out
 have l_T0 := h_lt Rw7_T0.out
 obtain ⟨l_T, xT_0, xT_1, xT_2, xT_3, xT_4, yT_0, yT_1, yT_2, yT_3, yT_4⟩ := cf5 Rw7_T.out
 have l_F := h_lt Rw7_F.out
 go_wp2_with fail
 refine calls_at (fun W => Keeps [p] w7 W ∧ W.heap[p]? = some (.cells #[.string s, .int .i64 te, .int .i64 st1.opn, .bool st1.ng, .int .i64 0, .complex .f64 0 0] 87 (0, 0))) ⟨(by with_reducible repeat (first | exact k0 _ _ | refine kA ?_ _ | refine kD ?_ | refine kS ?_ (by simp) | refine kM ?_ (by simp))), (by simp only [hS, hA, hD, hM, reduceIte, Option.map_some, Obj.put, HPw7.out.row, Nat.ne_of_lt l_p, Nat.ne_of_gt l_p] <;> rfl)⟩ ?_
 rintro w8 ⟨Kw8, cw8_p⟩
 have Rw8_R := zh (Kw8.at Rw7_R.out (by simp [n_R_p]))
 have Rw8_T0 := zh (Kw8.at Rw7_T0.out (by simp [n_T0_p]))
 have Rw8_T := zh (Kw8.at Rw7_T.out (by simp [n_T_p]))
 have Rw8_F := zh (Kw8.at Rw7_F.out (by simp [n_F_p]))
 have HKw8 := zh (HKw7.out.trans Kw8 (by simp))
 have HPw8 : Hid (PP s p ⟨te, st1.opn, st1.ng⟩ w8) := zh (HPw7.out.upd Kw8 (by simp [g_p]) cw8_p (HLE.out _ HPw7.out) HPw7.out.ob)
 clear Kw8 cw8_p l_p xp_0 xp_1 xp_2 xp_3 xp_4 xp_5 yp_0 yp_1 yp_2 yp_3 yp_4 yp_5 l_R l_T0 l_T xT_0 xT_1 xT_2 xT_3 xT_4 yT_0 yT_1 yT_2 yT_3 yT_4 l_F Rw7_R Rw7_T0 Rw7_T Rw7_F HKw7 HPw7
 refine (want_any HPw8.out HW.out).mono ?_
 rintro r e9 ⟨rfl, hp, hk⟩
 have Re9_R := zh (hk.at Rw8_R.out (by simp [n_R_p]))
 have Re9_T0 := zh (hk.at Rw8_T0.out (by simp [n_T0_p]))
 have Re9_T := zh (hk.at Rw8_T.out (by simp [n_T_p]))
 have Re9_F := zh (hk.at Rw8_F.out (by simp [n_F_p]))
 have HKe9 := zh (HKw8.out.trans hk (by simp))
 have HPne9 := zh hp
 clear hp
 clear hk Rw8_R Rw8_T0 Rw8_T Rw8_F HKw8 HPw8
 have l_p := h_lt HPne9.out.row
 have l_R := h_lt Re9_R.out
 have l_T0 := h_lt Re9_T0.out
 have l_T := h_lt Re9_T.out
 have l_F := h_lt Re9_F.out
 go_wp2_with fail
 clear l_p l_R l_T0 l_T l_F
 go_loopg [] 20 (fun g wr => FnI s p w.heap.size (w6.heap.size) w tx (placeOf s fr0).1 (placeOf s fr0).2 l' st6 g wr)
 case atStart => exact ⟨[], st2, HG.out, by simp, _, fun _ => False, 0, OwnL.nil, fun _ h => h.elim, Nat.zero_le _, fun _ h => h.elim, fun h => h, fun h => h, fun h => h, HPne9.out, HKe9.out, Re9_R.out, Re9_F.out⟩
 clear HG
 case round =>
  obtain ⟨l, st1, hG, hlen, v, T, U, hl, up_l, us_l, dn_l, ns_l_p, ns_l_R, ns_l_F, hp, hk, hR, hF⟩ := hrel
  obtain ⟨ka, kc, rfl, -⟩ := hl.slice
  have HL1 := zh hl; have HPr := zh hp; have HKr := zh hk; have RR := zh hR; have RF := zh hF
  clear hl hp hk hR hF
  cases gk with
  | zero => simp [paramsF] at hG
  | succ f =>
   rw [paramsF] at hG
   cases ho : isF s st1 (bs [41]) with
   | none => rw [ho] at hG; simp at hG
   | some c =>
    rw [ho] at hG
    simp only [Option.bind_eq_bind, Option.bind_some] at hG
    have HB : Hid (isF s st1 ⟨#[41]⟩ = some c) := zh ho
    clear ho
    cases c with
    | true =>
     simp only [Option.some.injEq, Prod.mk.injEq, if_true] at hG
     obtain ⟨rfl, rfl⟩ := hG
     have l_p := h_lt HPr.out.row
     have l_R := h_lt RR.out
     have l_F := h_lt RF.out
     go_wp2_with fail
     clear l_p l_R l_F
     refine (ok_any HPr.out).mono ?_
     rintro r w' ⟨rfl, hw'⟩
     rw [hw']
     clear hw'
     have l_p := h_lt HPr.out.row
     have l_R := h_lt RR.out
     have l_F := h_lt RF.out
     go_wp2_with fail
     clear l_p l_R l_F
     refine (isF_any HPr.out HB.out).mono ?_
     rintro r e51 ⟨rfl, hk⟩
     have Re51_R := zh (hk.at RR.out (by simp))
     have Re51_F := zh (hk.at RF.out (by simp))
     have HKe51 := zh (HKr.out.trans hk (by simp))
     have HPe51 := zh (HPr.out.keep hk)
     have le51 := zh (OwnL.kp strL HL1.out hk (by simp))
     have us_le51 := Nat.le_trans us_l hk.size
     clear hk RR RF HKr HPr HL1 us_l
     have l_p := h_lt HPe51.out.row
     have l_R := h_lt Re51_R.out
     have l_F := h_lt Re51_F.out
     go_wp2_with fail
     clear l_p l_R l_F
     refine (want_any HPe51.out HV.out).mono ?_
     rintro r e52 ⟨rfl, hp, hk⟩
     have Re52_R := zh (hk.at Re51_R.out (by simp [n_R_p]))
     have Re52_F := zh (hk.at Re51_F.out (by simp [n_F_p]))
     have HKe52 := zh (HKe51.out.trans hk (by simp))
     have le52 := zh (OwnL.kp strL le51.out hk (by simp [ns_l_p]))
     have us_le52 := Nat.le_trans us_le51 hk.size
     have HPne52 := zh hp
     clear hp
     clear hk Re51_R Re51_F HKe51 le51 us_le51 HPe51
     have l_p := h_lt HPne52.out.row
     have l_R := h_lt Re52_R.out
     have l_F := h_lt Re52_F.out
     go_wp2_with fail
     clear l_p l_R l_F
     refine (lines_any HPne52.out HZ.out).mono ?_
     rintro r e53 ⟨rfl, hp, hk⟩
     have Re53_R := zh (hk.at Re52_R.out (by simp [n_R_p]))
     have Re53_F := zh (hk.at Re52_F.out (by simp [n_F_p]))
     have HKe53 := zh (HKe52.out.trans hk (by simp))
     have le53 := zh (OwnL.kp strL le52.out hk (by simp [ns_l_p]))
     have us_le53 := Nat.le_trans us_le52 hk.size
     have HPne53 := zh hp
     clear hp
     clear hk Re52_R Re52_F HKe52 le52 us_le52 HPne52
     have l_p := h_lt HPne53.out.row
     have l_R := h_lt Re53_R.out
     have l_F := h_lt Re53_F.out
     go_wp2_with fail
     clear l_p l_R l_F
     refine (HBL.out _ HPne53.out).mono ?_
     rintro r e54 ⟨v, rfl, hn, hp, hk⟩
     have Re54_R := zh (hk.at Re53_R.out (by simp [n_R_p]))
     have Re54_F := zh (hk.at Re53_F.out (by simp [n_F_p]))
     have HKe54 := zh (HKe53.out.trans hk (by simp))
     have le54 := zh (OwnL.kp strL le53.out hk (by simp [ns_l_p]))
     have us_le54 := Nat.le_trans us_le53 hk.size
     have HPne54 := zh hp
     have be54 := zh hn.seg
     have o_b : w.heap.size ≤ e53.heap.size := HKe53.out.size
     have ns_b_p : ¬ (Seg e53.heap.size e54.heap.size) (p) := fun h => Nat.not_lt_of_le h.1 (h_lt HPne53.out.row)
     have ns_b_R : ¬ (Seg e53.heap.size e54.heap.size) (w.heap.size) := fun h => Nat.not_lt_of_le h.1 (h_lt Re53_R.out)
     have ns_b_F : ¬ (Seg e53.heap.size e54.heap.size) (w6.heap.size) := fun h => Nat.not_lt_of_le h.1 (h_lt Re53_F.out)
     have up_b : ∀ g, (Seg e53.heap.size e54.heap.size) g → g < e54.heap.size := fun _ h => h.2
     have dn_b : ∀ g, (Seg e53.heap.size e54.heap.size) g → w.heap.size ≤ g := fun _ h => Nat.le_trans o_b h.1
     have us_l_b := us_le53
     obtain ⟨bt, bm, ba, bl, bc, br, bi, rfl, -, -⟩ := hn.shape
     clear hn hp
     clear hk Re53_R Re53_F HKe53 le53 us_le53 HPne53
     have l_p := h_lt HPne54.out.row
     obtain ⟨l_R, xR_0, xR_1, xR_2, xR_3, xR_4, xR_5, xR_6, xR_7, yR_0, yR_1, yR_2, yR_3, yR_4, yR_5, yR_6, yR_7⟩ := cf8 Re54_R.out
     obtain ⟨l_F, xF_0, xF_1, xF_2, xF_3, xF_4, xF_5, xF_6, xF_7, yF_0, yF_1, yF_2, yF_3, yF_4, yF_5, yF_6, yF_7⟩ := cf8 Re54_F.out
     go_wp2_with fail
     refine ret_at (v := .agg #[.string tx, .slice ka l.length kc, .int .i64 b.kind, .string bt, .float .f64 bm, .slice ba bl bc, .complex .f64 br bi, .complex .f64 (placeOf s fr0).1 (placeOf s fr0).2]) (fun W => Keeps [w6.heap.size, w.heap.size] e54 W ∧ W.heap[w6.heap.size]? = some (.cells #[.string tx, .slice ka l.length kc, .int .i64 b.kind, .string bt, .float .f64 bm, .slice ba bl bc, .complex .f64 br bi, .complex .f64 (placeOf s fr0).1 (placeOf s fr0).2] 61 (0, 0)) ∧ W.heap[w.heap.size]? = some (.cells #[.string tx, .slice ka l.length kc, .int .i64 b.kind, .string bt, .float .f64 bm, .slice ba bl bc, .complex .f64 br bi, .complex .f64 (placeOf s fr0).1 (placeOf s fr0).2] 61 (0, 0))) ⟨(by with_reducible repeat (first | exact k0 _ _ | refine kA ?_ _ | refine kD ?_ | refine kS ?_ (by simp) | refine kM ?_ (by simp))), (by simp only [hS, hA, hD, hM, reduceIte, Option.map_some, Obj.put, Re54_F.out, Re54_R.out, n_F_R, n_R_F, Nat.ne_of_lt l_F, Nat.ne_of_gt l_F, Nat.ne_of_lt l_R, Nat.ne_of_gt l_R] <;> rfl), (by simp only [hS, hA, hD, hM, reduceIte, Option.map_some, Obj.put, Re54_F.out, Re54_R.out, n_F_R, n_R_F, Nat.ne_of_lt l_F, Nat.ne_of_gt l_F, Nat.ne_of_lt l_R, Nat.ne_of_gt l_R] <;> rfl)⟩ (fun w55 hW => ?_) rfl (fun w55 hW => ?_)
     ·obtain ⟨Kw55, cw55_F, cw55_R⟩ := hW
      have q0 := cell_of_heap cw55_R 0
      have q1 := cell_of_heap cw55_R 1
      have q2 := cell_of_heap cw55_R 2
      have q3 := cell_of_heap cw55_R 3
      have q4 := cell_of_heap cw55_R 4
      have q5 := cell_of_heap cw55_R 5
      have q6 := cell_of_heap cw55_R 6
      have q7 := cell_of_heap cw55_R 7
      simp at q0 q1 q2 q3 q4 q5 q6 q7
      simp [results, Tryz.results65, go_sem, q0, q1, q2, q3, q4, q5, q6, q7]
     ·obtain ⟨Kw55, cw55_F, cw55_R⟩ := hW
      have HKw55 := zh (HKe54.out.trans Kw55 (by simp [o_F, o_R]))
      have HPw55 := zh (HPne54.out.keepN Kw55 (by simp [n_p_F, n_p_R]) (by simp [g_F, g_R]))
      have lw55 := zh (OwnL.kp strL le54.out Kw55 (by simp [ns_l_F, ns_l_R]))
      have us_lw55 := Nat.le_trans us_le54 Kw55.size
      have bw55 := zh (be54.out.kp Kw55 (by simp [ns_b_F, ns_b_R]))
      have us_bw55 := Nat.le_trans (Nat.le_refl e54.heap.size) Kw55.size
      have Rw55_F := zh cw55_F
      have Rw55_R := zh cw55_R
      clear Kw55 cw55_F cw55_R l_p l_R xR_0 xR_1 xR_2 xR_3 xR_4 xR_5 xR_6 xR_7 yR_0 yR_1 yR_2 yR_3 yR_4 yR_5 yR_6 yR_7 l_F xF_0 xF_1 xF_2 xF_3 xF_4 xF_5 xF_6 xF_7 yF_0 yF_1 yF_2 yF_3 yF_4 yF_5 yF_6 yF_7 HKe54 HPne54 le54 us_le54 be54 Re54_F Re54_R
      exact ⟨_, rfl, ⟨_, _, _, _, _, _, _, rfl, (sliceR_of_own strL lw55.out).to strL dn_l, bw55.out.to dn_b⟩, HPw55.out, HKw55.out⟩
    | false =>
     simp only [Bool.false_eq_true, if_false, Option.bind_eq_some_iff, Prod.exists] at hG
     obtain ⟨tn, st2n, hn, hG⟩ := hG
     obtain ⟨hn1, hn2, rfl⟩ := nameF_some hn
     obtain ⟨kd2, tx2, nm2, fr2, te2⟩ := tn
     simp only at hn2
     subst hn2
     have HN := zh hn1
     have hle2 : te2 ≤ s.size := (nextF_le hn1 HPr.out.le).2.1
     clear hn hn1
     split at hG
     ·cases hG
     rename_i h8
     have n8 : ((l.length : Int) == 8) = false := by rw [beq_eq_false_iff_ne]; omega
     clear h8
     simp only [Option.bind_eq_some_iff, Prod.exists] at hG
     obtain ⟨c, hc, hG⟩ := hG
     have HC : Hid (isF s ⟨te2, st1.opn, st1.ng⟩ ⟨#[44]⟩ = some c) := zh hc
     clear hc
     cases c with
     | false =>
      simp only [Bool.false_eq_true, if_false, Option.some.injEq, Prod.mk.injEq] at hG
      obtain ⟨rfl, rfl⟩ := hG
      have l_p := h_lt HPr.out.row
      have l_R := h_lt RR.out
      have l_F := h_lt RF.out
      go_wp2_with fail
      clear l_p l_R l_F
      refine (ok_any HPr.out).mono ?_
      rintro r w' ⟨rfl, hw'⟩
      rw [hw']
      clear hw'
      have l_p := h_lt HPr.out.row
      have l_R := h_lt RR.out
      have l_F := h_lt RF.out
      go_wp2_with fail
      clear l_p l_R l_F
      refine (isF_any HPr.out HB.out).mono ?_
      rintro r e51 ⟨rfl, hk⟩
      have Re51_R := zh (hk.at RR.out (by simp))
      have Re51_F := zh (hk.at RF.out (by simp))
      have HKe51 := zh (HKr.out.trans hk (by simp))
      have HPe51 := zh (HPr.out.keep hk)
      have le51 := zh (OwnL.kp strL HL1.out hk (by simp))
      have us_le51 := Nat.le_trans us_l hk.size
      clear hk RR RF HKr HPr HL1 us_l
      have l_p := h_lt HPe51.out.row
      have l_R := h_lt Re51_R.out
      have l_F := h_lt Re51_F.out
      go_wp2_with fail
      clear l_p l_R l_F
      refine (name_any HPe51.out HN.out rfl).mono ?_
      rintro r e52 ⟨rfl, hp, hk⟩
      have Re52_R := zh (hk.at Re51_R.out (by simp [n_R_p]))
      have Re52_F := zh (hk.at Re51_F.out (by simp [n_F_p]))
      have HKe52 := zh (HKe51.out.trans hk (by simp))
      have le52 := zh (OwnL.kp strL le51.out hk (by simp [ns_l_p]))
      have us_le52 := Nat.le_trans us_le51 hk.size
      have HPne52 := zh hp
      clear hp
      clear hk Re51_R Re51_F HKe51 le51 us_le51 HPe51
      have l_p := h_lt HPne52.out.row
      have l_R := h_lt Re52_R.out
      have l_F := h_lt Re52_F.out
      go_wp2_with fail
      refine calls_at (fun W => Keeps [] e52 W ∧ W.heap[e52.heap.size]? = some (.cells #[.int .i64 5, .string tx2, .float .f64 nm2, .int .i64 fr2, .int .i64 te2] 90 (0, 0))) ⟨(by with_reducible repeat (first | exact k0 _ _ | refine kA ?_ _ | refine kD ?_ | refine kS ?_ (by simp) | refine kM ?_ (by simp))), (by simp only [hS, hA, hD, hM, World.size_setCell, World.size_drew, reduceIte, Option.map_some, Obj.put] <;> rfl)⟩ ?_
      rintro w53 ⟨Kw53, cw53_T7⟩
      have ⟨n_p_T7, n_T7_p⟩ := zne l_p
      have ⟨n_R_T7, n_T7_R⟩ := zne l_R
      have ⟨n_F_T7, n_T7_F⟩ := zne l_F
      have o_T7 : w.heap.size ≤ e52.heap.size := HKe52.out.size
      have g_T7 : 14 < e52.heap.size := Nat.lt_trans g_p l_p
      have ns_l_T7 : ¬ (T) (e52.heap.size) := fun h => Nat.not_lt_of_le (us_le52) (up_l _ h)
      have Rw53_R := zh (Kw53.at Re52_R.out (by simp))
      have Rw53_F := zh (Kw53.at Re52_F.out (by simp))
      have HKw53 := zh (HKe52.out.trans Kw53 (by simp))
      have HPw53 := zh (HPne52.out.keep Kw53)
      have lw53 := zh (OwnL.kp strL le52.out Kw53 (by simp))
      have us_lw53 := Nat.le_trans us_le52 Kw53.size
      have Rw53_T7 := zh cw53_T7
      clear Kw53 cw53_T7 l_p l_R l_F Re52_R Re52_F HKe52 HPne52 le52 us_le52
      refine (ok_any HPw53.out).mono ?_
      rintro r w' ⟨rfl, hw'⟩
      rw [hw']
      clear hw'
      have l_p := h_lt HPw53.out.row
      have l_R := h_lt Rw53_R.out
      obtain ⟨l_F, xF_0, xF_1, xF_2, xF_3, xF_4, xF_5, xF_6, xF_7, yF_0, yF_1, yF_2, yF_3, yF_4, yF_5, yF_6, yF_7⟩ := cf8 Rw53_F.out
      obtain ⟨l_T7, xT7_0, xT7_1, xT7_2, xT7_3, xT7_4, yT7_0, yT7_1, yT7_2, yT7_3, yT7_4⟩ := cf5 Rw53_T7.out
      go_wp2_with (
       at_builtin
       go_loud (
        refine list_at (fun W => Keeps [] w53 W ∧ W.heap[w53.heap.size]? = some (.cells #[.string tx2] 9 (0, 0))) ⟨(by with_reducible repeat (first | exact k0 _ _ | refine kA ?_ _ | refine kD ?_ | refine kS ?_ (by simp) | refine kM ?_ (by simp))), (by simp only [hS, hA, hD, hM, World.size_setCell, World.size_drew, reduceIte, Option.map_some, Obj.put] <;> rfl)⟩ ?_
        rintro w54 ⟨Kw54, cw54_G⟩
        have ⟨n_p_G, n_G_p⟩ := zne l_p
        have ⟨n_R_G, n_G_R⟩ := zne l_R
        have ⟨n_F_G, n_G_F⟩ := zne l_F
        have ⟨n_T7_G, n_G_T7⟩ := zne l_T7
        have o_G : w.heap.size ≤ w53.heap.size := HKw53.out.size
        have g_G : 14 < w53.heap.size := Nat.lt_trans g_p l_p
        have ns_l_G : ¬ (T) (w53.heap.size) := fun h => Nat.not_lt_of_le (us_lw53) (up_l _ h)
        have Rw54_R := zh (Kw54.at Rw53_R.out (by simp))
        have Rw54_F := zh (Kw54.at Rw53_F.out (by simp))
        have Rw54_T7 := zh (Kw54.at Rw53_T7.out (by simp))
        have HKw54 := zh (HKw53.out.trans Kw54 (by simp))
        have HPw54 := zh (HPw53.out.keep Kw54)
        have lw54 := zh (OwnL.kp strL lw53.out Kw54 (by simp))
        have us_lw54 := Nat.le_trans us_lw53 Kw54.size
        have Rw54_G := zh cw54_G
        clear Kw54 cw54_G l_p l_R l_F xF_0 xF_1 xF_2 xF_3 xF_4 xF_5 xF_6 xF_7 yF_0 yF_1 yF_2 yF_3 yF_4 yF_5 yF_6 yF_7 l_T7 xT7_0 xT7_1 xT7_2 xT7_3 xT7_4 yT7_0 yT7_1 yT7_2 yT7_3 yT7_4 Rw53_R Rw53_F Rw53_T7 HKw53 HPw53 lw53 us_lw53
        refine app_str rfl (.tmp 68) (.tmp 71) rfl rfl rfl lw54.out Rw54_G.out (fun g hg => Nat.lt_of_lt_of_le (up_l g hg) us_lw54) (HKw54.out.size) (by omega) ?_))
      intro ve55 e55 fl hfl hk hown
      have Re55_R := zh (hk.at Rw54_R.out (fun h => ns_l_R (hfl _ h)))
      have Re55_F := zh (hk.at Rw54_F.out (fun h => ns_l_F (hfl _ h)))
      have Re55_T7 := zh (hk.at Rw54_T7.out (fun h => ns_l_T7 (hfl _ h)))
      have Re55_G := zh (hk.at Rw54_G.out (fun h => ns_l_G (hfl _ h)))
      have HKe55 := zh (HKw54.out.trans hk (fun x h => .inr (dn_l x (hfl x h))))
      have HPe55 := zh (HPw54.out.keepN hk (fun h => ns_l_p (hfl _ h)) (fun x h => Nat.lt_of_lt_of_le g_0 (dn_l x (hfl x h))))
      have us_le55 := Nat.le_trans us_lw54 hk.size
      obtain ⟨ka2, kc2, hva, -⟩ := hown.slice
      obtain ⟨kn, hkn⟩ : ∃ k, k = (l ++ [tx2]).length := ⟨_, rfl⟩
      rw [← hkn] at hva
      subst hva
      have HKN := zh hkn
      have us_k0 := us_le55
      have hpack : ∃ T2 : Nat → Prop, OwnL StrE 9 1 e55 w.heap.size T2 (l ++ [tx2]) (.slice ka2 kn kc2) ∧ (∀ x, T2 x → x < e55.heap.size) ∧ (∀ x, T2 x → w.heap.size ≤ x) ∧ ¬ T2 (p) ∧ ¬ T2 (w.heap.size) ∧ ¬ T2 (w6.heap.size) ∧ ¬ T2 (e52.heap.size) :=
       ⟨_, hown, fun x h => h.elim (fun h => Nat.lt_of_lt_of_le (up_l x h) us_k0) fun h => h.2, fun x h => h.elim (dn_l x) fun h => Nat.le_trans (HKw54.out.size) h.1, fun h => h.elim ns_l_p fun h => Nat.not_lt_of_le h.1 (h_lt HPw54.out.row), fun h => h.elim ns_l_R fun h => Nat.not_lt_of_le h.1 (h_lt Rw54_R.out), fun h => h.elim ns_l_F fun h => Nat.not_lt_of_le h.1 (h_lt Rw54_F.out), fun h => h.elim ns_l_T7 fun h => Nat.not_lt_of_le h.1 (h_lt Rw54_T7.out)⟩
      obtain ⟨T2, hown2, up_k, dn_k, ns_k_p, ns_k_R, ns_k_F, ns_k_T7⟩ := hpack
      have HL2e55 := zh hown2
      clear hown hown2 hkn hk hfl us_lw54
      have l_p := h_lt HPe55.out.row
      have l_R := h_lt Re55_R.out
      obtain ⟨l_F, xF_0, xF_1, xF_2, xF_3, xF_4, xF_5, xF_6, xF_7, yF_0, yF_1, yF_2, yF_3, yF_4, yF_5, yF_6, yF_7⟩ := cf8 Re55_F.out
      have l_T7 := h_lt Re55_T7.out
      go_wp2_with fail
      refine calls_at (fun W => Keeps [w6.heap.size] e55 W ∧ W.heap[w6.heap.size]? = some (.cells #[.string tx, .slice ka2 kn kc2, .int .i64 0, .string ⟨#[]⟩, .float .f64 0, .slice none 0 0, .complex .f64 0 0, .complex .f64 (placeOf s fr0).1 (placeOf s fr0).2] 61 (0, 0))) ⟨(by with_reducible repeat (first | exact k0 _ _ | refine kA ?_ _ | refine kD ?_ | refine kS ?_ (by simp) | refine kM ?_ (by simp))), (by simp only [hS, hA, hD, hM, reduceIte, Option.map_some, Obj.put, Re55_F.out, Nat.ne_of_lt l_F, Nat.ne_of_gt l_F] <;> rfl)⟩ ?_
      rintro w56 ⟨Kw56, cw56_F⟩
      have Rw56_R := zh (Kw56.at Re55_R.out (by simp [n_R_F]))
      have Rw56_T7 := zh (Kw56.at Re55_T7.out (by simp [n_T7_F]))
      have HKw56 := zh (HKe55.out.trans Kw56 (by simp [o_F]))
      have HPw56 := zh (HPe55.out.keepN Kw56 (by simp [n_p_F]) (by simp [g_F]))
      have us_lw56 := Nat.le_trans us_le55 Kw56.size
      have kw56 := zh (OwnL.kp strL HL2e55.out Kw56 (by simp [ns_k_F]))
      have us_kw56 := Nat.le_trans (Nat.le_refl e55.heap.size) Kw56.size
      have Rw56_F := zh cw56_F
      clear Kw56 cw56_F l_p l_R l_F xF_0 xF_1 xF_2 xF_3 xF_4 xF_5 xF_6 xF_7 yF_0 yF_1 yF_2 yF_3 yF_4 yF_5 yF_6 yF_7 l_T7 Re55_R Re55_T7 HKe55 HPe55 us_le55 HL2e55 Re55_F
      refine (isF_any HPw56.out HC.out).mono ?_
      rintro r e57 ⟨rfl, hk⟩
      have Re57_R := zh (hk.at Rw56_R.out (by simp))
      have Re57_F := zh (hk.at Rw56_F.out (by simp))
      have Re57_T7 := zh (hk.at Rw56_T7.out (by simp))
      have HKe57 := zh (HKw56.out.trans hk (by simp))
      have HPe57 := zh (HPw56.out.keep hk)
      have us_le57 := Nat.le_trans us_lw56 hk.size
      have ke57 := zh (OwnL.kp strL kw56.out hk (by simp))
      have us_ke57 := Nat.le_trans us_kw56 hk.size
      clear hk Rw56_R Rw56_F Rw56_T7 HKw56 HPw56 us_lw56 kw56 us_kw56
      have l_p := h_lt HPe57.out.row
      have l_R := h_lt Re57_R.out
      have l_F := h_lt Re57_F.out
      have l_T7 := h_lt Re57_T7.out
      go_wp2_with fail
      clear l_p l_R l_F l_T7
      refine (want_any HPe57.out HV.out).mono ?_
      rintro r e58 ⟨rfl, hp, hk⟩
      have Re58_R := zh (hk.at Re57_R.out (by simp [n_R_p]))
      have Re58_F := zh (hk.at Re57_F.out (by simp [n_F_p]))
      have Re58_T7 := zh (hk.at Re57_T7.out (by simp [n_T7_p]))
      have HKe58 := zh (HKe57.out.trans hk (by simp))
      have us_le58 := Nat.le_trans us_le57 hk.size
      have ke58 := zh (OwnL.kp strL ke57.out hk (by simp [ns_k_p]))
      have us_ke58 := Nat.le_trans us_ke57 hk.size
      have HPne58 := zh hp
      clear hp
      clear hk Re57_R Re57_F Re57_T7 HKe57 us_le57 ke57 us_ke57 HPe57
      have l_p := h_lt HPne58.out.row
      have l_R := h_lt Re58_R.out
      have l_F := h_lt Re58_F.out
      have l_T7 := h_lt Re58_T7.out
      go_wp2_with fail
      clear l_p l_R l_F l_T7
      refine (lines_any HPne58.out HZ.out).mono ?_
      rintro r e59 ⟨rfl, hp, hk⟩
      have Re59_R := zh (hk.at Re58_R.out (by simp [n_R_p]))
      have Re59_F := zh (hk.at Re58_F.out (by simp [n_F_p]))
      have Re59_T7 := zh (hk.at Re58_T7.out (by simp [n_T7_p]))
      have HKe59 := zh (HKe58.out.trans hk (by simp))
      have us_le59 := Nat.le_trans us_le58 hk.size
      have ke59 := zh (OwnL.kp strL ke58.out hk (by simp [ns_k_p]))
      have us_ke59 := Nat.le_trans us_ke58 hk.size
      have HPne59 := zh hp
      clear hp
      clear hk Re58_R Re58_F Re58_T7 HKe58 us_le58 ke58 us_ke58 HPne58
      have l_p := h_lt HPne59.out.row
      have l_R := h_lt Re59_R.out
      have l_F := h_lt Re59_F.out
      have l_T7 := h_lt Re59_T7.out
      go_wp2_with fail
      clear l_p l_R l_F l_T7
      refine (HBL.out _ HPne59.out).mono ?_
      rintro r e60 ⟨v, rfl, hn, hp, hk⟩
      have Re60_R := zh (hk.at Re59_R.out (by simp [n_R_p]))
      have Re60_F := zh (hk.at Re59_F.out (by simp [n_F_p]))
      have Re60_T7 := zh (hk.at Re59_T7.out (by simp [n_T7_p]))
      have HKe60 := zh (HKe59.out.trans hk (by simp))
      have us_le60 := Nat.le_trans us_le59 hk.size
      have ke60 := zh (OwnL.kp strL ke59.out hk (by simp [ns_k_p]))
      have us_ke60 := Nat.le_trans us_ke59 hk.size
      have HPne60 := zh hp
      have be60 := zh hn.seg
      have o_b : w.heap.size ≤ e59.heap.size := HKe59.out.size
      have ns_b_p : ¬ (Seg e59.heap.size e60.heap.size) (p) := fun h => Nat.not_lt_of_le h.1 (h_lt HPne59.out.row)
      have ns_b_R : ¬ (Seg e59.heap.size e60.heap.size) (w.heap.size) := fun h => Nat.not_lt_of_le h.1 (h_lt Re59_R.out)
      have ns_b_F : ¬ (Seg e59.heap.size e60.heap.size) (w6.heap.size) := fun h => Nat.not_lt_of_le h.1 (h_lt Re59_F.out)
      have ns_b_T7 : ¬ (Seg e59.heap.size e60.heap.size) (e52.heap.size) := fun h => Nat.not_lt_of_le h.1 (h_lt Re59_T7.out)
      have up_b : ∀ g, (Seg e59.heap.size e60.heap.size) g → g < e60.heap.size := fun _ h => h.2
      have dn_b : ∀ g, (Seg e59.heap.size e60.heap.size) g → w.heap.size ≤ g := fun _ h => Nat.le_trans o_b h.1
      have us_l_b := us_le59
      have us_k_b := us_ke59
      obtain ⟨bt, bm, ba, bl, bc, br, bi, rfl, -, -⟩ := hn.shape
      clear hn hp
      clear hk Re59_R Re59_F Re59_T7 HKe59 us_le59 ke59 us_ke59 HPne59
      have l_p := h_lt HPne60.out.row
      obtain ⟨l_R, xR_0, xR_1, xR_2, xR_3, xR_4, xR_5, xR_6, xR_7, yR_0, yR_1, yR_2, yR_3, yR_4, yR_5, yR_6, yR_7⟩ := cf8 Re60_R.out
      obtain ⟨l_F, xF_0, xF_1, xF_2, xF_3, xF_4, xF_5, xF_6, xF_7, yF_0, yF_1, yF_2, yF_3, yF_4, yF_5, yF_6, yF_7⟩ := cf8 Re60_F.out
      have l_T7 := h_lt Re60_T7.out
      go_wp2_with fail
      refine ret_at (v := .agg #[.string tx, .slice ka2 kn kc2, .int .i64 b.kind, .string bt, .float .f64 bm, .slice ba bl bc, .complex .f64 br bi, .complex .f64 (placeOf s fr0).1 (placeOf s fr0).2]) (fun W => Keeps [w6.heap.size, w.heap.size] e60 W ∧ W.heap[w6.heap.size]? = some (.cells #[.string tx, .slice ka2 kn kc2, .int .i64 b.kind, .string bt, .float .f64 bm, .slice ba bl bc, .complex .f64 br bi, .complex .f64 (placeOf s fr0).1 (placeOf s fr0).2] 61 (0, 0)) ∧ W.heap[w.heap.size]? = some (.cells #[.string tx, .slice ka2 kn kc2, .int .i64 b.kind, .string bt, .float .f64 bm, .slice ba bl bc, .complex .f64 br bi, .complex .f64 (placeOf s fr0).1 (placeOf s fr0).2] 61 (0, 0))) ⟨(by with_reducible repeat (first | exact k0 _ _ | refine kA ?_ _ | refine kD ?_ | refine kS ?_ (by simp) | refine kM ?_ (by simp))), (by simp only [hS, hA, hD, hM, reduceIte, Option.map_some, Obj.put, Re60_F.out, Re60_R.out, n_F_R, n_R_F, Nat.ne_of_lt l_F, Nat.ne_of_gt l_F, Nat.ne_of_lt l_R, Nat.ne_of_gt l_R] <;> rfl), (by simp only [hS, hA, hD, hM, reduceIte, Option.map_some, Obj.put, Re60_F.out, Re60_R.out, n_F_R, n_R_F, Nat.ne_of_lt l_F, Nat.ne_of_gt l_F, Nat.ne_of_lt l_R, Nat.ne_of_gt l_R] <;> rfl)⟩ (fun w61 hW => ?_) rfl (fun w61 hW => ?_)
      ·obtain ⟨Kw61, cw61_F, cw61_R⟩ := hW
       have q0 := cell_of_heap cw61_R 0
       have q1 := cell_of_heap cw61_R 1
       have q2 := cell_of_heap cw61_R 2
       have q3 := cell_of_heap cw61_R 3
       have q4 := cell_of_heap cw61_R 4
       have q5 := cell_of_heap cw61_R 5
       have q6 := cell_of_heap cw61_R 6
       have q7 := cell_of_heap cw61_R 7
       simp at q0 q1 q2 q3 q4 q5 q6 q7
       simp [results, Tryz.results65, go_sem, q0, q1, q2, q3, q4, q5, q6, q7]
      ·obtain ⟨Kw61, cw61_F, cw61_R⟩ := hW
       have Rw61_T7 := zh (Kw61.at Re60_T7.out (by simp [n_T7_F, n_T7_R]))
       have HKw61 := zh (HKe60.out.trans Kw61 (by simp [o_F, o_R]))
       have HPw61 := zh (HPne60.out.keepN Kw61 (by simp [n_p_F, n_p_R]) (by simp [g_F, g_R]))
       have us_lw61 := Nat.le_trans us_le60 Kw61.size
       have kw61 := zh (OwnL.kp strL ke60.out Kw61 (by simp [ns_k_F, ns_k_R]))
       have us_kw61 := Nat.le_trans us_ke60 Kw61.size
       have bw61 := zh (be60.out.kp Kw61 (by simp [ns_b_F, ns_b_R]))
       have us_bw61 := Nat.le_trans (Nat.le_refl e60.heap.size) Kw61.size
       have Rw61_F := zh cw61_F
       have Rw61_R := zh cw61_R
       clear Kw61 cw61_F cw61_R l_p l_R xR_0 xR_1 xR_2 xR_3 xR_4 xR_5 xR_6 xR_7 yR_0 yR_1 yR_2 yR_3 yR_4 yR_5 yR_6 yR_7 l_F xF_0 xF_1 xF_2 xF_3 xF_4 xF_5 xF_6 xF_7 yF_0 yF_1 yF_2 yF_3 yF_4 yF_5 yF_6 yF_7 l_T7 Re60_T7 HKe60 HPne60 us_le60 ke60 us_ke60 be60 Re60_F Re60_R
       have hkn := HKN.out
       subst hkn
       exact ⟨_, rfl, ⟨_, _, _, _, _, _, _, rfl, (sliceR_of_own strL kw61.out).to strL dn_k, bw61.out.to dn_b⟩, HPw61.out, HKw61.out⟩
     | true =>
      simp only [if_true, Option.bind_eq_some_iff, Prod.exists] at hG
      obtain ⟨c, st3, hd, st4, he, t3, h3, hG⟩ := hG
      split at hG
      rotate_left
      ·cases hG
      rename_i h5
      obtain ⟨kd3, tx3, nm3, fr3, te3⟩ := t3
      simp only at h5
      subst h5
      have hcc : c = true := take_of_is hd HC.out
      subst hcc
      have HD : Hid (takeF s ⟨te2, st1.opn, st1.ng⟩ ⟨#[44]⟩ = some (true, st3)) := zh hd
      have HE : Hid (linesF s ⟨#[]⟩ (s.size + 2) st3 = some st4) := zh he
      have HF2 := zh h3; have HF := zh hG
      clear hd he h3 hG
      have l_p := h_lt HPr.out.row
      have l_R := h_lt RR.out
      have l_F := h_lt RF.out
      go_wp2_with fail
      clear l_p l_R l_F
      refine (ok_any HPr.out).mono ?_
      rintro r w' ⟨rfl, hw'⟩
      rw [hw']
      clear hw'
      have l_p := h_lt HPr.out.row
      have l_R := h_lt RR.out
      have l_F := h_lt RF.out
      go_wp2_with fail
      clear l_p l_R l_F
      refine (isF_any HPr.out HB.out).mono ?_
      rintro r e51 ⟨rfl, hk⟩
      have Re51_R := zh (hk.at RR.out (by simp))
      have Re51_F := zh (hk.at RF.out (by simp))
      have HKe51 := zh (HKr.out.trans hk (by simp))
      have HPe51 := zh (HPr.out.keep hk)
      have le51 := zh (OwnL.kp strL HL1.out hk (by simp))
      have us_le51 := Nat.le_trans us_l hk.size
      clear hk RR RF HKr HPr HL1 us_l
      have l_p := h_lt HPe51.out.row
      have l_R := h_lt Re51_R.out
      have l_F := h_lt Re51_F.out
      go_wp2_with fail
      clear l_p l_R l_F
      refine (name_any HPe51.out HN.out rfl).mono ?_
      rintro r e52 ⟨rfl, hp, hk⟩
      have Re52_R := zh (hk.at Re51_R.out (by simp [n_R_p]))
      have Re52_F := zh (hk.at Re51_F.out (by simp [n_F_p]))
      have HKe52 := zh (HKe51.out.trans hk (by simp))
      have le52 := zh (OwnL.kp strL le51.out hk (by simp [ns_l_p]))
      have us_le52 := Nat.le_trans us_le51 hk.size
      have HPne52 := zh hp
      clear hp
      clear hk Re51_R Re51_F HKe51 le51 us_le51 HPe51
      have l_p := h_lt HPne52.out.row
      have l_R := h_lt Re52_R.out
      have l_F := h_lt Re52_F.out
      go_wp2_with fail
      refine calls_at (fun W => Keeps [] e52 W ∧ W.heap[e52.heap.size]? = some (.cells #[.int .i64 5, .string tx2, .float .f64 nm2, .int .i64 fr2, .int .i64 te2] 90 (0, 0))) ⟨(by with_reducible repeat (first | exact k0 _ _ | refine kA ?_ _ | refine kD ?_ | refine kS ?_ (by simp) | refine kM ?_ (by simp))), (by simp only [hS, hA, hD, hM, World.size_setCell, World.size_drew, reduceIte, Option.map_some, Obj.put] <;> rfl)⟩ ?_
      rintro w53 ⟨Kw53, cw53_T7⟩
      have ⟨n_p_T7, n_T7_p⟩ := zne l_p
      have ⟨n_R_T7, n_T7_R⟩ := zne l_R
      have ⟨n_F_T7, n_T7_F⟩ := zne l_F
      have o_T7 : w.heap.size ≤ e52.heap.size := HKe52.out.size
      have g_T7 : 14 < e52.heap.size := Nat.lt_trans g_p l_p
      have ns_l_T7 : ¬ (T) (e52.heap.size) := fun h => Nat.not_lt_of_le (us_le52) (up_l _ h)
      have Rw53_R := zh (Kw53.at Re52_R.out (by simp))
      have Rw53_F := zh (Kw53.at Re52_F.out (by simp))
      have HKw53 := zh (HKe52.out.trans Kw53 (by simp))
      have HPw53 := zh (HPne52.out.keep Kw53)
      have lw53 := zh (OwnL.kp strL le52.out Kw53 (by simp))
      have us_lw53 := Nat.le_trans us_le52 Kw53.size
      have Rw53_T7 := zh cw53_T7
      clear Kw53 cw53_T7 l_p l_R l_F Re52_R Re52_F HKe52 HPne52 le52 us_le52
      refine (ok_any HPw53.out).mono ?_
      rintro r w' ⟨rfl, hw'⟩
      rw [hw']
      clear hw'
      have l_p := h_lt HPw53.out.row
      have l_R := h_lt Rw53_R.out
      obtain ⟨l_F, xF_0, xF_1, xF_2, xF_3, xF_4, xF_5, xF_6, xF_7, yF_0, yF_1, yF_2, yF_3, yF_4, yF_5, yF_6, yF_7⟩ := cf8 Rw53_F.out
      obtain ⟨l_T7, xT7_0, xT7_1, xT7_2, xT7_3, xT7_4, yT7_0, yT7_1, yT7_2, yT7_3, yT7_4⟩ := cf5 Rw53_T7.out
      go_wp2_with (
       at_builtin
       go_loud (
        refine list_at (fun W => Keeps [] w53 W ∧ W.heap[w53.heap.size]? = some (.cells #[.string tx2] 9 (0, 0))) ⟨(by with_reducible repeat (first | exact k0 _ _ | refine kA ?_ _ | refine kD ?_ | refine kS ?_ (by simp) | refine kM ?_ (by simp))), (by simp only [hS, hA, hD, hM, World.size_setCell, World.size_drew, reduceIte, Option.map_some, Obj.put] <;> rfl)⟩ ?_
        rintro w54 ⟨Kw54, cw54_G⟩
        have ⟨n_p_G, n_G_p⟩ := zne l_p
        have ⟨n_R_G, n_G_R⟩ := zne l_R
        have ⟨n_F_G, n_G_F⟩ := zne l_F
        have ⟨n_T7_G, n_G_T7⟩ := zne l_T7
        have o_G : w.heap.size ≤ w53.heap.size := HKw53.out.size
        have g_G : 14 < w53.heap.size := Nat.lt_trans g_p l_p
        have ns_l_G : ¬ (T) (w53.heap.size) := fun h => Nat.not_lt_of_le (us_lw53) (up_l _ h)
        have Rw54_R := zh (Kw54.at Rw53_R.out (by simp))
        have Rw54_F := zh (Kw54.at Rw53_F.out (by simp))
        have Rw54_T7 := zh (Kw54.at Rw53_T7.out (by simp))
        have HKw54 := zh (HKw53.out.trans Kw54 (by simp))
        have HPw54 := zh (HPw53.out.keep Kw54)
        have lw54 := zh (OwnL.kp strL lw53.out Kw54 (by simp))
        have us_lw54 := Nat.le_trans us_lw53 Kw54.size
        have Rw54_G := zh cw54_G
        clear Kw54 cw54_G l_p l_R l_F xF_0 xF_1 xF_2 xF_3 xF_4 xF_5 xF_6 xF_7 yF_0 yF_1 yF_2 yF_3 yF_4 yF_5 yF_6 yF_7 l_T7 xT7_0 xT7_1 xT7_2 xT7_3 xT7_4 yT7_0 yT7_1 yT7_2 yT7_3 yT7_4 Rw53_R Rw53_F Rw53_T7 HKw53 HPw53 lw53 us_lw53
        refine app_str rfl (.tmp 68) (.tmp 71) rfl rfl rfl lw54.out Rw54_G.out (fun g hg => Nat.lt_of_lt_of_le (up_l g hg) us_lw54) (HKw54.out.size) (by omega) ?_))
      intro ve55 e55 fl hfl hk hown
      have Re55_R := zh (hk.at Rw54_R.out (fun h => ns_l_R (hfl _ h)))
      have Re55_F := zh (hk.at Rw54_F.out (fun h => ns_l_F (hfl _ h)))
      have Re55_T7 := zh (hk.at Rw54_T7.out (fun h => ns_l_T7 (hfl _ h)))
      have Re55_G := zh (hk.at Rw54_G.out (fun h => ns_l_G (hfl _ h)))
      have HKe55 := zh (HKw54.out.trans hk (fun x h => .inr (dn_l x (hfl x h))))
      have HPe55 := zh (HPw54.out.keepN hk (fun h => ns_l_p (hfl _ h)) (fun x h => Nat.lt_of_lt_of_le g_0 (dn_l x (hfl x h))))
      have us_le55 := Nat.le_trans us_lw54 hk.size
      obtain ⟨ka2, kc2, hva, -⟩ := hown.slice
      obtain ⟨kn, hkn⟩ : ∃ k, k = (l ++ [tx2]).length := ⟨_, rfl⟩
      rw [← hkn] at hva
      subst hva
      have HKN := zh hkn
      have us_k0 := us_le55
      have hpack : ∃ T2 : Nat → Prop, OwnL StrE 9 1 e55 w.heap.size T2 (l ++ [tx2]) (.slice ka2 kn kc2) ∧ (∀ x, T2 x → x < e55.heap.size) ∧ (∀ x, T2 x → w.heap.size ≤ x) ∧ ¬ T2 (p) ∧ ¬ T2 (w.heap.size) ∧ ¬ T2 (w6.heap.size) ∧ ¬ T2 (e52.heap.size) :=
       ⟨_, hown, fun x h => h.elim (fun h => Nat.lt_of_lt_of_le (up_l x h) us_k0) fun h => h.2, fun x h => h.elim (dn_l x) fun h => Nat.le_trans (HKw54.out.size) h.1, fun h => h.elim ns_l_p fun h => Nat.not_lt_of_le h.1 (h_lt HPw54.out.row), fun h => h.elim ns_l_R fun h => Nat.not_lt_of_le h.1 (h_lt Rw54_R.out), fun h => h.elim ns_l_F fun h => Nat.not_lt_of_le h.1 (h_lt Rw54_F.out), fun h => h.elim ns_l_T7 fun h => Nat.not_lt_of_le h.1 (h_lt Rw54_T7.out)⟩
      obtain ⟨T2, hown2, up_k, dn_k, ns_k_p, ns_k_R, ns_k_F, ns_k_T7⟩ := hpack
      have HL2e55 := zh hown2
      clear hown hown2 hkn hk hfl us_lw54
      have l_p := h_lt HPe55.out.row
      have l_R := h_lt Re55_R.out
      obtain ⟨l_F, xF_0, xF_1, xF_2, xF_3, xF_4, xF_5, xF_6, xF_7, yF_0, yF_1, yF_2, yF_3, yF_4, yF_5, yF_6, yF_7⟩ := cf8 Re55_F.out
      have l_T7 := h_lt Re55_T7.out
      go_wp2_with fail
      refine calls_at (fun W => Keeps [w6.heap.size] e55 W ∧ W.heap[w6.heap.size]? = some (.cells #[.string tx, .slice ka2 kn kc2, .int .i64 0, .string ⟨#[]⟩, .float .f64 0, .slice none 0 0, .complex .f64 0 0, .complex .f64 (placeOf s fr0).1 (placeOf s fr0).2] 61 (0, 0))) ⟨(by with_reducible repeat (first | exact k0 _ _ | refine kA ?_ _ | refine kD ?_ | refine kS ?_ (by simp) | refine kM ?_ (by simp))), (by simp only [hS, hA, hD, hM, reduceIte, Option.map_some, Obj.put, Re55_F.out, Nat.ne_of_lt l_F, Nat.ne_of_gt l_F] <;> rfl)⟩ ?_
      rintro w56 ⟨Kw56, cw56_F⟩
      have Rw56_R := zh (Kw56.at Re55_R.out (by simp [n_R_F]))
      have Rw56_T7 := zh (Kw56.at Re55_T7.out (by simp [n_T7_F]))
      have HKw56 := zh (HKe55.out.trans Kw56 (by simp [o_F]))
      have HPw56 := zh (HPe55.out.keepN Kw56 (by simp [n_p_F]) (by simp [g_F]))
      have us_lw56 := Nat.le_trans us_le55 Kw56.size
      have kw56 := zh (OwnL.kp strL HL2e55.out Kw56 (by simp [ns_k_F]))
      have us_kw56 := Nat.le_trans (Nat.le_refl e55.heap.size) Kw56.size
      have Rw56_F := zh cw56_F
      clear Kw56 cw56_F l_p l_R l_F xF_0 xF_1 xF_2 xF_3 xF_4 xF_5 xF_6 xF_7 yF_0 yF_1 yF_2 yF_3 yF_4 yF_5 yF_6 yF_7 l_T7 Re55_R Re55_T7 HKe55 HPe55 us_le55 HL2e55 Re55_F
      refine (isF_any HPw56.out HC.out).mono ?_
      rintro r e57 ⟨rfl, hk⟩
      have Re57_R := zh (hk.at Rw56_R.out (by simp))
      have Re57_F := zh (hk.at Rw56_F.out (by simp))
      have Re57_T7 := zh (hk.at Rw56_T7.out (by simp))
      have HKe57 := zh (HKw56.out.trans hk (by simp))
      have HPe57 := zh (HPw56.out.keep hk)
      have us_le57 := Nat.le_trans us_lw56 hk.size
      have ke57 := zh (OwnL.kp strL kw56.out hk (by simp))
      have us_ke57 := Nat.le_trans us_kw56 hk.size
      clear hk Rw56_R Rw56_F Rw56_T7 HKw56 HPw56 us_lw56 kw56 us_kw56
      have l_p := h_lt HPe57.out.row
      have l_R := h_lt Re57_R.out
      have l_F := h_lt Re57_F.out
      have l_T7 := h_lt Re57_T7.out
      go_wp2_with fail
      clear l_p l_R l_F l_T7
      refine (take_any HPe57.out HD.out).mono ?_
      rintro r e58 ⟨rfl, hp, hk⟩
      have Re58_R := zh (hk.at Re57_R.out (by simp [n_R_p]))
      have Re58_F := zh (hk.at Re57_F.out (by simp [n_F_p]))
      have Re58_T7 := zh (hk.at Re57_T7.out (by simp [n_T7_p]))
      have HKe58 := zh (HKe57.out.trans hk (by simp))
      have us_le58 := Nat.le_trans us_le57 hk.size
      have ke58 := zh (OwnL.kp strL ke57.out hk (by simp [ns_k_p]))
      have us_ke58 := Nat.le_trans us_ke57 hk.size
      have HPne58 := zh hp
      clear hp
      clear hk Re57_R Re57_F Re57_T7 HKe57 us_le57 ke57 us_ke57 HPe57
      have l_p := h_lt HPne58.out.row
      have l_R := h_lt Re58_R.out
      have l_F := h_lt Re58_F.out
      have l_T7 := h_lt Re58_T7.out
      go_wp2_with fail
      clear l_p l_R l_F l_T7
      refine (lines_any HPne58.out HE.out).mono ?_
      rintro r e59 ⟨rfl, hp, hk⟩
      have Re59_R := zh (hk.at Re58_R.out (by simp [n_R_p]))
      have Re59_F := zh (hk.at Re58_F.out (by simp [n_F_p]))
      have Re59_T7 := zh (hk.at Re58_T7.out (by simp [n_T7_p]))
      have HKe59 := zh (HKe58.out.trans hk (by simp))
      have us_le59 := Nat.le_trans us_le58 hk.size
      have ke59 := zh (OwnL.kp strL ke58.out hk (by simp [ns_k_p]))
      have us_ke59 := Nat.le_trans us_ke58 hk.size
      have HPne59 := zh hp
      clear hp
      clear hk Re58_R Re58_F Re58_T7 HKe58 us_le58 ke58 us_ke58 HPne58
      have l_p := h_lt HPne59.out.row
      have l_R := h_lt Re59_R.out
      have l_F := h_lt Re59_F.out
      have l_T7 := h_lt Re59_T7.out
      go_wp2_with fail
      clear l_p l_R l_F l_T7
      refine (see_any HPne59.out HF2.out).mono ?_
      rintro r e60 ⟨rfl, hk⟩
      have Re60_R := zh (hk.at Re59_R.out (by simp))
      have Re60_F := zh (hk.at Re59_F.out (by simp))
      have Re60_T7 := zh (hk.at Re59_T7.out (by simp))
      have HKe60 := zh (HKe59.out.trans hk (by simp))
      have HPe60 := zh (HPne59.out.keep hk)
      have us_le60 := Nat.le_trans us_le59 hk.size
      have ke60 := zh (OwnL.kp strL ke59.out hk (by simp))
      have us_ke60 := Nat.le_trans us_ke59 hk.size
      clear hk Re59_R Re59_F Re59_T7 HKe59 HPne59 us_le59 ke59 us_ke59
      have l_p := h_lt HPe60.out.row
      have l_R := h_lt Re60_R.out
      have l_F := h_lt Re60_F.out
      have l_T7 := h_lt Re60_T7.out
      go_wp2_with fail
      refine calls_at (fun W => Keeps [] e60 W ∧ W.heap[e60.heap.size]? = some (.cells #[.int .i64 5, .string tx3, .float .f64 nm3, .int .i64 fr3, .int .i64 te3] 90 (0, 0))) ⟨(by with_reducible repeat (first | exact k0 _ _ | refine kA ?_ _ | refine kD ?_ | refine kS ?_ (by simp) | refine kM ?_ (by simp))), (by simp only [hS, hA, hD, hM, World.size_setCell, World.size_drew, reduceIte, Option.map_some, Obj.put] <;> rfl)⟩ ?_
      rintro w61 ⟨Kw61, cw61_T8⟩
      have ⟨n_p_T8, n_T8_p⟩ := zne l_p
      have ⟨n_R_T8, n_T8_R⟩ := zne l_R
      have ⟨n_F_T8, n_T8_F⟩ := zne l_F
      have ⟨n_T7_T8, n_T8_T7⟩ := zne l_T7
      have o_T8 : w.heap.size ≤ e60.heap.size := HKe60.out.size
      have g_T8 : 14 < e60.heap.size := Nat.lt_trans g_p l_p
      have ns_k_T8 : ¬ (T2) (e60.heap.size) := fun h => Nat.not_lt_of_le (us_ke60) (up_k _ h)
      have Rw61_R := zh (Kw61.at Re60_R.out (by simp))
      have Rw61_F := zh (Kw61.at Re60_F.out (by simp))
      have Rw61_T7 := zh (Kw61.at Re60_T7.out (by simp))
      have HKw61 := zh (HKe60.out.trans Kw61 (by simp))
      have HPw61 := zh (HPe60.out.keep Kw61)
      have us_lw61 := Nat.le_trans us_le60 Kw61.size
      have kw61 := zh (OwnL.kp strL ke60.out Kw61 (by simp))
      have us_kw61 := Nat.le_trans us_ke60 Kw61.size
      have Rw61_T8 := zh cw61_T8
      clear Kw61 cw61_T8 l_p l_R l_F l_T7 Re60_R Re60_F Re60_T7 HKe60 HPe60 us_le60 ke60 us_ke60
      refine (ok_any HPw61.out).mono ?_
      rintro r w' ⟨rfl, hw'⟩
      rw [hw']
      clear hw'
      have l_p := h_lt HPw61.out.row
      have l_R := h_lt Rw61_R.out
      have l_F := h_lt Rw61_F.out
      have l_T7 := h_lt Rw61_T7.out
      obtain ⟨l_T8, xT8_0, xT8_1, xT8_2, xT8_3, xT8_4, yT8_0, yT8_1, yT8_2, yT8_3, yT8_4⟩ := cf5 Rw61_T8.out
      go_wp2_with fail
      go_roundg f
      case measure => omega
      case rel =>
       exact ⟨l ++ [tx2], st4, HF.out, by rw [List.length_append, List.length_singleton]; omega, _, T2, _, kw61.out, up_k, us_kw61, dn_k, ns_k_p, ns_k_R, ns_k_F, HPw61.out, HKw61.out, Rw61_R.out, Rw61_F.out⟩
end Go.Proofs.YtkfillfkbhbbjaaGreatDoor
