/- MkL, MkM. -/
import Derived.Test.YtkfillfkbhbbjaaGreatDoorMkI
import Derived.Test.YtkfillfkbhbbjaaGreatDoorPrgC
import Derived.Deep.RegionLaw
set_option maxRecDepth 100000
set_option maxHeartbeats 4000000
set_option linter.unusedSimpArgs false
set_option linter.unusedVariables false
namespace Go.Proofs.YtkfillfkbhbbjaaGreatDoor
open Go.RowKit
theorem step_ow {ops : Array Oper} {o : Oper} {a : Act} {V : World} {KK : Act → World → Prop} {Q : Exit → Act → World → Prop} {E : Prop} (hgd : o.guard = none) (s y : Operand) (ho : o.op = .call { callee := .builtin .append, args := #[s, y], argTypes := #[47, 47] }) {b e e1 Z Z1 m G cap : Nat} {v c0 c1 c2 c3 c4 : Value} (hs : a.eval s = v) (hy : a.eval y = .slice (some ⟨G, 0, none⟩) 1 cap) (hO : Ow b e Z m V v) (hG : V.heap[G]? = some (.cells #[c0, c1, c2, c3, c4] 50 (0, 0))) (hn : Nd e1 Z1 V (.agg #[c0, c1, c2, c3, c4])) (he : e ≤ e1) (heV : e ≤ V.heap.size) (hb : b ≤ e) (hm : m ≤ 100000) (h : ∀ v' w' fl, (∀ x ∈ fl, b ≤ x ∧ x < e) → Keeps fl V w' → Ow b w'.heap.size (Z + Z1) (m + 1) w' v' → KK (a.put o.dst v') w') : if Region.wanted o (yielded ops a.tmps) = true then Oper.wp Tryz.prog o a V KK Q else E := by
 obtain ⟨ns, q1, q2, q3, q4⟩ := hO;obtain ⟨n, p1, p2, p3⟩ := hn;obtain ⟨i, hi, hz, hsz, hby⟩ := info50;refine step_appL nodeL hgd s y 47 ho Tryz.underlying47 hi hz hsz hby rfl zi zi hs hy q2 (c := [c0, c1, c2, c3, c4]) hG ⟨rfl, p1.bound⟩ (fun g h1 h2 => by omega) (fun g h => h.2) (fun g h => by omega) qg qg fun v' w' fl hfl hk hw => h v' w' fl hfl hk ⟨ns ++ [n], by simp [q1], hw.to nodeL fun x hx => ?_, wfK_snoc q3 p2, ?_⟩
 ·have := hk.size
  rcases hx with hx | hx | hx <;> omega
 rw [ksize_snoc]; omega
def NodeCs (f : Nat) (M : MKey) (fn : Bool) (d : Int) (Z K : Nat) : Prop := ∀ (I : Nat) (w : World), Bn M I fn w w → I + K ≤ 1000000000000 → Calls Tryz.prog f #[.pointer (some ⟨M.k, 0, none⟩), .int .i64 d] w fun r w' => NodeP M Z K I fn w r w'
def BlkI (M : MKey) (fn : Bool) (w : World) (I Z K : Nat) (g : Nat) (j : Value) (W : World) : Prop :=
 ∃ (i : Int) (m e J : Nat) (v : Value), j = .int .i64 i ∧ 0 ≤ i ∧ i + m ≤ 3 ∧ i + 1 ≤ g ∧ J ≤ I + 3 + m * K ∧ BnR M J fn w W ∧ W.heap[w.heap.size + 1]? = some (.cells #[.int .i64 30, .string ⟨#[]⟩, .float .f64 0, v, .complex .f64 0 0] 50 (0, 0)) ∧ Ow (w.heap.size + 2) e (m * Z) m W v ∧ e ≤ W.heap.size ∧ w.heap.size + 2 ≤ e
def BlkP (M : MKey) (Z K I : Nat) (fn : Bool) (w : World) (r : Ending) (w' : World) : Prop := ∃ a m c, m ≤ 3 ∧ r = .returned (.agg #[.int .i64 30, .string ⟨#[]⟩, .float .f64 0, .slice a m c, .complex .f64 0 0]) ∧ Ow w.heap.size w'.heap.size Z m w' (.slice a m c) ∧ MKB M (I + K) fn w' ∧ Keeps [M.k] w w'
theorem Ow.low {b b' e e' Z Z' m : Nat} {W : World} {v : Value} (h : Ow b e Z m W v) (hb : b' ≤ b) (he : e ≤ e') (hZ : Z ≤ Z') : Ow b' e' Z' m W v := by
 obtain ⟨ns, h1, h2, h3, h4⟩ := h;exact ⟨ns, h1, (h2.to nodeL (fun x hx => ⟨Nat.le_trans hb hx.1, Nat.lt_of_lt_of_le hx.2 he⟩)).base hb, h3, by omega⟩
theorem BlkP.fin {M : MKey} {I J K Z Z' m e c : Nat} {a : Option Addr} {fn : Bool} {w W U : World} (h : BnR M J fn w W) (hO : Ow (w.heap.size + 2) e Z m W (.slice a m c)) (he : e ≤ W.heap.size) (_hb : w.heap.size + 2 ≤ e) (hU : Keeps [w.heap.size] W U) (hJ : J ≤ I + K) (hZ : Z ≤ Z') (hm : m ≤ 3) : BlkP M Z' K I fn w (.returned (.agg #[.int .i64 30, .string ⟨#[]⟩, .float .f64 0, .slice a m c, .complex .f64 0 0])) U :=
 ⟨a, m, c, hm, rfl, (hO.step hU (fun x hx => by simp at hx; omega)).low qg (Nat.le_trans he hU.size) hZ, (h.mak.kp h.fix hU qv (by have := h.lt; have := h.fix.hk; simp; omega)).to hJ, h.keep.trans hU jg⟩
theorem BlkP.node {M : MKey} {I K Z : Nat} {fn : Bool} {w w' : World} {r : Ending} (h : BlkP M Z K I fn w r w') : NodeP M (Z + 1) K I fn w r w' := by
 obtain ⟨a, m, c, -, rfl, hO, hm, hk⟩ := h;exact ⟨_, rfl, hO.kids.mk zi, hm, hk⟩
set_option maxHeartbeats 8000000 in
theorem block_own {M : MKey} {I : Nat} {fn : Bool} {w : World} (h : Bn M I fn w w) {d : Int} {Z K Z' K' : Nat} (hS : NodeCs 58 M fn d Z K) (hZ : 3 * Z ≤ Z') (hK : 3 * K + 40 ≤ K') (hI : I + K' ≤ 1000000000000) : Calls Tryz.prog 31 #[.pointer (some ⟨M.k, 0, none⟩), .int .i64 d] w fun r w' => BlkP M Z' K' I fn w r w' := by
 have H0 := zh h;have HST := zh hS;clear h hS
 go_enter Tryz.func31, Tryz.ntmps31
 have H_lt := zh H0.out.lt
 go_wp2_with fail
 refine calls_at (fun V => Keeps [] w V ∧ V.heap[w.heap.size]? = some (.cells #[.int .i64 0, .string ⟨#[]⟩, .float .f64 0, .slice none 0 0, .complex .f64 0 0] 50 (0, 0)) ∧ V.heap[w.heap.size + 1]? = some (.cells #[.int .i64 30, .string ⟨#[]⟩, .float .f64 0, .slice none 0 0, .complex .f64 0 0] 50 (0, 0))) ⟨zg, jn, jn⟩ ?_;rintro w1 ⟨hk, hr, hrB⟩;have HB1 := zh (BnR.start H0.out hk hr);clear hk hr H0;refine (one_int HB1.out.fix HB1.out.mak qg 3 qg qg).mono ?_;rintro r w2 ⟨y, h0_y, h1_y, rfl, hm, hk⟩;have HB2 := zh (HB1.out.call hm hk);have hrB2 := hk.at hrB zo;clear hk hm HB1 hrB;have hyw : IntKind.i64.wrap (1 + y) = 1 + y := wrap_id qg qg
 go_wp2_with fail
 have hs2 := h_lt hrB2
 go_loopg [6] (4) (fun g j wr => BlkI M fn w I Z K g j wr)
 case atStart => exact ⟨1 + y, 0, w2.heap.size, _, _, rfl, by omega, by omega, by omega, by omega, HB2.out, hrB2, by rw [Nat.zero_mul]; exact Ow.nil _ _ _, Nat.le_refl _, hs2⟩
 clear hrB2 HB2 hs2 h0_y h1_y hyw;obtain ⟨c, m, e, J, v, rfl, hc0, hcm, hcg, hJ, hB, r_r, hO, he, he2⟩ := hrel;have HBr := zh hB; have HO := zh hO; have HEE := zh he; have H_b := zh he2;clear hB hO he he2;obtain ⟨aa, cc, rfl⟩ := HO.out.slice
 by_cases hlt : 0 < c
 ·have hcw : IntKind.i64.wrap (c - 1) = c - 1 := wrap_id qg qg;have hmk := Nat.mul_le_mul_right K (show m + 1 ≤ 3 by omega);have e1 := Nat.succ_mul m K;have e2 := Nat.succ_mul m Z;simp only [Nat.succ_eq_add_one] at e1 e2;have HBd := zh (HBr.out.kp (kD (k0 [] wr)));have HOd := zh (HO.out.step (kD (k0 [] wr)) jg);have HRB := zh r_r;have HCA : Hid (Calls Tryz.prog 58 #[.pointer (some ⟨M.k, 0, none⟩), .int .i64 d] wr.drew fun r w' => ∃ v, r = .returned v ∧ Nd wr.drew.heap.size Z w' v ∧ MKB M (J + K) fn w' ∧ Keeps [M.k] wr.drew w') := zh (HST.out J wr.drew HBd.out.here qg);have xbr0 := cell_of_heap r_r 0;have xbr1 := cell_of_heap r_r 1;have xbr2 := cell_of_heap r_r 2;have xbr3 := cell_of_heap r_r 3;have xbr4 := cell_of_heap r_r 4;have ybr3 := frozen_of_heap r_r 3;have lbr := h_lt r_r;simp at xbr0 xbr1 xbr2 xbr3 xbr4;clear r_r
  go_wp2_with fail
  go_region_law (first
   | (
       (fail_if_success (have hm9 := HN7))
       refine step_call (f := 58) (vals := #[.pointer (some ⟨M.k, 0, none⟩), .int .i64 d]) rfl _ rfl jh HCA.out ?_;rintro v w7 ⟨hn, hm, hk⟩;obtain ⟨k7, nm7, nu7, a7, l7, c7, re7, im7, rfl⟩ := hn.shape;have r_7 := hk.at (show wr.drew.heap[w.heap.size + 1]? = _ from HRB.out) zo;have HN7 := zh hn;have HB7 := zh (HBd.out.call hm hk);have HO7 := zh (HOd.out.step hk zo);have HE7 := zh (Nat.le_trans HEE.out hk.size);clear hn hm hk;have xb70 := cell_of_heap r_7 0;have xb71 := cell_of_heap r_7 1;have xb72 := cell_of_heap r_7 2;have xb73 := cell_of_heap r_7 3;have xb74 := cell_of_heap r_7 4;have yb73 := frozen_of_heap r_7 3;have lb7 := h_lt r_7;simp at xb70 xb71 xb72 xb73 xb74;have HR7 := zh r_7;clear r_7)
   | (
       refine step_at (fun V => Keeps [] w7 V ∧ V.heap[w7.heap.size]? = some (.cells #[.int .i64 k7, .string nm7, .float .f64 nu7, .slice a7 l7 c7, .complex .f64 re7 im7] 50 (0, 0))) ⟨zg, jn⟩ ?_;rintro wq ⟨hkq, cG⟩;refine step_ow rfl (.tmp 16) (.tmp 20) rfl rfl rfl (HO7.out.step hkq jg) cG (HN7.out.step hkq jg) HEE.out (Nat.le_trans HE7.out hkq.size) H_b.out qg ?_;rintro va wa fl hfl hka hown;obtain ⟨aaq, ccq, rfl⟩ := hown.slice;have r_a := hka.at (hkq.at HR7.out jg) (fun hx => by have := hfl _ hx; omega);have HBa := zh ((HB7.out.kp hkq).kpF hka (fun x hx => by have := hfl _ hx; omega));have HOa := zh hown;have HRa := zh r_a;clear hfl hka hown hkq cG;have xba0 := cell_of_heap r_a 0;have xba1 := cell_of_heap r_a 1;have xba2 := cell_of_heap r_a 2;have xba3 := cell_of_heap r_a 3;have xba4 := cell_of_heap r_a 4;have yba3 := frozen_of_heap r_a 3;have lba := h_lt r_a;simp at xba0 xba1 xba2 xba3 xba4;clear r_a))
  all_goals
   go_wp2_with fail
   go_roundg (gk - 1)
   case measure => omega
   refine inv_at (fun V => Keeps [w.heap.size + 1] wa V ∧ V.heap[w.heap.size + 1]? = some (.cells #[.int .i64 30, .string ⟨#[]⟩, .float .f64 0, .slice aaq (m + 1) ccq, .complex .f64 0 0] 50 (0, 0))) ⟨zg, (by simp only [World.size_alloc, World.size_setCell, World.size_drew, Nat.left_eq_add, Nat.add_eq_left, Nat.one_ne_zero, hS, hA, hD, hM, reduceIte, Option.map_some, Obj.put, HRa.out] <;> rfl)⟩ ?_;rintro wz ⟨hk, hr⟩;have h9 := HBa.out.b;have h8 := h_lt HRa.out;exact ⟨c - 1, m + 1, wa.heap.size, _, _, rfl, by omega, by omega, by omega, by omega, HBa.out.kpF hk (fun x hx => by simp at hx; omega), hr, by rw [e2]; exact HOa.out.step hk (fun x hx => by simp at hx; omega), hk.size, by omega⟩
 obtain rfl : c = 0 := by omega
 have HN : Hid (Nd (w.heap.size + 1) (m * Z + 1) wr (.agg #[.int .i64 30, .string ⟨#[]⟩, .float .f64 0, .slice aa m cc, .complex .f64 0 0])) := zh ((HO.out.kids.mk zi).to qg (Nat.le_refl _));have hmz := Nat.mul_le_mul_right Z (show m ≤ 3 by omega);have hmk := Nat.mul_le_mul_right K (show m ≤ 3 by omega);have xbr0 := cell_of_heap r_r 0;have xbr1 := cell_of_heap r_r 1;have xbr2 := cell_of_heap r_r 2;have xbr3 := cell_of_heap r_r 3;have xbr4 := cell_of_heap r_r 4;have ybr3 := frozen_of_heap r_r 3;have lbr := h_lt r_r;simp at xbr0 xbr1 xbr2 xbr3 xbr4;clear r_r;obtain ⟨l_R, xR_0, xR_1, xR_2, xR_3, xR_4, yR_0, yR_1, yR_2, yR_3, yR_4⟩ := cf5 HBr.out.res
 go_wp2_with fail
 refine ret_at (v := .agg #[.int .i64 30, .string ⟨#[]⟩, .float .f64 0, .slice aa m cc, .complex .f64 0 0]) (fun U => Keeps [w.heap.size] wr U ∧ U.heap[w.heap.size]? = some (.cells #[.int .i64 30, .string ⟨#[]⟩, .float .f64 0, .slice aa m cc, .complex .f64 0 0] 50 (0, 0))) ⟨zg, (za HBr.out.res)⟩ (fun U hU => ?_) rfl (fun U hU => ?_)
 ·obtain ⟨-, x0, x1, x2, x3, x4, -⟩ := cf5 hU.2;exact qpb
 exact BlkP.fin HBr.out HO.out HEE.out H_b.out hU.1 qg qg qg
theorem block_any {M : MKey} {I : Nat} {fn : Bool} {w : World} (h : Bn M I fn w w) {d : Int} {Z K Z' K' : Nat} (hS : NodeCs 58 M fn d Z K) (hZ : 3 * Z + 1 ≤ Z') (hK : 3 * K + 40 ≤ K') (hI : I + K' ≤ 1000000000000) : Calls Tryz.prog 31 #[.pointer (some ⟨M.k, 0, none⟩), .int .i64 d] w fun r w' => NodeP M Z' K' I fn w r w' :=
 (block_own h hS (Nat.le_refl _) hK hI).mono fun r w' hb => (hb.node).to hZ (Nat.le_refl _)
set_option maxHeartbeats 8000000 in
theorem loop_any {M : MKey} {I : Nat} {fn : Bool} {w : World} (h : Bn M I fn w w) {d : Int} {Z K Z' K' : Nat} (hB : NodeCs 31 M fn d Z K) (hZ : Z ≤ Z') (hK : K + 10 ≤ K') (hI : I + K' ≤ 1000000000000) : Calls Tryz.prog 90 #[.pointer (some ⟨M.k, 0, none⟩), .int .i64 d] w fun r w' => NodeP M Z' K' I fn w r w' := by
 have H0 := zh h;clear h
 go_enter Tryz.func90, Tryz.ntmps90
 have HBK := zh hB; have H_lt := zh H0.out.lt;clear hB;obtain ⟨i, nn, l, hi, hn, hl1, hl2, hmk⟩ := H0.out.mak;obtain ⟨l_k, x0, x1, x2, x3, x4, y0, y1, y2, y3, y4⟩ := cf5 hmk.row;have HMK := zh hmk;have hnk : M.k ≠ w.heap.size := Nat.ne_of_lt l_k;clear hmk;have hnw : IntKind.i64.wrap (l + 1) = l + 1 := wrap_id qg qg
 go_upto_region 2 with fail
 refine wp_at (fun W => Keeps [M.k] w W ∧ W.heap[M.k]? = some (.cells #[.slice M.la M.ln M.lc, .int .i64 i, .int .i64 nn, .bool fn, .int .i64 (l + 1)] 77 (0, 0)) ∧ W.heap[w.heap.size]? = some (.cells #[.int .i64 0, .string ⟨#[]⟩, .float .f64 0, .slice none 0 0, .complex .f64 0 0] 50 (0, 0))) ⟨zg, qo, qp⟩ ?_;rintro w1 ⟨hk, hr, hz⟩;have HB1 : Hid (BnR M (I + 1) fn w w1) := zh ⟨H0.out.call ⟨i, nn, l + 1, by omega, by omega, by omega, by omega, HMK.out.upd H0.out.fix hk hr⟩ hk, hz⟩;clear x0 x1 x2 x3 x4 y0 y1 y2 y3 y4 l_k hk hr hz HMK H0 hi hn hl1 hl2 hnw hnk
 go_wp2_with fail
 refine (HBK.out _ _ HB1.out.here qg).mono ?_;rintro r w1_ ⟨v, rfl, hn, hm, hk⟩;obtain ⟨k1, nm1, nu1, a1, l1, c1, re1, im1, rfl⟩ := hn.shape;have HB2 := zh (HB1.out.call hm hk);have HN1 := zh (HB1.out.node hn);clear hn;clear hk hm HB1;have hsz := HB2.out.b;obtain ⟨i, nn, l, hi, hn, hl1, hl2, hmk⟩ := HB2.out.mak;obtain ⟨l_k, x0, x1, x2, x3, x4, y0, y1, y2, y3, y4⟩ := cf5 hmk.row;have HMK := zh hmk;have hnk : M.k ≠ w1_.heap.size := Nat.ne_of_lt l_k;clear hmk;have hnw : IntKind.i64.wrap (l - 1) = l - 1 := wrap_id qg qg
 go_upto_region 4 with fail
 refine wp_at (fun W => Keeps [M.k] w1_ W ∧ W.heap[M.k]? = some (.cells #[.slice M.la M.ln M.lc, .int .i64 i, .int .i64 nn, .bool fn, .int .i64 (l - 1)] 77 (0, 0)) ∧ W.heap[w1_.heap.size]? = some (.cells #[.int .i64 k1, .string nm1, .float .f64 nu1, .slice a1 l1 c1, .complex .f64 re1 im1] 50 (0, 0))) ⟨zg, (by simp only [hS, hA, hD, hM, World.size_setCell, World.size_alloc, hnk, reduceIte, Option.map_some, Obj.put, HMK.out.row] <;> rfl), (by simp only [hS, hA, hD, hM, World.size_setCell, World.size_alloc, Ne.symm hnk, reduceIte, Option.map_some, Obj.put] <;> rfl)⟩ ?_;rintro w3 ⟨hk, hr, hz⟩;have HB3 : Hid (BnR M (I + 1 + K + 1) fn w w3) := zh (HB2.out.call ⟨i, nn, l - 1, by omega, by omega, by omega, by omega, HMK.out.upd HB2.out.fix hk hr⟩ hk);have HN3 := zh (HB2.out.nd hk HN1.out);clear x0 x1 x2 x3 x4 y0 y1 y2 y3 y4 l_k hk hr HMK hi hn hl1 hl2 hnw hnk HB2 HN1;obtain ⟨lz, u0, u1, u2, u3, u4, v0, v1, v2, v3, v4⟩ := cf5 hz;clear hz;obtain ⟨l_R, xR_0, xR_1, xR_2, xR_3, xR_4, yR_0, yR_1, yR_2, yR_3, yR_4⟩ := cf5 HB3.out.res
 go_wp2_with fail
 refine ret_at (v := .agg #[.int .i64 k1, .string nm1, .float .f64 nu1, .slice a1 l1 c1, .complex .f64 re1 im1]) (fun U => Keeps [w.heap.size] w3 U ∧ U.heap[w.heap.size]? = some (.cells #[.int .i64 k1, .string nm1, .float .f64 nu1, .slice a1 l1 c1, .complex .f64 re1 im1] 50 (0, 0))) ⟨zg, (za HB3.out.res)⟩ (fun U hU => ?_) rfl (fun U hU => ?_)
 ·obtain ⟨-, x0, x1, x2, x3, x4, -⟩ := cf5 hU.2;exact qpb
 exact HB3.out.fin HN3.out hU.1 qg qg
end Go.Proofs.YtkfillfkbhbbjaaGreatDoor
