/- ChkW, Law, Knw, OrdL. -/
import Derived.Test.YtkfillfkbhbbjaaGreatDoorLeav
import Derived.Test.YtkfillfkbhbbjaaGreatDoorPLi
import Derived.Test.YtkfillfkbhbbjaaGreatDoorMkU
import Derived.Deep.RegionLaw
import Derived.Deep.CutBlock
set_option maxRecDepth 100000
set_option maxHeartbeats 4000000
set_option linter.unusedSimpArgs false
set_option linter.unusedVariables false
namespace Go.Proofs.YtkfillfkbhbbjaaGreatDoor
open Go.RowKit
theorem wAll_ok {fu : Nat} {g : ProgP} {st st1 : NS} (h : wAll fu g st = some st1) : (st.e ≠ 0 ∧ st1 = st) ∨ (st.e = 0 ∧ ∃ s, allR (nodeW g fu) g.rules st = some s ∧ allF (nodeW g fu) 0 g.funcs s = some st1) := by
 unfold wAll at h;exact zwd
theorem check_w {fu : Nat} {g : ProgP} {t : Told} {w : World} {S : Nat → Prop} {v : Value} (hv : ProgV w S g v) (hx : wCheck fu g = some t) : Calls Tryz.prog 9 #[v] w fun r w' => ∃ iv, r = .returned (.tuple #[iv, .complex .f64 t.re t.im, .int .i64 t.e]) ∧ InfoV w' (fun g => w.heap.size ≤ g) t.info iv ∧ Keeps [] w w' := by
 obtain ⟨ra, rc, fa, fc, rfl, hr, hf⟩ := hv;unfold wCheck at hx
 by_cases hsb : smallB g = false
 ·rw [if_pos hsb] at hx; cases hx
 rw [if_neg hsb] at hx;simp only [Option.bind_eq_bind, Option.bind_eq_some_iff] at hx;obtain ⟨st1, hall, hx⟩ := hx
 by_cases hbig : 400000 < st1.uses.length ∨ 400000 < st1.seen.length
 ·rw [if_pos hbig] at hx; cases hx
 rw [if_neg hbig] at hx;simp only [Option.bind_eq_some_iff] at hx;obtain ⟨st2, harr, hrest⟩ := hx;have hsb2 : smallB g = true := by cases h : smallB g with | true => rfl | false => exact absurd h hsb
 unfold smallB at hsb2;simp only [Bool.and_eq_true, decide_eq_true_eq, List.all_eq_true] at hsb2;obtain ⟨⟨⟨hs1, hs2⟩, hs3⟩, hs4⟩ := hsb2;have HPR := zh (hr.to ruleL (T := fun _ => True) fun _ _ => trivial); have HPF := zh (hf.to funcL (T := fun _ => True) fun _ _ => trivial);clear hr hf hsb
 go_enter Tryz.func9, Tryz.ntmps9
 go_upto_region 1 with fail
 refine wp_at (fun W => Keeps [] w W ∧ W.heap[w.heap.size]? = some (.cells #[.slice ra g.rules.length rc, .slice fa g.funcs.length fc] 33 (0, 0)) ∧ W.heap[w.heap.size + 1]? = some (.cells #[.slice none 0 0, .slice none 0 0, .slice none 0 0] 25 (0, 0))) ⟨zg, zd, zd⟩ ?_;rintro w1 ⟨k1, cP, cR⟩;obtain ⟨RR, hRR⟩ : ∃ x, x = w.heap.size + 1 := ⟨_, rfl⟩;rw [← hRR] at cR ⊢;have o_R : w.heap.size ≤ RR := by omega
 have HK1 := zh k1; have HRR := zh cR;have HPR1 := zh (HPR.out.kp ruleL k1 jg); have HPF1 := zh (HPF.out.kp funcL k1 jg);obtain ⟨l_P, xP_0, xP_1, yP_0, yP_1⟩ := cf2 cP;have hm65 : ∀ W : World, (Instr.makeMap 65 none).run Tryz.prog W = .ok (.map (some W.heap.size)) (W.alloc (.map #[] 0)) := fun _ => rfl
 have hm66 : ∀ W : World, (Instr.makeMap 66 none).run Tryz.prog W = .ok (.map (some W.heap.size)) (W.alloc (.map #[] 0)) := fun _ => rfl
 have hm67 : ∀ W : World, (Instr.makeMap 67 none).run Tryz.prog W = .ok (.map (some W.heap.size)) (W.alloc (.map #[] 0)) := fun _ => rfl
 clear k1 cP cR HPR HPF
 go_wp2_with fail
 refine calls_at (fun W => Keeps [] w1 W ∧ W.heap[w1.heap.size]? = some (.map #[] 0) ∧ W.heap[w1.heap.size + 1]? = some (.map #[] 0) ∧ W.heap[w1.heap.size + 2]? = some (.map #[] 0) ∧ W.heap[w1.heap.size + 3]? = some (.cells #[.slice ra g.rules.length rc, .slice fa g.funcs.length fc, .map (some w1.heap.size), .int .i64 0, .int .i64 0, .int .i64 0, .slice none 0 0, .map (some (w1.heap.size + 1)), .map (some (w1.heap.size + 2)), .complex .f64 0 0, .int .i64 0] 70 (0, 0))) ⟨zg, zd, zd, zd, zd⟩ ?_;rintro w2 ⟨k2, rmf, rms, rmn, rc2⟩;clear l_P xP_0 xP_1 yP_0 yP_1 hm65 hm66 hm67;obtain ⟨K, hKd⟩ : ∃ K : CKey, K = ⟨g, w1, w1.heap.size + 3, w1.heap.size, w1.heap.size + 1, w1.heap.size + 2, ra, rc, fa, fc⟩ := ⟨_, rfl⟩;have eg : K.g = g := by rw [hKd]
 have e0 : K.w0 = w1 := by rw [hKd]
 have ec : w1.heap.size + 3 = K.c := by rw [hKd]
 have hK : CFix K := by
  subst hKd;exact ⟨HPR1.out, HPF1.out, Nat.le_add_right _ _, Nat.le_refl _, Nat.le_add_right _ _, Nat.le_add_right _ _, by simp, by show g.funcs.length ≤ _; omega, hs2, fun f hf => Nat.le_trans (hs3 f hf) qg, hs4⟩
 have hrow : w2.heap[K.c]? = some (ckC K ns0 none 0) := by subst hKd; exact rc2
 have hrmf : w2.heap[K.mf]? = some (.map #[] 0) := by subst hKd; exact rmf
 have hrms : w2.heap[K.ms]? = some (.map #[] 0) := by subst hKd; exact rms
 have hrmn : w2.heap[K.mn]? = some (.map #[] 0) := by subst hKd; exact rmn
 have hk01 : Keeps [] K.w0 w2 := by rw [e0]; exact k2
 have HKR : Hid (∀ {W W' : World}, Keeps [] K.w0 W → Keeps [RR] W W' → Keeps [] w W') := zh fun h1 h2 => HK1.out.trans (fp' := [RR]) ((e0 ▸ h1.weaken (fp' := [RR]) jg).trans h2 (fun _ h => .inl h)) (by simpa using o_R)
 have HRR0 : Hid (K.w0.heap[RR]? = some (.cells #[.slice none 0 0, .slice none 0 0, .slice none 0 0] 25 (0, 0))) := zh (by rw [e0]; exact HRR.out);have hs5 : ∀ f ∈ K.g.funcs, f.params.length ≤ 400000 := by rw [eg]; exact hs3
 have hs6 : K.g.funcs.length ≤ 400000 := by rw [eg]; exact hs1
 have HS := zh (And.intro hs5 hs6);rw [ec];rw [← eg] at hall hrest;clear hKd e0 ec k2 rc2 rmf rms rmn HPR1 HPF1 HRR HK1 hs1 hs2 hs3 hs4 hs5 hs6 eg hRR;have HAL := zh hall; have HAR := zh harr; have HRS := zh hrest;obtain ⟨st0, hst0⟩ : ∃ x, headsA K.g 0 K.g.funcs ns0 = x := ⟨_, rfl⟩;rw [hst0] at HAL;clear hall harr hrest;refine (heads_any hK hk01 hrow hrmf hrms hrmn hst0).mono ?_;rintro r w3 ⟨T3, ua3, uc3, rfl, hc⟩;have HC3 := zh hc;clear hk01 hrow hrmf hrms hrmn hc hst0
 rcases wAll_ok HAL.out with ⟨h0, rfl⟩ | ⟨h0, s1, hr1, hf1⟩
 ·have d0 : (st1.e == 0) = false := beq_false_of_ne h0;have d1 : (st1.e != 0) = true := by simp [h0]
  rcases nArr_ok HAR.out with ⟨-, rfl⟩ | ⟨h1, -⟩
  rotate_left
  ·exact absurd h1 h0
  obtain ⟨l_c, xc_0, xc_1, xc_2, xc_3, xc_4, xc_5, xc_6, xc_7, xc_8, xc_9, xc_10, yc_0, yc_1, yc_2, yc_3, yc_4, yc_5, yc_6, yc_7, yc_8, yc_9, yc_10⟩ := cf11 HC3.out.row
  go_upto_region 8 with fail
  have rR : w3.heap[RR]? = some (.cells #[.slice none 0 0, .slice none 0 0, .slice none 0 0] 25 (0, 0)) := HC3.out.keep.at HRR0.out jg;obtain ⟨l_R, xR_0, xR_1, xR_2, yR_0, yR_1, yR_2⟩ := cf3 rR
  go_cut [3, 4] (fun s3 s4 W => s3 = .complex .f64 st2.re st2.im ∧ s4 = .int .i64 st2.e ∧ Keeps [RR] w3 W ∧ W.heap[RR]? = some (.cells #[.slice none 0 0, .slice none 0 0, .slice none 0 0] 25 (0, 0)))
  case first =>
   exact qud
  obtain ⟨rfl, rfl, k8, c8⟩ := hcut;generalize wc = w8 at *
  have h8 := zh c8; have hk8 := zh k8;have HCX := HC3;clear l_c xc_0 yc_0 xc_1 yc_1 xc_2 yc_2 xc_3 yc_3 xc_4 yc_4 xc_5 yc_5 xc_6 yc_6 xc_7 yc_7 xc_8 yc_8 xc_9 yc_9 xc_10 yc_10 HC3 rR l_R xR_0 xR_1 xR_2 yR_0 yR_1 yR_2 c8 k8;exact jjd
 have HR1 := zh hr1; have HF1 := zh hf1;clear hr1 hf1;have d0 : (st0.e == 0) = true := by simp [h0]
 obtain ⟨l_c, xc_0, xc_1, xc_2, xc_3, xc_4, xc_5, xc_6, xc_7, xc_8, xc_9, xc_10, yc_0, yc_1, yc_2, yc_3, yc_4, yc_5, yc_6, yc_7, yc_8, yc_9, yc_10⟩ := cf11 HC3.out.row
 go_wp2_with fail
 clear l_c xc_0 yc_0 xc_1 yc_1 xc_2 yc_2 xc_3 yc_3 xc_4 yc_4 xc_5 yc_5 xc_6 yc_6 xc_7 yc_7 xc_8 yc_8 xc_9 yc_9 xc_10 yc_10;refine (all_any hK HC3.out (node_anyW hK fu) HR1.out HF1.out).mono ?_;rintro r w4 ⟨T4, ua4, uc4, rfl, hc, -⟩;have HC4 := zh hc;clear hc HC3 HR1 HF1 d0 h0
 rcases nArr_ok HAR.out with ⟨h0, rfl⟩ | ⟨h0, k1, hkf, har⟩
 ·have d0 : (st2.e == 0) = false := beq_false_of_ne h0;have d1 : (st2.e != 0) = true := by simp [h0]
  obtain ⟨l_c, xc_0, xc_1, xc_2, xc_3, xc_4, xc_5, xc_6, xc_7, xc_8, xc_9, xc_10, yc_0, yc_1, yc_2, yc_3, yc_4, yc_5, yc_6, yc_7, yc_8, yc_9, yc_10⟩ := cf11 HC4.out.row
  go_upto_region 8 with fail
  have rR : w4.heap[RR]? = some (.cells #[.slice none 0 0, .slice none 0 0, .slice none 0 0] 25 (0, 0)) := HC4.out.keep.at HRR0.out jg;obtain ⟨l_R, xR_0, xR_1, xR_2, yR_0, yR_1, yR_2⟩ := cf3 rR
  go_cut [3, 4] (fun s3 s4 W => s3 = .complex .f64 st2.re st2.im ∧ s4 = .int .i64 st2.e ∧ Keeps [RR] w4 W ∧ W.heap[RR]? = some (.cells #[.slice none 0 0, .slice none 0 0, .slice none 0 0] 25 (0, 0)))
  case first =>
   exact qud
  obtain ⟨rfl, rfl, k8, c8⟩ := hcut;generalize wc = w8 at *
  have h8 := zh c8; have hk8 := zh k8;have HCX := HC4;clear l_c xc_0 yc_0 xc_1 yc_1 xc_2 yc_2 xc_3 yc_3 xc_4 yc_4 xc_5 yc_5 xc_6 yc_6 xc_7 yc_7 xc_8 yc_8 xc_9 yc_9 xc_10 yc_10 HC4 rR l_R xR_0 xR_1 xR_2 yR_0 yR_1 yR_2 c8 k8;exact jjd
 have d0 : (st1.e == 0) = true := by simp [h0]
 have HKF := zh hkf; have HAF := zh har;obtain ⟨hu2, hn2⟩ := arraysF_keep har;have hul : st1.uses.length ≤ 400000 := by omega
 have hnl : st1.seen.length ≤ 400000 := by omega
 clear hkf har hbig h0;obtain ⟨l_c, xc_0, xc_1, xc_2, xc_3, xc_4, xc_5, xc_6, xc_7, xc_8, xc_9, xc_10, yc_0, yc_1, yc_2, yc_3, yc_4, yc_5, yc_6, yc_7, yc_8, yc_9, yc_10⟩ := cf11 HC4.out.row
 go_wp2_with fail
 clear l_c xc_0 yc_0 xc_1 yc_1 xc_2 yc_2 xc_3 yc_3 xc_4 yc_4 xc_5 yc_5 xc_6 yc_6 xc_7 yc_7 xc_8 yc_8 xc_9 yc_9 xc_10 yc_10;refine (arrays_any hK HC4.out HKF.out qg HAF.out).mono ?_;rintro r w5 ⟨T5, ua5, uc5, rfl, hc, -⟩;have HC5 := zh hc;clear hc HC4 HKF HAF d0
 by_cases h0 : st2.e = 0
 ·have d1 : (st2.e != 0) = false := by simp [h0]
  have hrest := HRS.out;rw [nRest, if_neg jeb] at hrest;simp only [Option.bind_eq_bind, Option.bind_eq_some_iff, Option.some.injEq] at hrest;obtain ⟨k2, hkf, x, hxi, rfl⟩ := hrest;have HKF := zh hkf; have HXI := zh hxi;clear hkf hxi h0 HRS;obtain ⟨l_c, xc_0, xc_1, xc_2, xc_3, xc_4, xc_5, xc_6, xc_7, xc_8, xc_9, xc_10, yc_0, yc_1, yc_2, yc_3, yc_4, yc_5, yc_6, yc_7, yc_8, yc_9, yc_10⟩ := cf11 HC5.out.row
  go_wp2_with fail
  clear l_c xc_0 yc_0 xc_1 yc_1 xc_2 yc_2 xc_3 yc_3 xc_4 yc_4 xc_5 yc_5 xc_6 yc_6 xc_7 yc_7 xc_8 yc_8 xc_9 yc_9 xc_10 yc_10;refine (info_any hK HC5.out HKF.out (by rw [hu2]; omega) (by rw [hn2]; exact hnl) HS.out.2 HS.out.1 HXI.out).mono ?_;rintro r w6 ⟨v, rfl, hiv, hk⟩;obtain ⟨sa, sc, aa, ac, pa, pc, rfl, hi1, hi2, hi3⟩ := hiv;have rR : w6.heap[RR]? = some (.cells #[.slice none 0 0, .slice none 0 0, .slice none 0 0] 25 (0, 0)) := hk.at (HC5.out.keep.at HRR0.out jg) jg;obtain ⟨l_R, xR_0, xR_1, xR_2, yR_0, yR_1, yR_2⟩ := cf3 rR;have HI1 := zh hi1; have HI2 := zh hi2; have HI3 := zh hi3; have HK6 := zh (HC5.out.keep.trans hk jg);have hR5 : RR < w5.heap.size := h_lt (HC5.out.keep.at HRR0.out jg);have hw5 : w.heap.size ≤ w5.heap.size := Nat.le_trans o_R (Nat.le_of_lt hR5);clear hi1 hi2 hi3 hk HC5;obtain ⟨n1, hn1⟩ : ∃ n, n = x.scalars.length := ⟨_, rfl⟩;obtain ⟨n2, hn3⟩ : ∃ n, n = x.arrays.length := ⟨_, rfl⟩;obtain ⟨n3, hn4⟩ : ∃ n, n = x.params.length := ⟨_, rfl⟩;rw [← hn1, ← hn3, ← hn4];have HN := zh (And.intro hn1 (And.intro hn3 hn4));clear hn1 hn3 hn4
  go_wp2_with fail
  refine ret_at (v := .tuple #[.agg #[.slice sa n1 sc, .slice aa n2 ac, .slice pa n3 pc], .complex .f64 0 0, .int .i64 0]) (fun W => Keeps [RR] w6 W ∧ W.heap[RR]? = some (.cells #[.slice sa n1 sc, .slice aa n2 ac, .slice pa n3 pc] 25 (0, 0))) ⟨zg, (jf rR)⟩ (fun W hW => ?_) rfl (fun W hW => ?_)
  ·obtain ⟨hW, rq⟩ := hW;have q0 := cell_of_heap rq 0;have q1 := cell_of_heap rq 1;have q2 := cell_of_heap rq 2;simp at q0 q1 q2;exact zmc
  obtain ⟨hW, -⟩ := hW;obtain ⟨hn1, hn3, hn4⟩ := HN.out;subst hn1 hn3 hn4;have hd : ∀ y ∈ [RR], ¬ w5.heap.size ≤ y := fun y hy hc => by simp at hy; subst hy; omega
  exact ⟨_, rfl, ⟨sa, sc, aa, ac, pa, pc, rfl, (HI1.out.kp strL hW hd).to strL fun y hy => Nat.le_trans hw5 hy, (HI2.out.kp strL hW hd).to strL fun y hy => Nat.le_trans hw5 hy, (HI3.out.kp flagsL hW hd).to flagsL fun y hy => Nat.le_trans hw5 hy⟩, HKR.out HK6.out hW⟩
 have d1 : (st2.e != 0) = true := by simp [h0]
 obtain ⟨l_c, xc_0, xc_1, xc_2, xc_3, xc_4, xc_5, xc_6, xc_7, xc_8, xc_9, xc_10, yc_0, yc_1, yc_2, yc_3, yc_4, yc_5, yc_6, yc_7, yc_8, yc_9, yc_10⟩ := cf11 HC5.out.row
 go_upto_region 8 with fail
 have rR : w5.heap[RR]? = some (.cells #[.slice none 0 0, .slice none 0 0, .slice none 0 0] 25 (0, 0)) := HC5.out.keep.at HRR0.out jg;obtain ⟨l_R, xR_0, xR_1, xR_2, yR_0, yR_1, yR_2⟩ := cf3 rR
 go_cut [3, 4] (fun s3 s4 W => s3 = .complex .f64 st2.re st2.im ∧ s4 = .int .i64 st2.e ∧ Keeps [RR] w5 W ∧ W.heap[RR]? = some (.cells #[.slice none 0 0, .slice none 0 0, .slice none 0 0] 25 (0, 0)))
 case first =>
  exact qud
 obtain ⟨rfl, rfl, k8, c8⟩ := hcut;generalize wc = w8 at *
 have h8 := zh c8; have hk8 := zh k8;have HCX := HC5;clear l_c xc_0 yc_0 xc_1 yc_1 xc_2 yc_2 xc_3 yc_3 xc_4 yc_4 xc_5 yc_5 xc_6 yc_6 xc_7 yc_7 xc_8 yc_8 xc_9 yc_9 xc_10 yc_10 HC5 rR l_R xR_0 xR_1 xR_2 yR_0 yR_1 yR_2 c8 k8;exact jjd
theorem told_of {α : Type} {s : ByteArray} {F : Told → α} {x : α} (h : ((parseF s).bind fun g => (wCheck 60 g).map F) = some x) : ∃ g t, parseF s = some g ∧ wCheck 60 g = some t ∧ F t = x := by
 rw [Option.bind_eq_some_iff] at h;obtain ⟨g, hg, h⟩ := h;rw [Option.map_eq_some_iff] at h;obtain ⟨t, ht, h⟩ := h;exact ⟨g, t, hg, ht, h⟩
theorem sliceR_one {w : World} {x : ByteArray} {G : Nat} {f : Nat × Nat} (h : w.heap[G]? = some (.cells #[.string x] 9 f)) : SliceR StrE w (fun _ => True) [x] (.slice (some ⟨G, 0, none⟩) 1 1) :=
 ⟨some ⟨G, 0, none⟩, 1, rfl, Nat.le_refl _, fun _ => ⟨G, 0, [.string x], rfl, trivial, h_lt h, .cons (c := [.string x]) rfl .nil, fun j u hj => by rw [cell_of_heap h]; simpa using hj⟩⟩
def strsF : List ByteArray → List ByteArray → Bool
 | [], [] => true
 | a :: x, b :: y => if same a b then strsF x y else false
 | _, _ => false
theorem SliceR.str {w : World} {S : Nat → Prop} {l : List ByteArray} {a : Option Addr} {n cap : Nat} (h : SliceR StrE w S l (.slice a n cap)) {i : Nat} (hi : i < l.length) : ∃ g o, a = some ⟨g, o, none⟩ ∧ w.cell? ⟨g, o + i, none⟩ = some (.string l[i]) := by
 obtain ⟨g, o, cap', c, hv, _, _, hc, hx⟩ := h.get strL hi;injection hv with h1 _ _
 have hc' : c = [.string l[i]] := hc;subst hc';exact ⟨g, o, h1, by simpa using hx 0 _ rfl⟩
theorem strsF_len : ∀ {a b : List ByteArray}, a.length ≠ b.length → strsF a b = false
 | [], [], h => absurd rfl h
 | [], _ :: _, _ => rfl
 | _ :: _, [], _ => rfl
 | a :: x, b :: y, h => by
   unfold strsF
   split
   ·exact strsF_len (by simpa using h)
   rfl
theorem check_lit {fu : Nat} {g : ProgP} {t : Told} {w : World} {S : Nat → Prop} {v : Value} (hv : ProgV w S g v) (hx : wCheck fu g = some t) {m1 m2 m3 : Nat} (h1 : m1 = t.info.scalars.length) (h2 : m2 = t.info.arrays.length) (h3 : m3 = t.info.params.length) : Calls Tryz.prog 9 #[v] w fun r w' => ∃ sa sc aa ac pa pc, r = .returned (.tuple #[.agg #[.slice sa m1 sc, .slice aa m2 ac, .slice pa m3 pc], .complex .f64 t.re t.im, .int .i64 t.e]) ∧ SliceR StrE w' (fun _ => True) t.info.scalars (.slice sa m1 sc) ∧ SliceR StrE w' (fun _ => True) t.info.arrays (.slice aa m2 ac) ∧ SliceR FlagsE w' (fun _ => True) t.info.params (.slice pa m3 pc) ∧ Keeps [] w w' := by
 subst h1; subst h2; subst h3;exact zyc
def StrI (la lb : List ByteArray) (n : Nat) (w : World) (g : Nat) (j : Value) (W : World) : Prop := ∃ k : Nat, j = .int .i64 k ∧ k ≤ n ∧ g + k = n + 1 ∧ strsF (la.drop k) (lb.drop k) = strsF la lb ∧ Keeps [] w W
theorem strs_any {la lb : List ByteArray} {a b : Option Addr} {na nb ca cb : Nat} {S S' : Nat → Prop} {w : World} (ha : SliceR StrE w S la (.slice a na ca)) (hb : SliceR StrE w S' lb (.slice b nb cb)) (hna : na = la.length) (hnb : nb = lb.length) (hl : la.length ≤ 1000000) : Calls Tryz.prog 17 #[.slice a na ca, .slice b nb cb] w fun r w' => r = .returned (.bool (strsF la lb)) ∧ Keeps [] w w' := by
 have HA := zh ha; have HB := zh hb;clear ha hb
 by_cases hne : na = nb
 rotate_left
 ·have d0 : ((na : Int) != (nb : Int)) = true := by simp; omega
  have d1 : (na != nb) = true := by simp [hne]
  rw [strsF_len (by rw [← hna, ← hnb]; exact hne)];clear hna hnb hl
  go_enter Tryz.func17, Tryz.ntmps17
  go_wp2_with fail
  refine ret_at (v := .bool false) (fun W => Keeps [] w W) zg (fun W hW => ?_) rfl (fun W hW => ?_)
  ·exact jnb
  exact ⟨rfl, hW⟩
 subst hne;have d0 : ((na : Int) != (na : Int)) = false := by simp
 have HNA := zh hna; have HNB := zh hnb;have hl2 : na ≤ 1000000 := by omega
 clear hna hnb hl
 go_enter Tryz.func17, Tryz.ntmps17
 go_wp2_with fail
 go_loopg [5] (na + 1) (fun g j wr => StrI la lb na w g j wr)
 case atStart => exact ⟨0, rfl, Nat.zero_le _, rfl, rfl, zg⟩
 obtain ⟨k, rfl, hk1, hk2, hs, hk⟩ := hrel;have HK := zh hk;clear hk
 by_cases hlt : k < na
 ·have hla : k < la.length := by rw [← HNA.out]; exact hlt
  have hlb : k < lb.length := by rw [← HNB.out]; exact hlt
  obtain ⟨g, o, rfl, hc1⟩ := (HA.out.kp strL HK.out jg).str hla;obtain ⟨g2, o2, rfl, hc2⟩ := (HB.out.kp strL HK.out jg).str hlb;have lg := lt_cell hc1;have lg2 := lt_cell hc2;rw [List.drop_eq_getElem_cons hla, List.drop_eq_getElem_cons hlb, strsF] at hs;generalize la[k] = x at *
  generalize lb[k] = y at *
  clear hla hlb
  cases gk with
  | zero => omega
  | succ f =>
   by_cases hxy : x = y
   ·subst hxy;rw [if_pos (same_iff.2 rfl)] at hs;have HS := zh hs;clear hs;have d2 : (x.toList == x.toList) = true := by simp
    have d3 : (x.toList != x.toList) = false := by simp
    go_upto_region 6 with fail
    go_region
    all_goals
     go_wp2_with fail
     go_roundg f
     case measure => omega
     case rel => exact ⟨k + 1, by first | rfl | (simp; done) | (simp; omega), by omega, by omega, HS.out, HK.out.trans (fp' := []) zg jg⟩
   have hsf : same x y = false := by cases h : same x y with | false => rfl | true => exact absurd (same_iff.1 h) hxy
   rw [if_neg (by rw [hsf]; simp)] at hs;have d3 : (x.toList == y.toList) = false := by rw [same_eq]; exact hsf
   have d4 : (x.toList != y.toList) = true := by unfold bne; rw [d3]; rfl
   have HS := zh hs;clear hs hxy hsf
   go_upto_region 6 with fail
   go_region
   all_goals
    go_wp2_with fail
    refine ret_at (v := .bool false) (fun W => Keeps [] wr W) zg (fun W hW => ?_) rfl (fun W hW => ?_)
    ·exact jnb
    exact ⟨by rw [← HS.out], HK.out.trans hW jg⟩
 have hke : k = na := by omega
 rw [hke, HNA.out, List.drop_length, ← HNA.out, HNB.out, List.drop_length] at hs;have HS := zh hs;clear hs
 go_wp2_with fail
 refine ret_at (v := .bool true) (fun W => Keeps [] wr W) zg (fun W hW => ?_) rfl (fun W hW => ?_)
 ·exact jnb
 exact ⟨by rw [← HS.out]; rfl, HK.out.trans hW jg⟩
theorem parsed_any {s : ByteArray} {g : ProgP} {w : World} (hg : Gl w) (hx : parseF s = some g) : Calls Tryz.prog 10 #[.string s] w fun r w' => ∃ ra n1 rc fa n2 fc, r = .returned (.agg #[.slice ra n1 rc, .slice fa n2 fc]) ∧ ProgV w' (fun g => w.heap.size ≤ g) g (.agg #[.slice ra n1 rc, .slice fa n2 fc]) ∧ Keeps [] w w' := by
 have HX := zh hx; have HG := zh hg;clear hx hg
 go_enter Tryz.func10, Tryz.ntmps10
 go_wp2_with fail
 refine calls_at (fun W => Keeps [] w W ∧ W.heap[w.heap.size]? = some (.cells #[.slice none 0 0, .slice none 0 0] 33 (0, 0))) ⟨zg, zd⟩ ?_;rintro w1 ⟨k1, cR⟩;refine (parse_any (HG.out.keep k1 jg) HX.out).mono ?_;rintro r w2 ⟨v, rfl, hp, hk⟩;obtain ⟨ra, rc, fa, fc, rfl, h1, h2⟩ := hp;have rR := hk.at cR jg;have hw1 : w.heap.size < w1.heap.size := h_lt cR;have HK1 := zh (k1.trans hk jg);obtain ⟨n1, hn1⟩ : ∃ n, n = g.rules.length := ⟨_, rfl⟩;obtain ⟨n2, hn2⟩ : ∃ n, n = g.funcs.length := ⟨_, rfl⟩;rw [← hn1, ← hn2];have HN := zh (And.intro hn1 hn2); have H1 := zh h1; have H2 := zh h2;clear hn1 hn2 h1 h2 hk k1 cR;obtain ⟨l_R, xR_0, xR_1, yR_0, yR_1⟩ := cf2 rR
 go_wp2_with fail
 refine ret_at (v := .agg #[.slice ra n1 rc, .slice fa n2 fc]) (fun W => Keeps [w.heap.size] w2 W ∧ W.heap[w.heap.size]? = some (.cells #[.slice ra n1 rc, .slice fa n2 fc] 33 (0, 0))) ⟨zg, (qf rR l_R)⟩ (fun W hW => ?_) rfl (fun W hW => ?_)
 ·obtain ⟨hW, rq⟩ := hW;have q0 := cell_of_heap rq 0;have q1 := cell_of_heap rq 1;simp at q0 q1;exact jic
 obtain ⟨hW, -⟩ := hW;obtain ⟨hn1, hn2⟩ := HN.out;subst hn1 hn2;have hd : ∀ y ∈ [w.heap.size], ¬ w1.heap.size ≤ y := fun y hy hc => by simp at hy; subst hy; omega
 exact ⟨ra, _, rc, fa, _, fc, rfl, ⟨ra, rc, fa, fc, rfl, (H1.out.kp ruleL hW hd).to ruleL fun y hy => Nat.le_trans (Nat.le_of_lt hw1) hy, (H2.out.kp funcL hW hd).to funcL fun y hy => Nat.le_trans (Nat.le_of_lt hw1) hy⟩, HK1.out.trans hW jg⟩
theorem told_k1 : ∃ g t, parseF ⟨#[123, 32, 97, 91, 36, 49, 93, 43, 43, 59, 32, 110, 32, 61, 32, 110, 32, 43, 32, 49, 32, 125]⟩ = some g ∧ wCheck 60 g = some t ∧ (t.e, t.re, t.im, t.info.scalars, t.info.arrays, t.info.params) = (0, 0, 0, [bs [110]], [bs [97]], []) := told_of jh
theorem told_k2 : ∃ g t, parseF ⟨#[66, 69, 71, 73, 78, 32, 123, 32, 110, 101, 120, 116, 32, 125]⟩ = some g ∧ wCheck 60 g = some t ∧ (t.e, t.re, t.im, t.info.scalars, t.info.arrays, t.info.params) = (32, 4607182418800017408, 4621256167635550208, [], [], []) := told_of jh
theorem known_any {w : World} (hg : Gl w) : Calls Tryz.prog 11 #[] w fun r w' => r = .returned (.bool true) ∧ Keeps [] w w' := by
 obtain ⟨gk1, ⟨⟨sck1, ark1, psk1⟩, rek1, imk1, ek1⟩, hpk1, hnk1, hFk1⟩ := told_k1;simp only [Prod.mk.injEq] at hFk1;obtain ⟨rfl, rfl, rfl, rfl, rfl, rfl⟩ := hFk1;have HPk1 := zh hpk1; have HNk1 := zh hnk1;clear hpk1 hnk1;obtain ⟨gk2, ⟨⟨sck2, ark2, psk2⟩, rek2, imk2, ek2⟩, hpk2, hnk2, hFk2⟩ := told_k2;simp only [Prod.mk.injEq] at hFk2;obtain ⟨rfl, rfl, rfl, rfl, rfl, rfl⟩ := hFk2;have HPk2 := zh hpk2; have HNk2 := zh hnk2;clear hpk2 hnk2;have HG0 := zh hg; have HK0 := zh (Keeps.refl [] w);have hs1 : strsF [bs [110]] [⟨#[110]⟩] = true := by kernel_rfl
 have hs2 : strsF [bs [97]] [⟨#[97]⟩] = true := by kernel_rfl
 have hq1 : FloatKind.f64.format.order 4607182418800017408 4607182418800017408 = some Ordering.eq := by kernel_rfl
 have hq9 : FloatKind.f64.format.order 4621256167635550208 4621256167635550208 = some Ordering.eq := by kernel_rfl
 clear hg
 go_enter Tryz.func11, Tryz.ntmps11
 go_wp2_with fail
 refine (parsed_any HG0.out HPk1.out).mono ?_;rintro r e1 ⟨ra, rn, rc, fa, fn, fc, rfl, hv, hk⟩;have HKe1 := zh (HK0.out.trans hk jg);have HG0_e1 := zh (HG0.out.keep hk jg);have HV := zh hv;clear hv;clear hk HK0 HG0
 go_wp2_with fail
 refine (check_lit HV.out HNk1.out (m1 := 1) (m2 := 1) (m3 := 0) rfl rfl rfl).mono ?_;rintro r e2 ⟨sak1, sck1, aak1, ack1, pak1, pck1, rfl, hi1, hi2, hi3, hk⟩;have HKe2 := zh (HKe1.out.trans hk jg);have HG0_e2 := zh (HG0_e1.out.keep hk jg);have HSk1 := zh hi1; have HAk1 := zh hi2; have HBk1 := zh hi3;clear hi1 hi2 hi3 HV;clear hk HKe1 HG0_e1
 go_wp2_with fail
 refine calls_at (fun W => Keeps [] e2 W ∧ W.heap[e2.heap.size]? = some (.cells #[.slice sak1 1 sck1, .slice aak1 1 ack1, .slice pak1 0 pck1] 25 (0, 0))) ⟨zg, zb⟩ ?_;rintro w3 ⟨Kw3, cw3_I⟩;have o_I : w.heap.size ≤ e2.heap.size := HKe2.out.size;have HKw3 := zh (HKe2.out.trans Kw3 jg);have HG0_w3 := zh (HG0_e2.out.keep Kw3 jg);have HSk1_w3 := zh (HSk1.out.kp strL Kw3 jg);have HAk1_w3 := zh (HAk1.out.kp strL Kw3 jg);have HBk1_w3 := zh (HBk1.out.kp flagsL Kw3 jg);have Rw3_I := zh cw3_I;clear Kw3 cw3_I HKe2 HG0_e2 HSk1 HAk1 HBk1;refine (parsed_any HG0_w3.out HPk2.out).mono ?_;rintro r e4 ⟨ra, rn, rc, fa, fn, fc, rfl, hv, hk⟩;have Re4_I := zh (hk.at Rw3_I.out jg);have HKe4 := zh (HKw3.out.trans hk jg);have HG0_e4 := zh (HG0_w3.out.keep hk jg);have HSk1_e4 := zh (HSk1_w3.out.kp strL hk jg);have HAk1_e4 := zh (HAk1_w3.out.kp strL hk jg);have HBk1_e4 := zh (HBk1_w3.out.kp flagsL hk jg);have HV := zh hv;clear hv;clear hk Rw3_I HKw3 HG0_w3 HSk1_w3 HAk1_w3 HBk1_w3;have l_I := h_lt Re4_I.out
 go_wp2_with fail
 clear l_I;refine (check_lit HV.out HNk2.out (m1 := 0) (m2 := 0) (m3 := 0) rfl rfl rfl).mono ?_;rintro r e5 ⟨sak2, sck2, aak2, ack2, pak2, pck2, rfl, hi1, hi2, hi3, hk⟩;have Re5_I := zh (hk.at Re4_I.out jg);have HKe5 := zh (HKe4.out.trans hk jg);have HG0_e5 := zh (HG0_e4.out.keep hk jg);have HSk1_e5 := zh (HSk1_e4.out.kp strL hk jg);have HAk1_e5 := zh (HAk1_e4.out.kp strL hk jg);have HBk1_e5 := zh (HBk1_e4.out.kp flagsL hk jg);have HSk2 := zh hi1; have HAk2 := zh hi2; have HBk2 := zh hi3;clear hi1 hi2 hi3 HV;clear hk Re4_I HKe4 HG0_e4 HSk1_e4 HAk1_e4 HBk1_e4;obtain ⟨l_I, xI_0, xI_1, xI_2, yI_0, yI_1, yI_2⟩ := cf3 Re5_I.out;have l_I_1 : e2.heap.size < e5.heap.size + 1 := Nat.lt_add_right 1 l_I
 go_wp2_with fail
 refine calls_at (fun W => Keeps [] e5 W ∧ W.heap[e5.heap.size]? = some (.cells #[.slice sak2 0 sck2, .slice aak2 0 ack2, .slice pak2 0 pck2] 25 (0, 0)) ∧ W.heap[e5.heap.size + 1]? = some (.cells #[.string ⟨#[110]⟩] 9 (0, 0))) ⟨zg, zd, zd⟩ ?_;rintro w6 ⟨Kw6, cw6_I2, cw6_S⟩;have ⟨n_I_I2, n_I2_I⟩ := zne l_I;have o_I2 : w.heap.size ≤ e5.heap.size := HKe5.out.size;have ⟨n_I_S, n_S_I⟩ := zne (Nat.lt_add_right 1 l_I);have n_I2_S : e5.heap.size ≠ e5.heap.size + 1 := by simp
 have n_S_I2 : e5.heap.size + 1 ≠ e5.heap.size := by simp
 have o_S : w.heap.size ≤ e5.heap.size + 1 := Nat.le_trans (HKe5.out.size) (Nat.le_add_right _ 1);have Rw6_I := zh (Kw6.at Re5_I.out jg);have HKw6 := zh (HKe5.out.trans Kw6 jg);have HG0_w6 := zh (HG0_e5.out.keep Kw6 jg);have HSk1_w6 := zh (HSk1_e5.out.kp strL Kw6 jg);have HAk1_w6 := zh (HAk1_e5.out.kp strL Kw6 jg);have HBk1_w6 := zh (HBk1_e5.out.kp flagsL Kw6 jg);have HSk2_w6 := zh (HSk2.out.kp strL Kw6 jg);have HAk2_w6 := zh (HAk2.out.kp strL Kw6 jg);have HBk2_w6 := zh (HBk2.out.kp flagsL Kw6 jg);have Rw6_I2 := zh cw6_I2;have Rw6_S := zh cw6_S;clear Kw6 cw6_I2 cw6_S l_I l_I_1 xI_0 xI_1 xI_2 yI_0 yI_1 yI_2 Re5_I HKe5 HG0_e5 HSk1_e5 HAk1_e5 HBk1_e5 HSk2 HAk2 HBk2;refine (strs_any HSk1_w6.out (sliceR_one Rw6_S.out) rfl rfl jg).mono ?_;rintro r e7 ⟨rfl, hk⟩;have Re7_I := zh (hk.at Rw6_I.out jg);have Re7_I2 := zh (hk.at Rw6_I2.out jg);have Re7_S := zh (hk.at Rw6_S.out jg);have HKe7 := zh (HKw6.out.trans hk jg);have HG0_e7 := zh (HG0_w6.out.keep hk jg);have HSk1_e7 := zh (HSk1_w6.out.kp strL hk jg);have HAk1_e7 := zh (HAk1_w6.out.kp strL hk jg);have HBk1_e7 := zh (HBk1_w6.out.kp flagsL hk jg);have HSk2_e7 := zh (HSk2_w6.out.kp strL hk jg);have HAk2_e7 := zh (HAk2_w6.out.kp strL hk jg);have HBk2_e7 := zh (HBk2_w6.out.kp flagsL hk jg);clear hk Rw6_I Rw6_I2 Rw6_S HKw6 HG0_w6 HSk1_w6 HAk1_w6 HBk1_w6 HSk2_w6 HAk2_w6 HBk2_w6;obtain ⟨l_I, xI_0, xI_1, xI_2, yI_0, yI_1, yI_2⟩ := cf3 Re7_I.out;have l_I2 := h_lt Re7_I2.out;have l_S := h_lt Re7_S.out
 go_wp2_with fail
 refine calls_at (fun W => Keeps [] e7 W ∧ W.heap[e7.heap.size]? = some (.cells #[.string ⟨#[97]⟩] 9 (0, 0))) ⟨zg, zb⟩ ?_;rintro w8 ⟨Kw8, cw8_S2⟩;have ⟨n_I_S2, n_S2_I⟩ := zne l_I;have ⟨n_I2_S2, n_S2_I2⟩ := zne l_I2;have ⟨n_S_S2, n_S2_S⟩ := zne l_S;have o_S2 : w.heap.size ≤ e7.heap.size := HKe7.out.size;have Rw8_I := zh (Kw8.at Re7_I.out jg);have Rw8_I2 := zh (Kw8.at Re7_I2.out jg);have Rw8_S := zh (Kw8.at Re7_S.out jg);have HKw8 := zh (HKe7.out.trans Kw8 jg);have HG0_w8 := zh (HG0_e7.out.keep Kw8 jg);have HSk1_w8 := zh (HSk1_e7.out.kp strL Kw8 jg);have HAk1_w8 := zh (HAk1_e7.out.kp strL Kw8 jg);have HBk1_w8 := zh (HBk1_e7.out.kp flagsL Kw8 jg);have HSk2_w8 := zh (HSk2_e7.out.kp strL Kw8 jg);have HAk2_w8 := zh (HAk2_e7.out.kp strL Kw8 jg);have HBk2_w8 := zh (HBk2_e7.out.kp flagsL Kw8 jg);have Rw8_S2 := zh cw8_S2;clear Kw8 cw8_S2 l_I xI_0 xI_1 xI_2 yI_0 yI_1 yI_2 l_I2 l_S Re7_I Re7_I2 Re7_S HKe7 HG0_e7 HSk1_e7 HAk1_e7 HBk1_e7 HSk2_e7 HAk2_e7 HBk2_e7;refine (strs_any HAk1_w8.out (sliceR_one Rw8_S2.out) rfl rfl jg).mono ?_;rintro r e9 ⟨rfl, hk⟩;have Re9_I := zh (hk.at Rw8_I.out jg);have Re9_I2 := zh (hk.at Rw8_I2.out jg);have Re9_S := zh (hk.at Rw8_S.out jg);have Re9_S2 := zh (hk.at Rw8_S2.out jg);have HKe9 := zh (HKw8.out.trans hk jg);have HG0_e9 := zh (HG0_w8.out.keep hk jg);have HSk1_e9 := zh (HSk1_w8.out.kp strL hk jg);have HAk1_e9 := zh (HAk1_w8.out.kp strL hk jg);have HBk1_e9 := zh (HBk1_w8.out.kp flagsL hk jg)
 have HSk2_e9 := zh (HSk2_w8.out.kp strL hk jg);have HAk2_e9 := zh (HAk2_w8.out.kp strL hk jg);have HBk2_e9 := zh (HBk2_w8.out.kp flagsL hk jg);clear hk Rw8_I Rw8_I2 Rw8_S Rw8_S2 HKw8 HG0_w8 HSk1_w8 HAk1_w8 HBk1_w8 HSk2_w8 HAk2_w8 HBk2_w8;have l_I := h_lt Re9_I.out;have l_I2 := h_lt Re9_I2.out;have l_S := h_lt Re9_S.out;have l_S2 := h_lt Re9_S2.out
 go_wp2_with fail
 refine ret_at (v := .bool true) (fun W => Keeps [] e9 W) zg (fun w10 hW => ?_) rfl (fun w10 hW => ?_)
 ·have Kw10 : Keeps [] e9 w10 := hW;exact jnb
 have Kw10 : Keeps [] e9 w10 := hW;have Rw10_I := zh (Kw10.at Re9_I.out jg);have Rw10_I2 := zh (Kw10.at Re9_I2.out jg);have Rw10_S := zh (Kw10.at Re9_S.out jg);have Rw10_S2 := zh (Kw10.at Re9_S2.out jg);have HKw10 := zh (HKe9.out.trans Kw10 jg);have HG0_w10 := zh (HG0_e9.out.keep Kw10 jg);have HSk1_w10 := zh (HSk1_e9.out.kp strL Kw10 jg);have HAk1_w10 := zh (HAk1_e9.out.kp strL Kw10 jg);have HBk1_w10 := zh (HBk1_e9.out.kp flagsL Kw10 jg);have HSk2_w10 := zh (HSk2_e9.out.kp strL Kw10 jg);have HAk2_w10 := zh (HAk2_e9.out.kp strL Kw10 jg);have HBk2_w10 := zh (HBk2_e9.out.kp flagsL Kw10 jg);clear Kw10 l_I l_I2 l_S l_S2 Re9_I Re9_I2 Re9_S Re9_S2 HKe9 HG0_e9 HSk1_e9 HAk1_e9 HBk1_e9 HSk2_e9 HAk2_e9 HBk2_e9;exact ⟨rfl, HKw10.out⟩
theorem check_wlit {fu : Nat} {g : ProgP} {t : Told} {w : World} {S : Nat → Prop} {v : Value} (hv : ProgV w S g v) (hx : wCheck fu g = some t) {m1 m2 m3 : Nat} (h1 : m1 = t.info.scalars.length) (h2 : m2 = t.info.arrays.length) (h3 : m3 = t.info.params.length) : Calls Tryz.prog 9 #[v] w fun r w' => ∃ sa sc aa ac pa pc, r = .returned (.tuple #[.agg #[.slice sa m1 sc, .slice aa m2 ac, .slice pa m3 pc], .complex .f64 t.re t.im, .int .i64 t.e]) ∧ SliceR StrE w' (fun _ => True) t.info.scalars (.slice sa m1 sc) ∧ SliceR StrE w' (fun _ => True) t.info.arrays (.slice aa m2 ac) ∧ SliceR FlagsE w' (fun _ => True) t.info.params (.slice pa m3 pc) ∧ Keeps [] w w' := by
 subst h1; subst h2; subst h3;exact zyc
theorem strsF_refl : ∀ l : List ByteArray, strsF l l = true
 | [] => rfl
 | a :: l => by
   unfold strsF;rw [if_pos (same_iff.2 rfl)];exact strsF_refl l
theorem namesF_len {st : NS} {k : Kinds} {arr : Bool} : ∀ {l : List Thing} {r : List ByteArray}, namesF st k arr l = some r → r.length ≤ l.length
 | [], r, h => by simp only [namesF, Option.some.injEq] at h; rw [← h]; exact Nat.le_refl _
 | t :: l, r, h => by
   unfold namesF at h
   split at h
   ·exact Nat.le_succ_of_le (namesF_len h)
   simp only [Option.bind_eq_bind, Option.bind_eq_some_iff, Option.some.injEq] at h;obtain ⟨q, _, rest, h2, rfl⟩ := h;have := namesF_len h2
   split
   ·simp only [List.length_cons]; omega
   simp only [List.length_cons]; omega
theorem wCheck_len {fu : Nat} {g : ProgP} {t : Told} (h : wCheck fu g = some t) : t.info.scalars.length ≤ 400000 ∧ t.info.arrays.length ≤ 400000 := by
 unfold wCheck at h
 split at h
 ·cases h
 simp only [Option.bind_eq_bind, Option.bind_eq_some_iff] at h;obtain ⟨st, -, h⟩ := h
 split at h
 ·cases h
 rename_i hb;simp only [Option.bind_eq_some_iff] at h;obtain ⟨st2, ha, h⟩ := h
 have hs : st2.seen = st.seen := by
  rcases nArr_ok ha with ⟨-, rfl⟩ | ⟨-, k, -, h2⟩
  ·rfl
  exact (arraysF_keep h2).2
 unfold nRest at h
 split at h
 ·simp only [Option.some.injEq] at h;rw [← h]; simp
 simp only [Option.bind_eq_bind, Option.bind_eq_some_iff, Option.some.injEq] at h;obtain ⟨k, -, x, hx, rfl⟩ := h;unfold infoF at hx;simp only [Option.bind_eq_bind, Option.bind_eq_some_iff, Option.some.injEq] at hx;obtain ⟨sc, h1, ar, h2, ps, -, rfl⟩ := hx;have e1 := namesF_len h1;have e2 := namesF_len h2;rw [hs] at e1 e2;simp only [(sortB_perm _).length_eq]
 omega
theorem own_ge {W : World} {b n : Nat} {e : TypeId} {s : Nat} {xs : List Value} {v : Value} (h : W.ownsRow b e s v n xs) {g : Nat} (hg : v.ownBlock = some g) : b ≤ g ∧ g < W.heap.size := by
 rcases h.2 with ⟨rfl, _⟩ | ⟨g', cap', cur, rfl, hb, hh, -⟩
 ·simp [Value.ownBlock] at hg
 simp [Value.ownBlock] at hg; subst hg; exact ⟨hb, h_lt hh⟩
theorem slice_of_rows {W : World} {S : Nat → Prop} {b n : Nat} {xs : List Value} {v : Value} {l : List RuleP} (h : W.ownsRow b 52 9 v n xs) (hl : l.length = n) (hx : Elems (RuleE W S) l xs) (hS : ∀ g, S g) : SliceR RuleE W S l v := by
 subst hl
 rcases h.2 with ⟨rfl, hn⟩ | ⟨g, cap, cur, rfl, hb, hg, h1, h2, h3, h4⟩
 ·exact ⟨none, 0, by rw [hn], by omega, fun h => by omega⟩
 refine ⟨_, cap, rfl, h1, fun h0 => ⟨g, 0, xs, rfl, hS g, h_lt hg, hx, fun j u hj => ?_⟩⟩;rw [Nat.zero_add, cell_of_heap hg];have hj2 : (cur.toList.take (l.length * 9))[j]? = some u := by rw [h4]; exact hj
 exact zrd
theorem rows_slice {W : World} {b n : Nat} {xs : List Value} {v : Value} (h : W.ownsRow b 52 9 v n xs) : ∃ a c, v = .slice a n c := by
 rcases h.2 with ⟨rfl, hn⟩ | ⟨g, cap, cur, rfl, -⟩
 ·exact ⟨none, 0, by rw [hn]⟩
 exact ⟨_, _, rfl⟩
theorem step_row52 {ops : Array Oper} {o : Oper} {a : Act} {V : World} {KK : Act → World → Prop} {Q : Exit → Act → World → Prop} {E : Prop} (hgd : o.guard = none) (s y : Operand) (ho : o.op = .call { callee := .builtin .append, args := #[s, y], argTypes := #[30, 30] }) {b G cap n : Nat} {xs : List Value} {v c0 c1 c2 c3 c4 c5 c6 c7 c8 : Value} (hs : a.eval s = v) (hy : a.eval y = .slice (some ⟨G, 0, none⟩) 1 cap) (hO : V.ownsRow b 52 9 v n xs) (hG : V.heap[G]? = some (.cells #[c0, c1, c2, c3, c4, c5, c6, c7, c8] 52 (0, 0))) (h1 : ∀ u ∈ [c0, c1, c2, c3, c4, c5, c6, c7, c8], u.oneCell' = true) (hb : b ≤ V.heap.size) (hn : n ≤ 400000) (h : ∀ v' w' fl, (∀ x ∈ fl, b ≤ x) → Keeps fl V w' → w'.ownsRow b 52 9 v' (n + 1) (xs ++ [c0, c1, c2, c3, c4, c5, c6, c7, c8]) → KK (a.put o.dst v') w') : if Region.wanted o (yielded ops a.tmps) = true then Oper.wp Tryz.prog o a V KK Q else E := by
 obtain ⟨i, hi, hz, hsz, hby⟩ := info52;refine step_append_lies V hgd s y 30 ho b 52 i _ 9 128 Tryz.underlying30 hi hz hsz hby rfl zi v n xs hs hO ⟨G, 0, none⟩ 1 cap [c0, c1, c2, c3, c4, c5, c6, c7, c8] hy rfl (fun j u hj => ?_) h1 qg qbb qg hb _ rfl fun g cp w1 h2 h3 h4 h5 => ?_
 ·have := cell_of_heap hG j;exact qmd
 refine h _ w1 v.ownBlock.toList (fun x hx => ?_) (Keeps.grown h3 (fun k hk => .inl (by simp [hk]))) h2;have hx' : v.ownBlock = some x := by simpa using hx
 rcases hO.2 with ⟨rfl, _⟩ | ⟨g', cap', cur, rfl, hbg, -⟩
 ·simp [Value.ownBlock] at hx'
 simp [Value.ownBlock] at hx'; omega
def OrdI (w3 : World) (A : Nat) (g0 : ProgP) (ra fa : Option Addr) (rc fc : Nat) (IR : Obj) (g : Nat) (j : Value) (W : World) : Prop :=
 ∃ (n : Nat) (z : Int) (v : Value) (xs : List Value), j = .int .i64 z ∧ z = (n : Int) - 1 ∧ n ≤ g0.rules.length ∧ n + 1 ≤ g ∧ Keeps [] w3 W ∧ W.heap[A]? = some (.cells #[.slice ra g0.rules.length rc, .slice fa g0.funcs.length fc] 33 (0, 0)) ∧ W.heap[w3.heap.size]? = some IR ∧ W.heap[w3.heap.size + 1]? = some (.cells #[v, .slice fa g0.funcs.length fc] 33 (0, 0)) ∧ W.ownsRow (w3.heap.size + 2) 52 9 v (g0.rules.length - n) xs ∧ Elems (RuleE w3 (fun _ => True)) ((g0.rules.drop n).reverse) xs ∧ w3.heap.size + 2 ≤ W.heap.size
structure OrdIn (w : World) (la : Option Addr) (ln : Nat) (tb : Nat → Nat → ByteArray) (tn : Nat → Nat) : Prop where
 low : 8 ≤ w.heap.size
 tab : ∀ g j, g < 8 → j < tabLen g → w.cell? ⟨g, j, none⟩ = some (.string (tb g j))
 num : ∀ j, j < 8 → w.cell? ⟨4, j, none⟩ = some (.float .f64 (tn j))
 ints : ∀ j, j < ln → ∃ g o z, la = some ⟨g, o, none⟩ ∧ g < w.heap.size ∧ w.cell? ⟨g, o + j, none⟩ = some (.int .i64 z) ∧ -9223372036854775808 ≤ z ∧ z ≤ 9223372036854775807
 lnb : ln ≤ 9223372036854775807
set_option maxHeartbeats 40000000 in
theorem law_order {w : World} {la : Option Addr} {ln lc : Nat} {tb : Nat → Nat → ByteArray} {tn : Nat → Nat} (hg : Gl w) (hin : OrdIn w la ln tb tn) : Calls Tryz.prog 6 #[.slice la ln lc] w fun r w' => r = .returned (.bool true) ∧ Keeps [] w w' := by
 have HPR : Hid (Calls Tryz.prog 14 #[.slice la ln lc] w fun r w' => ∃ g v, r = .returned v ∧ ProgV w' (fun x => w.heap.size ≤ x) g v ∧ WfP g ∧ Keeps [] w w') := zh (program_any (M := ⟨w.heap.size + 1, la, ln, lc, w, tb, tn⟩) ⟨hin.low, Nat.le_succ _, hin.tab, hin.num, hin.ints, hin.lnb⟩ rfl rfl);have HGL := zh hg;clear hg hin
 go_enter Tryz.func6, Tryz.ntmps6
 go_wp2_with fail
 refine (HPR.out).mono ?_;rintro r w1 ⟨g0, v0, rfl, hv, hwf, hk⟩;have HV := zh hv; have HWF := zh hwf; have HK1 := zh hk;obtain ⟨ra, rc, fa, fc, rfl, hr, hf⟩ := hv
 have hnr : g0.rules.length ≤ 400000 := by
  have := rsize_len g0.rules; have := hwf.size; omega
 have HR := zh (hr.to ruleL (T := fun _ => True) fun _ _ => trivial); have HFN := zh (hf.to funcL (T := fun _ => True) fun _ _ => trivial);clear hr hf hk HPR hwf
 go_wp2_with fail
 refine calls_at (fun V => Keeps [] w1 V ∧ V.heap[w1.heap.size]? = some (.cells #[.slice ra g0.rules.length rc, .slice fa g0.funcs.length fc] 33 (0, 0))) ⟨zg, qd⟩ ?_;rintro w2 ⟨hk, hrA⟩;have HK2 := zh (HK1.out.trans hk jg); have HV2 := zh (HV.out.kp hk jg);have HR2 := zh (HR.out.kp ruleL hk jg); have HF2 := zh (HFN.out.kp funcL hk jg);obtain ⟨A, hA⟩ : ∃ x, x = w1.heap.size := ⟨_, rfl⟩;rw [← hA] at hrA ⊢;have HA := zh hrA;have oA : w.heap.size ≤ A := by rw [hA]; exact HK1.out.size
 clear hk hrA hA HV HR HFN HK1;obtain ⟨m1, hm1⟩ : ∃ m, m = (specW g0).info.scalars.length := ⟨_, rfl⟩;obtain ⟨m2, hm2⟩ : ∃ m, m = (specW g0).info.arrays.length := ⟨_, rfl⟩;obtain ⟨m3, hm3⟩ : ∃ m, m = (specW g0).info.params.length := ⟨_, rfl⟩;obtain ⟨e1, he1⟩ : ∃ m, m = (specW g0).e := ⟨_, rfl⟩;refine (check_wlit (fu := 200000) HV2.out (wCheck_spec HWF.out (Nat.le_refl _)) hm1 hm2 hm3).mono ?_;rintro r w3 ⟨sa, sc, aa, ac, pa, pc, rfl, hs1, hs2, -, hk⟩;rw [← he1];generalize (specW g0).re = tre at *
 generalize (specW g0).im = tim at *
 have HK3 := zh (HK2.out.trans hk jg); have HA3 := zh (hk.at HA.out jg);have HR3 := zh (HR2.out.kp ruleL hk jg); have HF3 := zh (HF2.out.kp funcL hk jg);have HS1 := zh hs1; have HS2 := zh hs2;have HM1 := zh hm1; have HM2 := zh hm2; have HE1 := zh he1;clear hs1 hs2 hk HK2 HV2 HR2 HF2 HA hm1 hm2 hm3 he1;obtain ⟨lA, a0, a1, b0, b1⟩ := cf2 HA3.out
 go_upto_region 5 with fail
 refine wp_at (fun V => Keeps [] w3 V ∧ V.heap[w3.heap.size]? = some (.cells #[.slice sa m1 sc, .slice aa m2 ac, .slice pa m3 pc] 25 (0, 0)) ∧ V.heap[w3.heap.size + 1]? = some (.cells #[.slice none 0 0, .slice fa g0.funcs.length fc] 33 (0, 0))) ⟨zg, qd, qd⟩ ?_;rintro w4 ⟨hk, hrI, hrB⟩;have HA4 := zh (hk.at HA3.out jg);clear lA a0 a1 b0 b1;obtain ⟨lA, a0, a1, b0, b1⟩ := cf2 HA4.out;have hnw : IntKind.i64.wrap ((g0.rules.length : Int) - 1) = (g0.rules.length : Int) - 1 := wrap_id qg qg
 go_wp2_with fail
 go_loopg [8] (g0.rules.length + 1) (fun g j wr => OrdI w3 A g0 ra fa rc fc (.cells #[.slice sa m1 sc, .slice aa m2 ac, .slice pa m3 pc] 25 (0, 0)) g j wr)
 case atStart => exact ⟨g0.rules.length, _, _, [], rfl, rfl, Nat.le_refl _, Nat.le_refl _, hk, HA4.out, hrI, hrB, by rw [Nat.sub_self]; exact World.ownsRow_nil _ _ _ _, by rw [List.drop_length]; exact .nil, h_lt hrB⟩
 clear lA a0 a1 b0 b1 hk hrI hrB HA4 hnw;obtain ⟨n, z, v, xs, rfl, hz, hn, hng, hk, hrA, hrI, hrB, hown, hel, hsz⟩ := hrel;have HK := zh hk; have HA := zh hrA; have HI := zh hrI; have HB := zh hrB; have HX := zh hown; have HEL := zh hel; have HSZ := zh hsz;clear hk hrA hrI hrB hown hel hsz;obtain ⟨va, vc, rfl⟩ := rows_slice HX.out
 cases n with
 | succ n =>
  obtain rfl : z = (n : Int) := by omega
  clear hz;have hlt : n < g0.rules.length := by omega
  obtain ⟨gA, oR, cap', c, hv, -, -, hc, hx⟩ := (HR3.out).get ruleL hlt;injection hv with e1_ e2_ e3_
  subst e1_;clear e2_ e3_
  obtain ⟨c0, c1, c2, c3, c4, c5, c6, c7, c8, rfl⟩ : ∃ c0 c1 c2 c3 c4 c5 c6 c7 c8, c = [c0, c1, c2, c3, c4, c5, c6, c7, c8] := by
   have := ruleL.len hc
   match c, this with
   | [c0, c1, c2, c3, c4, c5, c6, c7, c8], _ => exact ⟨_, _, _, _, _, _, _, _, _, rfl⟩
  have hone := ruleL.one hc;have HC := zh hc
  have hcell : ∀ j u, ([c0, c1, c2, c3, c4, c5, c6, c7, c8] : List Value)[j]? = some u → wr.cell? ⟨gA, oR + n * 9 + j, none⟩ = some u := fun j u hj => by
   have h1 := hx j u hj;rw [← Nat.add_assoc] at h1;rw [World.cell?_of_block (w := w3) (a := ⟨gA, oR + n * 9 + j, none⟩) (HK.out.block gA (World.block_lt_of_cell? w3 _ h1) jg)]; exact h1
  have r0 := hcell 0 _ rfl; have r1 := hcell 1 _ rfl; have r2 := hcell 2 _ rfl; have r3 := hcell 3 _ rfl; have r4 := hcell 4 _ rfl; have r5 := hcell 5 _ rfl; have r6 := hcell 6 _ rfl; have r7 := hcell 7 _ rfl; have r8 := hcell 8 _ rfl;have lg := World.block_lt_of_cell? wr _ r0;simp only [Nat.add_zero] at r0;have HONE := zh hone;clear hc hx hcell hone;have hi1 : (0 : Int) ≤ (n : Int) := by omega
  have hi2 : (n : Int) < (g0.rules.length : Int) := by omega
  have hnw : IntKind.i64.wrap ((n : Int) - 1) = (n : Int) - 1 := wrap_id qg qg;obtain ⟨lA, a0, a1, b0, b1⟩ := cf2 HA.out;obtain ⟨lB, x0, x1, y0, y1⟩ := cf2 HB.out
  go_wp2_with fail
  go_region_law (first
   | (
       refine step_at (fun V => Keeps [] wr V ∧ V.heap[wr.heap.size]? = some (.cells #[c0, c1, c2, c3, c4, c5, c6, c7, c8] 52 (0, 0))) ⟨zg, qd⟩ ?_;rintro wq ⟨hkq, cG⟩;refine step_row52 rfl (.tmp 31) (.tmp 37) rfl rfl rfl (row_of_block HX.out fun g hg => hkq.block g (by obtain ⟨cur, hc⟩ := own_block HX.out hg; exact h_lt hc) jg) cG HONE.out (Nat.le_trans HSZ.out hkq.size) qg ?_;rintro va' wa fl hfl hka hown;obtain ⟨aa2, cc2, rfl⟩ := rows_slice hown;have rB := hka.at (hkq.at HB.out jg) (fun hx => by have := hfl _ hx; omega);have HBa := zh rB;have HOW := zh hown; have HKA := zh ((hkq.weaken (fp' := fl) jg).trans hka (fun x hx => .inl hx)); have HFL := zh hfl;clear hkq cG hfl hka hown;obtain ⟨lB2, xx0, xx1, yy0, yy1⟩ := cf2 rB;clear rB))
  all_goals
   go_wp2_with fail
   go_roundg (gk - 1)
   case measure => omega
   refine inv_at (fun V => Keeps [w3.heap.size + 1] wa V ∧ V.heap[w3.heap.size + 1]? = some (.cells #[.slice aa2 (g0.rules.length - (n + 1) + 1) cc2, .slice fa g0.funcs.length fc] 33 (0, 0))) ⟨zg, (ze HBa.out)⟩ ?_;rintro wz ⟨hk, hr⟩;have hs3 := HK.out.size;have ho := HOW.out;rw [show g0.rules.length - (n + 1) + 1 = g0.rules.length - n by omega] at ho hr;have hl3 := h_lt HA3.out;have hfl := HFL.out;exact ⟨n, _, _, xs ++ [c0, c1, c2, c3, c4, c5, c6, c7, c8], rfl, rfl, by omega, by omega, (HK.out.trans HKA.out (fun x hx => .inr (by have := hfl x hx; omega))).trans hk (fun x hx => .inr (by simp at hx; omega)), hk.at (HKA.out.at HA.out (fun hx => by have := hfl _ hx; omega)) qi, hk.at (HKA.out.at HI.out (fun hx => by have := hfl _ hx; omega)) jg, hr, row_of_block ho fun g hg => hk.block g (own_ge ho hg).2 (by have := (own_ge ho hg).1; simp; omega), by rw [List.drop_eq_getElem_cons hlt, List.reverse_cons]; exact HEL.out.snoc HC.out, by have := hk.size; have := HKA.out.size; have := HSZ.out; omega⟩
 | zero =>
  obtain rfl : z = -1 := by omega
  clear hz hn hng;have HXE := HX.out;simp only [Nat.sub_zero] at HXE;have hel := HEL.out;rw [List.drop_zero] at hel
  have HVT : Hid (ProgV wr (fun _ => True) (turned g0) (.agg #[.slice va g0.rules.length vc, .slice fa g0.funcs.length fc])) := zh ⟨va, vc, fa, fc, by simp [turned], by
   show SliceR RuleE wr _ g0.rules.reverse (.slice va g0.rules.reverse.length vc);rw [List.length_reverse];exact slice_of_rows HXE jg (hel.mono fun a c h => ruleL.keep h HK.out jg fun _ h => h) (fun _ => trivial), HF3.out.kp funcL HK.out jg⟩
  simp only [Nat.sub_zero] at HB;have HWT := zh (wf_turned HWF.out);obtain ⟨hoe, hos, hoa⟩ := order_spec HWF.out;have q1 : m1 = (specW (turned g0)).info.scalars.length := by rw [HM1.out, hos]
  have q2 : m2 = (specW (turned g0)).info.arrays.length := by rw [HM2.out, hoa]
  obtain ⟨mm3, q3⟩ : ∃ m, m = (specW (turned g0)).info.params.length := ⟨_, rfl⟩;have hle := wCheck_len (wCheck_spec HWF.out (Nat.le_refl 200000));obtain ⟨ls, hls⟩ : ∃ l, l = (specW g0).info.scalars := ⟨_, rfl⟩;obtain ⟨lr, hlr⟩ : ∃ l, l = (specW g0).info.arrays := ⟨_, rfl⟩;have HS1b := HS1.out; have HS2b := HS2.out; have hm1b := HM1.out; have hm2b := HM2.out;rw [← hls] at hos HS1b hm1b hle;rw [← hlr] at hoa HS2b hm2b hle;have HLE := zh hle; have HT1 := zh HS1b; have HT2 := zh HS2b; have HL1 := zh hm1b; have HL2 := zh hm2b
  have hee : ((e1 == 0) = true ∧ ((specW (turned g0)).e == 0) = true) ∨ ((e1 == 0) = false ∧ ((specW (turned g0)).e == 0) = false) := by
   rw [HE1.out]
   by_cases h0 : (specW g0).e = 0
   ·exact .inl ⟨by simp [h0], by simp [hoe.1 h0]⟩
   exact .inr ⟨beq_false_of_ne h0, beq_false_of_ne fun h => h0 (hoe.2 h)⟩
  have HEE := zh hee; have HOS := zh hos; have HOA := zh hoa;clear hel HXE HX HEL hle HS1b HS2b hm1b hm2b hls hlr hee hos hoa hoe HS1 HS2 HM1 HM2 HE1;obtain ⟨lB, x0, x1, y0, y1⟩ := cf2 HB.out
  go_wp2_with fail
  refine (check_wlit (fu := 200000) HVT.out (wCheck_spec HWT.out (Nat.le_refl _)) q1 q2 q3).mono ?_;rintro r w5 ⟨sb, sd, ab, ad, pb, pd, rfl, ht1, ht2, -, hk⟩;have HEE2 := HEE.out;rw [← HOS.out] at ht1;rw [← HOA.out] at ht2;generalize (specW (turned g0)).e = e2 at *
  generalize (specW (turned g0)).re = tre2 at *
  generalize (specW (turned g0)).im = tim2 at *
  have HU1 := zh ht1; have HU2 := zh ht2;have HK5 := zh ((HK3.out.trans HK.out jg).trans hk jg); have HI5 := zh (hk.at HI.out jg);have HT1b := zh ((HT1.out.kp strL HK.out jg).kp strL hk jg); have HT2b := zh ((HT2.out.kp strL HK.out jg).kp strL hk jg);have hs5 := hk.size;have l5 := h_lt HI.out;clear ht1 ht2 hk q1 q2 q3 lB x0 x1 y0 y1 HB HA HK HI HVT HWT HEE HT1 HT2
  rcases HEE2 with ⟨t1, t2⟩ | ⟨t1, t2⟩
  all_goals
   go_wp2_with fail
   refine calls_at (fun V => Keeps [] w5 V ∧ V.heap[w5.heap.size]? = some (.cells #[.slice sb m1 sd, .slice ab m2 ad, .slice pb mm3 pd] 25 (0, 0))) ⟨zg, qd⟩ ?_;rintro w6 ⟨hk, hrJ⟩;have HK6 := zh (HK5.out.trans hk jg); have HI6 := zh (hk.at HI5.out jg); have HJ6 := zh hrJ;have HT16 := zh (HT1b.out.kp strL hk jg); have HT26 := zh (HT2b.out.kp strL hk jg); have HU16 := zh (HU1.out.kp strL hk jg); have HU26 := zh (HU2.out.kp strL hk jg);clear hk hrJ;refine (known_any (HGL.out.keep HK6.out jg)).mono ?_;rintro r w7 ⟨rfl, hk⟩;have HK7 := zh (HK6.out.trans hk jg); have HI7 := zh (hk.at HI6.out jg); have HJ7 := zh (hk.at HJ6.out jg);have HT17 := zh (HT16.out.kp strL hk jg); have HT27 := zh (HT26.out.kp strL hk jg); have HU17 := zh (HU16.out.kp strL hk jg); have HU27 := zh (HU26.out.kp strL hk jg);clear hk HI6 HJ6 HT16 HT26 HU16 HU26 HK6;obtain ⟨lI, i0, i1, i2, -⟩ := cf3 HI7.out;obtain ⟨lJ, j0, j1, j2, -⟩ := cf3 HJ7.out
   go_wp2_with fail
   refine (strs_any HT17.out HU17.out HL1.out HL1.out (by have := HLE.out.1; omega)).mono ?_;rintro r w8 ⟨rfl, hk⟩;rw [strsF_refl];have HK8 := zh (HK7.out.trans hk jg); have HI8 := zh (hk.at HI7.out jg); have HJ8 := zh (hk.at HJ7.out jg);have HT28 := zh (HT27.out.kp strL hk jg); have HU28 := zh (HU27.out.kp strL hk jg);clear hk lI i0 i1 i2 lJ j0 j1 j2;obtain ⟨lI, i0, i1, i2, -⟩ := cf3 HI8.out;obtain ⟨lJ, j0, j1, j2, -⟩ := cf3 HJ8.out
   go_wp2_with fail
   refine (strs_any HT28.out HU28.out HL2.out HL2.out (by have := HLE.out.2; omega)).mono ?_;rintro r w9 ⟨rfl, hk⟩;rw [strsF_refl];have HK9 := zh (HK8.out.trans hk jg);clear hk
   go_wp2_with fail
   refine ret_at (v := .bool true) (fun W => Keeps [] w9 W) zg (fun W hW => ?_) rfl (fun W hW => ⟨rfl, HK9.out.trans hW jg⟩);exact jnb
end Go.Proofs.YtkfillfkbhbbjaaGreatDoor
