/- NamesKnown: the law. Made by a program (law.py, walk.py). -/
import Derived.Test.YtkfillfkbhbbjaaGreatDoorKnw
set_option maxRecDepth 100000
set_option maxHeartbeats 4000000
set_option linter.unusedSimpArgs false
set_option linter.unusedVariables false
namespace Go.Proofs.YtkfillfkbhbbjaaGreatDoor
open Go.RowKit
theorem told_a : ∃ g t, parseF ⟨#[102, 117, 110, 99, 116, 105, 111, 110, 32, 102, 40, 120, 41, 32, 123, 32, 120, 91, 49, 93, 32, 61, 32, 50, 32, 125, 32, 66, 69, 71, 73, 78, 32, 123, 32, 102, 40, 116, 41, 59, 32, 112, 114, 105, 110, 116, 32, 116, 32, 125]⟩ = some g ∧ nCheck 60 g = some t ∧ (t.e, t.re, t.im, t.info.scalars, t.info.arrays, t.info.params) = (30, 4607182418800017408, 4625478292286210048, [], [], []) := told_of (by kernel_rfl)
theorem told_b : ∃ g t, parseF ⟨#[123, 32, 103, 40, 49, 41, 32, 125]⟩ = some g ∧ nCheck 60 g = some t ∧ (t.e, t.re, t.im, t.info.scalars, t.info.arrays, t.info.params) = (28, 4607182418800017408, 4613937818241073152, [], [], []) := told_of (by kernel_rfl)
theorem told_c : ∃ g t, parseF ⟨#[66, 69, 71, 73, 78, 32, 123, 32, 112, 114, 105, 110, 116, 32, 115, 117, 98, 115, 116, 114, 40, 34, 97, 34, 41, 32, 125]⟩ = some g ∧ nCheck 60 g = some t ∧ (t.e, t.re, t.im, t.info.scalars, t.info.arrays, t.info.params) = (31, 4607182418800017408, 4624633867356078080, [], [], []) := told_of (by kernel_rfl)
theorem told_d : ∃ g t, parseF ⟨#[102, 117, 110, 99, 116, 105, 111, 110, 32, 102, 40, 41, 32, 123, 32, 125, 32, 102, 117, 110, 99, 116, 105, 111, 110, 32, 102, 40, 41, 32, 123, 32, 125]⟩ = some g ∧ nCheck 60 g = some t ∧ (t.e, t.re, t.im, t.info.scalars, t.info.arrays, t.info.params) = (29, 4607182418800017408, 4625759767262920704, [], [], []) := told_of (by kernel_rfl)
theorem told_h : ∃ g t, parseF ⟨#[102, 117, 110, 99, 116, 105, 111, 110, 32, 102, 40, 78, 82, 41, 32, 123, 32, 125]⟩ = some g ∧ nCheck 60 g = some t ∧ (t.e, t.re, t.im, t.info.scalars, t.info.arrays, t.info.params) = (28, 4607182418800017408, 4607182418800017408, [], [], []) := told_of (by kernel_rfl)
theorem told_i : ∃ g t, parseF ⟨#[66, 69, 71, 73, 78, 32, 123, 32, 78, 82, 91, 49, 93, 32, 61, 32, 50, 32, 125]⟩ = some g ∧ nCheck 60 g = some t ∧ (t.e, t.re, t.im, t.info.scalars, t.info.arrays, t.info.params) = (30, 4607182418800017408, 4621256167635550208, [], [], []) := told_of (by kernel_rfl)
theorem told_k : ∃ g t, parseF ⟨#[102, 117, 110, 99, 116, 105, 111, 110, 32, 102, 40, 112, 44, 32, 113, 41, 32, 123, 32, 113, 91, 112, 93, 32, 61, 32, 49, 32, 125, 32, 123, 32, 102, 40, 120, 44, 32, 98, 41, 32, 125]⟩ = some g ∧ nCheck 60 g = some t ∧ (t.e, t.re, t.im, t.info.scalars, t.info.arrays, t.info.params) = (0, 0, 0, [bs [120]], [bs [98]], [[false, true]]) := told_of (by kernel_rfl)
theorem gaps_no (w : World) : Calls Tryz.prog 12 #[.string ⟨#[103, 97, 112, 115]⟩] w fun r w' => r = .returned (.bool false) ∧ w' = w := by
 have h := special_any ⟨#[103, 97, 112, 115]⟩ w
 rw [show specialF ⟨#[103, 97, 112, 115]⟩ = false from by kernel_rfl] at h
 exact h
theorem law_known {w : World} (hg : Gl w) : Calls Tryz.prog 3 #[] w fun r w' => r = .returned (.bool true) ∧ Keeps [] w w' := by
 obtain ⟨ga, ⟨⟨sca, ara, psa⟩, rea, ima, ea⟩, hpa, hna, hFa⟩ := told_a
 simp only [Prod.mk.injEq] at hFa
 obtain ⟨rfl, rfl, rfl, rfl, rfl, rfl⟩ := hFa
 have HPa := zh hpa; have HNa := zh hna
 clear hpa hna
 obtain ⟨gb, ⟨⟨scb, arb, psb⟩, reb, imb, eb⟩, hpb, hnb, hFb⟩ := told_b
 simp only [Prod.mk.injEq] at hFb
 obtain ⟨rfl, rfl, rfl, rfl, rfl, rfl⟩ := hFb
 have HPb := zh hpb; have HNb := zh hnb
 clear hpb hnb
 obtain ⟨gc, ⟨⟨scc, arc, psc⟩, rec, imc, ec⟩, hpc, hnc, hFc⟩ := told_c
 simp only [Prod.mk.injEq] at hFc
 obtain ⟨rfl, rfl, rfl, rfl, rfl, rfl⟩ := hFc
 have HPc := zh hpc; have HNc := zh hnc
 clear hpc hnc
 obtain ⟨gd, ⟨⟨scd, ard, psd⟩, red, imd, ed⟩, hpd, hnd, hFd⟩ := told_d
 simp only [Prod.mk.injEq] at hFd
 obtain ⟨rfl, rfl, rfl, rfl, rfl, rfl⟩ := hFd
 have HPd := zh hpd; have HNd := zh hnd
 clear hpd hnd
 obtain ⟨gh, ⟨⟨sch, arh, psh⟩, reh, imh, eh⟩, hph, hnh, hFh⟩ := told_h
 simp only [Prod.mk.injEq] at hFh
 obtain ⟨rfl, rfl, rfl, rfl, rfl, rfl⟩ := hFh
 have HPh := zh hph; have HNh := zh hnh
 clear hph hnh
 obtain ⟨gi, ⟨⟨sci, ari, psi⟩, rei, imi, ei⟩, hpi, hni, hFi⟩ := told_i
 simp only [Prod.mk.injEq] at hFi
 obtain ⟨rfl, rfl, rfl, rfl, rfl, rfl⟩ := hFi
 have HPi := zh hpi; have HNi := zh hni
 clear hpi hni
 obtain ⟨gk, ⟨⟨sck, ark, psk⟩, rek, imk, ek⟩, hpk, hnk, hFk⟩ := told_k
 simp only [Prod.mk.injEq] at hFk
 obtain ⟨rfl, rfl, rfl, rfl, rfl, rfl⟩ := hFk
 have HPk := zh hpk; have HNk := zh hnk
 clear hpk hnk
 have HG0 := zh hg; have HK0 := zh (Keeps.refl [] w)
 have hq1 : FloatKind.f64.format.order 4607182418800017408 4607182418800017408 = some Ordering.eq := by kernel_rfl
 have hq17 : FloatKind.f64.format.order 4625478292286210048 4625478292286210048 = some Ordering.eq := by kernel_rfl
 have hq3 : FloatKind.f64.format.order 4613937818241073152 4613937818241073152 = some Ordering.eq := by kernel_rfl
 have hq15 : FloatKind.f64.format.order 4624633867356078080 4624633867356078080 = some Ordering.eq := by kernel_rfl
 clear hg
 go_enter Tryz.func3, Tryz.ntmps3
 go_wp2_with fail
 refine (parsed_any HG0.out HPa.out).mono ?_
 rintro r e1 ⟨ra, rn, rc, fa, fn, fc, rfl, hv, hk⟩
 have HKe1 := zh (HK0.out.trans hk (by simp))
 have HG0_e1 := zh (HG0.out.keep hk (by simp))
 have HV := zh hv
 clear hv
 clear hk HK0 HG0
 go_wp2_with fail
 refine (check_lit HV.out HNa.out (m1 := 0) (m2 := 0) (m3 := 0) rfl rfl rfl).mono ?_
 rintro r e2 ⟨saa, sca, aaa, aca, paa, pca, rfl, hi1, hi2, hi3, hk⟩
 have HKe2 := zh (HKe1.out.trans hk (by simp))
 have HG0_e2 := zh (HG0_e1.out.keep hk (by simp))
 have HSa := zh hi1; have HAa := zh hi2; have HBa := zh hi3
 clear hi1 hi2 hi3 HV
 clear hk HKe1 HG0_e1
 clear HSa HAa HBa
 go_wp2_with fail
 refine calls_at (fun W => Keeps [] e2 W ∧ W.heap[e2.heap.size]? = some (.cells #[.slice saa 0 sca, .slice aaa 0 aca, .slice paa 0 pca] 25 (0, 0))) ⟨(by with_reducible repeat (first | exact k0 _ _ | refine kA ?_ _ | refine kD ?_ | refine kS ?_ (by simp) | refine kM ?_ (by simp))), (by simp only [hS, hA, hD, hM, World.size_setCell, World.size_drew, reduceIte, Option.map_some, Obj.put] <;> rfl)⟩ ?_
 rintro w3 ⟨Kw3, cw3_Ia⟩
 have o_Ia : w.heap.size ≤ e2.heap.size := HKe2.out.size
 have HKw3 := zh (HKe2.out.trans Kw3 (by simp))
 have HG0_w3 := zh (HG0_e2.out.keep Kw3 (by simp))
 have Rw3_Ia := zh cw3_Ia
 clear Kw3 cw3_Ia HKe2 HG0_e2
 refine (parsed_any HG0_w3.out HPb.out).mono ?_
 rintro r e4 ⟨ra, rn, rc, fa, fn, fc, rfl, hv, hk⟩
 have Re4_Ia := zh (hk.at Rw3_Ia.out (by simp))
 have HKe4 := zh (HKw3.out.trans hk (by simp))
 have HG0_e4 := zh (HG0_w3.out.keep hk (by simp))
 have HV := zh hv
 clear hv
 clear hk Rw3_Ia HKw3 HG0_w3
 have l_Ia := h_lt Re4_Ia.out
 go_wp2_with fail
 clear l_Ia
 refine (check_lit HV.out HNb.out (m1 := 0) (m2 := 0) (m3 := 0) rfl rfl rfl).mono ?_
 rintro r e5 ⟨sab, scb, aab, acb, pab, pcb, rfl, hi1, hi2, hi3, hk⟩
 have Re5_Ia := zh (hk.at Re4_Ia.out (by simp))
 have HKe5 := zh (HKe4.out.trans hk (by simp))
 have HG0_e5 := zh (HG0_e4.out.keep hk (by simp))
 have HSb := zh hi1; have HAb := zh hi2; have HBb := zh hi3
 clear hi1 hi2 hi3 HV
 clear hk Re4_Ia HKe4 HG0_e4
 have l_Ia := h_lt Re5_Ia.out
 clear HSb HAb HBb
 go_wp2_with fail
 refine calls_at (fun W => Keeps [] e5 W ∧ W.heap[e5.heap.size]? = some (.cells #[.slice sab 0 scb, .slice aab 0 acb, .slice pab 0 pcb] 25 (0, 0))) ⟨(by with_reducible repeat (first | exact k0 _ _ | refine kA ?_ _ | refine kD ?_ | refine kS ?_ (by simp) | refine kM ?_ (by simp))), (by simp only [hS, hA, hD, hM, World.size_setCell, World.size_drew, reduceIte, Option.map_some, Obj.put] <;> rfl)⟩ ?_
 rintro w6 ⟨Kw6, cw6_Ib⟩
 have ⟨n_Ia_Ib, n_Ib_Ia⟩ := zne l_Ia
 have o_Ib : w.heap.size ≤ e5.heap.size := HKe5.out.size
 have Rw6_Ia := zh (Kw6.at Re5_Ia.out (by simp))
 have HKw6 := zh (HKe5.out.trans Kw6 (by simp))
 have HG0_w6 := zh (HG0_e5.out.keep Kw6 (by simp))
 have Rw6_Ib := zh cw6_Ib
 clear Kw6 cw6_Ib l_Ia Re5_Ia HKe5 HG0_e5
 refine (parsed_any HG0_w6.out HPc.out).mono ?_
 rintro r e7 ⟨ra, rn, rc, fa, fn, fc, rfl, hv, hk⟩
 have Re7_Ia := zh (hk.at Rw6_Ia.out (by simp))
 have Re7_Ib := zh (hk.at Rw6_Ib.out (by simp))
 have HKe7 := zh (HKw6.out.trans hk (by simp))
 have HG0_e7 := zh (HG0_w6.out.keep hk (by simp))
 have HV := zh hv
 clear hv
 clear hk Rw6_Ia Rw6_Ib HKw6 HG0_w6
 have l_Ia := h_lt Re7_Ia.out
 have l_Ib := h_lt Re7_Ib.out
 go_wp2_with fail
 clear l_Ia l_Ib
 refine (check_lit HV.out HNc.out (m1 := 0) (m2 := 0) (m3 := 0) rfl rfl rfl).mono ?_
 rintro r e8 ⟨sac, scc, aac, acc, pac, pcc, rfl, hi1, hi2, hi3, hk⟩
 have Re8_Ia := zh (hk.at Re7_Ia.out (by simp))
 have Re8_Ib := zh (hk.at Re7_Ib.out (by simp))
 have HKe8 := zh (HKe7.out.trans hk (by simp))
 have HG0_e8 := zh (HG0_e7.out.keep hk (by simp))
 have HSc := zh hi1; have HAc := zh hi2; have HBc := zh hi3
 clear hi1 hi2 hi3 HV
 clear hk Re7_Ia Re7_Ib HKe7 HG0_e7
 have l_Ia := h_lt Re8_Ia.out
 have l_Ib := h_lt Re8_Ib.out
 clear HSc HAc HBc
 go_wp2_with fail
 refine calls_at (fun W => Keeps [] e8 W ∧ W.heap[e8.heap.size]? = some (.cells #[.slice sac 0 scc, .slice aac 0 acc, .slice pac 0 pcc] 25 (0, 0))) ⟨(by with_reducible repeat (first | exact k0 _ _ | refine kA ?_ _ | refine kD ?_ | refine kS ?_ (by simp) | refine kM ?_ (by simp))), (by simp only [hS, hA, hD, hM, World.size_setCell, World.size_drew, reduceIte, Option.map_some, Obj.put] <;> rfl)⟩ ?_
 rintro w9 ⟨Kw9, cw9_Ic⟩
 have ⟨n_Ia_Ic, n_Ic_Ia⟩ := zne l_Ia
 have ⟨n_Ib_Ic, n_Ic_Ib⟩ := zne l_Ib
 have o_Ic : w.heap.size ≤ e8.heap.size := HKe8.out.size
 have Rw9_Ia := zh (Kw9.at Re8_Ia.out (by simp))
 have Rw9_Ib := zh (Kw9.at Re8_Ib.out (by simp))
 have HKw9 := zh (HKe8.out.trans Kw9 (by simp))
 have HG0_w9 := zh (HG0_e8.out.keep Kw9 (by simp))
 have Rw9_Ic := zh cw9_Ic
 clear Kw9 cw9_Ic l_Ia l_Ib Re8_Ia Re8_Ib HKe8 HG0_e8
 refine (parsed_any HG0_w9.out HPd.out).mono ?_
 rintro r e10 ⟨ra, rn, rc, fa, fn, fc, rfl, hv, hk⟩
 have Re10_Ia := zh (hk.at Rw9_Ia.out (by simp))
 have Re10_Ib := zh (hk.at Rw9_Ib.out (by simp))
 have Re10_Ic := zh (hk.at Rw9_Ic.out (by simp))
 have HKe10 := zh (HKw9.out.trans hk (by simp))
 have HG0_e10 := zh (HG0_w9.out.keep hk (by simp))
 have HV := zh hv
 clear hv
 clear hk Rw9_Ia Rw9_Ib Rw9_Ic HKw9 HG0_w9
 have l_Ia := h_lt Re10_Ia.out
 have l_Ib := h_lt Re10_Ib.out
 have l_Ic := h_lt Re10_Ic.out
 go_wp2_with fail
 clear l_Ia l_Ib l_Ic
 refine (check_lit HV.out HNd.out (m1 := 0) (m2 := 0) (m3 := 0) rfl rfl rfl).mono ?_
 rintro r e11 ⟨sad, scd, aad, acd, pad, pcd, rfl, hi1, hi2, hi3, hk⟩
 have Re11_Ia := zh (hk.at Re10_Ia.out (by simp))
 have Re11_Ib := zh (hk.at Re10_Ib.out (by simp))
 have Re11_Ic := zh (hk.at Re10_Ic.out (by simp))
 have HKe11 := zh (HKe10.out.trans hk (by simp))
 have HG0_e11 := zh (HG0_e10.out.keep hk (by simp))
 have HSd := zh hi1; have HAd := zh hi2; have HBd := zh hi3
 clear hi1 hi2 hi3 HV
 clear hk Re10_Ia Re10_Ib Re10_Ic HKe10 HG0_e10
 have l_Ia := h_lt Re11_Ia.out
 have l_Ib := h_lt Re11_Ib.out
 have l_Ic := h_lt Re11_Ic.out
 clear HSd HAd HBd
 go_wp2_with fail
 refine calls_at (fun W => Keeps [] e11 W ∧ W.heap[e11.heap.size]? = some (.cells #[.slice sad 0 scd, .slice aad 0 acd, .slice pad 0 pcd] 25 (0, 0))) ⟨(by with_reducible repeat (first | exact k0 _ _ | refine kA ?_ _ | refine kD ?_ | refine kS ?_ (by simp) | refine kM ?_ (by simp))), (by simp only [hS, hA, hD, hM, World.size_setCell, World.size_drew, reduceIte, Option.map_some, Obj.put] <;> rfl)⟩ ?_
 rintro w12 ⟨Kw12, cw12_Id⟩
 have ⟨n_Ia_Id, n_Id_Ia⟩ := zne l_Ia
 have ⟨n_Ib_Id, n_Id_Ib⟩ := zne l_Ib
 have ⟨n_Ic_Id, n_Id_Ic⟩ := zne l_Ic
 have o_Id : w.heap.size ≤ e11.heap.size := HKe11.out.size
 have Rw12_Ia := zh (Kw12.at Re11_Ia.out (by simp))
 have Rw12_Ib := zh (Kw12.at Re11_Ib.out (by simp))
 have Rw12_Ic := zh (Kw12.at Re11_Ic.out (by simp))
 have HKw12 := zh (HKe11.out.trans Kw12 (by simp))
 have HG0_w12 := zh (HG0_e11.out.keep Kw12 (by simp))
 have Rw12_Id := zh cw12_Id
 clear Kw12 cw12_Id l_Ia l_Ib l_Ic Re11_Ia Re11_Ib Re11_Ic HKe11 HG0_e11
 refine (parsed_any HG0_w12.out HPh.out).mono ?_
 rintro r e13 ⟨ra, rn, rc, fa, fn, fc, rfl, hv, hk⟩
 have Re13_Ia := zh (hk.at Rw12_Ia.out (by simp))
 have Re13_Ib := zh (hk.at Rw12_Ib.out (by simp))
 have Re13_Ic := zh (hk.at Rw12_Ic.out (by simp))
 have Re13_Id := zh (hk.at Rw12_Id.out (by simp))
 have HKe13 := zh (HKw12.out.trans hk (by simp))
 have HG0_e13 := zh (HG0_w12.out.keep hk (by simp))
 have HV := zh hv
 clear hv
 clear hk Rw12_Ia Rw12_Ib Rw12_Ic Rw12_Id HKw12 HG0_w12
 have l_Ia := h_lt Re13_Ia.out
 have l_Ib := h_lt Re13_Ib.out
 have l_Ic := h_lt Re13_Ic.out
 have l_Id := h_lt Re13_Id.out
 go_wp2_with fail
 clear l_Ia l_Ib l_Ic l_Id
 refine (check_lit HV.out HNh.out (m1 := 0) (m2 := 0) (m3 := 0) rfl rfl rfl).mono ?_
 rintro r e14 ⟨sah, sch, aah, ach, pah, pch, rfl, hi1, hi2, hi3, hk⟩
 have Re14_Ia := zh (hk.at Re13_Ia.out (by simp))
 have Re14_Ib := zh (hk.at Re13_Ib.out (by simp))
 have Re14_Ic := zh (hk.at Re13_Ic.out (by simp))
 have Re14_Id := zh (hk.at Re13_Id.out (by simp))
 have HKe14 := zh (HKe13.out.trans hk (by simp))
 have HG0_e14 := zh (HG0_e13.out.keep hk (by simp))
 have HSh := zh hi1; have HAh := zh hi2; have HBh := zh hi3
 clear hi1 hi2 hi3 HV
 clear hk Re13_Ia Re13_Ib Re13_Ic Re13_Id HKe13 HG0_e13
 have l_Ia := h_lt Re14_Ia.out
 have l_Ib := h_lt Re14_Ib.out
 have l_Ic := h_lt Re14_Ic.out
 have l_Id := h_lt Re14_Id.out
 clear HSh HAh HBh
 go_wp2_with fail
 refine calls_at (fun W => Keeps [] e14 W ∧ W.heap[e14.heap.size]? = some (.cells #[.slice sah 0 sch, .slice aah 0 ach, .slice pah 0 pch] 25 (0, 0))) ⟨(by with_reducible repeat (first | exact k0 _ _ | refine kA ?_ _ | refine kD ?_ | refine kS ?_ (by simp) | refine kM ?_ (by simp))), (by simp only [hS, hA, hD, hM, World.size_setCell, World.size_drew, reduceIte, Option.map_some, Obj.put] <;> rfl)⟩ ?_
 rintro w15 ⟨Kw15, cw15_Ih⟩
 have ⟨n_Ia_Ih, n_Ih_Ia⟩ := zne l_Ia
 have ⟨n_Ib_Ih, n_Ih_Ib⟩ := zne l_Ib
 have ⟨n_Ic_Ih, n_Ih_Ic⟩ := zne l_Ic
 have ⟨n_Id_Ih, n_Ih_Id⟩ := zne l_Id
 have o_Ih : w.heap.size ≤ e14.heap.size := HKe14.out.size
 have Rw15_Ia := zh (Kw15.at Re14_Ia.out (by simp))
 have Rw15_Ib := zh (Kw15.at Re14_Ib.out (by simp))
 have Rw15_Ic := zh (Kw15.at Re14_Ic.out (by simp))
 have Rw15_Id := zh (Kw15.at Re14_Id.out (by simp))
 have HKw15 := zh (HKe14.out.trans Kw15 (by simp))
 have HG0_w15 := zh (HG0_e14.out.keep Kw15 (by simp))
 have Rw15_Ih := zh cw15_Ih
 clear Kw15 cw15_Ih l_Ia l_Ib l_Ic l_Id Re14_Ia Re14_Ib Re14_Ic Re14_Id HKe14 HG0_e14
 refine (parsed_any HG0_w15.out HPi.out).mono ?_
 rintro r e16 ⟨ra, rn, rc, fa, fn, fc, rfl, hv, hk⟩
 have Re16_Ia := zh (hk.at Rw15_Ia.out (by simp))
 have Re16_Ib := zh (hk.at Rw15_Ib.out (by simp))
 have Re16_Ic := zh (hk.at Rw15_Ic.out (by simp))
 have Re16_Id := zh (hk.at Rw15_Id.out (by simp))
 have Re16_Ih := zh (hk.at Rw15_Ih.out (by simp))
 have HKe16 := zh (HKw15.out.trans hk (by simp))
 have HG0_e16 := zh (HG0_w15.out.keep hk (by simp))
 have HV := zh hv
 clear hv
 clear hk Rw15_Ia Rw15_Ib Rw15_Ic Rw15_Id Rw15_Ih HKw15 HG0_w15
 have l_Ia := h_lt Re16_Ia.out
 have l_Ib := h_lt Re16_Ib.out
 have l_Ic := h_lt Re16_Ic.out
 have l_Id := h_lt Re16_Id.out
 have l_Ih := h_lt Re16_Ih.out
 go_wp2_with fail
 clear l_Ia l_Ib l_Ic l_Id l_Ih
 refine (check_lit HV.out HNi.out (m1 := 0) (m2 := 0) (m3 := 0) rfl rfl rfl).mono ?_
 rintro r e17 ⟨sai, sci, aai, aci, pai, pci, rfl, hi1, hi2, hi3, hk⟩
 have Re17_Ia := zh (hk.at Re16_Ia.out (by simp))
 have Re17_Ib := zh (hk.at Re16_Ib.out (by simp))
 have Re17_Ic := zh (hk.at Re16_Ic.out (by simp))
 have Re17_Id := zh (hk.at Re16_Id.out (by simp))
 have Re17_Ih := zh (hk.at Re16_Ih.out (by simp))
 have HKe17 := zh (HKe16.out.trans hk (by simp))
 have HG0_e17 := zh (HG0_e16.out.keep hk (by simp))
 have HSi := zh hi1; have HAi := zh hi2; have HBi := zh hi3
 clear hi1 hi2 hi3 HV
 clear hk Re16_Ia Re16_Ib Re16_Ic Re16_Id Re16_Ih HKe16 HG0_e16
 have l_Ia := h_lt Re17_Ia.out
 have l_Ib := h_lt Re17_Ib.out
 have l_Ic := h_lt Re17_Ic.out
 have l_Id := h_lt Re17_Id.out
 have l_Ih := h_lt Re17_Ih.out
 clear HSi HAi HBi
 go_wp2_with fail
 refine calls_at (fun W => Keeps [] e17 W ∧ W.heap[e17.heap.size]? = some (.cells #[.slice sai 0 sci, .slice aai 0 aci, .slice pai 0 pci] 25 (0, 0))) ⟨(by with_reducible repeat (first | exact k0 _ _ | refine kA ?_ _ | refine kD ?_ | refine kS ?_ (by simp) | refine kM ?_ (by simp))), (by simp only [hS, hA, hD, hM, World.size_setCell, World.size_drew, reduceIte, Option.map_some, Obj.put] <;> rfl)⟩ ?_
 rintro w18 ⟨Kw18, cw18_Ii⟩
 have ⟨n_Ia_Ii, n_Ii_Ia⟩ := zne l_Ia
 have ⟨n_Ib_Ii, n_Ii_Ib⟩ := zne l_Ib
 have ⟨n_Ic_Ii, n_Ii_Ic⟩ := zne l_Ic
 have ⟨n_Id_Ii, n_Ii_Id⟩ := zne l_Id
 have ⟨n_Ih_Ii, n_Ii_Ih⟩ := zne l_Ih
 have o_Ii : w.heap.size ≤ e17.heap.size := HKe17.out.size
 have Rw18_Ia := zh (Kw18.at Re17_Ia.out (by simp))
 have Rw18_Ib := zh (Kw18.at Re17_Ib.out (by simp))
 have Rw18_Ic := zh (Kw18.at Re17_Ic.out (by simp))
 have Rw18_Id := zh (Kw18.at Re17_Id.out (by simp))
 have Rw18_Ih := zh (Kw18.at Re17_Ih.out (by simp))
 have HKw18 := zh (HKe17.out.trans Kw18 (by simp))
 have HG0_w18 := zh (HG0_e17.out.keep Kw18 (by simp))
 have Rw18_Ii := zh cw18_Ii
 clear Kw18 cw18_Ii l_Ia l_Ib l_Ic l_Id l_Ih Re17_Ia Re17_Ib Re17_Ic Re17_Id Re17_Ih HKe17 HG0_e17
 refine (parsed_any HG0_w18.out HPk.out).mono ?_
 rintro r e19 ⟨ra, rn, rc, fa, fn, fc, rfl, hv, hk⟩
 have Re19_Ia := zh (hk.at Rw18_Ia.out (by simp))
 have Re19_Ib := zh (hk.at Rw18_Ib.out (by simp))
 have Re19_Ic := zh (hk.at Rw18_Ic.out (by simp))
 have Re19_Id := zh (hk.at Rw18_Id.out (by simp))
 have Re19_Ih := zh (hk.at Rw18_Ih.out (by simp))
 have Re19_Ii := zh (hk.at Rw18_Ii.out (by simp))
 have HKe19 := zh (HKw18.out.trans hk (by simp))
 have HG0_e19 := zh (HG0_w18.out.keep hk (by simp))
 have HV := zh hv
 clear hv
 clear hk Rw18_Ia Rw18_Ib Rw18_Ic Rw18_Id Rw18_Ih Rw18_Ii HKw18 HG0_w18
 have l_Ia := h_lt Re19_Ia.out
 have l_Ib := h_lt Re19_Ib.out
 have l_Ic := h_lt Re19_Ic.out
 have l_Id := h_lt Re19_Id.out
 have l_Ih := h_lt Re19_Ih.out
 have l_Ii := h_lt Re19_Ii.out
 go_wp2_with fail
 clear l_Ia l_Ib l_Ic l_Id l_Ih l_Ii
 refine (check_lit HV.out HNk.out (m1 := 1) (m2 := 1) (m3 := 1) rfl rfl rfl).mono ?_
 rintro r e20 ⟨sak, sck, aak, ack, pak, pck, rfl, hi1, hi2, hi3, hk⟩
 have Re20_Ia := zh (hk.at Re19_Ia.out (by simp))
 have Re20_Ib := zh (hk.at Re19_Ib.out (by simp))
 have Re20_Ic := zh (hk.at Re19_Ic.out (by simp))
 have Re20_Id := zh (hk.at Re19_Id.out (by simp))
 have Re20_Ih := zh (hk.at Re19_Ih.out (by simp))
 have Re20_Ii := zh (hk.at Re19_Ii.out (by simp))
 have HKe20 := zh (HKe19.out.trans hk (by simp))
 have HG0_e20 := zh (HG0_e19.out.keep hk (by simp))
 have HSk := zh hi1; have HAk := zh hi2; have HBk := zh hi3
 clear hi1 hi2 hi3 HV
 clear hk Re19_Ia Re19_Ib Re19_Ic Re19_Id Re19_Ih Re19_Ii HKe19 HG0_e19
 have l_Ia := h_lt Re20_Ia.out
 have l_Ib := h_lt Re20_Ib.out
 have l_Ic := h_lt Re20_Ic.out
 have l_Id := h_lt Re20_Id.out
 have l_Ih := h_lt Re20_Ih.out
 have l_Ii := h_lt Re20_Ii.out
 clear HSk HAk
 go_wp2_with fail
 refine calls_at (fun W => Keeps [] e20 W ∧ W.heap[e20.heap.size]? = some (.cells #[.slice sak 1 sck, .slice aak 1 ack, .slice pak 1 pck] 25 (0, 0))) ⟨(by with_reducible repeat (first | exact k0 _ _ | refine kA ?_ _ | refine kD ?_ | refine kS ?_ (by simp) | refine kM ?_ (by simp))), (by simp only [hS, hA, hD, hM, World.size_setCell, World.size_drew, reduceIte, Option.map_some, Obj.put] <;> rfl)⟩ ?_
 rintro w21 ⟨Kw21, cw21_Ik⟩
 have ⟨n_Ia_Ik, n_Ik_Ia⟩ := zne l_Ia
 have ⟨n_Ib_Ik, n_Ik_Ib⟩ := zne l_Ib
 have ⟨n_Ic_Ik, n_Ik_Ic⟩ := zne l_Ic
 have ⟨n_Id_Ik, n_Ik_Id⟩ := zne l_Id
 have ⟨n_Ih_Ik, n_Ik_Ih⟩ := zne l_Ih
 have ⟨n_Ii_Ik, n_Ik_Ii⟩ := zne l_Ii
 have o_Ik : w.heap.size ≤ e20.heap.size := HKe20.out.size
 have Rw21_Ia := zh (Kw21.at Re20_Ia.out (by simp))
 have Rw21_Ib := zh (Kw21.at Re20_Ib.out (by simp))
 have Rw21_Ic := zh (Kw21.at Re20_Ic.out (by simp))
 have Rw21_Id := zh (Kw21.at Re20_Id.out (by simp))
 have Rw21_Ih := zh (Kw21.at Re20_Ih.out (by simp))
 have Rw21_Ii := zh (Kw21.at Re20_Ii.out (by simp))
 have HKw21 := zh (HKe20.out.trans Kw21 (by simp))
 have HG0_w21 := zh (HG0_e20.out.keep Kw21 (by simp))
 have HBk_w21 := zh (HBk.out.kp flagsL Kw21 (by simp))
 have Rw21_Ik := zh cw21_Ik
 clear Kw21 cw21_Ik l_Ia l_Ib l_Ic l_Id l_Ih l_Ii Re20_Ia Re20_Ib Re20_Ic Re20_Id Re20_Ih Re20_Ii HKe20 HG0_e20 HBk
 refine (known_any HG0_w21.out).mono ?_
 rintro r e22 ⟨rfl, hk⟩
 have Re22_Ia := zh (hk.at Rw21_Ia.out (by simp))
 have Re22_Ib := zh (hk.at Rw21_Ib.out (by simp))
 have Re22_Ic := zh (hk.at Rw21_Ic.out (by simp))
 have Re22_Id := zh (hk.at Rw21_Id.out (by simp))
 have Re22_Ih := zh (hk.at Rw21_Ih.out (by simp))
 have Re22_Ii := zh (hk.at Rw21_Ii.out (by simp))
 have Re22_Ik := zh (hk.at Rw21_Ik.out (by simp))
 have HKe22 := zh (HKw21.out.trans hk (by simp))
 have HG0_e22 := zh (HG0_w21.out.keep hk (by simp))
 have HBk_e22 := zh (HBk_w21.out.kp flagsL hk (by simp))
 clear hk Rw21_Ia Rw21_Ib Rw21_Ic Rw21_Id Rw21_Ih Rw21_Ii Rw21_Ik HKw21 HG0_w21 HBk_w21
 have l_Ia := h_lt Re22_Ia.out
 have l_Ib := h_lt Re22_Ib.out
 have l_Ic := h_lt Re22_Ic.out
 have l_Id := h_lt Re22_Id.out
 have l_Ih := h_lt Re22_Ih.out
 have l_Ii := h_lt Re22_Ii.out
 obtain ⟨l_Ik, xIk_0, xIk_1, xIk_2, yIk_0, yIk_1, yIk_2⟩ := cf3 Re22_Ik.out
 obtain ⟨gq, oq, aq, mq, cq, hpq, hcq, hmq, hbq⟩ := flags_at HBk_e22.out (i := 0) (by simp)
 obtain rfl : mq = 2 := hmq
 obtain ⟨gr, or, har, hr0⟩ := bools_at hbq (i := 0) (by simp)
 obtain ⟨gr2, or2, har2, hr1⟩ := bools_at hbq (i := 1) (by simp)
 subst hpq
 subst har
 injection har2 with har2
 injection har2 with e1 e2 _
 subst e1 e2
 simp at hcq hr0 hr1
 clear hbq
 have lq := lt_cell hcq
 have lr := lt_cell hr0
 go_wp2_with fail
 clear l_Ia l_Ib l_Ic l_Id l_Ih l_Ii l_Ik xIk_0 xIk_1 xIk_2 yIk_0 yIk_1 yIk_2
 refine (special_12 _).mono ?_
 rintro r w' ⟨rfl, hw'⟩
 rw [hw']
 clear hw'
 have l_Ia := h_lt Re22_Ia.out
 have l_Ib := h_lt Re22_Ib.out
 have l_Ic := h_lt Re22_Ic.out
 have l_Id := h_lt Re22_Id.out
 have l_Ih := h_lt Re22_Ih.out
 have l_Ii := h_lt Re22_Ii.out
 have l_Ik := h_lt Re22_Ik.out
 go_wp2_with fail
 clear l_Ia l_Ib l_Ic l_Id l_Ih l_Ii l_Ik
 refine (gaps_no _).mono ?_
 rintro r w' ⟨rfl, hw'⟩
 rw [hw']
 clear hw'
 have l_Ia := h_lt Re22_Ia.out
 have l_Ib := h_lt Re22_Ib.out
 have l_Ic := h_lt Re22_Ic.out
 have l_Id := h_lt Re22_Id.out
 have l_Ih := h_lt Re22_Ih.out
 have l_Ii := h_lt Re22_Ii.out
 have l_Ik := h_lt Re22_Ik.out
 go_wp2_with fail
 refine ret_at (v := .bool true) (fun W => Keeps [] e22 W) (by with_reducible repeat (first | exact k0 _ _ | refine kA ?_ _ | refine kD ?_ | refine kS ?_ (by simp) | refine kM ?_ (by simp))) (fun w23 hW => ?_) rfl (fun w23 hW => ?_)
 ·have Kw23 : Keeps [] e22 w23 := hW
  simp [results, Tryz.results3, go_sem]
 ·have Kw23 : Keeps [] e22 w23 := hW
  have Rw23_Ia := zh (Kw23.at Re22_Ia.out (by simp))
  have Rw23_Ib := zh (Kw23.at Re22_Ib.out (by simp))
  have Rw23_Ic := zh (Kw23.at Re22_Ic.out (by simp))
  have Rw23_Id := zh (Kw23.at Re22_Id.out (by simp))
  have Rw23_Ih := zh (Kw23.at Re22_Ih.out (by simp))
  have Rw23_Ii := zh (Kw23.at Re22_Ii.out (by simp))
  have Rw23_Ik := zh (Kw23.at Re22_Ik.out (by simp))
  have HKw23 := zh (HKe22.out.trans Kw23 (by simp))
  have HG0_w23 := zh (HG0_e22.out.keep Kw23 (by simp))
  have HBk_w23 := zh (HBk_e22.out.kp flagsL Kw23 (by simp))
  clear Kw23 l_Ia l_Ib l_Ic l_Id l_Ih l_Ii l_Ik Re22_Ia Re22_Ib Re22_Ic Re22_Id Re22_Ih Re22_Ii Re22_Ik HKe22 HG0_e22 HBk_e22
  exact ⟨rfl, HKw23.out⟩
end Go.Proofs.YtkfillfkbhbbjaaGreatDoor
