/- TokA. -/
import Derived.Test.YtkfillfkbhbbjaaGreatDoorSpec
import Derived.Test.YtkfillfkbhbbjaaGreatDoorKit
import Derived.Laws.DeepStrings4
import Derived.Deep.LoopGhost
import Derived.Deep.DeepCutAuto
import Derived.Deep.QuietTactic
import Derived.Deep.RegionLaw
import Derived.Deep.RegionWith
set_option maxRecDepth 100000
set_option maxHeartbeats 4000000
set_option linter.unusedSimpArgs false
set_option linter.unusedVariables false
namespace Go.Proofs.YtkfillfkbhbbjaaGreatDoor
open Go.RowKit
def Wq (p : Prop) : Prop := p
theorem Wq.out {p : Prop} (h : Wq p) : p := h
theorem rsA : Tryz.f6.results = #[.tmp 2] ∧ Tryz.f9.results = #[.cell 2 25, .tmp 3, .tmp 4] ∧ Tryz.f10.results = #[.cell 2 33] ∧ Tryz.f11.results = #[.tmp 0] ∧ Tryz.f14.results = #[.cell 2 33] ∧ Tryz.f15.results = #[.tmp 4] ∧ Tryz.f17.results = #[.tmp 4] ∧ Tryz.f21.results = #[.cell 2 33, .tmp 3, .tmp 4] ∧ Tryz.f24.results = #[] ∧ Tryz.f25.results = #[] ∧ Tryz.f26.results = #[] ∧ Tryz.f27.results = #[.cell 2 25] ∧ Tryz.f29.results = #[.tmp 4] ∧ Tryz.f30.results = #[.cell 4 50] ∧ Tryz.f31.results = #[.cell 4 50] ∧ Tryz.f32.results = #[.cell 6 50] ∧ Tryz.f33.results = #[.cell 2 50] ∧ Tryz.f35.results = #[] ∧ Tryz.f36.results = #[.cell 4 90] ∧ Tryz.f37.results = #[] ∧ Tryz.f42.results = #[] ∧ Tryz.f43.results = #[] ∧ Tryz.f44.results = #[.tmp 2] ∧ Tryz.f45.results = #[.cell 4 101] ∧ Tryz.f54.results = #[.cell 4 50] ∧ Tryz.f55.results = #[.tmp 2] ∧ Tryz.f56.results = #[.cell 2 50] ∧ Tryz.f57.results = #[.cell 4 50] ∧ Tryz.f58.results = #[.cell 4 50] ∧ Tryz.f59.results = #[.cell 2 50] ∧ Tryz.f60.results = #[.tmp 2] ∧ Tryz.f61.results = #[.cell 4 90, .tmp 5] ∧ Tryz.f62.results = #[.cell 6 90, .tmp 7] ∧ Tryz.f66.results = #[.cell 2 52, .tmp 3] ∧ Tryz.f74.results = #[] ∧ Tryz.f75.results = #[.cell 4 101] ∧ Tryz.f76.results = #[] ∧ Tryz.f77.results = #[] ∧ Tryz.f78.results = #[] ∧ Tryz.f89.results = #[.cell 4 50] ∧ Tryz.f90.results = #[.cell 4 50] ∧ Tryz.f103.results = #[.cell 4 90, .tmp 5] ∧ Tryz.f107.results = #[.cell 2 50] ∧ Tryz.f109.results = #[.cell 2 50] ∧ Tryz.f118.results = #[] ∧ Tryz.f119.results = #[.tmp 2] ∧ Tryz.f127.results = #[.cell 2 50] ∧ Tryz.f130.results = #[.cell 2 50] ∧ Tryz.f132.results = #[.tmp 4, .tmp 5, .tmp 6] ∧ Tryz.f155.results = #[.tmp 4, .tmp 5, .tmp 6] ∧ Tryz.f163.results = #[] ∧ Tryz.f165.results = #[.cell 2 50] ∧ Tryz.f170.results = #[.cell 2 50] ∧ Tryz.f185.results = #[.tmp 2, .tmp 3, .tmp 4] ∧ Tryz.f189.results = #[.tmp 4] ∧ Tryz.f193.results = #[.cell 2 50] ∧ Tryz.f211.results = #[.tmp 2, .tmp 3, .tmp 4] ∧ Tryz.f212.results = #[.tmp 2, .tmp 3, .tmp 4, .tmp 5, .tmp 6, .tmp 7, .tmp 8] ∧ Tryz.f224.results = #[.tmp 4] ∧ Tryz.f226.results = #[.cell 2 50] ∧ Tryz.f256.results = #[.cell 2 50] ∧ Tryz.f266.results = #[.cell 2 50] ∧ Tryz.f270.results = #[.cell 2 50] ∧ Tryz.f273.results = #[.cell 2 50] ∧ Tryz.f274.results = #[.tmp 2] ∧ Tryz.f281.results = #[.cell 2 50] ∧ Tryz.f286.results = #[.cell 2 50] ∧ Tryz.f288.results = #[.cell 2 50] ∧ Tryz.f290.results = #[.cell 2 50] ∧ Tryz.f292.results = #[.cell 2 50] ∧ Tryz.f294.results = #[.cell 2 50] ∧ Tryz.f296.results = #[.cell 2 50] := ⟨Tryz.results6, Tryz.results9, Tryz.results10, Tryz.results11, Tryz.results14, Tryz.results15, Tryz.results17, Tryz.results21, Tryz.results24, Tryz.results25, Tryz.results26, Tryz.results27, Tryz.results29, Tryz.results30, Tryz.results31, Tryz.results32, Tryz.results33, Tryz.results35, Tryz.results36, Tryz.results37, Tryz.results42, Tryz.results43, Tryz.results44, Tryz.results45, Tryz.results54, Tryz.results55, Tryz.results56, Tryz.results57, Tryz.results58, Tryz.results59, Tryz.results60, Tryz.results61, Tryz.results62, Tryz.results66, Tryz.results74, Tryz.results75, Tryz.results76, Tryz.results77, Tryz.results78, Tryz.results89, Tryz.results90, Tryz.results103, Tryz.results107, Tryz.results109, Tryz.results118, Tryz.results119, Tryz.results127, Tryz.results130, Tryz.results132, Tryz.results155, Tryz.results163, Tryz.results165, Tryz.results170, Tryz.results185, Tryz.results189, Tryz.results193, Tryz.results211, Tryz.results212, Tryz.results224, Tryz.results226, Tryz.results256, Tryz.results266, Tryz.results270, Tryz.results273, Tryz.results274, Tryz.results281, Tryz.results286, Tryz.results288, Tryz.results290, Tryz.results292, Tryz.results294, Tryz.results296⟩
theorem za {a0 : Prop} (x0 : a0) {p : Prop} (h : a0 → p := by intro x0; simp only [hS, hA, hD, hM, reduceIte, Option.map_some, Obj.put, x0] <;> rfl) : p := h x0
theorem ja {p : Prop} (h : p := by simp only [hS, hA, hD, hM, reduceIte, Option.map_some, Obj.put] <;> rfl) : p := h
theorem zb {p : Prop} (h : p := by simp only [hS, hA, hD, hM, World.size_setCell, World.size_drew, reduceIte, Option.map_some, Obj.put] <;> rfl) : p := h
theorem jb {a0 : Prop} (x0 : a0) {a1 b1 : Nat} (x1 : a1 < b1) {p : Prop} (h : a0 → a1 < b1 → p := by intro x0 x1; simp only [hS, hA, hD, hM, World.size_setCell, World.size_drew, reduceIte, Option.map_some, Obj.put, x0, Nat.ne_of_lt x1, Nat.ne_of_gt x1] <;> rfl) : p := h x0 x1
theorem qb {a0 : Prop} (x0 : a0) {a1 b1 : Nat} (x1 : a1 < b1) {p : Prop} (h : a0 → a1 < b1 → p := by intro x0 x1; simp only [hS, hA, hD, hM, reduceIte, Option.map_some, Obj.put, x0, Nat.ne_of_lt x1, Nat.ne_of_gt x1] <;> rfl) : p := h x0 x1
theorem zc {a0 : Prop} (x0 : a0) {a1 : Prop} (x1 : a1) {a2 : Prop} (x2 : a2) {a3 : Prop} (x3 : a3) {a4 b4 : Nat} (x4 : a4 < b4) {a5 b5 : Nat} (x5 : a5 < b5) {p : Prop} (h : a0 → a1 → a2 → a3 → a4 < b4 → a5 < b5 → p := by intro x0 x1 x2 x3 x4 x5; simp only [hS, hA, hD, hM, reduceIte, Option.map_some, Obj.put, x0, x1, x2, x3, Nat.ne_of_lt x4, Nat.ne_of_gt x4, Nat.ne_of_lt x5, Nat.ne_of_gt x5] <;> rfl) : p := h x0 x1 x2 x3 x4 x5
theorem jc {a0 : Prop} (x0 : a0) {a1 b1 : Nat} (x1 : a1 < b1) {p : Prop} (h : a0 → a1 < b1 → p := by intro x0 x1; simp only [hS, hA, hD, hM, World.size_alloc, World.size_setCell, World.size_drew, size_mset, Nat.add_right_cancel_iff, Nat.left_eq_add, Nat.add_eq_left, Nat.reduceEqDiff, Nat.add_assoc, Nat.reduceAdd, Nat.one_ne_zero, Nat.zero_ne_one, reduceIte, Option.map_some, Obj.put, x0, Nat.ne_of_lt x1, Nat.ne_of_gt x1, Nat.ne_of_lt (Nat.lt_add_right 1 x1), Nat.ne_of_gt (Nat.lt_add_right 1 x1)] <;> rfl) : p := h x0 x1
theorem zd {p : Prop} (h : p := by simp only [hS, hA, hD, hM, World.size_alloc, World.size_setCell, World.size_drew, size_mset, Nat.add_right_cancel_iff, Nat.left_eq_add, Nat.add_eq_left, Nat.reduceEqDiff, Nat.add_assoc, Nat.reduceAdd, Nat.one_ne_zero, Nat.zero_ne_one, reduceIte, Option.map_some, Obj.put] <;> rfl) : p := h
theorem jd {p : Prop} (h : p := by simp only [heap_set_if, heap_alloc_if, heap_drew, World.size_alloc, World.size_setCell, World.size_drew, reduceIte, Option.map_some, Obj.put] <;> rfl) : p := h
theorem qd {p : Prop} (h : p := by first | (simp only [World.size_alloc, World.size_setCell, World.size_drew, Nat.left_eq_add, Nat.add_eq_left, Nat.add_right_cancel_iff, Nat.reduceEqDiff, Nat.add_assoc, Nat.reduceAdd, Nat.one_ne_zero, Nat.zero_ne_one, hS, hA, hD, hM, reduceIte, Option.map_some, Obj.put] <;> rfl) | rfl) : p := h
theorem ze {a0 : Prop} (x0 : a0) {p : Prop} (h : a0 → p := by intro x0; first | (simp only [World.size_alloc, World.size_setCell, World.size_drew, Nat.left_eq_add, Nat.add_eq_left, Nat.add_right_cancel_iff, Nat.reduceEqDiff, Nat.add_assoc, Nat.reduceAdd, Nat.one_ne_zero, Nat.zero_ne_one, hS, hA, hD, hM, reduceIte, Option.map_some, Obj.put, x0] <;> rfl) | rfl) : p := h x0
theorem je {a0 : Prop} (x0 : a0) {a1 : Prop} (x1 : a1) {a2 : Prop} (x2 : a2) {p : Prop} (h : a0 → a1 → a2 → p := by intro x0 x1 x2; first | (simp only [World.size_alloc, World.size_setCell, World.size_drew, Nat.left_eq_add, Nat.add_eq_left, Nat.add_right_cancel_iff, Nat.reduceEqDiff, Nat.add_assoc, Nat.reduceAdd, Nat.one_ne_zero, Nat.zero_ne_one, hS, hA, hD, hM, reduceIte, Option.map_some, Obj.put, x0, x1, x2] <;> rfl) | rfl) : p := h x0 x1 x2
theorem qe {a0 : Prop} (x0 : a0) {a1 : Prop} (x1 : a1) {p : Prop} (h : a0 → a1 → p := by intro x0 x1; first | (simp only [World.size_alloc, World.size_setCell, World.size_drew, Nat.left_eq_add, Nat.add_eq_left, Nat.add_right_cancel_iff, Nat.reduceEqDiff, Nat.add_assoc, Nat.reduceAdd, Nat.one_ne_zero, Nat.zero_ne_one, hS, hA, hD, hM, reduceIte, Option.map_some, Obj.put, x0, x1] <;> rfl) | rfl) : p := h x0 x1
theorem jf {a0 : Prop} (x0 : a0) {p : Prop} (h : a0 → p := by intro x0; simp only [hS, hA, hD, hM, World.size_alloc, World.size_setCell, World.size_drew, size_mset, Nat.add_right_cancel_iff, Nat.left_eq_add, Nat.add_eq_left, Nat.reduceEqDiff, Nat.add_assoc, Nat.reduceAdd, Nat.one_ne_zero, Nat.zero_ne_one, reduceIte, Option.map_some, Obj.put, x0] <;> rfl) : p := h x0
theorem qf {a0 : Prop} (x0 : a0) {a1 b1 : Nat} (x1 : a1 < b1) {p : Prop} (h : a0 → a1 < b1 → p := by intro x0 x1; simp only [hS, hA, hD, hM, World.size_alloc, World.size_setCell, World.size_drew, size_mset, Nat.add_right_cancel_iff, Nat.left_eq_add, Nat.add_eq_left, Nat.reduceEqDiff, Nat.add_assoc, Nat.reduceAdd, Nat.one_ne_zero, Nat.zero_ne_one, reduceIte, Option.map_some, Obj.put, x0, Nat.ne_of_lt x1, Nat.ne_of_gt x1] <;> rfl) : p := h x0 x1
theorem zg {p : Prop} (h : p := by with_reducible repeat (first | exact k0 _ _ | refine kA ?_ _ | refine kD ?_ | refine kS ?_ (by simp) | refine kM ?_ (by simp))) : p := h
theorem jg {p : Prop} (h : p := by simp) : p := h
theorem qg {p : Prop} (h : p := by omega) : p := h
theorem jh {p : Prop} (h : p := by kernel_rfl) : p := h
theorem qh {p : Prop} (h : p := by simp [Value.cells, Value.oneCell']) : p := h
theorem zi {p : Prop} (h : p := by decide) : p := h
theorem ji {p : Prop} (h : p := by have := HKE.out; have := HGE.out; simp; omega) : p := h
theorem qi {p : Prop} (h : p := by simp; omega) : p := h
theorem zj {p : Prop} (h : p := by simp [Value.cells]) : p := h
theorem jj {p : Prop} (h : p := by have := HKE.out; have := HGE.out; have := HRG.out; simp; omega) : p := h
theorem qj {p : Prop} (h : p := by have := HKE.out; have := HGE.out; have := HB1.out; have := HB2.out; have := HB3.out; have := HB4.out; simp; omega) : p := h
theorem zk {p : Prop} (h : p := by simp [results, rsA, go_sem, x0, x1, x2, x3, x4]) : p := h
theorem jk {p : Prop} (h : p := by simp [n_R_p]) : p := h
theorem qk {p : Prop} (h : p := by simp [results, rsA, go_sem, q0, q1, q2, q3, q4]) : p := h
theorem zl {p : Prop} (h : p := by simp [HRW.out]) : p := h
theorem jl {p : Prop} (h : p := by simp [n_T_p]) : p := h
theorem ql {p : Prop} (h : p := by have := h_new (w.alloc (tokC 0 ⟨#[]⟩ 0 0 0)) (tokC 0 ⟨#[]⟩ 0 0 0); simpa using this) : p := h
theorem zm {p : Prop} (h : p := by rw [cell_of_heap hr]; rfl) : p := h
theorem jm {p : Prop} (h : p := by have := HRG.out; have := HGE.out; simp; omega) : p := h
theorem qm {p : Prop} (h : p := by have := h_set_eq (i := 0) (u := .int .i64 5) (h_set_eq (i := 1) (u := .string (s.extract a k)) HR4.out); simpa using this) : p := h
theorem zn {p : Prop} (h : p := by have := h_new w2 (tokC 0 ⟨#[]⟩ 0 0 0); rw [hz2] at this; exact this) : p := h
theorem jn {p : Prop} (h : p := by simp only [World.size_alloc, World.size_setCell, World.size_drew, Nat.left_eq_add, Nat.add_eq_left, Nat.one_ne_zero, hS, hA, hD, hM, reduceIte, Option.map_some, Obj.put] <;> rfl) : p := h
theorem qn {p : Prop} (h : p := by intro u hu; simp only [List.mem_cons, List.not_mem_nil, or_false] at hu; rcases hu with rfl | rfl | rfl | rfl | rfl | rfl | rfl | rfl <;> rfl) : p := h
theorem zo {p : Prop} (h : p := by have := H_lt.out; simp; omega) : p := h
theorem jo {p : Prop} (h : p := by simp [Rows.namesOrderRow]) : p := h
theorem qo {p : Prop} (h : p := by simp only [hS, hA, hD, hM, World.size_setCell, hnk, reduceIte, Option.map_some, Obj.put, HMK.out.row] <;> rfl) : p := h
theorem zp {p : Prop} (h : p := by simp [o_R]) : p := h
theorem jp {p : Prop} (h : p := by have := HGE.out; simp; omega) : p := h
theorem qp {p : Prop} (h : p := by simp only [hS, hA, hD, hM, World.size_setCell, Ne.symm hnk, reduceIte, Option.map_some, Obj.put] <;> rfl) : p := h
theorem zq {p : Prop} (h : p := by simp; exact HP2.out.p) : p := h
theorem jq {p : Prop} (h : p := by intro _ _ h; cases h) : p := h
theorem qq {p : Prop} (h : p := by simp [results, rsA, go_sem]) : p := h
theorem zr {p : Prop} (h : p := by simp [n_B_p]) : p := h
theorem jr {p : Prop} (h : p := by simp [n_p_R]) : p := h
theorem qr {p : Prop} (h : p := by have := HeR.out; simp; omega) : p := h
theorem js {p : Prop} (h : p := by first | exact (keeps_drew (keeps_new (Keeps.refl [] w) _)).trans hk1 jg | exact (keeps_drew (keeps_new (keeps_new (Keeps.refl [] w) _) _)).trans hk1 jg) : p := h
theorem zt {p : Prop} (h : p := by simp [g_R]) : p := h
theorem jt {p : Prop} (h : p := by first | rfl | simp [Region.wanted, yielded]) : p := h
theorem qt {p : Prop} (h : p := by first | rfl | simp [hz2]) : p := h
theorem zu {p : Prop} (h : p := by first | rfl | (simp only [hS, hA, hD, hM, World.size_setCell, World.size_drew, reduceIte, Option.map_some, Obj.put] <;> rfl)) : p := h
theorem ju {p : Prop} (h : p := by have := HeR.out; have := hk.size; omega) : p := h
theorem qu {p : Prop} (h : p := by first | exact keeps_drew (keeps_new (Keeps.refl [] w) _) | exact keeps_drew (keeps_new (keeps_new (Keeps.refl [] w) _) _)) : p := h
theorem zv {p : Prop} (h : p := by first | assumption | exact HPe4.out.le) : p := h
theorem jv {p : Prop} (h : p := by intro x hx; simp [Op.operands] at hx; subst hx; exact hv) : p := h
theorem qv {p : Prop} (h : p := by have := h.lt; simp; omega) : p := h
theorem zw {p : Prop} (h : p := by exact kD (k0 [] u2)) : p := h
theorem jw {p : Prop} (h : p := by simp [ns_n_R]) : p := h
theorem qw {p : Prop} (h : p := by rw [hu]; simp only [List.length_nil]; omega) : p := h
theorem jx {p : Prop} (h : p := by simp [n_B_R]) : p := h
theorem qx {p : Prop} (h : p := by simp [n_T_R]) : p := h
theorem jy {p : Prop} (h : p := by simp [n_F_p]) : p := h
theorem qy {p : Prop} (h : p := by simp [n_A_p]) : p := h
theorem zz {p : Prop} (h : p := by simp [n_C_p]) : p := h
theorem jz {p : Prop} (h : p := by rw [h.size]; omega) : p := h
theorem qz {p : Prop} (h : p := by simp [ns_n_p]) : p := h
theorem zab {p : Prop} (h : p := by simp only; omega) : p := h
theorem jab {p : Prop} (h : p := by have := HeR.out; omega) : p := h
theorem qab {p : Prop} (h : p := by simp only [hS, hA, hD, hM, reduceIte, Option.map_some, HEB.out] <;> rfl) : p := h
theorem zbb {p : Prop} (h : p := by have := h.size; omega) : p := h
theorem jbb {p : Prop} (h : p := by simp [o_kb]) : p := h
theorem qbb {p : Prop} (h : p := by simp [maxLen]; omega) : p := h
theorem zcb {p : Prop} (h : p := by simp [(off_R).2.2.2]) : p := h
theorem jcb {p : Prop} (h : p := by simp [results, rsA]) : p := h
theorem qcb {p : Prop} (h : p := by simp [g_p]) : p := h
theorem zdb {p : Prop} (h : p := by simp only [isName]; rcases h5 with h | h | h | h <;> simp [h]) : p := h
theorem jdb {p : Prop} (h : p := by simp [ns_l_p]) : p := h
theorem qdb {p : Prop} (h : p := by have := HRG.out; simp; omega) : p := h
theorem zeb {p : Prop} (h : p := by rw [HFL.out]) : p := h
theorem jeb {p : Prop} (h : p := by simp [h0]) : p := h
theorem qeb {p : Prop} (h : p := by simp []) : p := h
theorem zfb {p : Prop} (h : p := by exact ⟨rfl, rfl⟩) : p := h
theorem jfb {p : Prop} (h : p := by exact ⟨by rw [← HA'.out]; rfl, rfl⟩) : p := h
theorem qfb {p : Prop} (h : p := by exact bodyPost_ret (v := .tuple #[.float .f64 (flt 1), .int .i64 1, .nilIface]) qq rfl ⟨rfl, rfl⟩) : p := h
theorem zgb {p : Prop} (h : p := by exact ⟨a, s.size + 1, Nat.le_refl _, hale, rfl, HE, HR3.out, HQ3.out, HK3.out⟩) : p := h
theorem jgb {p : Prop} (h : p := by exact bodyPost_ret (v := .tuple #[.agg #[.int .i64 6, .string (s.extract a k), .float .f64 0, .int .i64 a, .int .i64 k], .int .i64 0]) zk rfl ⟨by rw [HKD.out], hk9⟩) : p := h
theorem qgb {p : Prop} (h : p := by exact bodyPost_ret (v := .tuple #[.agg #[.int .i64 5, .string (s.extract a k), .float .f64 0, .int .i64 a, .int .i64 k], .int .i64 0]) zk rfl ⟨by rw [HKD.out], hk9⟩) : p := h
theorem zhb {p : Prop} (h : p := by exact bodyPost_ret (v := .tuple #[.agg #[.int .i64 7, .string (s.extract a k), .float .f64 0, .int .i64 a, .int .i64 k], .int .i64 0]) zk rfl ⟨by rw [HKD.out], hk9⟩) : p := h
theorem jhb {p : Prop} (h : p := by exact bodyPost_ret (v := .tuple #[.agg #[.int .i64 8, .string (s.extract a k), .float .f64 0, .int .i64 a, .int .i64 k], .int .i64 0]) zk rfl ⟨by rw [HKD.out], hk9⟩) : p := h
theorem qhb {p : Prop} (h : p := by exact ⟨k + 1, f, by omega, by omega, rfl, HWE, by (have := h_set_eq (i := 4) (u := .int .i64 ((k : Int) + 1)) HR4.out; simpa using this), h_set_ne jg HQ4.out, Keeps.trans HK4.out (fp' := [R + 1]) (Keeps.setCell _ _ _ _ jg) zl⟩) : p := h
theorem zib {p : Prop} (h : p := by exact bodyPost_ret (v := .tuple #[.agg #[.int .i64 9, .string x, .float .f64 0, .int .i64 a, .int .i64 ((a : Int) + x.size)], .int .i64 0]) zk rfl ⟨rfl, hk9⟩) : p := h
theorem jib {p q : Prop} (c : q) (h : Wq q → p := by intro hq; refine (ok_any H.out).mono ?_; exact hq.out) : p := h c
theorem qib {p q : Prop} (c : q) (h : Wq q → p := by intro hq; refine (peek_any H.out HT.out H.out.le).mono ?_; exact hq.out) : p := h c
theorem zjb {p q : Prop} (c : q) (h : Wq q → p := by intro hq; refine (peek_any HP0.out HT.out H.out.le).mono ?_; exact hq.out) : p := h c
theorem jjb {p : Prop} (h : p := by exact ⟨rfl, ⟨HP2.out.gl.keep hkp zq, hrow, HP2.out.p, HP2.out.size, le2, by simp only; omega⟩, (HK2.out.weaken (fp' := [p]) jg).trans hkp jg⟩) : p := h
theorem qjb {p : Prop} (h : p := by exact ⟨⟨te, opn, ng⟩, HF.out, ⟨HP2.out.gl.keep hkp zq, hrow, HP2.out.p, HP2.out.size, le2, HP2.out.ob⟩, HK.out.trans ((HK2.out.weaken (fp' := [p]) jg).trans hkp jg) jg⟩) : p := h
theorem zkb {p : Prop} (h : p := by exact bodyPost_ret (v := .tuple #[]) jcb rfl ⟨rfl, HP2.out, HK.out.trans HK2.out jg⟩) : p := h
theorem jkb {p : Prop} (h : p := by exact hc.mono fun e w' ⟨v, he, hr⟩ => by subst he; exact hK v w' hr) : p := h
theorem qkb {p : Prop} (h : p := by exact bodyPost_ret (v := .tuple #[.string ⟨#[]⟩, .complex .f64 0 0, .bool false]) qq rfl ⟨rfl, HK2.out⟩) : p := h
theorem zlb {p q : Prop} (c : q) (h : Wq q → p := by intro hq; refine (HS.out _ (H.out.keep (Keeps.alloc [] w (nodC 0 ⟨#[]⟩ 0 (.slice none 0 0) 0 0)))).mono ?_; exact hq.out) : p := h c
theorem jlb {p q : Prop} (c : q) (h : Wq q → p := by intro hq; refine (one_none HP1.out HN.out zi).mono ?_; exact hq.out) : p := h c
theorem qlb {p : Prop} (h : p := by exact HN3.out.keep t5 jg (fun x hx => Nat.le_of_lt hx)) : p := h
theorem zmb {p : Prop} (h : p := by exact HP3.out.keepN t5 qi qi) : p := h
theorem jmb {p : Prop} (h : p := by exact HK3.out.trans t5 jg) : p := h
theorem qmb {p q : Prop} (c : q) (h : Wq q → p := by intro hq; refine (ok_any HP0.out).mono ?_; exact hq.out) : p := h c
theorem znb {p : Prop} (h : p := by exact bodyPost_ret (v := .int .i64 k) (by rw [HE.out]; simp [results, rsA] <;> rfl) rfl ⟨rfl, rfl⟩) : p := h
theorem jnb {p : Prop} (h : p := by simp [results, rsA, go_sem]) : p := h
theorem qnb {p : Prop} (h : p := by exact Came.refl _) : p := h
theorem zob {p : Prop} (h : p := by exact came_fault _ _ _ zi) : p := h
theorem job {p : Prop} (h : p := by exact ((came_named g st (.mk k nm x kids re im)).trans0 (came_of g _ nm)).trans0 (came_use h)) : p := h
theorem qob {p : Prop} (h : p := by exact ⟨_, rfl, z (grew_fault hs _ _ _)⟩) : p := h
theorem zpb {p : Prop} (h : p := by exact ⟨_, rfl, z (grew_refl hs)⟩) : p := h
theorem jpb {p : Prop} (h : p := by exact ⟨n, h1.keep hk (fun x hx hb => by have := hf x hx; omega) fun _ h => h, h2⟩) : p := h
theorem qpb {p : Prop} (h : p := by simp [results, rsA, go_sem, x0, x1, x2, x3, x4]) : p := h
theorem zqb {p : Prop} (h : p := by exact ⟨_, rfl, ((HB4.out.mak).kp0 HB4.out.fix hU).to qg, HB4.out.keep.trans hU jg⟩) : p := h
theorem jqb {p : Prop} (h : p := by exact ⟨_, rfl, ((HB6.out.mak).kp0 HB6.out.fix hU).to qg, HB6.out.keep.trans hU jg⟩) : p := h
theorem qqb {p : Prop} (h : p := by exact ⟨_, rfl, ((HB2.out.mak).kp0 HB2.out.fix hU).to qg, HB2.out.keep.trans hU jg⟩) : p := h
theorem zrb {p q : Prop} (c : q) (h : Wq q → p := by intro hq; refine calls_at (fun V => Keeps [] w V ∧ V.heap[w.heap.size]? = some (.cells #[.int .i64 0, .string ⟨#[]⟩, .float .f64 0, .slice none 0 0, .complex .f64 0 0] 50 (0, 0))) ⟨zg, ja⟩ ?_; exact hq.out) : p := h c
theorem jrb {p q : Prop} (c : q) (h : Wq q → p := by intro hq; refine (n_any _ _ _ _ _ _).mono ?_; exact hq.out) : p := h c
theorem qrb {p q : Prop} (c : q) (h : Wq q → p := by intro hq; refine calls_at (fun W => Keeps [] w W ∧ W.heap[w.heap.size]? = some (.cells #[.int .i64 0, .string ⟨#[]⟩, .float .f64 0, .slice none 0 0, .complex .f64 0 0] 50 (0, 0))) ⟨zg, zb⟩ ?_; exact hq.out) : p := h c
theorem zsb {p q : Prop} (c : q) (h : Wq q → p := by intro hq; refine calls_at (fun W => Keeps [] e2 W ∧ W.heap[e2.heap.size]? = some (.cells #[.int .i64 n.kind, .string nt, .float .f64 nm, .slice na nl nc, .complex .f64 nr ni] 50 (0, 0))) ⟨zg, zb⟩ ?_; exact hq.out) : p := h c
theorem jsb {p : Prop} (h : p := by simp [results, rsA, go_sem, q0, q1, q2, q3, q4]) : p := h
theorem qsb {p q : Prop} (c : q) (h : Wq q → p := by intro hq; refine (peek_any HP0.out HT.out HP0.out.le).mono ?_; exact hq.out) : p := h c
theorem ztb {p : Prop} (h : p := by exact ⟨rfl, HKw2.out⟩) : p := h
theorem jtb {p q : Prop} (c : q) (h : Wq q → p := by intro hq; refine calls_at (fun W => Keeps [] e1 W ∧ W.heap[e1.heap.size]? = some (.cells #[.int .i64 9, .string tx, .float .f64 nm, .int .i64 fr, .int .i64 te] 90 (0, 0))) ⟨zg, zb⟩ ?_; exact hq.out) : p := h c
theorem qtb {p q : Prop} (c : q) (h : Wq q → p := by intro hq; refine wp_at (fun W => Keeps [] e2 W ∧ W.heap[e2.heap.size]? = some (.cells #[.int .i64 n.kind, .string nt, .float .f64 nm, .slice na nl nc, .complex .f64 nr ni] 50 (0, 0))) ⟨zg, zb⟩ ?_; exact hq.out) : p := h c
theorem zub {p : Prop} (h : p := by exact ⟨n, st1, nt, nm, na, nl, nc, nr, ni, Seg w1.heap.size e2.heap.size, _, HG.out, nw3.out, up_n, us_nw3, dn_n, ns_n_p, ns_n_R, ns_n_B, HPw3.out, HKw3.out, Rw3_R.out, Rw3_B.out⟩) : p := h
theorem jub {p : Prop} (h : p := by exact Nat.le_trans (Nat.mul_le_mul (show l.length + 1 ≤ 400001 by omega) hbb) zi) : p := h
theorem qub {p q : Prop} (c : q) (h : Wq q → p := by intro hq; refine calls_at (fun V => Keeps [] w3_ V ∧ V.heap[w3_.heap.size]? = some (.cells #[.int .i64 k3, .string nm3, .float .f64 nu3, .slice a3 l3 c3, .complex .f64 re3 im3] 50 (0, 0))) ⟨zg, ja⟩ ?_; exact hq.out) : p := h c
theorem zvb {p q : Prop} (c : q) (h : Wq q → p := by intro hq; refine calls_at (fun V => Keeps [] w47_ V ∧ V.heap[w47_.heap.size]? = some (.cells #[.int .i64 k47, .string nm47, .float .f64 nu47, .slice a47 l47 c47, .complex .f64 re47 im47] 50 (0, 0))) ⟨zg, ja⟩ ?_; exact hq.out) : p := h c
theorem jvb {p q : Prop} (c : q) (h : Wq q → p := by intro hq; refine wp_at (fun W => Keeps [M.k] w W ∧ W.heap[M.k]? = some (.cells #[.slice M.la M.ln M.lc, .int .i64 i, .int .i64 ((nn + 1 : Nat) : Int), .bool fn, .int .i64 l] 77 (0, 0)) ∧ W.heap[w.heap.size]? = some (.cells #[.int .i64 0, .string ⟨#[]⟩, .float .f64 0, .slice none 0 0, .complex .f64 0 0] 50 (0, 0))) ⟨zg, qo, qp⟩ ?_; exact hq.out) : p := h c
theorem qvb {p q : Prop} (c : q) (h : Wq q → p := by intro hq; refine (HE.out _ _ HB6.out.here qg).mono ?_; exact hq.out) : p := h c
theorem zwb {p q : Prop} (c : q) (h : Wq q → p := by intro hq; refine (HE.out _ _ HB2.out.here qg).mono ?_; exact hq.out) : p := h c
theorem jwb {p q : Prop} (c : q) (h : Wq q → p := by intro hq; refine calls_at (fun W => Keeps [] e2 W ∧ W.heap[e2.heap.size]? = some (.cells #[.int .i64 5, .string tx, .float .f64 nm, .int .i64 fr, .int .i64 te] 90 (0, 0))) ⟨zg, zb⟩ ?_; exact hq.out) : p := h c
theorem qwb {p q : Prop} (c : q) (h : Wq q → p := by intro hq; refine calls_at (fun W => Keeps [p] e4 W ∧ W.heap[p]? = some (.cells #[.string s, .int .i64 te, .int .i64 st.opn, .bool st.ng, .int .i64 0, .complex .f64 0 0] 87 (0, 0))) ⟨zg, (qb HPe4.out.row l_p)⟩ ?_; exact hq.out) : p := h c
theorem zxb {p q : Prop} (c : q) (h : Wq q → p := by intro hq; refine (here_any HPw1.out HT.out).mono ?_; exact hq.out) : p := h c
theorem jxb {p q : Prop} (c : q) (h : Wq q → p := by intro hq; refine calls_at (fun W => Keeps [] e2 W ∧ W.heap[e2.heap.size]? = some (.cells #[.int .i64 kd, .string tx, .float .f64 nm, .int .i64 fr, .int .i64 te] 90 (0, 0))) ⟨zg, zb⟩ ?_; exact hq.out) : p := h c
theorem qxb {p q : Prop} (c : q) (h : Wq q → p := by intro hq; refine calls_at (fun W => Keeps [] w W ∧ W.heap[w.heap.size]? = some (.cells #[.int .i64 0, .int .i64 0, .slice none 0 0, .int .i64 0, .string ⟨#[]⟩, .float .f64 0, .slice none 0 0, .complex .f64 0 0, .complex .f64 0 0] 52 (0, 0))) ⟨zg, zb⟩ ?_; exact hq.out) : p := h c
theorem zyb {p q : Prop} (c : q) (h : Wq q → p := by intro hq; refine wp_at (fun W => Keeps [] e2 W ∧ W.heap[e2.heap.size]? = some (.cells #[.int .i64 kd, .string tx, .float .f64 nm, .int .i64 fr, .int .i64 te] 90 (0, 0)) ∧ W.heap[e2.heap.size + 1]? = some (.cells #[.int .i64 0, .int .i64 0, .slice none 0 0, .int .i64 0, .string ⟨#[]⟩, .float .f64 0, .slice none 0 0, .complex .f64 0 0, .complex .f64 (placeOf s fr).1 (placeOf s fr).2] 52 (0, 0)) ∧ W.heap[e2.heap.size + 2]? = some (.cells #[.string ⟨#[66, 69, 71, 73, 78]⟩, .string ⟨#[69, 78, 68]⟩, .string ⟨#[71, 65, 80]⟩] 124 (0, 0)) ∧ W.heap[e2.heap.size + 3]? = some (.cells #[.int .i64 1, .int .i64 2, .int .i64 4] 168 (0, 0))) ⟨zg, zd, zd, zd, zd⟩ ?_; exact hq.out) : p := h c
theorem jyb {p q : Prop} (c : q) (h : Wq q → p := by intro hq; refine wp_at (fun W => Keeps [] w W ∧ W.heap[w.heap.size]? = some (.cells #[.int .i64 0, .string ⟨#[]⟩, .float .f64 0, .slice none 0 0, .complex .f64 0 0] 50 (0, 0))) ⟨zg, ja⟩ ?_; exact hq.out) : p := h c
theorem qyb {p q : Prop} (c : q) (h : Wq q → p := by intro hq; refine (HS2.out _ _ HB6.out.here qg).mono ?_; exact hq.out) : p := h c
theorem zzb {p q : Prop} (c : q) (h : Wq q → p := by intro hq; simp only [List.pop_toArray, List.dropLast_cons_cons, List.dropLast_singleton]; exact hq.out) : p := h c
theorem jzb {p q : Prop} (c : q) (h : Wq q → p := by intro hq; simp only [Act.put, List.setIfInBounds_toArray, List.set_cons_zero, List.set_cons_succ]; exact hq.out) : p := h c
theorem qzb {p q : Prop} (c : q) (h : Wq q → p := by intro hq; refine step_call (f := 30) (vals := #[.pointer (some ⟨M.k, 0, none⟩), .int .i64 1]) rfl _ rfl jh (exprC_1 _ _ HP.out.here qg) ?_; exact hq.out) : p := h c
theorem zac {p q : Prop} (c : q) (h : Wq q → p := by intro hq; (try simp only [Act.put, List.setIfInBounds_toArray, List.set_cons_zero, List.set_cons_succ]); exact hq.out) : p := h c
theorem jac {p q : Prop} (c : q) (h : Wq q → p := by intro hq; refine wpAnyH_ready (rs := [6]) jh jg ?_; exact hq.out) : p := h c
theorem qac {p q : Prop} (c : q) (h : Wq q → p := by intro hq; refine wpAnyH_ready (rs := [8]) jh jg ?_; exact hq.out) : p := h c
theorem zbc {p q : Prop} (c : q) (h : Wq q → p := by intro hq; refine wpAnyH_ready (rs := [9]) jh jg ?_; exact hq.out) : p := h c
theorem jbc {p q : Prop} (c : q) (h : Wq q → p := by intro hq; refine wpAnyH_ready (rs := [10]) jh jg ?_; exact hq.out) : p := h c
theorem qbc {p q : Prop} (c : q) (h : Wq q → p := by intro hq; refine inv_at (fun V => Keeps [R] wb V ∧ V.heap[R]? = some (.cells #[.int .i64 kd, .int .i64 n, .slice pa pl pc, .int .i64 30, .string ⟨#[]⟩, .float .f64 0, .slice aaq (bm + 1) ccq, .complex .f64 0 0, .complex .f64 0 0] 52 (0, 0))) ⟨zg, (ze HR.out)⟩ ?_; exact hq.out) : p := h c
theorem zcc {p q : Prop} (c : q) (h : Wq q → p := by intro hq; refine list_at (fun V => Keeps [] wd V ∧ V.heap[wd.heap.size]? = some (.cells #[.int .i64 kd, .int .i64 n, .slice pa pl pc, .int .i64 30, .string ⟨#[]⟩, .float .f64 0, .slice aaq (bm + 1) ccq, .complex .f64 0 0, .complex .f64 0 0] 52 (0, 0))) ⟨zg, qd⟩ ?_; exact hq.out) : p := h c
theorem jcc {p q : Prop} (c : q) (h : Wq q → p := by intro hq; refine inv_at (fun W => Keeps [G] wa W ∧ W.heap[G]? = some (.cells #[.slice aa (m + 1) cc, .slice none 0 0] 33 (0, 0))) ⟨zg, (ze HGa.out)⟩ ?_; exact hq.out) : p := h c
theorem qcc {p : Prop} (h : p := by exact ⟨i - 1, m + 1, wa.heap.size, _, _, rfl, by omega, by omega, by omega, by omega, HPa.out.kp hk jp, hr, by rw [e2]; exact HOa.out.step hk jp, hk.size, by have := HE3.out; have := HGE.out; omega⟩) : p := h
theorem zdc {p q : Prop} (c : q) (h : Wq q → p := by intro hq; refine step_call (f := 31) (vals := #[.pointer (some ⟨M.k, 0, none⟩), .int .i64 2]) rfl _ rfl jh (blockV_2 HP.out.here qg) ?_; exact hq.out) : p := h c
theorem jdc {p q : Prop} (c : q) (h : Wq q → p := by intro hq; refine step_fun0 rfl (.tmp 85) (.tmp 90) rfl rfl rfl HFB.out qn (b := w.heap.size + 3) (by have := HZ.out; have := HGE.out; omega) ?_; exact hq.out) : p := h c
theorem qdc {p q : Prop} (c : q) (h : Wq q → p := by intro hq; refine anyH_at (fun V => Keeps [] u2 V ∧ (V.cell? ⟨G, 1, none⟩ = some (.slice (some ⟨F, 0, none⟩) 1 cp) ∧ V.cell? ⟨F, 5, none⟩ = some (.slice ba bm bc))) ⟨zw, hSS⟩ ?_; exact hq.out) : p := h c
theorem zec {p q : Prop} (c : q) (h : Wq q → p := by intro hq; refine step_call (f := 32) (vals := #[.int .i64 4, .string ⟨#[112]⟩, .slice none 0 0]) rfl _ rfl jh (n_v _ _ _ _ _ _) ?_; exact hq.out) : p := h c
theorem jec {p q : Prop} (c : q) (h : Wq q → p := by intro hq; refine anyH_at (fun V => Keeps [] cw V ∧ V.heap[cw.heap.size]? = some (.cells #[.int .i64 4, .string ⟨#[112]⟩, .float .f64 0, .slice none 0 0, .complex .f64 0 0] 50 (0, 0)) ∧ (V.cell? ⟨G, 1, none⟩ = some (.slice (some ⟨F, 0, none⟩) 1 cp) ∧ V.cell? ⟨F, 5, none⟩ = some (.slice ba bm bc))) ⟨zg, qd, hSS⟩ ?_; exact hq.out) : p := h c
theorem qec {p q : Prop} (c : q) (h : Wq q → p := by intro hq; refine step_call (f := 32) (vals := #[.int .i64 5, .string ⟨#[113]⟩, .slice (some ⟨bHS1.heap.size, 0, none⟩) 1 1]) rfl _ rfl jh (n_v _ _ _ _ _ _) ?_; exact hq.out) : p := h c
theorem zfc {p q : Prop} (c : q) (h : Wq q → p := by intro hq; refine anyH_at (fun V => Keeps [] cw V ∧ V.heap[cw.heap.size]? = some (.cells #[.int .i64 5, .string ⟨#[113]⟩, .float .f64 0, .slice (some ⟨bHS1.heap.size, 0, none⟩) 1 1, .complex .f64 0 0] 50 (0, 0)) ∧ (V.cell? ⟨G, 1, none⟩ = some (.slice (some ⟨F, 0, none⟩) 1 cp) ∧ V.cell? ⟨F, 5, none⟩ = some (.slice ba bm bc))) ⟨zg, qd, hSS⟩ ?_; exact hq.out) : p := h c
theorem jfc {p q : Prop} (c : q) (h : Wq q → p := by intro hq; refine step_call (f := 32) (vals := #[.int .i64 44, .string ⟨#[]⟩, .slice (some ⟨bHS2.heap.size, 0, none⟩) 1 1]) rfl _ rfl jh (n_v _ _ _ _ _ _) ?_; exact hq.out) : p := h c
theorem qfc {p q : Prop} (c : q) (h : Wq q → p := by intro hq; refine step_call (f := 32) (vals := #[.int .i64 4, .string ⟨#[122]⟩, .slice none 0 0]) rfl _ rfl jh (n_v _ _ _ _ _ _) ?_; exact hq.out) : p := h c
theorem zgc {p q : Prop} (c : q) (h : Wq q → p := by intro hq; refine anyH_at (fun V => Keeps [] cw V ∧ V.heap[cw.heap.size]? = some (.cells #[.int .i64 4, .string ⟨#[122]⟩, .float .f64 0, .slice none 0 0, .complex .f64 0 0, .int .i64 k1, .string nm1, .float .f64 nu1, .slice a1 l1 c1, .complex .f64 re1 im1] 50 (0, 0)) ∧ V.cell? ⟨G, 1, none⟩ = some (.slice (some ⟨F, 0, none⟩) 1 cp)) ⟨zg, qd, hSS⟩ ?_; exact hq.out) : p := h c
theorem jgc {p q : Prop} (c : q) (h : Wq q → p := by intro hq; refine step_call (f := 32) (vals := #[.int .i64 14, .string ⟨#[]⟩, .slice (some ⟨bHS1.heap.size, 0, none⟩) 2 2]) rfl _ rfl jh (n_v _ _ _ _ _ _) ?_; exact hq.out) : p := h c
theorem qgc {p q : Prop} (c : q) (h : Wq q → p := by intro hq; refine anyH_at (fun V => Keeps [] cw V ∧ V.heap[cw.heap.size]? = some (.cells #[.int .i64 14, .string ⟨#[]⟩, .float .f64 0, .slice (some ⟨bHS1.heap.size, 0, none⟩) 2 2, .complex .f64 0 0] 50 (0, 0)) ∧ V.cell? ⟨G, 1, none⟩ = some (.slice (some ⟨F, 0, none⟩) 1 cp)) ⟨zg, qd, hSS⟩ ?_; exact hq.out) : p := h c
theorem zhc {p q : Prop} (c : q) (h : Wq q → p := by intro hq; refine step_call (f := 32) (vals := #[.int .i64 40, .string ⟨#[]⟩, .slice (some ⟨bHS2.heap.size, 0, none⟩) 1 1]) rfl _ rfl jh (n_v _ _ _ _ _ _) ?_; exact hq.out) : p := h c
theorem jhc {p q : Prop} (c : q) (h : Wq q → p := by intro hq; refine anyH_at (fun V => Keeps [] cw V ∧ V.heap[cw.heap.size]? = some (.cells #[.int .i64 40, .string ⟨#[]⟩, .float .f64 0, .slice (some ⟨bHS2.heap.size, 0, none⟩) 1 1, .complex .f64 0 0] 50 (0, 0)) ∧ V.cell? ⟨G, 1, none⟩ = some (.slice (some ⟨F, 0, none⟩) 1 cp)) ⟨zg, qd, hSS⟩ ?_; exact hq.out) : p := h c
theorem qhc {p q : Prop} (c : q) (h : Wq q → p := by intro hq; refine step_call (f := 32) (vals := #[.int .i64 30, .string ⟨#[]⟩, .slice (some ⟨bHS3.heap.size, 0, none⟩) 1 1]) rfl _ rfl jh (n_v _ _ _ _ _ _) ?_; exact hq.out) : p := h c
theorem zic {p : Prop} (h : p := by exact .inl ⟨h0, (Option.some.inj h).symm⟩) : p := h
theorem jic {p : Prop} (h : p := by simp [results, rsA, go_sem, q0, q1]) : p := h
theorem qic {p q : Prop} (c : q) (h : Wq q → p := by intro hq; refine wp_at (fun W => Keeps [] w W ∧ W.heap[w.heap.size]? = some (.cells #[.int .i64 kd, .string tx, .float .f64 fm, .slice na nl nc, .complex .f64 re im] 50 (0, 0))) ⟨zg, zb⟩ ?_; exact hq.out) : p := h c
theorem zjc {p : Prop} (h : p := by exact ⟨rfl, zg⟩) : p := h
theorem jjc {p : Prop} (h : p := by exact ⟨_, _, _, rfl, HCw4.out, HSw4.out⟩) : p := h
theorem qjc {p : Prop} (h : p := by exact ⟨_, _, _, rfl, HCw3.out, HSw3.out⟩) : p := h
theorem zkc {p : Prop} (h : p := by exact ⟨k + 1, by first | rfl | (simp; done) | (simp; omega), by omega, by omega, _, hku, HKkbw71.out, HCw71.out, HKw71.out⟩) : p := h
theorem jkc {p : Prop} (h : p := by exact ⟨k + 1, by first | rfl | (simp; done) | (simp; omega), by omega, by omega, _, hku, (KindW.put HES.out Rw74_kb.out).of HOF.out, HCw74.out, HKw74.out⟩) : p := h
theorem qkc {p q : Prop} (c : q) (h : Wq q → p := by intro hq; refine calls_at (fun W => Keeps [] wn W ∧ W.heap[wn.heap.size]? = some (.cells #[.int .i64 t.1, .string t.2] 101 (0, 0))) ⟨zg, zb⟩ ?_; exact hq.out) : p := h c
theorem zlc {p : Prop} (h : p := by exact ⟨p ++ [t], n2, HRw51.out, by omega, HKkbw51.out.of HOF.out, HCw51.out, HKw51.out⟩) : p := h
theorem jlc {p q : Prop} (c : q) (h : Wq q → p := by intro hq; refine inv_at (fun W => Keeps [] wn W ∧ W.heap[wn.heap.size]? = some (.cells #[.int .i64 t.1, .string t.2] 101 (0, 0))) ⟨zg, zb⟩ ?_; exact hq.out) : p := h c
theorem qlc {p q : Prop} (c : q) (h : Wq q → p := by intro hq; refine calls_at (fun W => Keeps [] wr W ∧ W.heap[wr.heap.size]? = some (.cells #[.int .i64 kk.kind, .string kk.name, .float .f64 fm3, .slice na3 kk.kids.length nc3, .complex .f64 kk.re kk.im] 50 (0, 0))) ⟨zg, zb⟩ ?_; exact hq.out) : p := h c
theorem zmc {p : Prop} (h : p := by simp [results, rsA, go_sem, q0, q1, q2]) : p := h
theorem jmc {p : Prop} (h : p := by exact ⟨p ++ [t], n2, _, _, T1, T2, HRw51.out, by omega, by rw [HPS.out, HPA.out]; exact HOw51.out, HKkbw51.out, HKw51.out, Rw51_R.out, Rw51_X.out⟩) : p := h
theorem qmc {p q : Prop} (c : q) (h : Wq q → p := by intro hq; refine list_at (fun W => Keeps [] e52 W ∧ W.heap[e52.heap.size]? = some (.cells #[.string t.2] 9 (0, 0))) ⟨zg, zb⟩ ?_; exact hq.out) : p := h c
theorem znc {p : Prop} (h : p := by exact ⟨p ++ [t], n2, _, _, _, _, HRw55.out, by omega, by rw [HPS.out, HPA.out]; exact HOw55.out, HKkbw55.out, HKw55.out, Rw55_R.out, Rw55_X.out⟩) : p := h
theorem jnc {p q : Prop} (c : q) (h : Wq q → p := by intro hq; refine calls_at (fun W => Keeps [] wr W ∧ W.heap[wr.heap.size]? = some (.cells #[.complex .f64 u.re u.im, .int .i64 u.of.1, .string u.of.2, .bool u.array, .int .i64 u.param.1, .string u.param.2, .bool true, .bool false] 106 (0, 0))) ⟨zg, zb⟩ ?_; exact hq.out) : p := h c
theorem qnc {p : Prop} (h : p := by exact ⟨k + 1, by first | rfl | (simp; done) | (simp; omega), by omega, by omega, (faultF st1 u.re u.im 30), by rw [faultF_uses]; exact HL.out, by rw [faultF_uses]; exact har, HKkbe53.out, HCe53.out, HSe53.out⟩) : p := h
theorem zoc {p q : Prop} (c : q) (h : Wq q → p := by intro hq; refine wp_at (fun W => Keeps [] wr W ∧ W.heap[wr.heap.size]? = some (.cells #[.complex .f64 u.re u.im, .int .i64 u.of.1, .string u.of.2, .bool true, .int .i64 u.param.1, .string u.param.2, .bool false, .bool false] 106 (0, 0))) ⟨zg, zb⟩ ?_; exact hq.out) : p := h c
theorem joc {p : Prop} (h : p := by exact ⟨rfl, hku.trans (fp' := []) zg jg⟩) : p := h
theorem qoc {p : Prop} (h : p := by exact ⟨k + 1, by first | rfl | (simp; done) | (simp; omega), by omega, by omega, st1, HL.out, har, HKkbw52.out, HCw52.out, HSw52.out⟩) : p := h
theorem zpc {p q : Prop} (c : q) (h : Wq q → p := by intro hq; refine wp_at (fun W => Keeps [] wr W ∧ W.heap[wr.heap.size]? = some (.cells #[.complex .f64 u.re u.im, .int .i64 u.of.1, .string u.of.2, .bool false, .int .i64 u.param.1, .string u.param.2, .bool false, .bool false] 106 (0, 0))) ⟨zg, zb⟩ ?_; exact hq.out) : p := h c
theorem jpc {p : Prop} (h : p := by exact ⟨_, _, _, rfl, HCw51.out, HSw51.out⟩) : p := h
theorem qpc {p q : Prop} (c : q) (h : Wq q → p := by intro hq; refine wp_at (fun W => Keeps [] wr W ∧ W.heap[wr.heap.size]? = some (.cells #[.string fu.name, .slice pa fu.params.length pc, .int .i64 fu.body.kind, .string fu.body.name, .float .f64 fmb, .slice nab fu.body.kids.length ncb, .complex .f64 fu.body.re fu.body.im, .complex .f64 fu.re fu.im] 61 (0, 0))) ⟨zg, zb⟩ ?_; exact hq.out) : p := h c
theorem zqc {p q : Prop} (c : q) (h : Wq q → p := by intro hq; refine inv_at (fun W => Keeps [K.mn] e61 W ∧ W.heap[K.mn]? = some (.map (ents tval (kput ((k + 1, s) : Thing) (.agg #[]) ek es).1) (kput ((k + 1, s) : Thing) (.agg #[]) ek es).2)) ⟨zg, (qb HEB.out l_mn)⟩ ?_; exact hq.out) : p := h c
theorem jqc {p : Prop} (h : p := by exact ⟨i + 1, by first | rfl | (simp; done) | (simp; omega), by omega, by omega, _, by rw [HS6.out]; exact HS7.out, HCw62.out, HSw62.out, Rw62_F.out⟩) : p := h
theorem qqc {p : Prop} (h : p := by exact (root_any hck ht).mono fun _ _ ⟨k1, k2⟩ => ⟨_, k1, rfl, k2⟩) : p := h
theorem zrc {p q : Prop} (c : q) (h : Wq q → p := by intro hq; refine wp_at (fun W => Keeps [] w W ∧ W.heap[w.heap.size]? = some (.cells #[.int .i64 kd, .string tx, .float .f64 fm, .slice na kids.length nc, .complex .f64 re im] 50 (0, 0))) ⟨zg, zb⟩ ?_; exact hq.out) : p := h c
theorem jrc {p q : Prop} (c : q) (h : Wq q → p := by intro hq; refine calls_at (fun W => Keeps [] w W ∧ W.heap[w.heap.size]? = some (.cells #[.int .i64 kd, .string tx, .float .f64 fm, .slice na kids.length nc, .complex .f64 re im] 50 (0, 0))) ⟨zg, zb⟩ ?_; exact hq.out) : p := h c
theorem qrc {p q : Prop} (c : q) (h : Wq q → p := by intro hq; refine calls_at (fun W => Keeps [] w1 W ∧ W.heap[w1.heap.size]? = some (.cells #[.int .i64 kk.kind, .string kk.name, .float .f64 fm3, .slice na3 kk.kids.length nc3, .complex .f64 kk.re kk.im] 50 (0, 0))) ⟨zg, zb⟩ ?_; exact hq.out) : p := h c
theorem zsc {p : Prop} (h : p := by exact ⟨by rw [ha0], _, _, _, by rw [hs0]; exact HCe22.out, HSe22.out, Re22_B.out, off_B⟩) : p := h
theorem jsc {p q : Prop} (c : q) (h : Wq q → p := by intro hq; refine inv_at (fun W => Keeps [] w1 W ∧ W.heap[w1.heap.size]? = some (.cells #[.int .i64 kk.kind, .string kk.name, .float .f64 fm3, .slice na3 kk.kids.length nc3, .complex .f64 kk.re kk.im] 50 (0, 0))) ⟨zg, zu⟩ ?_; exact hq.out) : p := h c
theorem qsc {p : Prop} (h : p := by exact ⟨by rw [ha0], _, _, _, by rw [hs0]; exact HCw21.out, HSw21.out, Rw21_B.out, off_B⟩) : p := h
theorem ztc {p : Prop} (h : p := by exact ⟨by rw [ha0], _, _, _, by rw [hs0]; exact HCw1.out, HSw1.out, Rw1_B.out, off_B⟩) : p := h
theorem jtc {p q : Prop} (c : q) (h : Wq q → p := by intro hq; refine (HREC.out _ _ _ _ hr hkn _ _ _ _ HCw51.out).mono ?_; exact hq.out) : p := h c
theorem qtc {p q : Prop} (c : q) (h : Wq q → p := by intro hq; refine wp_at (fun W => Keeps [K.c] w W ∧ W.heap[K.c]? = some (.cells #[.slice K.ra K.g.rules.length K.rc, .slice K.fa K.g.funcs.length K.fc, .map (some K.mf), .int .i64 st.fn, .int .i64 st.rule, .int .i64 (st.loops + 1), .slice ua st.uses.length uc, .map (some K.ms), .map (some K.mn), .complex .f64 st.re st.im, .int .i64 st.e] 70 (0, 0)) ∧ W.heap[w.heap.size]? = some (.cells #[.int .i64 kd, .string tx, .float .f64 fm, .slice na kids.length nc, .complex .f64 re im] 50 (0, 0))) ⟨zg, (jb HC0.out.row l_c), (jb HC0.out.row l_c)⟩ ?_; exact hq.out) : p := h c
theorem zuc {p : Prop} (h : p := by exact ⟨0, rfl, Nat.zero_le _, rfl, _, _, _, _, HCF.out, HCw1.out, HSw1.out, Rw1_B.out, off_B⟩) : p := h
theorem juc {p : Prop} (h : p := by exact ⟨k + 1, by first | rfl | (simp; done) | (simp; omega), by omega, by omega, _, _, _, _, hcf, HCe52.out, HSe52.out, Re52_B.out, off_B⟩) : p := h
theorem quc {p : Prop} (h : p := by exact ⟨rfl, rfl, T9, ua9, uc9, hc, HSw51.out.trans hs⟩) : p := h
theorem zvc {p : Prop} (h : p := by exact ⟨k + 1, by first | rfl | (simp; done) | (simp; omega), by omega, by omega, _, _, _, _, hcf, HCe53.out, HSe53.out, Re53_B.out, off_B⟩) : p := h
theorem jvc {p q : Prop} (c : q) (h : Wq q → p := by intro hq; refine (named_any hK HCw1.out HNR.out).mono ?_; exact hq.out) : p := h c
theorem qvc {p : Prop} (h : p := by exact CK.app' hK HSe21.out Re21_B.out off_B hsu hcu hkq hfl hka hown zg (za r_c)) : p := h
theorem zwc {p : Prop} (h : p := by exact ⟨0, rfl, Nat.zero_le _, rfl, _, _, _, _, HCF.out, HCl.out, HSl.out, RBl.out, off_B⟩) : p := h
theorem jwc {p q : Prop} (c : q) (h : Wq q → p := by intro hq; refine (fault_any hK HCw1.out re im 32).mono ?_; exact hq.out) : p := h c
theorem qwc {p : Prop} (h : p := by exact ⟨_, _, _, HCe21.out, HSe21.out, Re21_B.out, off_B⟩) : p := h
theorem zxc {p : Prop} (h : p := by exact ⟨_, _, _, HCw1.out, HSw1.out, Rw1_B.out, off_B⟩) : p := h
theorem jxc {p : Prop} (h : p := by exact ⟨by rw [u1, e1]; rfl, fun R hR => by rw [u2, e2]; simpa [linksE] using hR, fun x => by rw [u3, e3]; simp [seesE], fun hn => by rw [u3]; exact hn⟩) : p := h
theorem qxc {p : Prop} (h : p := by exact ⟨_, rfl, ⟨none, 0, none, 0, none, 0, rfl, SliceR.nil, SliceR.nil, SliceR.nil⟩, HKR.out HCX.out.keep (hk8.out.trans hW jg)⟩) : p := h
theorem zyc {p : Prop} (h : p := by exact (check_w hv hx).mono fun r w' ⟨iv, h1, ⟨sa, sc, aa, ac, pa, pc, h2, h3, h4, h5⟩, h6⟩ => ⟨sa, sc, aa, ac, pa, pc, by rw [h1, h2], h3.to strL (fun _ _ => trivial), h4.to strL (fun _ _ => trivial), h5.to flagsL (fun _ _ => trivial), h6⟩) : p := h
theorem zxd {p : Prop} (h : p := by
 go_wp2_with fail
 refine HA.out.mono ?_;rintro r w' ⟨rfl, rfl⟩
 go_wp2_with fail
 go_ret2
 exact zfb) : p := h
theorem qwd {p : Prop} (h : p := by
 split at h
 ·rename_i hc; rw [if_pos hc] at h0; cases h0
 simpa using h) : p := h
theorem zwd {p : Prop} (h : p := by
 by_cases h0 : st.e = 0
 ·rw [if_pos h0] at h;simp only [Option.bind_eq_bind, Option.bind_eq_some_iff] at h;exact .inr ⟨h0, h⟩
 rw [if_neg h0] at h;exact zic) : p := h
theorem qvd {p : Prop} (h : p := by
 go_enter Tryz.func101, Tryz.ntmps101
 go_wp2_with fail
 refine (among_any signs1 _ zi w).mono ?_;rintro e w' ⟨rfl, rfl⟩;rw [hB]
 go_wp2_with fail
 go_ret
 exact zfb) : p := h
theorem jvd {p : Prop} (h : p := by
 go_enter Tryz.func101, Tryz.ntmps101
 go_wp2_with fail
 refine (among_any signs2 _ zi w).mono ?_;rintro e w' ⟨rfl, rfl⟩;rw [hA]
 go_wp2_with fail
 go_ret
 exact zfb) : p := h
theorem zvd {p : Prop} (h : p := by
 rw [hd]; clear hd
 go_enter Tryz.func123, Tryz.ntmps123
 go_wp2_with fail
 go_ret
 exact zfb) : p := h
theorem qud {p : Prop} (h : p := by
 go_region
 all_goals
  go_wp2_with fail
  go_meet
  case rel => exact ⟨rfl, rfl, zg, (jf rR)⟩) : p := h
theorem jud {p : Prop} (h : p := by
 obtain ⟨es, k, h1, h2⟩ := h; exact ⟨es, k, hk.at h1 hb, h2⟩) : p := h
theorem zud {p : Prop} (h : p := by
 cases rootN (nSee st a) a with
 | none => rfl
 | some ra =>
  cases rootN (nSee st a) p with
  | none => rfl
  | some rb => simp only [Option.bind_some, Option.map_some]; split <;> rfl) : p := h
theorem qtd {p : Prop} (h : p := by
 go_enter Tryz.func131, Tryz.ntmps131
 go_wp2_with fail
 go_ret
 exact ⟨rfl, Keeps.alloc [] w _⟩) : p := h
theorem jtd {p : Prop} (h : p := by
 have : (e.key, e.val) ∈ es.map (fun e => (e.key, e.val)) := List.mem_map.2 ⟨e, hem, rfl⟩;rw [h2.1] at this;obtain ⟨x, _, hx⟩ := List.mem_map.1 this;exact (Prod.mk.inj hx).2.symm) : p := h
theorem qsd {p : Prop} (h : p := by
 rintro r w3_ ⟨v, rfl, hn, hm, hk⟩;obtain ⟨k3, nm3, nu3, a3, l3, c3, re3, im3, rfl⟩ := hn.shape;have HB4 := zh (HB1.out.call hm hk);have HN3 := zh (HB1.out.node hn);clear hn;clear hk hm HB1;exact jid) : p := h
theorem jsd {p : Prop} (h : p := by
 obtain ⟨pa, pc, b0, b1, b2, b3, b4, rfl, hp, hn⟩ := h;obtain ⟨bt, bm, ba, bl, bc, br, bi, hv, -, -⟩ := hn.shape;simp at hv;obtain ⟨rfl, rfl, rfl, rfl, rfl⟩ := hv;exact ⟨_, _, _, _, _, _, _, _, _, rfl⟩) : p := h
theorem zsd {p : Prop} (h : p := by
 go_enter Tryz.func99, Tryz.ntmps99
 go_wp2_with fail
 refine wp_loop_rounds 1 ?_;rw [rounds_succ]
 go_wp2_with fail
 refine (dig_any s i hs w).mono ?_;rintro r w' ⟨rfl, rfl⟩;rw [hd]
 go_wp2_with fail
 go_ret
 exact zfb) : p := h
theorem qrd {p : Prop} (h : p := by
 go_enter Tryz.func101, Tryz.ntmps101
 go_wp2_with fail
 refine (among_any signs2 _ zi w).mono ?_;rintro e w' ⟨rfl, rfl⟩;rw [hA]
 go_wp2_with fail
 refine (among_any signs1 _ zi _).mono ?_;rintro e w' ⟨rfl, rfl⟩;rw [hB]
 go_wp2_with fail
 go_ret
 exact zfb) : p := h
theorem jrd {p : Prop} (h : p := by
 have hf := hK.find w k l;unfold kval;simp only [Instr.lookup, Sem.run_bind, run_underlying hT, MapKept.run_getObj_map hb, hK.check, Result.andThen]
 cases h : klook k l 0 with
 | none => rw [h] at hf; simp [hz, hf, Result.andThen]
 | some x => rw [h] at hf; simp [hf]) : p := h
theorem zrd {p : Prop} (h : p := by
 rw [List.getElem?_take] at hj2
 split at hj2
 ·simpa using hj2
 cases hj2) : p := h
theorem jqd {p : Prop} (h : p := by
 rw [hz]; clear hz
 go_enter Tryz.func92, Tryz.ntmps92
 go_wp2_with fail
 go_ret
 exact zfb) : p := h
theorem zqd {p : Prop} (h : p := by
 by_cases hfn : st.loops = 0
 ·rw [if_pos hfn] at hpre;obtain rfl : faultF st re im 32 = st1 := by simpa using hpre
  have d0 : (st.loops == 0) = true := by simp [hfn]
  clear hpre hfn;exact qad
 rw [if_neg hfn] at hpre;obtain rfl : st = st1 := by simpa using hpre
 have d0 : (st.loops == 0) = false := beq_false_of_ne hfn;clear hpre;exact zfd) : p := h
theorem qpd {p : Prop} (h : p := by
 go_enter Tryz.func99, Tryz.ntmps99
 go_wp2_with fail
 refine wp_loop_rounds 2 ?_;rw [rounds_succ]
 go_wp2_with fail
 refine (dig_any s i hs w).mono ?_;rintro r w' ⟨rfl, rfl⟩;rw [hd]
 go_wp2_with fail
 rw [rounds_succ]
 go_wp2_with fail
 refine (dig_any' s i hs w').mono ?_;rintro r w'' ⟨rfl, rfl⟩;rw [hd1]
 go_wp2_with fail
 go_ret
 exact zfb) : p := h
theorem jpd {p : Prop} (h : p := by
 have q0 := cell_of_heap cw7_R 0;have q1 := cell_of_heap cw7_R 1;have q2 := cell_of_heap cw7_R 2;have q3 := cell_of_heap cw7_R 3;have q4 := cell_of_heap cw7_R 4;simp at q0 q1 q2 q3 q4;exact jsb) : p := h
theorem zpd {p : Prop} (h : p := by
 rintro w74 ⟨Kw74, cw74_kb⟩;have Rw74_U := zh (Kw74.at Re73_U.out (by simp [n_U_kb]));have HCw74 := zh (HCe73.out.kp Kw74 (by simp [o0_kb]) (by simp [n_c_kb]) (by simp [n_mf_kb]) (by simp [n_ms_kb]) (by simp [n_mn_kb]) (by simp [(off_kb).2.2.2]));have HSw74 := zh (HSe73.out.loc Kw74 jbb);have HKw74 := zh (HKe73.out.trans Kw74 jbb);have Rw74_kb := zh cw74_kb;clear Kw74 cw74_kb l_c l_U l_mf l_ms l_mn l_kb Re73_U HCe73 HSe73 HKe73 HKkbe73;exact jkc) : p := h
theorem qod {p : Prop} (h : p := by
 rintro r e32 ⟨rfl, hc, hs⟩;have off2_F := hs.off (h_lt Rw31_F.out) off_F;have Re32_F := zh (hs.at Rw31_F.out off_F);have off_F' := off2_F;have HCe32 := zh hc;have HSe32 := zh (HSw31.out.trans hs);clear Rw31_F off_F HCw31 HSw31 hc hs;have off_F := off_F';clear off_F' off2_F;obtain ⟨l_c, l_mf, l_ms, l_mn⟩ := HCe32.out.lt;have l_F := h_lt Re32_F.out
 go_wp2_with fail
 go_meet
 case rel => exact ⟨by rw [HST.out]; exact HCe32.out, HSe32.out, Re32_F.out⟩) : p := h
theorem jod {p : Prop} (h : p := by
 go_region
 all_goals
  go_wp2_with fail
  go_meet
  case rel => exact zjc) : p := h
theorem zod {p : Prop} (h : p := by
 rintro w55 ⟨Kw55, cw55_X⟩;have Rw55_R := zh (Kw55.at Re54_R.out (by simp [n_R_X]));have HKw55 := zh (HKe54.out.trans Kw55 (by simp [o_X]));have HKkbw55 := zh (HKkbe54.out.keep Kw55 (by simp [n_kb_X]));have HOw55 := zh (HOe54.out.kp Kw55 (by simp [b_X]));have HRw55 := zh (HRe54.out.keep Kw55 (by simp [n_mn_X]) (by simp [n_it_X]));have Rw55_X := zh cw55_X;clear Kw55 cw55_X l_c l_R l_X xX_0 xX_1 xX_2 yX_0 yX_1 yX_2 l_mn l_kb l_it Re54_R HKe54 HKkbe54 HOe54 HRe54 Re54_X;have hln := HLN.out;subst hln;exact znc) : p := h
theorem qnd {p : Prop} (h : p := by
 have q1 := cell_of_heap H.out.row 1;simp at q1;have hlt0 := h_lt H.out.row
 go_wp2_with fail
 refine jib ?_;rintro r w' ⟨rfl, hw'⟩;rw [hw'];clear hw'
 go_wp2_with fail
 refine qib ?_;rintro r w1 ⟨rfl, hk1⟩;clear q1 hlt0;have HP1 := zh (H.out.keep hk1);have HK1 := zh hk1;clear hk1
 go_wp2_with ((with_reducible show wpList _ _ _ (Oper.mk none (.store 90 _ _) _ _ _ _ :: _) _ _); refine stT 90 w1.heap.size 0 _ (h_new _ _) rfl (.agg #[.int .i64 kd, .string tx, .float .f64 nm, .int .i64 fr, .int .i64 te]) rfl jh zj qh ?_)
 exact qdd) : p := h
theorem jnd {p : Prop} (h : p := by
 obtain ⟨l_R, xR_0, xR_1, xR_2, xR_3, xR_4, yR_0, yR_1, yR_2, yR_3, yR_4⟩ := cf5 HB8.out.res
 go_wp2_with fail
 refine ret_at (v := .agg #[.int .i64 k7, .string nm7, .float .f64 nu7, .slice a7 l7 c7, .complex .f64 re7 im7]) (fun U => Keeps [w.heap.size] w7_ U ∧ U.heap[w.heap.size]? = some (.cells #[.int .i64 k7, .string nm7, .float .f64 nu7, .slice a7 l7 c7, .complex .f64 re7 im7] 50 (0, 0))) ⟨zg, (za HB8.out.res)⟩ (fun U hU => ?_) rfl (fun U hU => ?_)
 ·obtain ⟨-, x0, x1, x2, x3, x4, -⟩ := cf5 hU.2;exact qpb
 exact HB8.out.fin HN7.out hU.1 qg qg) : p := h
theorem znd {p : Prop} (h : p := by
 intro va' wa fl hfl hk2 hown;obtain ⟨aa, cc, rfl⟩ := hown.slice;have HPa := zh (HPq.out.kp hk2 (fun x hx => by have := hfl x hx; omega));have HGa := zh (hk2.at HGq.out (fun hx => by have := hfl _ hx; have := HGE.out; omega));have HOa := zh hown;clear hk hr hk2 hown hfl HPq HGq;clear lG g0 g1 h0 h1 lR z0 z1 z2 z3 z4 z5 z6 z7 z8 f0 f1 f2 f3 f4 f5 f6 f7 f8;obtain ⟨lG, g0, g1, h0, h1⟩ := cf2 HGa.out
 go_wp2_with fail
 go_roundg (gk - 1)
 case measure => omega
 have e2 := Nat.succ_mul m 24550;simp only [Nat.succ_eq_add_one] at e2;refine jcc ?_;rintro wz ⟨hk, hr⟩;exact qcc) : p := h
theorem qmd {p : Prop} (h : p := by
 have e1 : (⟨G, 0, none⟩ : Addr).add j = ⟨G, j, none⟩ := by simp [Addr.add]; intro h; rw [h]
 rw [e1, this]; simpa using hj) : p := h
theorem jmd {p : Prop} (h : p := by
 obtain ⟨k, rfl, hk1, hk2, st2, T2, ua2, uc2, hcf, hc, hs, hB, off_B⟩ := hrel;have HCr := zh hc; have HSr := zh hs; have RB := zh hB;clear hc hs hB
 by_cases hlt : k < kids.length
 ·obtain ⟨g3, o3, fm3, na3, nc3, hna, kc0, kc1, kc2, kc3, kc4, hkn⟩ := CK.kid HCr.out HKD.out hlt;subst hna;have lg3 : g3 < wr.heap.size := lt_cell kc0;rw [List.drop_eq_getElem_cons hlt, kidsW] at hcf;generalize kids[k] = kk at *
  simp only [Option.bind_eq_bind, Option.bind_eq_some_iff] at hcf;obtain ⟨s3, hr, hcf⟩ := hcf
  cases gk with
  | zero => omega
  | succ f =>
   rw [forF, if_neg jg] at hr;exact zad
 have hke : k = kids.length := by omega
 exact jed) : p := h
theorem zmd {p : Prop} (h : p := by
 rintro w71 ⟨Kw71, cw71_U⟩;have ⟨n_c_U, n_U_c⟩ := zne l_c;have ⟨n_mf_U, n_U_mf⟩ := zne l_mf;have ⟨n_ms_U, n_U_ms⟩ := zne l_ms;have ⟨n_mn_U, n_U_mn⟩ := zne l_mn;have ⟨n_kb_U, n_U_kb⟩ := zne l_kb;have o_U : w.heap.size ≤ wr.heap.size := HSwr.out.size;have off_U : Off K T (wr.heap.size) := off_new HCwr.out (Nat.le_refl _);have o0_U : K.w0.heap.size ≤ wr.heap.size := Nat.le_trans HCwr.out.keep.size (Nat.le_refl _);have HCw71 := zh (HCwr.out.kp0 Kw71);have HSw71 := zh (HSwr.out.loc Kw71 jg);have HKw71 := zh (HKwr.out.trans Kw71 jg);have HKkbw71 := zh (HKBwr.out.keep Kw71 jg);have Rw71_U := zh cw71_U;clear Kw71 cw71_U l_c l_mf l_ms l_mn l_kb HCwr HSwr HKwr HKBwr;exact zkc) : p := h
theorem qld {p : Prop} (h : p := by
 rintro r e3 ⟨T3, ua3, uc3, rfl, hc, hs⟩;have off2_B := hs.off (h_lt Rw2_B.out) off_B;have Re3_B := zh (hs.at Rw2_B.out off_B);have off_B' := off2_B;have HCe3 := zh hc;have HSe3 := zh (HSw2.out.trans hs);clear Rw2_B off_B HCw2 HSw2 hc hs;have off_B := off_B';clear off_B' off2_B;obtain ⟨l_c, l_mf, l_ms, l_mn⟩ := HCe3.out.lt;have l_B := h_lt Re3_B.out
 go_wp2_with fail
 refine ret_at (v := .tuple #[]) (fun W => Keeps [] e3 W) zg (fun w4 hW => ?_) rfl (fun w4 hW => ?_)
 ·have Kw4 : Keeps [] e3 w4 := hW;exact jnb
 have Kw4 : Keeps [] e3 w4 := hW;have Rw4_B := zh (Kw4.at Re3_B.out jg);have HCw4 := zh (HCe3.out.kp0 Kw4);have HSw4 := zh (HSe3.out.loc Kw4 jg);clear Kw4 l_c l_B l_mf l_ms l_mn Re3_B HCe3 HSe3;exact jjc) : p := h
theorem jld {p : Prop} (h : p := by
 go_enter Tryz.func117, Tryz.ntmps117
 go_wp2_with fail
 go_ret2
 exact zfb) : p := h
theorem zld {p : Prop} (h : p := by
 go_enter Tryz.func12, Tryz.ntmps12
 go_wp2_with fail
 go_ret
 exact zfb) : p := h
theorem qkd {p : Prop} (h : p := by
 have HCC := zh hc;clear hc hkd;have HC0 := zh h; have HS0 := zh (CStep.refl K T w);clear h
 go_enter Tryz.func43, Tryz.ntmps43
 obtain ⟨l_c, l_mf, l_ms, l_mn⟩ := HC0.out.lt
 go_wp2_with fail
 refine jrc ?_;rintro w1 ⟨Kw1, cw1_B⟩;have ⟨n_c_B, n_B_c⟩ := zne l_c;have ⟨n_mf_B, n_B_mf⟩ := zne l_mf;have ⟨n_ms_B, n_B_ms⟩ := zne l_ms;have ⟨n_mn_B, n_B_mn⟩ := zne l_mn;have o_B : w.heap.size ≤ w.heap.size := Nat.le_refl _;have off_B : Off K T (w.heap.size) := off_new HC0.out (Nat.le_refl _);have o0_B : K.w0.heap.size ≤ w.heap.size := Nat.le_trans HC0.out.keep.size (Nat.le_refl _);have HCw1 := zh (HC0.out.kp0 Kw1);have HSw1 := zh (HS0.out.loc Kw1 jg);have Rw1_B := zh cw1_B;clear Kw1 cw1_B l_c l_mf l_ms l_mn HC0 HS0;refine (HCC.out _ HCw1.out).mono ?_;exact jdd) : p := h
theorem jkd {p : Prop} (h : p := by
 rintro r w151_ ⟨v, rfl, hn, hm, hk⟩;obtain ⟨k151, nm151, nu151, a151, l151, c151, re151, im151, rfl⟩ := hn.shape;have HB152 := zh (HB6.out.call hm hk);have HN151 := zh (HB6.out.node hn);clear hn;clear hk hm HB6;obtain ⟨l_R, xR_0, xR_1, xR_2, xR_3, xR_4, yR_0, yR_1, yR_2, yR_3, yR_4⟩ := cf5 HB152.out.res
 go_wp2_with fail
 refine ret_at (v := .agg #[.int .i64 k151, .string nm151, .float .f64 nu151, .slice a151 l151 c151, .complex .f64 re151 im151]) (fun U => Keeps [w.heap.size] w151_ U ∧ U.heap[w.heap.size]? = some (.cells #[.int .i64 k151, .string nm151, .float .f64 nu151, .slice a151 l151 c151, .complex .f64 re151 im151] 50 (0, 0))) ⟨zg, (za HB152.out.res)⟩ (fun U hU => ?_) rfl (fun U hU => ?_)
 ·obtain ⟨-, x0, x1, x2, x3, x4, -⟩ := cf5 hU.2;exact qpb
 exact HB152.out.fin HN151.out hU.1 qg qg) : p := h
theorem zkd {p : Prop} (h : p := by
 intro w2 hs2;have x0 := cell_of_heap hs2.row 0;have x1 := cell_of_heap hs2.row 1;have x2 := cell_of_heap hs2.row 2;have x3 := cell_of_heap hs2.row 3;have x4 := cell_of_heap hs2.row 4;simp at x0 x1 x2 x3 x4;have hsz2 := HK1.out.size;have HTR2 := zh hs2.row;have hst2 : Keeps [] w1 w2 := (Keeps.alloc [] w1 (tokC 0 ⟨#[]⟩ 0 0 0)).trans hs2.keeps jg;have HST2 := zh hst2;have HK2 := zh (HK1.out.trans hst2 jg);clear hs2 hst2
 go_wp2_with fail
 go_ret
 exact ⟨rfl, HK2.out⟩) : p := h
theorem qjd {p : Prop} (h : p := by
 go_wp2_with fail
 refine zlb ?_;rintro r w1 ⟨v, rfl, hn', hp1, hk1⟩;have hn : NodeR w1 (fun g => w.heap.size < g) n v := hn'.keep (Keeps.refl [] w1) jg (fun x hx => by have h2 := hx; simp at h2; omega);clear hn';have hq1 := hk1.at (h_new w (nodC 0 ⟨#[]⟩ 0 (.slice none 0 0) 0 0)) qi;have hkw : Keeps [p] w w1 := (Keeps.alloc [p] w _).trans hk1 (fun _ h => .inl h);have hsz : w.heap.size < w1.heap.size := by have := hk1.size; simp at this; omega
 have h14 := hp1.p;obtain ⟨tx, nm, a, l, cap, re, im, rfl, -, -⟩ := hn.shape;generalize hkd : n.kind = kd at *
 have hka := Keeps.alloc [] w1 (nodC kd tx nm (.slice a l cap) re im);have HN1 := zh (hn.keep0 hka); have HP1 := zh (hp1.keep hka); have HK1 := zh (hkw.trans hka jg);have HQ1 := zh (hka.at hq1 jg); have HB1 := zh (h_new w1 (nodC kd tx nm (.slice a l cap) re im));clear hn hp1 hkw hk1 hq1 hka
 go_wp2_with fail
 generalize w1.alloc (nodC kd tx nm (.slice a l cap) re im) = w2 at *
 refine jlb ?_;exact zzc) : p := h
theorem jjd {p : Prop} (h : p := by
 go_wp2_with fail
 refine ret_at (v := .tuple #[.agg #[.slice none 0 0, .slice none 0 0, .slice none 0 0], .complex .f64 st2.re st2.im, .int .i64 st2.e]) (fun W => Keeps [] w8 W) zg (fun W hW => ?_) rfl (fun W hW => ?_)
 ·have hW : Keeps [] w8 W := hW;have rq := hW.at h8.out jg;have q0 := cell_of_heap rq 0;have q1 := cell_of_heap rq 1;have q2 := cell_of_heap rq 2;simp at q0 q1 q2;exact zmc
 have hW : Keeps [] w8 W := hW;have hrest := HRS.out;rw [nRest, if_pos h0] at hrest;simp only [Option.some.injEq] at hrest;subst hrest;exact qxc) : p := h
theorem zjd {p : Prop} (h : p := by
 have HC0 := zh h; have HS0 := zh (CStep.refl K T w);clear h
 go_enter Tryz.func77, Tryz.ntmps77
 obtain ⟨l_c, l_mf, l_ms, l_mn⟩ := HC0.out.lt
 go_wp2_with fail
 refine jrc ?_;rintro w1 ⟨Kw1, cw1_B⟩;have ⟨n_c_B, n_B_c⟩ := zne l_c;have ⟨n_mf_B, n_B_mf⟩ := zne l_mf;have ⟨n_ms_B, n_B_ms⟩ := zne l_ms;have ⟨n_mn_B, n_B_mn⟩ := zne l_mn;have o_B : w.heap.size ≤ w.heap.size := Nat.le_refl _;have off_B : Off K T (w.heap.size) := off_new HC0.out (Nat.le_refl _);have o0_B : K.w0.heap.size ≤ w.heap.size := Nat.le_trans HC0.out.keep.size (Nat.le_refl _);have HCw1 := zh (HC0.out.kp0 Kw1);have HSw1 := zh (HS0.out.loc Kw1 jg);have Rw1_B := zh cw1_B;clear Kw1 cw1_B l_c l_mf l_ms l_mn HC0 HS0;refine (counts_at hcn _).mono ?_;rintro r w' ⟨rfl, hw'⟩;rw [hw'];clear hw';obtain ⟨l_c, l_mf, l_ms, l_mn⟩ := HCw1.out.lt;obtain ⟨l_B, xB_0, xB_1, xB_2, xB_3, xB_4, yB_0, yB_1, yB_2, yB_3, yB_4⟩ := cf5 Rw1_B.out
 go_wp2_with fail
 clear l_c l_B xB_0 xB_1 xB_2 xB_3 xB_4 yB_0 yB_1 yB_2 yB_3 yB_4 l_mf l_ms l_mn;refine (fault_any hK HCw1.out re im 31).mono ?_;exact jdd) : p := h
theorem qid {p : Prop} (h : p := by
 obtain ⟨l_c, l_mf, l_ms, l_mn⟩ := HCw1.out.lt;obtain ⟨l_B, xB_0, xB_1, xB_2, xB_3, xB_4, yB_0, yB_1, yB_2, yB_3, yB_4⟩ := cf5 Rw1_B.out
 go_wp2_with fail
 go_meet
 case rel => exact ztc) : p := h
theorem jid {p : Prop} (h : p := by
 obtain ⟨l_R, xR_0, xR_1, xR_2, xR_3, xR_4, yR_0, yR_1, yR_2, yR_3, yR_4⟩ := cf5 HB4.out.res
 go_wp2_with fail
 refine ret_at (v := .agg #[.int .i64 k3, .string nm3, .float .f64 nu3, .slice a3 l3 c3, .complex .f64 re3 im3]) (fun U => Keeps [w.heap.size] w3_ U ∧ U.heap[w.heap.size]? = some (.cells #[.int .i64 k3, .string nm3, .float .f64 nu3, .slice a3 l3 c3, .complex .f64 re3 im3] 50 (0, 0))) ⟨zg, (za HB4.out.res)⟩ (fun U hU => ?_) rfl (fun U hU => ?_)
 ·obtain ⟨-, x0, x1, x2, x3, x4, -⟩ := cf5 hU.2;exact qpb
 exact HB4.out.fin HN3.out hU.1 qg qg) : p := h
theorem zid {p : Prop} (h : p := by
 have hq : (kk.kind != 4) = false ∨ ((kk.kind != 4) = true ∧ (kk.kind != 5) = false) ∨ ((kk.kind != 4) = true ∧ (kk.kind != 5) = true ∧ (kk.kind != 6) = false) := lval_yes hlv;clear hs1 hlv
 rcases hq with q4' | ⟨q4', q5'⟩ | ⟨q4', q5', q6'⟩
 all_goals
  obtain ⟨l_c, l_mf, l_ms, l_mn⟩ := HCw1.out.lt;obtain ⟨l_B, xB_0, xB_1, xB_2, xB_3, xB_4, yB_0, yB_1, yB_2, yB_3, yB_4⟩ := cf5 Rw1_B.out
  go_wp2_with fail
  go_meet
  refine jsc ?_;rintro w21 ⟨Kw21, cw21_Kd⟩;have ⟨n_c_Kd, n_Kd_c⟩ := zne l_c;have ⟨n_mf_Kd, n_Kd_mf⟩ := zne l_mf;have ⟨n_ms_Kd, n_Kd_ms⟩ := zne l_ms;have ⟨n_mn_Kd, n_Kd_mn⟩ := zne l_mn;have ⟨n_B_Kd, n_Kd_B⟩ := zne l_B;have o_Kd : w.heap.size ≤ w1.heap.size := HSw1.out.size;have off_Kd : Off K T (w1.heap.size) := off_new HCw1.out (Nat.le_refl _);have o0_Kd : K.w0.heap.size ≤ w1.heap.size := Nat.le_trans HCw1.out.keep.size (Nat.le_refl _);have Rw21_B := zh (Kw21.at Rw1_B.out jg);have HCw21 := zh (HCw1.out.kp0 Kw21);have HSw21 := zh (HSw1.out.loc Kw21 jg);have Rw21_Kd := zh cw21_Kd;clear Kw21 cw21_Kd l_c l_B xB_0 xB_1 xB_2 xB_3 xB_4 yB_0 yB_1 yB_2 yB_3 yB_4 l_mf l_ms l_mn Rw1_B HCw1 HSw1;exact qsc) : p := h
theorem qhd {p : Prop} (h : p := by
 have ⟨n_p_T, n_T_p⟩ := zne l_p;have o_T : w.heap.size ≤ e1.heap.size := HKe1.out.size;have g_T : 14 < e1.heap.size := Nat.lt_trans g_p l_p;have HKw2 := zh (HKe1.out.trans Kw2 jg);have HPw2 := zh (HPe1.out.keep Kw2);have Rw2_T := zh cw2_T;clear Kw2 cw2_T l_p HKe1 HPe1;exact ztb) : p := h
theorem jhd {p : Prop} (h : p := by
 intro w2 hs2;have x0 := cell_of_heap hs2.row 0;have x1 := cell_of_heap hs2.row 1;have x2 := cell_of_heap hs2.row 2;have x3 := cell_of_heap hs2.row 3;have x4 := cell_of_heap hs2.row 4;simp at x0 x1 x2 x3 x4;have hsz2 := HK1.out.size;have HTR2 := zh hs2.row;have hst2 : Keeps [] w1 w2 := (Keeps.alloc [] w1 (tokC 0 ⟨#[]⟩ 0 0 0)).trans hs2.keeps jg;have HST2 := zh hst2;have HK2 := zh (HK1.out.trans hst2 jg);clear hs2 hst2;have HP2 := zh (HP1.out.keep HST2.out);have c0 := cell_of_heap HP2.out.row 0;have f0 := frozen_of_heap HP2.out.row 0;have c1 := cell_of_heap HP2.out.row 1;have f1 := frozen_of_heap HP2.out.row 1;have c2 := cell_of_heap HP2.out.row 2;have f2 := frozen_of_heap HP2.out.row 2;have c3 := cell_of_heap HP2.out.row 3;have f3 := frozen_of_heap HP2.out.row 3;have c4 := cell_of_heap HP2.out.row 4;have f4 := frozen_of_heap HP2.out.row 4;have c5 := cell_of_heap HP2.out.row 5;have f5 := frozen_of_heap HP2.out.row 5;simp at c0 c1 c2 c3 c4 c5;have hlt := h_lt HP2.out.row
 go_wp2_with fail
 go_roundg f
 case measure => omega
 have hrow : (w2.setCell ⟨p, 1, none⟩ (.int .i64 te)).heap[p]? = some (parC s ⟨te, opn, ng⟩) := by
  have := (h_set_eq (i := 1) (u := .int .i64 te) HP2.out.row)
  simpa using this
 have hkp : Keeps [p] w2 (w2.setCell ⟨p, 1, none⟩ (.int .i64 te)) := (Keeps.trans (Keeps.refl [p] w2) (Keeps.setCell [p] _ _ _ jg) jg);exact qjb) : p := h
theorem zhd {p : Prop} (h : p := by
 rintro r w1_ ⟨v, rfl, hn, hm, hk⟩;obtain ⟨k1, nm1, nu1, a1, l1, c1, re1, im1, rfl⟩ := hn.shape;have HB2 := zh (HB1.out.call hm hk);have HN1 := zh (HB1.out.node hn);clear hn;clear hk hm HB1;obtain ⟨l_R, xR_0, xR_1, xR_2, xR_3, xR_4, yR_0, yR_1, yR_2, yR_3, yR_4⟩ := cf5 HB2.out.res
 go_wp2_with fail
 refine ret_at (v := .agg #[.int .i64 k1, .string nm1, .float .f64 nu1, .slice a1 l1 c1, .complex .f64 re1 im1]) (fun U => Keeps [w.heap.size] w1_ U ∧ U.heap[w.heap.size]? = some (.cells #[.int .i64 k1, .string nm1, .float .f64 nu1, .slice a1 l1 c1, .complex .f64 re1 im1] 50 (0, 0))) ⟨zg, (za HB2.out.res)⟩ (fun U hU => ?_) rfl (fun U hU => ?_)
 ·obtain ⟨-, x0, x1, x2, x3, x4, -⟩ := cf5 hU.2;exact qpb
 exact HB2.out.fin HN1.out hU.1 qg qg) : p := h
theorem qgd {p : Prop} (h : p := by
 refine (fault_same hK HCr.out fu.re fu.im 28).mono ?_;rintro r e61 ⟨rfl, hc, hs⟩;have off2_F := hs.off (h_lt RFwr.out) off_F;have Re61_F := zh (hs.at RFwr.out off_F);have off_F' := off2_F;have HCe61 := zh hc;have HSe61 := zh (HSr.out.trans hs);clear RFwr off_F HCr HSr hc hs;have off_F := off_F';clear off_F' off2_F;obtain ⟨l_c, xc_0, xc_1, xc_2, xc_3, xc_4, xc_5, xc_6, xc_7, xc_8, xc_9, xc_10, yc_0, yc_1, yc_2, yc_3, yc_4, yc_5, yc_6, yc_7, yc_8, yc_9, yc_10⟩ := cf11 HCe61.out.row;obtain ⟨-, l_mf, l_ms, l_mn⟩ := HCe61.out.lt;have l_F := h_lt Re61_F.out;obtain ⟨es, ek, hes, hes2⟩ := HCe61.out.seen;have HEB := zh hes; have HES := zh hes2;clear hes hes2;have hup : (Instr.mapUpdate 67 (.map (some K.mn)) (.agg #[.int .i64 ((k : Int) + 1), .string s]) (.agg #[])).run Tryz.prog e61 = .ok () (mset e61 K.mn (.map (ents tval (kput ((k + 1, s) : Thing) (.agg #[]) ek es).1) (kput ((k + 1, s) : Thing) (.agg #[]) ek es).2)) := run_see (K := K) (W := e61) HEB.out (k + 1) s
 go_wp2_with fail
 go_roundg f2
 case measure => omega
 refine zqc ?_;rintro w62 ⟨Kw62, cw62_mn⟩;have Rw62_F := zh (Kw62.at Re61_F.out (by simp [n_F_mn]));have HCw62 : Hid (CK K T ua uc (seePut (faultF st6 fu.re fu.im 28) (k + 1, s)) w62) := zh (HCe61.out.see hK (k + 1, s) HES.out Kw62 cw62_mn);have HSw62 := zh (HSe61.out.mn Kw62);have Rw62_mn := zh cw62_mn;clear Kw62 cw62_mn l_c xc_0 xc_1 xc_2 xc_3 xc_4 xc_5 xc_6 xc_7 xc_8 xc_9 xc_10 yc_0 yc_1 yc_2 yc_3 yc_4 yc_5 yc_6 yc_7 yc_8 yc_9 yc_10 l_F l_mf l_ms l_mn Re61_F HCe61 HSe61;exact jqc) : p := h
theorem jgd {p : Prop} (h : p := by
 refine (one_none HP0.out HH0.out zi).mono ?_;rintro r w1 ⟨rfl, hk1⟩;have HP1 := zh (HP0.out.keep hk1); have HQ1 := zh (hk1.at HQ0.out jg); have HK1 := zh (HK0.out.trans hk1 jg);clear hk1
 go_wp2_with fail
 refine (is_not HP1.out HH1.out).mono ?_;rintro r w2 ⟨rfl, hk2⟩;have HP2 := zh (HP1.out.keep hk2); have HQ2 := zh (hk2.at HQ1.out jg); have HK2 := zh (HK1.out.trans hk2 jg);clear hk2
 go_wp2_with fail
 refine (HS.out _ HP2.out).mono ?_;rintro r w9 ⟨v, rfl, hn', hp9, hk9⟩;have hsz : w.heap.size < w2.heap.size := h_lt HQ2.out;have hn : NodeR w9 (fun g => w.heap.size < g) n v := hn'.keep (Keeps.refl [] w9) jg (fun x hx => Nat.lt_of_lt_of_le hsz hx);have hq3 := hk9.at HQ2.out qi;obtain ⟨tx, nm, a, l, cap, re, im, rfl, -, -⟩ := hn.shape;generalize hkd : n.kind = kd at *
 have HN3 := zh hn; have HP3 := zh hp9; have HK3 := zh ((HK2.out.weaken (fp' := [p]) jg).trans hk9 jg);have hl3 : w.heap.size < w9.heap.size := h_lt hq3;have q0 := cell_of_heap hq3 0;have q1 := cell_of_heap hq3 1;have q2 := cell_of_heap hq3 2;have q3 := cell_of_heap hq3 3;have q4 := cell_of_heap hq3 4;have qf0 := frozen_of_heap hq3 0;have qf1 := frozen_of_heap hq3 1;have qf2 := frozen_of_heap hq3 2;have qf3 := frozen_of_heap hq3 3;have qf4 := frozen_of_heap hq3 4;simp at q0 q1 q2 q3 q4;clear hn hn' hp9 hk9 hq3
 go_wp2_with fail
 have t5 := nod5 w9 w.heap.size kd tx nm (.slice a l cap) re im;refine bodyPost_ret (v := .agg #[.int .i64 kd, .string tx, .float .f64 nm, .slice a l cap, .complex .f64 re im]) qk rfl ⟨_, rfl, ?_, ?_, ?_⟩
 ·exact qlb
 ·exact zmb
 exact jmb) : p := h
theorem zgd {p : Prop} (h : p := by
 go_region_law ((refine step_call (f := 62) (vals := #[.string s, .int .i64 pos, .bool op]) rfl _ rfl jh (HN.out _ qu) ?_; rintro v w1 ⟨rfl, hk1⟩; have hq1 := hk1.at (show _ = some (tokC 0 ⟨#[]⟩ 0 0 0) from (by first | exact h_new w _ | exact h_alloc (h_new w _))) jg; have hkw : Keeps [] w w1 := js; have hsz1 := hk1.size; simp at hsz1; have q0 := cell_of_heap hq1 0; have q1 := cell_of_heap hq1 1; have q2 := cell_of_heap hq1 2; have q3 := cell_of_heap hq1 3; have q4 := cell_of_heap hq1 4; have qf0 := frozen_of_heap hq1 0; have qf1 := frozen_of_heap hq1 1; have qf2 := frozen_of_heap hq1 2; have qf3 := frozen_of_heap hq1 3; have qf4 := frozen_of_heap hq1 4; simp at q0 q1 q2 q3 q4; try (have hb1 := hk1.at (h_new (w.alloc (tokC 0 ⟨#[]⟩ 0 0 0)) (tokC 0 ⟨#[]⟩ 0 0 0)) jg; rw [show (w.alloc (tokC 0 ⟨#[]⟩ 0 0 0)).heap.size = w.heap.size + 1 from by simp] at hb1; have b0 := cell_of_heap hb1 0; have b1 := cell_of_heap hb1 1; have b2 := cell_of_heap hb1 2; have b3 := cell_of_heap hb1 3; have b4 := cell_of_heap hb1 4; have bf0 := frozen_of_heap hb1 0; have bf1 := frozen_of_heap hb1 1; have bf2 := frozen_of_heap hb1 2; have bf3 := frozen_of_heap hb1 3; have bf4 := frozen_of_heap hb1 4; simp at b0 b1 b2 b3 b4)))
 all_goals
  go_wp2_with fail
  go_meet
  refine ⟨_, rfl, rfl, ?_⟩
  first
   | (have t := tok5 hb1 kd tx nm fr te
      refine ⟨Nat.lt_succ_self _, t.1, ?_, ?_⟩
      ·exact t.2.1 _ _ (Nat.ne_of_lt (Nat.lt_succ_self _)) hq1
      exact t.2.2 w hkw (Nat.le_succ _))
   | (refine ⟨hsz1, h_new w1 (tokC kd tx nm fr te), ?_, ?_⟩
      ·exact h_alloc hq1
      exact keeps_new hkw _)) : p := h
theorem qfd {p : Prop} (h : p := by
 rintro r e51 ⟨rfl, hk⟩;have Re51_R := zh (hk.at RR.out jg);have Re51_B := zh (hk.at RB.out jg);have HKe51 := zh (HKr.out.trans hk jg);have HPe51 := zh (HPr.out.keep hk);have ne51 := zh (HN1.out.kp hk jg);have us_ne51 := Nat.le_trans us_n hk.size;clear hk RR RB HKr HPr HN1 us_n;have l_p := h_lt HPe51.out.row;obtain ⟨l_R, xR_0, xR_1, xR_2, xR_3, xR_4, yR_0, yR_1, yR_2, yR_3, yR_4⟩ := cf5 Re51_R.out;obtain ⟨l_B, xB_0, xB_1, xB_2, xB_3, xB_4, yB_0, yB_1, yB_2, yB_3, yB_4⟩ := cf5 Re51_B.out
 go_wp2_with fail
 refine ret_at (v := .agg #[.int .i64 n1.kind, .string nt, .float .f64 nm, .slice na nl nc, .complex .f64 nr ni]) (fun W => Keeps [w.heap.size] e51 W ∧ W.heap[w.heap.size]? = some (.cells #[.int .i64 n1.kind, .string nt, .float .f64 nm, .slice na nl nc, .complex .f64 nr ni] 50 (0, 0))) ⟨zg, (qb Re51_R.out l_R)⟩ (fun w52 hW => ?_) rfl (fun w52 hW => ?_)
 ·obtain ⟨Kw52, cw52_R⟩ := hW;have q0 := cell_of_heap cw52_R 0;have q1 := cell_of_heap cw52_R 1;have q2 := cell_of_heap cw52_R 2;have q3 := cell_of_heap cw52_R 3;have q4 := cell_of_heap cw52_R 4;simp at q0 q1 q2 q3 q4;exact jsb
 obtain ⟨Kw52, cw52_R⟩ := hW;have Rw52_B := zh (Kw52.at Re51_B.out jx);have HKw52 := zh (HKe51.out.trans Kw52 zp);have HPw52 := zh (HPe51.out.keepN Kw52 jr zt);have nw52 := zh (ne51.out.kp Kw52 jw);have us_nw52 := Nat.le_trans us_ne51 Kw52.size;have Rw52_R := zh cw52_R;clear Kw52 cw52_R l_p l_R xR_0 xR_1 xR_2 xR_3 xR_4 yR_0 yR_1 yR_2 yR_3 yR_4 l_B xB_0 xB_1 xB_2 xB_3 xB_4 yB_0 yB_1 yB_2 yB_3 yB_4 Re51_B HKe51 HPe51 ne51 us_ne51 Re51_R;exact ⟨_, rfl, nw52.out.to dn_n, HPw52.out, HKw52.out⟩) : p := h
theorem jfd {p : Prop} (h : p := by
 have HN : Hid (Nd (w.heap.size + 1) (m * Z + 1) wr (.agg #[.int .i64 42, .string ⟨#[]⟩, .float .f64 0, .slice aa m cc, .complex .f64 0 0])) := zh (HO.out.kids.mk zi);have hmz := Nat.mul_le_mul_right Z (show m ≤ 3 by omega);have hmk := Nat.mul_le_mul_right K (show m ≤ 3 by omega);obtain ⟨l_R, xR_0, xR_1, xR_2, xR_3, xR_4, yR_0, yR_1, yR_2, yR_3, yR_4⟩ := cf5 HBr.out.res
 go_wp2_with fail
 refine ret_at (v := .agg #[.int .i64 42, .string ⟨#[]⟩, .float .f64 0, .slice aa m cc, .complex .f64 0 0]) (fun U => Keeps [w.heap.size] wr U ∧ U.heap[w.heap.size]? = some (.cells #[.int .i64 42, .string ⟨#[]⟩, .float .f64 0, .slice aa m cc, .complex .f64 0 0] 50 (0, 0))) ⟨zg, (za HBr.out.res)⟩ (fun U hU => ?_) rfl (fun U hU => ?_)
 ·obtain ⟨-, x0, x1, x2, x3, x4, -⟩ := cf5 hU.2;exact qpb
 exact HBr.out.fin HN.out hU.1 qg qg) : p := h
theorem zfd {p : Prop} (h : p := by
 obtain ⟨l_c, xc_0, xc_1, xc_2, xc_3, xc_4, xc_5, xc_6, xc_7, xc_8, xc_9, xc_10, yc_0, yc_1, yc_2, yc_3, yc_4, yc_5, yc_6, yc_7, yc_8, yc_9, yc_10⟩ := cf11 HCw1.out.row;obtain ⟨-, l_mf, l_ms, l_mn⟩ := HCw1.out.lt;have l_B := h_lt Rw1_B.out
 go_wp2_with fail
 go_meet
 case rel => exact zxc) : p := h
theorem qed {p : Prop} (h : p := by
 obtain ⟨q4, q5, q6⟩ := lval_no hlv;have q4' : (kk.kind != 4) = true := by simp [q4]
 have q5' : (kk.kind != 5) = true := by simp [q5]
 have q6' : (kk.kind != 6) = true := by simp [q6]
 clear hs1 hlv;obtain ⟨l_c, l_mf, l_ms, l_mn⟩ := HCw1.out.lt;obtain ⟨l_B, xB_0, xB_1, xB_2, xB_3, xB_4, yB_0, yB_1, yB_2, yB_3, yB_4⟩ := cf5 Rw1_B.out
 go_wp2_with fail
 refine qrc ?_;rintro w21 ⟨Kw21, cw21_Kd⟩;have ⟨n_c_Kd, n_Kd_c⟩ := zne l_c;have ⟨n_mf_Kd, n_Kd_mf⟩ := zne l_mf;have ⟨n_ms_Kd, n_Kd_ms⟩ := zne l_ms;have ⟨n_mn_Kd, n_Kd_mn⟩ := zne l_mn;have ⟨n_B_Kd, n_Kd_B⟩ := zne l_B;have o_Kd : w.heap.size ≤ w1.heap.size := HSw1.out.size;have off_Kd : Off K T (w1.heap.size) := off_new HCw1.out (Nat.le_refl _);have o0_Kd : K.w0.heap.size ≤ w1.heap.size := Nat.le_trans HCw1.out.keep.size (Nat.le_refl _);have Rw21_B := zh (Kw21.at Rw1_B.out jg);have HCw21 := zh (HCw1.out.kp0 Kw21);have HSw21 := zh (HSw1.out.loc Kw21 jg);have Rw21_Kd := zh cw21_Kd;clear Kw21 cw21_Kd l_c l_B xB_0 xB_1 xB_2 xB_3 xB_4 yB_0 yB_1 yB_2 yB_3 yB_4 l_mf l_ms l_mn Rw1_B HCw1 HSw1;refine (fault_any hK HCw21.out kk.re kk.im 31).mono ?_;rintro r e22 ⟨T22, ua22, uc22, rfl, hc, hs⟩;have off2_B := hs.off (h_lt Rw21_B.out) off_B;have Re22_B := zh (hs.at Rw21_B.out off_B);have off2_Kd := hs.off (h_lt Rw21_Kd.out) off_Kd;have Re22_Kd := zh (hs.at Rw21_Kd.out off_Kd);have off_B' := off2_B;have off_Kd' := off2_Kd;have HCe22 := zh hc;have HSe22 := zh (HSw21.out.trans hs);clear Rw21_B off_B Rw21_Kd off_Kd HCw21 HSw21 hc hs;have off_B := off_B';clear off_B' off2_B;have off_Kd := off_Kd';clear off_Kd' off2_Kd;obtain ⟨l_c, l_mf, l_ms, l_mn⟩ := HCe22.out.lt;have l_B := h_lt Re22_B.out;have l_Kd := h_lt Re22_Kd.out
 go_wp2_with fail
 go_meet
 case rel => exact zsc) : p := h
theorem zed {p : Prop} (h : p := by
 obtain ⟨T1, ua1, uc1, hc, hs, hB, off_B⟩ := hcut;generalize wc = wl at *
 have HCl := zh hc; have HSl := zh hs; have RBl := zh hB;clear hc hs hB hpre HNR HCw1 HSw1 Rw1_B;obtain ⟨l_c, l_mf, l_ms, l_mn⟩ := HCl.out.lt;obtain ⟨l_B, xB_0, xB_1, xB_2, xB_3, xB_4, yB_0, yB_1, yB_2, yB_3, yB_4⟩ := cf5 RBl.out
 go_wp2_with fail
 clear l_c l_B xB_0 xB_1 xB_2 xB_3 xB_4 yB_0 yB_1 yB_2 yB_3 yB_4 l_mf l_ms l_mn
 go_loopg [144] (kids.length + 1) (fun g j wr => KidLoop K rec kids st' T w (w.heap.size) (.cells #[.int .i64 kd, .string tx, .float .f64 fm, .slice na kids.length nc, .complex .f64 re im] 50 (0, 0)) g j wr)
 case atStart => exact zwc
 obtain ⟨k, rfl, hk1, hk2, st2, T2, ua2, uc2, hcf, hc, hs, hB, off_B⟩ := hrel;have HCr := zh hc; have HSr := zh hs; have RB := zh hB;clear hc hs hB
 by_cases hlt : k < kids.length
 ·obtain ⟨g3, o3, fm3, na3, nc3, hna, kc0, kc1, kc2, kc3, kc4, hkn⟩ := CK.kid HCr.out HKD.out hlt;subst hna;have lg3 : g3 < wr.heap.size := lt_cell kc0;rw [List.drop_eq_getElem_cons hlt, kidsF] at hcf;generalize kids[k] = kk at *
  simp only [Option.bind_eq_bind, Option.bind_eq_some_iff] at hcf;obtain ⟨s3, hr, hcf⟩ := hcf
  cases gk with
  | zero => omega
  | succ f =>
   exact zad
 have hke : k = kids.length := by omega
 subst hke;rw [List.drop_length, kidsF] at hcf;obtain rfl : st2 = st' := by simpa using hcf
 clear hcf;obtain ⟨l_c, l_mf, l_ms, l_mn⟩ := HCr.out.lt;have l_B := h_lt RB.out
 go_wp2_with fail
 refine end_at (v := .tuple #[]) (fun W => Keeps [] wr W) zg (fun w51 hW => ?_) rfl (fun w51 hW => ?_)
 ·have Kw51 : Keeps [] wr w51 := hW;exact jnb
 have Kw51 : Keeps [] wr w51 := hW;have Rw51_B := zh (Kw51.at RB.out jg);have HCw51 := zh (HCr.out.kp0 Kw51);have HSw51 := zh (HSr.out.loc Kw51 jg);clear Kw51 l_c l_B l_mf l_ms l_mn RB HCr HSr;exact jpc) : p := h
theorem qdd {p : Prop} (h : p := by
 intro w2 hs2;have x0 := cell_of_heap hs2.row 0;have x1 := cell_of_heap hs2.row 1;have x2 := cell_of_heap hs2.row 2;have x3 := cell_of_heap hs2.row 3;have x4 := cell_of_heap hs2.row 4;simp at x0 x1 x2 x3 x4;have hsz2 := HK1.out.size;have HTR2 := zh hs2.row;have hst2 : Keeps [] w1 w2 := (Keeps.alloc [] w1 (tokC 0 ⟨#[]⟩ 0 0 0)).trans hs2.keeps jg;have HST2 := zh hst2;have HK2 := zh (HK1.out.trans hst2 jg);clear hs2 hst2;have HP2 := zh (HP1.out.keep HST2.out);have c0 := cell_of_heap HP2.out.row 0;have f0 := frozen_of_heap HP2.out.row 0;have c1 := cell_of_heap HP2.out.row 1;have f1 := frozen_of_heap HP2.out.row 1;have c2 := cell_of_heap HP2.out.row 2;have f2 := frozen_of_heap HP2.out.row 2;have c3 := cell_of_heap HP2.out.row 3;have f3 := frozen_of_heap HP2.out.row 3;have c4 := cell_of_heap HP2.out.row 4;have f4 := frozen_of_heap HP2.out.row 4;have c5 := cell_of_heap HP2.out.row 5;have f5 := frozen_of_heap HP2.out.row 5;simp at c0 c1 c2 c3 c4 c5;have hlt := h_lt HP2.out.row
 go_wp2_with fail
 exact zkb) : p := h
theorem jdd {p : Prop} (h : p := by
 rintro r e2 ⟨T2, ua2, uc2, rfl, hc, hs⟩;have off2_B := hs.off (h_lt Rw1_B.out) off_B;have Re2_B := zh (hs.at Rw1_B.out off_B);have off_B' := off2_B;have HCe2 := zh hc;have HSe2 := zh (HSw1.out.trans hs);clear Rw1_B off_B HCw1 HSw1 hc hs;have off_B := off_B';clear off_B' off2_B;obtain ⟨l_c, l_mf, l_ms, l_mn⟩ := HCe2.out.lt;have l_B := h_lt Re2_B.out
 go_wp2_with fail
 refine ret_at (v := .tuple #[]) (fun W => Keeps [] e2 W) zg (fun w3 hW => ?_) rfl (fun w3 hW => ?_)
 ·have Kw3 : Keeps [] e2 w3 := hW;exact jnb
 have Kw3 : Keeps [] e2 w3 := hW;have Rw3_B := zh (Kw3.at Re2_B.out jg);have HCw3 := zh (HCe2.out.kp0 Kw3);have HSw3 := zh (HSe2.out.loc Kw3 jg);clear Kw3 l_c l_B l_mf l_ms l_mn Re2_B HCe2 HSe2;exact qjc) : p := h
theorem zdd {p : Prop} (h : p := by
 rintro w51 ⟨Kw51, cw51_U⟩;have ⟨n_c_U, n_U_c⟩ := zne l_c;have ⟨n_mf_U, n_U_mf⟩ := zne l_mf;have ⟨n_ms_U, n_U_ms⟩ := zne l_ms;have ⟨n_mn_U, n_U_mn⟩ := zne l_mn;have o_U : w.heap.size ≤ wr.heap.size := HSr.out.size;have off_U : Off K T (wr.heap.size) := off_new HCr.out (Nat.le_refl _);have o0_U : K.w0.heap.size ≤ wr.heap.size := Nat.le_trans HCr.out.keep.size (Nat.le_refl _);have HCw51 := zh (HCr.out.kp0 Kw51);have HSw51 := zh (HSr.out.loc Kw51 jg);have HKkbw51 := zh (HKBr.out.keep Kw51 jg);have Rw51_U := zh cw51_U;clear Kw51 cw51_U l_c l_mf l_ms l_mn l_kb HCr HSr HKBr;have l_kb := HKkbw51.out.lt;obtain ⟨l_c, l_mf, l_ms, l_mn⟩ := HCw51.out.lt;obtain ⟨l_U, xU_0, xU_1, xU_2, xU_3, xU_4, xU_5, xU_6, xU_7, yU_0, yU_1, yU_2, yU_3, yU_4, yU_5, yU_6, yU_7⟩ := cf8 Rw51_U.out;have HRF := zh (root_at HCw51.out HRT.out)
 go_cut [16] (fun s0 W => s0 = .bool false ∧ Keeps [] w51 W)
 case first =>
  go_region_law (refine step_at (fun W => Keeps [] w51 W) zg ?_; rintro wq hq; refine step_callG (f := 45) (vals := #[.pointer (some ⟨K.c, 0, none⟩), .agg #[.int .i64 u.of.1, .string u.of.2]]) jt _ rfl jh (HRF.out _ hq) ?_; rintro v u_ ⟨rfl, hk0⟩; have hku := hq.trans hk0 jg; have r_U := hku.at Rw51_U.out jg; have lr_U := h_lt r_U; have z0 := cell_of_heap r_U 0; have z1 := cell_of_heap r_U 1; have z2 := cell_of_heap r_U 2; have z3 := cell_of_heap r_U 3; have z4 := cell_of_heap r_U 4; have z5 := cell_of_heap r_U 5; have z6 := cell_of_heap r_U 6; have z7 := cell_of_heap r_U 7; simp at z0 z1 z2 z3 z4 z5 z6 z7; have hlk3 := (HKkbw51.out.keep hku jg).look r (n := kn) HKN.out)
  all_goals
   go_wp2_with fail
   go_meet
   case rel => exact joc
 obtain ⟨rfl, hk⟩ := hcut;generalize wc = w52 at *
 have Rw52_U := zh (hk.at Rw51_U.out jg);have HCw52 := zh (HCw51.out.kp0 hk);have HSw52 := zh (HSw51.out.loc hk jg);have HKkbw52 := zh (HKkbw51.out.keep hk jg);clear hk HRF Rw51_U HCw51 HSw51 HKkbw51 l_c l_U xU_0 xU_1 xU_2 xU_3 xU_4 xU_5 xU_6 xU_7 yU_0 yU_1 yU_2 yU_3 yU_4 yU_5 yU_6 yU_7 l_mf l_ms l_mn l_kb;have l_kb := HKkbw52.out.lt;obtain ⟨l_c, l_mf, l_ms, l_mn⟩ := HCw52.out.lt;have l_U := h_lt Rw52_U.out
 go_wp2_with fail
 go_roundg f
 case measure => omega
 exact qoc) : p := h
theorem qcd {p : Prop} (h : p := by
 rintro w51 ⟨Kw51, cw51_Kd⟩;have ⟨n_c_Kd, n_Kd_c⟩ := zne l_c;have ⟨n_mf_Kd, n_Kd_mf⟩ := zne l_mf;have ⟨n_ms_Kd, n_Kd_ms⟩ := zne l_ms;have ⟨n_mn_Kd, n_Kd_mn⟩ := zne l_mn;have ⟨n_B_Kd, n_Kd_B⟩ := zne l_B;have o_Kd : w.heap.size ≤ wr.heap.size := HSr.out.size;have off_Kd : Off K T2 (wr.heap.size) := off_new HCr.out (Nat.le_refl _);have o0_Kd : K.w0.heap.size ≤ wr.heap.size := Nat.le_trans HCr.out.keep.size (Nat.le_refl _);have Rw51_B := zh (Kw51.at RB.out jg);have HCw51 := zh (HCr.out.kp0 Kw51);have HSw51 := zh (HSr.out.loc Kw51 jg);have Rw51_Kd := zh cw51_Kd;clear Kw51 cw51_Kd l_c l_B xB_0 xB_1 xB_2 xB_3 xB_4 yB_0 yB_1 yB_2 yB_3 yB_4 l_mf l_ms l_mn RB HCr HSr;refine (fault_any hK HCw51.out kk.re kk.im 32).mono ?_;rintro r e52 ⟨T52, ua52, uc52, rfl, hc, hs⟩;have off2_B := hs.off (h_lt Rw51_B.out) off_B;have Re52_B := zh (hs.at Rw51_B.out off_B);have off2_Kd := hs.off (h_lt Rw51_Kd.out) off_Kd;have Re52_Kd := zh (hs.at Rw51_Kd.out off_Kd);have off_B' := off2_B;have off_Kd' := off2_Kd;have HCe52 := zh hc;have HSe52 := zh (HSw51.out.trans hs);clear Rw51_B off_B Rw51_Kd off_Kd HCw51 HSw51 hc hs;have off_B := off_B';clear off_B' off2_B;have off_Kd := off_Kd';clear off_Kd' off2_Kd;obtain ⟨l_c, l_mf, l_ms, l_mn⟩ := HCe52.out.lt;have l_B := h_lt Re52_B.out;obtain ⟨l_Kd, xKd_0, xKd_1, xKd_2, xKd_3, xKd_4, yKd_0, yKd_1, yKd_2, yKd_3, yKd_4⟩ := cf5 Re52_Kd.out
 go_wp2_with fail
 clear l_c l_B l_Kd xKd_0 xKd_1 xKd_2 xKd_3 xKd_4 yKd_0 yKd_1 yKd_2 yKd_3 yKd_4 l_mf l_ms l_mn;refine (HREC.out _ _ _ _ hr hkn _ _ _ _ HCe52.out).mono ?_;rintro r e53 ⟨T53, ua53, uc53, rfl, hc, hs⟩;have off2_B := hs.off (h_lt Re52_B.out) off_B;have Re53_B := zh (hs.at Re52_B.out off_B);have off2_Kd := hs.off (h_lt Re52_Kd.out) off_Kd;have Re53_Kd := zh (hs.at Re52_Kd.out off_Kd);have off_B' := off2_B;have off_Kd' := off2_Kd;have HCe53 := zh hc;have HSe53 := zh (HSe52.out.trans hs);clear Re52_B off_B Re52_Kd off_Kd HCe52 HSe52 hc hs;have off_B := off_B';clear off_B' off2_B;have off_Kd := off_Kd';clear off_Kd' off2_Kd;obtain ⟨l_c, l_mf, l_ms, l_mn⟩ := HCe53.out.lt;have l_B := h_lt Re53_B.out;have l_Kd := h_lt Re53_Kd.out
 go_wp2_with fail
 go_roundg f
 case measure => omega
 exact zvc) : p := h
theorem jcd {p : Prop} (h : p := by
 go_wp2_with fail
 refine zlb ?_;rintro r w1 ⟨v, rfl, hn', hp1, hk1⟩;have hn : NodeR w1 (fun g => w.heap.size < g) n v := hn'.keep (Keeps.refl [] w1) jg (fun x hx => by have h2 := hx; simp at h2; omega);clear hn';have hq1 := hk1.at (h_new w (nodC 0 ⟨#[]⟩ 0 (.slice none 0 0) 0 0)) qi;have hkw : Keeps [p] w w1 := (Keeps.alloc [p] w _).trans hk1 (fun _ h => .inl h);have hsz : w.heap.size < w1.heap.size := by have := hk1.size; simp at this; omega
 have h14 := hp1.p;obtain ⟨tx, nm, a, l, cap, re, im, rfl, -, -⟩ := hn.shape;generalize hkd : n.kind = kd at *
 have hka := Keeps.alloc [] w1 (nodC kd tx nm (.slice a l cap) re im);have HN1 := zh (hn.keep0 hka); have HP1 := zh (hp1.keep hka); have HK1 := zh (hkw.trans hka jg);have HQ1 := zh (hka.at hq1 jg); have HB1 := zh (h_new w1 (nodC kd tx nm (.slice a l cap) re im));clear hn hp1 hkw hk1 hq1 hka
 go_wp2_with fail
 generalize w1.alloc (nodC kd tx nm (.slice a l cap) re im) = w2 at *
 have hb2 : w1.heap.size < w2.heap.size := h_lt HB1.out;have y0 := cell_of_heap HB1.out 0;have y1 := cell_of_heap HB1.out 1;have y2 := cell_of_heap HB1.out 2;have y3 := cell_of_heap HB1.out 3;have y4 := cell_of_heap HB1.out 4;simp at y0 y1 y2 y3 y4;refine (ok_any HP1.out).mono ?_;rintro r w' ⟨rfl, hw'⟩;rw [hw'];clear hw'
 go_wp2_with fail
 refine (lvalue_any HN1.out).mono ?_;rintro r w4 ⟨rfl, hk4⟩;rw [HL.out];have HN4 := zh (HN1.out.keep0 hk4); have HP4 := zh (HP1.out.keep hk4); have HK4 := zh (HK1.out.trans hk4 jg);have HQ4 := zh (hk4.at HQ1.out jg); have HB4 := zh (hk4.at HB1.out jg);clear hk4 y0 y1 y2 y3 y4;have hq3 := HQ4.out;have hb3 := HB4.out;have hl3 : w.heap.size < w4.heap.size := h_lt hq3;have hl4 : w1.heap.size < w4.heap.size := h_lt hb3;have x0 := cell_of_heap hb3 0;have x1 := cell_of_heap hb3 1;have x2 := cell_of_heap hb3 2;have x3 := cell_of_heap hb3 3;have x4 := cell_of_heap hb3 4;simp at x0 x1 x2 x3 x4;have q0 := cell_of_heap hq3 0;have qf0 := frozen_of_heap hq3 0;have q1 := cell_of_heap hq3 1;have qf1 := frozen_of_heap hq3 1;have q2 := cell_of_heap hq3 2;have qf2 := frozen_of_heap hq3 2;have q3 := cell_of_heap hq3 3;have qf3 := frozen_of_heap hq3 3;have q4 := cell_of_heap hq3 4;have qf4 := frozen_of_heap hq3 4;simp at q0 q1 q2 q3 q4;have n5 : w.heap.size ≠ w1.heap.size := Nat.ne_of_lt hsz;have n6 : w1.heap.size ≠ w.heap.size := Nat.ne_of_gt hsz;clear hb3 hq3
 go_wp2_with fail
 have t5 := nod5 w4 w.heap.size kd tx nm (.slice a l cap) re im;refine bodyPost_ret (v := .agg #[.int .i64 kd, .string tx, .float .f64 nm, .slice a l cap, .complex .f64 re im]) qk rfl ⟨_, rfl, ?_, ?_, ?_⟩
 ·exact HN4.out.keep t5 jg (fun x hx => Nat.le_of_lt hx)
 ·exact HP4.out.keepN t5 qi qi
 exact HK4.out.trans t5 jg) : p := h
theorem zcd {p : Prop} (h : p := by
 rintro w51 ⟨Kw51, cw51_U⟩;have ⟨n_c_U, n_U_c⟩ := zne l_c;have ⟨n_mf_U, n_U_mf⟩ := zne l_mf;have ⟨n_ms_U, n_U_ms⟩ := zne l_ms;have ⟨n_mn_U, n_U_mn⟩ := zne l_mn;have o_U : w.heap.size ≤ wr.heap.size := HSr.out.size;have off_U : Off K T (wr.heap.size) := off_new HCr.out (Nat.le_refl _);have o0_U : K.w0.heap.size ≤ wr.heap.size := Nat.le_trans HCr.out.keep.size (Nat.le_refl _);have HCw51 := zh (HCr.out.kp0 Kw51);have HSw51 := zh (HSr.out.loc Kw51 jg);have HKkbw51 := zh (HKBr.out.keep Kw51 jg);have Rw51_U := zh cw51_U;clear Kw51 cw51_U l_c l_mf l_ms l_mn l_kb HCr HSr HKBr;have l_kb := HKkbw51.out.lt;obtain ⟨l_c, l_mf, l_ms, l_mn⟩ := HCw51.out.lt;obtain ⟨l_U, xU_0, xU_1, xU_2, xU_3, xU_4, xU_5, xU_6, xU_7, yU_0, yU_1, yU_2, yU_3, yU_4, yU_5, yU_6, yU_7⟩ := cf8 Rw51_U.out;have HRF := zh (root_at HCw51.out HRT.out)
 go_cut [16] (fun s0 W => s0 = .bool true ∧ Keeps [] w51 W)
 case first =>
  go_region_law (refine step_at (fun W => Keeps [] w51 W) zg ?_; rintro wq hq; refine step_callG (f := 45) (vals := #[.pointer (some ⟨K.c, 0, none⟩), .agg #[.int .i64 u.of.1, .string u.of.2]]) jt _ rfl jh (HRF.out _ hq) ?_; rintro v u_ ⟨rfl, hk0⟩; have hku := hq.trans hk0 jg; have r_U := hku.at Rw51_U.out jg; have lr_U := h_lt r_U; have z0 := cell_of_heap r_U 0; have z1 := cell_of_heap r_U 1; have z2 := cell_of_heap r_U 2; have z3 := cell_of_heap r_U 3; have z4 := cell_of_heap r_U 4; have z5 := cell_of_heap r_U 5; have z6 := cell_of_heap r_U 6; have z7 := cell_of_heap r_U 7; simp at z0 z1 z2 z3 z4 z5 z6 z7; have hlk3 := (HKkbw51.out.keep hku jg).look r (n := kn) HKN.out)
  all_goals
   go_wp2_with fail
   go_meet
   case rel => exact joc
 obtain ⟨rfl, hk⟩ := hcut;generalize wc = w52 at *
 have Rw52_U := zh (hk.at Rw51_U.out jg);have HCw52 := zh (HCw51.out.kp0 hk);have HSw52 := zh (HSw51.out.loc hk jg);have HKkbw52 := zh (HKkbw51.out.keep hk jg);clear hk HRF Rw51_U HCw51 HSw51 HKkbw51 l_c l_U xU_0 xU_1 xU_2 xU_3 xU_4 xU_5 xU_6 xU_7 yU_0 yU_1 yU_2 yU_3 yU_4 yU_5 yU_6 yU_7 l_mf l_ms l_mn l_kb;have l_kb := HKkbw52.out.lt;obtain ⟨l_c, l_mf, l_ms, l_mn⟩ := HCw52.out.lt;obtain ⟨l_U, xU_0, xU_1, xU_2, xU_3, xU_4, xU_5, xU_6, xU_7, yU_0, yU_1, yU_2, yU_3, yU_4, yU_5, yU_6, yU_7⟩ := cf8 Rw52_U.out
 go_wp2_with fail
 clear l_c l_U xU_0 xU_1 xU_2 xU_3 xU_4 xU_5 xU_6 xU_7 yU_0 yU_1 yU_2 yU_3 yU_4 yU_5 yU_6 yU_7 l_mf l_ms l_mn l_kb;refine (fault_same hK HCw52.out u.re u.im 30).mono ?_;rintro r e53 ⟨rfl, hc, hs⟩;have off2_U := hs.off (h_lt Rw52_U.out) off_U;have Re53_U := zh (hs.at Rw52_U.out off_U);have off_U' := off2_U;have HCe53 := zh hc;have HSe53 := zh (HSw52.out.trans hs);have HKkbe53 := zh (HKkbw52.out.step hs off_kb);clear Rw52_U off_U HCw52 HSw52 hc hs HKkbw52;have off_U := off_U';clear off_U' off2_U;have l_kb := HKkbe53.out.lt;obtain ⟨l_c, l_mf, l_ms, l_mn⟩ := HCe53.out.lt;have l_U := h_lt Re53_U.out
 go_wp2_with fail
 go_roundg f
 case measure => omega
 exact qnc) : p := h
theorem qbd {p : Prop} (h : p := by
 go_wp2_with fail
 refine zlb ?_;rintro r w1 ⟨v, rfl, hn', hp1, hk1⟩;have hn : NodeR w1 (fun g => w.heap.size < g) n v := hn'.keep (Keeps.refl [] w1) jg (fun x hx => by have h2 := hx; simp at h2; omega);clear hn';have hq1 := hk1.at (h_new w (nodC 0 ⟨#[]⟩ 0 (.slice none 0 0) 0 0)) qi;have hkw : Keeps [p] w w1 := (Keeps.alloc [p] w _).trans hk1 (fun _ h => .inl h);have hsz : w.heap.size < w1.heap.size := by have := hk1.size; simp at this; omega
 have h14 := hp1.p;obtain ⟨tx, nm, a, l, cap, re, im, rfl, -, -⟩ := hn.shape;generalize hkd : n.kind = kd at *
 have hka := Keeps.alloc [] w1 (nodC kd tx nm (.slice a l cap) re im);have HN1 := zh (hn.keep0 hka); have HP1 := zh (hp1.keep hka); have HK1 := zh (hkw.trans hka jg);have HQ1 := zh (hka.at hq1 jg); have HB1 := zh (h_new w1 (nodC kd tx nm (.slice a l cap) re im));clear hn hp1 hkw hk1 hq1 hka
 go_wp2_with fail
 generalize w1.alloc (nodC kd tx nm (.slice a l cap) re im) = w2 at *
 have hb2 : w1.heap.size < w2.heap.size := h_lt HB1.out;have y0 := cell_of_heap HB1.out 0;have y1 := cell_of_heap HB1.out 1;have y2 := cell_of_heap HB1.out 2;have y3 := cell_of_heap HB1.out 3;have y4 := cell_of_heap HB1.out 4;simp at y0 y1 y2 y3 y4;refine (ok_any HP1.out).mono ?_;rintro r w' ⟨rfl, hw'⟩;rw [hw'];clear hw'
 go_wp2_with fail
 refine (lvalue_any HN1.out).mono ?_;rintro r w4 ⟨rfl, hk4⟩;rw [HL.out];have HN4 := zh (HN1.out.keep0 hk4); have HP4 := zh (HP1.out.keep hk4); have HK4 := zh (HK1.out.trans hk4 jg);have HQ4 := zh (hk4.at HQ1.out jg); have HB4 := zh (hk4.at HB1.out jg);clear hk4 y0 y1 y2 y3 y4
 go_wp2_with fail
 refine (one_none HP4.out HO.out zi).mono ?_;rintro r w5 ⟨rfl, hk5⟩;have HN5 := zh (HN4.out.keep0 hk5); have HP5 := zh (HP4.out.keep hk5); have HK5 := zh (HK4.out.trans hk5 jg);have HQ5 := zh (hk5.at HQ4.out jg); have HB5 := zh (hk5.at HB4.out jg);clear hk5;have hq3 := HQ5.out;have hb3 := HB5.out;have hl3 : w.heap.size < w5.heap.size := h_lt hq3;have hl4 : w1.heap.size < w5.heap.size := h_lt hb3;have x0 := cell_of_heap hb3 0;have x1 := cell_of_heap hb3 1;have x2 := cell_of_heap hb3 2;have x3 := cell_of_heap hb3 3;have x4 := cell_of_heap hb3 4;simp at x0 x1 x2 x3 x4;have q0 := cell_of_heap hq3 0;have qf0 := frozen_of_heap hq3 0;have q1 := cell_of_heap hq3 1;have qf1 := frozen_of_heap hq3 1;have q2 := cell_of_heap hq3 2;have qf2 := frozen_of_heap hq3 2;have q3 := cell_of_heap hq3 3;have qf3 := frozen_of_heap hq3 3;have q4 := cell_of_heap hq3 4;have qf4 := frozen_of_heap hq3 4;simp at q0 q1 q2 q3 q4;have n5 : w.heap.size ≠ w1.heap.size := Nat.ne_of_lt hsz;have n6 : w1.heap.size ≠ w.heap.size := Nat.ne_of_gt hsz;clear hb3 hq3
 go_wp2_with fail
 have t5 := nod5 w5 w.heap.size kd tx nm (.slice a l cap) re im;refine bodyPost_ret (v := .agg #[.int .i64 kd, .string tx, .float .f64 nm, .slice a l cap, .complex .f64 re im]) qk rfl ⟨_, rfl, ?_, ?_, ?_⟩
 ·exact HN5.out.keep t5 jg (fun x hx => Nat.le_of_lt hx)
 ·exact HP5.out.keepN t5 qi qi
 exact HK5.out.trans t5 jg) : p := h
theorem jbd {p : Prop} (h : p := by
 go_wp2_with fail
 refine zlb ?_;rintro r w1 ⟨v, rfl, hn', hp1, hk1⟩;have hn : NodeR w1 (fun g => w.heap.size < g) n v := hn'.keep (Keeps.refl [] w1) jg (fun x hx => by have h2 := hx; simp at h2; omega);clear hn';have hq1 := hk1.at (h_new w (nodC 0 ⟨#[]⟩ 0 (.slice none 0 0) 0 0)) qi;have hkw : Keeps [p] w w1 := (Keeps.alloc [p] w _).trans hk1 (fun _ h => .inl h);have hsz : w.heap.size < w1.heap.size := by have := hk1.size; simp at this; omega
 have h14 := hp1.p;obtain ⟨tx, nm, a, l, cap, re, im, rfl, -, -⟩ := hn.shape;generalize hkd : n.kind = kd at *
 have hka := Keeps.alloc [] w1 (nodC kd tx nm (.slice a l cap) re im);have HN1 := zh (hn.keep0 hka); have HP1 := zh (hp1.keep hka); have HK1 := zh (hkw.trans hka jg);have HQ1 := zh (hka.at hq1 jg); have HB1 := zh (h_new w1 (nodC kd tx nm (.slice a l cap) re im));clear hn hp1 hkw hk1 hq1 hka
 go_wp2_with fail
 refine wp_loop_rounds 1 ?_;rw [rounds_succ]
 go_wp2_with fail
 generalize w1.alloc (nodC kd tx nm (.slice a l cap) re im) = w2 at *
 refine jlb ?_;exact zzc) : p := h
theorem zbd {p : Prop} (h : p := by
 have HSA := zh hsa; have HG := zh hG;clear hsa hG;have n10 : (c == 10) = false := beq_false_of_ne h10;have n34 : (c == 34) = false := beq_false_of_ne h34;have hale : a ≤ s.size := by omega
 have n47 : (c == 47) = false := beq_false_of_ne h47;clear h47;have hna := fun W => numeral_any hnu hale qg W
 obtain ⟨xp, x2⟩ := signF_pos hsg h3;have hxn := ne_nil xp;have hxl : x.toList = x.data.toList := ByteArray.toList_eq x
 have hx4 : ¬ x.toList = [] := by
  intro h;rw [hxl] at h;have : x.data.toList.length = x.size := rfl;rw [h] at this;simp at this
  omega
 have hx2 : (x.toList == []) = false := by simpa using hx4
 have hx3 : x.toList.isEmpty = false := by simpa using hx4
 clear hxl
 have hsa2 : ∀ W, Calls Tryz.prog 101 #[.string s, .int .i64 a] W fun e w' => e = .returned (.string x) ∧ w' = W := by
  intro W;have := sign_any h3 qg W;rw [hz, hsg] at this;exact this
 have HSG := zh hsa2; have HNU := zh hna;clear hsa2 hsg hna hnu;clear h10 h34
 go_enter Tryz.func62, Tryz.ntmps62
 go_wp2_with fail
 refine (HSA.out _).mono ?_;rintro r w1 ⟨rfl, rfl⟩
 go_wp2_with ((with_reducible show wpList _ _ _ (Oper.mk none (.store 90 _ _) _ _ _ _ :: _) _ _); refine stT 90 (w.heap.size + 1) 0 _ (show _ = some (tokC 0 ⟨#[]⟩ 0 0 0) from ql) rfl (.agg #[.int .i64 0, .string ⟨#[]⟩, .float .f64 0, .int .i64 a, .int .i64 a]) rfl jh zj qh ?_)
 intro w2 hs2;have hr2 := hs2.row;have hz2 := hs2.size;simp at hr2 hz2;have hk2 : Keeps [] w w2 := ((Keeps.alloc [] w (tokC 0 ⟨#[]⟩ 0 0 0)).trans (Keeps.alloc [] _ (tokC 0 ⟨#[]⟩ 0 0 0)) jg).trans hs2.keeps jg;have hq2 := hs2.at (h_alloc (o := tokC 0 ⟨#[]⟩ 0 0 0) (h_new w (tokC 0 ⟨#[]⟩ 0 0 0))) qg;have HR2 := zh hr2; have HK2 := zh hk2; have HQ2 := zh hq2;clear hs2 hr2 hk2 hq2
 go_wp2_with ((with_reducible show wpList _ _ _ (Oper.mk none (.store 90 _ _) _ _ _ _ :: _) _ _); refine stT 90 (w.heap.size + 2) 0 _ (show _ = some (tokC 0 ⟨#[]⟩ 0 0 0) from zn) qt (.agg #[.int .i64 0, .string ⟨#[]⟩, .float .f64 0, .int .i64 a, .int .i64 0]) rfl jh zj qh ?_)
 intro w3 hs3;have hq3 := hs3.at (h_alloc (o := tokC 0 ⟨#[]⟩ 0 0 0) HQ2.out) qg;have hr3 := hs3.at (h_alloc (o := tokC 0 ⟨#[]⟩ 0 0 0) HR2.out) qg;have hk3 : Keeps [] w w3 := (HK2.out.trans (Keeps.alloc [] w2 (tokC 0 ⟨#[]⟩ 0 0 0)) jg).trans hs3.keeps jg;clear hs3 hz2 HR2 HK2 HQ2;have HG3 := zh (HG.out.keep hk3 jg);have HQ3 := zh hq3; have HR3 := zh hr3; have HK3 := zh hk3;clear hq3 hr3 hk3 HSA HG;generalize hRR : w.heap.size = R at *
 have HRW : Hid (w.heap.size = R) := zh hRR;clear hRR
 go_wp2_with fail
 refine (letter_any c _).mono ?_;rintro r w' ⟨rfl, hw'⟩;rw [hw'];clear hw';rw [hl]
 go_wp2_with fail
 refine (HNU.out _).mono ?_;rintro r w' ⟨rfl, hw'⟩;rw [hw'];clear hw'
 go_wp2_with fail
 refine (HSG.out _).mono ?_;rintro r w' ⟨rfl, hw'⟩;rw [hw'];clear hw'
 go_wp2_with ((with_reducible show wpList _ _ _ (Oper.mk none (.store 90 _ _) _ _ _ _ :: _) _ _); refine stT 90 R 0 _ HQ3.out rfl (.agg #[.int .i64 9, .string x, .float .f64 0, .int .i64 a, .int .i64 ((a : Int) + x.size)]) rfl jh zj qh ?_)
 intro w9 hs9;have x0 := cell_of_heap hs9.row 0;have x1 := cell_of_heap hs9.row 1;have x2 := cell_of_heap hs9.row 2;have x3 := cell_of_heap hs9.row 3;have x4 := cell_of_heap hs9.row 4;simp at x0 x1 x2 x3 x4;have hk9 : Keeps [] w w9 := Keeps.trans HK3.out hs9.keeps zl;clear hs9
 go_wp2_with fail
 exact zib) : p := h
theorem qad {p : Prop} (h : p := by
 obtain ⟨l_c, xc_0, xc_1, xc_2, xc_3, xc_4, xc_5, xc_6, xc_7, xc_8, xc_9, xc_10, yc_0, yc_1, yc_2, yc_3, yc_4, yc_5, yc_6, yc_7, yc_8, yc_9, yc_10⟩ := cf11 HCw1.out.row;obtain ⟨-, l_mf, l_ms, l_mn⟩ := HCw1.out.lt;obtain ⟨l_B, xB_0, xB_1, xB_2, xB_3, xB_4, yB_0, yB_1, yB_2, yB_3, yB_4⟩ := cf5 Rw1_B.out
 go_wp2_with fail
 clear l_c xc_0 xc_1 xc_2 xc_3 xc_4 xc_5 xc_6 xc_7 xc_8 xc_9 xc_10 yc_0 yc_1 yc_2 yc_3 yc_4 yc_5 yc_6 yc_7 yc_8 yc_9 yc_10 l_B xB_0 xB_1 xB_2 xB_3 xB_4 yB_0 yB_1 yB_2 yB_3 yB_4 l_mf l_ms l_mn;refine jwc ?_;rintro r e21 ⟨T21, ua21, uc21, rfl, hc, hs⟩;have off2_B := hs.off (h_lt Rw1_B.out) off_B;have Re21_B := zh (hs.at Rw1_B.out off_B);have off_B' := off2_B;have HCe21 := zh hc;have HSe21 := zh (HSw1.out.trans hs);clear Rw1_B off_B HCw1 HSw1 hc hs;have off_B := off_B';clear off_B' off2_B;obtain ⟨l_c, l_mf, l_ms, l_mn⟩ := HCe21.out.lt;have l_B := h_lt Re21_B.out
 go_wp2_with fail
 go_meet
 case rel => exact qwc) : p := h
theorem zad {p : Prop} (h : p := by
 obtain ⟨l_c, l_mf, l_ms, l_mn⟩ := HCr.out.lt;obtain ⟨l_B, xB_0, xB_1, xB_2, xB_3, xB_4, yB_0, yB_1, yB_2, yB_3, yB_4⟩ := cf5 RB.out
 go_wp2_with fail
 refine qlc ?_;rintro w51 ⟨Kw51, cw51_Kd⟩;have ⟨n_c_Kd, n_Kd_c⟩ := zne l_c;have ⟨n_mf_Kd, n_Kd_mf⟩ := zne l_mf;have ⟨n_ms_Kd, n_Kd_ms⟩ := zne l_ms;have ⟨n_mn_Kd, n_Kd_mn⟩ := zne l_mn;have ⟨n_B_Kd, n_Kd_B⟩ := zne l_B;have o_Kd : w.heap.size ≤ wr.heap.size := HSr.out.size;have off_Kd : Off K T2 (wr.heap.size) := off_new HCr.out (Nat.le_refl _);have o0_Kd : K.w0.heap.size ≤ wr.heap.size := Nat.le_trans HCr.out.keep.size (Nat.le_refl _);have Rw51_B := zh (Kw51.at RB.out jg);have HCw51 := zh (HCr.out.kp0 Kw51);have HSw51 := zh (HSr.out.loc Kw51 jg);have Rw51_Kd := zh cw51_Kd;clear Kw51 cw51_Kd l_c l_B xB_0 xB_1 xB_2 xB_3 xB_4 yB_0 yB_1 yB_2 yB_3 yB_4 l_mf l_ms l_mn RB HCr HSr;refine jtc ?_;rintro r e52 ⟨T52, ua52, uc52, rfl, hc, hs⟩;have off2_B := hs.off (h_lt Rw51_B.out) off_B;have Re52_B := zh (hs.at Rw51_B.out off_B);have off2_Kd := hs.off (h_lt Rw51_Kd.out) off_Kd;have Re52_Kd := zh (hs.at Rw51_Kd.out off_Kd);have off_B' := off2_B;have off_Kd' := off2_Kd;have HCe52 := zh hc;have HSe52 := zh (HSw51.out.trans hs);clear Rw51_B off_B Rw51_Kd off_Kd HCw51 HSw51 hc hs;have off_B := off_B';clear off_B' off2_B;have off_Kd := off_Kd';clear off_Kd' off2_Kd;obtain ⟨l_c, l_mf, l_ms, l_mn⟩ := HCe52.out.lt;have l_B := h_lt Re52_B.out;have l_Kd := h_lt Re52_Kd.out
 go_wp2_with fail
 go_roundg f
 case measure => omega
 exact juc) : p := h
theorem qzc {p : Prop} (h : p := by
 rw [hx] at hi;obtain ⟨le1, le2, le3⟩ := nextF_le ht h.le;have hob := h.ob;have H := zh h; have HI := zh hi; have HT := zh ht;clear hi hx ht h;obtain ⟨kd, tx, nm, fr, te⟩ := t;obtain ⟨pos, opn, ng⟩ := st;simp only at le1 le2 le3 hob ho;obtain ⟨ob1, ob2⟩ := hob
 go_enter Tryz.func104, Tryz.ntmps104
 go_wp2_with fail
 refine HI.out.mono ?_;rintro r w0 ⟨rfl, hk0⟩;have HP0 := zh (H.out.keep hk0); have HK0 := zh hk0;have c1 := cell_of_heap HP0.out.row 1;have hlt := h_lt HP0.out.row;simp at c1;clear hk0
 go_wp2_with fail
 refine zjb ?_;rintro r w1 ⟨rfl, hk1⟩;have HP1 := zh (HP0.out.keep hk1);have HK1 := zh (HK0.out.trans hk1 jg);clear hk1 c1 hlt
 go_wp2_with ((with_reducible show wpList _ _ _ (Oper.mk none (.store 90 _ _) _ _ _ _ :: _) _ _); refine stT 90 w1.heap.size 0 _ (h_new _ _) rfl (.agg #[.int .i64 kd, .string tx, .float .f64 nm, .int .i64 fr, .int .i64 te]) rfl jh zj qh ?_)
 intro w2 hs2;have x0 := cell_of_heap hs2.row 0;have x1 := cell_of_heap hs2.row 1;have x2 := cell_of_heap hs2.row 2;have x3 := cell_of_heap hs2.row 3;have x4 := cell_of_heap hs2.row 4;simp at x0 x1 x2 x3 x4;have hsz2 := HK1.out.size;have HTR2 := zh hs2.row;have hst2 : Keeps [] w1 w2 := (Keeps.alloc [] w1 (tokC 0 ⟨#[]⟩ 0 0 0)).trans hs2.keeps jg;have HST2 := zh hst2;have HK2 := zh (HK1.out.trans hst2 jg);clear hs2 hst2;have HP2 := zh (HP1.out.keep HST2.out);have c0 := cell_of_heap HP2.out.row 0;have f0 := frozen_of_heap HP2.out.row 0;have c1 := cell_of_heap HP2.out.row 1;have f1 := frozen_of_heap HP2.out.row 1;have c2 := cell_of_heap HP2.out.row 2;have f2 := frozen_of_heap HP2.out.row 2;have c3 := cell_of_heap HP2.out.row 3;have f3 := frozen_of_heap HP2.out.row 3;have c4 := cell_of_heap HP2.out.row 4;have f4 := frozen_of_heap HP2.out.row 4;have c5 := cell_of_heap HP2.out.row 5;have f5 := frozen_of_heap HP2.out.row 5;simp at c0 c1 c2 c3 c4 c5;have hlt := h_lt HP2.out.row
 go_wp2_with fail
 go_ret
 have hrow : ((w2.setCell ⟨p, 1, none⟩ (.int .i64 te)).setCell ⟨p, 2, none⟩ (.int .i64 (opn - 1))).heap[p]? = some (parC s ⟨te, opn - 1, ng⟩) := by
  have := (h_set_eq (i := 2) (u := .int .i64 (opn - 1)) (h_set_eq (i := 1) (u := .int .i64 te) HP2.out.row))
  simpa using this
 have hkp : Keeps [p] w2 ((w2.setCell ⟨p, 1, none⟩ (.int .i64 te)).setCell ⟨p, 2, none⟩ (.int .i64 (opn - 1))) := (Keeps.trans (Keeps.trans (Keeps.refl [p] w2) (Keeps.setCell [p] _ _ _ jg) jg) (Keeps.setCell [p] _ _ _ jg) jg);exact jjb) : p := h
theorem jzc {p : Prop} (h : p := by
 rw [hx] at hi;obtain ⟨le1, le2, le3⟩ := nextF_le ht h.le;have hob := h.ob;have H := zh h; have HI := zh hi; have HT := zh ht;clear hi hx ht h;obtain ⟨kd, tx, nm, fr, te⟩ := t;obtain ⟨pos, opn, ng⟩ := st;simp only at le1 le2 le3 hob ho;obtain ⟨ob1, ob2⟩ := hob
 go_enter Tryz.func104, Tryz.ntmps104
 go_wp2_with fail
 refine HI.out.mono ?_;rintro r w0 ⟨rfl, hk0⟩;have HP0 := zh (H.out.keep hk0); have HK0 := zh hk0;have c1 := cell_of_heap HP0.out.row 1;have hlt := h_lt HP0.out.row;simp at c1;clear hk0
 go_wp2_with fail
 refine zjb ?_;rintro r w1 ⟨rfl, hk1⟩;have HP1 := zh (HP0.out.keep hk1);have HK1 := zh (HK0.out.trans hk1 jg);clear hk1 c1 hlt
 go_wp2_with ((with_reducible show wpList _ _ _ (Oper.mk none (.store 90 _ _) _ _ _ _ :: _) _ _); refine stT 90 w1.heap.size 0 _ (h_new _ _) rfl (.agg #[.int .i64 kd, .string tx, .float .f64 nm, .int .i64 fr, .int .i64 te]) rfl jh zj qh ?_)
 intro w2 hs2;have x0 := cell_of_heap hs2.row 0;have x1 := cell_of_heap hs2.row 1;have x2 := cell_of_heap hs2.row 2;have x3 := cell_of_heap hs2.row 3;have x4 := cell_of_heap hs2.row 4;simp at x0 x1 x2 x3 x4;have hsz2 := HK1.out.size;have HTR2 := zh hs2.row;have hst2 : Keeps [] w1 w2 := (Keeps.alloc [] w1 (tokC 0 ⟨#[]⟩ 0 0 0)).trans hs2.keeps jg;have HST2 := zh hst2;have HK2 := zh (HK1.out.trans hst2 jg);clear hs2 hst2;have HP2 := zh (HP1.out.keep HST2.out);have c0 := cell_of_heap HP2.out.row 0;have f0 := frozen_of_heap HP2.out.row 0;have c1 := cell_of_heap HP2.out.row 1;have f1 := frozen_of_heap HP2.out.row 1;have c2 := cell_of_heap HP2.out.row 2;have f2 := frozen_of_heap HP2.out.row 2;have c3 := cell_of_heap HP2.out.row 3;have f3 := frozen_of_heap HP2.out.row 3;have c4 := cell_of_heap HP2.out.row 4;have f4 := frozen_of_heap HP2.out.row 4;have c5 := cell_of_heap HP2.out.row 5;have f5 := frozen_of_heap HP2.out.row 5;simp at c0 c1 c2 c3 c4 c5;have hlt := h_lt HP2.out.row
 go_wp2_with fail
 go_ret
 have hrow : ((w2.setCell ⟨p, 1, none⟩ (.int .i64 te)).setCell ⟨p, 2, none⟩ (.int .i64 (opn + 1))).heap[p]? = some (parC s ⟨te, opn + 1, ng⟩) := by
  have := (h_set_eq (i := 2) (u := .int .i64 (opn + 1)) (h_set_eq (i := 1) (u := .int .i64 te) HP2.out.row))
  simpa using this
 have hkp : Keeps [p] w2 ((w2.setCell ⟨p, 1, none⟩ (.int .i64 te)).setCell ⟨p, 2, none⟩ (.int .i64 (opn + 1))) := (Keeps.trans (Keeps.trans (Keeps.refl [p] w2) (Keeps.setCell [p] _ _ _ jg) jg) (Keeps.setCell [p] _ _ _ jg) jg);exact jjb) : p := h
theorem zzc {p : Prop} (h : p := by
 rintro r w3 ⟨rfl, hk3⟩;have hb3 := hk3.at HB1.out jg;have hq3 := hk3.at HQ1.out jg;have HN3 := zh (HN1.out.keep0 hk3); have HP3 := zh (HP1.out.keep hk3); have HK3 := zh (HK1.out.trans hk3 jg);have hl3 : w.heap.size < w3.heap.size := h_lt hq3;have hl4 : w1.heap.size < w3.heap.size := h_lt hb3;have x0 := cell_of_heap hb3 0;have x1 := cell_of_heap hb3 1;have x2 := cell_of_heap hb3 2;have x3 := cell_of_heap hb3 3;have x4 := cell_of_heap hb3 4;have q0 := cell_of_heap hq3 0;have q1 := cell_of_heap hq3 1;have q2 := cell_of_heap hq3 2;have q3 := cell_of_heap hq3 3;have q4 := cell_of_heap hq3 4;have qf0 := frozen_of_heap hq3 0;have qf1 := frozen_of_heap hq3 1;have qf2 := frozen_of_heap hq3 2;have qf3 := frozen_of_heap hq3 3;have qf4 := frozen_of_heap hq3 4;simp at x0 x1 x2 x3 x4 q0 q1 q2 q3 q4;have n5 : w.heap.size ≠ w1.heap.size := Nat.ne_of_lt hsz;have n6 : w1.heap.size ≠ w.heap.size := Nat.ne_of_gt hsz;clear hk3 hb3 hq3
 go_wp2_with fail
 have t5 := nod5 w3 w.heap.size kd tx nm (.slice a l cap) re im;refine bodyPost_ret (v := .agg #[.int .i64 kd, .string tx, .float .f64 nm, .slice a l cap, .complex .f64 re im]) qk rfl ⟨_, rfl, ?_, ?_, ?_⟩
 ·exact qlb
 ·exact zmb
 exact jmb) : p := h
theorem qyc {p : Prop} (h : p := by
 have HSA := zh hsa; have HG := zh hG;clear hsa hG;have n10 : (c == 10) = false := beq_false_of_ne h10;have hale : a ≤ s.size := by omega
 have HE := zh hwe;clear hwe
 go_enter Tryz.func62, Tryz.ntmps62
 go_wp2_with fail
 refine (HSA.out _).mono ?_;rintro r w1 ⟨rfl, rfl⟩
 go_wp2_with ((with_reducible show wpList _ _ _ (Oper.mk none (.store 90 _ _) _ _ _ _ :: _) _ _); refine stT 90 (w.heap.size + 1) 0 _ (show _ = some (tokC 0 ⟨#[]⟩ 0 0 0) from ql) rfl (.agg #[.int .i64 0, .string ⟨#[]⟩, .float .f64 0, .int .i64 a, .int .i64 a]) rfl jh zj qh ?_)
 intro w2 hs2;have hr2 := hs2.row;have hz2 := hs2.size;simp at hr2 hz2;have hk2 : Keeps [] w w2 := ((Keeps.alloc [] w (tokC 0 ⟨#[]⟩ 0 0 0)).trans (Keeps.alloc [] _ (tokC 0 ⟨#[]⟩ 0 0 0)) jg).trans hs2.keeps jg;have hq2 := hs2.at (h_alloc (o := tokC 0 ⟨#[]⟩ 0 0 0) (h_new w (tokC 0 ⟨#[]⟩ 0 0 0))) qg;have HR2 := zh hr2; have HK2 := zh hk2; have HQ2 := zh hq2;clear hs2 hr2 hk2 hq2
 go_wp2_with ((with_reducible show wpList _ _ _ (Oper.mk none (.store 90 _ _) _ _ _ _ :: _) _ _); refine stT 90 (w.heap.size + 2) 0 _ (show _ = some (tokC 0 ⟨#[]⟩ 0 0 0) from zn) qt (.agg #[.int .i64 0, .string ⟨#[]⟩, .float .f64 0, .int .i64 a, .int .i64 0]) rfl jh zj qh ?_)
 intro w3 hs3;have hq3 := hs3.at (h_alloc (o := tokC 0 ⟨#[]⟩ 0 0 0) HQ2.out) qg;have hr3 := hs3.at (h_alloc (o := tokC 0 ⟨#[]⟩ 0 0 0) HR2.out) qg;have hk3 : Keeps [] w w3 := (HK2.out.trans (Keeps.alloc [] w2 (tokC 0 ⟨#[]⟩ 0 0 0)) jg).trans hs3.keeps jg;clear hs3 hz2 HR2 HK2 HQ2;have HG3 := zh (HG.out.keep hk3 jg);have HQ3 := zh hq3; have HR3 := zh hr3; have HK3 := zh hk3;clear hq3 hr3 hk3 HSA HG;generalize hRR : w.heap.size = R at *
 have HRW : Hid (w.heap.size = R) := zh hRR;clear hRR
 go_wp2_with fail
 refine (letter_any c _).mono ?_;rintro r w' ⟨rfl, hw'⟩;rw [hw'];clear hw';rw [hl]
 go_wp2_with fail
 go_loopg [] (s.size - a) (fun g wr => ∃ k f : Nat, a ≤ k ∧ k ≤ s.size ∧ g = s.size - k ∧ Hid (wordEndF s f k = some e) ∧ wr.heap[R + 1]? = some (tokC 0 ⟨#[]⟩ 0 a k) ∧ wr.heap[R]? = some (tokC 0 ⟨#[]⟩ 0 0 0) ∧ Keeps [] w wr)
 case atStart => exact zgb
 obtain ⟨k, f, hak, hks, rfl, HWE, hR, hQ, hK⟩ := hrel;have HR4 := zh hR; have HQ4 := zh hQ; have HK4 := zh hK;clear hR hQ hK;have d0 := cell_of_heap HR4.out 0;have df0 := frozen_of_heap HR4.out 0;have d1 := cell_of_heap HR4.out 1;have df1 := frozen_of_heap HR4.out 1;have d2 := cell_of_heap HR4.out 2;have df2 := frozen_of_heap HR4.out 2;have d3 := cell_of_heap HR4.out 3;have df3 := frozen_of_heap HR4.out 3;have d4 := cell_of_heap HR4.out 4;have df4 := frozen_of_heap HR4.out 4;simp at d0 d1 d2 d3 d4;have hwe := HWE.out;clear HWE
 cases f with
 | zero => simp [wordEndF] at hwe
 | succ f =>
  rw [wordEndF] at hwe
  by_cases h4 : k < s.size
  ·have hnz := nth_some h4;rw [hnz] at hwe;generalize hzk : ((s[k]'h4).toNat : Int) = z at *
   have HNZ := zh hnz;simp only at hwe;clear hnz
   cases hlz : letterF z
   ·cases hdz : digitF z
    ·rw [hlz, hdz] at hwe;simp only [Bool.or_self, Bool.false_eq_true, if_false, Option.some.injEq] at hwe;subst hwe
     go_wp2_with fail
     refine (letter_any z _).mono ?_;rintro r w' ⟨rfl, hw'⟩;rw [hw'];clear hw';rw [hlz]
     go_wp2_with fail
     refine (digit_any z _).mono ?_;rintro r w' ⟨rfl, hw'⟩;rw [hw'];clear hw';rw [hdz];have ht1 : a ≤ k := hak
     go_wp2_with fail
     have HR5 : Hid (((wr.setCell ⟨R + 1, 1, none⟩ (.string (s.extract a k))).setCell ⟨R + 1, 0, none⟩ (.int .i64 5)).heap[R + 1]? = some (tokC 5 (s.extract a k) 0 a k)) := zh qm;have HQ5 : Hid (((wr.setCell ⟨R + 1, 1, none⟩ (.string (s.extract a k))).setCell ⟨R + 1, 0, none⟩ (.int .i64 5)).heap[R]? = some (tokC 0 ⟨#[]⟩ 0 0 0)) := zh (h_set_ne jg (h_set_ne jg HQ4.out));have HK5 : Hid (Keeps [] w ((wr.setCell ⟨R + 1, 1, none⟩ (.string (s.extract a k))).setCell ⟨R + 1, 0, none⟩ (.int .i64 5))) := zh (Keeps.trans (Keeps.trans HK4.out (fp' := [R + 1]) (Keeps.setCell _ _ _ _ jg) zl) (fp' := [R + 1]) (Keeps.setCell _ _ _ _ jg) zl);generalize ((wr.setCell ⟨R + 1, 1, none⟩ (.string (s.extract a k))).setCell ⟨R + 1, 0, none⟩ (.int .i64 5)) = W5 at *
     have e0 := cell_of_heap HR5.out 0;have ef0 := frozen_of_heap HR5.out 0;have e1 := cell_of_heap HR5.out 1;have ef1 := frozen_of_heap HR5.out 1;have e2 := cell_of_heap HR5.out 2;have ef2 := frozen_of_heap HR5.out 2;have e3 := cell_of_heap HR5.out 3;have ef3 := frozen_of_heap HR5.out 3;have e4 := cell_of_heap HR5.out 4;have ef4 := frozen_of_heap HR5.out 4;simp at e0 e1 e2 e3 e4;refine (isWord_any _ _).mono ?_;rintro r w' ⟨rfl, hw'⟩;rw [hw'];clear hw'
     cases hW : isWord (s.extract a k)
     ·go_wp2_with fail
      refine (isBuilt_any _ _).mono ?_;rintro r w' ⟨rfl, hw'⟩;rw [hw'];clear hw'
      cases hB : isBuilt (s.extract a k)
      ·by_cases h40 : z = 40
       ·have HKD := zh (show kindF s (s.extract a k) k = 6 by simp [kindF, hW, hB, HNZ.out, h40]);subst h40;clear hW hB
        go_wp2_with ((with_reducible show wpList _ _ _ (Oper.mk none (.store 90 _ _) _ _ _ _ :: _) _ _); refine stT 90 R 0 _ (h_set_ne jg HQ5.out) rfl (.agg #[.int .i64 6, .string (s.extract a k), .float .f64 0, .int .i64 a, .int .i64 k]) rfl jh zj qh ?_)
        intro w9 hs9;have x0 := cell_of_heap hs9.row 0;have x1 := cell_of_heap hs9.row 1;have x2 := cell_of_heap hs9.row 2;have x3 := cell_of_heap hs9.row 3;have x4 := cell_of_heap hs9.row 4;simp at x0 x1 x2 x3 x4;have hk9 : Keeps [] w w9 := Keeps.trans (Keeps.trans HK5.out (fp' := [R + 1]) (Keeps.setCell _ _ _ _ jg) zl) hs9.keeps zl;clear hs9
        go_wp2_with fail
        exact jgb
       have HKD := zh (show kindF s (s.extract a k) k = 5 by simp [kindF, hW, hB, HNZ.out, h40]);have n40 : (z == 40) = false := beq_false_of_ne h40;clear hW hB h40
       go_wp2_with ((with_reducible show wpList _ _ _ (Oper.mk none (.store 90 _ _) _ _ _ _ :: _) _ _); refine stT 90 R 0 _ HQ5.out rfl (.agg #[.int .i64 5, .string (s.extract a k), .float .f64 0, .int .i64 a, .int .i64 k]) rfl jh zj qh ?_)
       intro w9 hs9;have x0 := cell_of_heap hs9.row 0;have x1 := cell_of_heap hs9.row 1;have x2 := cell_of_heap hs9.row 2;have x3 := cell_of_heap hs9.row 3;have x4 := cell_of_heap hs9.row 4;simp at x0 x1 x2 x3 x4;have hk9 : Keeps [] w w9 := Keeps.trans HK5.out hs9.keeps zl;clear hs9
       go_wp2_with fail
       exact qgb
      have HKD := zh (show kindF s (s.extract a k) k = 7 by simp [kindF, hW, hB]);clear hW hB
      go_wp2_with ((with_reducible show wpList _ _ _ (Oper.mk none (.store 90 _ _) _ _ _ _ :: _) _ _); refine stT 90 R 0 _ (h_set_ne jg HQ5.out) rfl (.agg #[.int .i64 7, .string (s.extract a k), .float .f64 0, .int .i64 a, .int .i64 k]) rfl jh zj qh ?_)
      intro w9 hs9;have x0 := cell_of_heap hs9.row 0;have x1 := cell_of_heap hs9.row 1;have x2 := cell_of_heap hs9.row 2;have x3 := cell_of_heap hs9.row 3;have x4 := cell_of_heap hs9.row 4;simp at x0 x1 x2 x3 x4;have hk9 : Keeps [] w w9 := Keeps.trans (Keeps.trans HK5.out (fp' := [R + 1]) (Keeps.setCell _ _ _ _ jg) zl) hs9.keeps zl;clear hs9
      go_wp2_with fail
      exact zhb
     have HKD := zh (show kindF s (s.extract a k) k = 8 by simp [kindF, hW]);clear hW
     go_wp2_with ((with_reducible show wpList _ _ _ (Oper.mk none (.store 90 _ _) _ _ _ _ :: _) _ _); refine stT 90 R 0 _ (h_set_ne jg HQ5.out) rfl (.agg #[.int .i64 8, .string (s.extract a k), .float .f64 0, .int .i64 a, .int .i64 k]) rfl jh zj qh ?_)
     intro w9 hs9;have x0 := cell_of_heap hs9.row 0;have x1 := cell_of_heap hs9.row 1;have x2 := cell_of_heap hs9.row 2;have x3 := cell_of_heap hs9.row 3;have x4 := cell_of_heap hs9.row 4;simp at x0 x1 x2 x3 x4;have hk9 : Keeps [] w w9 := Keeps.trans (Keeps.trans HK5.out (fp' := [R + 1]) (Keeps.setCell _ _ _ _ jg) zl) hs9.keeps zl;clear hs9
     go_wp2_with fail
     exact jhb
    rw [hlz, hdz] at hwe;simp only [Bool.or_true, if_true] at hwe;have HWE := zh hwe;clear hwe
    go_wp2_with fail
    refine (letter_any z _).mono ?_;rintro r w' ⟨rfl, hw'⟩;rw [hw'];clear hw';rw [hlz]
    go_wp2_with fail
    refine (digit_any z _).mono ?_;rintro r w' ⟨rfl, hw'⟩;rw [hw'];clear hw';rw [hdz]
    go_wp2_with fail
    go_roundg (s.size - (k + 1))
    case measure => omega
    case rel => exact qhb
   rw [hlz] at hwe;simp only [Bool.true_or, if_true] at hwe;have HWE := zh hwe;clear hwe
   go_wp2_with fail
   refine (letter_any z _).mono ?_;rintro r w' ⟨rfl, hw'⟩;rw [hw'];clear hw';rw [hlz]
   go_wp2_with fail
   go_roundg (s.size - (k + 1))
   case measure => omega
   case rel => exact qhb
  rw [nth_none qg] at hwe;simp only [Option.some.injEq] at hwe;subst hwe;have ht1 : a ≤ k := hak
  go_wp2_with fail
  have HR5 : Hid (((wr.setCell ⟨R + 1, 1, none⟩ (.string (s.extract a k))).setCell ⟨R + 1, 0, none⟩ (.int .i64 5)).heap[R + 1]? = some (tokC 5 (s.extract a k) 0 a k)) := zh qm;have HQ5 : Hid (((wr.setCell ⟨R + 1, 1, none⟩ (.string (s.extract a k))).setCell ⟨R + 1, 0, none⟩ (.int .i64 5)).heap[R]? = some (tokC 0 ⟨#[]⟩ 0 0 0)) := zh (h_set_ne jg (h_set_ne jg HQ4.out));have HK5 : Hid (Keeps [] w ((wr.setCell ⟨R + 1, 1, none⟩ (.string (s.extract a k))).setCell ⟨R + 1, 0, none⟩ (.int .i64 5))) := zh (Keeps.trans (Keeps.trans HK4.out (fp' := [R + 1]) (Keeps.setCell _ _ _ _ jg) zl) (fp' := [R + 1]) (Keeps.setCell _ _ _ _ jg) zl);generalize ((wr.setCell ⟨R + 1, 1, none⟩ (.string (s.extract a k))).setCell ⟨R + 1, 0, none⟩ (.int .i64 5)) = W5 at *
  have e0 := cell_of_heap HR5.out 0;have ef0 := frozen_of_heap HR5.out 0;have e1 := cell_of_heap HR5.out 1;have ef1 := frozen_of_heap HR5.out 1;have e2 := cell_of_heap HR5.out 2;have ef2 := frozen_of_heap HR5.out 2;have e3 := cell_of_heap HR5.out 3;have ef3 := frozen_of_heap HR5.out 3;have e4 := cell_of_heap HR5.out 4;have ef4 := frozen_of_heap HR5.out 4;simp at e0 e1 e2 e3 e4;refine (isWord_any _ _).mono ?_;rintro r w' ⟨rfl, hw'⟩;rw [hw'];clear hw'
  cases hW : isWord (s.extract a k)
  ·go_wp2_with fail
   refine (isBuilt_any _ _).mono ?_;rintro r w' ⟨rfl, hw'⟩;rw [hw'];clear hw'
   cases hB : isBuilt (s.extract a k)
   ·have HKD := zh (show kindF s (s.extract a k) k = 5 by simp [kindF, hW, hB, nth_none (Nat.le_of_not_lt h4)]);clear hW hB
    go_wp2_with ((with_reducible show wpList _ _ _ (Oper.mk none (.store 90 _ _) _ _ _ _ :: _) _ _); refine stT 90 R 0 _ HQ5.out rfl (.agg #[.int .i64 5, .string (s.extract a k), .float .f64 0, .int .i64 a, .int .i64 k]) rfl jh zj qh ?_)
    intro w9 hs9;have x0 := cell_of_heap hs9.row 0;have x1 := cell_of_heap hs9.row 1;have x2 := cell_of_heap hs9.row 2;have x3 := cell_of_heap hs9.row 3;have x4 := cell_of_heap hs9.row 4;simp at x0 x1 x2 x3 x4;have hk9 : Keeps [] w w9 := Keeps.trans HK5.out hs9.keeps zl;clear hs9
    go_wp2_with fail
    exact qgb
   have HKD := zh (show kindF s (s.extract a k) k = 7 by simp [kindF, hW, hB]);clear hW hB
   go_wp2_with ((with_reducible show wpList _ _ _ (Oper.mk none (.store 90 _ _) _ _ _ _ :: _) _ _); refine stT 90 R 0 _ (h_set_ne jg HQ5.out) rfl (.agg #[.int .i64 7, .string (s.extract a k), .float .f64 0, .int .i64 a, .int .i64 k]) rfl jh zj qh ?_)
   intro w9 hs9;have x0 := cell_of_heap hs9.row 0;have x1 := cell_of_heap hs9.row 1;have x2 := cell_of_heap hs9.row 2;have x3 := cell_of_heap hs9.row 3;have x4 := cell_of_heap hs9.row 4;simp at x0 x1 x2 x3 x4;have hk9 : Keeps [] w w9 := Keeps.trans (Keeps.trans HK5.out (fp' := [R + 1]) (Keeps.setCell _ _ _ _ jg) zl) hs9.keeps zl;clear hs9
   go_wp2_with fail
   exact zhb
  have HKD := zh (show kindF s (s.extract a k) k = 8 by simp [kindF, hW]);clear hW
  go_wp2_with ((with_reducible show wpList _ _ _ (Oper.mk none (.store 90 _ _) _ _ _ _ :: _) _ _); refine stT 90 R 0 _ (h_set_ne jg HQ5.out) rfl (.agg #[.int .i64 8, .string (s.extract a k), .float .f64 0, .int .i64 a, .int .i64 k]) rfl jh zj qh ?_)
  intro w9 hs9;have x0 := cell_of_heap hs9.row 0;have x1 := cell_of_heap hs9.row 1;have x2 := cell_of_heap hs9.row 2;have x3 := cell_of_heap hs9.row 3;have x4 := cell_of_heap hs9.row 4;simp at x0 x1 x2 x3 x4;have hk9 : Keeps [] w w9 := Keeps.trans (Keeps.trans HK5.out (fp' := [R + 1]) (Keeps.setCell _ _ _ _ jg) zl) hs9.keeps zl;clear hs9
  go_wp2_with fail
  exact jhb) : p := h
theorem jyc {p : Prop} (h : p := by
 refine zrc ?_;rintro w1 ⟨Kw1, cw1_B⟩;have ⟨n_c_B, n_B_c⟩ := zne l_c;have ⟨n_mf_B, n_B_mf⟩ := zne l_mf;have ⟨n_ms_B, n_B_ms⟩ := zne l_ms;have ⟨n_mn_B, n_B_mn⟩ := zne l_mn;have o_B : w.heap.size ≤ w.heap.size := Nat.le_refl _;have off_B : Off K T (w.heap.size) := off_new HC0.out (Nat.le_refl _);have o0_B : K.w0.heap.size ≤ w.heap.size := Nat.le_trans HC0.out.keep.size (Nat.le_refl _);have HCw1 := zh (HC0.out.kp0 Kw1);have HSw1 := zh (HS0.out.loc Kw1 jg);have Rw1_B := zh cw1_B;clear Kw1 cw1_B l_c l_mf l_ms l_mn HC0 HS0
 go_cut [] (fun W => ∃ T' ua' uc', CK K T' ua' uc' st1 W ∧ CStep K T T' w W ∧ W.heap[w.heap.size]? = some (.cells #[.int .i64 kd, .string tx, .float .f64 fm, .slice na kids.length nc, .complex .f64 re im] 50 (0, 0)) ∧ Off K T' (w.heap.size))
 case first =>
  clear HKD HREC HCF;have h5 := H5.out;subst h5;rw [preW_mk, if_neg jg, if_pos jg] at hpre;obtain ⟨l_c, l_mf, l_ms, l_mn⟩ := HCw1.out.lt;obtain ⟨l_B, xB_0, xB_1, xB_2, xB_3, xB_4, yB_0, yB_1, yB_2, yB_3, yB_4⟩ := cf5 Rw1_B.out
  go_wp2_with fail
  clear l_c l_B xB_0 xB_1 xB_2 xB_3 xB_4 yB_0 yB_1 yB_2 yB_3 yB_4 l_mf l_ms l_mn;refine jvc ?_;rintro r e21 ⟨T21, ua21, uc21, rfl, hc, hs⟩;have off2_B := hs.off (h_lt Rw1_B.out) off_B;have Re21_B := zh (hs.at Rw1_B.out off_B);have off_B' := off2_B;have HCe21 := zh hc;have HSe21 := zh (HSw1.out.trans hs);clear Rw1_B off_B HCw1 HSw1 hc hs;have off_B := off_B';clear off_B' off2_B;obtain ⟨l_c, xc_0, xc_1, xc_2, xc_3, xc_4, xc_5, xc_6, xc_7, xc_8, xc_9, xc_10, yc_0, yc_1, yc_2, yc_3, yc_4, yc_5, yc_6, yc_7, yc_8, yc_9, yc_10⟩ := cf11 HCe21.out.row;obtain ⟨-, l_mf, l_ms, l_mn⟩ := HCe21.out.lt;obtain ⟨l_B, xB_0, xB_1, xB_2, xB_3, xB_4, yB_0, yB_1, yB_2, yB_3, yB_4⟩ := cf5 Re21_B.out;obtain ⟨oo, hoo⟩ := ofX HNR K.g st tx;rw [← hoo] at hpre;obtain ⟨hul, rfl⟩ := useF_some hpre;have HUL := zh hul; have HOO := zh hoo;clear hul hoo hpre
  go_upto_region 10 with fail
  obtain ⟨i1, hi1, hi2, hi3, hi4⟩ := info106;have HI := zh (And.intro hi1 (And.intro hi2 (And.intro hi3 hi4)));clear hi1 hi2 hi3 hi4;have HOF := zh (of_at hK HCe21.out tx);rw [← HOO.out] at HOF;have hul0 := ulX HOO.out
  try clear hcf
  try clear kc0
  try clear kc1
  try clear kc2
  try clear kc3
  try clear kc4
  try clear hcs
  try clear hcp
  try clear hlk
  try clear HREC
  try clear HKD
  try clear HSP
  try clear HFA
  try clear HFN
  try clear HFI
  try clear HCF
  try clear hkn
  try clear hm
  try clear hkl
  try clear hlt
  try clear hlt2
  try clear lg2
  try clear lg3
  try clear e4
  try clear e5
  try clear hk1
  try clear hi
  try clear o0_B
  try clear o_B
  try clear n_c_B
  try clear n_mf_B
  try clear n_ms_B
  try clear n_mn_B
  try clear n_B_c
  try clear n_B_mf
  try clear n_B_ms
  try clear n_B_mn
  try clear e19
  try clear e20
  try clear e11
  try clear e41
  try clear e32
  try clear e33
  try clear e34
  try clear e35
  try clear e4
  try clear e5
  try clear f19
  try clear f20
  try clear f11
  try clear f41
  try clear f32
  try clear f33
  try clear f34
  try clear f35
  try clear f4
  try clear f5
  try clear HNR
  go_region_law (first | ((fail_if_success (have hm9 := hcu)); refine step_call (f := 75) (vals := #[.pointer (some ⟨K.c, 0, none⟩), .string tx]) rfl _ rfl jh (HOF.out _ zg) ?_; rintro v u_ ⟨rfl, hcu, hsu⟩; have l_c2 := h_lt hcu.row; have q0 := cell_of_heap hcu.row 0; have q1 := cell_of_heap hcu.row 1; have q2 := cell_of_heap hcu.row 2; have q3 := cell_of_heap hcu.row 3; have q4 := cell_of_heap hcu.row 4; have q5 := cell_of_heap hcu.row 5; have q6 := cell_of_heap hcu.row 6; have q7 := cell_of_heap hcu.row 7; have q8 := cell_of_heap hcu.row 8; have q9 := cell_of_heap hcu.row 9; have q10 := cell_of_heap hcu.row 10; simp at q0 q1 q2 q3 q4 q5 q6 q7 q8 q9 q10; have r_B := hsu.at Re21_B.out off_B; have lr_B := h_lt r_B; have zB_0 := cell_of_heap r_B 0; have zB_1 := cell_of_heap r_B 1; have zB_2 := cell_of_heap r_B 2; have zB_3 := cell_of_heap r_B 3; have zB_4 := cell_of_heap r_B 4; simp at zB_0 zB_1 zB_2 zB_3 zB_4) | (refine step_at (fun W => Keeps [] u_ W ∧ W.heap[u_.heap.size]? = some (.cells #[.complex .f64 re im, .int .i64 oo.1.1, .string oo.1.2, .bool true, .int .i64 0, .string ⟨#[]⟩, .bool false, .bool false] 106 (0, 0))) ⟨zg, jd⟩ ?_; rintro wq ⟨hkq, cG⟩; refine step_appL useL rfl (.tmp 41) (.tmp 49) 68 rfl Tryz.underlying68 HI.out.1 HI.out.2.1 HI.out.2.2.1 HI.out.2.2.2 rfl zi zi rfl rfl (hcu.kp0 hkq).uses (c := [.complex .f64 re im, .int .i64 oo.1.1, .string oo.1.2, .bool true, .int .i64 0, .string ⟨#[]⟩, .bool false, .bool false]) cG (x := (⟨re, im, oo.1, true, noT, false, false⟩ : Use)) (S := fun _ => False) rfl (fun _ h => h.elim) (fun _ h => h.elim) (hcu.kp0 hkq).up (hcu.kp0 hkq).keep.size (Nat.le_of_lt HUL.out) ?_; rintro va wa fl hfl hka hown; obtain ⟨ka2, kc2, hva, -⟩ := hown.slice; obtain ⟨kn, hkn⟩ : ∃ k, k = ((oo.2).uses ++ [(⟨re, im, oo.1, true, noT, false, false⟩ : Use)]).length := ⟨_, rfl⟩; rw [← hkn] at hva; subst hva; have HKN := zh hkn; clear hkn; have r_c := hka.at (hcu.kp0 hkq).row (fun h => (hcu.kp0 hkq).ns.1 (hfl _ h)); have lw_c := h_lt r_c; have z0 := cell_of_heap r_c 0; have z1 := cell_of_heap r_c 1; have z2 := cell_of_heap r_c 2; have z3 := cell_of_heap r_c 3; have z4 := cell_of_heap r_c 4; have z5 := cell_of_heap r_c 5; have z6 := cell_of_heap r_c 6; have z7 := cell_of_heap r_c 7; have z8 := cell_of_heap r_c 8; have z9 := cell_of_heap r_c 9; have z10 := cell_of_heap r_c 10; have zf0 := frozen_of_heap r_c 0; have zf1 := frozen_of_heap r_c 1; have zf2 := frozen_of_heap r_c 2; have zf3 := frozen_of_heap r_c 3; have zf4 := frozen_of_heap r_c 4; have zf5 := frozen_of_heap r_c 5; have zf6 := frozen_of_heap r_c 6; have zf7 := frozen_of_heap r_c 7; have zf8 := frozen_of_heap r_c 8; have zf9 := frozen_of_heap r_c 9; have zf10 := frozen_of_heap r_c 10; simp at z0 z1 z2 z3 z4 z5 z6 z7 z8 z9 z10))
  all_goals
   go_wp2_with fail
   go_meet
   have hkn := HKN.out;subst hkn;exact qvc
 obtain ⟨T1, ua1, uc1, hc, hs, hB, off_B⟩ := hcut;generalize wc = wl at *
 have HCl := zh hc; have HSl := zh hs; have RBl := zh hB;clear hc hs hB hpre HNR HCw1 HSw1 Rw1_B;obtain ⟨l_c, l_mf, l_ms, l_mn⟩ := HCl.out.lt;obtain ⟨l_B, xB_0, xB_1, xB_2, xB_3, xB_4, yB_0, yB_1, yB_2, yB_3, yB_4⟩ := cf5 RBl.out
 go_wp2_with fail
 clear l_c l_B xB_0 xB_1 xB_2 xB_3 xB_4 yB_0 yB_1 yB_2 yB_3 yB_4 l_mf l_ms l_mn
 go_loopg [144] (kids.length + 1) (fun g j wr => KidLoop K rec kids st' T w (w.heap.size) (.cells #[.int .i64 kd, .string tx, .float .f64 fm, .slice na kids.length nc, .complex .f64 re im] 50 (0, 0)) g j wr)
 case atStart => exact zwc
 obtain ⟨k, rfl, hk1, hk2, st2, T2, ua2, uc2, hcf, hc, hs, hB, off_B⟩ := hrel;have HCr := zh hc; have HSr := zh hs; have RB := zh hB;clear hc hs hB
 by_cases hlt : k < kids.length
 ·obtain ⟨g3, o3, fm3, na3, nc3, hna, kc0, kc1, kc2, kc3, kc4, hkn⟩ := CK.kid HCr.out HKD.out hlt;subst hna;have lg3 : g3 < wr.heap.size := lt_cell kc0;rw [List.drop_eq_getElem_cons hlt, kidsF] at hcf;generalize kids[k] = kk at *
  simp only [Option.bind_eq_bind, Option.bind_eq_some_iff] at hcf;obtain ⟨s3, hr, hcf⟩ := hcf
  cases gk with
  | zero => omega
  | succ f =>
   obtain ⟨l_c, l_mf, l_ms, l_mn⟩ := HCr.out.lt;obtain ⟨l_B, xB_0, xB_1, xB_2, xB_3, xB_4, yB_0, yB_1, yB_2, yB_3, yB_4⟩ := cf5 RB.out
   go_wp2_with fail
   refine qlc ?_;rintro w51 ⟨Kw51, cw51_Kd⟩;have ⟨n_c_Kd, n_Kd_c⟩ := zne l_c;have ⟨n_mf_Kd, n_Kd_mf⟩ := zne l_mf;have ⟨n_ms_Kd, n_Kd_ms⟩ := zne l_ms;have ⟨n_mn_Kd, n_Kd_mn⟩ := zne l_mn;have ⟨n_B_Kd, n_Kd_B⟩ := zne l_B;have o_Kd : w.heap.size ≤ wr.heap.size := HSr.out.size;have off_Kd : Off K T2 (wr.heap.size) := off_new HCr.out (Nat.le_refl _);have o0_Kd : K.w0.heap.size ≤ wr.heap.size := Nat.le_trans HCr.out.keep.size (Nat.le_refl _);have Rw51_B := zh (Kw51.at RB.out jg);have HCw51 := zh (HCr.out.kp0 Kw51);have HSw51 := zh (HSr.out.loc Kw51 jg);have Rw51_Kd := zh cw51_Kd;clear Kw51 cw51_Kd l_c l_B xB_0 xB_1 xB_2 xB_3 xB_4 yB_0 yB_1 yB_2 yB_3 yB_4 l_mf l_ms l_mn RB HCr HSr;refine jtc ?_;rintro r e52 ⟨T52, ua52, uc52, rfl, hc, hs⟩;have off2_B := hs.off (h_lt Rw51_B.out) off_B;have Re52_B := zh (hs.at Rw51_B.out off_B);have off2_Kd := hs.off (h_lt Rw51_Kd.out) off_Kd;have Re52_Kd := zh (hs.at Rw51_Kd.out off_Kd);have off_B' := off2_B;have off_Kd' := off2_Kd;have HCe52 := zh hc;have HSe52 := zh (HSw51.out.trans hs);clear Rw51_B off_B Rw51_Kd off_Kd HCw51 HSw51 hc hs;have off_B := off_B';clear off_B' off2_B;have off_Kd := off_Kd';clear off_Kd' off2_Kd;obtain ⟨l_c, l_mf, l_ms, l_mn⟩ := HCe52.out.lt;have l_B := h_lt Re52_B.out;have l_Kd := h_lt Re52_Kd.out
   go_wp2_with fail
   go_roundg f
   case measure => omega
   exact juc
 have hke : k = kids.length := by omega
 subst hke;rw [List.drop_length, kidsF] at hcf;obtain rfl : st2 = st' := by simpa using hcf
 clear hcf;obtain ⟨l_c, l_mf, l_ms, l_mn⟩ := HCr.out.lt;have l_B := h_lt RB.out
 go_wp2_with fail
 refine end_at (v := .tuple #[]) (fun W => Keeps [] wr W) zg (fun w51 hW => ?_) rfl (fun w51 hW => ?_)
 ·have Kw51 : Keeps [] wr w51 := hW;exact jnb
 have Kw51 : Keeps [] wr w51 := hW;have Rw51_B := zh (Kw51.at RB.out jg);have HCw51 := zh (HCr.out.kp0 Kw51);have HSw51 := zh (HSr.out.loc Kw51 jg);clear Kw51 l_c l_B l_mf l_ms l_mn RB HCr HSr;exact jpc) : p := h
theorem nth_some {s : ByteArray} {k : Nat} (h : k < s.size) : nthZ s k = some ((s[k]'h).toNat : Int) := by simp [nthZ, h]
theorem nth_none {s : ByteArray} {k : Nat} (h : s.size ≤ k) : nthZ s k = none := by simp [nthZ]; omega
theorem same_eq (a b : ByteArray) : (a.toList == b.toList) = same a b := by
 rw [ByteArray.toList_eq, ByteArray.toList_eq]; rfl
theorem same_iff {a b : ByteArray} : same a b = true ↔ a = b := by
 unfold same
 constructor
 ·intro h;have h1 : a.data.toList = b.data.toList := by simpa using h
  have h2 : a.data = b.data := Array.toList_inj.1 h1
  cases a; cases b; simp_all
 rintro rfl; simp
set_option maxHeartbeats 1000000 in
theorem letter_any (z : Int) (w : World) : Calls Tryz.prog 92 #[.int .u8 z] w fun e w' => e = .returned (.bool (letterF z)) ∧ w' = w := by
 by_cases h1 : 65 ≤ z
 ·by_cases h2 : z ≤ 90
  ·have hz : letterF z = true := by simp [letterF, h1, h2]
   exact jqd
  have e1 : decide (z ≤ 90) = false := by simp [h2]
  by_cases h3 : 97 ≤ z
  ·by_cases h4 : z ≤ 122
   ·have hz : letterF z = true := by simp [letterF, h3, h4]
    exact jqd
   have e4 : decide (z ≤ 122) = false := by simp [h4]
   have e5 : (z == 95) = false := by simp; omega
   have hz : letterF z = false := by simp only [letterF, e1, e4, e5]; simp
   exact jqd
  have e3 : decide (97 ≤ z) = false := by simp [h3]
  have hz : letterF z = (z == 95) := by simp only [letterF, e1, e3]; simp
  exact jqd
 have e1 : decide (65 ≤ z) = false := by simp [h1]
 have e3 : decide (97 ≤ z) = false := by simp; omega
 have e5 : (z == 95) = false := by simp; omega
 have hz : letterF z = false := by simp only [letterF, e1, e3, e5]; simp
 exact jqd
set_option maxHeartbeats 1000000 in
theorem digit_any (z : Int) (w : World) : Calls Tryz.prog 93 #[.int .u8 z] w fun e w' => e = .returned (.bool (digitF z)) ∧ w' = w := by
 by_cases h1 : 48 ≤ z
 ·have hz : digitF z = decide (z ≤ 57) := by simp [digitF, h1]
  rw [hz]; clear hz
  go_enter Tryz.func93, Tryz.ntmps93
  go_wp2_with fail
  go_ret
  exact zfb
 have e1 : decide (48 ≤ z) = false := by simp [h1]
 have hz : digitF z = false := by simp only [digitF, e1]; simp
 rw [hz]; clear hz
 go_enter Tryz.func93, Tryz.ntmps93
 go_wp2_with fail
 go_ret
 exact zfb
theorem amongF_end {s v : ByteArray} {k fr : Nat} (hk : k ≤ s.size) (h : k = s.size ∨ nthZ s k = some 32) : amongF s v (s.size + 1 - k) k fr = (same (s.extract fr k) v || amongF s v (s.size + 1 - (k + 1)) (k + 1) (k + 1)) := by
 have e : s.size + 1 - k = (s.size + 1 - (k + 1)) + 1 := by omega
 rw [e, amongF]
 rcases h with h | h
 ·rw [nth_none qg]
 rw [h]; simp
theorem amongF_on {s v : ByteArray} {k fr : Nat} {z : Int} (hk : k < s.size) (h : nthZ s k = some z) (hz : z ≠ 32) : amongF s v (s.size + 1 - k) k fr = amongF s v (s.size + 1 - (k + 1)) (k + 1) fr := by
 have e : s.size + 1 - k = (s.size + 1 - (k + 1)) + 1 := by omega
 rw [e, amongF, h];simp [hz]
set_option maxHeartbeats 1000000 in
theorem among_any (s v : ByteArray) (hs : s.size ≤ 1000000) (w : World) : Calls Tryz.prog 88 #[.string s, .string v] w fun e w' => e = .returned (.bool (among s v)) ∧ w' = w := by
 obtain ⟨r, hr⟩ : ∃ r, among s v = r := ⟨_, rfl⟩;rw [hr];have HR := zh hr; clear hr
 go_enter Tryz.func88, Tryz.ntmps88
 go_wp2_with fail
 go_loop [5, 6] (fun fv iv => ∃ k fr : Nat, k ≤ s.size + 1 ∧ fr ≤ k ∧ iv = .int .i64 k ∧ fv = .int .i64 fr ∧ Hid (amongF s v (s.size + 1 - k) k fr = r)) (fun _ iv => s.size + 1 - (intOf iv).toNat)
 case atStart => exact ⟨0, 0, by omega, by omega, rfl, rfl, zh HR.out⟩
 obtain ⟨k, fr, hk, hfr, rfl, rfl, HA⟩ := hrel
 by_cases h1 : k ≤ s.size
 ·by_cases h2 : k = s.size
  ·subst h2;have ha := HA.out;rw [amongF_end h1 (.inl rfl)] at ha;rw [← same_eq] at ha
   cases hB : ((s.extract fr s.size).toList == v.toList)
   ·rw [hB] at ha;have HA' := zh ha; clear ha HA
    go_wp2_with fail
    exact ⟨⟨s.size + 1, s.size + 1, by omega, by omega, by go_num, by go_num, by simpa using HA'⟩, by simp [intOf] <;> omega⟩
   rw [hB] at ha;have HA' := zh ha; clear ha HA
   go_wp2_with fail
   go_ret
   exact jfb
  have h3 : k < s.size := by omega
  have hnz := nth_some h3;generalize hz : ((s[k]'h3).toNat : Int) = z at *
  have e32 : (z == 32) = decide (z = 32) := by by_cases h : z = 32 <;> simp [h]
  by_cases h4 : z = 32
  ·subst h4;have ha := HA.out;rw [amongF_end h1 (.inr hnz)] at ha;rw [← same_eq] at ha;clear hnz e32
   cases hB : ((s.extract fr k).toList == v.toList)
   ·rw [hB] at ha;have HA' := zh ha; clear ha HA
    go_wp2_with fail
    exact ⟨⟨k + 1, k + 1, by omega, by omega, by go_num, by go_num, by simpa using HA'⟩, by simp [intOf] <;> omega⟩
   rw [hB] at ha;have HA' := zh ha; clear ha HA
   go_wp2_with fail
   go_ret
   exact jfb
  have ha := HA.out;rw [amongF_on h3 hnz h4] at ha;have HA' := zh ha; clear ha HA hnz
  go_wp2_with fail
  exact ⟨⟨k + 1, fr, by omega, by omega, by go_num, rfl, HA'⟩, by simp [intOf] <;> omega⟩
 have ha := HA.out;have e : s.size + 1 - k = 0 := by omega
 rw [e, amongF] at ha;have HA' := zh ha; clear ha HA e
 go_wp2_with fail
 go_ret
 exact jfb
end Go.Proofs.YtkfillfkbhbbjaaGreatDoor
