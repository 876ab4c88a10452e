/- NodA, HedL, ShS, ShN, SortL, InfoL. -/
import Derived.Test.YtkfillfkbhbbjaaGreatDoorKin
import Derived.Test.YtkfillfkbhbbjaaGreatDoorKit
import Derived.Shelf.Sort.Plain
import Derived.Test.YtkfillfkbhbbjaaGreatDoorNSpec
import Derived.Test.YtkfillfkbhbbjaaGreatDoorRng
set_option maxRecDepth 100000
set_option maxHeartbeats 4000000
set_option linter.unusedSimpArgs false
set_option linter.unusedVariables false
namespace Go.Proofs.YtkfillfkbhbbjaaGreatDoor
open Go.RowKit
theorem CK.rule {K : CKey} (hK : CFix K) {T : Nat → Prop} {ua : Option Addr} {uc : Nat} {st : NS} {W : World} (h : CK K T ua uc st W) {i : Nat} (hi : i < K.g.rules.length) :
  ∃ g o pa pc b0 b1 b2 b3 b4, K.ra = some ⟨g, o, none⟩ ∧ W.cell? ⟨g, o + i * 9, none⟩ = some (.int .i64 K.g.rules[i].kind) ∧ W.cell? ⟨g, o + i * 9 + 1, none⟩ = some (.int .i64 K.g.rules[i].n) ∧ W.cell? ⟨g, o + i * 9 + 2, none⟩ = some (.slice pa K.g.rules[i].pats.length pc) ∧ W.cell? ⟨g, o + i * 9 + 3, none⟩ = some b0 ∧ W.cell? ⟨g, o + i * 9 + 4, none⟩ = some b1 ∧ W.cell? ⟨g, o + i * 9 + 5, none⟩ = some b2 ∧ W.cell? ⟨g, o + i * 9 + 6, none⟩ = some b3 ∧
   W.cell? ⟨g, o + i * 9 + 7, none⟩ = some b4 ∧ W.cell? ⟨g, o + i * 9 + 8, none⟩ = some (.complex .f64 K.g.rules[i].re K.g.rules[i].im) ∧ KidsR K.w0 (fun _ => True) K.g.rules[i].pats (.slice pa K.g.rules[i].pats.length pc) ∧ NodeR K.w0 (fun _ => True) K.g.rules[i].body (.agg #[b0, b1, b2, b3, b4]) := by
 obtain ⟨g, o, cap, c, hv, -, hg, ⟨pa, pc, b0, b1, b2, b3, b4, rfl, hp, hn⟩, hc⟩ := hK.rules.get ruleL hi
 have hc' : ∀ j u, [.int .i64 K.g.rules[i].kind, .int .i64 K.g.rules[i].n, .slice pa K.g.rules[i].pats.length pc, b0, b1, b2, b3, b4, .complex .f64 K.g.rules[i].re K.g.rules[i].im][j]? = some u → W.cell? ⟨g, o + i * 9 + j, none⟩ = some u := fun j u hj => by
  rw [World.cell?_of_block (w := K.w0) (a := ⟨g, o + i * 9 + j, none⟩) (h.keep.block g hg jg), Nat.add_assoc]; exact hc j u hj
 have hra : K.ra = some ⟨g, o, none⟩ := by injection hv
 exact ⟨g, o, pa, pc, b0, b1, b2, b3, b4, hra, hc' 0 _ rfl, hc' 1 _ rfl, hc' 2 _ rfl, hc' 3 _ rfl, hc' 4 _ rfl, hc' 5 _ rfl, hc' 6 _ rfl, hc' 7 _ rfl, hc' 8 _ rfl, hp, hn⟩
def AllR (K : CKey) (rec : NRec) (st' : NS) (T0 : Nat → Prop) (w : World) (g : Nat) (j : Value) (W : World) : Prop :=
 ∃ k : Nat, j = .int .i64 k ∧ k ≤ K.g.rules.length ∧ g + k = K.g.rules.length + 1 ∧ ∃ st T ua uc, allR rec (K.g.rules.drop k) st = some st' ∧ CK K T ua uc st W ∧ CStep K T0 T w W
def AllP (K : CKey) (rec : NRec) (pats : List Node) (st' : NS) (T0 : Nat → Prop) (w : World) (B : Nat) (ob : Obj) (g : Nat) (j : Value) (W : World) : Prop :=
 ∃ k : Nat, j = .int .i64 k ∧ k ≤ pats.length ∧ g + k = pats.length + 1 ∧ ∃ st T ua uc, patsF rec (pats.drop k) st = some st' ∧ CK K T ua uc st W ∧ CStep K T0 T w W ∧ W.heap[B]? = some ob ∧ Off K T B
def AllFn (K : CKey) (rec : NRec) (st' : NS) (T0 : Nat → Prop) (w : World) (g : Nat) (j : Value) (W : World) : Prop :=
 ∃ k : Nat, j = .int .i64 k ∧ k ≤ K.g.funcs.length ∧ g + k = K.g.funcs.length + 1 ∧ ∃ st T ua uc, allF rec k (K.g.funcs.drop k) st = some st' ∧ CK K T ua uc st W ∧ CStep K T0 T w W
theorem all_any {K : CKey} (hK : CFix K) {T : Nat → Prop} {ua : Option Addr} {uc : Nat} {st : NS} {w : World} (h : CK K T ua uc st w) {rec : NRec} {s1 st' : NS} (hrec : NodeC K rec) (har : allR rec K.g.rules st = some s1) (haf : allF rec 0 K.g.funcs s1 = some st') : Calls Tryz.prog 25 #[.pointer (some ⟨K.c, 0, none⟩)] w fun r w' => ∃ T' ua' uc', r = .returned (.tuple #[]) ∧ CK K T' ua' uc' (st') w' ∧ CStep K T T' w w' := by
 have hrs := hK.rsmall;have hfs := hK.small;have HC0 := zh h; have HS0 := zh (CStep.refl K T w); have HREC := zh hrec; have HAR := zh har; have HAF := zh haf;clear h hrec har haf
 go_enter Tryz.func25, Tryz.ntmps25
 obtain ⟨l_c, xc_0, xc_1, xc_2, xc_3, xc_4, xc_5, xc_6, xc_7, xc_8, xc_9, xc_10, yc_0, yc_1, yc_2, yc_3, yc_4, yc_5, yc_6, yc_7, yc_8, yc_9, yc_10⟩ := cf11 HC0.out.row;obtain ⟨-, l_mf, l_ms, l_mn⟩ := HC0.out.lt;obtain ⟨ra, hra0⟩ : ∃ x, K.ra = x := ⟨_, rfl⟩;rw [hra0] at xc_0;have HRA0 := zh hra0;clear hra0
 go_wp2_with fail
 clear l_c xc_0 xc_1 xc_2 xc_3 xc_4 xc_5 xc_6 xc_7 xc_8 xc_9 xc_10 yc_0 yc_1 yc_2 yc_3 yc_4 yc_5 yc_6 yc_7 yc_8 yc_9 yc_10 l_mf l_ms l_mn
 go_loopg [14] (K.g.rules.length + 1) (fun g j wr => AllR K rec s1 T w g j wr)
 case atStart => exact ⟨0, rfl, Nat.zero_le _, rfl, _, _, _, _, HAR.out, HC0.out, HS0.out⟩
 rename World => wo
 obtain ⟨k, rfl, hk1, hk2, st1, T1, ua1, uc1, har, hc, hs⟩ := hrel;have HCr := zh hc; have HSr := zh hs;clear hc hs
 by_cases hlt : k < K.g.rules.length
 ·obtain ⟨g, o, pa, pc, b0, b1, b2, b3, b4, hra, c0, c1, c2, c3, c4, c5, c6, c7, c8, hkp, hnb⟩ := CK.rule hK HCr.out hlt;obtain ⟨fmb, nab, ncb, hvb, -⟩ := hnb.kids;simp only [Value.agg.injEq, Array.mk.injEq, List.cons.injEq, and_true] at hvb;obtain ⟨rfl, rfl, rfl, rfl, rfl⟩ := hvb;have hps : K.g.rules[k].pats.length ≤ 1000000 := hK.tsmall _ (List.getElem_mem hlt);have lg : g < wo.heap.size := lt_cell c0;rw [List.drop_eq_getElem_cons hlt, allR] at har;generalize K.g.rules[k] = ru at *
  simp only [Option.bind_eq_bind, Option.bind_eq_some_iff] at har;obtain ⟨s2, hp, s3, hb, har⟩ := har;have HPF := zh hp; have HKP := zh hkp;have era := HRA0.out.symm.trans hra;subst era;clear hp hkp hra
  cases gk with
  | zero => omega
  | succ f =>
   obtain ⟨l_c, xc_0, xc_1, xc_2, xc_3, xc_4, xc_5, xc_6, xc_7, xc_8, xc_9, xc_10, yc_0, yc_1, yc_2, yc_3, yc_4, yc_5, yc_6, yc_7, yc_8, yc_9, yc_10⟩ := cf11 HCr.out.row;obtain ⟨-, l_mf, l_ms, l_mn⟩ := HCr.out.lt
   go_wp2_with fail
   refine wp_at (fun W => Keeps [K.c] wo W ∧ W.heap[K.c]? = some (.cells #[.slice K.ra K.g.rules.length K.rc, .slice K.fa K.g.funcs.length K.fc, .map (some K.mf), .int .i64 st1.fn, .int .i64 ru.kind, .int .i64 0, .slice ua1 st1.uses.length uc1, .map (some K.ms), .map (some K.mn), .complex .f64 st1.re st1.im, .int .i64 st1.e] 70 (0, 0)) ∧ W.heap[wo.heap.size]? = some (.cells #[.int .i64 ru.kind, .int .i64 ru.n, .slice pa ru.pats.length pc, .int .i64 ru.body.kind, .string ru.body.name, .float .f64 fmb, .slice nab ru.body.kids.length ncb, .complex .f64 ru.body.re ru.body.im, .complex .f64 ru.re ru.im] 52 (0, 0))) ⟨zg, (jb HCr.out.row l_c), (jb HCr.out.row l_c)⟩ ?_;rintro w51 ⟨Kw51, cw51_c, cw51_Ru⟩;have ⟨n_c_Ru, n_Ru_c⟩ := zne l_c;have ⟨n_mf_Ru, n_Ru_mf⟩ := zne l_mf;have ⟨n_ms_Ru, n_Ru_ms⟩ := zne l_ms;have ⟨n_mn_Ru, n_Ru_mn⟩ := zne l_mn;have o_Ru : w.heap.size ≤ wo.heap.size := HSr.out.size;have off_Ru : Off K T1 (wo.heap.size) := off_new HCr.out (Nat.le_refl _);have o0_Ru : K.w0.heap.size ≤ wo.heap.size := Nat.le_trans HCr.out.keep.size (Nat.le_refl _);have HCw51 : Hid (CK K T1 ua1 uc1 ({ st1 with rule := ru.kind, loops := 0 }) w51) := zh (HCr.out.upd hK Kw51 cw51_c jg jg jg jg jg rfl rfl rfl HCr.out.fn (show (-1000000 : Int) ≤ 0 ∧ (0 : Int) ≤ 1000000 from ⟨by omega, by omega⟩));have HSw51 := zh (HSr.out.loc Kw51 qeb);have Rw51_Ru := zh cw51_Ru
   clear Kw51 cw51_c cw51_Ru l_c xc_0 xc_1 xc_2 xc_3 xc_4 xc_5 xc_6 xc_7 xc_8 xc_9 xc_10 yc_0 yc_1 yc_2 yc_3 yc_4 yc_5 yc_6 yc_7 yc_8 yc_9 yc_10 l_mf l_ms l_mn HCr HSr
   go_loopg [29] (ru.pats.length + 1) (fun g j wp => AllP K rec ru.pats s2 T w (wo.heap.size) (.cells #[.int .i64 ru.kind, .int .i64 ru.n, .slice pa ru.pats.length pc, .int .i64 ru.body.kind, .string ru.body.name, .float .f64 fmb, .slice nab ru.body.kids.length ncb, .complex .f64 ru.body.re ru.body.im, .complex .f64 ru.re ru.im] 52 (0, 0)) g j wp)
   case atStart => exact ⟨0, rfl, Nat.zero_le _, rfl, _, _, _, _, HPF.out, HCw51.out, HSw51.out, Rw51_Ru.out, off_Ru⟩
   obtain ⟨i, rfl, hi1, hi2, st2, T2, ua2, uc2, hpf, hc, hs, hB, off_Ru⟩ := hrel;have HCp := zh hc; have HSp := zh hs; have RRu := zh hB;clear hc hs hB
   by_cases hlt2 : i < ru.pats.length
   ·obtain ⟨g3, o3, fm3, na3, nc3, hna, kc0, kc1, kc2, kc3, kc4, hkn⟩ := CK.kid HCp.out HKP.out hlt2;subst hna;have lg3 : g3 < wr.heap.size := lt_cell kc0;rw [List.drop_eq_getElem_cons hlt2, patsF] at hpf;generalize ru.pats[i] = kk at *
    simp only [Option.bind_eq_bind, Option.bind_eq_some_iff] at hpf;obtain ⟨s4, hr, hpf⟩ := hpf
    cases gk with
    | zero => omega
    | succ f2 =>
     obtain ⟨l_c, l_mf, l_ms, l_mn⟩ := HCp.out.lt;have l_Ru := h_lt RRu.out
     go_wp2_with fail
     refine qlc ?_;rintro w71 ⟨Kw71, cw71_Kd⟩;have ⟨n_c_Kd, n_Kd_c⟩ := zne l_c;have ⟨n_mf_Kd, n_Kd_mf⟩ := zne l_mf;have ⟨n_ms_Kd, n_Kd_ms⟩ := zne l_ms;have ⟨n_mn_Kd, n_Kd_mn⟩ := zne l_mn;have ⟨n_Ru_Kd, n_Kd_Ru⟩ := zne l_Ru;have o_Kd : w.heap.size ≤ wr.heap.size := HSp.out.size;have off_Kd : Off K T2 (wr.heap.size) := off_new HCp.out (Nat.le_refl _);have o0_Kd : K.w0.heap.size ≤ wr.heap.size := Nat.le_trans HCp.out.keep.size (Nat.le_refl _);have Rw71_Ru := zh (Kw71.at RRu.out jg);have HCw71 := zh (HCp.out.kp0 Kw71);have HSw71 := zh (HSp.out.loc Kw71 jg);have Rw71_Kd := zh cw71_Kd;clear Kw71 cw71_Kd l_c l_Ru l_mf l_ms l_mn RRu HCp HSp;refine (HREC.out _ _ _ _ hr hkn _ _ _ _ HCw71.out).mono ?_;rintro r e72 ⟨T72, ua72, uc72, rfl, hc, hs⟩;have off2_Ru := hs.off (h_lt Rw71_Ru.out) off_Ru;have Re72_Ru := zh (hs.at Rw71_Ru.out off_Ru);have off2_Kd := hs.off (h_lt Rw71_Kd.out) off_Kd;have Re72_Kd := zh (hs.at Rw71_Kd.out off_Kd);have off_Ru' := off2_Ru;have off_Kd' := off2_Kd;have HCe72 := zh hc;have HSe72 := zh (HSw71.out.trans hs);clear Rw71_Ru off_Ru Rw71_Kd off_Kd HCw71 HSw71 hc hs;have off_Ru := off_Ru';clear off_Ru' off2_Ru;have off_Kd := off_Kd';clear off_Kd' off2_Kd;obtain ⟨l_c, l_mf, l_ms, l_mn⟩ := HCe72.out.lt;have l_Ru := h_lt Re72_Ru.out;have l_Kd := h_lt Re72_Kd.out
     go_wp2_with fail
     go_roundg f2
     case measure => omega
     exact ⟨i + 1, by first | rfl | (simp; done) | (simp; omega), by omega, by omega, _, _, _, _, hpf, HCe72.out, HSe72.out, Re72_Ru.out, off_Ru⟩
   have hie : i = ru.pats.length := by omega
   subst hie;rw [List.drop_length, patsF] at hpf;obtain rfl : st2 = s2 := by simpa using hpf
   clear hpf;obtain ⟨l_c, l_mf, l_ms, l_mn⟩ := HCp.out.lt;obtain ⟨l_Ru, xRu_0, xRu_1, xRu_2, xRu_3, xRu_4, xRu_5, xRu_6, xRu_7, xRu_8, yRu_0, yRu_1, yRu_2, yRu_3, yRu_4, yRu_5, yRu_6, yRu_7, yRu_8⟩ := cf9 RRu.out
   go_wp2_with fail
   clear l_c l_Ru xRu_0 xRu_1 xRu_2 xRu_3 xRu_4 xRu_5 xRu_6 xRu_7 xRu_8 yRu_0 yRu_1 yRu_2 yRu_3 yRu_4 yRu_5 yRu_6 yRu_7 yRu_8 l_mf l_ms l_mn;refine (HREC.out _ _ _ _ hb hnb _ _ _ _ HCp.out).mono ?_;rintro r e71 ⟨T71, ua71, uc71, rfl, hc, hs⟩;have off2_Ru := hs.off (h_lt RRu.out) off_Ru;have Re71_Ru := zh (hs.at RRu.out off_Ru);have off_Ru' := off2_Ru;have HCe71 := zh hc;have HSe71 := zh (HSp.out.trans hs);clear RRu off_Ru HCp HSp hc hs;have off_Ru := off_Ru';clear off_Ru' off2_Ru;obtain ⟨l_c, l_mf, l_ms, l_mn⟩ := HCe71.out.lt;have l_Ru := h_lt Re71_Ru.out
   go_wp2_with fail
   go_roundg f
   case measure => omega
   exact ⟨k + 1, by first | rfl | (simp; done) | (simp; omega), by omega, by omega, _, _, _, _, har, HCe71.out, HSe71.out⟩
 have hke : k = K.g.rules.length := by omega
 subst hke;rw [List.drop_length, allR] at har;obtain rfl : st1 = s1 := by simpa using har
 clear har;obtain ⟨l_c, xc_0, xc_1, xc_2, xc_3, xc_4, xc_5, xc_6, xc_7, xc_8, xc_9, xc_10, yc_0, yc_1, yc_2, yc_3, yc_4, yc_5, yc_6, yc_7, yc_8, yc_9, yc_10⟩ := cf11 HCr.out.row;obtain ⟨-, l_mf, l_ms, l_mn⟩ := HCr.out.lt;obtain ⟨fa, hfa0⟩ : ∃ x, K.fa = x := ⟨_, rfl⟩;rw [hfa0] at xc_1;have HFA0 := zh hfa0;clear hfa0
 go_wp2_with fail
 clear l_c xc_0 xc_1 xc_2 xc_3 xc_4 xc_5 xc_6 xc_7 xc_8 xc_9 xc_10 yc_0 yc_1 yc_2 yc_3 yc_4 yc_5 yc_6 yc_7 yc_8 yc_9 yc_10 l_mf l_ms l_mn
 go_loopg [48] (K.g.funcs.length + 1) (fun g j wf => AllFn K rec st' T w g j wf)
 case atStart => exact ⟨0, rfl, Nat.zero_le _, rfl, _, _, _, _, HAF.out, HCr.out, HSr.out⟩
 obtain ⟨k, rfl, hk1, hk2, st3, T3, ua3, uc3, haf, hc, hs⟩ := hrel;have HCf := zh hc; have HSf := zh hs;clear hc hs
 by_cases hlt : k < K.g.funcs.length
 ·obtain ⟨g, o, pa, pc, b0, b1, b2, b3, b4, hfa, c0, c1, c2, c3, c4, c5, c6, c7, hsp, hnb⟩ := CK.func hK HCf.out hlt;obtain ⟨fmb, nab, ncb, hvb, -⟩ := hnb.kids;simp only [Value.agg.injEq, Array.mk.injEq, List.cons.injEq, and_true] at hvb;obtain ⟨rfl, rfl, rfl, rfl, rfl⟩ := hvb;have lg : g < wr.heap.size := lt_cell c0;have efa := HFA0.out.symm.trans hfa;subst efa;clear hfa;rw [List.drop_eq_getElem_cons hlt, allF] at haf;generalize K.g.funcs[k] = fu at *
  simp only [Option.bind_eq_bind, Option.bind_eq_some_iff] at haf;obtain ⟨s3, hb, haf⟩ := haf
  cases gk with
  | zero => omega
  | succ f =>
   obtain ⟨l_c, xc_0, xc_1, xc_2, xc_3, xc_4, xc_5, xc_6, xc_7, xc_8, xc_9, xc_10, yc_0, yc_1, yc_2, yc_3, yc_4, yc_5, yc_6, yc_7, yc_8, yc_9, yc_10⟩ := cf11 HCf.out.row;obtain ⟨-, l_mf, l_ms, l_mn⟩ := HCf.out.lt
   go_wp2_with fail
   refine calls_at (fun W => Keeps [K.c] wr W ∧ W.heap[K.c]? = some (.cells #[.slice K.ra K.g.rules.length K.rc, .slice K.fa K.g.funcs.length K.fc, .map (some K.mf), .int .i64 (k + 1), .int .i64 st3.rule, .int .i64 0, .slice ua3 st3.uses.length uc3, .map (some K.ms), .map (some K.mn), .complex .f64 st3.re st3.im, .int .i64 st3.e] 70 (0, 0)) ∧ W.heap[wr.heap.size]? = some (.cells #[.string fu.name, .slice pa fu.params.length pc, .int .i64 fu.body.kind, .string fu.body.name, .float .f64 fmb, .slice nab fu.body.kids.length ncb, .complex .f64 fu.body.re fu.body.im, .complex .f64 fu.re fu.im] 61 (0, 0))) ⟨zg, (jb HCf.out.row l_c), (jb HCf.out.row l_c)⟩ ?_;rintro w81 ⟨Kw81, cw81_c, cw81_Fu⟩;have ⟨n_c_Fu, n_Fu_c⟩ := zne l_c;have ⟨n_mf_Fu, n_Fu_mf⟩ := zne l_mf;have ⟨n_ms_Fu, n_Fu_ms⟩ := zne l_ms;have ⟨n_mn_Fu, n_Fu_mn⟩ := zne l_mn;have o_Fu : w.heap.size ≤ wr.heap.size := HSf.out.size;have off_Fu : Off K T3 (wr.heap.size) := off_new HCf.out (Nat.le_refl _);have o0_Fu : K.w0.heap.size ≤ wr.heap.size := Nat.le_trans HCf.out.keep.size (Nat.le_refl _);have HCw81 : Hid (CK K T3 ua3 uc3 ({ st3 with fn := k + 1, loops := 0 }) w81) := zh (HCf.out.upd hK Kw81 cw81_c jg jg jg jg jg rfl rfl rfl (show k + 1 ≤ K.g.funcs.length from hlt) (show (-1000000 : Int) ≤ 0 ∧ (0 : Int) ≤ 1000000 from ⟨by omega, by omega⟩));have HSw81 := zh (HSf.out.loc Kw81 qeb);have Rw81_Fu := zh cw81_Fu
   clear Kw81 cw81_c cw81_Fu l_c xc_0 xc_1 xc_2 xc_3 xc_4 xc_5 xc_6 xc_7 xc_8 xc_9 xc_10 yc_0 yc_1 yc_2 yc_3 yc_4 yc_5 yc_6 yc_7 yc_8 yc_9 yc_10 l_mf l_ms l_mn HCf HSf;refine (HREC.out _ _ _ _ hb hnb _ _ _ _ HCw81.out).mono ?_;rintro r e82 ⟨T82, ua82, uc82, rfl, hc, hs⟩;have off2_Fu := hs.off (h_lt Rw81_Fu.out) off_Fu;have Re82_Fu := zh (hs.at Rw81_Fu.out off_Fu);have off_Fu' := off2_Fu;have HCe82 := zh hc;have HSe82 := zh (HSw81.out.trans hs);clear Rw81_Fu off_Fu HCw81 HSw81 hc hs;have off_Fu := off_Fu';clear off_Fu' off2_Fu;obtain ⟨l_c, l_mf, l_ms, l_mn⟩ := HCe82.out.lt;have l_Fu := h_lt Re82_Fu.out
   go_wp2_with fail
   go_roundg f
   case measure => omega
   exact ⟨k + 1, by first | rfl | (simp; done) | (simp; omega), by omega, by omega, _, _, _, _, haf, HCe82.out, HSe82.out⟩
 have hke : k = K.g.funcs.length := by omega
 subst hke;rw [List.drop_length, allF] at haf;obtain rfl : st3 = st' := by simpa using haf
 clear haf;obtain ⟨l_c, l_mf, l_ms, l_mn⟩ := HCf.out.lt
 go_wp2_with fail
 refine end_at (v := .tuple #[]) (fun W => Keeps [] wr W) zg (fun w81 hW => ?_) rfl (fun w81 hW => ?_)
 ·have Kw81 : Keeps [] wr w81 := hW;exact jnb
 have Kw81 : Keeps [] wr w81 := hW;have HCw81 := zh (HCf.out.kp0 Kw81);have HSw81 := zh (HSf.out.loc Kw81 jg);clear Kw81 l_c l_mf l_ms l_mn HCf HSf;exact ⟨_, _, _, rfl, HCw81.out, HSw81.out⟩
theorem jwd {p : Prop} (h : p := by
 have := run_klook_ok (P := Tryz.prog) (keyS Tryz.underlying9) Tryz.underlying65 (z := .int .i64 0) (w := W) (by simp [go_sem]) hb s;rw [h] at this; exact this) : p := h
theorem func_at {K : CKey} (hK : CFix K) {W : World} (hk : Keeps [] K.w0 W) {i : Nat} (hi : i < K.g.funcs.length) :
  ∃ g o pa pc fm na nc, K.fa = some ⟨g, o, none⟩ ∧ W.cell? ⟨g, o + i * 8, none⟩ = some (.string K.g.funcs[i].name) ∧ W.cell? ⟨g, o + i * 8 + 1, none⟩ = some (.slice pa K.g.funcs[i].params.length pc) ∧ W.cell? ⟨g, o + i * 8 + 2, none⟩ = some (.int .i64 K.g.funcs[i].body.kind) ∧ W.cell? ⟨g, o + i * 8 + 3, none⟩ = some (.string K.g.funcs[i].body.name) ∧ W.cell? ⟨g, o + i * 8 + 4, none⟩ = some (.float .f64 fm) ∧
   W.cell? ⟨g, o + i * 8 + 5, none⟩ = some (.slice na K.g.funcs[i].body.kids.length nc) ∧ W.cell? ⟨g, o + i * 8 + 6, none⟩ = some (.complex .f64 K.g.funcs[i].body.re K.g.funcs[i].body.im) ∧ W.cell? ⟨g, o + i * 8 + 7, none⟩ = some (.complex .f64 K.g.funcs[i].re K.g.funcs[i].im) ∧ SliceR StrE K.w0 (fun _ => True) K.g.funcs[i].params (.slice pa K.g.funcs[i].params.length pc) ∧ K.g.funcs[i].params.length ≤ pc := by
 obtain ⟨g, o, cap, c, hv, -, hg, ⟨pa, pc, b0, b1, b2, b3, b4, rfl, hp, hn⟩, hc⟩ := hK.funcs.get funcL hi;obtain ⟨fm, na, nc, hvb, -⟩ := hn.kids;simp only [Value.agg.injEq, Array.mk.injEq, List.cons.injEq, and_true] at hvb;obtain ⟨rfl, rfl, rfl, rfl, rfl⟩ := hvb
 have hc' : ∀ j u, [.string K.g.funcs[i].name, .slice pa K.g.funcs[i].params.length pc, .int .i64 K.g.funcs[i].body.kind, .string K.g.funcs[i].body.name, .float .f64 fm, .slice na K.g.funcs[i].body.kids.length nc, .complex .f64 K.g.funcs[i].body.re K.g.funcs[i].body.im, .complex .f64 K.g.funcs[i].re K.g.funcs[i].im][j]? = some u → W.cell? ⟨g, o + i * 8 + j, none⟩ = some u := fun j u hj => by
  rw [World.cell?_of_block (w := K.w0) (a := ⟨g, o + i * 8 + j, none⟩) (hk.block g hg jg), Nat.add_assoc]; exact hc j u hj
 have hfa : K.fa = some ⟨g, o, none⟩ := by injection hv
 exact ⟨g, o, pa, pc, fm, na, nc, hfa, hc' 0 _ rfl, hc' 1 _ rfl, hc' 2 _ rfl, hc' 3 _ rfl, hc' 4 _ rfl, hc' 5 _ rfl, hc' 6 _ rfl, hc' 7 _ rfl, hp, hp.cap⟩
theorem flookA_snoc (s : ByteArray) (f : FuncP) : ∀ (l : List FuncP) (i : Nat), flookA s (l ++ [f]) i = if flookA s l i = 0 then (if same s f.name then i + l.length + 1 else 0) else flookA s l i
 | [], i => by simp [flookA]
 | x :: l, i => by
   rw [List.cons_append]
   by_cases h : same s x.name = true
   ·have a1 : flookA s (x :: l) i = i + 1 := by rw [flookA, if_pos h]
    have a2 : flookA s (x :: (l ++ [f])) i = i + 1 := by rw [flookA, if_pos h]
    rw [a1, a2]; simp
   have a1 : flookA s (x :: l) i = flookA s l (i + 1) := by rw [flookA, if_neg h]
   have a2 : flookA s (x :: (l ++ [f])) i = flookA s (l ++ [f]) (i + 1) := by rw [flookA, if_neg h]
   rw [a1, a2, flookA_snoc s f l (i + 1)];have e : i + 1 + l.length + 1 = i + (x :: l).length + 1 := by simp; omega
   rw [e]
def MapFi (es : List (Ent ByteArray)) (l : List FuncP) : Prop := ∀ s, kval s es = if flookA s l 0 = 0 then none else some (.int .i64 (flookA s l 0 : Nat))
theorem MapFi.put {es : List (Ent ByteArray)} {l : List FuncP} {f : FuncP} {k : Nat} {v : Int} (h : MapFi es l) (hf : flookA f.name l 0 = 0) (hv : v = (l.length + 1 : Nat)) : MapFi (kput f.name (.int .i64 v) k es).1 (l ++ [f]) := by
 intro s;rw [kval_kput, flookA_snoc, h s]
 by_cases hs : s = f.name
 ·subst hs;rw [if_pos rfl, if_pos hf, if_pos (same_iff.2 rfl), hv];simp
 have : ¬ same s f.name = true := fun h => hs (same_iff.1 h)
 rw [if_neg hs, if_neg this]
 by_cases h0 : flookA s l 0 = 0 <;> simp [h0]
theorem MapFi.skip {es : List (Ent ByteArray)} {l : List FuncP} {f : FuncP} (h : MapFi es l) (hf : flookA f.name l 0 ≠ 0) : MapFi es (l ++ [f]) := by
 intro s;rw [flookA_snoc, h s]
 by_cases hs : same s f.name = true
 ·rw [same_iff.1 hs, if_neg hf, if_neg hf, if_neg hf]
 rw [if_neg hs]
 by_cases h0 : flookA s l 0 = 0 <;> simp [h0]
theorem ck_start {K : CKey} (hK : CFix K) {w W : World} (h0 : Keeps [] K.w0 w) (hk : Keeps [K.mf] w W) (hc : w.heap[K.c]? = some (ckC K ns0 none 0)) (hms : w.heap[K.ms]? = some (.map #[] 0)) (hmn : w.heap[K.mn]? = some (.map #[] 0)) {es : List (Ent ByteArray)} {k : Nat} (hmf : W.heap[K.mf]? = some (.map (ents (fun s => Value.string s) es) k)) (he : MapFi es K.g.funcs) : ∃ T ua uc, CK K T ua uc ns0 W := by
 refine ⟨fun _ => False, none, 0, h0.trans hk (by simp; exact hK.mf), hk.at hc (by simp [hK.ne.1]), ⟨es, k, hmf, fun s => ?_⟩, ⟨[], 0, hk.at hms (by simp [Ne.symm hK.ne.2.2.2.1]), rfl⟩, ⟨[], 0, hk.at hmn (by simp [Ne.symm hK.ne.2.2.2.2.1]), rfl, by simp, by simp⟩, OwnL.nil, fun _ h => h.elim, fun _ h => h.elim, ⟨id, id, id, id⟩, Nat.zero_le _, by decide, by decide⟩;rw [he s];unfold flook
 by_cases h : flookA s K.g.funcs 0 = 0 <;> simp [h]
def HedI1 (K : CKey) (w : World) (g : Nat) (j : Value) (W : World) : Prop :=
 ∃ k : Nat, j = .int .i64 k ∧ k ≤ K.g.funcs.length ∧ g + k = K.g.funcs.length + 1 ∧ Keeps [K.mf] w W ∧ ∃ es ek, W.heap[K.mf]? = some (.map (ents (fun s => Value.string s) es) ek) ∧ MapFi es (K.g.funcs.take k)
theorem look65n {b : Nat} {W : World} {es : List (Ent ByteArray)} {k : Nat} {s : ByteArray} (hb : W.heap[b]? = some (.map (ents (fun s => Value.string s) es) k)) (h : kval s es = none) : (Instr.lookup 65 (.map (some b)) (.string s) true).run Tryz.prog W = .ok (.tuple #[.int .i64 0, .bool false]) W := by
 exact jwd
theorem look65s {b : Nat} {W : World} {es : List (Ent ByteArray)} {k : Nat} {s : ByteArray} {v : Value} (hb : W.heap[b]? = some (.map (ents (fun s => Value.string s) es) k)) (h : kval s es = some v) : (Instr.lookup 65 (.map (some b)) (.string s) true).run Tryz.prog W = .ok (.tuple #[v, .bool true]) W := by
 exact jwd
theorem run_fns {b : Nat} {W : World} {es : List (Ent ByteArray)} {k : Nat} (hb : W.heap[b]? = some (.map (ents (fun s => Value.string s) es) k)) (s : ByteArray) (v : Value) :
  (Instr.mapUpdate 65 (.map (some b)) (.string s) v).run Tryz.prog W = .ok () (mset W b (.map (ents (fun s => Value.string s) (kput s v k es).1) (kput s v k es).2)) :=
 run_kput (P := Tryz.prog) (keyS Tryz.underlying9) Tryz.underlying65 hb s v
def HedI2 (K : CKey) (T : Nat → Prop) (ua : Option Addr) (uc : Nat) (st' : NS) (w : World) (g : Nat) (j : Value) (W : World) : Prop :=
 ∃ k : Nat, j = .int .i64 k ∧ k ≤ K.g.funcs.length ∧ g + k = K.g.funcs.length + 1 ∧ ∃ st, headsA K.g k (K.g.funcs.drop k) st = st' ∧ CK K T ua uc st W ∧ CStep K T T w W
def HedI3 (K : CKey) (T : Nat → Prop) (ua : Option Addr) (uc : Nat) (m : Nat) (f : FuncP) (st' : NS) (w : World) (B : Nat) (ob : Obj) (g : Nat) (j : Value) (W : World) : Prop :=
 ∃ k : Nat, j = .int .i64 k ∧ k ≤ f.params.length ∧ g + k = f.params.length + 1 ∧ ∃ st, headPs K.g m f (f.params.take k) (f.params.drop k) st = st' ∧ CK K T ua uc st W ∧ CStep K T T w W ∧ W.heap[B]? = some ob
def HedI4 (K : CKey) (T : Nat → Prop) (ua : Option Addr) (uc : Nat) (f : FuncP) (s : ByteArray) (l : List ByteArray) (st' : NS) (w : World) (B : Nat) (ob : Obj) (g : Nat) (j : Value) (W : World) : Prop :=
 ∃ k : Nat, j = .int .i64 k ∧ k ≤ l.length ∧ g + k = l.length + 1 ∧ ∃ st, headP f s (l.drop k) st = st' ∧ CK K T ua uc st W ∧ CStep K T T w W ∧ W.heap[B]? = some ob
theorem fault_same {K : CKey} (hK : CFix K) {T : Nat → Prop} {ua : Option Addr} {uc : Nat} {st : NS} {w : World} (h : CK K T ua uc st w) (re im : Nat) (e : Int) : Calls Tryz.prog 42 #[.pointer (some ⟨K.c, 0, none⟩), .complex .f64 re im, .int .i64 e] w fun r w' => r = .returned (.tuple #[]) ∧ CK K T ua uc (faultF st re im e) w' ∧ CStep K T T w w' := by
 unfold faultF
 by_cases h0 : st.e = 0
 ·rw [if_pos h0];exact fault_y hK h re im e jeb
 rw [if_neg h0];exact fault_n hK h re im e jeb
open Go.Shelf Go.Sort Go.RowKit
def laysRen : Go.Shelf.Ren := ⟨fun | 192 => 46 | 190 => 79 | 125 => 119 | 258 => 118 | 128 => 152 | 129 => 153 | 302 => 143 | 303 => 144 | 304 => 145 | 305 => 146 | 306 => 147 | 307 => 148 | 308 => 149 | 309 => 150 | 310 => 151 | 333 => 178 | 329 => 179 | 330 => 180 | 334 => 181 | 335 => 182 | 336 => 183 | 344 => 210 | n => n, fun | 31 => 22 | 0 => 0 | 9 => 9 | 3 => 3 | 46 => 178 | 51 => 203 | 53 => 189 | 4 => 4 | 183 => 197 | 182 => 196 | 131 => 97 | 5 => 5 | 218 => 220 | 222 => 59 | 228 => 256 | 229 => 174 | n => n, fun n => n⟩
theorem laysSort : Lays.n192 Tryz.prog laysRen := {
 mixed := by kernel_rfl
 f125 := Tryz.func119.trans (congrArg some (by kernel_rfl))
 f128 := Tryz.func152.trans (congrArg some (by kernel_rfl))
 f129 := Tryz.func153.trans (congrArg some (by kernel_rfl))
 f190 := Tryz.func79.trans (congrArg some (by kernel_rfl))
 f192 := Tryz.func46.trans (congrArg some (by kernel_rfl))
 f258 := Tryz.func118.trans (congrArg some (by kernel_rfl))
 f302 := Tryz.func143.trans (congrArg some (by kernel_rfl))
 f303 := Tryz.func144.trans (congrArg some (by kernel_rfl))
 f304 := Tryz.func145.trans (congrArg some (by kernel_rfl))
 f305 := Tryz.func146.trans (congrArg some (by kernel_rfl))
 f306 := Tryz.func147.trans (congrArg some (by kernel_rfl))
 f307 := Tryz.func148.trans (congrArg some (by kernel_rfl))
 f308 := Tryz.func149.trans (congrArg some (by kernel_rfl))
 f309 := Tryz.func150.trans (congrArg some (by kernel_rfl))
 f310 := Tryz.func151.trans (congrArg some (by kernel_rfl))
 f329 := Tryz.func179.trans (congrArg some (by kernel_rfl))
 f330 := Tryz.func180.trans (congrArg some (by kernel_rfl))
 f333 := Tryz.func178.trans (congrArg some (by kernel_rfl))
 f334 := Tryz.func181.trans (congrArg some (by kernel_rfl))
 f335 := Tryz.func182.trans (congrArg some (by kernel_rfl))
 f336 := Tryz.func183.trans (congrArg some (by kernel_rfl))
 f344 := Tryz.func210.trans (congrArg some (by kernel_rfl))
 t0 := Tryz.underlying0
 a0 := Tryz.isAgg0
 z0 := Tryz.sizeOf0
 v0 := Tryz.zeroValue0
 t3 := Tryz.underlying3
 a3 := Tryz.isAgg3
 z3 := Tryz.sizeOf3
 v3 := Tryz.zeroValue3
 t4 := Tryz.underlying4
 a4 := Tryz.isAgg4
 z4 := Tryz.sizeOf4
 v4 := Tryz.zeroValue4
 t5 := Tryz.underlying5
 a5 := Tryz.isAgg5
 z5 := Tryz.sizeOf5
 v5 := Tryz.zeroValue5
 t9 := Tryz.underlying9
 a9 := Tryz.isAgg9
 z9 := Tryz.sizeOf9
 v9 := Tryz.zeroValue9
 t31 := Tryz.underlying22
 a31 := Tryz.isAgg22
 z31 := Tryz.sizeOf22
 v31 := Tryz.zeroValue22
 t46 := Tryz.underlying178
 a46 := Tryz.isAgg178
 z46 := Tryz.sizeOf178
 v46 := Tryz.zeroValue178
 t51 := Tryz.underlying203
 a51 := Tryz.isAgg203
 z51 := Tryz.sizeOf203
 v51 := Tryz.zeroValue203
 t53 := Tryz.underlying189
 a53 := Tryz.isAgg189
 z53 := Tryz.sizeOf189
 v53 := Tryz.zeroValue189
 t131 := Tryz.underlying97
 a131 := Tryz.isAgg97
 z131 := Tryz.sizeOf97
 v131 := Tryz.zeroValue97
 t182 := Tryz.underlying196
 a182 := Tryz.isAgg196
 z182 := Tryz.sizeOf196
 v182 := Tryz.zeroValue196
 t183 := Tryz.underlying197
 a183 := Tryz.isAgg197
 z183 := Tryz.sizeOf197
 v183 := Tryz.zeroValue197
 t218 := Tryz.underlying220
 a218 := Tryz.isAgg220
 z218 := Tryz.sizeOf220
 v218 := Tryz.zeroValue220
 t222 := Tryz.underlying59
 a222 := Tryz.isAgg59
 z222 := Tryz.sizeOf59
 v222 := Tryz.zeroValue59
 t228 := Tryz.underlying256
 a228 := Tryz.isAgg256
 z228 := Tryz.sizeOf256
 v228 := Tryz.zeroValue256
 t229 := Tryz.underlying174
 a229 := Tryz.isAgg174
 z229 := Tryz.sizeOf174
 v229 := Tryz.zeroValue174 }
theorem strings_any (blk off cap : Nat) (ss : List (List UInt8)) (w : World) (hH : Holds encStr w blk off ss.toArray) (hblk : blk < w.heap.size) (hsz : ss.length < 4611686018427387904) :
  Calls Tryz.prog 46 #[.slice (some ⟨blk, off, none⟩) ss.length cap] w fun e w' =>
   e = .returned (.tuple #[]) ∧ ∃ n os, w' = grow (putRow encStr (Sort.ahead w n) blk off (ss.mergeSort fun x y => decide (x ≤ y)).toArray) os :=
 Any.sort_Strings laysSort blk off cap ss w hH hblk hsz
theorem insertion_nil (w : World) : Calls Tryz.prog 143 #[.slice none 0 0, .int .i64 0, .int .i64 0] w fun e w' => e = .returned (.tuple #[]) ∧ Keeps [] w w' := by
 go_enter Tryz.func143, Tryz.ntmps143
 go_wp2_with fail
 go_loopg [6] 1 (fun g j wr => wr = w ∧ j = .int .i64 1)
 case atStart => exact zfb
 obtain ⟨rfl, rfl⟩ := hrel
 go_wp2_with fail
 go_end0
 exact ⟨rfl, Keeps.refl [] _⟩
theorem pdq_nil (w : World) (l : Int) : Calls Tryz.prog 118 #[.slice none 0 0, .int .i64 0, .int .i64 0, .int .i64 l] w fun e w' => e = .returned (.tuple #[]) ∧ Keeps [] w w' := by
 go_enter Tryz.func118, Tryz.ntmps118
 go_wp2_with fail
 go_loopg [1, 2] 1 (fun g j k wr => wr = w ∧ j = .int .i64 0 ∧ k = .int .i64 0)
 case atStart => exact ⟨rfl, rfl, rfl⟩
 obtain ⟨rfl, rfl, rfl⟩ := hrel
 go_wp2_with fail
 refine (insertion_nil _).mono ?_;rintro r w' ⟨rfl, hk⟩
 go_wp2_with fail
 exact bodyPost_ret (v := .tuple #[]) jcb rfl ⟨rfl, hk⟩
theorem len_0 (w : World) : Calls Tryz.prog 119 #[.int .u64 0] w fun e w' => ∃ l, e = .returned (.int .i64 l) ∧ w' = w := by
 go_enter Tryz.func119, Tryz.ntmps119
 go_wp2
 exact bodyPost_ret (by simp [results, rsA] <;> rfl) rfl ⟨_, rfl, rfl⟩
theorem sort_nil (w : World) : Calls Tryz.prog 79 #[.slice none 0 0] w fun e w' => e = .returned (.tuple #[]) ∧ Keeps [] w w' := by
 go_enter Tryz.func79, Tryz.ntmps79
 go_wp2_with fail
 refine (len_0 _).mono ?_;rintro r w' ⟨l, rfl, rfl⟩
 go_wp2_with fail
 refine (pdq_nil _ l).mono ?_;rintro r w2 ⟨rfl, hk⟩
 go_wp2_with fail
 go_end0
 exact ⟨rfl, hk⟩
theorem strings_nil (w : World) : Calls Tryz.prog 46 #[.slice none 0 0] w fun e w' => e = .returned (.tuple #[]) ∧ Keeps [] w w' := by
 go_enter Tryz.func46, Tryz.ntmps46
 go_wp2_with fail
 refine (sort_nil _).mono ?_;rintro r w2 ⟨rfl, hk⟩
 go_wp2_with fail
 go_end0
 exact ⟨rfl, hk⟩
open Go.RowKit Go.Sort
theorem ltB_iff : ∀ {x y : List UInt8}, ltB x y = true ↔ x < y
 | [], [] => by simp [ltB]
 | _ :: _, [] => by simp [ltB]
 | [], _ :: _ => by simp [ltB]
 | a :: x, b :: y => by
   rw [List.cons_lt_cons_iff, ltB]
   by_cases h : a < b
   ·simp [h]
   rw [if_neg h]
   by_cases h2 : b < a
   ·rw [if_pos h2];have : a ≠ b := fun e => by subst e; exact h h2
    simp [h, this]
   rw [if_neg h2, ltB_iff];have : a = b := UInt8.le_antisymm (UInt8.not_lt.1 h2) (UInt8.not_lt.1 h);simp [this]
theorem insB_perm (s : ByteArray) : ∀ l, List.Perm (insB s l) (s :: l)
 | [] => List.Perm.refl _
 | x :: l => by
   rw [insB]
   split
   ·exact ((insB_perm s l).cons x).trans (List.Perm.swap s x l)
   exact List.Perm.refl _
theorem sortB_perm : ∀ l, List.Perm (sortB l) l
 | [] => List.Perm.refl _
 | x :: l => (insB_perm x (sortB l)).trans ((sortB_perm l).cons x)
def leS (x y : ByteArray) : Prop := x.data.toList ≤ y.data.toList
theorem insB_sorted (s : ByteArray) : ∀ l, l.Pairwise leS → (insB s l).Pairwise leS
 | [], _ => by simp [insB]
 | x :: l, h => by
   rw [List.pairwise_cons] at h;rw [insB]
   split
   ·rename_i hlt;rw [List.pairwise_cons];refine ⟨fun y hy => ?_, insB_sorted s l h.2⟩
    rcases List.mem_cons.1 ((insB_perm s l).mem_iff.1 hy) with rfl | hy
    ·exact List.le_of_lt (ltB_iff.1 hlt)
    exact h.1 y hy
   rename_i hlt;have hsx : leS s x := List.not_lt.1 fun h2 => hlt (ltB_iff.2 h2)
   rw [List.pairwise_cons, List.pairwise_cons];refine ⟨fun y hy => ?_, h.1, h.2⟩
   rcases List.mem_cons.1 hy with rfl | hy
   ·exact hsx
   exact List.le_trans hsx (h.1 y hy)
theorem sortB_sorted : ∀ l, (sortB l).Pairwise leS
 | [] => List.Pairwise.nil
 | x :: l => insB_sorted x _ (sortB_sorted l)
theorem leS_antisymm {x y : ByteArray} (h1 : leS x y) (h2 : leS y x) : x = y := by
 have h : x.data.toList = y.data.toList := List.le_antisymm h1 h2;have h3 : x.data = y.data := by rw [← Array.toList_inj]; exact h
 cases x; cases y; simp_all
theorem sortB_of_perm {l l' : List ByteArray} (h : List.Perm l l') : sortB l = sortB l' :=
 ((sortB_perm l).trans (h.trans (sortB_perm l').symm)).eq_of_pairwise (le := leS) (fun _ _ _ _ h1 h2 => leS_antisymm h1 h2) (sortB_sorted l) (sortB_sorted l')
theorem mergeSort_sortB (l : List ByteArray) : (l.map (·.data.toList)).mergeSort (fun x y => decide (x ≤ y)) = (sortB l).map (·.data.toList) := by
 have hp := List.mergeSort_perm (l.map (·.data.toList)) (fun x y => decide (x ≤ y));have hs := List.pairwise_mergeSort (le := fun (x y : List UInt8) => decide (x ≤ y)) (fun a b c h1 h2 => by simp only [decide_eq_true_eq] at *; exact List.le_trans h1 h2) (fun a b => by simp only [Bool.or_eq_true, decide_eq_true_eq]; exact List.le_total a b) (l.map (·.data.toList));refine (hp.trans ((sortB_perm l).map _).symm).eq_of_pairwise (le := fun x y => x ≤ y) (fun _ _ _ _ h1 h2 => List.le_antisymm h1 h2) (hs.imp fun h => by simpa using h) ?_;rw [List.pairwise_map];exact (sortB_sorted l).imp fun h => h
theorem toBA (s : ByteArray) : (⟨s.data.toList.toArray⟩ : ByteArray) = s := by cases s; simp
set_option maxHeartbeats 1000000 in
theorem sort_str {w : World} {b : Nat} {T : Nat → Prop} {l : List ByteArray} {v : Value} (hO : OwnL StrE 9 1 w b T l v) (hl : l.length ≤ 1000000) : Calls Tryz.prog 46 #[v] w fun r w' => r = .returned (.tuple #[]) ∧ OwnL StrE 9 1 w' b T (sortB l) v ∧ ∃ fl : List Nat, (∀ x ∈ fl, T x) ∧ Keeps fl w w' := by
 obtain ⟨xs, ho, ht, hx⟩ := hO
 have hxs0 : ∀ {l : List ByteArray} {xs : List Value}, Elems (StrE w (fun g => T g ∧ v.ownBlock ≠ some g)) l xs → xs = l.map Value.string := by
  intro l xs h
  induction h with
  | nil => rfl
  | cons h1 _ ih => rw [h1, ih]; rfl
 have hxs : xs = l.map Value.string := hxs0 hx;clear hxs0
 have hE : ∀ (w' : World) (S : Nat → Prop) (l : List ByteArray), Elems (StrE w' S) l (l.map Value.string) := by
  intro w' S l
  induction l with
  | nil => exact .nil
  | cons a l ih => exact .cons (c := [.string a]) rfl ih
 rcases ho.2 with ⟨rfl, hn⟩ | ⟨g, cap, cur, rfl, hb, hg, h1, h2, h3, h4⟩
 ·have : l = [] := List.length_eq_zero_iff.1 hn;subst this;refine (strings_nil w).mono fun r w' ⟨h5, h6⟩ => ⟨h5, ?_, [], by simp, h6⟩
  exact OwnL.nil
 have hcell : ∀ j (hj : j < l.length), cur[j]? = some (.string l[j]) := fun j hj => by
  have : (cur.toList.take (l.length * 1))[j]? = some (.string l[j]) := by rw [h4, hxs]; simp [hj]
  rw [List.getElem?_take] at this
  split at this
  ·simpa using this
  cases this
 have hH : Holds encStr w g 0 (l.map (·.data.toList)).toArray := fun j hj => by
  have hj : j < l.length := by simpa using hj
  refine ⟨?_, by rw [Nat.zero_add]; exact frozen_of_heap hg j⟩;rw [Nat.zero_add, cell_of_heap hg, hcell j hj];simp [encStr, hj, toBA]
 have hc := strings_any g 0 cap (l.map (·.data.toList)) w hH (h_lt hg) qi;rw [List.length_map] at hc;refine hc.mono fun r w' ⟨h5, n, os, h6⟩ => ⟨h5, ?_⟩
 rw [mergeSort_sortB] at h6;have hlen : (sortB l).length = l.length := (sortB_perm l).length_eq;subst h6
 have hk : Keeps [g] w (grow (putRow encStr (Sort.ahead w n) g 0 ((sortB l).map (·.data.toList)).toArray) os) := by
  refine ⟨rfl, rfl, rfl, by simp, fun k hk hn => ?_⟩;rw [heap_grow_old _ _ (by simpa using hk)];simp only [putRow, mapBlock, heap_ahead, Array.getElem?_modify];rw [if_neg (by simp at hn; exact fun e => hn e.symm)]
 have hg2 : (grow (putRow encStr (Sort.ahead w n) g 0 ((sortB l).map (·.data.toList)).toArray) os).heap[g]? = some (.cells (putCells encStr 0 ((sortB l).map (·.data.toList)).toArray cur) 9 (0, 0)) := by
  rw [heap_grow_old _ _ (by simpa using h_lt hg)];simp only [putRow, mapBlock, heap_ahead, Array.getElem?_modify, hg];simp [onCells]
 refine ⟨⟨(sortB l).map Value.string, ⟨by simp, .inr ⟨g, cap, _, by rw [hlen], hb, hg2, by omega, h2, by simp [putCells]; omega, ?_⟩⟩, ht, hE _ _ _⟩, [g], by simp; exact ht g rfl, hk⟩;apply List.ext_getElem?;intro j;rw [List.getElem?_take]
 by_cases hj : j < l.length
 ·rw [if_pos qg];have hjs : j < (sortB l).length := by omega
  have hj2 : j < cur.size := by omega
  simp [putCells, hj2, hjs, encStr, toBA]
 rw [if_neg qg, List.getElem?_eq_none qi]
def globG (t : Thing) : Bool := !(decide (t.1 > 0) || specialF t.2)
def arrK (st : NS) (kf : Kinds) (t : Thing) : Bool := kof (rootD st t) kf == 2
def pickN (st : NS) (kf : Kinds) (arr : Bool) (l : List Thing) : List ByteArray := (l.filter fun t => globG t && (arrK st kf t == arr)).map (·.2)
theorem namesF_ok {st : NS} {kf : Kinds} {arr : Bool} : ∀ {l : List Thing} {r : List ByteArray}, namesF st kf arr l = some r → (∀ t ∈ l, globG t = true → rootN st t = some (rootD st t)) ∧ r = pickN st kf arr l
 | [], r, h => by
   simp only [namesF, Option.some.injEq] at h;exact ⟨by simp, h.symm⟩
 | t :: l, r, h => by
   unfold namesF at h
   by_cases hg : (decide (t.1 > 0) || specialF t.2) = true
   ·rw [if_pos hg] at h;obtain ⟨h1, h2⟩ := namesF_ok h;have hgf : globG t = false := by unfold globG; rw [hg]; rfl
    refine ⟨fun u hu hgu => ?_, ?_⟩
    ·rcases List.mem_cons.1 hu with rfl | hu
     ·rw [hgf] at hgu; cases hgu
     exact h1 u hu hgu
    rw [h2]; unfold pickN; rw [List.filter_cons_of_neg (by rw [hgf]; simp)]
   rw [if_neg hg] at h;have hgt : globG t = true := by unfold globG; simp only [Bool.not_eq_true] at hg; rw [hg]; rfl
   simp only [Option.bind_eq_bind, Option.bind_eq_some_iff] at h;obtain ⟨x, hx, rest, hr, h⟩ := h;have hD : rootD st t = x := by unfold rootD; rw [hx]; rfl
   obtain ⟨h1, h2⟩ := namesF_ok hr;refine ⟨fun u hu hgu => ?_, ?_⟩
   ·rcases List.mem_cons.1 hu with rfl | hu
    ·rw [hx, hD]
    exact h1 u hu hgu
   subst h2;unfold pickN
   by_cases ha : ((kof x kf == 2) == arr) = true
   ·rw [if_pos ha] at h;rw [List.filter_cons_of_pos (by unfold arrK; rw [hgt, hD, ha]; rfl)]
    simpa [pickN] using h.symm
   rw [if_neg ha] at h;rw [List.filter_cons_of_neg (by unfold arrK; rw [hgt, hD]; simpa using ha)]
   simpa [pickN] using h.symm
theorem pickN_perm {st : NS} {kf : Kinds} {arr : Bool} {p l : List Thing} (h : p.Perm l) : (pickN st kf arr p).Perm (pickN st kf arr l) := (h.filter _).map _
theorem pickN_len {st : NS} {kf : Kinds} {arr : Bool} (l : List Thing) : (pickN st kf arr l).length ≤ l.length := by
 unfold pickN; rw [List.length_map]; exact List.length_filter_le _ _
theorem pickN_yes {st : NS} {kf : Kinds} {arr : Bool} {t : Thing} (hg : globG t = true) (ha : arrK st kf t = arr) (p : List Thing) : pickN st kf arr (p ++ [t]) = pickN st kf arr p ++ [t.2] := by
 unfold pickN; rw [List.filter_append, List.map_append, List.filter_cons_of_pos (by rw [hg, ha]; simp)]; rfl
theorem pickN_no {st : NS} {kf : Kinds} {arr : Bool} {t : Thing} (h : globG t = false ∨ arrK st kf t = !arr) (p : List Thing) : pickN st kf arr (p ++ [t]) = pickN st kf arr p := by
 unfold pickN; rw [List.filter_append, List.map_append, List.filter_cons_of_neg (by rcases h with h | h <;> (rw [h]; cases arr <;> simp))]; simp
def BoolE (_ : World) (_ : Nat → Prop) (u : Bool) (c : List Value) : Prop := c = [.bool u]
theorem boolL : ElemL BoolE 1 := {
 keep := fun h _ _ _ => h
 len := fun h => by rw [h]; rfl
 one := fun h u hu => by rw [h] at hu; simp at hu; rw [hu]; rfl }
def FlagsE (w : World) (S : Nat → Prop) (l : List Bool) (c : List Value) : Prop := ∃ a cap, c = [.slice a l.length cap] ∧ SliceR BoolE w S l (.slice a l.length cap)
theorem flagsL : ElemL FlagsE 1 := {
 keep := fun ⟨a, cap, h, hs⟩ hk hf hS => ⟨a, cap, h, (hs.kp boolL hk hf).to boolL hS⟩
 len := fun ⟨_, _, h, _⟩ => by rw [h]; rfl
 one := fun ⟨_, _, h, _⟩ u hu => by rw [h] at hu; simp at hu; rw [hu]; rfl }
def InfoV (w : World) (S : Nat → Prop) (x : InfoP) (v : Value) : Prop := ∃ sa sc aa ac pa pc, v = .agg #[.slice sa x.scalars.length sc, .slice aa x.arrays.length ac, .slice pa x.params.length pc] ∧ SliceR StrE w S x.scalars (.slice sa x.scalars.length sc) ∧ SliceR StrE w S x.arrays (.slice aa x.arrays.length ac) ∧ SliceR FlagsE w S x.params (.slice pa x.params.length pc)
theorem InfoV.kp {w w' : World} {S : Nat → Prop} {fp : List Nat} {x : InfoP} {v : Value} (h : InfoV w S x v) (hk : Keeps fp w w') (hf : ∀ x ∈ fp, ¬ S x) : InfoV w' S x v := by
 obtain ⟨sa, sc, aa, ac, pa, pc, h, h1, h2, h3⟩ := h;exact ⟨sa, sc, aa, ac, pa, pc, h, h1.kp strL hk hf, h2.kp strL hk hf, h3.kp flagsL hk hf⟩
end Go.Proofs.YtkfillfkbhbbjaaGreatDoor
