/- MkQ. -/
import Derived.Test.YtkfillfkbhbbjaaGreatDoorRegS
import Derived.Test.YtkfillfkbhbbjaaGreatDoorPrgD
import Derived.Deep.RegionHeld3
import Derived.Deep.CutBlock
import Derived.Deep.DeepCutAuto
import Derived.Deep.RegionLaw
set_option maxRecDepth 100000
set_option maxHeartbeats 4000000
set_option linter.unusedSimpArgs false
set_option linter.unusedVariables false
namespace Go.Proofs.YtkfillfkbhbbjaaGreatDoor
open Go.RowKit
theorem jad {p : Prop} (h : p := by
 replace HP := zh (HP.out.kp hk jg);replace HG := zh (hk.at HG.out jg);replace HO := zh (HO.out.step hk jg);replace HR := zh (hk.at HR.out jg);replace HKp := zh (HKp.out.step hk jg);replace HOb := zh (HOb.out.step hk jg);replace HZ := zh (Nat.le_trans HZ.out hk.size);replace HI := zh (HI.out.step hk jg);have HS3 := zh hr;clear hk hr;refine wpAnyH_ready (rs := [11]) jh jg ?_;refine AllReadyH.cons rfl (fun K hK => ?_) AllReadyH.nil;refine step_ow rfl (.tmp 60) (.tmp 68) rfl rfl rfl HOb.out HS3.out HI.out (Nat.le_refl _) HZ.out HS6.out qg ?_;rintro vb wb fl hfl hk hown;obtain ⟨aaq, ccq, rfl⟩ := hown.slice;replace HP := zh (HP.out.kp hk (fun x hx => by have := hfl x hx; have := HKE.out; have := HGE.out; have := HRG.out; have := HeR.out; omega));replace HG := zh (hk.at HG.out (fun hx => by have := hfl _ hx; have := HKE.out; have := HGE.out; have := HRG.out; have := HeR.out; omega));replace HO := zh (HO.out.step hk (fun x hx => by have := hfl x hx; have := HKE.out; have := HGE.out; have := HRG.out; have := HeR.out; omega));replace HR := zh (hk.at HR.out (fun hx => by have := hfl _ hx; have := HKE.out; have := HGE.out; have := HRG.out; have := HeR.out; omega));replace HKp := zh (HKp.out.step hk (fun x hx => by have := hfl x hx; have := HKE.out; have := HGE.out; have := HRG.out; have := HeR.out; omega));replace HZ := zh (Nat.le_trans HZ.out hk.size);replace HOb := zh hown;clear HI HS3;refine hK.out _ _ (cellK (W := wb) (fp := []) (Keeps.refl [] _) HR.out rfl jg) (fun hSS => ?_)
 clear hK hk hown hfl;refine zac ?_;refine wpAnyH_take (i := 12) (v := ?_) rfl jh jh jh (fun c a' w' => hR3 c _ _ _ (fun h => h)) (Or.inl ⟨by rfl, ?_⟩) hSS ?_
 rotate_left
 ·intro w' hSw; (try dsimp only at hSw); go_simp; (try with_reducible rfl)
 refine jzb ?_;refine wpAnyH_take (i := 13) (v := ?_) rfl jh jh jh (fun c a' w' => hR3 c _ _ _ (fun h => h)) (Or.inl ⟨by rfl, ?_⟩) hSS ?_
 rotate_left
 ·intro w' hSw; (try dsimp only at hSw); go_simp; (try with_reducible rfl)
 refine jzb ?_;obtain ⟨lR, z0, z1, z2, z3, z4, z5, z6, z7, z8, f0, f1, f2, f3, f4, f5, f6, f7, f8⟩ := cf9 HR.out;refine wpAnyH_done jh ?_ _;refine hR1 _ _ (fun K' hK' => ?_);have HQQ := zh hK';clear hR1 hR3 hSS hK'
 go_simp
 refine HQQ.out _ _ ?_;clear HQQ;refine qbc ?_;rintro wd ⟨hk, hr⟩;replace HP := zh (HP.out.kp hk jm);replace HG := zh (hk.at HG.out qdb);replace HO := zh (HO.out.step hk qr);replace HR := zh hr;replace HKp := zh (HKp.out.step hk jg);replace HOb := zh (HOb.out.step hk qi);have HKb : Hid (Kd (R + 1) 24487 wd (.slice aaq (bm + 1) ccq)) := zh ((HOb.out.kids.low hb6).to' qg);clear hk hr lR z0 z1 z2 z3 z4 z5 z6 z7 z8 f0 f1 f2 f3 f4 f5 f6 f7 f8;have HRl : Hid (Rl (R + 1) 24550 wd [.int .i64 kd, .int .i64 n, .slice pa pl pc, .int .i64 30, .string ⟨#[]⟩, .float .f64 0, .slice aaq (bm + 1) ccq, .complex .f64 0 0, .complex .f64 0 0]) := zh (Rl.mk HKp.out.kd (HKb.out.mk zi));obtain ⟨lR, z0, z1, z2, z3, z4, z5, z6, z7, z8, f0, f1, f2, f3, f4, f5, f6, f7, f8⟩ := cf9 HR.out;obtain ⟨lG, g0, g1, h0, h1⟩ := cf2 HG.out
 go_wp2_with (
  at_builtin
  go_loud (
   refine zcc ?_;rintro wq ⟨hk, hr⟩;have HPq := zh (HP.out.kp hk jg);have HGq := zh (hk.at HG.out jg);refine app_owR rfl (.tmp 73) (.tmp 75) rfl rfl rfl (HO.out.step hk jg) hr (HRl.out.step hk jg) jab ju HE3.out qg ?_))
 intro va' wa fl hfl hk2 hown;obtain ⟨aa, cc, rfl⟩ := hown.slice;have HPa := zh (HPq.out.kp hk2 (fun x hx => by have := hfl x hx; omega));have HGa := zh (hk2.at HGq.out (fun hx => by have := hfl _ hx; have := HGE.out; omega));have HOa := zh hown;clear hk hr hk2 hown hfl HPq HGq;clear lG g0 g1 h0 h1 lR z0 z1 z2 z3 z4 z5 z6 z7 z8 f0 f1 f2 f3 f4 f5 f6 f7 f8;obtain ⟨lG, g0, g1, h0, h1⟩ := cf2 HGa.out
 go_wp2_with fail
 go_roundg (gk - 1)
 case measure => omega
 have e2 := Nat.succ_mul m 24550;simp only [Nat.succ_eq_add_one] at e2;refine jcc ?_;rintro wz ⟨hk, hr⟩;exact qcc) : p := h
def Wrap (p : Prop) : Prop := p
theorem Wrap.out {p : Prop} (h : Wrap p) : p := h
theorem Wrap.mk {p : Prop} (h : p) : Wrap p := h
theorem Kd.to' {b Z Z' : Nat} {W : World} {v : Value} (h : Kd b Z W v) (hZ : Z ≤ Z') : Kd b Z' W v := by
 obtain ⟨ns, h1, h2, h3⟩ := h;exact ⟨ns, h1, h2, by omega⟩
theorem cellK {W V : World} {fp : List Nat} {g j : Nat} {c : Array Value} {t : TypeId} {f : Nat × Nat} {x : Value} (hk : Keeps fp W V) (hr : W.heap[g]? = some (.cells c t f)) (hx : c[j]? = some x) (hn : g ∉ fp) : V.cell? ⟨g, j, none⟩ = some x := by
 rw [cell_of_heap (hk.at hr hn) j]; exact hx
def Kb (b e Z : Nat) (W : World) (v : Value) : Prop := ∃ ns, KidsR W (fun g => b ≤ g ∧ g < e) ns v ∧ wfK ns ∧ ksize ns ≤ Z
theorem Kd.bd {b Z : Nat} {W : World} {v : Value} (h : Kd b Z W v) : Kb b W.heap.size Z W v := by
 obtain ⟨ns, h1, h2⟩ := h;exact ⟨ns, h1.bound, h2⟩
theorem Kb.step {b e Z : Nat} {W W' : World} {v : Value} {fp : List Nat} (h : Kb b e Z W v) (hk : Keeps fp W W') (hf : ∀ x ∈ fp, x < b ∨ e ≤ x) : Kb b e Z W' v := by
 obtain ⟨n, h1, h2⟩ := h;exact jpb
theorem Kb.kd {b e Z : Nat} {W : World} {v : Value} (h : Kb b e Z W v) : Kd b Z W v := by
 obtain ⟨n, h1, h2⟩ := h;exact ⟨n, h1.keep (Keeps.refl [] W) jg (fun x hx => hx.1), h2⟩
theorem n_v (kd : Int) (nm : ByteArray) (a : Option Addr) (l c : Nat) (w : World) : Calls Tryz.prog 32 #[.int .i64 kd, .string nm, .slice a l c] w fun r w' => ∃ v, r = .returned v ∧ (v = .agg #[.int .i64 kd, .string nm, .float .f64 0, .slice a l c, .complex .f64 0 0] ∧ Keeps [] w w') :=
 (n_any kd nm a l c w).mono fun _ _ ⟨h1, h2⟩ => ⟨_, h1, rfl, h2⟩
theorem Kd.low {b b' Z : Nat} {W : World} {v : Value} (h : Kd b Z W v) (hb : b' ≤ b) : Kd b' Z W v := by
 obtain ⟨ns, h1, h2, h3⟩ := h;exact ⟨ns, h1.keep (Keeps.refl [] W) jg (fun x hx => Nat.le_trans hb hx), h2, h3⟩
def pickI (q : Nat) : Int := [5, 5, 5, 6, 6, 1, 2, 7, 3, 4, 5, 2].getD q 0
theorem run_pick12 {q : Nat} {w : World} (hq : (q : Int) < 12) : (Instr.index 79 (.agg #[.int .i64 5, .int .i64 5, .int .i64 5, .int .i64 6, .int .i64 6, .int .i64 1, .int .i64 2, .int .i64 7, .int .i64 3, .int .i64 4, .int .i64 5, .int .i64 2]) (.int .i64 q)).run Tryz.prog w = .ok (.int .i64 (pickI q)) w := by
 have hz : q = 0 ∨ q = 1 ∨ q = 2 ∨ q = 3 ∨ q = 4 ∨ q = 5 ∨ q = 6 ∨ q = 7 ∨ q = 8 ∨ q = 9 ∨ q = 10 ∨ q = 11 := by omega
 rcases hz with rfl | rfl | rfl | rfl | rfl | rfl | rfl | rfl | rfl | rfl | rfl | rfl <;> rfl
attribute [local go_sem] run_pick12
def PgI (M : MKey) (w : World) (G : Nat) (g : Nat) (j : Value) (W : World) : Prop :=
 ∃ (i : Int) (m e J : Nat) (v : Value), j = .int .i64 i ∧ 0 ≤ i ∧ i + m ≤ 4 ∧ i + 1 ≤ g ∧ J ≤ 1 + m * 4000000 ∧ Pg M J false w W ∧ W.heap[G]? = some (.cells #[v, .slice none 0 0] 33 (0, 0)) ∧ OwR (w.heap.size + 3) e (m * 24550) m W v ∧ e ≤ W.heap.size ∧ w.heap.size + 3 ≤ e
def RlI (M : MKey) (w : World) (G R J4 : Nat) (kd : Int) (v : Value) (e m : Nat) (W : World) : Prop :=
 ∃ (n : Int) (pa : Option Addr) (pl pc J : Nat), J ≤ J4 + 2100 ∧ Pg M J false w W ∧ W.heap[G]? = some (.cells #[v, .slice none 0 0] 33 (0, 0)) ∧ OwR (w.heap.size + 3) e (m * 24550) m W v ∧ e ≤ R ∧ W.heap[R]? = some (.cells #[.int .i64 kd, .int .i64 n, .slice pa pl pc, .int .i64 0, .string ⟨#[]⟩, .float .f64 0, .slice none 0 0, .complex .f64 0 0, .complex .f64 0 0] 52 (0, 0)) ∧ Kd (R + 1) 62 W (.slice pa pl pc)
theorem own_step {W W' : World} {b F cp : Nat} {xs : List Value} {fp : List Nat} (h : W.ownsRow b 61 8 (.slice (some ⟨F, 0, none⟩) 1 cp) 1 xs) (hk : Keeps fp W W') (hF : F ∉ fp) : W'.ownsRow b 61 8 (.slice (some ⟨F, 0, none⟩) 1 cp) 1 xs :=
 row_of_block h fun g hg => by
  have e : g = F := by simp [Value.ownBlock] at hg; exact hg.symm
  subst e;exact hk.block g (own_cells h).1 hF
theorem own_stepN {W W' : World} {b F cp n : Nat} {xs : List Value} {fp : List Nat} (h : W.ownsRow b 61 8 (.slice (some ⟨F, 0, none⟩) n cp) n xs) (hk : Keeps fp W W') (hF : F ∉ fp) : W'.ownsRow b 61 8 (.slice (some ⟨F, 0, none⟩) n cp) n xs :=
 row_of_block h fun g hg => by
  obtain ⟨cur, hc⟩ := own_block h hg;have e : g = F := by simp [Value.ownBlock] at hg; exact hg.symm
  subst e;exact hk.block g (h_lt hc) hF
theorem blockV_2 {M : MKey} {fn : Bool} {I : Nat} {w : World} (h : Bn M I fn w w) (hI : I + 300040 ≤ 1000000000000) : Calls Tryz.prog 31 #[.pointer (some ⟨M.k, 0, none⟩), .int .i64 2] w fun r w' => ∃ v, r = .returned v ∧ (∃ a m c, m ≤ 3 ∧ v = .agg #[.int .i64 30, .string ⟨#[]⟩, .float .f64 0, .slice a m c, .complex .f64 0 0] ∧ Ow w.heap.size w'.heap.size 4062 m w' (.slice a m c) ∧ MKB M (I + 300040) fn w' ∧ Keeps [M.k] w w') :=
 (blockO_2 h hI).mono fun r w' ⟨a, m, c, h1, h2, h3⟩ => ⟨_, h2, a, m, c, h1, rfl, h3⟩
def FnA (M : MKey) (w : World) (G U0 J e m : Nat) (v : Value) (W : World) : Prop :=
 ∃ (P F cp bk ek bm bc J' : Nat) (ba : Option Addr), J' ≤ J + 300040 ∧ Pg M J' true w W ∧ W.heap[G]? = some (.cells #[v, .slice (some ⟨F, 0, none⟩) 1 cp] 33 (0, 0)) ∧ OwR (w.heap.size + 3) e (m * 24550) m W v ∧ W.ownsRow (w.heap.size + 3) 61 8 (.slice (some ⟨F, 0, none⟩) 1 cp) 1 [.string ⟨#[102]⟩, .slice (some ⟨P, 0, none⟩) 2 2, .int .i64 30, .string ⟨#[]⟩, .float .f64 0, .slice ba bm bc, .complex .f64 0 0, .complex .f64 0 0] ∧
  W.heap[P]? = some (.cells #[.string ⟨#[112]⟩, .string ⟨#[113]⟩] 9 (0, 0)) ∧ Ow bk ek 4062 bm W (.slice ba bm bc) ∧ bm ≤ 3 ∧ U0 ≤ bk ∧ bk ≤ ek ∧ ek ≤ F ∧ U0 ≤ P ∧ P < F ∧ (P < bk ∨ ek ≤ P)
def FnB (M : MKey) (w : World) (G F cp P bk J' e m : Nat) (v : Value) (W : World) : Prop :=
 ∃ (ka : Option Addr) (km kc : Nat), Pg M J' true w W ∧ W.heap[G]? = some (.cells #[v, .slice (some ⟨F, 0, none⟩) 1 cp] 33 (0, 0)) ∧ OwR (w.heap.size + 3) e (m * 24550) m W v ∧ W.ownsRow (w.heap.size + 3) 61 8 (.slice (some ⟨F, 0, none⟩) 1 cp) 1 [.string ⟨#[102]⟩, .slice (some ⟨P, 0, none⟩) 2 2, .int .i64 30, .string ⟨#[]⟩, .float .f64 0, .slice ka km kc, .complex .f64 0 0, .complex .f64 0 0] ∧
  W.heap[P]? = some (.cells #[.string ⟨#[112]⟩, .string ⟨#[113]⟩] 9 (0, 0)) ∧ Kx bk F 4070 W (.slice ka km kc)
set_option maxHeartbeats 40000000 in
def progPart : { X : Prop // Wrap X → ∀ (M : MKey), MFix M → ∀ (w : World), M.k = w.heap.size + 1 → M.w0 = w → Calls Tryz.prog 14 #[.slice M.la M.ln M.lc] w fun r w' => ∃ g v, r = .returned v ∧ ProgV w' (fun x => w.heap.size ≤ x) g v ∧ WfP g ∧ Keeps [] w w' } := by
 apply Subtype.mk
 ·intro hX M hM w hk hw0;have HW := zh hw0; have HKE := zh hk
  go_enter Tryz.func14, Tryz.ntmps14
  go_upto_region 3 with fail
  refine wp_at (fun W => Keeps [] w W ∧ W.heap[w.heap.size]? = some (.cells #[.slice none 0 0, .slice none 0 0] 33 (0, 0)) ∧ W.heap[w.heap.size + 1]? = some (.cells #[.slice M.la M.ln M.lc, .int .i64 0, .int .i64 0, .bool false, .int .i64 0] 77 (0, 0)) ∧ W.heap[w.heap.size + 2]? = some (.cells #[.slice none 0 0, .slice none 0 0] 33 (0, 0))) ⟨zg, qd, qd, qd⟩ ?_;rintro w1 ⟨k1, c0, cm, cg⟩;rw [← hk] at cm ⊢;have HP1 : Hid (Pg M 0 false w w1) := zh ⟨hM, hk, ⟨0, 0, 0, Nat.le_refl _, by omega, by omega, by omega, ⟨cm, hw0 ▸ k1⟩⟩, k1, c0⟩;obtain ⟨G, hG⟩ : ∃ x, x = M.k + 1 := ⟨_, rfl⟩;rw [← hG];rw [show w.heap.size + 2 = G by omega] at cg;have HGE : Hid (G = w.heap.size + 2) := zh qg;clear k1 c0 cm hk hG
  go_wp2_with fail
  refine (one_int HP1.out.fix HP1.out.mak qg 4 qg qg).mono ?_;rintro r w2 ⟨y, h0_y, h1_y, rfl, hm, hk⟩;have HP2 := zh (HP1.out.call hm hk);have cg2 := hk.at cg ji;clear hk hm HP1 cg;have hyw : IntKind.i64.wrap (1 + y) = 1 + y := wrap_id qg qg
  go_wp2_with fail
  have hs2 := h_lt cg2
  go_loopg [5] (5) (fun g j wr => PgI M w G g j wr)
  case atStart => exact ⟨1 + y, 0, w2.heap.size, _, _, rfl, by omega, by omega, by omega, by omega, HP2.out, cg2, by rw [Nat.zero_mul]; exact OwR.nil _ _ _, Nat.le_refl _, by have := HGE.out; omega⟩
  clear cg2 HP2 hs2 h0_y h1_y hyw;obtain ⟨i, m, e, J, v, rfl, hi0, him, hig, hJ, hP, cG, hO, he, he3⟩ := hrel;have HP := zh hP; have HO := zh hO; have HEe := zh he; have HE3 := zh he3; have HG := zh cG;clear hP hO he he3 cG;obtain ⟨va, vc, rfl⟩ := HO.out.slice
  by_cases hlt : 0 < i
  ·have hiw : IntKind.i64.wrap (i - 1) = i - 1 := wrap_id qg qg;obtain ⟨i9, n9, l9, hi9, hn9, hl91, hl92, hm9⟩ := HP.out.mak;obtain ⟨l_k, x0, x1, x2, x3, x4, y0, y1, y2, y3, y4⟩ := cf5 hm9.row;have HM9 := zh hm9;clear hm9
   go_upto_region 7 with fail
   refine wp_at (fun W => Keeps [M.k] wr W ∧ W.heap[M.k]? = some (.cells #[.slice M.la M.ln M.lc, .int .i64 i9, .int .i64 0, .bool false, .int .i64 l9] 77 (0, 0))) ⟨zg, (ze HM9.out.row)⟩ ?_;rintro w3 ⟨hk3, hr3⟩;have HP3 : Hid (Pg M J false w w3) := zh (HP.out.call ⟨i9, 0, l9, hi9, by omega, hl91, hl92, HM9.out.upd HP.out.fix hk3 (by exact_mod_cast hr3)⟩ hk3);have HG3 := zh (hk3.at HG.out ji);have HO3 := zh (HO.out.step hk3 ji);have HEe3 := zh (Nat.le_trans HEe.out hk3.size);clear hk3 hr3 HP HG HO HEe HM9 hi9 hn9 hl91 hl92 l_k x0 x1 x2 x3 x4 y0 y1 y2 y3 y4
   go_wp2_with fail
   refine (one_any HP3.out.fix HP3.out.mak qg 12 qg qg).mono ?_;rintro r w4 ⟨q, hq, rfl, hm, hk⟩;have HP4 := zh (HP3.out.call hm hk);have HG4 := zh (hk.at HG3.out ji);have HO4 := zh (HO3.out.step hk ji);have HEe4 := zh (Nat.le_trans HEe3.out hk.size);have hi_q : (q : Int) < 12 := by omega
   clear hk hm HP3 HG3 HO3 HEe3
   go_upto_block 2 with fail
   refine wp_at (fun W => Keeps [] w4 W ∧ W.heap[w4.heap.size]? = some (.cells #[.int .i64 (pickI q), .int .i64 0, .slice none 0 0, .int .i64 0, .string ⟨#[]⟩, .float .f64 0, .slice none 0 0, .complex .f64 0 0, .complex .f64 0 0] 52 (0, 0))) ⟨zg, qd⟩ ?_;rintro w5 ⟨hk, hr⟩;obtain ⟨kd, hkd⟩ : ∃ z, z = pickI q := ⟨_, rfl⟩;obtain ⟨R, hR⟩ : ∃ z, z = w4.heap.size := ⟨_, rfl⟩;rw [← hkd, ← hR] at hr ⊢;have HP5 := zh (HP4.out.kp hk jg);have HG5 := zh (hk.at HG4.out jg);have HO5 := zh (HO4.out.step hk jg);have HeR : Hid (e ≤ R) := zh (by have := HEe4.out; omega);have HRG : Hid (G < R) := zh (by rw [hR]; exact h_lt HG4.out);have HR5 := zh hr;have hR5s := h_lt hr;clear hkd hR;clear hk hr HP4 HG4 HO4 HEe4 hq hi_q
   go_cut [] (fun W => RlI M w G R (J + 1) kd (.slice va m vc) e m W)
   case first =>
    obtain ⟨lR, z0, z1, z2, z3, z4, z5, z6, z7, z8, f0, f1, f2, f3, f4, f5, f6, f7, f8⟩ := cf9 HR5.out
    by_cases k6 : kd = 6
    ·subst k6
     go_wp2_with fail
     refine (exprC_2 _ _ HP5.out.here qg).mono ?_;rintro r w6 ⟨v1, rfl, hn1, hm, hk⟩;obtain ⟨k1, nm1, nu1, a1, l1, c1, re1, im1, rfl⟩ := hn1.shape;have HP6 := zh (HP5.out.call hm hk);have HG6 := zh (hk.at HG5.out ji);have HO6 := zh (HO5.out.step hk ji);have HR6 := zh (hk.at HR5.out jj);clear hk hm z0 z1 z2 z3 z4 z5 z6 z7 z8 f0 f1 f2 f3 f4 f5 f6 f7 f8;have lR5 := lR;clear lR;obtain ⟨lR, z0, z1, z2, z3, z4, z5, z6, z7, z8, f0, f1, f2, f3, f4, f5, f6, f7, f8⟩ := cf9 HR6.out
     go_wp2_with fail
     go_meet
     refine inv_at (fun W => Keeps [R] w6 W ∧ W.heap[R]? = some (.cells #[.int .i64 6, .int .i64 0, .slice (some ⟨w6.heap.size, 0, none⟩) 1 1, .int .i64 0, .string ⟨#[]⟩, .float .f64 0, .slice none 0 0, .complex .f64 0 0, .complex .f64 0 0] 52 (0, 0)) ∧ W.heap[w6.heap.size]? = some (.cells #[.int .i64 k1, .string nm1, .float .f64 nu1, .slice a1 l1 c1, .complex .f64 re1 im1] 50 (0, 0))) ⟨zg, (je HR6.out ((Nat.ne_of_lt lR)) ((Nat.ne_of_gt lR))), (qe ((Nat.ne_of_lt lR)) ((Nat.ne_of_gt lR)))⟩ ?_;rintro w7 ⟨hk, hr, hc⟩;exact ⟨0, _, _, _, _, by omega, HP6.out.kp hk jm, hk.at HG6.out jm, HO6.out.step hk qr, HeR.out, hr, (Kd.row1 hc qg (((hn1.to qg (Nat.le_refl _)).step hk jg))).to' qg⟩
    by_cases k7 : kd = 7
    ·subst k7
     go_wp2_with fail
     refine (exprC_2 _ _ HP5.out.here qg).mono ?_;rintro r w6 ⟨v1, rfl, hn1, hm, hk⟩;obtain ⟨k1, nm1, nu1, a1, l1, c1, re1, im1, rfl⟩ := hn1.shape;have HP6 := zh (HP5.out.call hm hk);have HG6 := zh (hk.at HG5.out ji);have HO6 := zh (HO5.out.step hk ji);have HR6 := zh (hk.at HR5.out jj);have hs6 := hk.size;clear hk hm
     go_wp2_with fail
     refine (exprC_2 _ _ HP6.out.here qg).mono ?_;rintro r w7 ⟨v2, rfl, hn2, hm, hk⟩;obtain ⟨k2, nm2, nu2, a2, l2, c2, re2, im2, rfl⟩ := hn2.shape;have HP7 := zh (HP6.out.call hm hk);have HG7 := zh (hk.at HG6.out ji);have HO7 := zh (HO6.out.step hk ji);have HR7 := zh (hk.at HR6.out jj);have hn3 := (hn1.to (b' := R + 1) qg (Nat.le_refl _)).step hk jj;clear hk hm z0 z1 z2 z3 z4 z5 z6 z7 z8 f0 f1 f2 f3 f4 f5 f6 f7 f8 HP6 HG6 HO6 HR6 hn1;have lR5 := lR;clear lR;obtain ⟨lR, z0, z1, z2, z3, z4, z5, z6, z7, z8, f0, f1, f2, f3, f4, f5, f6, f7, f8⟩ := cf9 HR7.out
     go_wp2_with fail
     go_meet
     refine inv_at (fun W => Keeps [R] w7 W ∧ W.heap[R]? = some (.cells #[.int .i64 7, .int .i64 0, .slice (some ⟨w7.heap.size, 0, none⟩) 2 2, .int .i64 0, .string ⟨#[]⟩, .float .f64 0, .slice none 0 0, .complex .f64 0 0, .complex .f64 0 0] 52 (0, 0)) ∧ W.heap[w7.heap.size]? = some (.cells #[.int .i64 k1, .string nm1, .float .f64 nu1, .slice a1 l1 c1, .complex .f64 re1 im1, .int .i64 k2, .string nm2, .float .f64 nu2, .slice a2 l2 c2, .complex .f64 re2 im2] 50 (0, 0))) ⟨zg, (je HR7.out ((Nat.ne_of_lt lR)) ((Nat.ne_of_gt lR))), (qe ((Nat.ne_of_lt lR)) ((Nat.ne_of_gt lR)))⟩ ?_;rintro w8 ⟨hk, hr, hc⟩;exact ⟨0, _, _, _, _, by omega, HP7.out.kp hk jm, hk.at HG7.out jm, HO7.out.step hk qr, HeR.out, hr, (Kd.row2 hc qg (hn3.step hk jg) ((hn2.to qg (Nat.le_refl _)).step hk jg)).to' qg⟩
    by_cases k3 : kd = 3
    ·subst k3
     go_wp2_with fail
     refine (one_int HP5.out.fix HP5.out.mak qg 20 qg qg).mono ?_;rintro r w6 ⟨y, h0_y, h1_y, rfl, hm, hk⟩;have HP6 := zh (HP5.out.call hm hk);have HG6 := zh (hk.at HG5.out ji);have HO6 := zh (HO5.out.step hk ji);have HR6 := zh (hk.at HR5.out jj);have hyw : IntKind.i64.wrap (1 + y) = 1 + y := wrap_id qg qg;clear hk hm lR z0 z1 z2 z3 z4 z5 z6 z7 z8 f0 f1 f2 f3 f4 f5 f6 f7 f8;obtain ⟨lR, z0, z1, z2, z3, z4, z5, z6, z7, z8, f0, f1, f2, f3, f4, f5, f6, f7, f8⟩ := cf9 HR6.out
     go_wp2_with fail
     go_meet
     refine inv_at (fun W => Keeps [R] w6 W ∧ W.heap[R]? = some (.cells #[.int .i64 3, .int .i64 (1 + y), .slice none 0 0, .int .i64 0, .string ⟨#[]⟩, .float .f64 0, .slice none 0 0, .complex .f64 0 0, .complex .f64 0 0] 52 (0, 0))) ⟨zg, (ze HR6.out)⟩ ?_;rintro w7 ⟨hk, hr⟩;exact ⟨1 + y, _, _, _, _, by omega, HP6.out.kp hk jm, hk.at HG6.out jm, HO6.out.step hk qr, HeR.out, hr, (Kd.nil _ _).to' qg⟩
    have e6 : (kd == 6) = false := beq_false_of_ne k6;have e7 : (kd == 7) = false := beq_false_of_ne k7;have e3 : (kd == 3) = false := beq_false_of_ne k3
    go_wp2_with fail
    go_meet
    case rel => exact ⟨0, _, _, _, _, by omega, HP5.out, HG5.out, HO5.out, HeR.out, HR5.out, (Kd.nil _ _).to' qg⟩
   obtain ⟨n, pa, pl, pc, J6, hJ6, hP, cG, hO, -, cR, hKd⟩ := hcut;have HP6 := zh hP; have HG6 := zh cG; have HO6 := zh hO; have HR6 := zh cR; have HKp := zh hKd.bd;clear hP cG hO cR hKd HP5 HG5 HO5 HR5;generalize wc = w6 at *
   rename_i hh;obtain ⟨lR, z0, z1, z2, z3, z4, z5, z6, z7, z8, f0, f1, f2, f3, f4, f5, f6, f7, f8⟩ := cf9 HR6.out
   go_wp2_with fail
   refine (blockO_3 HP6.out.here qg).mono ?_;rintro r w7 ⟨ba, bm, bc, hbm, rfl, hob, hm, hk⟩;have HP7 := zh (HP6.out.call hm hk);have HG7 := zh (hk.at HG6.out ji);have HO7 := zh (HO6.out.step hk ji);have HR7 := zh (hk.at HR6.out jj);have HKp7 := zh (HKp.out.step hk jj);have HOb7 := zh hob;have hb6 : R + 1 ≤ w6.heap.size := lR;have s67 := hk.size;clear hk hm hob z0 z1 z2 z3 z4 z5 z6 z7 z8 f0 f1 f2 f3 f4 f5 f6 f7 f8 lR HP6 HG6 HO6 HR6 HKp;obtain ⟨lR, z0, z1, z2, z3, z4, z5, z6, z7, z8, f0, f1, f2, f3, f4, f5, f6, f7, f8⟩ := cf9 HR7.out
   go_upto_region 16 with fail
   refine wp_at (fun W => Keeps [R] w7 W ∧ W.heap[R]? = some (.cells #[.int .i64 kd, .int .i64 n, .slice pa pl pc, .int .i64 30, .string ⟨#[]⟩, .float .f64 0, .slice ba bm bc, .complex .f64 0 0, .complex .f64 0 0] 52 (0, 0))) ⟨zg, (ze HR7.out)⟩ ?_;rintro w8 ⟨hk, hr⟩;have HS6 : Hid (w6.heap.size ≤ w8.heap.size) := zh (Nat.le_trans s67 hk.size);clear s67;have HP := zh (HP7.out.kp hk jm);have HG := zh (hk.at HG7.out qdb);have HO := zh (HO7.out.step hk qr);have HR := zh hr;have HKp := zh (HKp7.out.step hk jg);have HOb := zh ((HOb7.out.step hk qi).low (b' := w6.heap.size) (Nat.le_refl _) hk.size (Nat.le_refl _));clear hk hr z0 z1 z2 z3 z4 z5 z6 z7 z8 f0 f1 f2 f3 f4 f5 f6 f7 f8 lR HP7 HG7 HO7 HR7 HKp7 HOb7;obtain ⟨lR, z0, z1, z2, z3, z4, z5, z6, z7, z8, f0, f1, f2, f3, f4, f5, f6, f7, f8⟩ := cf9 HR.out;clear z1 z2 z3 z4 z5 z6 z7 z8 f0 f1 f2 f3 f4 f5 f6 f7 f8
   by_cases k5 : 5 ≤ kd
   ·go_wp2_with fail
    refine (one_int HP.out.fix HP.out.mak qg 9 qg qg).mono ?_;rintro r w9 ⟨y, h0_y, h1_y, rfl, hm, hk⟩;replace HP := zh (HP.out.call hm hk);replace HG := zh (hk.at HG.out ji);replace HO := zh (HO.out.step hk ji);replace HR := zh (hk.at HR.out jj);replace HKp := zh (HKp.out.step hk jj);replace HOb := zh ((HOb.out.step hk jj).low (Nat.le_refl _) hk.size (Nat.le_refl _));replace HS6 := zh (Nat.le_trans HS6.out hk.size);clear hk hm lR z0 h0_y h1_y
    by_cases hy0 : y = 0
    ·subst hy0;have lb := h_lt HR.out;have HZ : Hid (w9.heap.size ≤ w9.heap.size) := zh (Nat.le_refl _)
     go_wp2_with fail
     refine wp_region_tailH (n := 14) (S := fun V => V.cell? ⟨R, 6, none⟩ = some (.slice ba bm bc)) (st := 47) (p := .tmp 71) (v := .tmp 69) jh jh jh rfl (cellK (W := w9) (fp := []) (by exact kD (k0 [] w9)) HR.out rfl jg) ?_;intro Rq hR1 hR3 hSS;refine zzb ?_;refine anyH_at (fun V => Keeps [] w9 V ∧ V.cell? ⟨R, 6, none⟩ = some (.slice ba bm bc)) ⟨(by exact kD (k0 [] w9)), hSS⟩ ?_;clear hSS;rintro w101 ⟨hk, hSS⟩;replace HP := zh (HP.out.kp hk jg);replace HG := zh (hk.at HG.out jg);replace HO := zh (HO.out.step hk jg);replace HR := zh (hk.at HR.out jg);replace HKp := zh (HKp.out.step hk jg);replace HOb := zh (HOb.out.step hk jg);replace HZ := zh (Nat.le_trans HZ.out hk.size);clear hk;refine wpAnyH_take (i := 0) (v := ?_) rfl jh jh jh (fun c a' w' => hR3 c _ _ _ (fun h => h)) (Or.inl ⟨by rfl, ?_⟩) hSS ?_
     rotate_left
     ·intro w' hSw; (try dsimp only at hSw); go_simp; (try with_reducible rfl)
     refine jzb ?_;refine wpAnyH_take (i := 1) (v := ?_) rfl jh jh jh (fun c a' w' => hR3 c _ _ _ (fun h => h)) (Or.inl ⟨by rfl, ?_⟩) hSS ?_
     rotate_left
     ·intro w' hSw; (try dsimp only at hSw); go_simp; (try with_reducible rfl)
     refine jzb ?_;refine wpAnyH_take (i := 2) (v := ?_) rfl jh jh jh (fun c a' w' => hR3 c _ _ _ (fun h => h)) (Or.inl ⟨by rfl, ?_⟩) hSS ?_
     rotate_left
     ·intro w' hSw; (try dsimp only at hSw); go_simp; (try with_reducible rfl)
     refine jzb ?_;refine wpAnyH_take (i := 3) (v := ?_) rfl jh jh jh (fun c a' w' => hR3 c _ _ _ (fun h => h)) (Or.inl ⟨by rfl, ?_⟩) hSS ?_
     rotate_left
     ·intro w' hSw; (try dsimp only at hSw); go_simp; (try with_reducible rfl)
     refine jzb ?_;refine wpAnyH_take (i := 5) (v := ?_) rfl jh jh jh (fun c a' w' => hR3 c _ _ _ (fun h => h)) (Or.inl ⟨by rfl, ?_⟩) hSS ?_
     rotate_left
     ·intro w' hSw; (try dsimp only at hSw); go_simp; (try with_reducible rfl)
     refine jzb ?_;refine wpAnyH_ready (rs := [4, 6]) jh jg ?_;refine AllReadyH.cons rfl (fun K hK => ?_) (AllReadyH.cons rfl (fun K hK => ?_) AllReadyH.nil)
     ·refine qzb ?_;rintro v w102 ⟨hn, hm, hk⟩;obtain ⟨k1, nm1, nu1, a1, l1, c1, re1, im1, rfl⟩ := hn.shape;have HX : Hid (Nd w9.heap.size 10 w102 (.agg #[.int .i64 k1, .string nm1, .float .f64 nu1, .slice a1 l1 c1, .complex .f64 re1 im1])) := zh (hn.to HZ.out (Nat.le_refl _));replace HP := zh (HP.out.call hm hk);replace HG := zh (hk.at HG.out ji);replace HO := zh (HO.out.step hk ji);replace HR := zh (hk.at HR.out jj);replace HKp := zh (HKp.out.step hk jj);replace HOb := zh (HOb.out.step hk jj);replace HZ := zh (Nat.le_trans HZ.out hk.size);refine hK.out _ _ (cellK (W := w102) (fp := []) (Keeps.refl [] _) HR.out rfl jg) (fun hSS => ?_);clear hK hn hm hk;refine zac ?_;refine jac ?_;refine AllReadyH.cons rfl (fun K hK => ?_) AllReadyH.nil;have HLHS1 : Hid (w9.heap.size ≤ w102.heap.size) := HZ
      go_simp
      refine hK.out _ _ (cellK (W := w102) (fp := []) zg HR.out rfl jg) (fun hSS => ?_);clear hK;refine zac ?_;refine anyH_at (fun V => Keeps [] w102 V ∧ V.heap[w102.heap.size]? = some (.cells #[.int .i64 38, .string ⟨#[]⟩, .float .f64 0, .slice none 0 0, .complex .f64 0 0] 50 (0, 0)) ∧ V.cell? ⟨R, 6, none⟩ = some (.slice ba bm bc)) ⟨zg, qd, hSS⟩ ?_;clear hSS;rintro w103 ⟨hk, hr, hSS⟩;replace HP := zh (HP.out.kp hk jg);replace HG := zh (hk.at HG.out jg);replace HO := zh (HO.out.step hk jg);replace HR := zh (hk.at HR.out jg);replace HKp := zh (HKp.out.step hk jg);replace HOb := zh (HOb.out.step hk jg);replace HZ := zh (Nat.le_trans HZ.out hk.size);replace HX := zh (HX.out.step hk jg);have HS1 := zh hr;clear hk hr;refine wpAnyH_take (i := 7) (v := ?_) rfl jh jh jh (fun c a' w' => hR3 c _ _ _ (fun h => h)) (Or.inl ⟨by rfl, ?_⟩) hSS ?_
      rotate_left
      ·intro w' hSw; (try dsimp only at hSw); go_simp; (try with_reducible rfl)
      refine jzb ?_;refine qac ?_;refine AllReadyH.cons rfl (fun K hK => ?_) AllReadyH.nil;have HLHS2 : Hid (w9.heap.size ≤ w103.heap.size) := HZ
      go_simp
      refine hK.out _ _ (cellK (W := w103) (fp := []) zg HR.out rfl jg) (fun hSS => ?_);clear hK;refine zac ?_;refine anyH_at (fun V => Keeps [] w103 V ∧ V.heap[w103.heap.size]? = some (.cells #[.int .i64 k1, .string nm1, .float .f64 nu1, .slice a1 l1 c1, .complex .f64 re1 im1, .int .i64 30, .string ⟨#[]⟩, .float .f64 0, .slice (some ⟨w102.heap.size, 0, none⟩) 1 1, .complex .f64 0 0] 50 (0, 0)) ∧ V.cell? ⟨R, 6, none⟩ = some (.slice ba bm bc)) ⟨zg, qd, hSS⟩ ?_;clear hSS;rintro w104 ⟨hk, hr, hSS⟩;replace HP := zh (HP.out.kp hk jg);replace HG := zh (hk.at HG.out jg);replace HO := zh (HO.out.step hk jg);replace HR := zh (hk.at HR.out jg);replace HKp := zh (HKp.out.step hk jg);replace HOb := zh (HOb.out.step hk jg);replace HZ := zh (Nat.le_trans HZ.out hk.size);replace HX := zh (HX.out.step hk jg);replace HS1 := zh (hk.at HS1.out jg);have HS2 := zh hr;clear hk hr;refine zbc ?_;refine AllReadyH.cons rfl (fun K hK => ?_) AllReadyH.nil;have HB1 : Hid (Nd w9.heap.size 2 w104 (.agg #[.int .i64 30, .string ⟨#[]⟩, .float .f64 0, .slice (some ⟨w102.heap.size, 0, none⟩) 1 1, .complex .f64 0 0])) := zh ((Kd.row1 HS1.out HLHS1.out (Nd.leaf _ _ _ _ _ _ _)).mk zi);have HI : Hid (Nd w9.heap.size 13 w104 (.agg #[.int .i64 31, .string ⟨#[]⟩, .float .f64 0, .slice (some ⟨w103.heap.size, 0, none⟩) 2 2, .complex .f64 0 0])) := zh ((Kd.row2 HS2.out HLHS2.out HX.out HB1.out).mk zi);clear HB1 HX HS1 HS2
      refine step_call (f := 32) (vals := #[.int .i64 31, .string ⟨#[]⟩, .slice (some ⟨w103.heap.size, 0, none⟩) 2 2]) rfl _ rfl jh (n_v _ _ _ _ _ _) ?_;rintro v w105 ⟨rfl, hk⟩;replace HP := zh (HP.out.kp hk jg);replace HG := zh (hk.at HG.out jg);replace HO := zh (HO.out.step hk jg);replace HR := zh (hk.at HR.out jg);replace HKp := zh (HKp.out.step hk jg);replace HOb := zh (HOb.out.step hk jg);replace HZ := zh (Nat.le_trans HZ.out hk.size);replace HI := zh (HI.out.step hk jg);refine hK.out _ _ (cellK (W := w105) (fp := []) (Keeps.refl [] _) HR.out rfl jg) (fun hSS => ?_);clear hK hk;refine zac ?_;refine jbc ?_;refine AllReadyH.cons rfl (fun K hK => ?_) AllReadyH.nil;have HLHS3 : Hid (w9.heap.size ≤ w105.heap.size) := HZ
      go_simp
      refine hK.out _ _ (cellK (W := w105) (fp := []) zg HR.out rfl jg) (fun hSS => ?_);clear hK;refine zac ?_;refine anyH_at (fun V => Keeps [] w105 V ∧ V.heap[w105.heap.size]? = some (.cells #[.int .i64 31, .string ⟨#[]⟩, .float .f64 0, .slice (some ⟨w103.heap.size, 0, none⟩) 2 2, .complex .f64 0 0] 50 (0, 0)) ∧ V.cell? ⟨R, 6, none⟩ = some (.slice ba bm bc)) ⟨zg, qd, hSS⟩ ?_;clear hSS;rintro w106 ⟨hk, hr, hSS⟩;exact jad
     have HLHS1 : Hid (w9.heap.size ≤ w101.heap.size) := HZ
     go_simp
     refine hK.out _ _ (cellK (W := w101) (fp := []) zg HR.out rfl jg) (fun hSS => ?_);clear hK;refine zac ?_;refine anyH_at (fun V => Keeps [] w101 V ∧ V.heap[w101.heap.size]? = some (.cells #[.int .i64 38, .string ⟨#[]⟩, .float .f64 0, .slice none 0 0, .complex .f64 0 0] 50 (0, 0)) ∧ V.cell? ⟨R, 6, none⟩ = some (.slice ba bm bc)) ⟨zg, qd, hSS⟩ ?_;clear hSS;rintro w107 ⟨hk, hr, hSS⟩;replace HP := zh (HP.out.kp hk jg);replace HG := zh (hk.at HG.out jg);replace HO := zh (HO.out.step hk jg);replace HR := zh (hk.at HR.out jg);replace HKp := zh (HKp.out.step hk jg);replace HOb := zh (HOb.out.step hk jg);replace HZ := zh (Nat.le_trans HZ.out hk.size);have HS1 := zh hr;clear hk hr;refine wpAnyH_take (i := 7) (v := ?_) rfl jh jh jh (fun c a' w' => hR3 c _ _ _ (fun h => h)) (Or.inl ⟨by rfl, ?_⟩) hSS ?_
     rotate_left
     ·intro w' hSw; (try dsimp only at hSw); go_simp; (try with_reducible rfl)
     refine jzb ?_;refine wpAnyH_ready (rs := [4]) jh jg ?_;refine AllReadyH.cons rfl (fun K hK => ?_) AllReadyH.nil;refine qzb ?_;rintro v w108 ⟨hn, hm, hk⟩;obtain ⟨k1, nm1, nu1, a1, l1, c1, re1, im1, rfl⟩ := hn.shape;have HX : Hid (Nd w9.heap.size 10 w108 (.agg #[.int .i64 k1, .string nm1, .float .f64 nu1, .slice a1 l1 c1, .complex .f64 re1 im1])) := zh (hn.to HZ.out (Nat.le_refl _));replace HP := zh (HP.out.call hm hk);replace HG := zh (hk.at HG.out ji);replace HO := zh (HO.out.step hk ji);replace HR := zh (hk.at HR.out jj);replace HKp := zh (HKp.out.step hk jj);replace HOb := zh (HOb.out.step hk jj);replace HZ := zh (Nat.le_trans HZ.out hk.size);replace HS1 := zh (hk.at HS1.out (by have := HLHS1.out; have := HKE.out; have := HGE.out; have := HRG.out; simp; omega));refine hK.out _ _ (cellK (W := w108) (fp := []) (Keeps.refl [] _) HR.out rfl jg) (fun hSS => ?_);clear hK hn hm hk;refine zac ?_;refine qac ?_;refine AllReadyH.cons rfl (fun K hK => ?_) AllReadyH.nil;have HLHS2 : Hid (w9.heap.size ≤ w108.heap.size) := HZ
     go_simp
     refine hK.out _ _ (cellK (W := w108) (fp := []) zg HR.out rfl jg) (fun hSS => ?_);clear hK;refine zac ?_;refine anyH_at (fun V => Keeps [] w108 V ∧ V.heap[w108.heap.size]? = some (.cells #[.int .i64 k1, .string nm1, .float .f64 nu1, .slice a1 l1 c1, .complex .f64 re1 im1, .int .i64 30, .string ⟨#[]⟩, .float .f64 0, .slice (some ⟨w101.heap.size, 0, none⟩) 1 1, .complex .f64 0 0] 50 (0, 0)) ∧ V.cell? ⟨R, 6, none⟩ = some (.slice ba bm bc)) ⟨zg, qd, hSS⟩ ?_;clear hSS;rintro w109 ⟨hk, hr, hSS⟩;replace HP := zh (HP.out.kp hk jg);replace HG := zh (hk.at HG.out jg);replace HO := zh (HO.out.step hk jg);replace HR := zh (hk.at HR.out jg);replace HKp := zh (HKp.out.step hk jg);replace HOb := zh (HOb.out.step hk jg);replace HZ := zh (Nat.le_trans HZ.out hk.size);replace HS1 := zh (hk.at HS1.out jg);replace HX := zh (HX.out.step hk jg);have HS2 := zh hr;clear hk hr;refine zbc ?_;refine AllReadyH.cons rfl (fun K hK => ?_) AllReadyH.nil;have HB1 : Hid (Nd w9.heap.size 2 w109 (.agg #[.int .i64 30, .string ⟨#[]⟩, .float .f64 0, .slice (some ⟨w101.heap.size, 0, none⟩) 1 1, .complex .f64 0 0])) := zh ((Kd.row1 HS1.out HLHS1.out (Nd.leaf _ _ _ _ _ _ _)).mk zi);have HI : Hid (Nd w9.heap.size 13 w109 (.agg #[.int .i64 31, .string ⟨#[]⟩, .float .f64 0, .slice (some ⟨w108.heap.size, 0, none⟩) 2 2, .complex .f64 0 0])) := zh ((Kd.row2 HS2.out HLHS2.out HX.out HB1.out).mk zi);clear HB1 HX HS1 HS2
     refine step_call (f := 32) (vals := #[.int .i64 31, .string ⟨#[]⟩, .slice (some ⟨w108.heap.size, 0, none⟩) 2 2]) rfl _ rfl jh (n_v _ _ _ _ _ _) ?_;rintro v w110 ⟨rfl, hk⟩;replace HP := zh (HP.out.kp hk jg);replace HG := zh (hk.at HG.out jg);replace HO := zh (HO.out.step hk jg);replace HR := zh (hk.at HR.out jg);replace HKp := zh (HKp.out.step hk jg);replace HOb := zh (HOb.out.step hk jg);replace HZ := zh (Nat.le_trans HZ.out hk.size);replace HI := zh (HI.out.step hk jg);refine hK.out _ _ (cellK (W := w110) (fp := []) (Keeps.refl [] _) HR.out rfl jg) (fun hSS => ?_);clear hK hk;refine zac ?_;refine jbc ?_;refine AllReadyH.cons rfl (fun K hK => ?_) AllReadyH.nil;have HLHS3 : Hid (w9.heap.size ≤ w110.heap.size) := HZ
     go_simp
     refine hK.out _ _ (cellK (W := w110) (fp := []) zg HR.out rfl jg) (fun hSS => ?_);clear hK;refine zac ?_;refine anyH_at (fun V => Keeps [] w110 V ∧ V.heap[w110.heap.size]? = some (.cells #[.int .i64 31, .string ⟨#[]⟩, .float .f64 0, .slice (some ⟨w108.heap.size, 0, none⟩) 2 2, .complex .f64 0 0] 50 (0, 0)) ∧ V.cell? ⟨R, 6, none⟩ = some (.slice ba bm bc)) ⟨zg, qd, hSS⟩ ?_;clear hSS;rintro w111 ⟨hk, hr, hSS⟩;exact jad
    have hy : (y == 0) = false := beq_false_of_ne hy0;have HKb : Hid (Kd (R + 1) 24487 w9 (.slice ba bm bc)) := zh ((HOb.out.kids.low hb6).to' qg);have HRl : Hid (Rl (R + 1) 24550 w9 [.int .i64 kd, .int .i64 n, .slice pa pl pc, .int .i64 30, .string ⟨#[]⟩, .float .f64 0, .slice ba bm bc, .complex .f64 0 0, .complex .f64 0 0]) := zh (Rl.mk HKp.out.kd (HKb.out.mk zi));obtain ⟨lR, z0, z1, z2, z3, z4, z5, z6, z7, z8, f0, f1, f2, f3, f4, f5, f6, f7, f8⟩ := cf9 HR.out;obtain ⟨lG, g0, g1, h0, h1⟩ := cf2 HG.out
    go_wp2_with (
     at_builtin
     go_loud (
      refine list_at (fun V => Keeps [] w9 V ∧ V.heap[w9.heap.size]? = some (.cells #[.int .i64 kd, .int .i64 n, .slice pa pl pc, .int .i64 30, .string ⟨#[]⟩, .float .f64 0, .slice ba bm bc, .complex .f64 0 0, .complex .f64 0 0] 52 (0, 0))) ⟨zg, qd⟩ ?_;rintro wq ⟨hk, hr⟩;have HPq := zh (HP.out.kp hk jg);have HGq := zh (hk.at HG.out jg);refine app_owR rfl (.tmp 73) (.tmp 75) rfl rfl rfl (HO.out.step hk jg) hr (HRl.out.step hk jg) jab ju HE3.out qg ?_))
    exact znd
   clear lR z0;have HKb : Hid (Kd (R + 1) 24487 w8 (.slice ba bm bc)) := zh ((HOb.out.kids.low hb6).to' qg);have HRl : Hid (Rl (R + 1) 24550 w8 [.int .i64 kd, .int .i64 n, .slice pa pl pc, .int .i64 30, .string ⟨#[]⟩, .float .f64 0, .slice ba bm bc, .complex .f64 0 0, .complex .f64 0 0]) := zh (Rl.mk HKp.out.kd (HKb.out.mk zi));obtain ⟨lR, z0, z1, z2, z3, z4, z5, z6, z7, z8, f0, f1, f2, f3, f4, f5, f6, f7, f8⟩ := cf9 HR.out;obtain ⟨lG, g0, g1, h0, h1⟩ := cf2 HG.out
   go_wp2_with (
    at_builtin
    go_loud (
     refine list_at (fun V => Keeps [] w8 V ∧ V.heap[w8.heap.size]? = some (.cells #[.int .i64 kd, .int .i64 n, .slice pa pl pc, .int .i64 30, .string ⟨#[]⟩, .float .f64 0, .slice ba bm bc, .complex .f64 0 0, .complex .f64 0 0] 52 (0, 0))) ⟨zg, qd⟩ ?_;rintro wq ⟨hk, hr⟩;have HPq := zh (HP.out.kp hk jg);have HGq := zh (hk.at HG.out jg);refine app_owR rfl (.tmp 73) (.tmp 75) rfl rfl rfl (HO.out.step hk jg) hr (HRl.out.step hk jg) jab ju HE3.out qg ?_))
   exact znd
  rename_i Qz Kz1 az2 Jz Kz az1 az
  revert M w Kz1 Kz w1 G w2 y gk wr u6 u13 u14 u15 u16 u17 u18 u19 u20 u21 u22 u23 u24 u25 u26 u27 u28 u29 u30 u31 u32 u33 u34 u35 u36 u37 u38 u39 u40 u41 u42 u43 u44 u45 u46 u47 u48 u49 u50 u51 u52 u53 u54 u55 u56 u57 u58 u59 u60 u61 u62 u63 u64 u65 u66 u67 u68 u69 u70 u71 u72 u73 u74 u75 u76 u77 Jz i m e J va vc
  exact Wrap.out hX
end Go.Proofs.YtkfillfkbhbbjaaGreatDoor
