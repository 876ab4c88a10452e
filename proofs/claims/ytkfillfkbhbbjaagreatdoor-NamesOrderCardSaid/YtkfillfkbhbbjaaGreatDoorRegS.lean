/- MkR, RegS. -/
import Derived.Test.YtkfillfkbhbbjaaGreatDoorPrgD
import Derived.Test.YtkfillfkbhbbjaaGreatDoorKit
import Derived.Orders
import Derived.OrdersHeld
set_option maxRecDepth 100000
set_option maxHeartbeats 4000000
set_option linter.unusedSimpArgs false
set_option linter.unusedVariables false
namespace Go.Proofs.YtkfillfkbhbbjaaGreatDoor
open Go.RowKit
section
variable {ops : Array Oper} {o : Oper} {a : Act} {V : World} {KK : Act → World → Prop} {Q : Exit → Act → World → Prop} {E : Prop}
theorem step_fun0 (hgd : o.guard = none) (s y : Operand) (ho : o.op = .call { callee := .builtin .append, args := #[s, y], argTypes := #[31, 31] }) {b G cap : Nat} {c0 c1 c2 c3 c4 c5 c6 c7 : Value} (hs : a.eval s = .slice none 0 0) (hy : a.eval y = .slice (some ⟨G, 0, none⟩) 1 cap) (hG : V.heap[G]? = some (.cells #[c0, c1, c2, c3, c4, c5, c6, c7] 61 (0, 0))) (h1 : ∀ u ∈ [c0, c1, c2, c3, c4, c5, c6, c7], u.oneCell' = true) (hb : b ≤ V.heap.size) (h : ∀ cp w', Keeps [] V w' → w'.ownsRow b 61 8 (.slice (some ⟨V.heap.size, 0, none⟩) 1 cp) 1 [c0, c1, c2, c3, c4, c5, c6, c7] → KK (a.put o.dst (.slice (some ⟨V.heap.size, 0, none⟩) 1 cp)) w') : if Region.wanted o (yielded ops a.tmps) = true then Oper.wp Tryz.prog o a V KK Q else E := by
 obtain ⟨i, hi, hz, hsz, hby⟩ := info61;refine step_append_lies V hgd s y 31 ho b 61 i _ 8 128 Tryz.underlying31 hi hz hsz hby rfl zi (.slice none 0 0) 0 [] hs (World.ownsRow_nil _ _ _ _) ⟨G, 0, none⟩ 1 cap [c0, c1, c2, c3, c4, c5, c6, c7] hy rfl (fun j u hj => ?_) h1 qg (by simp [maxLen]) zi hb _ rfl fun g cp w1 h2 h3 h4 h5 => ?_
 ·have := cell_of_heap hG j;exact qmd
 have hg : g = V.heap.size := by
  rcases h4 with h4 | h4
  ·simp [Value.ownBlock] at h4
  exact h4
 subst hg;exact h cp w1 (Keeps.grown h3 (fun k hk => by simp [Value.ownBlock] at hk)) h2
theorem step_fun1 (hgd : o.guard = none) (s y : Operand) (ho : o.op = .call { callee := .builtin .append, args := #[s, y], argTypes := #[31, 31] }) {b G cap F cp : Nat} {xs : List Value} {c0 c1 c2 c3 c4 c5 c6 c7 : Value} (hs : a.eval s = .slice (some ⟨F, 0, none⟩) 1 cp) (hy : a.eval y = .slice (some ⟨G, 0, none⟩) 1 cap) (hO : V.ownsRow b 61 8 (.slice (some ⟨F, 0, none⟩) 1 cp) 1 xs) (hG : V.heap[G]? = some (.cells #[c0, c1, c2, c3, c4, c5, c6, c7] 61 (0, 0))) (h1 : ∀ u ∈ [c0, c1, c2, c3, c4, c5, c6, c7], u.oneCell' = true) (hb : b ≤ V.heap.size) (h : ∀ g cp' w', Keeps [F] V w' → w'.ownsRow b 61 8 (.slice (some ⟨g, 0, none⟩) 2 cp') 2 (xs ++ [c0, c1, c2, c3, c4, c5, c6, c7]) → (g = F ∨ g = V.heap.size) → KK (a.put o.dst (.slice (some ⟨g, 0, none⟩) 2 cp')) w') : if Region.wanted o (yielded ops a.tmps) = true then Oper.wp Tryz.prog o a V KK Q else E := by
 obtain ⟨i, hi, hz, hsz, hby⟩ := info61;refine step_append_lies V hgd s y 31 ho b 61 i _ 8 128 Tryz.underlying31 hi hz hsz hby rfl zi (.slice (some ⟨F, 0, none⟩) 1 cp) 1 xs hs hO ⟨G, 0, none⟩ 1 cap [c0, c1, c2, c3, c4, c5, c6, c7] hy rfl (fun j u hj => ?_) h1 qg (by simp [maxLen]) zi hb _ rfl fun g cp' w1 h2 h3 h4 h5 => ?_
 ·have := cell_of_heap hG j;exact qmd
 refine h g cp' w1 (Keeps.grown h3 (fun k hk => ?_)) h2 ?_
 ·simp [Value.ownBlock] at hk; left; simp [hk]
 rcases h4 with h4 | h4
 ·simp [Value.ownBlock] at h4; exact .inl h4.symm
 exact .inr h4
theorem step_owX (hgd : o.guard = none) (s y : Operand) (ho : o.op = .call { callee := .builtin .append, args := #[s, y], argTypes := #[47, 47] }) {b e F Z Z1 m G cap : Nat} {v c0 c1 c2 c3 c4 : Value} (hs : a.eval s = v) (hy : a.eval y = .slice (some ⟨G, 0, none⟩) 1 cap) (hO : Ow b e Z m V v) (hG : V.heap[G]? = some (.cells #[c0, c1, c2, c3, c4] 50 (0, 0))) (hn : Nd (F + 1) Z1 V (.agg #[c0, c1, c2, c3, c4])) (he : e ≤ F) (hF : F < V.heap.size) (hb : b ≤ e) (hm : m ≤ 100000) (h : ∀ v' w' fl, (∀ x ∈ fl, b ≤ x ∧ x < e) → Keeps fl V w' → (∃ a c, v' = .slice a (m + 1) c) → (∃ ns, KidsR w' (fun g => b ≤ g ∧ g ≠ F) ns v' ∧ wfK ns ∧ ksize ns ≤ Z + Z1) → KK (a.put o.dst v') w') : if Region.wanted o (yielded ops a.tmps) = true then Oper.wp Tryz.prog o a V KK Q else E := by
 obtain ⟨ns, q1, q2, q3, q4⟩ := hO;obtain ⟨n, p1, p2, p3⟩ := hn;obtain ⟨i, hi, hz, hsz, hby⟩ := info50;refine step_appL nodeL hgd s y 47 ho Tryz.underlying47 hi hz hsz hby rfl zi zi hs hy q2 (c := [c0, c1, c2, c3, c4]) hG ⟨rfl, p1.bound⟩ (fun g h1 h2 => by omega) (fun g h => h.2) (fun g h => by omega) qg qg fun v' w' fl hfl hk hw => h v' w' fl hfl hk ?_ ⟨ns ++ [n], (kids_of_own hw).keep (Keeps.refl [] w') jg (fun x hx => ?_), wfK_snoc q3 p2, ?_⟩
 ·obtain ⟨aa, cc, hv, -⟩ := hw.slice;exact ⟨aa, cc, by rw [hv]; simp [q1]⟩
 ·rcases hx with hx | hx | hx <;> omega
 rw [ksize_snoc]; omega
theorem step_owZ (hgd : o.guard = none) (s y : Operand) (ho : o.op = .call { callee := .builtin .append, args := #[s, y], argTypes := #[47, 47] }) {b e Z m G cap : Nat} {v : Value} (hs : a.eval s = v) (hy : a.eval y = .slice (some ⟨G, 0, none⟩) 1 cap) (hO : Ow b e Z m V v) (hG : V.heap[G]? = some (.cells #[.int .i64 0, .string ⟨#[]⟩, .float .f64 0, .slice none 0 0, .complex .f64 0 0] 50 (0, 0))) (he : e ≤ V.heap.size) (hb : b ≤ e) (hm : m ≤ 100000) (h : ∀ v' w' fl, (∀ x ∈ fl, b ≤ x ∧ x < e) → Keeps fl V w' → (∃ ns x, ns.length = m ∧ wfK ns ∧ ksize ns ≤ Z ∧ OwnL NodeE 50 5 w' b (fun g => (b ≤ g ∧ g < e) ∨ (V.heap.size ≤ g ∧ g < w'.heap.size)) (ns ++ [x]) v') → KK (a.put o.dst v') w') : if Region.wanted o (yielded ops a.tmps) = true then Oper.wp Tryz.prog o a V KK Q else E := by
 obtain ⟨ns, q1, q2, q3, q4⟩ := hO;obtain ⟨i, hi, hz, hsz, hby⟩ := info50;refine step_appL nodeL hgd s y 47 ho Tryz.underlying47 hi hz hsz hby rfl zi zi hs hy q2 (x := Node.mk 0 ⟨#[]⟩ 0 [] 0 0) (S := fun _ => False) (c := [.int .i64 0, .string ⟨#[]⟩, .float .f64 0, .slice none 0 0, .complex .f64 0 0]) hG ⟨rfl, .mk .nil⟩ (fun _ h => h.elim) (fun _ h => h.elim) (fun g h => by omega) qg qg fun v' w' fl hfl hk hw => h v' w' fl hfl hk ⟨ns, _, q1, q3, q4, hw.to nodeL fun x hx => ?_⟩
 rcases hx with hx | hx | hx
 ·exact .inl hx
 ·exact hx.elim
 exact .inr hx
end
theorem own_cells {W : World} {b F cp : Nat} {xs : List Value} (h : W.ownsRow b 61 8 (.slice (some ⟨F, 0, none⟩) 1 cp) 1 xs) : F < W.heap.size ∧ ∀ j u, xs[j]? = some u → W.cell? ⟨F, j, none⟩ = some u ∧ W.frozen? ⟨F, j, none⟩ = false := by
 rcases h.2 with ⟨h1, _⟩ | ⟨g, cap, cur, hv, hb, hg, h1, h2, h3, h4⟩
 ·cases h1
 injection hv with e1 e2 e3
 injection e1 with e1
 injection e1 with e1
 subst e1;refine ⟨h_lt hg, fun j u hj => ⟨?_, frozen_of_heap hg j⟩⟩;rw [cell_of_heap hg];have hj2 : (cur.toList.take (1 * 8))[j]? = some u := by rw [h4]; exact hj
 exact zrd
theorem own_set {W : World} {b F cp : Nat} {xs : List Value} (h : W.ownsRow b 61 8 (.slice (some ⟨F, 0, none⟩) 1 cp) 1 xs) : ∃ cur, W.heap[F]? = some (.cells cur 61 (0, 0)) ∧ ∀ W' : World, ∀ u, W'.heap[F]? = some (.cells (cur.setIfInBounds 5 u) 61 (0, 0)) → W'.ownsRow b 61 8 (.slice (some ⟨F, 0, none⟩) 1 cp) 1 (xs.set 5 u) := by
 rcases h.2 with ⟨h1, _⟩ | ⟨g, cap, cur, hv, hb, hg, h1, h2, h3, h4⟩
 ·cases h1
 injection hv with e1 e2 e3
 injection e1 with e1
 injection e1 with e1
 subst e1 e3;refine ⟨cur, hg, fun W' u hr => ⟨by simpa using h.1, .inr ⟨F, _, _, rfl, hb, hr, h1, h2, by simpa using h3, ?_⟩⟩⟩;rw [← h4, Array.toList_setIfInBounds, List.take_set]
theorem Elems.unsnoc {α : Type} {E : α → List Value → Prop} : ∀ {l : List α} {x : α} {xs : List Value}, Elems E (l ++ [x]) xs → ∃ xs1 c, xs = xs1 ++ c ∧ Elems E l xs1 ∧ E x c
 | [], x, xs, h => by
   cases h with
   | cons h t => cases t; exact ⟨[], _, by simp, .nil, h⟩
 | y :: l, x, xs, h => by
   cases h with
   | cons h t =>
    obtain ⟨xs1, c, e, h1, h2⟩ := Elems.unsnoc t;exact ⟨_, c, by rw [e, List.append_assoc], .cons h h1, h2⟩
theorem own_last {W : World} {b n : Nat} {T : Nat → Prop} {l : List Node} {x : Node} {v : Value} (hl : l.length = n) (h : OwnL NodeE 50 5 W b T (l ++ [x]) v) : ∃ K cap cur, v = .slice (some ⟨K, 0, none⟩) (n + 1) cap ∧ T K ∧ W.heap[K]? = some (.cells cur 50 (0, 0)) ∧ n * 5 + 5 ≤ cur.size ∧ ∀ W' : World, Keeps [K] W W' → ∀ d0 d1 d2 d3 d4 y S, W'.heap[K]? = some (.cells (((((cur.setIfInBounds (n * 5) d0).setIfInBounds (n * 5 + 1) d1).setIfInBounds (n * 5 + 2) d2).setIfInBounds (n * 5 + 3) d3).setIfInBounds (n * 5 + 4) d4) 50 (0, 0)) → NodeR W' S y (.agg #[d0, d1, d2, d3, d4]) → (∀ g, S g → ¬ T g) → KidsR W' (fun g => T g ∨ S g) (l ++ [y]) v := by
 obtain ⟨xs, ho, ht, hx⟩ := h;have hlen : (l ++ [x]).length = n + 1 := by simp [hl]
 rw [hlen] at ho
 rcases ho.2 with ⟨-, hn⟩ | ⟨K, cap, cur, hv, hb, hg, h1, h2, h3, h4⟩
 ·omega
 subst hv;have htK := ht K rfl;refine ⟨K, cap, cur, rfl, htK, hg, by rw [h3]; have := Nat.mul_le_mul_right 5 h1; omega, fun W' hk d0 d1 d2 d3 d4 y S hr hy hS => ?_⟩;obtain ⟨xs1, c, rfl, e1, e2⟩ := hx.unsnoc;have hl1 : xs1.length = n * 5 := by rw [e1.len (k := 5) (fun a c h => nodeL.len h), hl]
 obtain ⟨c0, c1, c2, c3, c4, rfl⟩ : ∃ c0 c1 c2 c3 c4, c = [c0, c1, c2, c3, c4] := by
  have := nodeL.len e2
  match c, this with
  | [c0, c1, c2, c3, c4], _ => exact ⟨_, _, _, _, _, rfl⟩
 have key : OwnL NodeE 50 5 W' b (fun g => T g ∨ S g) (l ++ [y]) (.slice (some ⟨K, 0, none⟩) (n + 1) cap) := by
  refine ⟨xs1 ++ [d0, d1, d2, d3, d4], ⟨by simp [hl1, hl]; omega, .inr ⟨K, cap, _, by simp [hl], hb, hr, by simp [hl]; exact h1, h2, by simpa using h3, ?_⟩⟩, fun g hg2 => .inl (ht g hg2), ?_⟩
  ·have e : cur.toList = xs1 ++ (c0 :: c1 :: c2 :: c3 :: c4 :: cur.toList.drop ((n + 1) * 5)) := by
    conv => lhs; rw [← List.take_append_drop ((n + 1) * 5) cur.toList, h4]
    simp
   simp only [Array.toList_setIfInBounds];rw [e];simp only [List.length_append, List.length_cons, List.length_nil, hl];rw [show n * 5 = xs1.length by omega];simp only [List.set_append, Nat.lt_irrefl, if_false, Nat.sub_self, List.set_cons_zero, show ∀ k, ¬ (xs1.length + k < xs1.length) from fun k => by omega, Nat.add_sub_cancel_left, List.set_cons_succ];rw [show (n + (0 + 1)) * 5 = xs1.length + 5 by omega, List.take_append];simp;exact List.take_of_length_le qg
  refine Elems.snoc (e1.mono fun a c h => nodeL.keep h hk (fun g hg2 hs => hs.2 (by simp at hg2; simp [Value.ownBlock, hg2])) fun g hg2 => ⟨.inl hg2.1, hg2.2⟩) ⟨rfl, ?_⟩;exact hy.keep (Keeps.refl [] W') jg fun g hg2 => ⟨.inr hg2, fun h => by simp [Value.ownBlock] at h; subst h; exact hS _ hg2 htK⟩
 exact kids_of_own key
def Kx (b F Z : Nat) (W : World) (v : Value) : Prop := ∃ ns, KidsR W (fun g => b ≤ g ∧ g ≠ F) ns v ∧ wfK ns ∧ ksize ns ≤ Z
theorem Kx.step {b F Z : Nat} {W W' : World} {v : Value} {fp : List Nat} (h : Kx b F Z W v) (hk : Keeps fp W W') (hf : ∀ x ∈ fp, x < b ∨ x = F) : Kx b F Z W' v := by
 obtain ⟨n, h1, h2⟩ := h;exact jpb
theorem Kx.kd {b b' F Z Z' : Nat} {W : World} {v : Value} (h : Kx b F Z W v) (hb : b' ≤ b) (hZ : Z ≤ Z') : Kd b' Z' W v := by
 obtain ⟨n, h1, h2, h3⟩ := h;exact ⟨n, h1.keep (Keeps.refl [] W) jg (fun x hx => Nat.le_trans hb hx.1), h2, by omega⟩
theorem str_elems (W : World) (S : Nat → Prop) : ∀ l : List ByteArray, Elems (StrE W S) l (l.map fun s => Value.string s)
 | [] => .nil
 | s :: l => Elems.cons (c := [.string s]) (E := StrE W S) rfl (str_elems W S l)
theorem str_row {W : World} {S : Nat → Prop} {P : Nat} {l : List ByteArray} {c : Array Value} (hc : c = (l.map fun s => Value.string s).toArray) (h : W.heap[P]? = some (.cells c 9 (0, 0))) (hS : S P) : SliceR StrE W S l (.slice (some ⟨P, 0, none⟩) l.length l.length) := by
 refine ⟨_, _, rfl, Nat.le_refl _, fun _ => ⟨P, 0, l.map fun s => Value.string s, rfl, hS, h_lt h, str_elems W S l, fun j u hj => ?_⟩⟩;rw [Nat.zero_add, cell_of_heap h, hc]; simpa using hj
theorem prog_fin {w W : World} {e m g cp b P P2 ka2 vc km kc : Nat} {va ka : Option Addr} {k0 k1 k2 k3 k4 : Value} (hO : OwR (w.heap.size + 3) e (m * 24550) m W (.slice va m vc)) (hm : m ≤ 4) (hb : w.heap.size ≤ b) (hf : W.ownsRow b 61 8 (.slice (some ⟨g, 0, none⟩) 2 cp) 2 ([.string ⟨#[102]⟩, .slice (some ⟨P, 0, none⟩) 2 2, .int .i64 30, .string ⟨#[]⟩, .float .f64 0, .slice ka km kc, .complex .f64 0 0, .complex .f64 0 0] ++ [.string ⟨#[103]⟩, .slice (some ⟨P2, 0, none⟩) 1 1, k0, k1, k2, k3, k4, .complex .f64 0 0])) (hP : W.heap[P]? = some (.cells #[.string ⟨#[112]⟩, .string ⟨#[113]⟩] 9 (0, 0))) (hP2 : W.heap[P2]? = some (.cells #[.string ⟨#[122]⟩] 9 (0, 0))) (hPw : w.heap.size ≤ P) (hP2w : w.heap.size ≤ P2) (hk1 : Kd w.heap.size 4100 W (.slice ka km kc)) (hn2 : Nd w.heap.size 100 W (.agg #[k0, k1, k2, k3, k4])) : ∃ gp, ProgV W (fun x => w.heap.size ≤ x) gp (.agg #[.slice va m vc, .slice (some ⟨g, 0, none⟩) 2 cp]) ∧ WfP gp := by
 obtain ⟨rs, r1, r2, r3, r4⟩ := hO;obtain ⟨ks, s1, s2, s3⟩ := hk1;obtain ⟨n2, t1, t2, t3⟩ := hn2
 rcases hf.2 with ⟨h1, _⟩ | ⟨g', cap, cur, hv, hbg, hg, h1, h2, h3, h4⟩
 ·cases h1
 injection hv with e1 e2 e3
 injection e1 with e1
 injection e1 with e1
 subst e1 e3;obtain ⟨a', c', e4⟩ := s1.shape;injection e4 with e5 e6 e7
 subst e5 e6 e7;have hr := (sliceR_of_own ruleL r2).to ruleL (T := fun x => w.heap.size ≤ x) (fun x hx => by omega);refine ⟨⟨rs, [⟨⟨#[102]⟩, [⟨#[112]⟩, ⟨#[113]⟩], .mk 30 ⟨#[]⟩ 0 ks 0 0, 0, 0⟩, ⟨⟨#[103]⟩, [⟨#[122]⟩], n2, 0, 0⟩]⟩, ⟨va, vc, some ⟨g, 0, none⟩, cp, by rw [r1]; rfl, by rw [r1]; exact hr, ?_⟩, ?_⟩
 ·refine ⟨_, cp, rfl, h1, fun _ => ⟨g, 0, _, rfl, by omega, h_lt hg, Elems.cons (c := [.string ⟨#[102]⟩, .slice (some ⟨P, 0, none⟩) 2 2, .int .i64 30, .string ⟨#[]⟩, .float .f64 0, .slice ka ks.length kc, .complex .f64 0 0, .complex .f64 0 0]) ⟨_, _, _, _, _, _, _, rfl, str_row rfl hP hPw, .mk s1⟩ (Elems.cons (c := [.string ⟨#[103]⟩, .slice (some ⟨P2, 0, none⟩) 1 1, k0, k1, k2, k3, k4, .complex .f64 0 0]) ⟨_, _, _, _, _, _, _, rfl, str_row rfl hP2 hP2w, t1⟩ .nil), fun j u hj => ?_⟩⟩;rw [Nat.zero_add, cell_of_heap hg];have hj2 : (cur.toList.take (2 * 8))[j]? = some u := by rw [h4]; exact hj
  exact zrd
 have hmz := Nat.mul_le_mul_right 24550 hm;refine ⟨r3, fun f hf => ?_, ?_⟩
 ·simp only [List.mem_cons, List.not_mem_nil, or_false] at hf
  rcases hf with rfl | rfl
  ·rw [wfN]; exact ⟨fun h => absurd h zi, s2⟩
  exact t2
 simp only [fsize, psize, nsize, List.length_cons, List.length_nil]; omega
def NdB (b e : Nat) (W : World) (n : Node) (v : Value) : Prop := NodeR W (fun g => b ≤ g ∧ g < e) n v
theorem Nd.bd {b Z : Nat} {W : World} {v : Value} (h : Nd b Z W v) : ∃ n, NdB b W.heap.size W n v ∧ wfN n ∧ nsize n ≤ Z := by
 obtain ⟨n, h1, h2, h3⟩ := h;exact ⟨n, h1.bound, h2, h3⟩
theorem NdB.step {b e : Nat} {W W' : World} {n : Node} {v : Value} {fp : List Nat} (h : NdB b e W n v) (hk : Keeps fp W W') (hf : ∀ x ∈ fp, x < b ∨ e ≤ x) : NdB b e W' n v := by
 have h' : NodeR W (fun g => b ≤ g ∧ g < e) n v := h;exact h'.keep hk (fun x hx hb => by have := hf x hx; omega) fun _ h => h
def chainB (md : Region.Mode) (ops : Array Oper) : Bool := (List.range ops.size).all fun i => match ops[i]? with
 | some o => o.guard.isNone && (o.after.all fun e => decide (e.on < i)) && (decide (i + 1 = ops.size) || (List.range ops.size).any fun j => decide (i < j) && match ops[j]? with
   | some p => p.after.any fun e => Region.binds md e && e.on == i
   | none => false)
 | none => false
theorem chainB_at {md : Region.Mode} {ops : Array Oper} (h : chainB md ops = true) {i : Nat} (hi : i < ops.size) : ∃ o, ops[i]? = some o ∧ o.guard = none ∧ (∀ e ∈ o.after, e.on < i) ∧ (i + 1 < ops.size → ∃ j p, i < j ∧ ops[j]? = some p ∧ ∃ e ∈ p.after, Region.binds md e = true ∧ e.on = i) := by
 have h1 := List.all_eq_true.1 h i (List.mem_range.2 hi);rw [Array.getElem?_eq_getElem hi] at h1 ⊢;simp only [Bool.and_eq_true, Bool.or_eq_true, decide_eq_true_eq, Option.isNone_iff_eq_none] at h1;obtain ⟨⟨h2, h3⟩, h4⟩ := h1;refine ⟨_, rfl, h2, fun e he => ?_, fun hlt => ?_⟩
 ·have := Array.all_eq_true_iff_forall_mem.1 h3 e he
  simpa using this
 rcases h4 with h4 | h4
 ·omega
 obtain ⟨j, -, hj⟩ := List.any_eq_true.1 h4;simp only [Bool.and_eq_true, decide_eq_true_eq] at hj;obtain ⟨hj1, hj2⟩ := hj
 cases hp : ops[j]? with
 | none => rw [hp] at hj2; cases hj2
 | some p =>
  rw [hp] at hj2;obtain ⟨e, he, hb⟩ := Array.any_eq_true'.1 hj2;simp only [Bool.and_eq_true, beq_iff_eq] at hb;exact ⟨j, p, hj1, hp, e, he, hb.1, hb.2⟩
def ClosedL (md : Region.Mode) (ops : Array Oper) (n : Nat) (L : Array Bool) : Prop := ∀ j, j < n → L.getD j false = true → ∀ p, ops[j]? = some p → ∀ e ∈ p.after, Region.binds md e = true → L.getD e.on false = true
def TailQ (P : Program) (ops : Array Oper) (Q : Exit → Act → World → Prop) (n : Nat) : Exit → Act → World → Prop
 | .normal, a, w => wpOp P ops Q n (fun a w => Q .normal a w) a w
 | e, a, w => Q e a w
theorem wpOp_tail {P : Program} {md : Region.Mode} {ops : Array Oper} {Q : Exit → Act → World → Prop} {n : Nat} (hn : ops.size = n + 1) (hc : chainB md ops = true) {i : Nat} (hi : i < n) {K K' : Act → World → Prop} {a : Act} {w : World} (hk : ∀ a w, K a w → K' a w) (h : wpOp P ops.pop (TailQ P ops Q n) i K a w) : wpOp P ops Q i K' a w := by
 obtain ⟨o, ho, hg, -, -⟩ := chainB_at hc (i := i) (by omega)
 have ho' : ops.pop[i]? = some o := by
  rw [Array.getElem?_pop, if_pos (by omega)]; exact ho
 unfold wpOp at *
 rw [ho'] at h;rw [ho];simp only [Region.wanted, hg, if_true] at h ⊢;refine h.imp (fun h => ?_) (fun h => ⟨h.1, ?_⟩)
 ·unfold Oper.wp at *
  generalize (execOp a.eval o).run P w = r at *
  cases r with
  | ok x w' =>
   cases x <;> simp only [Oper.upon] at h ⊢
   case value u => exact hk _ _ h
   case skip => exact hk _ _ h
   case defer d => exact hk _ _ h
   case enter f args =>
    refine Calls.mono h fun e w'' he => ?_
    cases e with
    | returned u => exact hk _ _ he
    | panicked c => exact he
    | outgrown => obtain ⟨a1, w1, h1⟩ := he; exact ⟨a1, w1, h1⟩
   case row row args => exact Rows.mono h fun u w'' he => hk _ _ he
  | halt x w' =>
   cases x <;> simp only [Oper.upon] at h ⊢
   case panic u => exact h
 obtain ⟨a1, w1, h1⟩ := h.2;exact ⟨a1, w1, h1⟩
theorem getD_push {L : Array Bool} {n : Nat} (hs : L.size = n) {b : Bool} (d : Bool) {j : Nat} (hj : j < n) : (L.push b).getD j d = L.getD j d := by
 simp [Array.getD_eq_getD_getElem?, Array.getElem?_push, hs, Nat.ne_of_lt hj]
theorem getD_push_last {L : Array Bool} {n : Nat} (hs : L.size = n) (d : Bool) : (L.push false).getD n d = false := by
 subst hs; simp [Array.getD_eq_getD_getElem?]
section
variable {P : Program} {md : Region.Mode} {ops : Array Oper} {Q : Exit → Act → World → Prop} {n : Nat}
theorem ready_pop (hn : ops.size = n + 1) (hc : chainB md ops = true) {L : Array Bool} (hs : L.size = n) {i : Nat} (hi : i < n) : i ∈ Region.ready md ops (L.push false) ↔ i ∈ Region.ready md ops.pop L := by
 obtain ⟨o, ho, hg, hlt, -⟩ := chainB_at hc (i := i) (by omega);have ho' : ops.pop[i]? = some o := by rw [Array.getElem?_pop, if_pos (by omega)]; exact ho
 rw [mem_ready, mem_ready, ho, ho', getD_push hs _ hi]
 constructor
 ·rintro ⟨h0, o', e, h⟩;refine ⟨h0, o', e, fun e' he hb => ?_⟩;obtain rfl := Option.some.inj e;rw [← getD_push hs (b := false) _ (by have := hlt e' he; omega)]; exact h e' he hb
 rintro ⟨h0, o', e, h⟩;refine ⟨h0, o', e, fun e' he hb => ?_⟩;obtain rfl := Option.some.inj e;rw [getD_push hs _ (by have := hlt e' he; omega)]; exact h e' he hb
theorem all_of_last (hn : ops.size = n + 1) (hc : chainB md ops = true) {L : Array Bool} (hs : L.size = n) (hcl : ClosedL md ops n L) (hr : n ∈ Region.ready md ops (L.push false)) : ∀ k i, n ≤ i + k → i < n → L.getD i false = true
 | 0, i, h, hi => by omega
 | k + 1, i, h, hi => by
   obtain ⟨o, ho, hg, hlt, hex⟩ := chainB_at hc (i := i) (by omega);obtain ⟨j, p, hij, hp, e, he, hb, rfl⟩ := hex (by omega);have hjn : j < n + 1 := by rw [← hn]; exact (Array.getElem?_eq_some_iff.1 hp).1
   by_cases hj : j = n
   ·subst hj;obtain ⟨-, o', e', h'⟩ := mem_ready.1 hr;rw [hp] at e';obtain rfl := Option.some.inj e';rw [← getD_push hs (b := false) _ hi]; exact h' e he hb
   exact hcl j (by omega) (all_of_last hn hc hs hcl hr k j (by omega) (by omega)) p hp e he hb
theorem all_of_none (hn : ops.size = n + 1) (hc : chainB md ops = true) {L : Array Bool} (hs : L.size = n) (hr : Region.ready md ops.pop L = []) : ∀ k i, i < k → i < n → L.getD i false = true
 | 0, i, h, _ => by omega
 | k + 1, i, h, hi => by
   cases hg : L.getD i false with
   | true => rfl
   | false =>
    exfalso
    obtain ⟨o, ho, -, hlt, -⟩ := chainB_at hc (i := i) (by omega);have ho' : ops.pop[i]? = some o := by rw [Array.getElem?_pop, if_pos (by omega)]; exact ho
    have ht : L.getD i true = false := by
     have hl : i < L.size := by omega
     simpa [Array.getD_eq_getD_getElem?, hl] using hg
    have hm : i ∈ Region.ready md ops.pop L := mem_ready.2 ⟨ht, o, ho', fun e he _ => all_of_none hn hc hs hr k e.on (by have := hlt e he; omega) (by have := hlt e he; omega)⟩;rw [hr] at hm
    cases hm
theorem wpAny_split (hn : ops.size = n + 1) (hc : chainB md ops = true) : ∀ (fuel : Nat) (L : Array Bool) (a : Act) (w : World), L.size = n → ClosedL md ops n L → wpAny P md ops.pop (TailQ P ops Q n) fuel L a w → wpAny P md ops Q (fuel + 1) (L.push false) a w := by
 -- all but the last have come up
 have fin : ∀ (fuel : Nat) (L : Array Bool) (a : Act) (w : World), L.size = n → ClosedL md ops n L → Region.ready md ops.pop L = [] → TailQ P ops Q n .normal a w → wpAny P md ops Q (fuel + 1) (L.push false) a w := by
  intro fuel L a w hs hcl hr hq;have hall := all_of_none hn hc hs hr;obtain ⟨o, ho, hg, hlt, -⟩ := chainB_at hc (i := n) (by omega)
  have hlast : n ∈ Region.ready md ops (L.push false) := mem_ready.2 ⟨getD_push_last hs _, o, ho, fun e he _ => by
   rw [getD_push hs _ (hlt e he)]; exact hall n e.on (hlt e he) (hlt e he)⟩
  refine ⟨fun h0 => absurd hlast (by rw [h0]; simp), fun i hi => ?_⟩
  have hin : i = n := by
   have h1 := (mem_ready.1 hi).1
   by_cases hlt' : i < n
   ·rw [getD_push hs _ hlt'] at h1;have h2 := hall n i hlt' hlt';have hl : i < L.size := by omega
    simp [Array.getD_eq_getD_getElem?, hl] at h1 h2;rw [h1] at h2; cases h2
   have h2 : i < n + 1 := by rw [← hn]; obtain ⟨-, o', e', -⟩ := mem_ready.1 hi; exact (Array.getElem?_eq_some_iff.1 e').1
   omega
  subst hin;refine wpOp_mono (fun a' w' h' => ?_) hq
  have hnone : Region.ready md ops ((L.push false).setIfInBounds i true) = [] := by
   rw [List.eq_nil_iff_forall_not_mem];intro k hk;obtain ⟨h1, o', e', -⟩ := mem_ready.1 hk;have h2 : k < i + 1 := by rw [← hn]; exact (Array.getElem?_eq_some_iff.1 e').1
   by_cases hki : k = i
   ·subst hki;simp [Array.getD_eq_getD_getElem?, hs] at h1
   have hkl : k < i := by omega
   have h3 := hall i k hkl hkl;have hl : k < L.size := by omega
   rw [Array.getD_eq_getD_getElem?, Array.getElem?_setIfInBounds_ne (fun h => hki h.symm)] at h1;rw [← Array.getD_eq_getD_getElem?, getD_push hs _ hkl] at h1;simp [Array.getD_eq_getD_getElem?, hl] at h1 h3;rw [h1] at h3; cases h3
  cases fuel with
  | zero => exact ⟨hnone, h'⟩
  | succ f => exact ⟨fun _ => h', by rw [hnone]; simp⟩
 intro fuel
 induction fuel with
 | zero => intro L a w hs hcl h; exact fin 0 L a w hs hcl h.1 h.2
 | succ f ih =>
  intro L a w hs hcl h
  by_cases hr : Region.ready md ops.pop L = []
  ·exact fin (f + 1) L a w hs hcl hr (h.1 hr)
  have hlt : ∀ i ∈ Region.ready md ops (L.push false), i < n := by
   intro i hi;obtain ⟨-, o', e', -⟩ := mem_ready.1 hi;have h2 : i < n + 1 := by rw [← hn]; exact (Array.getElem?_eq_some_iff.1 e').1
   by_cases hin : i = n
   ·exfalso
    subst hin;have hall := all_of_last hn hc hs hcl hi;apply hr;rw [List.eq_nil_iff_forall_not_mem];intro k hk;obtain ⟨h1, o2, e2, -⟩ := mem_ready.1 hk
    have h3 : k < i := by
     have := (Array.getElem?_eq_some_iff.1 e2).1;simp at this; omega
    have h4 := hall i k (by omega) h3;have hl : k < L.size := by omega
    simp [Array.getD_eq_getD_getElem?, hl] at h1 h4;rw [h1] at h4; cases h4
   omega
  refine ⟨fun h0 => ?_, fun i hi => ?_⟩
  ·exfalso
   apply hr;rw [List.eq_nil_iff_forall_not_mem];intro k hk
   have h3 : k < n := by
    obtain ⟨-, o2, e2, -⟩ := mem_ready.1 hk;have := (Array.getElem?_eq_some_iff.1 e2).1;simp at this; omega
   have := (ready_pop hn hc hs h3).2 hk;rw [h0] at this; cases this
  have hin := hlt i hi;have hi' := (ready_pop hn hc hs hin).1 hi;refine wpOp_tail hn hc hin (fun a' w' h' => ?_) (h.2 i hi')
  have e1 : (L.push false).setIfInBounds i true = (L.setIfInBounds i true).push false := by
   apply Array.ext_getElem?;intro k;simp only [Array.getElem?_setIfInBounds, Array.getElem?_push, Array.size_push, Array.size_setIfInBounds]
   by_cases hk : i = k
   ·subst hk;have hl : i < L.size := by omega
    simp [Nat.ne_of_lt hl, hl]; omega
   simp [hk]
  rw [e1];refine ih _ a' w' (by simpa using hs) ?_ h';intro j hj hjl p hp e he hb;obtain ⟨o, ho, -, hlt2, -⟩ := chainB_at hc (i := j) (by omega);rw [hp] at ho;obtain rfl := Option.some.inj ho;have hej := hlt2 e he
  by_cases hji : j = i
  ·subst hji;have h5 := (mem_ready.1 hi').2;obtain ⟨o2, e2, h6⟩ := h5;have e3 : ops.pop[j]? = some p := by rw [Array.getElem?_pop, if_pos (by omega)]; exact hp
   rw [e3] at e2;obtain rfl := Option.some.inj e2;have h7 := h6 e he hb;rw [Array.getD_eq_getD_getElem?, Array.getElem?_setIfInBounds_ne (by omega), ← Array.getD_eq_getD_getElem?];exact h7
  rw [Array.getD_eq_getD_getElem?, Array.getElem?_setIfInBounds_ne (fun h => hji h.symm), ← Array.getD_eq_getD_getElem?] at hjl;have h7 := hcl j hj hjl p hp e he hb
  by_cases hei : i = e.on
  ·have hl : i < L.size := by omega
   rw [← hei]; simp [Array.getD_eq_getD_getElem?, hl]
  rw [Array.getD_eq_getD_getElem?, Array.getElem?_setIfInBounds_ne hei, ← Array.getD_eq_getD_getElem?]; exact h7
end
theorem wp_region_tail {P : Program} {ops : Array Oper} {Q : Exit → Act → World → Prop} {id n : Nat} {a : Act} {w : World} (hm : P.follows .mixedOrders = true) (hn : ops.size = n + 1) (hc : chainB .any ops = true) (h : ∀ R : Exit → Act → World → Prop, (∀ a w, wpOp P ops Q n (fun a w => Q .normal a w) a w → R .normal a w) → (∀ e a w, e ≠ .normal → Q e a w → R e a w) → (∀ c a a' w, (Q (.panic c) a w → Q (.panic c) a' w) → R (.panic c) a w → R (.panic c) a' w) → wpAny P .any ops.pop R n (Array.replicate n false) a w.drew) : (Code.region id ops true).wp P Q a w := by
 refine wp_region_any hm ?_
 have e : Array.replicate ops.size false = (Array.replicate n false).push false := by
  rw [hn]; apply Array.ext_getElem?; intro k; simp only [Array.getElem?_push, Array.getElem?_replicate, Array.size_replicate]; by_cases h1 : k = n
  ·subst h1; simp
  by_cases h2 : k < n
  ·simp [h1, h2, Nat.lt_succ_of_lt h2]
  simp [h1, h2]; omega
 rw [e, hn];refine wpAny_split hn hc n _ a _ (by simp) (fun j hj hl => ?_) (h (TailQ P ops Q n) (fun a w h => h) (fun e a w he h => by cases e <;> first | exact h | exact absurd rfl he) (fun c a a' w h h' => h h'));simp [Array.getD_eq_getD_getElem?, hj] at hl
theorem wp_region_tailH {P : Program} {ops : Array Oper} {Q : Exit → Act → World → Prop} {S : World → Prop} {id n : Nat} {ty st : TypeId} {pos : String} {af : Array Edge} {p v : Operand} {a : Act} {w : World} (hm : P.follows .mixedOrders = true) (hn : ops.size = n + 1) (hc : chainB .any ops = true) (ho : ops[n]? = some ⟨none, .store st p v, ty, pos, af, none⟩) (hS : S w.drew)
  (h : ∀ R : Exit → Act → World → Prop, (∀ a w, (∀ K' : Act → World → Prop, (∀ a w, Q .normal a w → K' a w) → Oper.wp P ⟨none, .store st p v, ty, "", #[], none⟩ a w K' Q) → R .normal a w) → (∀ c a a' w, (Q (.panic c) a w → Q (.panic c) a' w) → R (.panic c) a w → R (.panic c) a' w) → S w.drew → wpAnyH P .any ops.pop R S n (Array.replicate n false) a w.drew) : (Code.region id ops true).wp P Q a w :=
 wp_region_tail hm hn hc fun R h1 _ h3 => wpAny_of_held _ _ _ _ (h R (fun a w hk => h1 a w (by
  have h0 := hk (fun a w => Q .normal a w) (fun _ _ h => h);unfold wpOp;rw [ho];show if Region.wanted _ (yielded ops a.tmps) = true then _ else _
  rw [if_pos (by rfl)];exact .inl h0)) h3 hS)
theorem anyH_at {P : Program} {md : Region.Mode} {ops : Array Oper} {Q : Exit → Act → World → Prop} {S : World → Prop} {n : Nat} {L : Array Bool} {a : Act} {W : World} (F : World → Prop) (hF : F W) (h : ∀ W', F W' → wpAnyH P md ops Q S n L a W') : wpAnyH P md ops Q S n L a W := h W hF
end Go.Proofs.YtkfillfkbhbbjaaGreatDoor
