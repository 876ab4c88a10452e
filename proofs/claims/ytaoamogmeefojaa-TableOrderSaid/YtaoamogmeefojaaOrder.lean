/- TableOrder, walked. -/
import Derived.Test.YtaoamogmeefojaaOwn
import Derived.Deep.DeepCutAuto
import Derived.Deep.LoopGhost
namespace Go.Proofs.Ytaoamogmeefojaa
open Go.RowKit

theorem info30 : (Try.prog.info? 30).map (fun i => (i.zero, i.size, i.bytes)) = some (some (.float .f64 0), 1, 8) := by kernel_rfl

/-- A slice of steps: of each, What and Key. -/
def StepS (w : World) (a : Option Addr) (n : Nat) : Prop :=
  n ≤ 9223372036854775807 ∧ ∀ j, j < n → ∃ g o, a = some ⟨g, o, none⟩ ∧ g < w.heap.size ∧ ∃ what : Int, -9223372036854775808 ≤ what ∧ what ≤ 9223372036854775807 ∧ w.cell? ⟨g, o + j * 5, none⟩ = some (.int .i64 what) ∧
    ∃ v, w.cell? ⟨g, o + j * 5 + 1, none⟩ = some v ∧ ∀ w', Keeps [] w w' → BytesS w' v

def OrderAt (w : World) (t : Nat) (n : Nat) (gk : Nat) (keys vals i : Value) (wr : World) : Prop :=
  ∃ k : Nat, k ≤ n ∧ k ≤ 150 ∧ gk = min n 150 - k ∧ i = .int .i64 k ∧ ∃ (ab : AB) (fp : List Nat), Tab wr t fp 0 (ab.map toKV) ∧ (abKeys ab).Nodup ∧ (∀ p ∈ ab, p.2 < 150) ∧ ab.length ≤ k ∧
    wr.ownsRow w.heap.size 9 1 keys ab.length ((abKeys ab).map Value.string) ∧ wr.ownsRow w.heap.size 30 1 vals ab.length (ab.map fun p => Value.float .f64 (fl p.2)) ∧ Keeps [] w wr ∧ ∀ x ∈ fp, w.heap.size ≤ x

theorem slice_shape {w : World} {base size n : Nat} {e : TypeId} {v : Value} {xs : List Value} (h : w.ownsRow base e size v n xs) : ∃ a cap, v = .slice a n cap := by
  rcases h.2 with ⟨rfl, rfl⟩ | ⟨g, cap, cur, rfl, _⟩
  · exact ⟨none, 0, rfl⟩
  · exact ⟨_, cap, rfl⟩

theorem one_new (w : World) (v : Value) (e : TypeId) : ∀ (j : Nat) (u : Value), [v][j]? = some u → (w.alloc (.cells #[v] e)).cell? ((⟨w.heap.size, 0, none⟩ : Addr).add j) = some u := by
  intro j u hj
  cases j with
  | zero => simp at hj; subst hj; exact cell_of_heap (h_new _ _) 0
  | succ j => simp at hj

theorem row_cell {w : World} {base n cap : Nat} {e : TypeId} {a : Option Addr} {xs : List Value} (h : w.ownsRow base e 1 (.slice a n cap) n xs) {j : Nat} (hj : j < n) :
    ∃ g v, a = some ⟨g, 0, none⟩ ∧ xs[j]? = some v ∧ w.cell? ⟨g, j, none⟩ = some v ∧ w.frozen? ⟨g, j, none⟩ = false := by
  have hl : xs.length = n := by have := h.1; omega
  rcases h.2 with ⟨_, h0⟩ | ⟨g, c, cur, h1, h2⟩
  · omega
  · simp only [Value.slice.injEq, true_and] at h1
    obtain ⟨rfl, rfl⟩ := h1
    refine ⟨g, xs[j]'(by omega), rfl, List.getElem?_eq_getElem (by omega), ?_, h.frozenAt j⟩
    rw [h.cellAt j (by omega)]
    exact List.getElem?_eq_getElem (by omega)

/-- The keys behind a Drop: those ahead and those behind. -/
def CutKeys (w : World) (t : Nat) (fp : List Nat) (ab : AB) (i : Nat) (va : Value) (s4 : Value) (wx : World) : Prop :=
  Tab wx t fp 0 ((ab.eraseIdx i).map toKV) ∧ wx.ownsRow w.heap.size 9 1 s4 (ab.eraseIdx i).length ((abKeys (ab.eraseIdx i)).map Value.string) ∧
    wx.ownsRow w.heap.size 30 1 va ab.length (ab.map fun p => Value.float .f64 (fl p.2)) ∧ Keeps [] w wx

/-- Likewise of the values. -/
def CutVals (w : World) (t : Nat) (fp : List Nat) (ab : AB) (i : Nat) (ks : Value) (s5 : Value) (wx : World) : Prop :=
  Tab wx t fp 0 ((ab.eraseIdx i).map toKV) ∧ wx.ownsRow w.heap.size 9 1 ks (ab.eraseIdx i).length ((abKeys (ab.eraseIdx i)).map Value.string) ∧
    wx.ownsRow w.heap.size 30 1 s5 (ab.eraseIdx i).length ((ab.eraseIdx i).map fun p => Value.float .f64 (fl p.2)) ∧ Keeps [] w wx
theorem cut_keeps30 {w w1 : World} {q : Nat} (hg : ((w.alloc (.cells #[] 30)).drew).grownBy w1 (Value.slice (some ⟨w.heap.size, 0, none⟩) 0 0).ownBlock) {v1 : Value} {n : Nat} {xs : List Value} (_ : w1.ownsRow q 30 1 v1 n xs) : Keeps [] w w1 :=
  ((Keeps.alloc [] w (.cells #[] 30)).trans (Keeps.drew [] _) (by simp)).trans (fp' := [w.heap.size]) (Keeps.grown hg (by simp [Value.ownBlock])) (by simp)
theorem cut_size30 {w w1 : World} {v : Option Nat} (hg : ((w.alloc (.cells #[] 30)).drew).grownBy w1 v) : w.heap.size ≤ w1.heap.size := by
  have := hg.size
  simp at this
  omega

def LastAt (w : World) (t : Nat) (fp : List Nat) (ab : AB) (ks vs : Value) (g : Nat) (i : Value) (wr : World) : Prop :=
  ∃ j : Nat, j ≤ ab.length ∧ g = ab.length - j ∧ i = .int .i64 j ∧ Tab wr t fp 0 (ab.map toKV) ∧ wr.ownsRow w.heap.size 9 1 ks ab.length ((abKeys ab).map Value.string) ∧
    wr.ownsRow w.heap.size 30 1 vs ab.length (ab.map fun p => Value.float .f64 (fl p.2)) ∧ Keeps [] w wr

theorem cut_keeps {w w1 : World} {q : Nat} (hg : ((w.alloc (.cells #[] 9)).drew).grownBy w1 (Value.slice (some ⟨w.heap.size, 0, none⟩) 0 0).ownBlock) {v1 : Value} {n : Nat} {xs : List Value} (_ : w1.ownsRow q 9 1 v1 n xs) : Keeps [] w w1 :=
  ((Keeps.alloc [] w (.cells #[] 9)).trans (Keeps.drew [] _) (by simp)).trans (fp' := [w.heap.size]) (Keeps.grown hg (by simp [Value.ownBlock])) (by simp)
theorem cut_size {w w1 : World} {v : Option Nat} (hg : ((w.alloc (.cells #[] 9)).drew).grownBy w1 v) : w.heap.size ≤ w1.heap.size := by
  have := hg.size
  simp at this
  omega

theorem key_cell {w : World} {base n cap : Nat} {a : Option Addr} {ks : List ByteArray} (h : w.ownsRow base 9 1 (.slice a n cap) n (ks.map Value.string)) (hn : ks.length = n) {j : Nat} (hj : j < n) :
    ∃ g k, a = some ⟨g, 0, none⟩ ∧ ks[j]? = some k ∧ w.cell? ⟨g, j, none⟩ = some (.string k) := by
  rcases h.2 with ⟨_, h0⟩ | ⟨g, c, cur, h1, h2⟩
  · omega
  · simp only [Value.slice.injEq, true_and] at h1
    obtain ⟨rfl, rfl⟩ := h1
    refine ⟨g, ks[j]'(by omega), rfl, List.getElem?_eq_getElem (by omega), ?_⟩
    rw [h.cellAt j (by omega)]
    simp [show j < ks.length by omega]

set_option maxRecDepth 100000 in
set_option maxHeartbeats 4000000 in
theorem order_walk (w : World) (a : Option Addr) (n cap : Nat) (hs : StepS w a n) : Calls Try.prog 3 #[.slice a n cap] w fun e w' => e = .returned (.bool true) ∧ Keeps [] w w' := by
  obtain ⟨hn, hs⟩ := hs
  have HS := Lib.hid hs; clear hs
  obtain ⟨i9, hi, hz0, hz1, hz2⟩ := info_parts info9
  have N9 := Lib.hid hi; have N9z := Lib.hid hz0; have N9s := Lib.hid hz1; have N9b := Lib.hid hz2; clear hi hz0 hz1 hz2
  obtain ⟨i30, hi, hz0, hz1, hz2⟩ := info_parts info30
  have N30 := Lib.hid hi; have N30z := Lib.hid hz0; have N30s := Lib.hid hz1; have N30b := Lib.hid hz2; clear hi hz0 hz1 hz2
  go_enter Try.func3, Try.ntmps3
  go_wp2_with fail
  refine (new_tab w).mono ?_
  rintro e w1 ⟨t, fp1, rfl, hT1, hK1, hF1⟩
  go_wp2_with fail
  refine (known_any w1).mono ?_
  rintro e w2 ⟨rfl, hK2⟩
  have hT2 := hT1.keep hK2 (by simp)
  have hk2 : Keeps [] w w2 := hK1.trans hK2 (by simp)
  have HT2 := Lib.hid hT2; have HK2 := Lib.hid hk2; have HF1 := Lib.hid hF1; clear hT1 hT2 hK1 hK2 hk2 hF1
  go_wp2_with fail
  go_loopg [4, 5, 6] (min n 150) (fun g keys vals i wr => OrderAt w t n g keys vals i wr)
  case atStart => exact ⟨0, by omega, by omega, by omega, rfl, [], fp1, HT2.out, List.nodup_nil, by simp, by simp, World.ownsRow_nil _ _ _ _, World.ownsRow_nil _ _ _ _, HK2.out, HF1.out⟩
  case round =>
    obtain ⟨k, hk1, hk2, rfl, rfl, ab, fp, hT, hnd, hlt, hlen, hko, hvo, hK, hF⟩ := hrel
    obtain ⟨ka, kc, rfl⟩ := slice_shape hko
    obtain ⟨va, vc, rfl⟩ := slice_shape hvo
    have HT := Lib.hid hT; have HND := Lib.hid hnd; have HLT := Lib.hid hlt; have HKO := Lib.hid hko; have HVO := Lib.hid hvo; have HK := Lib.hid hK; have HF := Lib.hid hF
    clear hT hnd hlt hko hvo hK hF
    by_cases hkn : k < n ∧ k < 150
    · obtain ⟨hk3, hk4⟩ := hkn
      obtain ⟨ga, oa, rfl, hga, what, hw0, hw1, hcw, kv, hck, hbs⟩ := HS.out k hk3
      have hcw' := HK.out.cell hga hcw
      have hck' := HK.out.cell hga hck
      have HBS := Lib.hid hbs; clear hbs hcw hck
      go_wp2_with fail
      refine (key_any (HBS.out _ HK.out)).mono ?_
      rintro e w3 ⟨key, rfl, q, rfl⟩
      go_wp2_with fail
      have hks : (abKeys ab).length = ab.length := by simp [abKeys]
      have HKS := Lib.hid hks; clear hks
      have hko3 := row_keep0 HKO.out (Keeps.drewN [] wr q)
      have HKO3 := Lib.hid hko3; clear hko3
      generalize hwq : wr.drewN q = w3
      rw [hwq] at HKO3
      have hk3' : Keeps [] wr w3 := by rw [← hwq]; exact Keeps.drewN [] wr q
      have HK3 := Lib.hid hk3'; clear hwq hk3'
      have hal : ab.length ≤ 150 := by omega
      go_loop [8, 9] (fun at_ jv => ∃ j : Nat, j ≤ ab.length ∧ jv = .int .i64 j ∧ at_ = .int .i64 (atTo key (abKeys ab) j)) (fun _ jv => ab.length - (intOf jv).toNat)
      case atStart => exact ⟨0, by omega, rfl, rfl⟩
      case round =>
        obtain ⟨j, hj, rfl, rfl⟩ := hrel
        by_cases hjl : j < ab.length
        · obtain ⟨kg, kj, rfl, hkj, hcj⟩ := key_cell HKO3.out HKS.out hjl
          have HKJ := Lib.hid hkj; clear hkj
          generalize hA : atTo key (abKeys ab) j = A at *
          have HA := Lib.hid hA; clear hA
          cases heq : (kj.toList == key.toList)
          · go_wp2_with fail
            refine ⟨⟨j + 1, by omega, by go_num, ?_⟩, by simp [intOf]; omega⟩
            have hne : ¬ (abKeys ab)[j]? = some key := by
              rw [HKJ.out]
              intro e
              rw [Option.some.inj e] at heq
              simp at heq
            rw [atTo, if_neg hne, HA.out]
          · go_wp2_with fail
            refine ⟨⟨j + 1, by omega, by go_num, ?_⟩, by simp [intOf]; omega⟩
            have he : (abKeys ab)[j]? = some key := by
              rw [HKJ.out]; exact congrArg some (bytes_toList_inj (by simpa using heq))
            rw [atTo, if_pos he]
        · have hje : j = ab.length := by omega
          clear hjl hj
          have hspec := atTo_spec key (abKeys ab) ab.length
          have hT3 := HT.out.keep HK3.out (by simp)
          have hvo3 := row_keep0 HVO.out HK3.out
          have hK03 : Keeps [] w w3 := HK.out.trans HK3.out (by simp)
          have HT3 := Lib.hid hT3; have HVO3 := Lib.hid hvo3; have HK03 := Lib.hid hK03; clear hT3 hvo3 hK03
          have hcw3 := HK3.out.cell (Nat.lt_of_lt_of_le hga HK.out.size) hcw'
          subst hje
          cases hw3 : (what.tmod 4 == 3)
          · rcases hspec with ⟨hat, hno⟩ | ⟨i, hil, hat, hik⟩
            · rw [hat]
              have HNO := Lib.hid hno; clear hno hat
              go_wp2_with fail
              rw [show floatOfInt FloatKind.f64 (k : Int) = fl k from rfl]
              refine (num_any _ _).mono ?_
              rintro e w4 ⟨rfl, hK4⟩
              have hT4 := HT3.out.keep hK4 (by simp)
              go_wp2_with fail
              refine (put_tab hT4 (toKV (key, k))).mono ?_
              rintro e w5 ⟨rfl, fp5, hT5, hK5, hG5⟩
              have hko5 := row_keep_tab (row_keep0 HKO3.out hK4) (by decide) hT4 hK5
              have hvo5 := row_keep_tab (row_keep0 HVO3.out hK4) (by decide) hT4 hK5
              have hk5 : Keeps [] w w5 := (HK03.out.trans hK4 (by simp)).trans hK5 (fun x hx => .inr (HF.out x hx))
              have hf5 : ∀ x ∈ fp5, w.heap.size ≤ x := by
                intro x hx
                rcases hG5 x hx with h | h
                · exact HF.out x h
                · have h1 := HK03.out.size; have h2 := hK4.size; omega
              have hnk : key ∉ abKeys ab := by
                intro hm
                obtain ⟨i, hi⟩ := List.mem_iff_getElem?.1 hm
                have := (List.getElem?_eq_some_iff.1 hi).1
                exact HNO.out i (by rw [← HKS.out]; exact this) hi
              rw [ab_put_new hnk] at hT5
              have HT5 := Lib.hid hT5; have HKO5 := Lib.hid hko5; have HVO5 := Lib.hid hvo5; have HK5 := Lib.hid hk5; have HF5 := Lib.hid hf5; have HNK := Lib.hid hnk
              clear hT4 hK4 hT5 hK5 hG5 hko5 hvo5 hk5 hf5 hnk
              go_wp2_with (at_builtin; refine wpList_append_own _ rfl (.tmp 98) (.tmp 100) 26 rfl w.heap.size 9 i9 (.string ⟨#[]⟩) 1 16 Try.underlying26 N9.out N9z.out N9s.out N9b.out rfl (by decide) _ _ _ rfl (HKO5.out.alloc _) ⟨w5.heap.size, 0, none⟩ 1 1 [.string key] rfl rfl ?c1 ?c2 ?c3 ?c4 ?c5 ?_)
              case c1 => exact one_new _ _ _
              case c2 => intro u hu; simp at hu; subst hu; rfl
              case c3 => simp only [maxLen]; omega
              case c4 => omega
              case c5 => have := HK5.out.size; simp; omega
              intro v6 w6 hko6 hg6 _
              have hA5 := HT5.out.keep (Keeps.alloc [] w5 (.cells #[.string key] 9)) (by simp)
              have hT6 := tab_keep_row hA5 (HKO5.out.alloc _) (by decide) hg6
              have hvo6 := row_keep_row (HVO5.out.alloc (.cells #[.string key] 9)) (HKO5.out.alloc _) (by decide) hg6
              have hk6 := keeps_row (HK5.out.trans (Keeps.alloc [] w5 (.cells #[.string key] 9)) (by simp)) (HKO5.out.alloc _) hg6
              have HT6 := Lib.hid hT6; have HKO6 := Lib.hid hko6; have HVO6 := Lib.hid hvo6; have HK6 := Lib.hid hk6
              clear hA5 hT6 hko6 hvo6 hk6 hg6
              go_wp2_with (at_builtin; refine wpList_append_own _ rfl (.tmp 102) (.tmp 104) 27 rfl w.heap.size 30 i30 (.float .f64 0) 1 8 Try.underlying27 N30.out N30z.out N30s.out N30b.out rfl (by decide) _ _ _ rfl (HVO6.out.alloc _) ⟨w6.heap.size, 0, none⟩ 1 1 [.float .f64 (fl k)] rfl rfl ?d1 ?d2 ?d3 ?d4 ?d5 ?_)
              case d1 => exact one_new _ _ _
              case d2 => intro u hu; simp at hu; subst hu; rfl
              case d3 => simp only [maxLen]; omega
              case d4 => omega
              case d5 => have := HK6.out.size; simp; omega
              intro v7 w7 hvo7 hg7 _
              have hA6 := HT6.out.keep (Keeps.alloc [] w6 (.cells #[.float .f64 (fl k)] 30)) (by simp)
              have hT7 := tab_keep_row hA6 (HVO6.out.alloc _) (by decide) hg7
              have hko7 := row_keep_row (HKO6.out.alloc (.cells #[.float .f64 (fl k)] 30)) (HVO6.out.alloc _) (by decide) hg7
              have hk7 := keeps_row (HK6.out.trans (Keeps.alloc [] w6 (.cells #[.float .f64 (fl k)] 30)) (by simp)) (HVO6.out.alloc _) hg7
              have HT7 := Lib.hid hT7; have HKO7 := Lib.hid hko7; have HVO7 := Lib.hid hvo7; have HK7 := Lib.hid hk7
              clear hA6 hT7 hko7 hvo7 hk7 hg7 HT6 HKO6 HVO6 HK6 HT5 HKO5 HVO5 HK5
              go_wp2_with fail
              go_roundg (min n 150 - (k + 1))
              case measure => omega
              case rel =>
                refine ⟨k + 1, by omega, by omega, rfl, by go_num, ab ++ [(key, k)], fp5, HT7.out, ?_, ?_, by simp; omega, ?_, ?_, HK7.out, HF5.out⟩
                · have h1 : abKeys (ab ++ [(key, k)]) = abKeys ab ++ [key] := by simp [abKeys]
                  rw [h1]
                  refine List.nodup_append.2 ⟨HND.out, by simp, ?_⟩
                  intro x hx y hy
                  simp at hy
                  subst hy
                  intro e
                  subst e
                  exact HNK.out hx
                · intro p hp
                  rcases List.mem_append.1 hp with hp | hp
                  · exact HLT.out p hp
                  · simp at hp; subst hp; exact hk4
                · have := HKO7.out
                  simpa [abKeys] using this
                · have := HVO7.out
                  simpa using this
            · rw [hat]
              have HIK := Lib.hid hik; clear hik hat
              have hil' : i < ab.length := hil
              go_wp2_with fail
              rw [show floatOfInt FloatKind.f64 (k : Int) = fl k from rfl]
              refine (num_any _ _).mono ?_
              rintro e w4 ⟨rfl, hK4⟩
              have hT4 := HT3.out.keep hK4 (by simp)
              go_wp2_with fail
              refine (put_tab hT4 (toKV (key, k))).mono ?_
              rintro e w5 ⟨rfl, fp5, hT5, hK5, hG5⟩
              have hko5 := row_keep_tab (row_keep0 HKO3.out hK4) (by decide) hT4 hK5
              have hvo5 := row_keep_tab (row_keep0 HVO3.out hK4) (by decide) hT4 hK5
              have hk5 : Keeps [] w w5 := (HK03.out.trans hK4 (by simp)).trans hK5 (fun x hx => .inr (HF.out x hx))
              have hf5 : ∀ x ∈ fp5, w.heap.size ≤ x := by
                intro x hx
                rcases hG5 x hx with h | h
                · exact HF.out x h
                · have h1 := HK03.out.size; have h2 := hK4.size; omega
              rw [ab_put_old HND.out HIK.out] at hT5
              obtain ⟨vg, fv, rfl, hfv, hcv, hfz⟩ := row_cell hvo5 hil'
              obtain ⟨hst1, hst2⟩ := hvo5.stored i (.float .f64 (fl k))
              have hT6 := tab_keep_row hT5 hvo5 (by decide) hst2
              have hko6 := row_keep_row hko5 hvo5 (by decide) hst2
              have hk6 := keeps_row hk5 hvo5 hst2
              have HT6 := Lib.hid hT6; have HKO6 := Lib.hid hko6; have HVO6 := Lib.hid hst1; have HK6 := Lib.hid hk6; have HF5 := Lib.hid hf5
              have hstore : Sem.run Try.prog (store ⟨vg, i, none⟩ (.float .f64 (fl k))) w5 = .ok () (w5.setCell ⟨vg, i, none⟩ (.float .f64 (fl k))) := by
                simp [store, Sem.run, hcv, hfz]
              clear hT4 hK4 hT5 hK5 hG5 hko5 hvo5 hk5 hf5 hT6 hko6 hk6 hst1 hst2 hfv
              go_wp2_with fail
              go_roundg (min n 150 - (k + 1))
              case measure => omega
              case rel =>
                refine ⟨k + 1, by omega, by omega, rfl, by go_num, ab.set i (key, k), fp5, HT6.out, by rw [abKeys_set HIK.out]; exact HND.out, ?_, by simp; omega, ?_, ?_, HK6.out, HF5.out⟩
                · intro p hp
                  rcases List.mem_or_eq_of_mem_set hp with hp | hp
                  · exact HLT.out p hp
                  · subst hp; exact hk4
                · rw [abKeys_set HIK.out, List.length_set]
                  exact HKO6.out
                · have := HVO6.out
                  rw [List.map_set, List.length_set]
                  exact this
          · rcases hspec with ⟨hat, hno⟩ | ⟨i, hil, hat, hik⟩
            · rw [hat]
              have HNO := Lib.hid hno; clear hno hat
              have hnk : key ∉ abKeys ab := by
                intro hm
                obtain ⟨i, hi⟩ := List.mem_iff_getElem?.1 hm
                have := (List.getElem?_eq_some_iff.1 hi).1
                exact HNO.out i (by rw [← HKS.out]; exact this) hi
              have hkf : kfind key (ab.map toKV) = none := kfind_not (by rw [abKeys_toKV]; exact hnk)
              have HKF := Lib.hid hkf; clear hnk hkf
              go_wp2_with fail
              refine (drop_tab HT3.out key).mono ?_
              rintro e w5 ⟨he, fp5, hT5, hK5, hG5⟩
              rw [HKF.out] at he
              obtain rfl : e = .returned (.bool false) := he
              rw [kfind_none HKF.out] at hT5
              have hko5 := row_keep_tab HKO3.out (by decide) HT3.out hK5
              have hvo5 := row_keep_tab HVO3.out (by decide) HT3.out hK5
              have hk5 : Keeps [] w w5 := HK03.out.trans hK5 (fun x hx => .inr (HF.out x hx))
              have hf5 : ∀ x ∈ fp5, w.heap.size ≤ x := by
                intro x hx
                rcases hG5 x hx with h | h
                · exact HF.out x h
                · have h1 := HK03.out.size; omega
              have HT5 := Lib.hid hT5; have HKO5 := Lib.hid hko5; have HVO5 := Lib.hid hvo5; have HK5 := Lib.hid hk5; have HF5 := Lib.hid hf5
              clear hT5 hK5 hG5 hko5 hvo5 hk5 hf5
              go_wp2_with fail
              go_roundg (min n 150 - (k + 1))
              case measure => omega
              case rel => exact ⟨k + 1, by omega, by omega, rfl, by go_num, ab, fp5, HT5.out, HND.out, HLT.out, by omega, HKO5.out, HVO5.out, HK5.out, HF5.out⟩
            · rw [hat]
              have HIK := Lib.hid hik; clear hik hat
              have hil' : i < ab.length := hil
              obtain ⟨x, _, hkf⟩ := ab_found HND.out HIK.out
              have HKF := Lib.hid hkf; clear hkf
              go_wp2_with fail
              refine (drop_tab HT3.out key).mono ?_
              rintro e w5 ⟨he, fp5, hT5, hK5, hG5⟩
              rw [HKF.out] at he
              obtain rfl : e = .returned (.bool true) := he
              rw [ab_del HND.out HIK.out] at hT5
              have hko5 := row_keep_tab HKO3.out (by decide) HT3.out hK5
              have hvo5 := row_keep_tab HVO3.out (by decide) HT3.out hK5
              have hk5 : Keeps [] w w5 := HK03.out.trans hK5 (fun x hx => .inr (HF.out x hx))
              have hf5 : ∀ x ∈ fp5, w.heap.size ≤ x := by
                intro x hx
                rcases hG5 x hx with h | h
                · exact HF.out x h
                · have h1 := HK03.out.size; omega
              obtain ⟨kg, kv0, rfl, _, hkc0, _⟩ := row_cell hko5 hil'
              have HT5 := Lib.hid hT5; have HKO5 := Lib.hid hko5; have HVO5 := Lib.hid hvo5; have HK5 := Lib.hid hk5; have HF5 := Lib.hid hf5
              clear hT5 hK5 hG5 hko5 hvo5 hk5 hf5 hkc0
              go_wp2_with fail
              have hcaps := row_cap HKO5.out
              obtain ⟨hcap1, hcap2⟩ := hcaps
              have hp1 := row_part HKO5.out 0 i
              obtain ⟨A, hA, HP2⟩ := row_tail HKO5.out hil'
              have HP1 := Lib.hid hp1; clear hp1
              simp only [maxLen] at hcap2
              go_cut [4] (fun s4 wx => CutKeys w t fp5 ab i (.slice va ab.length vc) s4 wx)
              case first =>
                have q1 : IntKind.i64.wrap ((i : Int) + 1) = (i : Int) + 1 := IntWalk.i64_in _ (by omega)
                have q2 : ((i : Int) + 1).toNat = i + 1 := by omega
                have q3 : (0 : Int) ≤ (i : Int) + 1 := by omega
                have q4 : i ≤ kc := by omega
                have q5 : (i : Int) + 1 ≤ (ab.length : Int) := by omega
                have q6 : i + 1 ≤ ab.length := by omega
                have m1 : ((((abKeys ab).map Value.string).drop 0).take i).length = i * 1 := by
                  rw [List.length_take, List.drop_zero, List.length_map, HKS.out]; omega
                have m2 : (((abKeys ab).map Value.string).drop (i + 1)).length = (ab.length - (i + 1)) * 1 := by
                  rw [List.length_drop, List.length_map, HKS.out]; omega
                have m3 : ∀ u ∈ (((abKeys ab).map Value.string).drop 0).take i, u.oneCell' = true := by
                  intro u hu
                  obtain ⟨x, _, rfl⟩ := List.mem_map.1 (List.mem_of_mem_drop (List.mem_of_mem_take hu))
                  rfl
                have m4 : ∀ u ∈ ((abKeys ab).map Value.string).drop (i + 1), u.oneCell' = true := by
                  intro u hu
                  obtain ⟨x, _, rfl⟩ := List.mem_map.1 (List.mem_of_mem_drop hu)
                  rfl
                have M1 := Lib.hid m1; have M2 := Lib.hid m2; have M3 := Lib.hid m3; have M4 := Lib.hid m4; clear m1 m2 m3 m4
                have b1 : 0 + i ≤ maxLen := by simp only [maxLen]; omega
                have b2 : (0 + i) * 16 ≤ 140737488355328 := by omega
                have b3 : 0 + i + (ab.length - (i + 1)) ≤ maxLen := by simp only [maxLen]; omega
                have b4 : (0 + i + (ab.length - (i + 1))) * 16 ≤ 140737488355328 := by omega
                have B1 := Lib.hid b1; have B2 := Lib.hid b2; have B3 := Lib.hid b3; have B4 := Lib.hid b4; clear b1 b2 b3 b4
                go_region_law (first
                    | (refine step_own rfl (.tmp 65) (.tmp 68) 26 rfl w5.heap.size 9 i9 (.string ⟨#[]⟩) 1 16 Try.underlying26 N9.out N9z.out N9s.out N9b.out rfl (by decide) _ 0 [] rfl (World.ownsRow_lit w5 #[] 0 (Nat.le_refl _) (by decide) rfl) ⟨kg, 0, none⟩ i kc ((((abKeys ab).map Value.string).drop 0).take i) rfl M1.out (HP1.out _ ((Keeps.alloc [] w5 _).trans (Keeps.drew [] _) (by simp))) M3.out B1.out B2.out (by simp) ?_; intro v1 w1 ho1 hg1)
                    | (refine step_own rfl (.tmp 69) (.tmp 73) 26 rfl w5.heap.size 9 i9 (.string ⟨#[]⟩) 1 16 Try.underlying26 N9.out N9z.out N9s.out N9b.out rfl (by decide) _ (0 + i) _ rfl ho1 A (ab.length - (i + 1)) (kc - (i + 1)) (((abKeys ab).map Value.string).drop (i + 1)) rfl M2.out (HP2.out _ (cut_keeps hg1 ho1)) M4.out B3.out B4.out (cut_size hg1) ?_; intro v2 w2 ho2 hg2))
                have hk12 := keeps_row (W := w5) (cut_keeps hg1 ho1) ho1 hg2
                have hfin : CutKeys w t fp5 ab i (.slice va ab.length vc) v2 w2 := by
                  refine ⟨HT5.out.keep hk12 (by simp), ?_, row_keep0 HVO5.out hk12, HK5.out.trans hk12 (by simp)⟩
                  have h1 := row_mono ho2 HK5.out.size
                  have e1 : (ab.eraseIdx i).length = 0 + i + (ab.length - (i + 1)) := by rw [List.length_eraseIdx]; simp [hil']; omega
                  rw [e1, abKeys_erase, ← map_eraseIdx, ← erase_halves]
                  simpa using h1
                have HFIN := Lib.hid hfin
                clear hfin hk12 ho1 ho2 hg1 hg2
                go_wp2_with fail
                go_meet
                case rel => exact HFIN.out
              case rest =>
                obtain ⟨hT6, hko6, hvo6, hK6⟩ := hcut
                clear HT5 HKO5 HVO5 HK5 HP1 HP2 hA A
                obtain ⟨vg, vv0, rfl, _, _, _⟩ := row_cell hvo6 hil'
                obtain ⟨hvap1, hvap2⟩ := row_cap hvo6
                have hp1 := row_part hvo6 0 i
                obtain ⟨A, hA, HP2⟩ := row_tail hvo6 hil'
                have HP1 := Lib.hid hp1; clear hp1
                simp only [maxLen] at hvap2
                have HT6 := Lib.hid hT6; have HKO6 := Lib.hid hko6; have HVO6 := Lib.hid hvo6; have HK6 := Lib.hid hK6; clear hT6 hko6 hvo6 hK6
                have hvl : (ab.map fun p => Value.float .f64 (fl p.2)).length = ab.length := List.length_map ..
                generalize hVS : (ab.map fun p => Value.float .f64 (fl p.2)) = VS at *
                have h1c : ∀ u ∈ VS, u.oneCell' = true := by
                  intro u hu
                  rw [← hVS] at hu
                  obtain ⟨x, _, rfl⟩ := List.mem_map.1 hu
                  rfl
                have HVS := Lib.hid hVS; have HVL := Lib.hid hvl; have H1C := Lib.hid h1c; clear hVS hvl h1c
                go_wp2_with fail
                go_cut [5] (fun s5 wx => CutVals w t fp5 ab i u4 s5 wx)
                case first =>
                  have q1 : IntKind.i64.wrap ((i : Int) + 1) = (i : Int) + 1 := IntWalk.i64_in _ (by omega)
                  have q2 : ((i : Int) + 1).toNat = i + 1 := by omega
                  have q3 : (0 : Int) ≤ (i : Int) + 1 := by omega
                  have q4 : i ≤ vc := by omega
                  have q5 : (i : Int) + 1 ≤ (ab.length : Int) := by omega
                  have q6 : i + 1 ≤ ab.length := by omega
                  have m1 : ((VS.drop 0).take i).length = i * 1 := by
                    rw [List.length_take, List.drop_zero, HVL.out]; omega
                  have m2 : (VS.drop (i + 1)).length = (ab.length - (i + 1)) * 1 := by
                    rw [List.length_drop, HVL.out]; omega
                  have m3 : ∀ u ∈ (VS.drop 0).take i, u.oneCell' = true := fun u hu => H1C.out u (List.mem_of_mem_drop (List.mem_of_mem_take hu))
                  have m4 : ∀ u ∈ VS.drop (i + 1), u.oneCell' = true := fun u hu => H1C.out u (List.mem_of_mem_drop hu)
                  have M1 := Lib.hid m1; have M2 := Lib.hid m2; have M3 := Lib.hid m3; have M4 := Lib.hid m4; clear m1 m2 m3 m4
                  have b1 : 0 + i ≤ maxLen := by simp only [maxLen]; omega
                  have b2 : (0 + i) * 8 ≤ 140737488355328 := by omega
                  have b3 : 0 + i + (ab.length - (i + 1)) ≤ maxLen := by simp only [maxLen]; omega
                  have b4 : (0 + i + (ab.length - (i + 1))) * 8 ≤ 140737488355328 := by omega
                  have B1 := Lib.hid b1; have B2 := Lib.hid b2; have B3 := Lib.hid b3; have B4 := Lib.hid b4; clear b1 b2 b3 b4
                  go_region_law (first
                      | (refine step_own rfl (.tmp 75) (.tmp 78) 27 rfl wc.heap.size 30 i30 (.float .f64 0) 1 8 Try.underlying27 N30.out N30z.out N30s.out N30b.out rfl (by decide) _ 0 [] rfl (World.ownsRow_lit wc #[] 0 (Nat.le_refl _) (by decide) rfl) ⟨vg, 0, none⟩ i vc ((VS.drop 0).take i) rfl M1.out (HP1.out _ ((Keeps.alloc [] wc _).trans (Keeps.drew [] _) (by simp))) M3.out B1.out B2.out (by simp) ?_; intro v1 w1 ho1 hg1)
                      | (refine step_own rfl (.tmp 79) (.tmp 83) 27 rfl wc.heap.size 30 i30 (.float .f64 0) 1 8 Try.underlying27 N30.out N30z.out N30s.out N30b.out rfl (by decide) _ (0 + i) _ rfl ho1 A (ab.length - (i + 1)) (vc - (i + 1)) (VS.drop (i + 1)) rfl M2.out (HP2.out _ (cut_keeps30 hg1 ho1)) M4.out B3.out B4.out (cut_size30 hg1) ?_; intro v2 w2 ho2 hg2))
                  have hk12 := keeps_row (W := wc) (cut_keeps30 hg1 ho1) ho1 hg2
                  have hfin : CutVals w t fp5 ab i u4 v2 w2 := by
                    refine ⟨HT6.out.keep hk12 (by simp), row_keep0 HKO6.out hk12, ?_, HK6.out.trans hk12 (by simp)⟩
                    have h1 := row_mono ho2 HK6.out.size
                    have e1 : (ab.eraseIdx i).length = 0 + i + (ab.length - (i + 1)) := by rw [List.length_eraseIdx]; simp [hil']; omega
                    rw [e1, ← map_eraseIdx, ← erase_halves, HVS.out]
                    simpa using h1
                  have HFIN := Lib.hid hfin
                  clear hfin hk12 ho1 ho2 hg1 hg2
                  go_wp2_with fail
                  go_meet
                  case rel => exact HFIN.out
                case rest =>
                  obtain ⟨hT7, hko7, hvo7, hK7⟩ := hcut
                  have HT7 := Lib.hid hT7; have HKO7 := Lib.hid hko7; have HVO7 := Lib.hid hvo7; have HK7 := Lib.hid hK7; clear hT7 hko7 hvo7 hK7
                  go_wp2_with fail
                  go_roundg (min n 150 - (k + 1))
                  case measure => omega
                  case rel =>
                    have hle : (ab.eraseIdx i).length + 1 = ab.length := by rw [List.length_eraseIdx]; simp [hil']; omega
                    refine ⟨k + 1, by omega, by omega, rfl, by go_num, ab.eraseIdx i, fp5, HT7.out, ?_, ?_, by omega, HKO7.out, HVO7.out, HK7.out, HF5.out⟩
                    · rw [abKeys_erase]; exact (List.eraseIdx_sublist _ _).nodup HND.out
                    · intro p hp; exact HLT.out p (List.mem_of_mem_eraseIdx hp)
    · have hks : (abKeys ab).length = ab.length := by simp [abKeys]
      have HKS := Lib.hid hks; clear hks
      have hal : ab.length ≤ 150 := by omega
      have hex : ¬ k < n ∨ (k < n ∧ ¬ k < 150) := by omega
      rcases hex with hex | ⟨hex, hex2⟩
      all_goals
        go_wp2_with fail
        go_loopg [11] (ab.length) (fun g i wr => LastAt w t fp ab (.slice ka ab.length kc) (.slice va ab.length vc) g i wr)
        case atStart => exact ⟨0, by omega, by omega, rfl, HT.out, HKO.out, HVO.out, HK.out⟩
        case round =>
          obtain ⟨j, hj, rfl, rfl, hT, hko, hvo, hK⟩ := hrel
          by_cases hjl : j < ab.length
          · obtain ⟨kg, kj, hka, hkj, hcj⟩ := key_cell hko HKS.out hjl
            obtain ⟨vg, vj, hva, hvj, hcv, _⟩ := row_cell hvo hjl
            subst hka
            subst hva
            obtain ⟨x, hx, hkf⟩ := ab_found HND.out hkj
            have hvx : vj = .float .f64 (fl x) := by
              rw [List.getElem?_map, hx] at hvj
              exact (Option.some.inj hvj).symm
            subst hvx
            have hE : (FloatKind.f64.format.order (zClean (fl x)) (fl x) != some Ordering.eq) = false := by
              have := fl_eq x (HLT.out _ (List.mem_of_getElem? hx))
              rw [bne, this]; rfl
            have hgl : kg < wr.heap.size := by obtain ⟨cur, hb⟩ := own_block hko rfl; exact h_lt hb
            have hvl : vg < wr.heap.size := by obtain ⟨cur, hb⟩ := own_block hvo rfl; exact h_lt hb
            have HKF := Lib.hid hkf; have HTr := Lib.hid hT; have HKOr := Lib.hid hko; have HVOr := Lib.hid hvo; have HKr := Lib.hid hK
            clear hkf hT hko hvo hK hx hkj hvj
            go_wp2_with fail
            refine (get_tab HTr.out kj).mono ?_
            rintro e w5 ⟨he, hK5⟩
            rw [HKF.out] at he
            obtain rfl : e = .returned (.tuple #[.agg #[.int .i64 1, .float .f64 (zClean (fl x)), .string ⟨#[]⟩], .bool true]) := he
            generalize zClean (fl x) = z at *
            have hcv5 := hK5.cell hvl hcv
            have HK5 := Lib.hid hK5; clear hK5 hcv hcj
            go_wp2_with ((with_reducible show wpList _ _ _ (Oper.mk none (.store 37 _ _) _ _ _ _ :: _) _ _); refine stT 37 w5.heap.size 0 _ (h_new _ _) rfl (.agg #[.int .i64 1, .float .f64 z, .string ⟨#[]⟩]) rfl (by kernel_rfl) (by simp [Value.cells]) (by simp [Value.cells, Value.oneCell']) ?_)
            intro w6 hs6
            have hK6 : Keeps [] w5 w6 := (Keeps.alloc [] w5 _).trans hs6.keeps (by simp)
            have hz1 := cell_of_heap hs6.row 1
            simp at hz1
            have hcv6 := hK6.cell (Nat.lt_of_lt_of_le hvl HK5.out.size) hcv5
            have HK6 := Lib.hid hK6; clear hK6 hs6 hcv5
            generalize hb5 : w5.heap.size = b5 at *
            have HB5 := Lib.hid hb5; clear hb5
            generalize hfx : fl x = fx at *
            have HFX := Lib.hid hfx; clear hfx
            go_wp2_with fail
            go_quiet (fail)
            go_wp2_with fail
            go_roundg (ab.length - (j + 1))
            case measure => omega
            case rel =>
              have hk := ((HK5.out.trans HK6.out (by simp)).trans (Keeps.drewN [] w6 nq) (by simp))
              exact ⟨j + 1, by omega, rfl, by go_num, HTr.out.keep hk (by simp), row_keep0 HKOr.out hk, row_keep0 HVOr.out hk, HKr.out.trans hk (by simp)⟩
          · have hje : j = ab.length := by omega
            subst hje
            have HTr := Lib.hid hT; have HKOr := Lib.hid hko; have HVOr := Lib.hid hvo; have HKr := Lib.hid hK
            clear hT hko hvo hK
            go_wp2_with fail
            refine (keys_tab HTr.out (by rw [List.length_map]; omega)).mono ?_
            rintro e w5 ⟨v5, rfl, hS5, hT5, hK5⟩
            have hko5 := row_keep0 HKOr.out hK5
            have hl := HKS.out
            rw [← hl] at hko5 ⊢
            have hs2 := StrS.of_row hko5 (by omega)
            have hk5 := HKr.out.trans hK5 (by simp)
            rw [abKeys_toKV] at hS5
            have HS5 := Lib.hid hS5; have HS2 := Lib.hid hs2; have HK5 := Lib.hid hk5
            clear hS5 hT5 hK5 hko5 hs2 hk5 hl
            go_wp2_with fail
            refine (strs_any HS5.out.1 HS2.out).mono ?_
            rintro e w6 ⟨he, n6, rfl⟩
            rw [strsEq_true rfl] at he
            subst he
            have hk6 := HK5.out.trans (Keeps.drewN [] w5 n6) (by simp)
            have HK6 := Lib.hid hk6; clear hk6
            go_wp2_with fail
            go_ret
            exact ⟨rfl, HK6.out⟩
end Go.Proofs.Ytaoamogmeefojaa
