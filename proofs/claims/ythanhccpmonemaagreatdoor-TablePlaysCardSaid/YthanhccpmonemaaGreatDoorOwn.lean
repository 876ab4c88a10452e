/- Rows of the call's own beside a table: neither touches the other (their blocks are of other types). -/
import Derived.Test.YthanhccpmonemaaGreatDoorOrderPlain
import Derived.Deep.RegionLaw
namespace Go.Proofs.YthanhccpmonemaaGreatDoor
open Go.RowKit

theorem Chain.type {w : World} {nx : Option Nat} : ∀ {prev : Option Nat} {es : List Ent}, Chain w nx prev es → ∀ e ∈ es, ∃ c, w.heap[e.b]? = some (.cells c 64 (0, 0))
  | _, _ :: _, h, _, .head _ => ⟨_, h.1⟩
  | _, _ :: _, h, x, .tail _ hx => h.2.type x hx
/-- No block of a table is a row of another type. -/
theorem Tab.other {w : World} {t : Nat} {fp : List Nat} {ttl : Int} {vs : List KV} (h : Tab w t fp ttl vs) {g : Nat} {c : Array Value} {e : TypeId} {f : Nat × Nat} (hg : w.heap[g]? = some (.cells c e f)) (he : e ≠ 44 ∧ e ≠ 64) : g ∉ fp := by
  obtain ⟨m, es, l, clock, hr, rfl, rfl⟩ := h
  intro hm
  simp only [List.mem_cons, List.mem_map] at hm
  rcases hm with rfl | rfl | ⟨x, hx, rfl⟩
  · have := hr.tab
    rw [hg] at this
    simp at this
    exact he.1 this.2.1
  · have := hr.map
    rw [hg] at this
    simp at this
  · obtain ⟨c', hc'⟩ := hr.chain.type x hx
    rw [hg] at hc'
    simp at hc'
    exact he.2 hc'.2.1

theorem own_block {w : World} {base size n : Nat} {e : TypeId} {v : Value} {xs : List Value} (h : w.ownsRow base e size v n xs) {g : Nat} (hg : v.ownBlock = some g) : ∃ cur, w.heap[g]? = some (.cells cur e (0, 0)) := by
  rcases h.2 with ⟨rfl, _⟩ | ⟨g', cap, cur, rfl, _, hh, _⟩
  · simp [Value.ownBlock] at hg
  · simp [Value.ownBlock] at hg
    subst hg
    exact ⟨cur, hh⟩
theorem row_of_block {w w' : World} {base size n : Nat} {e : TypeId} {v : Value} {xs : List Value} (h : w.ownsRow base e size v n xs) (hk : ∀ g, v.ownBlock = some g → w'.heap[g]? = w.heap[g]?) : w'.ownsRow base e size v n xs := by
  refine ⟨h.1, ?_⟩
  rcases h.2 with hn | ⟨g, cap, cur, rfl, hb, hh, rest⟩
  · exact .inl hn
  · exact .inr ⟨g, cap, cur, rfl, hb, by rw [hk g rfl]; exact hh, rest⟩

/-- A row stays while a table is worked on. -/
theorem row_keep_tab {w w' : World} {base size n : Nat} {e : TypeId} {v : Value} {xs : List Value} {t : Nat} {fp : List Nat} {ttl : Int} {vs : List KV} (h : w.ownsRow base e size v n xs) (he : e ≠ 44 ∧ e ≠ 64)
    (hT : Tab w t fp ttl vs) (hk : Keeps fp w w') : w'.ownsRow base e size v n xs :=
  row_of_block h fun g hg => by
    obtain ⟨cur, hc⟩ := own_block h hg
    exact hk.block g (h_lt hc) (hT.other hc he)
theorem row_keep0 {w w' : World} {base size n : Nat} {e : TypeId} {v : Value} {xs : List Value} (h : w.ownsRow base e size v n xs) (hk : Keeps [] w w') : w'.ownsRow base e size v n xs :=
  row_of_block h fun g hg => by
    obtain ⟨cur, hc⟩ := own_block h hg
    exact hk.block g (h_lt hc) (by simp)
/-- A table stays while a row of another type grows. -/
theorem tab_keep_row {w w' : World} {base size n : Nat} {e : TypeId} {v : Value} {xs : List Value} {t : Nat} {fp : List Nat} {ttl : Int} {vs : List KV} (hT : Tab w t fp ttl vs) (h : w.ownsRow base e size v n xs) (he : e ≠ 44 ∧ e ≠ 64)
    (hg : w.grownBy w' v.ownBlock) : Tab w' t fp ttl vs := by
  refine hT.keep (fp' := v.ownBlock.toList) (Keeps.grown hg fun k hk => by simp [hk]) ?_
  intro b hb hm
  simp at hm
  obtain ⟨cur, hc⟩ := own_block h hm
  exact hT.other hc he hb
/-- A row stays while a row of another type grows. -/
theorem row_keep_row {w w' : World} {base size n base' size' n' : Nat} {e e' : TypeId} {v v' : Value} {xs xs' : List Value} (h : w.ownsRow base e size v n xs) (h' : w.ownsRow base' e' size' v' n' xs') (hne : e ≠ e')
    (hg : w.grownBy w' v'.ownBlock) : w'.ownsRow base e size v n xs :=
  row_of_block h fun g hgb => by
    obtain ⟨cur, hc⟩ := own_block h hgb
    refine hg.block g (h_lt hc) fun e1 => ?_
    obtain ⟨cur', hc'⟩ := own_block h' e1.symm
    rw [hc] at hc'
    simp at hc'
    exact hne hc'.2
/-- What a row's growth leaves, for a frame from 'base' on. -/
theorem keeps_row {W w w' : World} {size n : Nat} {e : TypeId} {v : Value} {xs : List Value} (hk : Keeps [] W w) (h : w.ownsRow W.heap.size e size v n xs) (hg : w.grownBy w' v.ownBlock) : Keeps [] W w' :=
  hk.trans (fp' := v.ownBlock.toList) (Keeps.grown hg fun k hk => by simp [hk]) fun x hx => by simp at hx; exact .inr (h.lt x hx).1

theorem row_mono {w : World} {base base' size n : Nat} {e : TypeId} {v : Value} {xs : List Value} (h : w.ownsRow base e size v n xs) (hb : base' ≤ base) : w.ownsRow base' e size v n xs := by
  refine ⟨h.1, ?_⟩
  rcases h.2 with hn | ⟨g, cap, cur, rfl, h1, rest⟩
  · exact .inl hn
  · exact .inr ⟨g, cap, cur, rfl, Nat.le_trans hb h1, rest⟩
theorem row_cap {w : World} {base size n cap : Nat} {e : TypeId} {a : Option Addr} {xs : List Value} (h : w.ownsRow base e size (.slice a n cap) n xs) : n ≤ cap ∧ cap ≤ maxLen := by
  rcases h.2 with ⟨h1, h2⟩ | ⟨g, c, cur, h1, _, _, h3, h4, _⟩
  · simp at h1; obtain ⟨_, rfl, rfl⟩ := h1; exact ⟨Nat.le_refl _, by simp [maxLen]⟩
  · simp at h1; obtain ⟨_, rfl⟩ := h1; exact ⟨h3, h4⟩
theorem row_part {w : World} {base n cap g : Nat} {e : TypeId} {xs : List Value} (h : w.ownsRow base e 1 (.slice (some ⟨g, 0, none⟩) n cap) n xs) (b l : Nat) :
    ∀ w', Keeps [] w w' → ∀ j u, ((xs.drop b).take l)[j]? = some u → w'.cell? ((⟨g, b, none⟩ : Addr).add j) = some u := by
  intro w' hk j u hj
  have hl : xs.length = n := by have := h.1; omega
  rw [List.getElem?_take] at hj
  split at hj
  · rename_i hjl
    rw [List.getElem?_drop] at hj
    have hlt := (List.getElem?_eq_some_iff.1 hj).1
    have hadd : (⟨g, b, none⟩ : Addr).add j = ⟨g, b + j, none⟩ := by unfold Addr.add; split <;> simp_all
    rw [hadd]
    have hc := h.cellAt (b + j) (by omega)
    rw [hj] at hc
    obtain ⟨cur, hb⟩ := own_block h rfl
    exact hk.cell (h_lt hb) hc
  · cases hj

/-- Where 'xs[i+1:]' begins. -/
theorem row_tail {w : World} {base n cap g : Nat} {e : TypeId} {xs : List Value} (h : w.ownsRow base e 1 (.slice (some ⟨g, 0, none⟩) n cap) n xs) {i : Nat} (hi : i < n) :
    ∃ A : Addr, (if cap = i + 1 then some (⟨g, 0, none⟩ : Addr) else some ⟨g, i + 1, none⟩) = some A ∧ Hid (∀ w', Keeps [] w w' → ∀ j u, (xs.drop (i + 1))[j]? = some u → w'.cell? (A.add j) = some u) := by
  have hl : xs.length = n := by have := h.1; omega
  have hc := (row_cap h).1
  by_cases hcap : cap = i + 1
  · refine ⟨⟨g, 0, none⟩, by simp [hcap], fun w' _ j u hj => ?_⟩
    rw [List.drop_of_length_le (by omega)] at hj
    simp at hj
  · refine ⟨⟨g, i + 1, none⟩, by simp [hcap], fun w' hk j u hj => ?_⟩
    refine row_part h (i + 1) n w' hk j u ?_
    rw [List.take_of_length_le (by rw [List.length_drop]; omega)]
    exact hj

/-- append onto a row of the call's own, in a region that draws its order. -/
theorem step_own {P : Program} {ops : Array Oper} {o : Oper} {a : Act} {w : World} {K : Act → World → Prop} {Q : Exit → Act → World → Prop} {E : Prop} (hg : o.guard = none) (s x : Operand) (t : TypeId)
    (ho : o.op = .call { callee := .builtin .append, args := #[s, x], argTypes := #[t, t] })
    (base : Nat) (e : TypeId) (i : TypeInfo) (z : Value) (size bytes : Nat) (ht : P.underlying t = some (.slice e)) (hi : P.info? e = some i) (hz : i.zero = some z)
    (hsize : i.size = size) (hby : i.bytes = bytes) (hzs : z.cells.size = size) (hsz : 0 < size)
    (v : Value) (n : Nat) (xs : List Value) (hs : a.eval s = v) (hown : w.ownsRow base e size v n xs)
    (ad : Addr) (m c : Nat) (news : List Value) (hx : a.eval x = .slice (some ad) m c) (hl : news.length = m * size) (hnews : ∀ j u, news[j]? = some u → w.cell? (ad.add j) = some u) (h1 : ∀ u ∈ news, u.oneCell' = true)
    (h63 : n + m ≤ maxLen) (hbytes : (n + m) * bytes ≤ 140737488355328) (hbase : base ≤ w.heap.size)
    (h : ∀ v' w', w'.ownsRow base e size v' (n + m) (xs ++ news) → w.grownBy w' v.ownBlock → K (a.put o.dst v') w') :
    if Region.wanted o (yielded ops a.tmps) = true then o.wp P a w K Q else E := by
  rw [if_pos (by simp [Region.wanted, hg])]
  exact wp_append_own w s x t ho base e i z size bytes ht hi hz hsize hby hzs hsz v n xs hs hown ad m c news hx hl hnews h1 h63 hbytes hbase fun v' w' h2 h3 _ => h v' w' h2 h3
end Go.Proofs.YthanhccpmonemaaGreatDoor
