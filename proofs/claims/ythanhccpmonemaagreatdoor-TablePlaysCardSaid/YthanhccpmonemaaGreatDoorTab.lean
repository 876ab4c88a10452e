/- The table's contracts, said of what it holds: Put, Drop, Get, Len, Expire. -/
import Derived.Test.YthanhccpmonemaaGreatDoorPutB
import Derived.Test.YthanhccpmonemaaGreatDoorDrop
import Derived.Test.YthanhccpmonemaaGreatDoorSmall
namespace Go.Proofs.YthanhccpmonemaaGreatDoor
open Go.RowKit

def kfind (s : ByteArray) (vs : List KV) : Option KV := vs.find? fun v => s == v.key
def kput (x : KV) (vs : List KV) : List KV := if (kfind x.key vs).isSome then vs.map fun v => if x.key == v.key then x else v else vs ++ [x]
def kdel (s : ByteArray) (vs : List KV) : List KV := vs.filter fun v => !(s == v.key)

/-- The blocks that a table stands over: as they were, or new. -/
def Grew (w : World) (fp fp' : List Nat) : Prop := ∀ k ∈ fp', k ∈ fp ∨ w.heap.size ≤ k

theorem beq_self (a : ByteArray) : (a == a) = true := (MapKept.bytes_beq a a).2 rfl

theorem efind_vis (s : ByteArray) (es : List Ent) : kfind s (es.map Ent.vis) = (efind s es).map Ent.vis := by
  unfold kfind efind
  rw [List.find?_map]
  rfl

theorem efind_split {s : ByteArray} {es : List Ent} {en : Ent} (h : efind s es = some en) : en.key = s ∧ ∃ p q, es = p ++ en :: q := by
  unfold efind at h
  obtain ⟨h1, p, q, h2, _⟩ := List.find?_eq_some_iff_append.1 h
  exact ⟨(bytes_eq_of_beq h1).symm, p, q, h2⟩

theorem efind_mid {s : ByteArray} {p q : List Ent} {en : Ent} (hk : ((p ++ en :: q).map (·.key)).Nodup) (he : en.key = s) : (∀ e ∈ p, (s == e.key) = false) ∧ (∀ e ∈ q, (s == e.key) = false) := by
  simp only [List.map_append, List.map_cons] at hk
  have h := List.nodup_append.1 hk
  have h2 := List.nodup_cons.1 h.2.1
  refine ⟨fun e hm => ?_, fun e hm => ?_⟩
  · cases hb : (s == e.key) with
    | false => rfl
    | true =>
      have := bytes_eq_of_beq hb
      exact absurd (he.trans this) (fun e' => h.2.2 e.key (List.mem_map_of_mem hm) en.key (.head _) e'.symm)
  · cases hb : (s == e.key) with
    | false => rfl
    | true =>
      have := bytes_eq_of_beq hb
      exact absurd (List.mem_map_of_mem (f := (·.key)) hm) (by rw [← this, ← he]; exact h2.1)

theorem chain_last {w : World} {init : List Ent} {le : Ent} (h : Chain w none none (init ++ [le])) : Chain w (some le.b) none init ∧ w.heap[le.b]? = some (.cells (le.cells (lastB none init) none) 64 (0, 0)) := by
  rw [Chain_append] at h
  exact ⟨h.1, h.2.1⟩

theorem lastB_concat (p : Option Nat) (init : List Ent) (le : Ent) : lastB p (init ++ [le]) = some le.b := by rw [lastB_append]; rfl
theorem nextB_concat (nx : Option Nat) (init : List Ent) (le : Ent) : ∃ fb, nextB nx (init ++ [le]) = some fb := by
  cases init with
  | nil => exact ⟨le.b, rfl⟩
  | cons a r => exact ⟨a.b, rfl⟩

theorem efind_append (s : ByteArray) (es : List Ent) (x : Ent) : efind s (es ++ [x]) = (efind s es).or (if s == x.key then some x else none) := by
  unfold efind
  rw [List.find?_append]
  simp [List.find?_cons]
  cases (s == x.key) <;> rfl

/-- The new entry, put behind the others. -/
theorem tab_new {w w' : World} {t m : Nat} {ttl : Int} {es es' : List Ent} {l : List SE} {clock clock' : Nat} (hr : TRep w t m ttl es l clock) {eb : Nat} {x : KV} (hn : sval x.key l = none) (heb : w.heap.size ≤ eb)
    (h0 : w'.heap[t]? = some (.cells #[.int .u64 ttl, .map (some m), ptr (nextB none (es ++ [⟨eb, x.key, x.kd, x.n, x.s, x.t⟩])), ptr (some eb)] 44 (0, 0)))
    (h1 : w'.heap[m]? = some (.map (sents (sput x.key (ptr (some eb)) clock l)) clock'))
    (hc : Chain w' none none (es ++ [⟨eb, x.key, x.kd, x.n, x.s, x.t⟩])) (_ : es' = es) :
    TRep w' t m ttl (es ++ [⟨eb, x.key, x.kd, x.n, x.s, x.t⟩]) (sput x.key (ptr (some eb)) clock l) clock' := by
  have hlt := hr.lt
  have hne : ∀ e ∈ es, e.key ≠ x.key := by
    intro e he hk
    have hv := hr.lval x.key
    rw [hn] at hv
    have : efind x.key es = none := by simpa using hv.symm
    unfold efind at this
    have := (List.find?_eq_none.1 this) e he
    rw [hk] at this
    rw [beq_self] at this
    exact this rfl
  rw [sval_put_new hn] at h1 ⊢
  refine ⟨by rw [lastB_concat]; exact h0, h1, hc, ?_, ?_, ?_, ?_, ?_⟩
  · rw [List.map_append]
    have := hr.nodup
    rw [← List.cons_append, ← List.cons_append]
    refine List.nodup_append.2 ⟨this, by simp, ?_⟩
    intro a ha b hb
    simp at hb
    have := hlt a ha
    omega
  · rw [List.map_append]
    refine List.nodup_append.2 ⟨hr.keys, by simp, ?_⟩
    intro a ha b hb
    simp at hb
    obtain ⟨e, he, rfl⟩ := List.mem_map.1 ha
    rw [hb]
    exact hne e he
  · unfold skeys
    rw [List.map_append]
    refine List.nodup_append.2 ⟨hr.lkeys, by simp, ?_⟩
    intro a ha b hb
    simp at hb
    subst hb
    intro e
    subst e
    exact (sval_none_iff.1 hn) ha
  · simp [hr.llen]
  · intro s
    rw [sval_append s x.key _ _ hn, efind_append, hr.lval s]
    cases hs : (s == x.key) with
    | true =>
      have e1 := bytes_eq_of_beq hs
      have := hr.lval x.key
      rw [hn] at this
      have h2 : efind x.key es = none := by simpa using this.symm
      rw [e1, h2]
      simp
    | false => simp

theorem put_tab {w : World} {t : Nat} {fp : List Nat} {ttl : Int} {vs : List KV} (h : Tab w t fp ttl vs) (x : KV) :
    Calls Tryz.prog 11 #[.pointer (some ⟨t, 0, none⟩), .string x.key, .agg #[.int .i64 x.kd, .float .f64 x.n, .string x.s], .int .u64 x.t] w fun e w' =>
      e = .returned (.tuple #[]) ∧ ∃ fp', Tab w' t fp' ttl (kput x vs) ∧ Keeps fp w w' ∧ Grew w fp fp' := by
  obtain ⟨m, es, l, clock, hr, rfl, rfl⟩ := h
  have hnd := hr.nodup
  have hlt := hr.lt
  cases hv : sval x.key l with
  | none =>
    have hef : efind x.key es = none := by
      have := hr.lval x.key
      rw [hv] at this
      simpa using this.symm
    have hkp : kput x (es.map Ent.vis) = es.map Ent.vis ++ [x] := by
      unfold kput
      rw [efind_vis, hef]
      rfl
    rcases List.eq_nil_or_concat es with rfl | ⟨init, le, rfl⟩
    · refine (put_first w t m ttl x.key x.s x.kd x.n x.t l clock hr.tab hr.map hv ?_).mono ?_
      · simp at hnd; exact hnd
      · rintro e w' ⟨rfl, eb, clock', hb, g0, g1, g2, g3⟩
        refine ⟨rfl, t :: m :: [eb], ⟨m, _, _, clock', tab_new (x := x) hr hv hb g0 g1 ⟨g2, trivial⟩ rfl, rfl, hkp⟩, g3, ?_⟩
        intro k hk
        simp at hk ⊢
        omega
    · rw [List.concat_eq_append] at *
      obtain ⟨fb, hfb⟩ := nextB_concat none init le
      have htab := hr.tab
      rw [hfb, lastB_concat] at htab
      obtain ⟨hc1, hc2⟩ := chain_last hr.chain
      have hmem : le.b ∈ t :: m :: (init ++ [le]).map (·.b) := by simp
      simp only [List.map_append, List.map_cons, List.map_nil, List.nodup_cons, List.mem_cons, List.mem_append, List.not_mem_nil, or_false, not_or] at hnd
      refine (put_more w t m ttl x.key x.s x.kd x.n x.t l clock fb le _ htab hc2 hr.map hv hnd.1.1 hnd.1.2.2 hnd.2.1.2).mono ?_
      rintro e w' ⟨rfl, eb, clock', hb, g0, g1, g2, g3, g4⟩
      have hx : nextB none (init ++ [le] ++ [⟨eb, x.key, x.kd, x.n, x.s, x.t⟩]) = some fb := by rw [nextB_append]; rw [← hfb]; cases init <;> rfl
      have hch : Chain w' none none (init ++ [le] ++ [⟨eb, x.key, x.kd, x.n, x.s, x.t⟩]) := by
        rw [Chain_append, Chain_append]
        refine ⟨⟨?_, g3, trivial⟩, ?_⟩
        · refine hc1.keep fun y hy => g4.block y.b (hlt y.b (by simp; exact .inr (.inr (.inl ⟨y, hy, rfl⟩)))) ?_
          have hin : y.b ∈ init.map (·.b) := List.mem_map_of_mem hy
          intro hm
          simp at hm
          rcases hm with rfl | rfl | hm
          · exact hnd.1.2.1 hin
          · exact hnd.2.1.1 hin
          · exact (List.nodup_append.1 hnd.2.2).2.2 _ hin le.b (by simp) hm
        · rw [lastB_concat]
          exact ⟨g2, trivial⟩
      refine ⟨rfl, t :: m :: ((init ++ [le]).map (·.b) ++ [eb]), ⟨m, _, _, clock', tab_new (x := x) hr hv hb (by rw [hx]; exact g0) g1 hch rfl, by simp, by rw [hkp]; simp [Ent.vis]⟩, g4.weaken ?_, ?_⟩
      · intro k hk
        simp at hk ⊢
        rcases hk with rfl | rfl | rfl <;> simp
      · intro k hk
        simp at hk ⊢
        rcases hk with rfl | rfl | hk | rfl | rfl
        · simp
        · simp
        · exact .inl (.inr (.inr (.inl hk)))
        · simp
        · exact .inr hb
  | some v =>
    have hlv := hr.lval x.key
    rw [hv] at hlv
    cases hef : efind x.key es with
    | none => rw [hef] at hlv; cases hlv
    | some en =>
      rw [hef] at hlv
      simp only [Option.map_some, Option.some.injEq] at hlv
      subst hlv
      obtain ⟨hek, p, q, rfl⟩ := efind_split hef
      have hch := (Chain_append w none none p (en :: q)).1 hr.chain
      refine (put_old w t m ttl x.key x.s x.kd x.n x.t l clock _ _ en _ _ hr.tab hch.2.1 hr.map hv).mono ?_
      rintro e w' ⟨rfl, g0, g1⟩
      have hmids := efind_mid hr.keys hek
      have hnb : ∀ y ∈ p ++ q, y.b ≠ en.b := by
        have h3 := (List.nodup_cons.1 (List.nodup_cons.1 hnd).2).2
        simp only [List.map_append, List.map_cons] at h3
        have h4 := List.nodup_append.1 h3
        intro y hy e
        rcases List.mem_append.1 hy with hy | hy
        · exact h4.2.2 y.b (List.mem_map_of_mem hy) en.b (.head _) e
        · exact (List.nodup_cons.1 h4.2.1).1 (e ▸ List.mem_map_of_mem (f := (·.b)) hy)
      have hkeep : ∀ y ∈ p ++ q, w'.heap[y.b]? = w.heap[y.b]? := by
        intro y hy
        refine g1.block y.b (hlt y.b ?_) (by simpa using hnb y hy)
        rcases List.mem_append.1 hy with hy | hy <;> simp
        · exact .inr (.inr (.inl ⟨y, hy, rfl⟩))
        · exact .inr (.inr (.inr (.inr ⟨y, hy, rfl⟩)))
      have htm : t ≠ en.b ∧ m ≠ en.b := by
        simp only [List.map_append, List.map_cons, List.nodup_cons, List.mem_cons, List.mem_append, not_or] at hnd
        exact ⟨hnd.1.2.2.1, hnd.2.1.2.1⟩
      have hmap : (p ++ en :: q).map (·.b) = (p ++ (⟨en.b, en.key, x.kd, x.n, x.s, x.t⟩ : Ent) :: q).map (·.b) := by simp
      have hnx : ∀ (o : Option Nat) (r : List Ent), nextB o (r ++ en :: q) = nextB o (r ++ (⟨en.b, en.key, x.kd, x.n, x.s, x.t⟩ : Ent) :: q) := by
        intro o r; rw [nextB_append, nextB_append]; rfl
      have hls : ∀ (o : Option Nat), lastB o (p ++ en :: q) = lastB o (p ++ (⟨en.b, en.key, x.kd, x.n, x.s, x.t⟩ : Ent) :: q) := by
        intro o; rw [lastB_append, lastB_append]; rfl
      refine ⟨rfl, _, ⟨m, p ++ ⟨en.b, en.key, x.kd, x.n, x.s, x.t⟩ :: q, l, clock, ⟨?_, ?_, ?_, ?_, ?_, hr.lkeys, ?_, ?_⟩, rfl, ?_⟩, g1.weaken (by simp), ?_⟩
      · rw [← hnx, ← hls]
        exact g1.at hr.tab (by simpa using htm.1)
      · exact g1.at hr.map (by simpa using htm.2)
      · rw [Chain_append]
        exact ⟨hch.1.keep fun y hy => hkeep y (by simp [hy]), g0, hch.2.2.keep fun y hy => hkeep y (by simp [hy])⟩
      · rw [← hmap]; exact hnd
      · have := hr.keys
        simpa using this
      · have := hr.llen
        simpa using this
      · intro s
        rw [hr.lval s]
        unfold efind
        simp only [List.find?_append, List.find?_cons]
        cases p.find? (fun e => s == e.key) <;> cases (s == en.key) <;> rfl
      · unfold kput
        rw [efind_vis, hef]
        simp only [Option.map_some, Option.isSome_some, if_true, List.map_append, List.map_cons, List.map_map]
        have h1 : p.map ((fun v : KV => if x.key == v.key then x else v) ∘ Ent.vis) = p.map Ent.vis := List.map_congr_left fun y hy => by simp [Ent.vis, hmids.1 y hy]
        have h2 : q.map ((fun v : KV => if x.key == v.key then x else v) ∘ Ent.vis) = q.map Ent.vis := List.map_congr_left fun y hy => by simp [Ent.vis, hmids.2 y hy]
        rw [h1, h2]
        simp [Ent.vis, hek, beq_self]
      · intro k hk
        rw [← hmap] at hk
        exact .inl hk
end Go.Proofs.YthanhccpmonemaaGreatDoor
