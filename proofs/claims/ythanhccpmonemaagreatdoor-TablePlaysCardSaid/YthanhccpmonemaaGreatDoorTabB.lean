/- Drop, Get, Len, Expire, said of what the table holds. -/
import Derived.Test.YthanhccpmonemaaGreatDoorTab
namespace Go.Proofs.YthanhccpmonemaaGreatDoor
open Go.RowKit

theorem kfind_none {s : ByteArray} {vs : List KV} (h : kfind s vs = none) : kdel s vs = vs := by
  unfold kfind at h
  unfold kdel
  rw [List.filter_eq_self]
  intro v hv
  have := (List.find?_eq_none.1 h) v hv
  simpa using this

/-- The entries without the dropped one. -/
theorem trep_del {w w' : World} {t m : Nat} {ttl : Int} {p q : List Ent} {en : Ent} {l : List SE} {clock clock' : Nat} (hr : TRep w t m ttl (p ++ en :: q) l clock)
    (h0 : w'.heap[t]? = some (.cells #[.int .u64 ttl, .map (some m), ptr (nextB none (p ++ q)), ptr (lastB none (p ++ q))] 44 (0, 0)))
    (h1 : w'.heap[m]? = some (.map (sents (sdel en.key l)) clock')) (hc : Chain w' none none (p ++ q)) : TRep w' t m ttl (p ++ q) (sdel en.key l) clock' := by
  have hsub : (p ++ q).Sublist (p ++ en :: q) := List.Sublist.append_left (List.sublist_cons_self en q) p
  have hmid := efind_mid hr.keys rfl
  have hef : efind en.key (p ++ en :: q) = some en := by
    unfold efind
    rw [List.find?_append]
    have : p.find? (fun e => en.key == e.key) = none := List.find?_eq_none.2 fun e he => by simp [hmid.1 e he]
    rw [this]
    simp [beq_self]
  have hv : sval en.key l = some (ptr (some en.b)) := by rw [hr.lval, hef]; rfl
  obtain ⟨d1, d2, d3⟩ := sdel_spec hr.lkeys hv
  refine ⟨h0, h1, hc, ?_, (hsub.map _).nodup hr.keys, d1, ?_, ?_⟩
  · exact (((hsub.map _).cons_cons m).cons_cons t).nodup hr.nodup
  · have := hr.llen
    simp at this ⊢
    omega
  · intro s
    rw [d3 s, hr.lval s]
    unfold efind
    simp only [List.find?_append, List.find?_cons]
    cases hs : (s == en.key) with
    | true =>
      have e := bytes_eq_of_beq hs
      rw [e]
      have hp : p.find? (fun e => en.key == e.key) = none := List.find?_eq_none.2 fun e he => by simp [hmid.1 e he]
      have hq : q.find? (fun e => en.key == e.key) = none := List.find?_eq_none.2 fun e he => by simp [hmid.2 e he]
      simp [hp, hq]
    | false => simp

theorem kdel_mid {p q : List Ent} {en : Ent} (hk : ((p ++ en :: q).map (·.key)).Nodup) : kdel en.key ((p ++ en :: q).map Ent.vis) = (p ++ q).map Ent.vis := by
  have hmid := efind_mid hk rfl
  unfold kdel
  simp only [List.map_append, List.map_cons, List.filter_append, List.filter_cons]
  have e0 : (!en.key == en.vis.key) = false := by simp [Ent.vis, beq_self]
  rw [e0]
  have h1 : (p.map Ent.vis).filter (fun v => !en.key == v.key) = p.map Ent.vis := by
    rw [List.filter_eq_self]
    intro v hv
    obtain ⟨e, he, rfl⟩ := List.mem_map.1 hv
    simp [Ent.vis, hmid.1 e he]
  have h2 : (q.map Ent.vis).filter (fun v => !en.key == v.key) = q.map Ent.vis := by
    rw [List.filter_eq_self]
    intro v hv
    obtain ⟨e, he, rfl⟩ := List.mem_map.1 hv
    simp [Ent.vis, hmid.2 e he]
  rw [h1, h2]
  simp

theorem drop_tab {w : World} {t : Nat} {fp : List Nat} {ttl : Int} {vs : List KV} (h : Tab w t fp ttl vs) (key : ByteArray) :
    Calls Tryz.prog 13 #[.pointer (some ⟨t, 0, none⟩), .string key] w fun e w' =>
      e = .returned (.bool (kfind key vs).isSome) ∧ ∃ fp', Tab w' t fp' ttl (kdel key vs) ∧ Keeps fp w w' ∧ Grew w fp fp' := by
  obtain ⟨m, es, l, clock, hr, rfl, rfl⟩ := h
  have hlv := hr.lval key
  cases hef : efind key es with
  | none =>
    rw [hef] at hlv
    have hk : kfind key (es.map Ent.vis) = none := by rw [efind_vis, hef]; rfl
    refine (drop_none w t m _ _ _ key l clock hr.tab hr.map hlv).mono ?_
    rintro e w' ⟨rfl, rfl⟩
    exact ⟨by rw [hk]; rfl, _, ⟨m, es, l, clock, hr, rfl, kfind_none hk⟩, Keeps.refl _ _, fun k hk => .inl hk⟩
  | some en =>
    rw [hef] at hlv
    have hk : kfind key (es.map Ent.vis) = some en.vis := by rw [efind_vis, hef]; rfl
    obtain ⟨rfl, p, q, rfl⟩ := efind_split hef
    have hch := (Chain_append w none none p (en :: q)).1 hr.chain
    have hch2 := hch.2
    have hnd := hr.nodup
    have hlt := hr.lt
    have hkd := kdel_mid hr.keys
    have htab := hr.tab
    have hblk : ∀ y ∈ p ++ q, y.b < w.heap.size := by
      intro y hy
      refine hlt y.b ?_
      rcases List.mem_append.1 hy with hy | hy <;> simp
      · exact .inr (.inr (.inl ⟨y, hy, rfl⟩))
      · exact .inr (.inr (.inr (.inr ⟨y, hy, rfl⟩)))
    have hgrew : Grew w (t :: m :: (p ++ en :: q).map (·.b)) (t :: m :: (p ++ q).map (·.b)) := by
      intro k hk
      refine .inl ?_
      simp at hk ⊢
      rcases hk with h | h | h | h
      · exact .inl h
      · exact .inr (.inl h)
      · exact .inr (.inr (.inl h))
      · exact .inr (.inr (.inr (.inr h)))
    simp only [List.map_append, List.map_cons, List.nodup_cons, List.mem_cons, List.mem_append, not_or] at hnd
    obtain ⟨⟨a1, a2, a3, a4⟩, ⟨b1, b2, b3⟩, hnd3⟩ := hnd
    have h4 := List.nodup_append.1 hnd3
    have h5 := List.nodup_cons.1 h4.2.1
    have hpq : ∀ y ∈ p, ∀ z ∈ q, y.b ≠ z.b := fun y hy z hz => h4.2.2 y.b (List.mem_map_of_mem hy) z.b (.tail _ (List.mem_map_of_mem hz))
    have hpe : ∀ y ∈ p, y.b ≠ en.b := fun y hy => h4.2.2 y.b (List.mem_map_of_mem hy) en.b (.head _)
    have hqe : ∀ y ∈ q, en.b ≠ y.b := fun y hy e => h5.1 (e ▸ List.mem_map_of_mem (f := (·.b)) hy)
    have tp : ∀ y ∈ p, t ≠ y.b := fun y hy e => a2 (e ▸ List.mem_map_of_mem (f := (·.b)) hy)
    have tq : ∀ y ∈ q, t ≠ y.b := fun y hy e => a4 (e ▸ List.mem_map_of_mem (f := (·.b)) hy)
    have mp : ∀ y ∈ p, m ≠ y.b := fun y hy e => b1 (e ▸ List.mem_map_of_mem (f := (·.b)) hy)
    have mq : ∀ y ∈ q, m ≠ y.b := fun y hy e => b3 (e ▸ List.mem_map_of_mem (f := (·.b)) hy)
    rcases List.eq_nil_or_concat p with rfl | ⟨p0, pe, rfl⟩
    · cases q with
      | nil =>
        refine (dropOnly w t m ttl en.key l clock en htab hr.map hlv hch2.1 (by simp; exact ⟨⟨a1, a3⟩, b2⟩)).mono ?_
        rintro e w' ⟨rfl, g0, ⟨clock', g1⟩, g2⟩
        exact ⟨by rw [hk]; rfl, _, ⟨m, [], _, clock', trep_del (p := []) (q := []) hr g0 g1 trivial, rfl, hkd⟩, g2.weaken (by simp), hgrew⟩
      | cons qe q1 =>
        have hqn : nextB none (qe :: q1) = some qe.b := rfl
        have htab' := htab
        have hlast : lastB none ([] ++ en :: qe :: q1) = lastB (some qe.b) q1 := rfl
        rw [hlast] at htab'
        refine (dropFirst w t m ttl en.key l clock _ en qe _ htab' hr.map hlv hch2.1 hch2.2.1 (by simp; exact ⟨⟨a1, a3, tq qe (by simp)⟩, ⟨b2, mq qe (by simp)⟩, hqe qe (by simp)⟩)).mono ?_
        rintro e w' ⟨⟨rfl, g0, ⟨clock', g1⟩, g2⟩, g3⟩
        have hc' : Chain w' none (some qe.b) q1 := hch2.2.2.keep fun y hy => g2.block y.b (hblk y (by simp [hy])) (by
          simp only [List.mem_cons, List.not_mem_nil, or_false, not_or]
          refine ⟨fun e => tq y (by simp [hy]) e.symm, fun e => mq y (by simp [hy]) e.symm, fun e => ?_⟩
          have h6 := (List.nodup_cons.1 h5.2).1
          exact h6 (List.mem_map.2 ⟨y, hy, e⟩))
        exact ⟨by rw [hk]; rfl, _, ⟨m, _, _, clock', trep_del (p := []) (q := qe :: q1) hr g0 g1 ⟨g3, hc'⟩, rfl, hkd⟩, g2.weaken (by intro k hk; simp at hk ⊢; rcases hk with h | h | h <;> simp [h]), hgrew⟩
    · rw [List.concat_eq_append] at *
      obtain ⟨fb, hfb⟩ := nextB_concat none p0 pe
      have hnx : ∀ r, nextB none (p0 ++ [pe] ++ r) = some fb := by intro r; rw [nextB_append, ← hfb]; cases p0 <;> rfl
      have hchp := (Chain_append w (some en.b) none p0 [pe]).1 hch.1
      rw [lastB_concat] at hch2
      have htab' := htab
      rw [hnx] at htab'
      have hpe0 : pe ∈ p0 ++ [pe] := by simp
      have hp0e : ∀ y ∈ p0, y.b ≠ pe.b := by
        have h7 := h4.1
        rw [List.map_append] at h7
        exact fun y hy => (List.nodup_append.1 h7).2.2 y.b (List.mem_map_of_mem hy) pe.b (by simp)
      cases q with
      | nil =>
        have hl : lastB none (p0 ++ [pe] ++ [en]) = some en.b := lastB_concat _ _ _
        rw [hl] at htab'
        refine (dropLast w t m ttl en.key l clock _ pe _ en htab' hr.map hlv hch2.1 hchp.2.1 (by simp; exact ⟨⟨a1, tp pe hpe0, a3⟩, ⟨mp pe hpe0, b2⟩, hpe pe hpe0⟩)).mono ?_
        rintro e w' ⟨⟨rfl, g0, ⟨clock', g1⟩, g2⟩, g3⟩
        have hc' : Chain w' (some pe.b) none p0 := hchp.1.keep fun y hy => g2.block y.b (hblk y (by simp [hy])) (by
          simp only [List.mem_cons, List.not_mem_nil, or_false, not_or]
          exact ⟨fun e => tp y (by simp [hy]) e.symm, fun e => mp y (by simp [hy]) e.symm, hp0e y hy⟩)
        refine ⟨by rw [hk]; rfl, _, ⟨m, _, _, clock', trep_del (p := p0 ++ [pe]) (q := []) hr ?_ g1 ?_, rfl, hkd⟩, g2.weaken (by intro k hk; simp at hk ⊢; rcases hk with h | h | h <;> simp [h]), hgrew⟩
        · rw [hnx, List.append_nil, lastB_concat]; exact g0
        · rw [List.append_nil, Chain_append]; exact ⟨hc', g3, trivial⟩
      | cons qe q1 =>
        have hl : lastB none (p0 ++ [pe] ++ en :: qe :: q1) = lastB (some qe.b) q1 := by rw [lastB_append]; rfl
        rw [hl] at htab'
        refine (dropMid w t m ttl en.key l clock _ _ pe _ en qe _ htab' hr.map hlv hch2.1 hchp.2.1 hch2.2.1 (by
          simp; exact ⟨⟨a1, tp pe hpe0, a3, tq qe (by simp)⟩, ⟨mp pe hpe0, b2, mq qe (by simp)⟩, ⟨hpe pe hpe0, hpq pe hpe0 qe (by simp)⟩, hqe qe (by simp)⟩)).mono ?_
        rintro e w' ⟨⟨rfl, g0, ⟨clock', g1⟩, g2⟩, g3, g4⟩
        have hc' : Chain w' (some pe.b) none p0 := hchp.1.keep fun y hy => g2.block y.b (hblk y (by simp [hy])) (by
          simp only [List.mem_cons, List.not_mem_nil, or_false, not_or]
          exact ⟨fun e => tp y (by simp [hy]) e.symm, fun e => mp y (by simp [hy]) e.symm, hp0e y hy, hpq y (by simp [hy]) qe (by simp)⟩)
        have hc'' : Chain w' none (some qe.b) q1 := hch2.2.2.keep fun y hy => g2.block y.b (hblk y (by simp [hy])) (by
          simp only [List.mem_cons, List.not_mem_nil, or_false, not_or]
          refine ⟨fun e => tq y (by simp [hy]) e.symm, fun e => mq y (by simp [hy]) e.symm, fun e => hpq pe hpe0 y (by simp [hy]) e.symm, fun e => ?_⟩
          have h6 := (List.nodup_cons.1 h5.2).1
          exact h6 (List.mem_map.2 ⟨y, hy, e⟩))
        refine ⟨by rw [hk]; rfl, _, ⟨m, _, _, clock', trep_del (p := p0 ++ [pe]) (q := qe :: q1) hr ?_ g1 ?_, rfl, hkd⟩, g2.weaken (by intro k hk; simp at hk ⊢; rcases hk with h | h | h | h <;> simp [h]), hgrew⟩
        · rw [hnx, lastB_append]; exact g0
        · rw [Chain_append, Chain_append, lastB_concat]; exact ⟨⟨hc', g3, trivial⟩, g4, hc''⟩

/-- What Get hands back, of what is seen. -/
def gottenV (o : Option KV) : Value :=
  match o with
  | some e => .tuple #[.agg #[.int .i64 e.kd, .float .f64 e.n, .string e.s], .bool true]
  | none => .tuple #[.agg #[.int .i64 0, .float .f64 0, .string ⟨#[]⟩], .bool false]

theorem get_tab {w : World} {t : Nat} {fp : List Nat} {ttl : Int} {vs : List KV} (h : Tab w t fp ttl vs) (key : ByteArray) :
    Calls Tryz.prog 15 #[.pointer (some ⟨t, 0, none⟩), .string key] w fun e w' => e = .returned (gottenV (kfind key vs)) ∧ Keeps [] w w' := by
  obtain ⟨m, es, l, clock, hr, rfl, rfl⟩ := h
  have hlv := hr.lval key
  rw [efind_vis]
  cases hef : efind key es with
  | none =>
    rw [hef] at hlv
    exact (get_none w t m _ _ _ key l clock hr.tab hr.map hlv).mono fun e w' h => h
  | some en =>
    rw [hef] at hlv
    obtain ⟨_, p, q, rfl⟩ := efind_split hef
    have hch := (Chain_append w none none p (en :: q)).1 hr.chain
    exact (get_some w t m _ _ _ key l clock hr.tab hr.map en _ _ hlv hch.2.1).mono fun e w' h => h

theorem len_tab {w : World} {t : Nat} {fp : List Nat} {ttl : Int} {vs : List KV} (h : Tab w t fp ttl vs) :
    Calls Tryz.prog 7 #[.pointer (some ⟨t, 0, none⟩)] w fun e w' => e = .returned (.int .i64 vs.length) ∧ w' = w := by
  obtain ⟨m, es, l, clock, hr, rfl, rfl⟩ := h
  refine (len_any w t m _ _ _ l clock hr.tab hr.map).mono ?_
  rintro e w' ⟨rfl, rfl⟩
  exact ⟨by rw [hr.llen]; simp, rfl⟩

theorem expire_tab {w : World} {t : Nat} {fp : List Nat} {ttl : Int} {vs : List KV} (h : Tab w t fp ttl vs) (y : Int) :
    Calls Tryz.prog 21 #[.pointer (some ⟨t, 0, none⟩), .int .u64 y] w fun e w' => e = .returned (.tuple #[]) ∧ Tab w' t fp y vs ∧ Keeps fp w w' := by
  obtain ⟨m, es, l, clock, hr, rfl, rfl⟩ := h
  refine (expire_any w t m _ _ _ y hr.tab).mono ?_
  rintro e w' ⟨rfl, rfl⟩
  have hk : Keeps [t] w (w.setCell ⟨t, 0, none⟩ (.int .u64 y)) := Keeps.setCell _ _ _ _ (by simp)
  have hnd := hr.nodup
  have hlt := hr.lt
  refine ⟨rfl, ⟨m, es, l, clock, ⟨?_, ?_, ?_, hr.nodup, hr.keys, hr.lkeys, hr.llen, hr.lval⟩, rfl, rfl⟩, hk.weaken (by simp)⟩
  · have := h_set_eq (i := 0) (u := .int .u64 y) hr.tab
    simpa using this
  · refine hk.at hr.map ?_
    simp at hnd ⊢
    exact fun e => hnd.1.1 e.symm
  · refine hr.chain.keep fun x hx => hk.block x.b (hlt x.b (by simp; exact .inr (.inr ⟨x, hx, rfl⟩))) ?_
    simp only [List.nodup_cons, List.mem_cons, not_or] at hnd
    simp only [List.mem_cons, List.not_mem_nil, or_false]
    exact fun e => hnd.1.2 (e ▸ List.mem_map_of_mem (f := (·.b)) hx)
end Go.Proofs.YthanhccpmonemaaGreatDoor
