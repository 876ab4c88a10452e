/- table.Drop, walked: no such key; the only entry; the first; the last; one in between. -/
import Derived.Test.YthanhccpmonemaaGreatDoorPut
import Derived.RegionTactic
import Derived.ChangeAlike
namespace Go.Proofs.YthanhccpmonemaaGreatDoor
open Go.RowKit

set_option maxHeartbeats 400000 in
theorem drop_none (w : World) (t m : Nat) (x0 x2 x3 : Value) (key : ByteArray) (l : List SE) (clock : Nat)
  (h0 : w.heap[t]? = some (.cells #[x0, .map (some m), x2, x3] 44 (0, 0)))
  (h1 : w.heap[m]? = some (.map (sents l) clock)) (hn : sval key l = none) :
    Calls Tryz.prog 13 #[.pointer (some ⟨t, 0, none⟩), .string key] w fun e w' => e = .returned (.bool false) ∧ w' = w := by
  have c1 := cell_of_heap h0 1
  simp at c1
  have H0 := Lib.hid h0; have H1 := Lib.hid h1; clear h0 h1
  have HN := Lib.hid hn; clear hn
  go_enter Tryz.func13, Tryz.ntmps13
  go_wp2_with (at_lookup; refine wpList_lookup_s rfl _ _ rfl Tryz.underlying41 Tryz.underlying9 (.pointer none) zero57 m clock l key rfl rfl H1.out ?_; rw [HN.out])
  go_ret
  exact ⟨rfl, rfl⟩

/-- Behind a Drop of the entry en, between pv and nx. -/
def Dropped (w : World) (t m : Nat) (ttl : Int) (key : ByteArray) (l : List SE) (first last : Option Nat) (fp : List Nat) (e : Ending) (w' : World) : Prop :=
  e = .returned (.bool true) ∧ w'.heap[t]? = some (.cells #[.int .u64 ttl, .map (some m), ptr first, ptr last] 44 (0, 0)) ∧
    (∃ clock', w'.heap[m]? = some (.map (sents (sdel key l)) clock')) ∧ Keeps fp w w'
/-- Behind a Drop of an entry: the only one. -/
def DroppedOnly (w : World) (t m : Nat) (ttl : Int) (key : ByteArray) (l : List SE) (e : Ending) (w' : World) : Prop :=
  Dropped w t m ttl key l (none) (none) [t, m] e w'

set_option maxHeartbeats 400000 in
theorem dropOnly (w : World) (t m : Nat) (ttl : Int) (key : ByteArray) (l : List SE) (clock : Nat) (en : Ent) 
  (h0 : w.heap[t]? = some (.cells #[.int .u64 ttl, .map (some m), ptr (some en.b), ptr (some en.b)] 44 (0, 0)))
  (h1 : w.heap[m]? = some (.map (sents l) clock)) (hn : sval key l = some (ptr (some en.b)))
  (h2 : w.heap[en.b]? = some (.cells (en.cells (none) (none)) 64 (0, 0)))
  (hd : [t, m, en.b].Nodup) :
    Calls Tryz.prog 13 #[.pointer (some ⟨t, 0, none⟩), .string key] w (DroppedOnly w t m ttl key l) := by
  obtain ⟨eb, ekey, ekd, en', es, et⟩ := en
  simp only [Ent.cells, ptr_some, ptr_none] at h0 h2 hn hd
  have c1 := cell_of_heap h0 1
  simp at c1
  simp at hd
  have H0 := Lib.hid h0; have H1 := Lib.hid h1; have H2 := Lib.hid h2; have HD := Lib.hid hd; clear h0 h1 h2 hd
  have HN := Lib.hid hn; clear hn
  go_enter Tryz.func13, Tryz.ntmps13
  go_wp2_with (first | (at_lookup; refine wpList_lookup_s rfl _ _ rfl Tryz.underlying41 Tryz.underlying9 (.pointer none) zero57 m clock l key rfl rfl H1.out ?_; rw [HN.out]; simp only [Option.getD_some, Option.isSome_some]) | (at_delete; refine wpList_delete_s rfl _ _ rfl Tryz.underlying41 Tryz.underlying9 m clock l key rfl rfl H1.out ?_))
  intro w1 hs
  have hd := HD.out
  have k0 := hs.at H0.out (by omega)
  obtain ⟨clock', k1⟩ := hs.map
  have k2 := hs.at H2.out (by omega)
  have kk : Keeps [t, m] w w1 := hs.keeps.weaken (by simp)
  clear hs c1
  have e5 := cell_of_heap k2 5
  have e6 := cell_of_heap k2 6
  have t2 := cell_of_heap k0 2
  have ft2 := frozen_of_heap k0 2
  have t3 := cell_of_heap k0 3
  have ft3 := frozen_of_heap k0 3
  simp at e5 e6 t2 t3
  have n1 : t ≠ m := by omega
  have n2 : t ≠ eb := by omega
  have n3 : m ≠ t := by omega
  have n4 : m ≠ eb := by omega
  have n5 : eb ≠ t := by omega
  have n6 : eb ≠ m := by omega
  clear hd
  have K0 := Lib.hid k0; have K1 := Lib.hid k1; have K2 := Lib.hid k2; have KK := Lib.hid kk; clear k0 k1 k2 kk
  go_wp2_with fail
  go_ret
  have r0 := (h_set_eq (i := 3) (u := (.pointer none)) (h_set_eq (i := 2) (u := (.pointer none)) K0.out))
  have r1 := (h_set_ne (a := ⟨t, 3, none⟩) (u := (.pointer none)) n3 (h_set_ne (a := ⟨t, 2, none⟩) (u := (.pointer none)) n3 K1.out))
  simp at r0
  have rk := (KK.out.trans (Keeps.setCell [t, m] _ ⟨t, 2, none⟩ (.pointer none) (by simp)) (by simp)).trans (Keeps.setCell [t, m] _ ⟨t, 3, none⟩ (.pointer none) (by simp)) (by simp)
  exact ⟨rfl, r0, ⟨clock', r1⟩, ⟨rk.os, rk.tape, rk.output, rk.size, rk.block⟩⟩

/-- Behind a Drop of an entry: the first. -/
def DroppedFirst (w : World) (t m : Nat) (ttl : Int) (key : ByteArray) (l : List SE) (last : Option Nat) (q : Ent) (qq : Option Nat) (e : Ending) (w' : World) : Prop :=
  Dropped w t m ttl key l (some q.b) (last) [t, m, q.b] e w' ∧ w'.heap[q.b]? = some (.cells (q.cells (none) qq) 64 (0, 0))

set_option maxHeartbeats 400000 in
theorem dropFirst (w : World) (t m : Nat) (ttl : Int) (key : ByteArray) (l : List SE) (clock : Nat) (last : Option Nat) (en : Ent) (q : Ent) (qq : Option Nat)
  (h0 : w.heap[t]? = some (.cells #[.int .u64 ttl, .map (some m), ptr (some en.b), ptr (last)] 44 (0, 0)))
  (h1 : w.heap[m]? = some (.map (sents l) clock)) (hn : sval key l = some (ptr (some en.b)))
  (h2 : w.heap[en.b]? = some (.cells (en.cells (none) (some q.b)) 64 (0, 0)))
  (h4 : w.heap[q.b]? = some (.cells (q.cells (some en.b) qq) 64 (0, 0)))
  (hd : [t, m, en.b, q.b].Nodup) :
    Calls Tryz.prog 13 #[.pointer (some ⟨t, 0, none⟩), .string key] w (DroppedFirst w t m ttl key l last q qq) := by
  obtain ⟨eb, ekey, ekd, en', es, et⟩ := en
  obtain ⟨qb, qkey, qkd, qn, qs, qt⟩ := q
  simp only [Ent.cells, ptr_some, ptr_none] at h0 h2 h4 hn hd
  have c1 := cell_of_heap h0 1
  simp at c1
  simp at hd
  have H0 := Lib.hid h0; have H1 := Lib.hid h1; have H2 := Lib.hid h2; have H4 := Lib.hid h4; have HD := Lib.hid hd; clear h0 h1 h2 h4 hd
  have HN := Lib.hid hn; clear hn
  go_enter Tryz.func13, Tryz.ntmps13
  go_wp2_with (first | (at_lookup; refine wpList_lookup_s rfl _ _ rfl Tryz.underlying41 Tryz.underlying9 (.pointer none) zero57 m clock l key rfl rfl H1.out ?_; rw [HN.out]; simp only [Option.getD_some, Option.isSome_some]) | (at_delete; refine wpList_delete_s rfl _ _ rfl Tryz.underlying41 Tryz.underlying9 m clock l key rfl rfl H1.out ?_))
  intro w1 hs
  have hd := HD.out
  have k0 := hs.at H0.out (by omega)
  obtain ⟨clock', k1⟩ := hs.map
  have k2 := hs.at H2.out (by omega)
  have k4 := hs.at H4.out (by omega)
  have kk : Keeps [t, m, qb] w w1 := hs.keeps.weaken (by simp)
  clear hs c1
  have e5 := cell_of_heap k2 5
  have e6 := cell_of_heap k2 6
  have t2 := cell_of_heap k0 2
  have ft2 := frozen_of_heap k0 2
  have q5 := cell_of_heap k4 5
  have fq5 := frozen_of_heap k4 5
  simp at e5 e6 t2 q5
  have n1 : t ≠ m := by omega
  have n2 : t ≠ eb := by omega
  have n3 : t ≠ qb := by omega
  have n4 : m ≠ t := by omega
  have n5 : m ≠ eb := by omega
  have n6 : m ≠ qb := by omega
  have n7 : eb ≠ t := by omega
  have n8 : eb ≠ m := by omega
  have n9 : eb ≠ qb := by omega
  have n10 : qb ≠ t := by omega
  have n11 : qb ≠ m := by omega
  have n12 : qb ≠ eb := by omega
  clear hd
  have K0 := Lib.hid k0; have K1 := Lib.hid k1; have K2 := Lib.hid k2; have K4 := Lib.hid k4; have KK := Lib.hid kk; clear k0 k1 k2 k4 kk
  go_wp2_with fail
  go_region
  go_wp2_with fail
  go_ret
  have r0 := (h_set_ne (a := ⟨qb, 5, none⟩) (u := (.pointer none)) n3 (h_set_eq (i := 2) (u := (.pointer (some ⟨qb, 0, none⟩))) K0.out))
  have r1 := (h_set_ne (a := ⟨qb, 5, none⟩) (u := (.pointer none)) n6 (h_set_ne (a := ⟨t, 2, none⟩) (u := (.pointer (some ⟨qb, 0, none⟩))) n4 K1.out))
  have r4 := (h_set_eq (i := 5) (u := (.pointer none)) (h_set_ne (a := ⟨t, 2, none⟩) (u := (.pointer (some ⟨qb, 0, none⟩))) n10 K4.out))
  simp at r0 r4
  have rk := (KK.out.trans (Keeps.setCell [t, m, qb] _ ⟨t, 2, none⟩ (.pointer (some ⟨qb, 0, none⟩)) (by simp)) (by simp)).trans (Keeps.setCell [t, m, qb] _ ⟨qb, 5, none⟩ (.pointer none) (by simp)) (by simp)
  exact ⟨⟨rfl, r0, ⟨clock', r1⟩, ⟨rk.os, rk.tape, rk.output, rk.size, rk.block⟩⟩, r4⟩

/-- Behind a Drop of an entry: the last. -/
def DroppedLast (w : World) (t m : Nat) (ttl : Int) (key : ByteArray) (l : List SE) (first : Option Nat) (p : Ent) (pp : Option Nat) (e : Ending) (w' : World) : Prop :=
  Dropped w t m ttl key l (first) (some p.b) [t, m, p.b] e w' ∧ w'.heap[p.b]? = some (.cells (p.cells pp (none)) 64 (0, 0))

set_option maxHeartbeats 400000 in
theorem dropLast (w : World) (t m : Nat) (ttl : Int) (key : ByteArray) (l : List SE) (clock : Nat) (first : Option Nat) (p : Ent) (pp : Option Nat) (en : Ent) 
  (h0 : w.heap[t]? = some (.cells #[.int .u64 ttl, .map (some m), ptr (first), ptr (some en.b)] 44 (0, 0)))
  (h1 : w.heap[m]? = some (.map (sents l) clock)) (hn : sval key l = some (ptr (some en.b)))
  (h2 : w.heap[en.b]? = some (.cells (en.cells (some p.b) (none)) 64 (0, 0)))
  (h3 : w.heap[p.b]? = some (.cells (p.cells pp (some en.b)) 64 (0, 0)))
  (hd : [t, m, p.b, en.b].Nodup) :
    Calls Tryz.prog 13 #[.pointer (some ⟨t, 0, none⟩), .string key] w (DroppedLast w t m ttl key l first p pp) := by
  obtain ⟨eb, ekey, ekd, en', es, et⟩ := en
  obtain ⟨pb, pkey, pkd, pn, ps, pt⟩ := p
  simp only [Ent.cells, ptr_some, ptr_none] at h0 h2 h3 hn hd
  have c1 := cell_of_heap h0 1
  simp at c1
  simp at hd
  have H0 := Lib.hid h0; have H1 := Lib.hid h1; have H2 := Lib.hid h2; have H3 := Lib.hid h3; have HD := Lib.hid hd; clear h0 h1 h2 h3 hd
  have HN := Lib.hid hn; clear hn
  go_enter Tryz.func13, Tryz.ntmps13
  go_wp2_with (first | (at_lookup; refine wpList_lookup_s rfl _ _ rfl Tryz.underlying41 Tryz.underlying9 (.pointer none) zero57 m clock l key rfl rfl H1.out ?_; rw [HN.out]; simp only [Option.getD_some, Option.isSome_some]) | (at_delete; refine wpList_delete_s rfl _ _ rfl Tryz.underlying41 Tryz.underlying9 m clock l key rfl rfl H1.out ?_))
  intro w1 hs
  have hd := HD.out
  have k0 := hs.at H0.out (by omega)
  obtain ⟨clock', k1⟩ := hs.map
  have k2 := hs.at H2.out (by omega)
  have k3 := hs.at H3.out (by omega)
  have kk : Keeps [t, m, pb] w w1 := hs.keeps.weaken (by simp)
  clear hs c1
  have e5 := cell_of_heap k2 5
  have e6 := cell_of_heap k2 6
  have p6 := cell_of_heap k3 6
  have fp6 := frozen_of_heap k3 6
  have t3 := cell_of_heap k0 3
  have ft3 := frozen_of_heap k0 3
  simp at e5 e6 p6 t3
  have n1 : t ≠ m := by omega
  have n2 : t ≠ pb := by omega
  have n3 : t ≠ eb := by omega
  have n4 : m ≠ t := by omega
  have n5 : m ≠ pb := by omega
  have n6 : m ≠ eb := by omega
  have n7 : pb ≠ t := by omega
  have n8 : pb ≠ m := by omega
  have n9 : pb ≠ eb := by omega
  have n10 : eb ≠ t := by omega
  have n11 : eb ≠ m := by omega
  have n12 : eb ≠ pb := by omega
  clear hd
  have K0 := Lib.hid k0; have K1 := Lib.hid k1; have K2 := Lib.hid k2; have K3 := Lib.hid k3; have KK := Lib.hid kk; clear k0 k1 k2 k3 kk
  go_wp2_with fail
  go_region
  go_wp2_with fail
  go_ret
  have r0 := (h_set_eq (i := 3) (u := (.pointer (some ⟨pb, 0, none⟩))) (h_set_ne (a := ⟨pb, 6, none⟩) (u := (.pointer none)) n2 K0.out))
  have r1 := (h_set_ne (a := ⟨t, 3, none⟩) (u := (.pointer (some ⟨pb, 0, none⟩))) n4 (h_set_ne (a := ⟨pb, 6, none⟩) (u := (.pointer none)) n5 K1.out))
  have r3 := (h_set_ne (a := ⟨t, 3, none⟩) (u := (.pointer (some ⟨pb, 0, none⟩))) n7 (h_set_eq (i := 6) (u := (.pointer none)) K3.out))
  simp at r0 r3
  have rk := (KK.out.trans (Keeps.setCell [t, m, pb] _ ⟨pb, 6, none⟩ (.pointer none) (by simp)) (by simp)).trans (Keeps.setCell [t, m, pb] _ ⟨t, 3, none⟩ (.pointer (some ⟨pb, 0, none⟩)) (by simp)) (by simp)
  exact ⟨⟨rfl, r0, ⟨clock', r1⟩, ⟨rk.os, rk.tape, rk.output, rk.size, rk.block⟩⟩, r3⟩

/-- Behind a Drop of an entry: one in between. -/
def DroppedMid (w : World) (t m : Nat) (ttl : Int) (key : ByteArray) (l : List SE) (first : Option Nat) (p : Ent) (pp : Option Nat) (last : Option Nat) (q : Ent) (qq : Option Nat) (e : Ending) (w' : World) : Prop :=
  Dropped w t m ttl key l (first) (last) [t, m, p.b, q.b] e w' ∧ w'.heap[p.b]? = some (.cells (p.cells pp (some q.b)) 64 (0, 0)) ∧ w'.heap[q.b]? = some (.cells (q.cells (some p.b) qq) 64 (0, 0))

set_option maxHeartbeats 400000 in
theorem dropMid (w : World) (t m : Nat) (ttl : Int) (key : ByteArray) (l : List SE) (clock : Nat) (first : Option Nat) (last : Option Nat) (p : Ent) (pp : Option Nat) (en : Ent) (q : Ent) (qq : Option Nat)
  (h0 : w.heap[t]? = some (.cells #[.int .u64 ttl, .map (some m), ptr (first), ptr (last)] 44 (0, 0)))
  (h1 : w.heap[m]? = some (.map (sents l) clock)) (hn : sval key l = some (ptr (some en.b)))
  (h2 : w.heap[en.b]? = some (.cells (en.cells (some p.b) (some q.b)) 64 (0, 0)))
  (h3 : w.heap[p.b]? = some (.cells (p.cells pp (some en.b)) 64 (0, 0)))
  (h4 : w.heap[q.b]? = some (.cells (q.cells (some en.b) qq) 64 (0, 0)))
  (hd : [t, m, p.b, en.b, q.b].Nodup) :
    Calls Tryz.prog 13 #[.pointer (some ⟨t, 0, none⟩), .string key] w (DroppedMid w t m ttl key l first p pp last q qq) := by
  obtain ⟨eb, ekey, ekd, en', es, et⟩ := en
  obtain ⟨pb, pkey, pkd, pn, ps, pt⟩ := p
  obtain ⟨qb, qkey, qkd, qn, qs, qt⟩ := q
  simp only [Ent.cells, ptr_some] at h0 h2 h3 h4 hn hd
  have c1 := cell_of_heap h0 1
  simp at c1
  simp at hd
  have H0 := Lib.hid h0; have H1 := Lib.hid h1; have H2 := Lib.hid h2; have H3 := Lib.hid h3; have H4 := Lib.hid h4; have HD := Lib.hid hd; clear h0 h1 h2 h3 h4 hd
  have HN := Lib.hid hn; clear hn
  go_enter Tryz.func13, Tryz.ntmps13
  go_wp2_with (first | (at_lookup; refine wpList_lookup_s rfl _ _ rfl Tryz.underlying41 Tryz.underlying9 (.pointer none) zero57 m clock l key rfl rfl H1.out ?_; rw [HN.out]; simp only [Option.getD_some, Option.isSome_some]) | (at_delete; refine wpList_delete_s rfl _ _ rfl Tryz.underlying41 Tryz.underlying9 m clock l key rfl rfl H1.out ?_))
  intro w1 hs
  have hd := HD.out
  have k0 := hs.at H0.out (by omega)
  obtain ⟨clock', k1⟩ := hs.map
  have k2 := hs.at H2.out (by omega)
  have k3 := hs.at H3.out (by omega)
  have k4 := hs.at H4.out (by omega)
  have kk : Keeps [t, m, pb, qb] w w1 := hs.keeps.weaken (by simp)
  clear hs c1
  have e5 := cell_of_heap k2 5
  have e6 := cell_of_heap k2 6
  have p6 := cell_of_heap k3 6
  have fp6 := frozen_of_heap k3 6
  have q5 := cell_of_heap k4 5
  have fq5 := frozen_of_heap k4 5
  simp at e5 e6 p6 q5
  have n1 : t ≠ m := by omega
  have n2 : t ≠ pb := by omega
  have n3 : t ≠ eb := by omega
  have n4 : t ≠ qb := by omega
  have n5 : m ≠ t := by omega
  have n6 : m ≠ pb := by omega
  have n7 : m ≠ eb := by omega
  have n8 : m ≠ qb := by omega
  have n9 : pb ≠ t := by omega
  have n10 : pb ≠ m := by omega
  have n11 : pb ≠ eb := by omega
  have n12 : pb ≠ qb := by omega
  have n13 : eb ≠ t := by omega
  have n14 : eb ≠ m := by omega
  have n15 : eb ≠ pb := by omega
  have n16 : eb ≠ qb := by omega
  have n17 : qb ≠ t := by omega
  have n18 : qb ≠ m := by omega
  have n19 : qb ≠ pb := by omega
  have n20 : qb ≠ eb := by omega
  clear hd
  have K0 := Lib.hid k0; have K1 := Lib.hid k1; have K2 := Lib.hid k2; have K3 := Lib.hid k3; have K4 := Lib.hid k4; have KK := Lib.hid kk; clear k0 k1 k2 k3 k4 kk
  go_wp2_with fail
  go_region
  go_wp2_with fail
  go_region
  go_wp2_with fail
  go_ret
  have r0 := (h_set_ne (a := ⟨qb, 5, none⟩) (u := (.pointer (some ⟨pb, 0, none⟩))) n4 (h_set_ne (a := ⟨pb, 6, none⟩) (u := (.pointer (some ⟨qb, 0, none⟩))) n2 K0.out))
  have r1 := (h_set_ne (a := ⟨qb, 5, none⟩) (u := (.pointer (some ⟨pb, 0, none⟩))) n8 (h_set_ne (a := ⟨pb, 6, none⟩) (u := (.pointer (some ⟨qb, 0, none⟩))) n6 K1.out))
  have r3 := (h_set_ne (a := ⟨qb, 5, none⟩) (u := (.pointer (some ⟨pb, 0, none⟩))) n12 (h_set_eq (i := 6) (u := (.pointer (some ⟨qb, 0, none⟩))) K3.out))
  have r4 := (h_set_eq (i := 5) (u := (.pointer (some ⟨pb, 0, none⟩))) (h_set_ne (a := ⟨pb, 6, none⟩) (u := (.pointer (some ⟨qb, 0, none⟩))) n19 K4.out))
  simp at r0 r3 r4
  have rk := (KK.out.trans (Keeps.setCell [t, m, pb, qb] _ ⟨pb, 6, none⟩ (.pointer (some ⟨qb, 0, none⟩)) (by simp)) (by simp)).trans (Keeps.setCell [t, m, pb, qb] _ ⟨qb, 5, none⟩ (.pointer (some ⟨pb, 0, none⟩)) (by simp)) (by simp)
  exact ⟨⟨rfl, r0, ⟨clock', r1⟩, ⟨rk.os, rk.tape, rk.output, rk.size, rk.block⟩⟩, r3, r4⟩

end Go.Proofs.YthanhccpmonemaaGreatDoor
