/- table.Lay, walked. -/
import Derived.Test.YthanhccpmonemaaGreatDoorLayC
namespace Go.Proofs.YthanhccpmonemaaGreatDoor
open Go.RowKit

/-- What an entry is laid as. -/
def entB (v : KV) : List UInt8 := textB v.key ++ (numB v.t.toNat ++ valB v.n)
def entsB : List KV → List UInt8
  | [] => []
  | v :: vs => entB v ++ entsB vs
def tabB (ttl : Int) (vs : List KV) : List UInt8 := numB ttl.toNat ++ (numB vs.length ++ entsB vs)
theorem entsB_append : ∀ a b : List KV, entsB (a ++ b) = entsB a ++ entsB b
  | [], _ => rfl
  | v :: a, b => by simp [entsB, entsB_append a b]
/-- Entries as the law puts them. -/
def VOK (v : KV) : Prop := v.kd = 1 ∧ v.s = ⟨#[]⟩ ∧ Cln v.n ∧ fBits v.n ≤ 18446744073709551615 ∧ 0 ≤ v.t ∧ v.t ≤ 18446744073709551615 ∧ v.key.size ≤ 100
theorem entB_len {v : KV} (h : VOK v) : (entB v).length ≤ 200 := by
  obtain ⟨_, _, _, _, h1, h2, h3⟩ := h
  have e1 := numB_len64 (n := v.t.toNat) (by omega)
  have e2 := numB_len64 (n := v.key.size) (by omega)
  simp only [entB, textB, List.length_append, strB_len, valB_len]
  omega
theorem entsB_len : ∀ {vs : List KV}, (∀ v ∈ vs, VOK v) → (entsB vs).length ≤ vs.length * 200
  | [], _ => Nat.zero_le _
  | v :: vs, h => by
    have e1 := entB_len (h v (.head _))
    have e2 := entsB_len (vs := vs) fun x hx => h x (.tail _ hx)
    simp only [entsB, List.length_append, List.length_cons]
    omega

def LayAt (w : World) (b base : Nat) (bs : List UInt8) (es : List Ent) (g : Nat) (x : Value) (wr : World) : Prop :=
  ∃ p q, es = p ++ q ∧ q.length = g ∧ x = ptr (nextB none q) ∧ Wr wr b base (bs ++ entsB (p.map Ent.vis)) ∧ Lays base w wr

set_option maxRecDepth 100000 in
set_option maxHeartbeats 4000000 in
theorem lay_any {w : World} {t : Nat} {fp : List Nat} {ttl : Int} {vs : List KV} {b base : Nat} (h : Tab w t fp ttl vs) (hW : Wr w b base []) (hb : base ≤ b) (hB : base ≤ w.heap.size) (h0 : 0 ≤ ttl) (h1 : ttl ≤ 18446744073709551615)
    (hv : ∀ v ∈ vs, VOK v) (hlen : vs.length ≤ 1000) :
    Calls Tryz.prog 27 #[.pointer (some ⟨t, 0, none⟩), .pointer (some ⟨b, 0, none⟩)] w fun e w' => e = .returned (.tuple #[]) ∧ Wr w' b base (tabB ttl vs) ∧ Lays base w w' := by
  obtain ⟨m, es, l, clock, hr, rfl, rfl⟩ := h
  have ht := hr.tab
  have hm := hr.map
  have c0 := cell_of_heap ht 0
  simp at c0
  have hll : l.length = es.length := hr.llen
  have hel : es.length ≤ 1000 := by simpa using hlen
  obtain ⟨n, rfl⟩ : ∃ n : Nat, ttl = n := ⟨ttl.toNat, by omega⟩
  have hn64 := numB_len64 (n := n) (by omega)
  have hl64 := numB_len64 (n := es.length) (by omega)
  have HC := Lib.hid hr.chain; have HT := Lib.hid ht; have HM := Lib.hid hm; have HV := Lib.hid hv; have HW := Lib.hid hW
  clear ht hm hr hv hW
  go_enter Tryz.func27, Tryz.ntmps27
  go_wp2_with fail
  refine (wnum_any HW.out hb hB (by simp) n (by omega)).mono ?_
  rintro e w1 ⟨rfl, hW1, hL1⟩
  have ht1 := hL1.block _ _ HT.out (.inr (by intro c f; simp))
  have hm1 := hL1.block _ _ HM.out (.inr (by intro c f; simp))
  have c1 := cell_of_heap ht1 1
  simp at c1
  have hrl := run_len_s (P := Tryz.prog) Tryz.underlying41 3 hm1
  simp only [goInt] at hrl
  rw [hll] at hrl
  have hsz1 := hL1.size
  have HW1 := Lib.hid hW1; have HL1 := Lib.hid hL1; clear hW1 hL1 ht1 hm1
  go_wp2_with fail
  refine (wnum_any HW1.out hb (by omega) (by simp; omega) es.length (by omega)).mono ?_
  rintro e w2 ⟨rfl, hW2, hL2⟩
  have hL2' := HL1.out.trans hL2
  have ht2 := hL2'.block _ _ HT.out (.inr (by intro c f; simp))
  have c2 := cell_of_heap ht2 2
  simp at c2
  have hsz2 := hL2'.size
  have HW2 := Lib.hid hW2; have HL2 := Lib.hid hL2'; clear hW2 hL2 hL2' ht2
  generalize hF : ptr (nextB none es) = F at *
  have HF := Lib.hid hF; clear hF
  go_wp2_with fail
  go_loopg [4] es.length (fun g x wr => LayAt w b base (numB n ++ numB es.length) es g x wr)
  case atStart => exact ⟨[], es, rfl, rfl, HF.out.symm, by simpa [entsB] using HW2.out, HL2.out⟩
  case round =>
    obtain ⟨p, q, hpq, hql, rfl, hWr, hLr⟩ := hrel
    cases q with
    | nil =>
      have hpe : p = es := by simpa using hpq.symm
      subst hpe
      have HWR := Lib.hid hWr; have HLR := Lib.hid hLr; clear hWr hLr hpq hql
      simp only [nextB, ptr_none]
      go_wp2_with fail
      go_end0
      refine ⟨rfl, ?_, HLR.out⟩
      have := HWR.out
      simpa [tabB, List.append_assoc] using this
    | cons e q =>
      have hcell := chain_at (hpq ▸ HC.out)
      have hvo := HV.out e.vis (List.mem_map_of_mem (by rw [hpq]; simp))
      have hpv := entsB_len (vs := p.map Ent.vis) fun v hv => HV.out v (by rw [hpq, List.map_append]; exact List.mem_append_left _ hv)
      have hpl : p.length + 1 ≤ es.length := by rw [hpq]; simp
      simp only [List.length_map] at hpv
      obtain ⟨o1, o2, o3, o4, o5, o6, o7⟩ := hvo
      simp only [Ent.vis] at o1 o2 o3 o4 o5 o6 o7
      obtain ⟨tm, htm⟩ : ∃ tm : Nat, e.t = tm := ⟨e.t.toNat, by omega⟩
      have r1 := hLr.block _ _ hcell (.inr (by intro c f; simp))
      have a0 := cell_of_heap r1 0
      simp [Ent.cells] at a0
      have A := Lib.hid hpq; have B := Lib.hid hql; have CE := Lib.hid hcell; have HWR := Lib.hid hWr; have HLR := Lib.hid hLr
      have hszr := hLr.size
      clear hpq hql hcell hWr hLr r1
      simp only [nextB, ptr_some]
      go_wp2_with fail
      refine (wtext_any HWR.out hb (by omega) (by simp only [List.length_append]; omega) e.key (by omega)).mono ?_
      rintro e1 w3 ⟨rfl, hW3, hL3⟩
      have hL3' := HLR.out.trans hL3
      have r3 := hL3'.block _ _ CE.out (.inr (by intro c f; simp))
      have a4 := cell_of_heap r3 4
      simp [Ent.cells] at a4
      rw [htm] at a4
      have hsz3 := hL3'.size
      have htl : (textB e.key).length ≤ 110 := by
        have := numB_len64 (n := e.key.size) (by omega)
        simp only [textB, List.length_append, strB_len]; omega
      have HW3 := Lib.hid hW3; have HL3 := Lib.hid hL3'; clear hW3 hL3 hL3' r3 a0
      go_wp2_with fail
      refine (wnum_any HW3.out hb (by omega) (by simp only [List.length_append]; omega) tm (by omega)).mono ?_
      rintro e1 w4 ⟨rfl, hW4, hL4⟩
      have hL4' := HL3.out.trans hL4
      have r4 := hL4'.block _ _ CE.out (.inr (by intro c f; simp))
      have b1 := cell_of_heap r4 1
      have b2 := cell_of_heap r4 2
      have b3 := cell_of_heap r4 3
      simp [Ent.cells] at b1 b2 b3
      rw [o1] at b1
      rw [o2] at b3
      have hsz4 := hL4'.size
      have hnl : (numB tm).length ≤ 10 := numB_len64 (by omega)
      have HW4 := Lib.hid hW4; have HL4 := Lib.hid hL4'; clear hW4 hL4 hL4' r4 a4
      go_wp2_with fail
      refine (vlay_any HW4.out hb (by omega) (by simp only [List.length_append]; omega) e.n o3 o4).mono ?_
      rintro e1 w5 ⟨rfl, hW5, hL5⟩
      have hL5' := HL4.out.trans hL5
      have r5 := hL5'.block _ _ CE.out (.inr (by intro c f; simp))
      have b6 := cell_of_heap r5 6
      simp [Ent.cells] at b6
      generalize hG : ptr (nextB none q) = G at *
      have HG := Lib.hid hG; clear hG
      have HW5 := Lib.hid hW5; have HL5 := Lib.hid hL5'; clear hW5 hL5 hL5' r5 b1 b2 b3
      go_wp2_with fail
      go_roundg q.length
      case measure => have := B.out; simp at this; omega
      case rel =>
        refine ⟨p ++ [e], q, by have := A.out; simpa using this, rfl, HG.out.symm, ?_, HL5.out⟩
        have h9 := HW5.out
        have e9 : entsB ((p ++ [e]).map Ent.vis) = entsB (p.map Ent.vis) ++ (textB e.key ++ (numB tm ++ (1 :: leB 8 (fBits e.n)))) := by
          rw [List.map_append, entsB_append]
          simp [entsB, entB, Ent.vis, htm, valB]
        rw [e9]
        simpa [List.append_assoc] using h9
end Go.Proofs.YthanhccpmonemaaGreatDoor
