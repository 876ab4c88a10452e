/- table.Due, walked. -/
import Derived.Test.YthanhccpmonemaaGreatDoorStrs
namespace Go.Proofs.YthanhccpmonemaaGreatDoor
open Go.RowKit

def dueStep (ttl l t : Int) : Int := if t < 1099511627776 ∧ ttl < 1099511627776 - t then min l (t + ttl) else l
def dueFold (ttl : Int) (ts : List Int) : Int := ts.foldl (dueStep ttl) 1099511627776
theorem dueStep_bd {ttl l t : Int} (h0 : 0 ≤ ttl) (h1 : 0 ≤ t) (h : 0 ≤ l ∧ l ≤ 1099511627776) : 0 ≤ dueStep ttl l t ∧ dueStep ttl l t ≤ 1099511627776 := by
  unfold dueStep; split <;> omega
theorem dueFold_bd {ttl : Int} (h0 : 0 ≤ ttl) : ∀ {ts : List Int} {l : Int}, (∀ t ∈ ts, 0 ≤ t) → 0 ≤ l ∧ l ≤ 1099511627776 → 0 ≤ ts.foldl (dueStep ttl) l ∧ ts.foldl (dueStep ttl) l ≤ 1099511627776
  | [], _, _, h => h
  | t :: ts, l, ht, h => dueFold_bd (ts := ts) (l := dueStep ttl l t) h0 (fun x hx => ht x (List.mem_cons_of_mem _ hx)) (dueStep_bd h0 (ht t List.mem_cons_self) h)

def DueAt (w : World) (ttl : Int) (es : List Ent) (k : Nat) (l x : Value) (wr : World) : Prop :=
  ∃ p q, es = p ++ q ∧ q.length = k ∧ x = ptr (nextB none q) ∧ l = .int .u64 (dueFold ttl (p.map (·.t))) ∧ ∃ n, wr = w.drewN n

set_option maxHeartbeats 1000000 in
theorem due_any (w : World) (t m : Nat) (ttl : Int) (es : List Ent) (last : Option Nat) (h0 : w.heap[t]? = some (.cells #[.int .u64 ttl, .map (some m), ptr (nextB none es), ptr last] 44 (0, 0)))
    (hc : Chain w none none es) (ht0 : 1 ≤ ttl) (ht1 : ttl ≤ 18446744073709551615) (hes : es ≠ []) (hts : ∀ e ∈ es, 0 ≤ e.t ∧ e.t ≤ 18446744073709551615) :
    Calls Tryz.prog 24 #[.pointer (some ⟨t, 0, none⟩)] w fun e w' => e = .returned (.tuple #[.int .u64 (dueFold ttl (es.map (·.t))), .bool true]) ∧ ∃ n, w' = w.drewN n := by
  have c2 := cell_of_heap h0 2
  have c0 := cell_of_heap h0 0
  simp at c2 c0
  obtain ⟨e0, es', rfl⟩ : ∃ e0 es', es = e0 :: es' := by cases es with | nil => exact absurd rfl hes | cons a b => exact ⟨a, b, rfl⟩
  generalize hES : e0 :: es' = es at *
  have hF : nextB none es = some e0.b := by rw [← hES]; rfl
  rw [hF] at c2
  simp only [ptr_some] at c2
  have HF := Lib.hid hF; clear hF
  have HC := Lib.hid hc; have H0 := Lib.hid h0; have HES := Lib.hid hES; have HT := Lib.hid hts; clear hc h0 hES hts hes
  have htz : (ttl == 0) = false := by rw [beq_eq_false_iff_ne]; omega
  go_enter Tryz.func24, Tryz.ntmps24
  go_wp2_with fail
  go_loopg [4, 5] (es.length) (fun k l x wr => DueAt w ttl es k l x wr)
  case atStart => exact ⟨[], es, rfl, rfl, by rw [HF.out]; rfl, rfl, 0, rfl⟩
  case round =>
    obtain ⟨p, q, hpq, hql, rfl, rfl, n, rfl⟩ := hrel
    have hb := dueFold_bd (ttl := ttl) (l := 1099511627776) (ts := p.map (·.t)) (by omega) (by
      intro x hx; obtain ⟨e, he, rfl⟩ := List.mem_map.1 hx; exact (HT.out e (by rw [hpq]; simp [he])).1) (by omega)
    have hbd : 0 ≤ dueFold ttl (p.map (·.t)) ∧ dueFold ttl (p.map (·.t)) ≤ 1099511627776 := hb
    clear hb
    cases q with
    | nil =>
      have A := Lib.hid hpq; have B := Lib.hid hql; clear hpq hql
      simp only [nextB, ptr_none]
      go_wp2_with fail
      go_ret2
      have := A.out
      simp at this
      subst this
      exact ⟨rfl, n, rfl⟩
    | cons e q =>
      have hcell := chain_at (hpq ▸ HC.out)
      have hte := HT.out e (by rw [hpq]; simp)
      have A := Lib.hid hpq; have B := Lib.hid hql; clear hpq hql
      have e4 := cell_of_heap hcell 4
      have e6 := cell_of_heap hcell 6
      simp [Ent.cells] at e4 e6
      generalize hG : ptr (nextB none q) = G at *
      generalize hL : dueFold ttl (p.map (·.t)) = L at *
      have HG := Lib.hid hG; have HL := Lib.hid hL; clear hG hL
      simp only [nextB, ptr_some]
      obtain ⟨hte0, hte1⟩ := hte
      obtain ⟨hL0, hL1⟩ := hbd
      clear hcell
      by_cases h1 : e.t < 1099511627776
      · by_cases h2 : ttl < 1099511627776 - e.t
        · go_wp2_with fail
          go_quiet (fail)
          go_wp2_with fail
          go_quiet (fail)
          go_wp2_with fail
          all_goals
            go_roundg q.length
            case measure => have := B.out; simp at this; omega
            case rel =>
              refine ⟨p ++ [e], q, by have := A.out; simpa using this, rfl, HG.out.symm, ?_, _, rfl⟩
              rw [List.map_append, dueFold, List.foldl_append]
              have hl : List.foldl (dueStep ttl) 1099511627776 (p.map (·.t)) = L := HL.out
              rw [hl]
              simp only [List.map_cons, List.map_nil, List.foldl_cons, List.foldl_nil, dueStep, h1, h2, and_self, if_true]
              congr 1
              omega
        · go_wp2_with fail
          go_quiet (fail)
          go_wp2_with fail
          go_roundg q.length
          case measure => have := B.out; simp at this; omega
          case rel =>
            refine ⟨p ++ [e], q, by have := A.out; simpa using this, rfl, HG.out.symm, ?_, _, rfl⟩
            rw [List.map_append, dueFold, List.foldl_append]
            have hl : List.foldl (dueStep ttl) 1099511627776 (p.map (·.t)) = L := HL.out
            rw [hl]
            simp only [List.map_cons, List.map_nil, List.foldl_cons, List.foldl_nil]
            rw [dueStep, if_neg (by omega)]
      · have hd : decide (e.t < 1099511627776) = false := by simpa using h1
        go_wp2_with fail
        go_quiet (fail)
        go_wp2_with fail
        go_roundg q.length
        case measure => have := B.out; simp at this; omega
        case rel =>
          refine ⟨p ++ [e], q, by have := A.out; simpa using this, rfl, HG.out.symm, ?_, _, rfl⟩
          rw [List.map_append, dueFold, List.foldl_append]
          have hl : List.foldl (dueStep ttl) 1099511627776 (p.map (·.t)) = L := HL.out
          rw [hl]
          simp only [List.map_cons, List.map_nil, List.foldl_cons, List.foldl_nil]
          rw [dueStep, if_neg (by omega)]

set_option maxHeartbeats 400000 in
theorem due_none (w : World) (t m : Nat) (ttl : Int) (x2 x3 : Value) (h0 : w.heap[t]? = some (.cells #[.int .u64 ttl, .map (some m), x2, x3] 44 (0, 0))) (h : ttl = 0 ∨ (1 ≤ ttl ∧ x2 = .pointer none)) :
    Calls Tryz.prog 24 #[.pointer (some ⟨t, 0, none⟩)] w fun e w' => e = .returned (.tuple #[.int .u64 0, .bool false]) ∧ w' = w := by
  have c2 := cell_of_heap h0 2
  have c0 := cell_of_heap h0 0
  simp at c2 c0
  have H0 := Lib.hid h0; clear h0
  rcases h with rfl | ⟨h1, rfl⟩
  · go_enter Tryz.func24, Tryz.ntmps24
    go_wp2_with fail
    go_ret2
    exact ⟨rfl, rfl⟩
  · have htz : (ttl == 0) = false := by rw [beq_eq_false_iff_ne]; omega
    go_enter Tryz.func24, Tryz.ntmps24
    go_wp2_with fail
    go_ret2
    exact ⟨rfl, rfl⟩
end Go.Proofs.YthanhccpmonemaaGreatDoor
