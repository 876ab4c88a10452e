/- table.Keys, walked: the chain from its first entry on, a key a round appended. -/
import Derived.Test.YthanhccpmonemaaGreatDoorTabB
import Derived.Deep.LoopGhost
namespace Go.Proofs.YthanhccpmonemaaGreatDoor
open Go.RowKit

theorem info9 : (Tryz.prog.info? 9).map (fun i => (i.zero, i.size, i.bytes)) = some (some (.string ⟨#[]⟩), 1, 16) := by kernel_rfl

/-- The entries' keys, as cells. -/
def keyCells (es : List Ent) : List Value := es.map fun e => .string e.key
/-- A round of Keys: p is behind, q is to come. -/
def KeysAt (w : World) (es : List Ent) (k : Nat) (out x : Value) (wr : World) : Prop :=
  ∃ p q, es = p ++ q ∧ q.length = k ∧ x = ptr (nextB none q) ∧ wr.ownsRow w.heap.size 9 1 out p.length (keyCells p) ∧ Keeps [] w wr

theorem chain_at {w : World} {p q : List Ent} {e : Ent} (h : Chain w none none (p ++ e :: q)) : w.heap[e.b]? = some (.cells (e.cells (lastB none p) (nextB none q)) 64 (0, 0)) :=
  ((Chain_append w none none p (e :: q)).1 h).2.1

set_option maxHeartbeats 400000 in
theorem keys_any (w : World) (t m : Nat) (ttl : Int) (es : List Ent) (last : Option Nat) (h0 : w.heap[t]? = some (.cells #[.int .u64 ttl, .map (some m), ptr (nextB none es), ptr last] 44 (0, 0)))
    (hc : Chain w none none es) (hlen : es.length ≤ 1000000) :
    Calls Tryz.prog 9 #[.pointer (some ⟨t, 0, none⟩)] w fun e w' => ∃ v, e = .returned v ∧ w'.ownsRow w.heap.size 9 1 v es.length (keyCells es) ∧ Keeps [] w w' := by
  have c2 := cell_of_heap h0 2
  simp at c2
  generalize hF : ptr (nextB none es) = F at *
  have HF := Lib.hid hF; clear hF
  have HC := Lib.hid hc; have H0 := Lib.hid h0; clear hc h0
  obtain ⟨i0, hi, hz0, hz1, hz2⟩ := info_parts info9
  have HI := Lib.hid hi; have HZ0 := Lib.hid hz0; have HZ1 := Lib.hid hz1; have HZ2 := Lib.hid hz2; clear hi hz0 hz1 hz2
  go_enter Tryz.func9, Tryz.ntmps9
  go_wp2_with fail
  go_loopg [3, 4] (es.length) (fun k out x wr => KeysAt w es k out x wr)
  case atStart => exact ⟨[], es, rfl, rfl, HF.out.symm, World.ownsRow_nil _ _ _ _, Keeps.refl _ _⟩
  case round =>
    obtain ⟨p, q, hpq, hql, rfl, hown, hk⟩ := hrel
    cases q with
    | nil =>
      have A := Lib.hid hpq; clear hpq
      have B := Lib.hid hql; clear hql
      simp only [nextB, ptr_none]
      go_wp2_with fail
      go_ret
      have := A.out
      simp at this
      subst this
      exact ⟨_, rfl, hown, hk⟩
    | cons e q =>
      have hlp : p.length + 1 ≤ es.length := by rw [hpq]; simp
      have hcell := hk.at (chain_at (hpq ▸ HC.out)) (by simp)
      have A := Lib.hid hpq; clear hpq
      have B := Lib.hid hql; clear hql
      have e0 := cell_of_heap hcell 0
      have e6 := cell_of_heap hcell 6
      simp [Ent.cells] at e0 e6
      generalize hG : ptr (nextB none q) = G at *
      have HG := Lib.hid hG; clear hG
      have E := Lib.hid hcell; clear hcell
      have hlt := h_lt E.out
      simp only [nextB, ptr_some]
      have hsz := hk.size
      go_wp2_with (at_builtin; refine wpList_append_own _ rfl _ _ 38 rfl w.heap.size 9 i0 (.string ⟨#[]⟩) 1 16 Tryz.underlying38 HI.out HZ0.out HZ1.out HZ2.out rfl (by decide) _ _ _ rfl (hown.alloc _) ⟨wr.heap.size, 0, none⟩ 1 1 [.string e.key] rfl rfl ?c1 ?c2 ?c3 ?c4 ?c5 ?_)
      case c1 =>
        intro j u hj
        cases j with
        | zero => simp at hj; subst hj; exact cell_of_heap (h_new _ _) 0
        | succ j => simp at hj
      case c2 => intro u hu; simp at hu; subst hu; rfl
      case c3 => simp only [maxLen]; omega
      case c4 => omega
      case c5 => simp; omega
      intro v' w1 hown' hgrow _
      have hk' : Keeps [] w w1 := by
        have h1 := (Keeps.alloc [] wr (.cells #[.string e.key] 9))
        have h2 : Keeps (u3.ownBlock.toList) (wr.alloc (.cells #[.string e.key] 9)) w1 := Keeps.grown hgrow fun k hk => by simp [hk]
        refine (hk.trans h1 (by simp)).trans h2 ?_
        intro x hx
        simp at hx
        exact .inr ((hown.lt x hx).1)
      have E1 := hk'.at (chain_at (A.out ▸ HC.out)) (by simp)
      have f6 := cell_of_heap E1 6
      simp [Ent.cells] at f6
      rw [HG.out] at f6
      clear hown hgrow hk e0 e6 hlt hsz E1
      have OW := Lib.hid hown'; have HK := Lib.hid hk'; clear hown' hk'
      go_wp2_with fail
      go_roundg q.length
      case measure => have := B.out; simp at this; omega
      case rel =>
        refine ⟨p ++ [e], q, by have := A.out; simpa using this, rfl, HG.out.symm, ?_, HK.out⟩
        have := OW.out
        simpa [keyCells] using this
end Go.Proofs.YthanhccpmonemaaGreatDoor
