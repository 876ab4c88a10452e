/- TableKnown, walked by its callees' contracts. -/
import Derived.Test.YthanhccpmonemaaGreatDoorPurge
import Derived.Test.YthanhccpmonemaaGreatDoorDue
namespace Go.Proofs.YthanhccpmonemaaGreatDoor
open Go.RowKit

def dueV (ttl : Int) (vs : List KV) : Value := if ttl = 0 ∨ vs = [] then .tuple #[.int .u64 0, .bool false] else .tuple #[.int .u64 (dueFold ttl (vs.map (·.t))), .bool true]

theorem due_tab {w : World} {t : Nat} {fp : List Nat} {ttl : Int} {vs : List KV} (h : Tab w t fp ttl vs) (ht0 : 0 ≤ ttl) (ht1 : ttl ≤ 18446744073709551615)
    (hts : ∀ v ∈ vs, 0 ≤ v.t ∧ v.t ≤ 18446744073709551615) :
    Calls Tryz.prog 24 #[.pointer (some ⟨t, 0, none⟩)] w fun e w' => e = .returned (dueV ttl vs) ∧ ∃ n, w' = w.drewN n := by
  obtain ⟨m, es, l, clock, hr, rfl, rfl⟩ := h
  unfold dueV
  by_cases hz : ttl = 0
  · subst hz
    rw [if_pos (.inl rfl)]
    refine (due_none w t m 0 _ _ hr.tab (.inl rfl)).mono ?_
    rintro e w' ⟨rfl, rfl⟩
    exact ⟨rfl, 0, rfl⟩
  · by_cases he : es = []
    · subst he
      rw [if_pos (.inr rfl)]
      refine (due_none w t m ttl _ _ hr.tab (.inr ⟨by omega, rfl⟩)).mono ?_
      rintro e w' ⟨rfl, rfl⟩
      exact ⟨rfl, 0, rfl⟩
    · rw [if_neg (by simp [hz, he])]
      have := due_any w t m ttl es _ hr.tab hr.chain (by omega) ht1 he (fun e hm => hts e.vis (List.mem_map_of_mem hm))
      simpa [Ent.vis, Function.comp_def] using this

/-- Times that a uint64 holds. -/
def TB (vs : List KV) : Prop := ∀ v ∈ vs, 0 ≤ v.t ∧ v.t ≤ 18446744073709551615
theorem TB.nil : TB [] := by intro v hv; cases hv
theorem TB.put {vs : List KV} {x : KV} (h : TB vs) (h0 : 0 ≤ x.t) (h1 : x.t ≤ 18446744073709551615) : TB (kput x vs) := by
  intro v hv
  unfold kput at hv
  split at hv
  · obtain ⟨u, hu, rfl⟩ := List.mem_map.1 hv
    split
    · exact ⟨h0, h1⟩
    · exact h u hu
  · rcases List.mem_append.1 hv with hv | hv
    · exact h v hv
    · simp at hv; subst hv; exact ⟨h0, h1⟩
theorem TB.del {vs : List KV} {s : ByteArray} (h : TB vs) : TB (kdel s vs) := fun v hv => h v (List.mem_filter.1 hv).1
theorem TB.rest {vs : List KV} {now ttl : Int} (h : TB vs) : TB (restV now ttl vs) := by
  intro v hv
  unfold restV at hv
  split at hv
  · exact h v hv
  · exact h v (List.mem_filter.1 hv).1

theorem Keeps.cell {w w' : World} (h : Keeps [] w w') {b o : Nat} {v : Value} (hb : b < w.heap.size) (hc : w.cell? ⟨b, o, none⟩ = some v) : w'.cell? ⟨b, o, none⟩ = some v := by
  rw [World.cell?_of_block (w := w) (a := ⟨b, o, none⟩) (h.block b hb (by simp))]; exact hc

end Go.Proofs.YthanhccpmonemaaGreatDoor
