/- What kfind finds. -/
import Derived.Test.YthanhccpmonemaaGreatDoorKnownLaw
namespace Go.Proofs.YthanhccpmonemaaGreatDoor
open Go.RowKit

theorem kfind_mem {vs : List KV} (hn : (vs.map (·.key)).Nodup) {v : KV} (hv : v ∈ vs) : kfind v.key vs = some v := by
  unfold kfind
  induction vs with
  | nil => cases hv
  | cons a r ih =>
    simp only [List.map_cons, List.nodup_cons, List.mem_map, not_exists, not_and] at hn
    rw [List.find?_cons]
    rcases List.mem_cons.1 hv with rfl | hv
    · rw [beq_self]
    · have : (v.key == a.key) = false := by
        cases hb : (v.key == a.key) with
        | false => rfl
        | true => exact absurd (bytes_eq_of_beq hb) (hn.1 v hv)
      rw [this]
      exact ih hn.2 hv
theorem kfind_not {vs : List KV} {k : ByteArray} (h : k ∉ vs.map (·.key)) : kfind k vs = none := by
  unfold kfind
  rw [List.find?_eq_none]
  intro v hv hb
  exact h (by rw [bytes_eq_of_beq hb]; exact List.mem_map_of_mem hv)

end Go.Proofs.YthanhccpmonemaaGreatDoor
