/- PROVED HERE: TableWide returns true for every slice of times, every time to live and every now, in whatever memory; its arguments read afterwards as before. No condition. -/
import Derived.Test.YtaoamogmeefojaaWide
import Derived.ProofKit
import Derived.OpenShut
namespace Go.Proofs.Ytaoamogmeefojaa.tableWide
open Go.ChangeShapes Go.WideShapes Go.ChangeAt Go.RowKit Go.WideMaps Go.WideElems

theorem own : ownKnob Try.prog.godebug = none := by kernel_rfl
theorem laidOut : laidOutB Try.prog = true := by kernel_rfl
theorem cells31 : Try.prog.cellsOf 31 = 1 := by kernel_rfl

theorem add_at {W : World} {a : Addr} {j : Nat} {v : Value} (h : W.cell? (a.add j) = some v) (h0 : ∃ u, W.cell? (a.add 0) = some u) : ∃ g o, some a = some (⟨g, o, none⟩ : Addr) ∧ g < W.heap.size ∧ W.cell? ⟨g, o + j, none⟩ = some v := by
  obtain ⟨g, o, s⟩ := a
  obtain ⟨u, h0⟩ := h0
  have hs : s = none := by simpa [Addr.add] using World.cell?_spot h0
  subst hs
  have hadd : (⟨g, o, none⟩ : Addr).add j = ⟨g, o + j, none⟩ := by unfold Addr.add; split <;> simp_all
  rw [hadd] at h
  exact ⟨g, o, rfl, World.block_lt_of_cell? W ⟨g, o + j, none⟩ h, h⟩

/-- What a slice of uint64s reads as, opened. -/
theorem u64s_of {H : Type} {enc : TypeId × Value → H} {W : World} {v : Value} {d : DataW H} {ps : List MemPlace} (hok : ∃ a len cap, v = .slice a len cap)
    (h : DataW.Trod enc Try.prog W 0 (fun _ => true) true 44 v d ps) : ∃ zs, U64S W v zs := by
  obtain ⟨a0, len, cap, rfl⟩ := hok
  obtain ⟨fuel, hf⟩ := h
  rcases open_ints Try.underlying44 Try.underlying31 cells31 hf with ⟨hcs, hx⟩ | ⟨a, len', cap', zs, hcs, _, hl, hm, hz, hx, hcell, hwz⟩
  · simp [Value.cells] at hcs
    obtain ⟨rfl, rfl, rfl⟩ := hcs
    exact ⟨[], by simp, by simp, none, 0, rfl, by simp⟩
  · simp [Value.cells] at hcs
    obtain ⟨rfl, rfl, rfl⟩ := hcs
    simp only [if_true] at hz
    refine ⟨zs.take len, fun z hz' => ?_, ?_, some a, cap, ?_, ?_⟩
    · have := hwz z (List.mem_of_mem_take hz')
      simpa [Lit.wf, IntKind.min, IntKind.max, IntKind.signed, IntKind.bits] using this
    · rw [List.length_take]; simp only [maxLen] at hm; omega
    · rw [List.length_take, hz, Nat.min_eq_left hl]
    · intro j hj
      rw [List.length_take, hz] at hj
      have h1 := hcell j (by omega)
      obtain ⟨g, o, e1, e2, e3⟩ := add_at h1 ⟨_, hcell 0 (by omega)⟩
      refine ⟨g, o, e1, e2, ?_⟩
      rw [e3, List.getElem_take]
      simp [List.getD, show j < zs.length by omega]

set_option maxRecDepth 100000 in
theorem lifted (os : Os) (started : os.Started) (H : Type) (enc : TypeId × Value → H) :
    ReturnsInHanded {} Try.checked os 4 .any (Rows.tableWideSpec.pre6 enc Try.prog Try.f4 Rows.tableWideRow.domain false) (Rows.tableWideSpec.post enc Try.prog Try.f4 false true false false) := by
  refine returnsInHanded_of_change (C := Try.checked) own started (by kernel_rfl) Try.func4
    (ChangeSpec.witness6 (enc := enc) (C := Try.checked) false ⟨#[], #[.slice none 0 0, .int .u64 0, .int .u64 0], []⟩ 8 (by kernel_rfl) (by kernel_rfl) (by kernel_rfl) (by kernel_rfl)) ?_
  intro W base args ds gs before hval0 hW hcnd _
  have hval : ∀ (j : Nat) t v, Try.f4.params[j]? = some t → args[j]? = some v → Value.okWide Try.prog W .any base t v := hval0
  have hW' := hW
  obtain ⟨p, q, hA0, hV, rfl, hfz, hnd⟩ := hW
  have hA : DataW.TrodAll enc Try.prog W 0 (fun _ => true) true Try.f4.params.toList args.toList ds p := hA0
  rw [Try.params4] at hA hval
  obtain ⟨v0, v1, v2, d0, d1, d2, p0, p1, p2, rfl, rfl, rfl, h0, h1, h2⟩ := trodAll_three hA
  obtain ⟨rfl, rfl⟩ := trodVars_none hV
  have hsl := okWide_slice Try.underlying44 (hval 0 44 v0 rfl rfl)
  obtain ⟨T, rfl, rfl, rfl, wT⟩ := open_int Try.underlying31 (hval 1 31 v1 rfl rfl) h1
  obtain ⟨N, rfl, rfl, rfl, wN⟩ := open_int Try.underlying31 (hval 2 31 v2 rfl rfl) h2
  clear hA0 hval0
  simp only [List.append_nil, List.nil_append] at hW'
  have hlt : ∀ x ∈ p0, x.block < W.heap.size := fun x hx => by simpa using hW'.lt x (by simpa using hx)
  obtain ⟨zs, hzs⟩ := u64s_of hsl h0
  have bT : 0 ≤ T ∧ T ≤ 18446744073709551615 := by simpa [Lit.wf, IntKind.min, IntKind.max, IntKind.signed, IntKind.bits] using wT
  have bN : 0 ≤ N ∧ N ≤ 18446744073709551615 := by simpa [Lit.wf, IntKind.min, IntKind.max, IntKind.signed, IntKind.bits] using wN
  refine (wide_walk W T N v0 zs bT.1 bT.2 bN.1 bN.2 hzs).mono fun e W' ⟨he, hg⟩ => ?_
  subst he
  have hb : Below W.heap.size W W' := ⟨hg.os, hg.tape, hg.output, hg.size, fun k hk => hg.block k hk (by simp)⟩
  exact ⟨_, rfl, _, _, _, [], _, [], hW', trodAll_cons_mk (shut_bool Try.underlying4 _) trodAll_mk0,
    trodAll_mk3 (Below.trod laidOut (by kernel_rfl) (of_decide_eq_true (by kernel_rfl)) h0 hb hlt) (shut_int Try.underlying31 wT) (shut_int Try.underlying31 wN), rfl, hb.frame _, fun h => by cases h⟩

theorem over : Rows.tableWideRow.holds Try.pinned (OpenSpec.ofChange Rows.tableWideSpec) :=
  OpenClaim.holds_of_wide 4 Try.f4 rfl rfl rfl rfl rfl rfl rfl ⟨rfl, rfl, rfl, rfl, rfl⟩ rfl rfl rfl rfl rfl (by kernel_rfl) Try.func4 (by kernel_rfl)
    (of_decide_eq_true (by kernel_rfl)) (by unfold Func.isWrapper; first | (rw [if_pos (by decide +kernel)]; kernel_rfl) | (rw [if_neg (by decide +kernel)]; exact ⟨rfl, rfl⟩))
    (fun os started H enc _ => lifted os started H enc)

theorem proved : Rows.TableWideSaid := over
#print axioms proved
end Go.Proofs.Ytaoamogmeefojaa.tableWide
