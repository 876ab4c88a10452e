/- PROVED HERE: TableOrder returns true for every slice of steps, in whatever memory; its argument reads afterwards as before. No condition. -/
import Derived.Test.YtaoamogmeefojaaOrder
import Derived.ProofKit
import Derived.OpenShut
import Derived.Deep.Slices
namespace Go.Proofs.Ytaoamogmeefojaa.tableOrder
open Go.ChangeShapes Go.WideShapes Go.ChangeAt Go.RowKit Go.WideMaps Go.WideElems

theorem own : ownKnob Try.prog.godebug = none := by kernel_rfl
theorem laidOut : laidOutB Try.prog = true := by kernel_rfl
theorem cells33 : Try.prog.cellsOf 33 = 5 := by kernel_rfl
theorem cells29 : Try.prog.cellsOf 29 = 1 := by kernel_rfl
theorem cells5 : Try.prog.cellsOf 5 = 1 := by kernel_rfl
theorem cells3 : Try.prog.cellsOf 3 = 1 := by kernel_rfl
theorem slice_form {H : Type} {enc : TypeId × Value → H} {W : World} {fuel : Nat} {v : Value} {x : DataW H × List MemPlace}
    (h : DataW.trod enc Try.prog W 0 (fun _ => true) true fuel 29 [v] = some x) : ∀ w', Keeps [] W w' → BytesS w' v := by
  intro w' hk
  rcases open_ints Try.underlying29 Try.underlying5 cells5 h with ⟨hcs, _⟩ | ⟨a, len, cap, zs, hcs, _, hl, hm, hz, _, hcell, hwz⟩
  · simp at hcs; exact .inl ⟨_, _, hcs⟩
  · simp at hcs
    subst hcs
    simp only [if_true] at hz
    by_cases h0 : len = 0
    · subst h0
      exact .inl ⟨_, _, rfl⟩
    · have h00 := hcell 0 (by omega)
      obtain ⟨g, o, s⟩ := a
      have hs : s = none := by simpa [Addr.add] using World.cell?_spot h00
      subst hs
      refine .inr ⟨g, o, len, cap, rfl, by omega, fun j hj => ?_⟩
      have h1 := hcell j (by omega)
      have hadd : (⟨g, o, none⟩ : Addr).add j = ⟨g, o + j, none⟩ := by unfold Addr.add; split <;> simp_all
      rw [hadd] at h1
      have hw := hwz (zs.getD j 0) (by rw [List.getD_eq_getElem?_getD, List.getElem?_eq_getElem (by omega)]; exact List.getElem_mem _)
      have hb : 0 ≤ zs.getD j 0 ∧ zs.getD j 0 ≤ 255 := by simpa [Lit.wf, IntKind.min, IntKind.max, IntKind.signed, IntKind.bits] using hw
      exact ⟨_, hb.1, hb.2, hk.cell (World.block_lt_of_cell? W ⟨g, o + j, none⟩ h1) h1⟩

/-- What a slice of steps reads as, opened. -/
theorem steps_of {H : Type} {enc : TypeId × Value → H} {W : World} {v : Value} {d : DataW H} {ps : List MemPlace} (hok : ∃ a len cap, v = .slice a len cap)
    (h : DataW.Trod enc Try.prog W 0 (fun _ => true) true 22 v d ps) : ∃ a n cap, v = .slice a n cap ∧ StepS W a n := by
  obtain ⟨a0, len, cap, rfl⟩ := hok
  obtain ⟨fuel, hf⟩ := h
  rcases Go.Deep.open_slice Try.underlying22 hf with ⟨hcs, _⟩ | ⟨a, len', cap', m, n', D, Pl, hcs, _, hl, hm, hmm, _, hel⟩
  · simp [Value.cells] at hcs
    obtain ⟨rfl, rfl, rfl⟩ := hcs
    exact ⟨none, 0, 0, rfl, by simp, fun j hj => by omega⟩
  · simp [Value.cells] at hcs
    obtain ⟨rfl, rfl, rfl⟩ := hcs
    simp only [if_true] at hmm
    refine ⟨some a, len, cap, rfl, by simp only [maxLen] at hm; omega, fun j hj => ?_⟩
    obtain ⟨cs', hcells, htr⟩ := hel j (by omega)
    rw [cells33] at hcells
    obtain ⟨_, hlen, hci⟩ := World.cells?_some hcells
    obtain ⟨xs, n2, _, _, _, hxl, hfld⟩ := DataW.trod_struct Try.underlying33 htr
    match cs', hlen with
    | [c0, c1, c2, c3, c4], _ =>
      have f0 : DataW.trod enc Try.prog W 0 (fun _ => true) true n2 3 (([c0, c1, c2, c3, c4].drop 0).take (Try.prog.cellsOf 3)) = xs[0]? := hfld 0 _ rfl
      have f1 : DataW.trod enc Try.prog W 0 (fun _ => true) true n2 29 (([c0, c1, c2, c3, c4].drop 1).take (Try.prog.cellsOf 29)) = xs[1]? := hfld 1 _ rfl
      rw [cells3] at f0
      rw [cells29] at f1
      replace f0 : DataW.trod enc Try.prog W 0 (fun _ => true) true n2 3 [c0] = xs[0]? := f0
      replace f1 : DataW.trod enc Try.prog W 0 (fun _ => true) true n2 29 [c1] = xs[1]? := f1
      obtain ⟨x0, hx0⟩ : ∃ x0, xs[0]? = some x0 := ⟨xs[0]'(by rw [hxl]; decide), List.getElem?_eq_getElem _⟩
      obtain ⟨x1, hx1⟩ : ∃ x1, xs[1]? = some x1 := ⟨xs[1]'(by rw [hxl]; decide), List.getElem?_eq_getElem _⟩
      rw [hx0] at f0
      rw [hx1] at f1
      obtain ⟨what, hw, _, hwf⟩ := DataW.trod_int Try.underlying3 f0
      simp only [List.cons.injEq, and_true] at hw
      subst hw
      have hb : -9223372036854775808 ≤ what ∧ what ≤ 9223372036854775807 := by simpa [Lit.wf, IntKind.min, IntKind.max, IntKind.signed, IntKind.bits] using hwf
      have k0 := hci 0 (by omega)
      have k1 := hci 1 (by omega)
      rw [Go.Deep.add_add] at k0 k1
      simp at k0 k1
      obtain ⟨g, o, sp⟩ := a
      have hs : sp = none := by
        obtain ⟨cs0, hc0, _⟩ := hel 0 (by omega)
        rw [cells33] at hc0
        obtain ⟨_, hl0, hci0⟩ := World.cells?_some hc0
        have h00 := hci0 0 (by omega)
        rw [Go.Deep.add_add, List.getElem?_eq_getElem (by omega)] at h00
        have hq := World.cell?_spot h00
        unfold Addr.add at hq
        split at hq <;> simp_all
      subst hs
      have hadd : ∀ m, (⟨g, o, none⟩ : Addr).add m = ⟨g, o + m, none⟩ := by intro m; unfold Addr.add; split <;> simp_all
      rw [hadd] at k0 k1
      exact ⟨g, o, rfl, World.block_lt_of_cell? W ⟨g, o + j * 5, none⟩ k0, what, hb.1, hb.2, k0, c1, by rw [Nat.add_assoc]; exact k1, slice_form f1⟩

set_option maxRecDepth 100000 in
theorem lifted (os : Os) (started : os.Started) (H : Type) (enc : TypeId × Value → H) :
    ReturnsInHanded {} Try.checked os 3 .any (Rows.tableOrderSpec.pre6 enc Try.prog Try.f3 Rows.tableOrderRow.domain false) (Rows.tableOrderSpec.post enc Try.prog Try.f3 false true false false) := by
  refine returnsInHanded_of_change (C := Try.checked) own started (by kernel_rfl) Try.func3
    (ChangeSpec.witness6 (enc := enc) (C := Try.checked) false ⟨#[], #[.slice none 0 0], []⟩ 8 (by kernel_rfl) (by kernel_rfl) (by kernel_rfl) (by kernel_rfl)) ?_
  intro W base args ds gs before hval0 hW hcnd _
  have hval : ∀ (j : Nat) t v, Try.f3.params[j]? = some t → args[j]? = some v → Value.okWide Try.prog W .any base t v := hval0
  have hW' := hW
  obtain ⟨p, q, hA0, hV, rfl, hfz, hnd⟩ := hW
  have hA : DataW.TrodAll enc Try.prog W 0 (fun _ => true) true Try.f3.params.toList args.toList ds p := hA0
  rw [Try.params3] at hA hval
  obtain ⟨v0, d0, rfl, rfl, h0⟩ := trodAll_one hA
  obtain ⟨rfl, rfl⟩ := trodVars_none hV
  have hsl := okWide_slice Try.underlying22 (hval 0 22 v0 rfl rfl)
  clear hA0 hval0
  simp only [List.append_nil] at hW'
  have hlt : ∀ x ∈ p, x.block < W.heap.size := fun x hx => by simpa using hW'.lt x hx
  obtain ⟨a, n, cap, rfl, hs⟩ := steps_of hsl h0
  refine (order_walk W a n cap hs).mono fun e W' ⟨he, hg⟩ => ?_
  subst he
  have hb : Below W.heap.size W W' := ⟨hg.os, hg.tape, hg.output, hg.size, fun k hk => hg.block k hk (by simp)⟩
  exact ⟨_, rfl, _, _, _, [], _, [], hW', trodAll_cons_mk (shut_bool Try.underlying4 _) trodAll_mk0,
    trodAll_mk1 (Below.trod laidOut (by kernel_rfl) (of_decide_eq_true (by kernel_rfl)) h0 hb hlt), rfl, hb.frame _, fun h => by cases h⟩

theorem over : Rows.tableOrderRow.holds Try.pinned (OpenSpec.ofChange Rows.tableOrderSpec) :=
  OpenClaim.holds_of_wide 3 Try.f3 rfl rfl rfl rfl rfl rfl rfl ⟨rfl, rfl, rfl, rfl, rfl⟩ rfl rfl rfl rfl rfl (by kernel_rfl) Try.func3 (by kernel_rfl)
    (of_decide_eq_true (by kernel_rfl)) (by unfold Func.isWrapper; first | (rw [if_pos (by decide +kernel)]; kernel_rfl) | (rw [if_neg (by decide +kernel)]; exact ⟨rfl, rfl⟩))
    (fun os started H enc _ => lifted os started H enc)

theorem proved : Rows.TableOrderSaid := over
#print axioms proved
end Go.Proofs.Ytaoamogmeefojaa.tableOrder
