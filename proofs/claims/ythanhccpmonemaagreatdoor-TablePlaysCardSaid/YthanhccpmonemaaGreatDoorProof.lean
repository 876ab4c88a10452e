/- PROVED HERE: TablePlays returns true for every slice of steps, in whatever memory; its argument reads afterwards as before. Its condition: the listed tables of Go's library start as their text lays them (the card ties them). No other condition. -/
import Derived.Test.YthanhccpmonemaaGreatDoorLaw
import Derived.Test.YthanhccpmonemaaGreatDoorTie
import Derived.Test.YthanhccpmonemaaGreatDoorCards
import Derived.ProofKit
import Derived.OpenShut
import Derived.Deep.Slices
import Derived.LaidMore
import Derived.Lay
import Derived.SevenTiedAt
import Derived.Stop.Joined
namespace Go.Proofs.YthanhccpmonemaaGreatDoor.tablePlays
open Go.ChangeShapes Go.WideShapes Go.ChangeAt Go.RowKit Go.WideMaps Go.WideElems

theorem own : ownKnob Tryz.prog.godebug = none := by kernel_rfl
theorem laidOut : laidOutB Tryz.prog = true := by kernel_rfl
theorem cells34 : Tryz.prog.cellsOf 34 = 5 := by kernel_rfl
theorem cells31 : Tryz.prog.cellsOf 31 = 1 := by kernel_rfl
theorem cells32 : Tryz.prog.cellsOf 32 = 1 := by kernel_rfl
theorem cells28 : Tryz.prog.cellsOf 28 = 1 := by kernel_rfl
theorem cells5 : Tryz.prog.cellsOf 5 = 1 := by kernel_rfl
theorem cells3 : Tryz.prog.cellsOf 3 = 1 := by kernel_rfl

theorem trod_float64 {H : Type} {enc : TypeId × Value → H} {P : Program} {w : World} {base fuel : Nat} {held : Nat → Bool} {spare : Bool} {t : TypeId} {cs : List Value} {x : DataW H × List MemPlace}
    (ht : P.underlying t = some (.float .f64)) (h : DataW.trod enc P w base held spare fuel t cs = some x) : ∃ n, cs = [.float .f64 n] ∧ (Lit.float .f64 n).wf = true := by
  cases fuel with
  | zero => simp [DataW.trod] at h
  | succ n =>
    unfold DataW.trod at h
    rw [ht] at h
    split at h <;> simp_all

theorem slice_form {H : Type} {enc : TypeId × Value → H} {W : World} {fuel : Nat} {v : Value} {x : DataW H × List MemPlace}
    (h : DataW.trod enc Tryz.prog W 0 (fun _ => true) true fuel 31 [v] = some x) : ∃ ao kn kc zs, v = .slice ao kn kc ∧ BytesZ W (.slice ao kn kc) zs := by
  rcases open_ints Tryz.underlying31 Tryz.underlying5 cells5 h with ⟨hcs, _⟩ | ⟨a, len, cap, zs, hcs, _, hl, hm, hz, _, hcell, hwz⟩
  · simp at hcs
    exact ⟨_, _, _, [], hcs, by simp, .inl ⟨_, _, rfl, rfl⟩⟩
  · simp at hcs
    simp only [if_true] at hz
    by_cases h0 : len = 0
    · subst h0
      exact ⟨_, _, _, [], hcs, by simp, .inl ⟨_, _, rfl, rfl⟩⟩
    · have h00 := hcell 0 (by omega)
      obtain ⟨g, o, s⟩ := a
      have hs : s = none := by simpa [Addr.add] using World.cell?_spot h00
      subst hs
      have htl : (zs.take len).length = len := by rw [List.length_take, hz]; omega
      refine ⟨_, _, _, zs.take len, hcs, by rw [htl]; simp only [maxLen] at hm; omega, .inr ⟨g, o, cap, by rw [htl], fun j hj => ?_⟩⟩
      rw [htl] at hj
      have h1 := hcell j (by omega)
      have hadd : (⟨g, o, none⟩ : Addr).add j = ⟨g, o + j, none⟩ := by unfold Addr.add; split <;> simp_all
      rw [hadd] at h1
      have hw := hwz (zs.getD j 0) (by rw [List.getD_eq_getElem?_getD, List.getElem?_eq_getElem (by omega)]; exact List.getElem_mem _)
      have hb : 0 ≤ zs.getD j 0 ∧ zs.getD j 0 ≤ 255 := by simpa [Lit.wf, IntKind.min, IntKind.max, IntKind.signed, IntKind.bits] using hw
      have hg : (zs.take len)[j]'(by omega) = zs.getD j 0 := by
        rw [List.getElem_take, List.getD_eq_getElem?_getD, List.getElem?_eq_getElem (by omega)]; rfl
      rw [hg]
      exact ⟨hb.1, hb.2, h1⟩

set_option maxRecDepth 100000 in
set_option maxHeartbeats 1000000 in
/-- What a slice of steps reads as, opened. -/
theorem steps_of {H : Type} {enc : TypeId × Value → H} {W : World} {v : Value} {d : DataW H} {ps : List MemPlace} (hok : ∃ a len cap, v = .slice a len cap)
    (h : DataW.Trod enc Tryz.prog W 0 (fun _ => true) true 22 v d ps) : ∃ a n cap, v = .slice a n cap ∧ StepsP W a n := by
  obtain ⟨a0, len, cap, rfl⟩ := hok
  obtain ⟨fuel, hf⟩ := h
  rcases Go.Deep.open_slice Tryz.underlying22 hf with ⟨hcs, _⟩ | ⟨a, len', cap', m, n', D, Pl, hcs, _, hl, hm, hmm, _, hel⟩
  · simp [Value.cells] at hcs
    obtain ⟨rfl, rfl, rfl⟩ := hcs
    exact ⟨none, 0, 0, rfl, by simp, fun j hj => by omega⟩
  · simp [Value.cells] at hcs
    obtain ⟨rfl, rfl, rfl⟩ := hcs
    simp only [if_true] at hmm
    refine ⟨some a, len, cap, rfl, by simp only [maxLen] at hm; omega, fun j hj => ?_⟩
    obtain ⟨cs', hcells, htr⟩ := hel j (by omega)
    rw [cells34] at hcells
    obtain ⟨_, hlen, hci⟩ := World.cells?_some hcells
    obtain ⟨xs, n2, _, _, _, hxl, hfld⟩ := DataW.trod_struct Tryz.underlying34 htr
    match cs', hlen with
    | [c0, c1, c2, c3, c4], _ =>
      have f0 : DataW.trod enc Tryz.prog W 0 (fun _ => true) true n2 3 (([c0, c1, c2, c3, c4].drop 0).take (Tryz.prog.cellsOf 3)) = xs[0]? := hfld 0 _ rfl
      have f1 : DataW.trod enc Tryz.prog W 0 (fun _ => true) true n2 31 (([c0, c1, c2, c3, c4].drop 1).take (Tryz.prog.cellsOf 31)) = xs[1]? := hfld 1 _ rfl
      have f2 : DataW.trod enc Tryz.prog W 0 (fun _ => true) true n2 32 (([c0, c1, c2, c3, c4].drop 2).take (Tryz.prog.cellsOf 32)) = xs[2]? := hfld 2 _ rfl
      have f3 : DataW.trod enc Tryz.prog W 0 (fun _ => true) true n2 28 (([c0, c1, c2, c3, c4].drop 3).take (Tryz.prog.cellsOf 28)) = xs[3]? := hfld 3 _ rfl
      have f4 : DataW.trod enc Tryz.prog W 0 (fun _ => true) true n2 28 (([c0, c1, c2, c3, c4].drop 4).take (Tryz.prog.cellsOf 28)) = xs[4]? := hfld 4 _ rfl
      rw [cells3] at f0
      rw [cells31] at f1
      rw [cells32] at f2
      rw [cells28] at f3 f4
      replace f0 : DataW.trod enc Tryz.prog W 0 (fun _ => true) true n2 3 [c0] = xs[0]? := f0
      replace f1 : DataW.trod enc Tryz.prog W 0 (fun _ => true) true n2 31 [c1] = xs[1]? := f1
      replace f2 : DataW.trod enc Tryz.prog W 0 (fun _ => true) true n2 32 [c2] = xs[2]? := f2
      replace f3 : DataW.trod enc Tryz.prog W 0 (fun _ => true) true n2 28 [c3] = xs[3]? := f3
      replace f4 : DataW.trod enc Tryz.prog W 0 (fun _ => true) true n2 28 [c4] = xs[4]? := f4
      have hxg : ∀ k, k < 5 → ∃ x, xs[k]? = some x := fun k hk => ⟨xs[k]'(by rw [hxl]; exact hk), List.getElem?_eq_getElem _⟩
      obtain ⟨x0, hx0⟩ := hxg 0 (by decide)
      obtain ⟨x1, hx1⟩ := hxg 1 (by decide)
      obtain ⟨x2, hx2⟩ := hxg 2 (by decide)
      obtain ⟨x3, hx3⟩ := hxg 3 (by decide)
      obtain ⟨x4, hx4⟩ := hxg 4 (by decide)
      rw [hx0] at f0
      rw [hx1] at f1
      rw [hx2] at f2
      rw [hx3] at f3
      rw [hx4] at f4
      obtain ⟨what, hw, _, hwf⟩ := DataW.trod_int Tryz.underlying3 f0
      obtain ⟨sn, hs3, _, hwf3⟩ := DataW.trod_int Tryz.underlying28 f3
      obtain ⟨st, hs4, _, hwf4⟩ := DataW.trod_int Tryz.underlying28 f4
      obtain ⟨fn, hs2, hwf2⟩ := trod_float64 Tryz.underlying32 f2
      obtain ⟨ao, kn, kc, zs, hs1, hbz⟩ := slice_form f1
      simp only [List.cons.injEq, and_true] at hw hs2 hs3 hs4
      subst hw hs1 hs2 hs3 hs4
      have hb : -9223372036854775808 ≤ what ∧ what ≤ 9223372036854775807 := by simpa [Lit.wf, IntKind.min, IntKind.max, IntKind.signed, IntKind.bits] using hwf
      have hb3 : 0 ≤ sn ∧ sn ≤ 18446744073709551615 := by simpa [Lit.wf, IntKind.min, IntKind.max, IntKind.signed, IntKind.bits] using hwf3
      have hb4 : 0 ≤ st ∧ st ≤ 18446744073709551615 := by simpa [Lit.wf, IntKind.min, IntKind.max, IntKind.signed, IntKind.bits] using hwf4
      have hb2 : fn < 18446744073709551616 := by simpa [Lit.wf] using hwf2
      have k0 := hci 0 (by omega)
      have k1 := hci 1 (by omega)
      have k2 := hci 2 (by omega)
      have k3 := hci 3 (by omega)
      have k4 := hci 4 (by omega)
      rw [Go.Deep.add_add] at k0 k1 k2 k3 k4
      simp at k0 k1 k2 k3 k4
      obtain ⟨g, o, sp⟩ := a
      have hs : sp = none := by
        obtain ⟨cs0, hc0, _⟩ := hel 0 (by omega)
        rw [cells34] at hc0
        obtain ⟨_, hl0, hci0⟩ := World.cells?_some hc0
        have h00 := hci0 0 (by omega)
        rw [Go.Deep.add_add, List.getElem?_eq_getElem (by omega)] at h00
        have hq := World.cell?_spot h00
        unfold Addr.add at hq
        split at hq <;> simp_all
      subst hs
      have hadd : ∀ m, (⟨g, o, none⟩ : Addr).add m = ⟨g, o + m, none⟩ := by intro m; unfold Addr.add; split <;> simp_all
      rw [hadd] at k0 k1 k2 k3 k4
      rw [← Nat.add_assoc] at k1 k2 k3 k4
      exact ⟨g, o, rfl, World.block_lt_of_cell? W ⟨g, o + j * 5, none⟩ k0, what, hb, k0, ao, kn, kc, zs, k1, hbz, fn, by omega, k2, sn, st, hb3.1, hb3.2, hb4.1, hb4.2, k3, k4⟩

set_option maxRecDepth 100000 in
theorem lifted (os : Os) (started : os.Started) (H : Type) (enc : TypeId × Value → H) :
    ReturnsInHanded {} Tryz.checked os 3 .any (fun w args => (Rows.tablePlaysSpec.pre enc Tryz.prog Tryz.f3 Rows.tablePlaysRow.domain false w args ∧ laidMetH Tryz.prog Rows.tablePlaysRow.laid w) ∧ sizedMet enc Tryz.prog Tryz.f3 (OpenSpec.ofChange Rows.tablePlaysSpec) false w args)
      (Rows.tablePlaysSpec.post enc Tryz.prog Tryz.f3 false true false false) := by
  refine returnsInHanded_of_change_and (C := Tryz.checked) (X := fun w _ => laidMetH Tryz.prog Rows.tablePlaysRow.laid w) (fun _ _ _ hh h => h.of_heap hh) own started (by kernel_rfl) Tryz.func3
    (ChangeSpec.witness_shaped (enc := enc) (C := Tryz.checked) (os := os) (X := fun w _ => laidMetH Tryz.prog Rows.tablePlaysRow.laid w) false (World.laidAll Tryz.prog os Rows.tablePlaysRow.laid) #[.slice none 0 0] 8 (World.laidAll_os _ _ _)
      (World.shaped_of_ZipB (by kernel_rfl) (by kernel_rfl)) (by kernel_rfl) (by kernel_rfl) (by kernel_rfl)
      (by rw [MakeChecks.laidMetH_plain _ _ _ (by kernel_rfl)]; exact laidMet_laidAll _ (by kernel_rfl) (by kernel_rfl))) ?_
  intro W base args ds gs before hval0 hW _ _ _ _
  have hval : ∀ (j : Nat) t v, Tryz.f3.params[j]? = some t → args[j]? = some v → Value.okWide Tryz.prog W .any base t v := hval0
  have hW' := hW
  obtain ⟨p, q, hA0, hV, rfl, hfz, hnd⟩ := hW
  have hA : DataW.TrodAll enc Tryz.prog W 0 (fun _ => true) true Tryz.f3.params.toList args.toList ds p := hA0
  rw [Tryz.params3] at hA hval
  obtain ⟨v0, d0, rfl, rfl, h0⟩ := trodAll_one hA
  obtain ⟨rfl, rfl⟩ := trodVars_none hV
  have hsl := okWide_slice Tryz.underlying22 (hval 0 22 v0 rfl rfl)
  clear hA0 hval0
  simp only [List.append_nil] at hW'
  have hlt : ∀ x ∈ p, x.block < W.heap.size := fun x hx => by simpa using hW'.lt x hx
  obtain ⟨a, n, cap, rfl, hs⟩ := steps_of hsl h0
  refine (plays_walk W a n cap hs).mono fun e W' ⟨he, hg⟩ => ?_
  subst he
  have hb : Below W.heap.size W W' := ⟨hg.os, hg.tape, hg.output, hg.size, fun k hk => hg.block k hk (by simp)⟩
  exact ⟨_, rfl, _, _, _, [], _, [], hW', trodAll_cons_mk (shut_bool Tryz.underlying4 _) trodAll_mk0,
    trodAll_mk1 (Below.trod laidOut (by kernel_rfl) (of_decide_eq_true (by kernel_rfl)) h0 hb hlt), rfl, hb.frame _, fun h => by cases h⟩

theorem over : Rows.tablePlaysRow.holds Tryz.pinned (OpenSpec.ofChange Rows.tablePlaysSpec) :=
  OpenClaim.holds_of_wide 3 Tryz.f3 rfl rfl rfl rfl rfl rfl rfl ⟨rfl, rfl, rfl, rfl, rfl⟩ rfl rfl rfl rfl rfl (by kernel_rfl) Tryz.func3 (by kernel_rfl)
    (of_decide_eq_true (by kernel_rfl)) (by unfold Func.isWrapper; first | (rw [if_pos (by decide +kernel)]; kernel_rfl) | (rw [if_neg (by decide +kernel)]; exact ⟨rfl, rfl⟩))
    (fun os started H enc _ => lifted os started H enc)

theorem proved : Rows.TablePlaysCardSaid :=
  Claim7.holds_tied_plain_at .later [] [.data, .data, .widerDeep, .widerDeep, .data, .data, .data, .data, .data, .sentinel, .sentinel, .pinned, .pinned] true (true, "c68558c3227154b62826e3bb5b0cf0992ad70ada0f75f30820135df9dc636593") true over (fun _ h => by cases h) (by kernel_rfl) (fun _ h => by cases h) tablePlays_row_tie rfl ⟨rfl, rfl⟩ (by kernel_rfl) rfl
    (fun f fn hf hfn => by
      obtain rfl : f = 3 := Option.some.inj ((show Tryz.prog.funcNamed "tailrace/tailracelaw15.TablePlays" = some 3 by kernel_rfl).symm.trans hf) |>.symm
      obtain rfl : fn = Tryz.f3 := (Option.some.inj (Tryz.func3.symm.trans hfn)).symm
      exact ⟨by kernel_rfl, fun j t ht => by
        rw [Tryz.params3] at ht
        have hm : t ∈ [22] := by simpa using Array.mem_of_getElem? ht
        have hall : ([22].all fun u => !Tryz.prog.wantsStandIn u) = true := by kernel_rfl
        exact (show Tryz.prog.wantsStandIn t = false by simpa using List.all_eq_true.1 hall t hm)⟩)
    (by kernel_rfl)
#print axioms proved
end Go.Proofs.YthanhccpmonemaaGreatDoor.tablePlays
