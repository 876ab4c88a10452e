/- The document's Lay, walked. -/
import Derived.Test.YthanhccpmonemaaGreatDoorLayD
import Derived.Deep.DeepCutAuto
namespace Go.Proofs.YthanhccpmonemaaGreatDoor
open Go.RowKit

/-- A call of a Go function, as one step of a region that draws. -/
theorem step_call {P : Program} {ops : Array Oper} {o : Oper} {a : Act} {w : World} {K : Act → World → Prop} {Q : Exit → Act → World → Prop} {E : Prop} (hg : o.guard = none) {f : FuncId} {vals : Array Value} (x : Operand) (t : TypeId) (_ho : o.op = .call { callee := .value (.func f), args := #[x], argTypes := #[t] })
    (hrun : (execOp a.eval o).run P w = .ok (.enter f vals) w) {R : Value → World → Prop} (hc : Calls P f vals w fun e w' => ∃ v, e = .returned v ∧ R v w') (hK : ∀ v w', R v w' → K (a.put o.dst v) w') :
    if Region.wanted o (yielded ops a.tmps) = true then Oper.wp P o a w K Q else E := by
  rw [if_pos (by simp [Region.wanted, hg])]
  unfold Oper.wp
  rw [hrun, Oper.upon_enter]
  exact hc.mono fun e w' ⟨v, he, hr⟩ => by subst he; exact hK v w' hr

/-- append of bytes onto bytes of the call's own. -/
theorem wpList_bys {w : World} {ops : Array Oper} {rest : List Oper} {o : Oper} {a : Act} {Q : Exit → Act → World → Prop} (hgd : o.guard = none) (s x : Operand)
    (ho : o.op = .call { callee := .builtin .append, args := #[s, x], argTypes := #[31, 31] }) (base : Nat) (v : Value) (xs : List UInt8) (hs : a.eval s = v) (hown : Bys w base v xs)
    (v2 : Value) (ys : List UInt8) (hx : a.eval x = v2) (h2 : ∃ b2, Bys w b2 v2 ys) (hy : 0 < ys.length) (hl : xs.length + ys.length ≤ 1000000) (hbase : base ≤ w.heap.size)
    (h : ∀ v' w', Bys w' base v' (xs ++ ys) → w.grownBy w' v.ownBlock → wpList Tryz.prog ops Q rest (a.put o.dst v') w') : wpList Tryz.prog ops Q (o :: rest) a w := by
  obtain ⟨i5, hi, hz0, hz1, hz2⟩ := info_parts info5
  obtain ⟨b2, h2⟩ := h2
  obtain ⟨g2, c2, rfl, hsrc⟩ := h2.src hy
  refine wpList_append_own w hgd s x 31 ho base 5 i5 (.int .u8 0) 1 1 Tryz.underlying31 hi hz0 hz1 hz2 rfl (by decide) v _ _ hs hown ⟨g2, 0, none⟩ ys.length c2 (bRow ys) hx (by rw [bRow_length]; omega) hsrc (bRow_one _) (by simp only [maxLen]; omega) (by omega) hbase ?_
  intro v' w' h3 h4 _
  refine h v' w' ?_ h4
  unfold Bys
  rw [bRow_append, List.length_append]
  exact h3

def RLayAt (w : World) (r base : Nat) (ttl : Int) (vs : List KV) (g : Nat) (x i : Value) (wr : World) : Prop :=
  ∃ k : Nat, k ≤ vs.length ∧ g = vs.length - k ∧ i = .int .i64 k ∧ RTab wr r base ttl vs ∧ Bys wr w.heap.size x (numB ttl.toNat ++ (numB vs.length ++ entsB (vs.take k))) ∧ Keeps [] w wr

set_option maxRecDepth 100000 in
set_option maxHeartbeats 4000000 in
theorem rlay_any {w : World} {r base : Nat} {ttl : Int} {vs : List KV} (h : RTab w r base ttl vs) (h0 : 0 ≤ ttl) (h1 : ttl ≤ 18446744073709551615) (hv : ∀ v ∈ vs, VOK v) (hlen : vs.length ≤ 1000) :
    Calls Tryz.prog 29 #[.pointer (some ⟨r, 0, none⟩)] w fun e w' => ∃ v, e = .returned v ∧ Bys w' w.heap.size v (tabB ttl vs) ∧ Keeps [] w w' := by
  obtain ⟨i5, hi, hz0, hz1, hz2⟩ := info_parts info5
  have N5 := Lib.hid hi; have N5z := Lib.hid hz0; have N5s := Lib.hid hz1; have N5b := Lib.hid hz2; clear hi hz0 hz1 hz2
  obtain ⟨n, rfl⟩ : ∃ n : Nat, ttl = n := ⟨ttl.toNat, by omega⟩
  have hn64 := numB_len64 (n := n) (by omega)
  have hl64 := numB_len64 (n := vs.length) (by omega)
  have hR := h
  obtain ⟨lv, hh0, hh1⟩ := h
  obtain ⟨la, lc, rfl⟩ := slice_shape5 hh1
  have c0 := cell_of_heap hh0 0
  have c1 := cell_of_heap hh0 1
  simp at c0 c1
  have H0 := Lib.hid hh0; have HR := Lib.hid hR; have HV := Lib.hid hv; clear hh0 hh1 hR hv
  have hwl : IntKind.u64.wrap (vs.length : Int) = (vs.length : Int) := IntWalk.u64_in _ (by omega)
  have hnum2 : ∀ W : World, Calls Tryz.prog 37 #[.int .u64 (IntKind.u64.wrap (vs.length : Int))] W fun e w' => ∃ v, e = .returned v ∧ Bys w' W.heap.size v (numB vs.length) ∧ Keeps [] W w' := by
    intro W
    rw [hwl]
    exact rnum_any W vs.length (by omega)
  have HWL := Lib.hid hwl; clear hwl
  go_enter Tryz.func29, Tryz.ntmps29
  go_upto_region 1 with fail
  go_cut [3] (fun s3 wx => Bys wx w.heap.size s3 (numB n ++ numB vs.length) ∧ Keeps [] w wx)
  case first =>
    go_region_law (first
      | (refine step_call (f := 37) (vals := #[.int .u64 n]) rfl (.tmp 8) 28 rfl (by kernel_rfl) (rnum_any _ n (by omega)) ?_; rintro v1 w1 ⟨hb1, hk1⟩; have d0 : w1.cell? ⟨r, 0, none⟩ = some (.slice la vs.length lc) := by (have := cell_of_heap (hk1.at H0.out (by simp)) 0; simpa using this))
      | (refine step_call (f := 37) (vals := #[.int .u64 (IntKind.u64.wrap (vs.length : Int))]) rfl (.tmp 15) 28 rfl (by kernel_rfl) (hnum2 _) ?_; rintro v2 w2 ⟨hb2, hk2⟩; obtain ⟨g2, c2, rfl, hsrc2⟩ := hb2.src (numB_pos _); have hb12 := row_keep0 hb1 hk2; have hs1 := hk1.size; have hs2 := hk2.size)
      | (refine step_own rfl (.tmp 9) (.tmp 16) 31 rfl w.heap.size 5 i5 (.int .u8 0) 1 1 Tryz.underlying31 N5.out N5z.out N5s.out N5b.out rfl (by decide) _ _ _ rfl hb12 ⟨g2, 0, none⟩ (numB vs.length).length c2 (bRow (numB vs.length)) rfl (by rw [bRow_length]; omega) hsrc2 (bRow_one _) (by simp only [maxLen]; omega) (by omega) (by simp at hs1; omega) ?_; intro v3 w3 hown3 hg3))
    all_goals
      have hg3' : w2.grownBy w3 v1.ownBlock := hg3
      have hk12 : Keeps [] w w2 := ((Keeps.drew [] w).trans hk1 (by simp)).trans hk2 (by simp)
      have hk3 := keeps_row hk12 hb12 hg3'
      have hfin : Bys w3 w.heap.size v3 (numB n ++ numB vs.length) := by
        unfold Bys
        rw [bRow_append, List.length_append]
        exact hown3
      have HFIN := Lib.hid hfin; have HK3 := Lib.hid hk3
      clear hg3' hk12 hk3 hfin hown3 hg3 hb12 hb1 hb2 hk1 hk2 hsrc2 d0 hs1 hs2 hnum2
      go_wp2_with fail
      go_meet
      case rel => exact ⟨HFIN.out, HK3.out⟩
  case rest =>
    obtain ⟨hb3, hk3⟩ := hcut
    have HB3 := Lib.hid hb3; have HK3 := Lib.hid hk3
    clear hb3 hk3 hnum2 c0 c1
    go_wp2_with fail
    go_loopg [3, 4] vs.length (fun g x i wr => RLayAt w r base n vs g x i wr)
    case atStart => exact ⟨0, by omega, by omega, rfl, HR.out.keep0 HK3.out, by simpa [entsB] using HB3.out, HK3.out⟩
    case round =>
      obtain ⟨k, hk, rfl, rfl, hRr, hBr, hKr⟩ := hrel
      simp only [Int.toNat_natCast] at hBr
      have hRt := hRr
      obtain ⟨lv, q0, q1⟩ := hRr
      obtain ⟨la', lc', rfl⟩ := slice_shape5 q1
      have c0 := cell_of_heap q0 0
      simp at c0
      have hel := entsB_len (vs := vs.take k) fun v hv => HV.out v (List.mem_of_mem_take hv)
      rw [List.length_take] at hel
      have HRT := Lib.hid hRt; have HBR := Lib.hid hBr; have HKR := Lib.hid hKr
      clear hRt q0 hBr hKr
      by_cases hlt : k < vs.length
      · obtain ⟨v, hv⟩ : ∃ v, vs[k]? = some v := ⟨vs[k], List.getElem?_eq_getElem hlt⟩
        obtain ⟨o1, o2, o3, o4, o5, o6, o7⟩ := HV.out v (List.mem_of_getElem? hv)
        obtain ⟨g, cap, hs, hg, k0, _, _, _, _⟩ := row_entry q1 hv
        simp only [Value.slice.injEq, true_and] at hs
        obtain ⟨rfl, rfl⟩ := hs
        obtain ⟨tm, htm⟩ : ∃ tm : Nat, v.t = tm := ⟨v.t.toNat, by omega⟩
        have hnt := numB_len64 (n := tm) (by omega)
        have htl : (textB v.key).length ≤ 110 ∧ 0 < (textB v.key).length := by
          have := numB_len64 (n := v.key.size) (by omega)
          have := numB_pos v.key.size
          simp only [textB, List.length_append, strB_len]; omega
        obtain ⟨htl1, htl2⟩ := htl
        have hsn := take_snoc hv
        have HSN := Lib.hid hsn; have HVV := Lib.hid hv; clear hsn hv q1
        go_wp2_with fail
        refine (rtext_any _ v.key (by omega)).mono ?_
        rintro e w1 ⟨v1, rfl, hb1, hk1⟩
        have HK1 := Lib.hid (HKR.out.trans hk1 (by simp)); have HB1 := Lib.hid hb1; have HX1 := Lib.hid (HBR.out.keep hk1); have HR1 := Lib.hid (HRT.out.keep0 hk1)
        clear hb1 hk1
        have hsz1 := HK1.out.size
        go_wp2_with (at_builtin; refine wpList_bys rfl (.tmp 27) (.tmp 36) rfl w.heap.size _ _ rfl HX1.out _ _ rfl ⟨_, HB1.out⟩ htl2 ?c1 hsz1 ?_)
        case c1 => simp only [List.length_append]; omega
        intro v2 w2 hb2 hg2
        have HR2 := Lib.hid (HR1.out.keep_row HX1.out (by decide) hg2); have HB2 := Lib.hid hb2; have HK2 := Lib.hid (keeps_row HK1.out HX1.out hg2)
        clear hb2 hg2 HX1 HB1 HR1 HK1 HRT HBR HKR
        -- its time
        have hsz2 := HK2.out.size
        have hRt2 := HR2.out
        obtain ⟨lv2, q0, q1⟩ := hRt2
        obtain ⟨la2, lc2, rfl⟩ := slice_shape5 q1
        have c0 := cell_of_heap q0 0
        simp at c0
        obtain ⟨g2, cap2, hs, hg2, _, _, _, _, k4⟩ := row_entry q1 HVV.out
        simp only [Value.slice.injEq, true_and] at hs
        obtain ⟨rfl, rfl⟩ := hs
        rw [htm] at k4
        clear q0 q1
        go_wp2_with fail
        refine (rnum_any _ tm (by omega)).mono ?_
        rintro e w3 ⟨v3, rfl, hb3, hk3⟩
        have HK3 := Lib.hid (HK2.out.trans hk3 (by simp)); have HB3 := Lib.hid hb3; have HX3 := Lib.hid (HB2.out.keep hk3); have HR3 := Lib.hid (HR2.out.keep0 hk3)
        clear hb3 hk3
        have hsz3 := HK3.out.size
        go_wp2_with (at_builtin; refine wpList_bys rfl (.tmp 38) (.tmp 47) rfl w.heap.size _ _ rfl HX3.out _ _ rfl ⟨_, HB3.out⟩ (numB_pos _) ?c1 hsz3 ?_)
        case c1 => simp only [List.length_append]; omega
        intro v4 w4 hb4 hg4
        have HR4 := Lib.hid (HR3.out.keep_row HX3.out (by decide) hg4); have HB4 := Lib.hid hb4; have HK4 := Lib.hid (keeps_row HK3.out HX3.out hg4)
        clear hb4 hg4 HX3 HB3 HR3 HK3 HR2 HB2 HK2
        -- its value
        have hsz4 := HK4.out.size
        have hRt4 := HR4.out
        obtain ⟨lv4, q0, q1⟩ := hRt4
        obtain ⟨la4, lc4, rfl⟩ := slice_shape5 q1
        have c0 := cell_of_heap q0 0
        simp at c0
        obtain ⟨g4, cap4, hs, hg4, _, k1, k2, k3, _⟩ := row_entry q1 HVV.out
        simp only [Value.slice.injEq, true_and] at hs
        obtain ⟨rfl, rfl⟩ := hs
        rw [o1] at k1
        rw [o2] at k3
        clear q0 q1
        go_wp2_with fail
        refine (rlayval_any _ v.n o3 o4).mono ?_
        rintro e w5 ⟨v5, rfl, hb5, hk5⟩
        have HK5 := Lib.hid (HK4.out.trans hk5 (by simp)); have HB5 := Lib.hid hb5; have HX5 := Lib.hid (HB4.out.keep hk5); have HR5 := Lib.hid (HR4.out.keep0 hk5)
        clear hb5 hk5
        have hsz5 := HK5.out.size
        go_wp2_with (at_builtin; refine wpList_bys rfl (.tmp 49) (.tmp 58) rfl w.heap.size _ _ rfl HX5.out _ _ rfl ⟨_, HB5.out⟩ (by rw [valB_len]; omega) ?c1 hsz5 ?_)
        case c1 => simp only [List.length_append, valB_len]; omega
        intro v6 w6 hb6 hg6
        have HR6 := Lib.hid (HR5.out.keep_row HX5.out (by decide) hg6); have HB6 := Lib.hid hb6; have HK6 := Lib.hid (keeps_row HK5.out HX5.out hg6)
        clear hb6 hg6 HX5 HB5 HR5 HK5 HR4 HB4 HK4
        go_wp2_with fail
        go_roundg (vs.length - (k + 1))
        case measure => omega
        case rel =>
          refine ⟨k + 1, by omega, rfl, by go_num, HR6.out, ?_, HK6.out⟩
          have h9 := HB6.out
          have e9 : entsB (vs.take (k + 1)) = entsB (vs.take k) ++ (textB v.key ++ (numB tm ++ valB v.n)) := by
            rw [HSN.out, entsB_append]
            simp [entsB, entB, htm]
          rw [e9]
          simpa [List.append_assoc] using h9
      · have hke : k = vs.length := by omega
        subst hke
        clear q1 hlt hk
        go_wp2_with fail
        go_ret
        refine ⟨_, rfl, ?_, HKR.out⟩
        have h9 := HBR.out
        rw [List.take_length] at h9
        simpa [tabB] using h9
end Go.Proofs.YthanhccpmonemaaGreatDoor
